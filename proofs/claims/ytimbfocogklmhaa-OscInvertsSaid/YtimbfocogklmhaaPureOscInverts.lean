/- The plain law of OscInverts: the program's and the reference's When answer alike at every oscillator and reading. No condition beyond the arguments' kinds. -/
import Derived.Test.YtimbfocogklmhaaAll9
import Derived.Test.YtimbfocogklmhaaOscB3
namespace Go.Proofs.Ytimbfocogklmhaa.Pure
open Go.RowKit Go.Proofs.Ytimbfocogklmhaa.All Go.Proofs.Ytimbfocogklmhaa.Row Go.Proofs.Ytimbfocogklmhaa.OscM Go.Proofs.Ytimbfocogklmhaa.OscB Go.Proofs.YtimbfocogklmhaaW.PrintWords Go.Proofs.YtimbfocogklmhaaW.PrintLast

theorem OscInverts : ∀ (a0_0 : Int) (l0_1 : List S32) (a1 : Int), I64 a0_0 → l0_1.length ≤ 9223372036854775807 → (∀ z ∈ l0_1, I64 z.f0 ∧ I64 z.f1) → I64 a1 → ∃ k, timesynclaw09_OscInverts.f k a0_0 l0_1 a1 = some true := by
  intro ph l r _ _ _ _
  refine ⟨200, ?_⟩
  unfold timesynclaw09_OscInverts.f
  by_cases hc : check (sa l) (sp l) l.length ph = 0
  · have v := valid_of hc
    obtain ⟨t, e, h⟩ := When_ex v r 200 (by omega)
    obtain ⟨t', e', h'⟩ := RWhen_ex v r 200 (by omega)
    obtain rfl := h.one h'
    rw [e, Option.bind_some, e', Option.bind_some, if_pos rfl, if_pos rfl, awake_f 200 (by omega), Option.bind_some]
  · rw [When_no hc r 200 (by omega), Option.bind_some, RWhen_no hc r 200 (by omega), Option.bind_some, if_pos rfl, if_pos rfl, awake_f 200 (by omega), Option.bind_some]

end Go.Proofs.Ytimbfocogklmhaa.Pure
