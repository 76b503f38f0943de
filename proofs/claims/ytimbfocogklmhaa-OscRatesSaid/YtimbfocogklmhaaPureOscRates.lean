/- The plain law of OscRates: the program's and the reference's Rate and Bound answer alike at every oscillator and time. No condition beyond the arguments' kinds. -/
import Derived.Test.YtimbfocogklmhaaAll8
import Derived.Test.YtimbfocogklmhaaOscB2
namespace Go.Proofs.Ytimbfocogklmhaa.Pure
open Go.RowKit Go.Proofs.Ytimbfocogklmhaa.All Go.Proofs.Ytimbfocogklmhaa.Row Go.Proofs.Ytimbfocogklmhaa.OscM Go.Proofs.Ytimbfocogklmhaa.OscB Go.Proofs.YtimbfocogklmhaaW.PrintWords Go.Proofs.YtimbfocogklmhaaW.PrintLast

theorem OscRates : ∀ (a0_0 : Int) (l0_1 : List S32) (a1 : Int), I64 a0_0 → l0_1.length ≤ 9223372036854775807 → (∀ z ∈ l0_1, I64 z.f0 ∧ I64 z.f1) → I64 a1 → ∃ k, timesynclaw09_OscRates.f k a0_0 l0_1 a1 = some true := by
  intro ph l t _ _ _ _
  refine ⟨100, ?_⟩
  unfold timesynclaw09_OscRates.f
  rw [rate_f l ph t 100 (by omega), Option.bind_some, rrate_f l ph t 100 (by omega), Option.bind_some, if_pos rfl, bound_f l ph 100 (by omega), Option.bind_some, rbound_f l ph 100 (by omega), Option.bind_some, if_pos rfl, awake_f 100 (by omega), Option.bind_some]

end Go.Proofs.Ytimbfocogklmhaa.Pure
