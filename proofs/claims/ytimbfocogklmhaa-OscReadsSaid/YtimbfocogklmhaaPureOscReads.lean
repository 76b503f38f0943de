/- The plain law of OscReads: the program's and the reference's Check and Read answer alike at every oscillator and time. No condition beyond the arguments' kinds. -/
import Derived.Test.YtimbfocogklmhaaAll5
import Derived.Test.YtimbfocogklmhaaOscBr
namespace Go.Proofs.Ytimbfocogklmhaa.Pure
open Go.RowKit Go.Proofs.Ytimbfocogklmhaa.All Go.Proofs.Ytimbfocogklmhaa.Row Go.Proofs.Ytimbfocogklmhaa.OscM Go.Proofs.Ytimbfocogklmhaa.OscB Go.Proofs.YtimbfocogklmhaaW.PrintWords Go.Proofs.YtimbfocogklmhaaW.PrintLast

theorem OscReads : ∀ (a0_0 : Int) (l0_1 : List S32) (a1 : Int), I64 a0_0 → l0_1.length ≤ 9223372036854775807 → (∀ z ∈ l0_1, I64 z.f0 ∧ I64 z.f1) → I64 a1 → ∃ k, timesynclaw09_OscReads.f k a0_0 l0_1 a1 = some true := by
  intro ph l t _ _ _ _
  refine ⟨100, ?_⟩
  unfold timesynclaw09_OscReads.f
  rw [Read_f l ph t 100 (by omega), Option.bind_some, RRead_f l ph t 100 (by omega), Option.bind_some, check_f l ph 100 (by omega), Option.bind_some, rcheck_f l ph 100 (by omega), Option.bind_some, if_pos rfl, if_pos rfl, if_pos rfl, awake_f 100 (by omega), Option.bind_some]

end Go.Proofs.Ytimbfocogklmhaa.Pure
