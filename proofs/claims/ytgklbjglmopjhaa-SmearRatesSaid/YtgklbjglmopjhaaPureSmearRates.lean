/- The plain law of SmearRates. No condition beyond the arguments' kinds. -/
import Derived.Test.YtgklbjglmopjhaaAll14
import Derived.Test.YtgklbjglmopjhaaSmR
import Derived.Test.YtgklbjglmopjhaaRow
namespace Go.Proofs.Ytgklbjglmopjhaa.Pure
open Go.RowKit Go.Proofs.Ytgklbjglmopjhaa.All Go.Proofs.Ytgklbjglmopjhaa.Row Go.Proofs.Ytgklbjglmopjhaa.CivB Go.Proofs.Ytgklbjglmopjhaa.Sm Go.Proofs.YtgklbjglmopjhaaW.PrintWords Go.Proofs.YtgklbjglmopjhaaW.PrintLast

theorem SmearRates : ∀ (a0_0 : Int) (a0_1 : Int) (l0_2 : List (S40)) (a1_0 : Int) (a1_1 : Int) (a2 : Int), I64 a0_0 → I64 a0_1 → l0_2.length ≤ 9223372036854775807 → (∀ z ∈ l0_2, I64 z.f0 ∧ I64 z.f1) → I64 a1_0 → I64 a1_1 → I64 a2 → ∃ k, timesynclaw07_SmearRates.f k a0_0 a0_1 l0_2 a1_0 a1_1 a2 = some true := by
  intro a0_0 a0_1 l0_2 a1_0 a1_1 a2 _ _ _ _ _ _ _
  refine ⟨2400, ?_⟩
  unfold timesynclaw07_SmearRates.f timesynclaw07_small.f
  rw [Option.bind_some]
  by_cases h : (l0_2.length : Int) ≤ 80
  · rw [decide_eq_true h, if_pos rfl, active_s 2400 (by omega), Option.bind_some, ractive_s 2400 (by omega), Option.bind_some, if_pos (by simp), rate_s 2400 (by omega), Option.bind_some, rrate_s 2400 (by omega), Option.bind_some, if_pos rfl]
    rfl
  · rw [decide_eq_false h, if_neg (by decide)]

end Go.Proofs.Ytgklbjglmopjhaa.Pure
