/- The plain law of SmearReturns. No condition beyond the arguments' kinds. -/
import Derived.Test.YtgklbjglmopjhaaAll15
import Derived.Test.YtgklbjglmopjhaaAll9
import Derived.Test.YtgklbjglmopjhaaSmT
import Derived.Test.YtgklbjglmopjhaaRow
namespace Go.Proofs.Ytgklbjglmopjhaa.Pure
open Go.RowKit Go.Proofs.Ytgklbjglmopjhaa.All Go.Proofs.Ytgklbjglmopjhaa.Row Go.Proofs.Ytgklbjglmopjhaa.CivB Go.Proofs.Ytgklbjglmopjhaa.Sm Go.Proofs.YtgklbjglmopjhaaW.PrintWords Go.Proofs.YtgklbjglmopjhaaW.PrintLast

theorem SmearReturns : ∀ (a0_0 : Int) (a0_1 : Int) (l0_2 : List (S40)) (a1_0 : Int) (a1_1 : Int) (a2 : Int), I64 a0_0 → I64 a0_1 → l0_2.length ≤ 9223372036854775807 → (∀ z ∈ l0_2, I64 z.f0 ∧ I64 z.f1) → I64 a1_0 → I64 a1_1 → I64 a2 → ∃ k, timesynclaw07_SmearReturns.f k a0_0 a0_1 l0_2 a1_0 a1_1 a2 = some true := by
  intro b x l K W t _ _ _ _ _ _ _
  refine ⟨2400, ?_⟩
  unfold timesynclaw07_SmearReturns.f timesynclaw07_small.f
  rw [Option.bind_some]
  by_cases h : (l.length : Int) ≤ 80
  · rw [decide_eq_true h, if_pos rfl, read_s 2400 (by omega), Option.bind_some]
    by_cases h2 : (readS b x l K W t).2 = 0
    · obtain ⟨hp, ht, hu, e⟩ := readS_ok h2
      have hc : chkS b x l K W = 0 := by
        unfold readS at h2
        by_cases g : chkS b x l K W = 0
        · exact g
        · rw [if_neg g] at h2
          exact h2
      obtain ⟨n, e1, n1, n2, n3⟩ := tai_ok 2400 (by omega) b x K W t l hc ht hu
      have e2 : readS b x l K W n = (RP t b W (pts K W b l), 0) := by
        unfold readS
        rw [if_pos hc, if_pos (by omega), n3, if_pos hu]
      rw [if_pos h2, e]
      dsimp only
      rw [e1, Option.bind_some]
      dsimp only
      rw [read_s 2400 (by omega), Option.bind_some, e2, if_pos rfl]
      dsimp only
      rw [if_pos rfl, if_pos rfl, if_pos n1]
      rfl
    · rw [if_neg h2]
      rfl
  · rw [decide_eq_false h, if_neg (by decide)]
    rfl

end Go.Proofs.Ytgklbjglmopjhaa.Pure
