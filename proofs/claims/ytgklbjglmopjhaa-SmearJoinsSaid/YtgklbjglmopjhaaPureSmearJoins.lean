/- The plain law of SmearJoins. No condition beyond the arguments' kinds. -/
import Derived.Test.YtgklbjglmopjhaaAll16
import Derived.Test.YtgklbjglmopjhaaAll9
import Derived.Test.YtgklbjglmopjhaaSmM
import Derived.Test.YtgklbjglmopjhaaSmW
import Derived.Test.YtgklbjglmopjhaaRow
namespace Go.Proofs.Ytgklbjglmopjhaa.Pure
open Go.RowKit Go.Proofs.Ytgklbjglmopjhaa.All Go.Proofs.Ytgklbjglmopjhaa.Row Go.Proofs.Ytgklbjglmopjhaa.CivB Go.Proofs.Ytgklbjglmopjhaa.Sm Go.Proofs.YtgklbjglmopjhaaW.PrintWords Go.Proofs.YtgklbjglmopjhaaW.PrintLast

theorem rate_ne (b x : Int) (l : List E) (K W t : Int) (h : (winS b x l K W t).2.2.2.2 = true) : rateS b x l K W t ≠ 0 := by
  obtain ⟨hp, ht, he⟩ := win_pol h
  unfold rateS
  rw [if_pos h]
  rw [he] at h ⊢
  have hW2 := hp.win
  obtain ⟨q, hq, e, g1, g2⟩ := WP_in t W _ (pts_ok K W hp.win l b _ hp.tab.base hp.tab.all hp.tab.chain) h
  obtain ⟨q0, q1, q2, q3⟩ := pts_ok K W hp.win l b _ hp.tab.base hp.tab.all hp.tab.chain q hq
  rw [e]
  dsimp only
  have hW : 0 < W := by omega
  rcases q3 with s | s
  · rw [show (q.f2 - q.f3) * 1000000000 = -1000000000 by omega]
    have := Int.ediv_lt_of_lt_mul (a := -1000000000) (b := 0) (c := W) hW (by omega)
    omega
  · rw [show (q.f2 - q.f3) * 1000000000 = 1000000000 by omega]
    have := Int.le_ediv_of_mul_le (a := 1) (b := 1000000000) (c := W) hW (by omega)
    omega
theorem SmearJoins : ∀ (a0_0 : Int) (a0_1 : Int) (l0_2 : List (S40)) (a1_0 : Int) (a1_1 : Int) (a2 : Int), I64 a0_0 → I64 a0_1 → l0_2.length ≤ 9223372036854775807 → (∀ z ∈ l0_2, I64 z.f0 ∧ I64 z.f1) → I64 a1_0 → I64 a1_1 → I64 a2 → ∃ k, timesynclaw07_SmearJoins.f k a0_0 a0_1 l0_2 a1_0 a1_1 a2 = some true := by
  intro b x l K W t _ _ _ _ _ _ _
  refine ⟨2400, ?_⟩
  have jt : timesynclaw07_SmearJoins.j0 2400 t true b x l K W = some true := rfl
  unfold timesynclaw07_SmearJoins.f timesynclaw07_small.f
  rw [Option.bind_some]
  by_cases h : (l.length : Int) ≤ 80
  · rw [decide_eq_true h, if_pos rfl]
    by_cases h1 : K = 1
    · rw [if_pos h1, jt]
    · rw [if_neg h1, check_s 2400 (by omega), Option.bind_some]
      by_cases h2 : chkS b x l K W = 0
      · have hz : (chkS b x l K W != 0) = false := by simp [h2]
        have hp := chkS_0 b x l K W h2
        have hW : 2 ≤ W ∧ W ≤ 172800 := by rcases hp.kind with g | g <;> omega
        have hj := joins K W hW t l b _ hp.tab.chain
        have j1t : ∀ u v : Int, timesynclaw07_SmearJoins.j1 2399 t u v true b x l K W = some true := fun u v => rfl
        rw [hz, timesynclaw07_SmearJoins.j0, if_neg (by decide), read_s 2399 (by omega), Option.bind_some, read_s 2399 (by omega), Option.bind_some]
        by_cases h3 : (readS b x l K W t).2 = 0
        · rw [if_pos h3]
          by_cases h4 : (readS b x l 1 0 t).2 = 0
          · obtain ⟨_, ht, _, e1⟩ := readS_ok h3
            obtain ⟨_, _, _, e2⟩ := readS_ok h4
            rw [e1, e2, timesynclaw07_SmearJoins.j1, if_neg (by simp), active_s 2398 (by omega), Option.bind_some]
            dsimp only
            have ew : winS b x l K W t = WP t (pts K W b l) := by unfold winS; rw [if_pos h2, if_pos ht]
            by_cases h5 : (winS b x l K W t).2.2.2.2 = true
            · rw [if_pos h5, wz (by omega), if_pos hj.2.1, if_pos hj.2.2, rate_s 2398 (by omega), Option.bind_some, if_neg (rate_ne b x l K W t h5)]
              rfl
            · rw [if_neg h5, if_pos (hj.1 (by rw [← ew]; simpa using h5))]
              rfl
          · have hz2 : ((readS b x l 1 0 t).2 != 0) = true := by simpa using h4
            rw [hz2, j1t]
        · rw [if_neg h3, j1t]
      · have hz : (chkS b x l K W != 0) = true := by simpa using h2
        rw [hz, jt]
  · rw [decide_eq_false h, if_neg (by decide), jt]

end Go.Proofs.Ytgklbjglmopjhaa.Pure
