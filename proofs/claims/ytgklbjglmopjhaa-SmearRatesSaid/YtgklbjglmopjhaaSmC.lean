/- The check of a table and a policy: the reference's answer is the program's. No condition but the arguments' kinds. -/
import Derived.Test.YtgklbjglmopjhaaAll7
import Derived.Test.YtgklbjglmopjhaaSm
import Derived.Test.YtgklbjglmopjhaaCalR
namespace Go.Proofs.Ytgklbjglmopjhaa.Sm
open Go.RowKit Go.Proofs.Ytgklbjglmopjhaa.All Go.Proofs.Ytgklbjglmopjhaa.Civ Go.Proofs.Ytgklbjglmopjhaa.CivB Go.Proofs.YtgklbjglmopjhaaW.PrintWords Go.Proofs.YtgklbjglmopjhaaW.PrintLast

theorem rcheck_s (k : Nat) (hk : 2302 ≤ k) (b x : Int) (l : List E) (K W : Int) : timesyncref07_Check.f k b x l K W = some (chkS b x l K W) := by
  unfold timesyncref07_Check.f chkS
  obtain ⟨k, rfl⟩ : ∃ q, k = q + 2 := ⟨k - 2, by omega⟩
  rw [ref_check (k + 2) (by omega), Option.bind_some]
  by_cases h : chk b x l = 0
  · rw [if_pos h, if_pos h]
    have j1 : ∀ z : Bool, timesyncref07_Check.j1 (k + 1) z K W = some (if z = true then 3 else if K = 1 then 0 else (if 2 ≤ W ∧ W ≤ 172800 ∧ W % 2 = 0 then 0 else 3)) := by
      intro z
      rw [timesyncref07_Check.j1]
      cases z
      · rw [if_neg (show ¬ false = true by decide), if_neg (show ¬ false = true by decide)]
        by_cases h0 : K = 1
        · rw [if_pos h0, if_pos h0]
        · rw [if_neg h0, if_neg h0]
          by_cases h1 : W < 2
          · rw [if_pos h1, if_neg (by omega)]
          · rw [if_neg h1]
            by_cases h2 : W > 172800
            · rw [if_pos h2, if_neg (by omega)]
            · rw [if_neg h2, Int.tmod_eq_emod_of_nonneg (show 0 ≤ W by omega)]
              by_cases h3 : W % 2 = 0
              · rw [if_pos h3, if_pos (by omega)]
              · rw [if_neg h3, if_neg (by omega)]
      · rfl
    have j0 : ∀ z : Bool, timesyncref07_Check.j0 (k + 2) z K W = some (if z = true then 8 else if K = 1 then (if W = 0 then 0 else 3) else (if 2 ≤ W ∧ W ≤ 172800 ∧ W % 2 = 0 then 0 else 3)) := by
      intro z
      rw [timesyncref07_Check.j0]
      cases z
      · rw [if_neg (show ¬ false = true by decide), if_neg (show ¬ false = true by decide), j1, j1]
        by_cases h0 : K = 1
        · rw [if_pos h0, if_pos h0, if_pos h0]
          by_cases h1 : W = 0
          · rw [if_pos h1, if_neg (by simp [h1])]
          · rw [if_neg h1, if_pos (by simpa using h1)]
        · rw [if_neg h0, if_neg h0, if_neg (show ¬ false = true by decide), if_neg h0]
      · rfl
    rw [j0, j0]
    by_cases h1 : K < 1
    · rw [if_pos h1, if_pos (show true = true from rfl), if_neg (show ¬ K = 1 by omega), if_neg (show ¬ (2 ≤ K ∧ K ≤ 4) by omega)]
    · rw [if_neg h1]
      by_cases h2 : K > 4
      · rw [decide_eq_true h2, if_pos (show true = true from rfl), if_neg (show ¬ K = 1 by omega), if_neg (show ¬ (2 ≤ K ∧ K ≤ 4) by omega)]
      · rw [decide_eq_false h2, if_neg (show ¬ false = true by decide)]
        by_cases h3 : K = 1
        · rw [if_pos h3, if_pos h3]
        · rw [if_neg h3, if_neg h3, if_pos (show 2 ≤ K ∧ K ≤ 4 by omega)]
  · rw [if_neg h, if_neg h]
end Go.Proofs.Ytgklbjglmopjhaa.Sm
