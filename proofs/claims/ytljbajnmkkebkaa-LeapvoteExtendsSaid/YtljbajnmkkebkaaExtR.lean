import Derived.Test.YtljbajnmkkebkaaAll13
import Derived.Test.YtljbajnmkkebkaaAll19
/- Extend and Same of ref54 in plain words. No condition but the arguments' kinds. -/
import Derived.Test.YtljbajnmkkebkaaExt
import Derived.Test.YtljbajnmkkebkaaCalR
namespace Go.Proofs.Ytljbajnmkkebkaa.Ext
open Go.RowKit Go.Proofs.Ytljbajnmkkebkaa.All Go.Proofs.Ytljbajnmkkebkaa.Civ Go.Proofs.Ytljbajnmkkebkaa.CivB Go.Proofs.YtljbajnmkkebkaaW.PrintWords Go.Proofs.YtljbajnmkkebkaaW.PrintLast
set_option linter.unusedSimpArgs false
set_option linter.unusedVariables false

theorem first_r (k : Nat) (hk : 2000 ≤ k) (t : Int) : timesyncref54_first.f k t = some (mb t) := by
  unfold timesyncref54_first.f
  rw [rof_k k hk, Option.bind_some]
  by_cases h : -8000000000 ≤ t ∧ t ≤ 8000000000
  · rw [res_in t h]
    dsimp only
    rw [if_pos rfl]
    unfold mb beg
    rw [decide_eq_true h, Bool.true_and]
    refine congrArg some ?_
    rw [Bool.eq_iff_iff]
    simp only [Bool.and_eq_true, beq_iff_eq, decide_eq_true_eq]
    constructor
    · rintro ⟨e1, e2, e3, e4, _⟩
      exact ⟨by omega, e1⟩
    · rintro ⟨e1, e2⟩
      exact ⟨e2, by omega, by omega, by omega, trivial⟩
  · rw [res_out t h]
    unfold mb
    rw [decide_eq_false h]
    rfl
theorem rext_j1 (k : Nat) (hk : 2300 ≤ k) (o b x t c : Int) (l : List E) (hl : l.length ≤ 64) (ht : -8000000000 ≤ t ∧ t ≤ 8000000000) (hc : wrap64 (o + c) = o + c) (hh : l.length < 64 → chk b (mx x (t + 1)) (l ++ [⟨t, o + c⟩]) = 0) : timesyncref54_Extend.j1 (k + 1) (l.length : Int) o false b x l t c = some (if l.length < 64 then (b, mx x (t + 1), l ++ [⟨t, o + c⟩], 0) else (0, 0, [], 6)) := by
  rw [timesyncref54_Extend.j1, if_neg (by decide)]
  by_cases h : l.length < 64
  · rw [if_neg (by omega), if_pos (by simp; omega), if_pos h, Option.bind_some, if_pos (by simp; omega), hc, wz (x := t + 1) (by omega), Option.bind_some, List.nil_append, ref_check k hk, hh h]
    rfl
  · rw [if_pos (by omega), if_neg h]
theorem rext_j1t (k : Nat) (o b x t c : Int) (n : Int) (l : List E) : timesyncref54_Extend.j1 (k + 1) n o true b x l t c = some (0, 0, [], 3) := by
  rw [timesyncref54_Extend.j1, if_pos rfl]
theorem rext_j0 (k : Nat) (hk : 2300 ≤ k) (o b x t c : Int) (l : List E) (ho : -1000 ≤ o ∧ o ≤ 1000) (hl : l.length ≤ 64) (ht : -8000000000 ≤ t ∧ t ≤ 8000000000) (hh : c = 1 ∨ c = -1 → -1000 ≤ o + c ∧ o + c ≤ 1000 → l.length < 64 → chk b (mx x (t + 1)) (l ++ [⟨t, o + c⟩]) = 0) : timesyncref54_Extend.j0 (k + 2) (l.length : Int) o b x l t c = some (finS o b x l t c) := by
  rw [timesyncref54_Extend.j0]
  unfold finS
  have main : c = 1 ∨ c = -1 → (if (wrap64 (o + c)) > 1000 then (timesyncref54_Extend.j1 (k + 1) (l.length : Int) o true b x l t c) else (timesyncref54_Extend.j1 (k + 1) (l.length : Int) o (decide ((wrap64 (o + c)) < (-1000))) b x l t c)) = some (if -1000 ≤ o + c ∧ o + c ≤ 1000 then (if l.length < 64 then (b, mx x (t + 1), l ++ [⟨t, o + c⟩], 0) else (0, 0, [], 6)) else (0, 0, [], 3)) := by
    intro hc
    have hw : wrap64 (o + c) = o + c := wz (by omega)
    rw [hw]
    by_cases h1 : o + c > 1000
    · rw [if_pos h1, rext_j1t, if_neg (by omega)]
    · rw [if_neg h1]
      by_cases h2 : o + c < -1000
      · rw [decide_eq_true h2, rext_j1t, if_neg (by omega)]
      · rw [decide_eq_false h2, rext_j1 k hk o b x t c l hl ht hw (hh hc (by omega)), if_pos (show -1000 ≤ o + c ∧ o + c ≤ 1000 by omega)]
  by_cases h1 : c = 1
  · rw [if_pos h1, if_pos (show c = 1 ∨ c = -1 from .inl h1)]
    exact main (.inl h1)
  · rw [if_neg h1]
    by_cases h2 : c = -1
    · rw [if_pos h2, if_pos (show c = 1 ∨ c = -1 from .inr h2)]
      exact main (.inr h2)
    · rw [if_neg h2, if_neg (show ¬ (c = 1 ∨ c = -1) by omega), rext_j1t]
theorem rext_f (k : Nat) (hk : 2500 ≤ k) (b x t c : Int) (l : List E) : timesyncref54_Extend.f k b x l t c = some (extS b x l t c) := by
  unfold timesyncref54_Extend.f extS
  rw [ref_check k (by omega), Option.bind_some]
  by_cases h : chk b x l = 0
  · rw [if_pos h, if_pos h, first_r k (by omega), Option.bind_some]
    obtain ⟨ho, hl, hx, hb, ha, hs⟩ := oldI_ok h
    by_cases h1 : mb t = true
    · rw [if_pos h1, if_pos h1]
      have ht := (mb_in h1).1
      obtain ⟨q, rfl⟩ : ∃ q, k = q + 2 := ⟨k - 2, by omega⟩
      by_cases h2 : l.length = 0
      · have e1 : prvI l l.length = -9000000000 := by unfold prvI; rw [if_pos h2]
        have e2 : oldI b l l.length = b := by unfold oldI; rw [if_pos h2]
        have h3 : ¬ t ≤ prvI l l.length := by omega
        rw [if_neg (by omega), if_neg h3, rext_j0 q (by omega) b b x t c l hb hl ht (fun hc hr hn => by have := chk_ext h h1 h3 hc (by rw [e2]; exact hr) hn; rw [e2] at this; exact this), e2]
      · have e1 : prvI l l.length = (rdE l ((l.length : Int) - 1)).f0 := by unfold prvI; rw [if_neg h2]
        have e2 : oldI b l l.length = (rdE l ((l.length : Int) - 1)).f1 := by unfold oldI; rw [if_neg h2]
        rw [if_pos (by omega), wz (by omega), if_pos (by omega), if_pos (by omega), ← e1, ← e2]
        by_cases h3 : t ≤ prvI l l.length
        · rw [if_pos h3, if_pos h3]
        · rw [if_neg h3, if_neg h3, rext_j0 q (by omega) _ b x t c l ho hl ht (fun hc hr hn => chk_ext h h1 h3 hc hr hn)]
    · rw [if_neg h1, if_neg h1]
  · rw [if_neg h, if_neg h]
theorem same_l0 (b x : Int) (l : List E) (hl : l.length ≤ 100) : ∀ (m i k : Nat), i + m = l.length → m + 1 ≤ k → timesyncref54_Same.l0 k (i : Int) b x l b x l = some true
  | 0, i, k, hm, hk => by
    obtain ⟨q, rfl⟩ : ∃ q, k = q + 1 := ⟨k - 1, by omega⟩
    rw [timesyncref54_Same.l0, if_neg (by omega)]
  | m + 1, i, k, hm, hk => by
    obtain ⟨q, rfl⟩ : ∃ q, k = q + 1 := ⟨k - 1, by omega⟩
    rw [timesyncref54_Same.l0, if_pos (by omega), if_pos (by omega), if_pos (by omega), if_neg (by simp), wz (by omega), show ((i : Int) + 1) = ((i + 1 : Nat) : Int) by omega]
    exact same_l0 b x l hl m (i + 1) q (by omega) (by omega)
theorem same_f (k : Nat) (hk : 200 ≤ k) (b x : Int) (l : List E) (hl : l.length ≤ 100) : timesyncref54_Same.f k b x l b x l = some true := by
  unfold timesyncref54_Same.f
  obtain ⟨q, rfl⟩ : ∃ q, k = q + 1 := ⟨k - 1, by omega⟩
  rw [if_pos rfl, if_pos rfl, timesyncref54_Same.j0, if_neg (by simp)]
  exact same_l0 b x l hl l.length 0 q (by omega) (by omega)
end Go.Proofs.Ytljbajnmkkebkaa.Ext
