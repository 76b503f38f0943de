import Derived.Test.YtljbajnmkkebkaaAll30
import Derived.Test.YtljbajnmkkebkaaAll3
/- Seconds of ref05 and next of ref54, in plain words. No condition but the arguments' kinds. -/
import Derived.Test.YtljbajnmkkebkaaCalR
namespace Go.Proofs.Ytljbajnmkkebkaa.CivB
open Go.RowKit Go.Proofs.Ytljbajnmkkebkaa.All Go.Proofs.Ytljbajnmkkebkaa.Civ Go.Proofs.YtljbajnmkkebkaaW.PrintWords Go.Proofs.YtljbajnmkkebkaaW.PrintLast
set_option linter.unusedSimpArgs false
set_option linter.unusedVariables false

theorem rcheck_j0 (k : Nat) (b : Bool) (y m d h mi s n : Int) : timesyncref05_Check.j0 (k + 1) b y m d h mi s n = some (if b = false ∧ (0 ≤ h ∧ h ≤ 23) ∧ (0 ≤ mi ∧ mi ≤ 59) ∧ (0 ≤ s ∧ s ≤ 59) ∧ (0 ≤ n ∧ n ≤ 999999999) then 0 else 3) := by
  simp only [timesyncref05_Check.j0]
  cases b
  · rw [if_neg (by decide)]
    by_cases h1 : h < 0
    · rw [if_pos h1, if_neg (by omega)]
    rw [if_neg h1]
    by_cases h2 : h > 23
    · rw [if_pos h2, if_neg (by omega)]
    rw [if_neg h2]
    by_cases h3 : mi < 0
    · rw [if_pos h3, if_neg (by omega)]
    rw [if_neg h3]
    by_cases h4 : mi > 59
    · rw [if_pos h4, if_neg (by omega)]
    rw [if_neg h4]
    by_cases h5 : s < 0
    · rw [if_pos h5, if_neg (by omega)]
    rw [if_neg h5]
    by_cases h6 : s > 59
    · rw [if_pos h6, if_neg (by omega)]
    rw [if_neg h6]
    by_cases h7 : n < 0
    · rw [if_pos h7, if_neg (by omega)]
    rw [if_neg h7]
    by_cases h8 : n > 999999999
    · rw [if_pos h8, if_neg (by omega)]
    rw [if_neg h8, if_pos ⟨rfl, by omega, by omega, by omega, by omega⟩]
  · rw [if_pos rfl, if_neg (fun h => by cases h.1)]
theorem rcheck_f (k : Nat) (hk : 3 ≤ k) (y m d h mi s n : Int) : timesyncref05_Check.f k y m d h mi s n = some (civil_Check.res y m d h mi s n) := by
  obtain ⟨k, rfl⟩ : ∃ n, k = n + 1 := ⟨k - 1, by omega⟩
  rw [check_res]
  unfold timesyncref05_Check.f
  by_cases h1 : y < 1600
  · rw [if_pos h1, rcheck_j0, if_neg (fun g => by cases g.1), if_neg (by omega)]
  rw [if_neg h1]
  by_cases h2 : y > 2200
  · rw [if_pos h2, rcheck_j0, if_neg (fun g => by cases g.1), if_neg (by omega)]
  rw [if_neg h2]
  by_cases h3 : m < 1
  · rw [if_pos h3, rcheck_j0, if_neg (fun g => by cases g.1), if_neg (by omega)]
  rw [if_neg h3]
  by_cases h4 : m > 12
  · rw [if_pos h4, rcheck_j0, if_neg (fun g => by cases g.1), if_neg (by omega)]
  rw [if_neg h4]
  by_cases h5 : d < 1
  · rw [if_pos h5, rcheck_j0, if_neg (fun g => by cases g.1), if_neg (by omega)]
  rw [if_neg h5, rmd_f (k + 1) (by omega), Option.bind_some, rcheck_j0]
  by_cases h6 : d > md y m
  · rw [decide_eq_true h6, if_neg (fun g => by cases g.1), if_neg (by omega)]
  · rw [decide_eq_false h6]
    by_cases h7 : (0 ≤ h ∧ h ≤ 23) ∧ (0 ≤ mi ∧ mi ≤ 59) ∧ (0 ≤ s ∧ s ≤ 59) ∧ (0 ≤ n ∧ n ≤ 999999999)
    · rw [if_pos ⟨rfl, h7⟩, if_pos ⟨by omega, by omega, by omega, h7⟩]
    · rw [if_neg (fun g => h7 g.2), if_neg (fun g => h7 g.2.2.2)]
/-- The reference's second, by its three loops. -/
theorem rsec_l2 (y m d h mi s n : Int) (hy : 1600 ≤ y ∧ y ≤ 2200) (hm : 1 ≤ m ∧ m ≤ 12) (hh : 0 ≤ h ∧ h ≤ 23) (hmi : 0 ≤ mi ∧ mi ≤ 59) (hs : 0 ≤ s ∧ s ≤ 59) : ∀ (e k : Nat) (x q : Int), m = q + e → 1 ≤ q → -1000000 + 31 * (12 - q) ≤ x + 400 → -1000000 ≤ x → x ≤ 1000000 - 31 * (e : Int) → e + 3 < k →
    timesyncref05_Seconds.l2 k x q y m d h mi s n = some (let D := x + (ms y m - ms y q); let S := D * 86400 + h * 3600 + mi * 60 + s; if S < -8000000000 then ((0 : Int), (3 : Int)) else if S > 8000000000 then (0, 3) else (S, 0)) := by
  intro e
  induction e with
  | zero =>
    intro k x q e1 e2 e3 e4 e5 hk
    obtain ⟨k, rfl⟩ : ∃ j, k = j + 1 := ⟨k - 1, by omega⟩
    obtain rfl : m = q := by omega
    simp only [timesyncref05_Seconds.l2]
    rw [if_neg (by omega), wz (x := x * 86400) (by omega), wz (x := h * 3600) (by omega), wz (x := mi * 60) (by omega), wz (x := x * 86400 + h * 3600) (by omega), wz (x := x * 86400 + h * 3600 + mi * 60) (by omega), wz (x := x * 86400 + h * 3600 + mi * 60 + s) (by omega), ifs, Int.sub_self, Int.add_zero]
  | succ e ih =>
    intro k x q e1 e2 e3 e4 e5 hk
    obtain ⟨k, rfl⟩ : ∃ j, k = j + 1 := ⟨k - 1, by omega⟩
    have hb := md_bd y q e2 (by omega)
    have hn := ms_next y q e2 (by omega)
    simp only [timesyncref05_Seconds.l2]
    rw [if_pos (by omega), rmd_f k (by omega), Option.bind_some, wz (x := x + md y q) (by omega), wz (x := q + 1) (by omega), ih k (x + md y q) (q + 1) (by omega) (by omega) (by omega) (by omega) (by omega) (by omega)]
    rw [hn, show x + md y q + (ms y m - (ms y q + md y q)) = x + (ms y m - ms y q) by omega]
theorem rsec_l1 (y m d h mi s n : Int) (k : Nat) (hk : 16 < k) (hy : 1600 ≤ y ∧ y ≤ 2200) (hm : 1 ≤ m ∧ m ≤ 12) (hh : 0 ≤ h ∧ h ≤ 23) (hmi : 0 ≤ mi ∧ mi ≤ 59) (hs : 0 ≤ s ∧ s ≤ 59) : ∀ (e : Nat) (K : Nat) (x q : Int), K = k + e → (1900 = q + e ∨ (1900 ≤ q ∧ e = 0)) → -300000 + 366 * (e : Int) ≤ x → x ≤ 300000 → 1 ≤ K →
    timesyncref05_Seconds.l1 (K + 1) x q y m d h mi s n = some (let D := x + (if q ≤ 1900 then ms q 1 - ms 1900 1 else 0) + (ms y m - ms y 1); let S := D * 86400 + h * 3600 + mi * 60 + s; if S < -8000000000 then ((0 : Int), (3 : Int)) else if S > 8000000000 then (0, 3) else (S, 0)) := by
  intro e
  induction e with
  | zero =>
    intro K x q eK e1 e3 e4 e5
    have e6 : (if q ≤ 1900 then ms q 1 - ms 1900 1 else 0) = 0 := by
      by_cases hq : q = 1900
      · rw [hq]; rfl
      · rw [if_neg (by omega)]
    simp only [timesyncref05_Seconds.l1]
    rw [if_neg (by omega), rsec_l2 y m d h mi s n hy hm hh hmi hs (m - 1).toNat K x 1 (by omega) (by omega) (by omega) (by omega) (by omega) (by omega), e6, Int.add_zero]
  | succ e ih =>
    intro K x q eK e1 e3 e4 e5
    obtain ⟨K, rfl⟩ : ∃ j, K = j + 1 := ⟨K - 1, by omega⟩
    have hb := yd_bd q
    have hn := ms_yd q
    have hq : q + 1 ≤ 1900 := by omega
    rw [timesyncref05_Seconds.l1, if_pos (by omega), ryd_f, Option.bind_some, wz (x := x - yd q) (by omega), wz (x := q + 1) (by omega), ih K (x - yd q) (q + 1) (by omega) (by omega) (by omega) (by omega) (by omega)]
    rw [if_pos hq, if_pos (show q ≤ 1900 by omega), show x - yd q + (ms (q + 1) 1 - ms 1900 1) = x + (ms q 1 - ms 1900 1) by omega]
theorem rsec_l0 (y m d h mi s n : Int) (k : Nat) (hk : 800 < k) (hy : 1600 ≤ y ∧ y ≤ 2200) (hm : 1 ≤ m ∧ m ≤ 12) (hd : 1 ≤ d ∧ d ≤ 31) (hh : 0 ≤ h ∧ h ≤ 23) (hmi : 0 ≤ mi ∧ mi ≤ 59) (hs : 0 ≤ s ∧ s ≤ 59) : ∀ (e : Nat) (K : Nat) (x q : Int), K = k + e → (y = q + e ∨ (y ≤ q ∧ e = 0 ∧ q = 1900)) → -100 ≤ x → x ≤ 150000 - 366 * (e : Int) → 1900 ≤ q →
    timesyncref05_Seconds.l0 (K + 1) x q y m d h mi s n = some (let D := x + (ms y m - ms q 1); let S := D * 86400 + h * 3600 + mi * 60 + s; if S < -8000000000 then ((0 : Int), (3 : Int)) else if S > 8000000000 then (0, 3) else (S, 0)) := by
  intro e
  induction e with
  | zero =>
    intro K x q eK e1 e3 e4 e5
    obtain ⟨K, rfl⟩ : ∃ j, K = j + 1 := ⟨K - 1, by omega⟩
    simp only [timesyncref05_Seconds.l0]
    by_cases hy2 : y < 1900
    · obtain rfl : q = 1900 := by omega
      rw [if_neg (by omega), rsec_l1 y m d h mi s n (K - (1900 - y).toNat) (by omega) hy hm hh hmi hs (1900 - y).toNat K x y (by omega) (by omega) (by omega) (by omega) (by omega)]
      rw [if_pos (show y ≤ 1900 by omega), show x + (ms y 1 - ms 1900 1) + (ms y m - ms y 1) = x + (ms y m - ms 1900 1) by omega]
    · obtain rfl : q = y := by omega
      rw [if_neg (by omega), rsec_l1 q m d h mi s n K (by omega) hy hm hh hmi hs 0 K x q (by omega) (by omega) (by omega) (by omega) (by omega)]
      have e6 : (if q ≤ 1900 then ms q 1 - ms 1900 1 else 0) = 0 := by
        by_cases hq : q = 1900
        · rw [hq]; rfl
        · rw [if_neg (by omega)]
      rw [e6, Int.add_zero]
  | succ e ih =>
    intro K x q eK e1 e3 e4 e5
    obtain ⟨K, rfl⟩ : ∃ j, K = j + 1 := ⟨K - 1, by omega⟩
    have hb := yd_bd q
    have hn := ms_yd q
    rw [timesyncref05_Seconds.l0, if_pos (by omega), ryd_f, Option.bind_some, wz (x := x + yd q) (by omega), wz (x := q + 1) (by omega), ih K (x + yd q) (q + 1) (by omega) (by omega) (by omega) (by omega) (by omega)]
    rw [show x + yd q + (ms y m - ms (q + 1) 1) = x + (ms y m - ms q 1) by omega]
theorem rseconds_f (y m d h mi s n : Int) : timesyncref05_Seconds.f 2000 y m d h mi s n = some (secres y m d h mi s n) := by
  unfold timesyncref05_Seconds.f secres
  rw [rcheck_f 2000 (by omega), Option.bind_some]
  by_cases e : civil_Check.res y m d h mi s n = 0
  · rw [if_pos e, if_pos e]
    obtain ⟨h1, h2, h3, h4, h5, h6, h7⟩ := res_fields e
    have hd := md_bd y m h2.1 h2.2
    rw [wz (x := d - 1) (by omega), rsec_l0 y m d h mi s n (1999 - (y - 1900).toNat) (by omega) h1 h2 (by omega) h4 h5 h6 (y - 1900).toNat 1999 (d - 1) 1900 (by omega) (by omega) (by omega) (by omega) (by omega)]
    unfold sec dn
    rw [ms_1900, Int.sub_zero, show d - 1 + ms y m = ms y m + d - 1 by omega]
  · rw [if_neg e, if_neg e]
theorem next_r (u : Int) : timesyncref54_next.f 2000 u = leap_month.f u 1 := by
  unfold timesyncref54_next.f leap_month.f
  rw [rof_f, of_f, Option.bind_some, Option.bind_some]
  by_cases h : -8000000000 ≤ u ∧ u ≤ 8000000000
  · rw [res_in u h]
    dsimp only
    have hd := of_date (u / 86400)
    have m1 := hd.m1
    have m2 := hd.m2
    have hw : wrap64 (om (u / 86400) + 1) = om (u / 86400) + 1 := wz (by omega)
    rw [if_pos rfl, if_pos rfl, hw]
    by_cases h1 : om (u / 86400) + 1 > 12
    · rw [if_pos h1, if_pos (by omega), rseconds_f, seconds_f]
    · rw [if_neg h1, if_neg (by omega), rseconds_f, seconds_f]
  · have e : civil_Of.res u = (0, 0, 0, 0, 0, 0, 0, 3) := by
      unfold civil_Of.res
      rw [if_pos (by omega)]
    rw [e]
    dsimp only
    rw [if_neg (by decide), if_neg (by decide)]
end Go.Proofs.Ytljbajnmkkebkaa.CivB
