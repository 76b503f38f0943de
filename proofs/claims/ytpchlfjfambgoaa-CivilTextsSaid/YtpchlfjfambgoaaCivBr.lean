/- What the printed functions of the calendar answer, in the words of CivMath. No condition but the arguments' kinds. -/
import Derived.Test.YtpchlfjfambgoaaAll4
import Derived.Test.YtpchlfjfambgoaaAll2
import Derived.Test.YtpchlfjfambgoaaAll12
import Derived.Test.YtpchlfjfambgoaaAll5
import Derived.Test.YtpchlfjfambgoaaAll3
import Derived.Test.YtpchlfjfambgoaaAll6
import Derived.Test.YtpchlfjfambgoaaAll15
import Derived.Test.YtpchlfjfambgoaaAll14
import Derived.Test.YtpchlfjfambgoaaCivMath
namespace Go.Proofs.Ytpchlfjfambgoaa.CivB
open Go.RowKit Go.Proofs.Ytpchlfjfambgoaa.All Go.Proofs.Ytpchlfjfambgoaa.Civ Go.Proofs.YtpchlfjfambgoaaW.PrintWords Go.Proofs.YtpchlfjfambgoaaW.PrintLast

theorem wz {x : Int} (h : -9223372036854775808 ≤ x ∧ x ≤ 9223372036854775807) : wrap64 x = x := by
  unfold wrap64
  omega
theorem tm0 (y n : Int) : Int.tmod y n = 0 ↔ y % n = 0 :=
  ⟨fun h => Int.emod_eq_zero_of_dvd (Int.dvd_of_tmod_eq_zero h), fun h => Int.tmod_eq_zero_of_dvd (Int.dvd_of_emod_eq_zero h)⟩
theorem leap_f (y : Int) : timesyncref05_isLeap.f y = some (decide (Leap y)) := by
  unfold timesyncref05_isLeap.f Leap
  by_cases h4 : y % 4 = 0
  · rw [if_pos ((tm0 y 4).2 h4)]
    by_cases h1 : y % 100 = 0
    · rw [if_pos ((tm0 y 100).2 h1)]
      by_cases h2 : y % 400 = 0
      · rw [(tm0 y 400).2 h2]
        simp [h4, h2]
      · have h3 : ¬ Int.tmod y 400 = 0 := fun h => h2 ((tm0 y 400).1 h)
        simp [h4, h1, h2, h3]
    · rw [if_neg (fun h => h1 ((tm0 y 100).1 h))]
      simp [h4, h1]
  · rw [if_neg (fun h => h4 ((tm0 y 4).1 h))]
    simp [h4]
theorem lp_eq (y : Int) : civil_MonthDays.lp y = decide (Leap y) := by
  unfold civil_MonthDays.lp Leap
  by_cases h4 : y % 4 = 0 <;> by_cases h1 : y % 100 = 0 <;> by_cases h2 : y % 400 = 0 <;> simp [tm0, h4, h1, h2]
theorem mdv (y m : Int) : civil_MonthDays.v y m = md y m := by
  unfold civil_MonthDays.v md
  rw [lp_eq]
  by_cases h : Leap y <;> simp [h]
theorem md_f (y m : Int) : civil_MonthDays.f y m = some (md y m) := by unfold civil_MonthDays.f; rw [mdv]
theorem ryd_f (y : Int) : timesyncref05_yearDays.f y = some (yd y) := by
  unfold timesyncref05_yearDays.f yd
  rw [leap_f, Option.bind_some]
  by_cases h : Leap y <;> simp [h]
theorem rmd_j1 (k : Nat) (y m : Int) : timesyncref05_MonthDays.j1 (k + 1) y m true = some 30 := by simp [timesyncref05_MonthDays.j1]
theorem rmd_j0 (k : Nat) (y m : Int) : timesyncref05_MonthDays.j0 (k + 1) y m true = some 31 := by simp [timesyncref05_MonthDays.j0]
theorem rmd_f (k : Nat) (hk : 2 ≤ k) (y m : Int) : timesyncref05_MonthDays.f k y m = some (md y m) := by
  obtain ⟨k, rfl⟩ : ∃ n, k = n + 2 := ⟨k - 2, by omega⟩
  by_cases h : 1 ≤ m ∧ m ≤ 12
  · obtain rfl | rfl | rfl | rfl | rfl | rfl | rfl | rfl | rfl | rfl | rfl | rfl : m = 1 ∨ m = 2 ∨ m = 3 ∨ m = 4 ∨ m = 5 ∨ m = 6 ∨ m = 7 ∨ m = 8 ∨ m = 9 ∨ m = 10 ∨ m = 11 ∨ m = 12 := by omega
    case inr.inl =>
      by_cases hl : Leap y <;> simp [timesyncref05_MonthDays.f, timesyncref05_MonthDays.j0, timesyncref05_MonthDays.j1, md, leap_f, hl]
    all_goals simp [timesyncref05_MonthDays.f, timesyncref05_MonthDays.j0, timesyncref05_MonthDays.j1, md]
  · have e : md y m = 0 := by
      unfold md
      by_cases h1 : m < 1
      · rw [if_pos h1]
      · rw [if_neg h1, if_pos (by omega)]
    have g : m ≠ 1 ∧ m ≠ 2 ∧ m ≠ 3 ∧ m ≠ 4 ∧ m ≠ 5 ∧ m ≠ 6 ∧ m ≠ 7 ∧ m ≠ 8 ∧ m ≠ 9 ∧ m ≠ 10 ∧ m ≠ 11 ∧ m ≠ 12 := by omega
    obtain ⟨g1, g2, g3, g4, g5, g6, g7, g8, g9, g10, g11, g12⟩ := g
    rw [e]
    simp [timesyncref05_MonthDays.f, timesyncref05_MonthDays.j0, timesyncref05_MonthDays.j1, g1, g2, g3, g4, g5, g6, g7, g8, g9, g10, g11, g12]
theorem bad_iff (y m d h mi s n : Int) : civil_Check.bad y m d h mi s n = false ↔ (1600 ≤ y ∧ y ≤ 2200) ∧ (1 ≤ m ∧ m ≤ 12) ∧ (1 ≤ d ∧ d ≤ md y m) ∧ (0 ≤ h ∧ h ≤ 23) ∧ (0 ≤ mi ∧ mi ≤ 59) ∧ (0 ≤ s ∧ s ≤ 59) ∧ (0 ≤ n ∧ n ≤ 999999999) := by
  unfold civil_Check.bad civil_Check.far
  rw [mdv]
  simp only [Bool.or_eq_false_iff, Bool.not_eq_false', decide_eq_true_eq]
theorem rcheck_j0 (k : Nat) (b : Bool) (y m d h mi s n : Int) : timesyncref05_Check.j0 (k + 1) b y m d h mi s n = some (if b = false ∧ (0 ≤ h ∧ h ≤ 23) ∧ (0 ≤ mi ∧ mi ≤ 59) ∧ (0 ≤ s ∧ s ≤ 59) ∧ (0 ≤ n ∧ n ≤ 999999999) then 0 else 3) := by
  simp only [timesyncref05_Check.j0]
  cases b
  · rw [if_neg (by decide)]
    by_cases h1 : h < 0
    · rw [if_pos h1, if_neg (by omega)]
    rw [if_neg h1]
    by_cases h2 : h > 23
    · rw [if_pos h2, if_neg (by omega)]
    rw [if_neg h2]
    by_cases h3 : mi < 0
    · rw [if_pos h3, if_neg (by omega)]
    rw [if_neg h3]
    by_cases h4 : mi > 59
    · rw [if_pos h4, if_neg (by omega)]
    rw [if_neg h4]
    by_cases h5 : s < 0
    · rw [if_pos h5, if_neg (by omega)]
    rw [if_neg h5]
    by_cases h6 : s > 59
    · rw [if_pos h6, if_neg (by omega)]
    rw [if_neg h6]
    by_cases h7 : n < 0
    · rw [if_pos h7, if_neg (by omega)]
    rw [if_neg h7]
    by_cases h8 : n > 999999999
    · rw [if_pos h8, if_neg (by omega)]
    rw [if_neg h8, if_pos ⟨rfl, by omega, by omega, by omega, by omega⟩]
  · rw [if_pos rfl, if_neg (fun h => by cases h.1)]
theorem check_res (y m d h mi s n : Int) : civil_Check.res y m d h mi s n = (if (1600 ≤ y ∧ y ≤ 2200) ∧ (1 ≤ m ∧ m ≤ 12) ∧ (1 ≤ d ∧ d ≤ md y m) ∧ (0 ≤ h ∧ h ≤ 23) ∧ (0 ≤ mi ∧ mi ≤ 59) ∧ (0 ≤ s ∧ s ≤ 59) ∧ (0 ≤ n ∧ n ≤ 999999999) then 0 else 3) := by
  unfold civil_Check.res
  have hb := bad_iff y m d h mi s n
  cases e : civil_Check.bad y m d h mi s n
  · rw [if_neg (by decide), if_pos (hb.1 e)]
  · rw [if_pos rfl, if_neg (fun g => by rw [hb.2 g] at e; cases e)]
theorem rcheck_f (k : Nat) (hk : 3 ≤ k) (y m d h mi s n : Int) : timesyncref05_Check.f k y m d h mi s n = some (civil_Check.res y m d h mi s n) := by
  obtain ⟨k, rfl⟩ : ∃ n, k = n + 1 := ⟨k - 1, by omega⟩
  rw [check_res]
  unfold timesyncref05_Check.f
  by_cases h1 : y < 1600
  · rw [if_pos h1, rcheck_j0, if_neg (fun g => by cases g.1), if_neg (by omega)]
  rw [if_neg h1]
  by_cases h2 : y > 2200
  · rw [if_pos h2, rcheck_j0, if_neg (fun g => by cases g.1), if_neg (by omega)]
  rw [if_neg h2]
  by_cases h3 : m < 1
  · rw [if_pos h3, rcheck_j0, if_neg (fun g => by cases g.1), if_neg (by omega)]
  rw [if_neg h3]
  by_cases h4 : m > 12
  · rw [if_pos h4, rcheck_j0, if_neg (fun g => by cases g.1), if_neg (by omega)]
  rw [if_neg h4]
  by_cases h5 : d < 1
  · rw [if_pos h5, rcheck_j0, if_neg (fun g => by cases g.1), if_neg (by omega)]
  rw [if_neg h5, rmd_f (k + 1) (by omega), Option.bind_some, rcheck_j0]
  by_cases h6 : d > md y m
  · rw [decide_eq_true h6, if_neg (fun g => by cases g.1), if_neg (by omega)]
  · rw [decide_eq_false h6]
    by_cases h7 : (0 ≤ h ∧ h ≤ 23) ∧ (0 ≤ mi ∧ mi ≤ 59) ∧ (0 ≤ s ∧ s ≤ 59) ∧ (0 ≤ n ∧ n ≤ 999999999)
    · rw [if_pos ⟨rfl, h7⟩, if_pos ⟨by omega, by omega, by omega, h7⟩]
    · rw [if_neg (fun g => h7 g.2), if_neg (fun g => h7 g.2.2.2)]

/-- The day of a second. -/
theorem day_f (s : Int) (h : -9223372036854775808 ≤ s ∧ s ≤ 9223372036854775807) : civil_dayOf.f s = some (s / 86400) := by
  unfold civil_dayOf.f fixed_Floor.f fixed_divides.f
  rw [if_neg (by omega), if_neg (by omega), Option.bind_some, if_pos rfl, if_neg (by omega)]
  have e := Int.mul_tdiv_add_tmod s 86400
  have c2 : decide ((86400 : Int) < 0) = false := rfl
  rw [c2]
  by_cases h0 : s < 0
  · have e2 : Int.tdiv s 86400 = -((-s) / 86400) := by
      rw [← Int.tdiv_eq_ediv_of_nonneg (show 0 ≤ -s by omega), Int.neg_tdiv, Int.neg_neg]
    have e3 : Int.tmod s 86400 = s - 86400 * Int.tdiv s 86400 := by omega
    by_cases h1 : Int.tmod s 86400 = 0
    · rw [if_pos h1, Option.bind_some, wz (by omega)]
      congr 1
      simp only
      omega
    · rw [if_neg h1, decide_eq_true h0, if_pos (show (true != false) = true from rfl), Option.bind_some, wz (x := Int.tdiv s 86400) (by omega), wz (by omega)]
      congr 1
      simp only
      omega
  · have e2 : Int.tdiv s 86400 = s / 86400 := Int.tdiv_eq_ediv_of_nonneg (by omega)
    rw [e2, decide_eq_false h0, wz (by omega)]
    by_cases h1 : Int.tmod s 86400 = 0
    · rw [if_pos h1, Option.bind_some]
    · rw [if_neg h1, if_neg (by decide), Option.bind_some]
theorem rday_f (s : Int) (h : -9223372036854775808 ≤ s ∧ s ≤ 9223372036854775807) : timesyncref05_dayOf.f s = some (s / 86400) := by
  unfold timesyncref05_dayOf.f timesyncref01_Floor.f timesyncref01_MulDiv.f
  rw [if_pos (by omega)]
  rfl
/-- The seconds of a civil time. -/
def sec (y m d h mi s : Int) : Int := dn y m d * 86400 + h * 3600 + mi * 60 + s
def secres (y m d h mi s n : Int) : Int × Int :=
  if civil_Check.res y m d h mi s n = 0 then (if sec y m d h mi s < -8000000000 then (0, 3) else if sec y m d h mi s > 8000000000 then (0, 3) else (sec y m d h mi s, 0)) else (0, 3)
theorem res_fields {y m d h mi s n : Int} (e : civil_Check.res y m d h mi s n = 0) : (1600 ≤ y ∧ y ≤ 2200) ∧ (1 ≤ m ∧ m ≤ 12) ∧ (1 ≤ d ∧ d ≤ md y m) ∧ (0 ≤ h ∧ h ≤ 23) ∧ (0 ≤ mi ∧ mi ≤ 59) ∧ (0 ≤ s ∧ s ≤ 59) ∧ (0 ≤ n ∧ n ≤ 999999999) := by
  rw [check_res] at e
  by_cases g : (1600 ≤ y ∧ y ≤ 2200) ∧ (1 ≤ m ∧ m ≤ 12) ∧ (1 ≤ d ∧ d ≤ md y m) ∧ (0 ≤ h ∧ h ≤ 23) ∧ (0 ≤ mi ∧ mi ≤ 59) ∧ (0 ≤ s ∧ s ≤ 59) ∧ (0 ≤ n ∧ n ≤ 999999999)
  · exact g
  · rw [if_neg g] at e
    cases e
theorem ifs (n : Int) : (if n < -8000000000 then some (0, 3) else if n > 8000000000 then some (0, 3) else some (n, 0)) = some (if n < -8000000000 then ((0 : Int), (3 : Int)) else if n > 8000000000 then (0, 3) else (n, 0)) := by
  by_cases h1 : n < -8000000000
  · rw [if_pos h1, if_pos h1]
  · rw [if_neg h1, if_neg h1]
    by_cases h2 : n > 8000000000
    · rw [if_pos h2, if_pos h2]
    · rw [if_neg h2, if_neg h2]
theorem td (x n : Int) (hx : 0 ≤ x) : Int.tdiv x n = x / n := Int.tdiv_eq_ediv_of_nonneg hx
theorem res_3 {y m d h mi s n : Int} (e : ¬ civil_Check.res y m d h mi s n = 0) : civil_Check.res y m d h mi s n = 3 := by
  unfold civil_Check.res at e ⊢
  split
  · rfl
  · rename_i g
    rw [if_neg g] at e
    exact absurd rfl e
theorem seconds_f (y m d h mi s n : Int) : civil_Seconds.f y m d h mi s n = some (secres y m d h mi s n) := by
  unfold civil_Seconds.f civil_Check.f secres
  rw [Option.bind_some]
  by_cases e : civil_Check.res y m d h mi s n = 0
  · rw [if_pos e, if_pos e]
    obtain ⟨h1, h2, h3, h4, h5, h6, h7⟩ := res_fields e
    have hd := md_bd y m h2.1 h2.2
    rw [wz (x := m - 3) (by omega)]
    by_cases h8 : m - 3 < 0
    · rw [if_pos h8]
      have es : sec y m d h mi s = (-693901 + 365 * (y - 1) + (y - 1) / 4 - (y - 1) / 100 + (y - 1) / 400 + (153 * (m - 3 + 12) + 2) / 5 + d - 1) * 86400 + h * 3600 + mi * 60 + s := by
        unfold sec dn ms
        rw [if_pos (by omega), show m - 3 + 12 = m + 9 by omega]
      rw [es]
      rw [wz (x := y - 1) (by omega), wz (x := m - 3 + 12) (by omega), wz (x := 365 * (y - 1)) (by omega), td (y - 1) 4 (by omega), td (y - 1) 100 (by omega), td (y - 1) 400 (by omega), wz (x := (y - 1) / 4) (by omega), wz (x := (y - 1) / 100) (by omega), wz (x := (y - 1) / 400) (by omega),
        wz (x := 153 * (m - 3 + 12)) (by omega), wz (x := 153 * (m - 3 + 12) + 2) (by omega), td (153 * (m - 3 + 12) + 2) 5 (by omega), wz (x := (153 * (m - 3 + 12) + 2) / 5) (by omega), wz (x := h * 3600) (by omega), wz (x := mi * 60) (by omega)]
      have b1 : 0 ≤ (y - 1) / 4 ∧ (y - 1) / 4 ≤ 600 := by omega
      have b2 : 0 ≤ (y - 1) / 100 ∧ (y - 1) / 100 ≤ 600 := by omega
      have b3 : 0 ≤ (y - 1) / 400 ∧ (y - 1) / 400 ≤ 600 := by omega
      have b4 : 0 ≤ (153 * (m - 3 + 12) + 2) / 5 ∧ (153 * (m - 3 + 12) + 2) / 5 ≤ 600 := by omega
      generalize (y - 1) / 4 = q1 at *
      generalize (y - 1) / 100 = q2 at *
      generalize (y - 1) / 400 = q3 at *
      generalize (153 * (m - 3 + 12) + 2) / 5 = q4 at *
      rw [wz (x := -693901 + 365 * (y - 1)) (by omega), wz (x := -693901 + 365 * (y - 1) + q1) (by omega), wz (x := -693901 + 365 * (y - 1) + q1 - q2) (by omega), wz (x := -693901 + 365 * (y - 1) + q1 - q2 + q3) (by omega), wz (x := -693901 + 365 * (y - 1) + q1 - q2 + q3 + q4) (by omega), wz (x := -693901 + 365 * (y - 1) + q1 - q2 + q3 + q4 + d) (by omega), wz (x := -693901 + 365 * (y - 1) + q1 - q2 + q3 + q4 + d - 1) (by omega)]
      have bD : -1000000 ≤ -693901 + 365 * (y - 1) + q1 - q2 + q3 + q4 + d - 1 ∧ -693901 + 365 * (y - 1) + q1 - q2 + q3 + q4 + d - 1 ≤ 1000000 := by omega
      generalize -693901 + 365 * (y - 1) + q1 - q2 + q3 + q4 + d - 1 = D at *
      rw [wz (x := D * 86400) (by omega), wz (x := D * 86400 + h * 3600) (by omega), wz (x := D * 86400 + h * 3600 + mi * 60) (by omega), wz (x := D * 86400 + h * 3600 + mi * 60 + s) (by omega)]
      exact ifs _
    · rw [if_neg h8]
      have es : sec y m d h mi s = (-693901 + 365 * y + y / 4 - y / 100 + y / 400 + (153 * (m - 3) + 2) / 5 + d - 1) * 86400 + h * 3600 + mi * 60 + s := by
        unfold sec dn ms
        rw [if_neg (by omega)]
      rw [es]
      rw [wz (x := 365 * y) (by omega), td y 4 (by omega), td y 100 (by omega), td y 400 (by omega), wz (x := y / 4) (by omega), wz (x := y / 100) (by omega), wz (x := y / 400) (by omega),
        wz (x := 153 * (m - 3)) (by omega), wz (x := 153 * (m - 3) + 2) (by omega), td (153 * (m - 3) + 2) 5 (by omega), wz (x := (153 * (m - 3) + 2) / 5) (by omega), wz (x := h * 3600) (by omega), wz (x := mi * 60) (by omega)]
      have b1 : 0 ≤ y / 4 ∧ y / 4 ≤ 600 := by omega
      have b2 : 0 ≤ y / 100 ∧ y / 100 ≤ 600 := by omega
      have b3 : 0 ≤ y / 400 ∧ y / 400 ≤ 600 := by omega
      have b4 : 0 ≤ (153 * (m - 3) + 2) / 5 ∧ (153 * (m - 3) + 2) / 5 ≤ 600 := by omega
      generalize y / 4 = q1 at *
      generalize y / 100 = q2 at *
      generalize y / 400 = q3 at *
      generalize (153 * (m - 3) + 2) / 5 = q4 at *
      rw [wz (x := -693901 + 365 * y) (by omega), wz (x := -693901 + 365 * y + q1) (by omega), wz (x := -693901 + 365 * y + q1 - q2) (by omega), wz (x := -693901 + 365 * y + q1 - q2 + q3) (by omega), wz (x := -693901 + 365 * y + q1 - q2 + q3 + q4) (by omega), wz (x := -693901 + 365 * y + q1 - q2 + q3 + q4 + d) (by omega), wz (x := -693901 + 365 * y + q1 - q2 + q3 + q4 + d - 1) (by omega)]
      have bD : -1000000 ≤ -693901 + 365 * y + q1 - q2 + q3 + q4 + d - 1 ∧ -693901 + 365 * y + q1 - q2 + q3 + q4 + d - 1 ≤ 1000000 := by omega
      generalize -693901 + 365 * y + q1 - q2 + q3 + q4 + d - 1 = D at *
      rw [wz (x := D * 86400) (by omega), wz (x := D * 86400 + h * 3600) (by omega), wz (x := D * 86400 + h * 3600 + mi * 60) (by omega), wz (x := D * 86400 + h * 3600 + mi * 60 + s) (by omega)]
      exact ifs _
  · rw [if_neg e, if_neg e, res_3 e]
/-- The reference's second, by its three loops. -/
theorem rsec_l2 (y m d h mi s n : Int) (hy : 1600 ≤ y ∧ y ≤ 2200) (hm : 1 ≤ m ∧ m ≤ 12) (hh : 0 ≤ h ∧ h ≤ 23) (hmi : 0 ≤ mi ∧ mi ≤ 59) (hs : 0 ≤ s ∧ s ≤ 59) : ∀ (e k : Nat) (x q : Int), m = q + e → 1 ≤ q → -1000000 + 31 * (12 - q) ≤ x + 400 → -1000000 ≤ x → x ≤ 1000000 - 31 * (e : Int) → e + 3 < k →
    timesyncref05_Seconds.l2 k x q y m d h mi s n = some (let D := x + (ms y m - ms y q); let S := D * 86400 + h * 3600 + mi * 60 + s; if S < -8000000000 then ((0 : Int), (3 : Int)) else if S > 8000000000 then (0, 3) else (S, 0)) := by
  intro e
  induction e with
  | zero =>
    intro k x q e1 e2 e3 e4 e5 hk
    obtain ⟨k, rfl⟩ : ∃ j, k = j + 1 := ⟨k - 1, by omega⟩
    obtain rfl : m = q := by omega
    simp only [timesyncref05_Seconds.l2]
    rw [if_neg (by omega), wz (x := x * 86400) (by omega), wz (x := h * 3600) (by omega), wz (x := mi * 60) (by omega), wz (x := x * 86400 + h * 3600) (by omega), wz (x := x * 86400 + h * 3600 + mi * 60) (by omega), wz (x := x * 86400 + h * 3600 + mi * 60 + s) (by omega), ifs, Int.sub_self, Int.add_zero]
  | succ e ih =>
    intro k x q e1 e2 e3 e4 e5 hk
    obtain ⟨k, rfl⟩ : ∃ j, k = j + 1 := ⟨k - 1, by omega⟩
    have hb := md_bd y q e2 (by omega)
    have hn := ms_next y q e2 (by omega)
    simp only [timesyncref05_Seconds.l2]
    rw [if_pos (by omega), rmd_f k (by omega), Option.bind_some, wz (x := x + md y q) (by omega), wz (x := q + 1) (by omega), ih k (x + md y q) (q + 1) (by omega) (by omega) (by omega) (by omega) (by omega) (by omega)]
    rw [hn, show x + md y q + (ms y m - (ms y q + md y q)) = x + (ms y m - ms y q) by omega]
theorem yd_bd (y : Int) : 365 ≤ yd y ∧ yd y ≤ 366 := by
  unfold yd
  split <;> omega
theorem rsec_l1 (y m d h mi s n : Int) (k : Nat) (hk : 16 < k) (hy : 1600 ≤ y ∧ y ≤ 2200) (hm : 1 ≤ m ∧ m ≤ 12) (hh : 0 ≤ h ∧ h ≤ 23) (hmi : 0 ≤ mi ∧ mi ≤ 59) (hs : 0 ≤ s ∧ s ≤ 59) : ∀ (e : Nat) (K : Nat) (x q : Int), K = k + e → (1900 = q + e ∨ (1900 ≤ q ∧ e = 0)) → -300000 + 366 * (e : Int) ≤ x → x ≤ 300000 → 1 ≤ K →
    timesyncref05_Seconds.l1 (K + 1) x q y m d h mi s n = some (let D := x + (if q ≤ 1900 then ms q 1 - ms 1900 1 else 0) + (ms y m - ms y 1); let S := D * 86400 + h * 3600 + mi * 60 + s; if S < -8000000000 then ((0 : Int), (3 : Int)) else if S > 8000000000 then (0, 3) else (S, 0)) := by
  intro e
  induction e with
  | zero =>
    intro K x q eK e1 e3 e4 e5
    have e6 : (if q ≤ 1900 then ms q 1 - ms 1900 1 else 0) = 0 := by
      by_cases hq : q = 1900
      · rw [hq]; rfl
      · rw [if_neg (by omega)]
    simp only [timesyncref05_Seconds.l1]
    rw [if_neg (by omega), rsec_l2 y m d h mi s n hy hm hh hmi hs (m - 1).toNat K x 1 (by omega) (by omega) (by omega) (by omega) (by omega) (by omega), e6, Int.add_zero]
  | succ e ih =>
    intro K x q eK e1 e3 e4 e5
    obtain ⟨K, rfl⟩ : ∃ j, K = j + 1 := ⟨K - 1, by omega⟩
    have hb := yd_bd q
    have hn := ms_yd q
    have hq : q + 1 ≤ 1900 := by omega
    rw [timesyncref05_Seconds.l1, if_pos (by omega), ryd_f, Option.bind_some, wz (x := x - yd q) (by omega), wz (x := q + 1) (by omega), ih K (x - yd q) (q + 1) (by omega) (by omega) (by omega) (by omega) (by omega)]
    rw [if_pos hq, if_pos (show q ≤ 1900 by omega), show x - yd q + (ms (q + 1) 1 - ms 1900 1) = x + (ms q 1 - ms 1900 1) by omega]
theorem rsec_l0 (y m d h mi s n : Int) (k : Nat) (hk : 800 < k) (hy : 1600 ≤ y ∧ y ≤ 2200) (hm : 1 ≤ m ∧ m ≤ 12) (hd : 1 ≤ d ∧ d ≤ 31) (hh : 0 ≤ h ∧ h ≤ 23) (hmi : 0 ≤ mi ∧ mi ≤ 59) (hs : 0 ≤ s ∧ s ≤ 59) : ∀ (e : Nat) (K : Nat) (x q : Int), K = k + e → (y = q + e ∨ (y ≤ q ∧ e = 0 ∧ q = 1900)) → -100 ≤ x → x ≤ 150000 - 366 * (e : Int) → 1900 ≤ q →
    timesyncref05_Seconds.l0 (K + 1) x q y m d h mi s n = some (let D := x + (ms y m - ms q 1); let S := D * 86400 + h * 3600 + mi * 60 + s; if S < -8000000000 then ((0 : Int), (3 : Int)) else if S > 8000000000 then (0, 3) else (S, 0)) := by
  intro e
  induction e with
  | zero =>
    intro K x q eK e1 e3 e4 e5
    obtain ⟨K, rfl⟩ : ∃ j, K = j + 1 := ⟨K - 1, by omega⟩
    simp only [timesyncref05_Seconds.l0]
    by_cases hy2 : y < 1900
    · obtain rfl : q = 1900 := by omega
      rw [if_neg (by omega), rsec_l1 y m d h mi s n (K - (1900 - y).toNat) (by omega) hy hm hh hmi hs (1900 - y).toNat K x y (by omega) (by omega) (by omega) (by omega) (by omega)]
      rw [if_pos (show y ≤ 1900 by omega), show x + (ms y 1 - ms 1900 1) + (ms y m - ms y 1) = x + (ms y m - ms 1900 1) by omega]
    · obtain rfl : q = y := by omega
      rw [if_neg (by omega), rsec_l1 q m d h mi s n K (by omega) hy hm hh hmi hs 0 K x q (by omega) (by omega) (by omega) (by omega) (by omega)]
      have e6 : (if q ≤ 1900 then ms q 1 - ms 1900 1 else 0) = 0 := by
        by_cases hq : q = 1900
        · rw [hq]; rfl
        · rw [if_neg (by omega)]
      rw [e6, Int.add_zero]
  | succ e ih =>
    intro K x q eK e1 e3 e4 e5
    obtain ⟨K, rfl⟩ : ∃ j, K = j + 1 := ⟨K - 1, by omega⟩
    have hb := yd_bd q
    have hn := ms_yd q
    rw [timesyncref05_Seconds.l0, if_pos (by omega), ryd_f, Option.bind_some, wz (x := x + yd q) (by omega), wz (x := q + 1) (by omega), ih K (x + yd q) (q + 1) (by omega) (by omega) (by omega) (by omega) (by omega)]
    rw [show x + yd q + (ms y m - ms (q + 1) 1) = x + (ms y m - ms q 1) by omega]
theorem ms_1900 : ms 1900 1 = 0 := by decide
theorem rseconds_f (y m d h mi s n : Int) : timesyncref05_Seconds.f 2000 y m d h mi s n = some (secres y m d h mi s n) := by
  unfold timesyncref05_Seconds.f secres
  rw [rcheck_f 2000 (by omega), Option.bind_some]
  by_cases e : civil_Check.res y m d h mi s n = 0
  · rw [if_pos e, if_pos e]
    obtain ⟨h1, h2, h3, h4, h5, h6, h7⟩ := res_fields e
    have hd := md_bd y m h2.1 h2.2
    rw [wz (x := d - 1) (by omega), rsec_l0 y m d h mi s n (1999 - (y - 1900).toNat) (by omega) h1 h2 (by omega) h4 h5 h6 (y - 1900).toNat 1999 (d - 1) 1900 (by omega) (by omega) (by omega) (by omega) (by omega)]
    unfold sec dn
    rw [ms_1900, Int.sub_zero, show d - 1 + ms y m = ms y m + d - 1 by omega]
  · rw [if_neg e, if_neg e]
/-- The reference's civil time of a second, by its three loops. -/
theorem rof_l2 (y h mi s z : Int) (hy : 0 ≤ y ∧ y ≤ 4000) : ∀ (e k : Nat) (x q : Int), 12 = q + e → 1 ≤ q → 0 ≤ x → x + ms y q < ms (y + 1) 1 → x ≤ 100000 → e + 3 < k →
    timesyncref05_Of.l2 k x y q z h mi s 0 = some (oy (x + ms y q), om (x + ms y q), od (x + ms y q), h, mi, s, 0, 0) := by
  intro e
  induction e with
  | zero =>
    intro k x q e1 e2 e3 e4 e5 hk
    obtain ⟨k, rfl⟩ : ∃ j, k = j + 1 := ⟨k - 1, by omega⟩
    obtain rfl : q = 12 := by omega
    have hn := ms_year y
    have hm : md y 12 = 31 := by simp [md]
    have hone := of_one (n := x + ms y 12) (y := y) (m := 12) (d := x + 1) ⟨by omega, by omega, by omega, by omega⟩ (by unfold dn; omega)
    simp only [timesyncref05_Of.l2]
    rw [rmd_f k (by omega), Option.bind_some, if_neg (by omega), wz (x := x + 1) (by omega), ← hone.1, ← hone.2.1, ← hone.2.2]
  | succ e ih =>
    intro k x q e1 e2 e3 e4 e5 hk
    obtain ⟨k, rfl⟩ : ∃ j, k = j + 1 := ⟨k - 1, by omega⟩
    have hb := md_bd y q e2 (by omega)
    have hn := ms_next y q e2 (by omega)
    simp only [timesyncref05_Of.l2]
    rw [rmd_f k (by omega), Option.bind_some]
    by_cases hx : x ≥ md y q
    · rw [if_pos hx, Option.bind_some, wz (x := x - md y q) (by omega), wz (x := q + 1) (by omega), ih k (x - md y q) (q + 1) (by omega) (by omega) (by omega) (by omega) (by omega) (by omega)]
      rw [show x - md y q + ms y (q + 1) = x + ms y q by omega]
    · have hone := of_one (n := x + ms y q) (y := y) (m := q) (d := x + 1) ⟨by omega, by omega, by omega, by omega⟩ (by unfold dn; omega)
      rw [if_neg hx, wz (x := x + 1) (by omega), ← hone.1, ← hone.2.1, ← hone.2.2]
theorem rof_l1 (h mi s z : Int) : ∀ (e k : Nat) (x y : Int), 0 ≤ x → x ≤ 365 * (e : Int) → x ≤ 100000 → 0 ≤ y → y + e ≤ 4000 → e + 20 < k →
    timesyncref05_Of.l1 k x y 1 z h mi s 0 = some (oy (x + ms y 1), om (x + ms y 1), od (x + ms y 1), h, mi, s, 0, 0) := by
  intro e
  induction e with
  | zero =>
    intro k x y e1 e2 e3 e4 e5 hk
    obtain ⟨k, rfl⟩ : ∃ j, k = j + 1 := ⟨k - 1, by omega⟩
    have hb := yd_bd y
    have hn := ms_yd y
    simp only [timesyncref05_Of.l1]
    rw [ryd_f, Option.bind_some, if_neg (by omega), rof_l2 y h mi s z (by omega) 11 k x 1 (by omega) (by omega) (by omega) (by omega) (by omega) (by omega)]
  | succ e ih =>
    intro k x y e1 e2 e3 e4 e5 hk
    obtain ⟨k, rfl⟩ : ∃ j, k = j + 1 := ⟨k - 1, by omega⟩
    have hb := yd_bd y
    have hn := ms_yd y
    simp only [timesyncref05_Of.l1]
    rw [ryd_f, Option.bind_some]
    by_cases hx : x ≥ yd y
    · rw [if_pos hx, Option.bind_some, wz (x := x - yd y) (by omega), wz (x := y + 1) (by omega), ih k (x - yd y) (y + 1) (by omega) (by omega) (by omega) (by omega) (by omega) (by omega)]
      rw [show x - yd y + ms (y + 1) 1 = x + ms y 1 by omega]
    · rw [if_neg hx, rof_l2 y h mi s z (by omega) 11 k x 1 (by omega) (by omega) (by omega) (by omega) (by omega) (by omega)]
theorem rof_l0 (h mi s z : Int) : ∀ (e k : Nat) (x y : Int), -365 * (e : Int) ≤ x → x ≤ 100000 → (e : Int) ≤ y → y ≤ 3000 → e + 400 < k →
    timesyncref05_Of.l0 k x y 1 z h mi s 0 = some (oy (x + ms y 1), om (x + ms y 1), od (x + ms y 1), h, mi, s, 0, 0) := by
  intro e
  induction e with
  | zero =>
    intro k x y e1 e2 e3 e4 hk
    obtain ⟨k, rfl⟩ : ∃ j, k = j + 1 := ⟨k - 1, by omega⟩
    simp only [timesyncref05_Of.l0]
    rw [if_neg (by omega), rof_l1 h mi s z 300 k x y (by omega) (by omega) (by omega) (by omega) (by omega) (by omega)]
  | succ e ih =>
    intro k x y e1 e2 e3 e4 hk
    obtain ⟨k, rfl⟩ : ∃ j, k = j + 1 := ⟨k - 1, by omega⟩
    have hb := yd_bd (y - 1)
    have hn := ms_yd (y - 1)
    rw [show y - 1 + 1 = y by omega] at hn
    simp only [timesyncref05_Of.l0]
    by_cases hx : x < 0
    · rw [if_pos hx, wz (x := y - 1) (by omega), ryd_f, Option.bind_some, wz (x := x + yd (y - 1)) (by omega), ih k (x + yd (y - 1)) (y - 1) (by omega) (by omega) (by omega) (by omega) (by omega)]
      rw [show x + yd (y - 1) + ms (y - 1) 1 = x + ms y 1 by omega]
    · rw [if_neg hx, rof_l1 h mi s z 300 k x y (by omega) (by omega) (by omega) (by omega) (by omega) (by omega)]
theorem rof_f (s : Int) : timesyncref05_Of.f 2000 s = some (civil_Of.res s) := by
  unfold timesyncref05_Of.f civil_Of.res
  by_cases h1 : s < -8000000000
  · rw [if_pos h1, if_pos (.inl h1)]
    simp only [timesyncref05_Of.j0]
    rw [if_pos trivial]
  rw [if_neg h1]
  by_cases h2 : s > 8000000000
  · rw [decide_eq_true h2, if_pos (.inr h2)]
    simp only [timesyncref05_Of.j0]
    rw [if_pos trivial]
  rw [decide_eq_false h2, if_neg (by omega)]
  simp only [timesyncref05_Of.j0]
  rw [if_neg (by decide), rday_f s (by omega), Option.bind_some, wz (x := s / 86400 * 86400) (by omega), show s - s / 86400 * 86400 = s % 86400 by omega, wz (x := s % 86400) (by omega)]
  rw [td (s % 86400) 3600 (by omega), td (s % 86400) 60 (by omega), Int.tmod_eq_emod_of_nonneg (show 0 ≤ s % 86400 by omega), wz (x := s % 86400 / 3600) (by omega), wz (x := s % 86400 / 60) (by omega), Int.tmod_eq_emod_of_nonneg (show 0 ≤ s % 86400 / 60 by omega)]
  rw [rof_l0 _ _ _ 0 300 1999 (s / 86400) 1900 (by omega) (by omega) (by omega) (by omega) (by omega), ms_1900, Int.add_zero]
/-- Weekday and MJD. -/
theorem tm7 (t : Int) : (0 ≤ t → Int.tmod t 7 = t % 7) ∧ (t < 0 → Int.tmod t 7 = -((-t) % 7)) :=
  ⟨fun h => Int.tmod_eq_emod_of_nonneg h, fun h => by
    rw [← Int.tmod_eq_emod_of_nonneg (show 0 ≤ -t by omega), Int.neg_tmod, Int.neg_neg]⟩
theorem week_f (s : Int) (h : -9223372036854775808 ≤ s ∧ s ≤ 9223372036854775807) : civil_Weekday.f s = some (s / 86400 % 7) := by
  unfold civil_Weekday.f
  rw [day_f s h, Option.bind_some]
  have ht := tm7 (s / 86400)
  generalize s / 86400 = t at *
  by_cases h0 : 0 ≤ t
  · rw [ht.1 h0, if_neg (by omega)]
  · rw [ht.2 (by omega)]
    by_cases h1 : -(-t % 7) < 0
    · rw [if_pos h1, wz (by omega)]
      congr 1
      omega
    · rw [if_neg h1]
      congr 1
      omega
theorem rweek_f (s : Int) (h : -9223372036854775808 ≤ s ∧ s ≤ 9223372036854775807) : timesyncref05_Weekday.f s = some (s / 86400 % 7) := by
  unfold timesyncref05_Weekday.f
  rw [rday_f s h, Option.bind_some]
  have ht := tm7 (s / 86400)
  generalize s / 86400 = t at *
  by_cases h0 : 0 ≤ t
  · rw [ht.1 h0, wz (by omega), Int.tmod_eq_emod_of_nonneg (by omega)]
    congr 1
    omega
  · rw [ht.2 (by omega), wz (by omega), Int.tmod_eq_emod_of_nonneg (by omega)]
    congr 1
    omega
theorem mjd_f (s : Int) (h : -9223372036854775808 ≤ s ∧ s ≤ 9223372036854775807) : civil_MJD.f s = some (s / 86400 + 15020) := by
  unfold civil_MJD.f
  rw [day_f s h, Option.bind_some, wz (by omega)]
theorem rmjd_f (s : Int) (h : -9223372036854775808 ≤ s ∧ s ≤ 9223372036854775807) : timesyncref05_MJD.f s = some (s / 86400 + 15020) := by
  unfold timesyncref05_MJD.f
  rw [rday_f s h, Option.bind_some, wz (by omega)]
theorem of_f (s : Int) : civil_Of.f s = some (civil_Of.res s) := rfl
theorem check_f (y m d h mi s n : Int) : civil_Check.f y m d h mi s n = some (civil_Check.res y m d h mi s n) := rfl
theorem awake_f : timesynclaw05_awake.f = some true := rfl
end Go.Proofs.Ytpchlfjfambgoaa.CivB
