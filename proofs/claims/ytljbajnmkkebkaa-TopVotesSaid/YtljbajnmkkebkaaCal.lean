/- The calendar and the checks of leap tables: what the printed functions answer, in plain words. No condition but the arguments' kinds. -/
import Derived.Test.YtljbajnmkkebkaaAll3
import Derived.Test.YtljbajnmkkebkaaAll4
import Derived.Test.YtljbajnmkkebkaaCivMath
namespace Go.Proofs.Ytljbajnmkkebkaa.CivB
open Go.RowKit Go.Proofs.Ytljbajnmkkebkaa.All Go.Proofs.Ytljbajnmkkebkaa.Civ Go.Proofs.YtljbajnmkkebkaaW.PrintWords Go.Proofs.YtljbajnmkkebkaaW.PrintLast

theorem wz {x : Int} (h : -9223372036854775808 ≤ x ∧ x ≤ 9223372036854775807) : wrap64 x = x := by
  unfold wrap64
  omega
theorem tm0 (y n : Int) : Int.tmod y n = 0 ↔ y % n = 0 :=
  ⟨fun h => Int.emod_eq_zero_of_dvd (Int.dvd_of_tmod_eq_zero h), fun h => Int.tmod_eq_zero_of_dvd (Int.dvd_of_emod_eq_zero h)⟩
theorem lp_eq (y : Int) : civil_MonthDays.lp y = decide (Leap y) := by
  unfold civil_MonthDays.lp Leap
  by_cases h4 : y % 4 = 0 <;> by_cases h1 : y % 100 = 0 <;> by_cases h2 : y % 400 = 0 <;> simp [tm0, h4, h1, h2]
theorem mdv (y m : Int) : civil_MonthDays.v y m = md y m := by
  unfold civil_MonthDays.v md
  rw [lp_eq]
  by_cases h : Leap y <;> simp [h]
theorem md_f (y m : Int) : civil_MonthDays.f y m = some (md y m) := by unfold civil_MonthDays.f; rw [mdv]
theorem bad_iff (y m d h mi s n : Int) : civil_Check.bad y m d h mi s n = false ↔ (1600 ≤ y ∧ y ≤ 2200) ∧ (1 ≤ m ∧ m ≤ 12) ∧ (1 ≤ d ∧ d ≤ md y m) ∧ (0 ≤ h ∧ h ≤ 23) ∧ (0 ≤ mi ∧ mi ≤ 59) ∧ (0 ≤ s ∧ s ≤ 59) ∧ (0 ≤ n ∧ n ≤ 999999999) := by
  unfold civil_Check.bad civil_Check.far
  rw [mdv]
  simp only [Bool.or_eq_false_iff, Bool.not_eq_false', decide_eq_true_eq]
theorem check_res (y m d h mi s n : Int) : civil_Check.res y m d h mi s n = (if (1600 ≤ y ∧ y ≤ 2200) ∧ (1 ≤ m ∧ m ≤ 12) ∧ (1 ≤ d ∧ d ≤ md y m) ∧ (0 ≤ h ∧ h ≤ 23) ∧ (0 ≤ mi ∧ mi ≤ 59) ∧ (0 ≤ s ∧ s ≤ 59) ∧ (0 ≤ n ∧ n ≤ 999999999) then 0 else 3) := by
  unfold civil_Check.res
  have hb := bad_iff y m d h mi s n
  cases e : civil_Check.bad y m d h mi s n
  · rw [if_neg (by decide), if_pos (hb.1 e)]
  · rw [if_pos rfl, if_neg (fun g => by rw [hb.2 g] at e; cases e)]
/-- The day of a second. -/
theorem day_f (s : Int) (h : -9223372036854775808 ≤ s ∧ s ≤ 9223372036854775807) : civil_dayOf.f s = some (s / 86400) := by
  unfold civil_dayOf.f fixed_Floor.f fixed_divides.f
  rw [if_neg (by omega), if_neg (by omega), Option.bind_some, if_pos rfl, if_neg (by omega)]
  have e := Int.mul_tdiv_add_tmod s 86400
  have c2 : decide ((86400 : Int) < 0) = false := rfl
  rw [c2]
  by_cases h0 : s < 0
  · have e2 : Int.tdiv s 86400 = -((-s) / 86400) := by
      rw [← Int.tdiv_eq_ediv_of_nonneg (show 0 ≤ -s by omega), Int.neg_tdiv, Int.neg_neg]
    have e3 : Int.tmod s 86400 = s - 86400 * Int.tdiv s 86400 := by omega
    by_cases h1 : Int.tmod s 86400 = 0
    · rw [if_pos h1, Option.bind_some, wz (by omega)]
      congr 1
      simp only
      omega
    · rw [if_neg h1, decide_eq_true h0, if_pos (show (true != false) = true from rfl), Option.bind_some, wz (x := Int.tdiv s 86400) (by omega), wz (by omega)]
      congr 1
      simp only
      omega
  · have e2 : Int.tdiv s 86400 = s / 86400 := Int.tdiv_eq_ediv_of_nonneg (by omega)
    rw [e2, decide_eq_false h0, wz (by omega)]
    by_cases h1 : Int.tmod s 86400 = 0
    · rw [if_pos h1, Option.bind_some]
    · rw [if_neg h1, if_neg (by decide), Option.bind_some]
/-- The seconds of a civil time. -/
def sec (y m d h mi s : Int) : Int := dn y m d * 86400 + h * 3600 + mi * 60 + s
def secres (y m d h mi s n : Int) : Int × Int :=
  if civil_Check.res y m d h mi s n = 0 then (if sec y m d h mi s < -8000000000 then (0, 3) else if sec y m d h mi s > 8000000000 then (0, 3) else (sec y m d h mi s, 0)) else (0, 3)
theorem res_fields {y m d h mi s n : Int} (e : civil_Check.res y m d h mi s n = 0) : (1600 ≤ y ∧ y ≤ 2200) ∧ (1 ≤ m ∧ m ≤ 12) ∧ (1 ≤ d ∧ d ≤ md y m) ∧ (0 ≤ h ∧ h ≤ 23) ∧ (0 ≤ mi ∧ mi ≤ 59) ∧ (0 ≤ s ∧ s ≤ 59) ∧ (0 ≤ n ∧ n ≤ 999999999) := by
  rw [check_res] at e
  by_cases g : (1600 ≤ y ∧ y ≤ 2200) ∧ (1 ≤ m ∧ m ≤ 12) ∧ (1 ≤ d ∧ d ≤ md y m) ∧ (0 ≤ h ∧ h ≤ 23) ∧ (0 ≤ mi ∧ mi ≤ 59) ∧ (0 ≤ s ∧ s ≤ 59) ∧ (0 ≤ n ∧ n ≤ 999999999)
  · exact g
  · rw [if_neg g] at e
    cases e
theorem ifs (n : Int) : (if n < -8000000000 then some (0, 3) else if n > 8000000000 then some (0, 3) else some (n, 0)) = some (if n < -8000000000 then ((0 : Int), (3 : Int)) else if n > 8000000000 then (0, 3) else (n, 0)) := by
  by_cases h1 : n < -8000000000
  · rw [if_pos h1, if_pos h1]
  · rw [if_neg h1, if_neg h1]
    by_cases h2 : n > 8000000000
    · rw [if_pos h2, if_pos h2]
    · rw [if_neg h2, if_neg h2]
theorem td (x n : Int) (hx : 0 ≤ x) : Int.tdiv x n = x / n := Int.tdiv_eq_ediv_of_nonneg hx
theorem res_3 {y m d h mi s n : Int} (e : ¬ civil_Check.res y m d h mi s n = 0) : civil_Check.res y m d h mi s n = 3 := by
  unfold civil_Check.res at e ⊢
  split
  · rfl
  · rename_i g
    rw [if_neg g] at e
    exact absurd rfl e
theorem seconds_f (y m d h mi s n : Int) : civil_Seconds.f y m d h mi s n = some (secres y m d h mi s n) := by
  unfold civil_Seconds.f civil_Check.f secres
  rw [Option.bind_some]
  by_cases e : civil_Check.res y m d h mi s n = 0
  · rw [if_pos e, if_pos e]
    obtain ⟨h1, h2, h3, h4, h5, h6, h7⟩ := res_fields e
    have hd := md_bd y m h2.1 h2.2
    rw [wz (x := m - 3) (by omega)]
    by_cases h8 : m - 3 < 0
    · rw [if_pos h8]
      have es : sec y m d h mi s = (-693901 + 365 * (y - 1) + (y - 1) / 4 - (y - 1) / 100 + (y - 1) / 400 + (153 * (m - 3 + 12) + 2) / 5 + d - 1) * 86400 + h * 3600 + mi * 60 + s := by
        unfold sec dn ms
        rw [if_pos (by omega), show m - 3 + 12 = m + 9 by omega]
      rw [es]
      rw [wz (x := y - 1) (by omega), wz (x := m - 3 + 12) (by omega), wz (x := 365 * (y - 1)) (by omega), td (y - 1) 4 (by omega), td (y - 1) 100 (by omega), td (y - 1) 400 (by omega), wz (x := (y - 1) / 4) (by omega), wz (x := (y - 1) / 100) (by omega), wz (x := (y - 1) / 400) (by omega),
        wz (x := 153 * (m - 3 + 12)) (by omega), wz (x := 153 * (m - 3 + 12) + 2) (by omega), td (153 * (m - 3 + 12) + 2) 5 (by omega), wz (x := (153 * (m - 3 + 12) + 2) / 5) (by omega), wz (x := h * 3600) (by omega), wz (x := mi * 60) (by omega)]
      have b1 : 0 ≤ (y - 1) / 4 ∧ (y - 1) / 4 ≤ 600 := by omega
      have b2 : 0 ≤ (y - 1) / 100 ∧ (y - 1) / 100 ≤ 600 := by omega
      have b3 : 0 ≤ (y - 1) / 400 ∧ (y - 1) / 400 ≤ 600 := by omega
      have b4 : 0 ≤ (153 * (m - 3 + 12) + 2) / 5 ∧ (153 * (m - 3 + 12) + 2) / 5 ≤ 600 := by omega
      generalize (y - 1) / 4 = q1 at *
      generalize (y - 1) / 100 = q2 at *
      generalize (y - 1) / 400 = q3 at *
      generalize (153 * (m - 3 + 12) + 2) / 5 = q4 at *
      rw [wz (x := -693901 + 365 * (y - 1)) (by omega), wz (x := -693901 + 365 * (y - 1) + q1) (by omega), wz (x := -693901 + 365 * (y - 1) + q1 - q2) (by omega), wz (x := -693901 + 365 * (y - 1) + q1 - q2 + q3) (by omega), wz (x := -693901 + 365 * (y - 1) + q1 - q2 + q3 + q4) (by omega), wz (x := -693901 + 365 * (y - 1) + q1 - q2 + q3 + q4 + d) (by omega), wz (x := -693901 + 365 * (y - 1) + q1 - q2 + q3 + q4 + d - 1) (by omega)]
      have bD : -1000000 ≤ -693901 + 365 * (y - 1) + q1 - q2 + q3 + q4 + d - 1 ∧ -693901 + 365 * (y - 1) + q1 - q2 + q3 + q4 + d - 1 ≤ 1000000 := by omega
      generalize -693901 + 365 * (y - 1) + q1 - q2 + q3 + q4 + d - 1 = D at *
      rw [wz (x := D * 86400) (by omega), wz (x := D * 86400 + h * 3600) (by omega), wz (x := D * 86400 + h * 3600 + mi * 60) (by omega), wz (x := D * 86400 + h * 3600 + mi * 60 + s) (by omega)]
      exact ifs _
    · rw [if_neg h8]
      have es : sec y m d h mi s = (-693901 + 365 * y + y / 4 - y / 100 + y / 400 + (153 * (m - 3) + 2) / 5 + d - 1) * 86400 + h * 3600 + mi * 60 + s := by
        unfold sec dn ms
        rw [if_neg (by omega)]
      rw [es]
      rw [wz (x := 365 * y) (by omega), td y 4 (by omega), td y 100 (by omega), td y 400 (by omega), wz (x := y / 4) (by omega), wz (x := y / 100) (by omega), wz (x := y / 400) (by omega),
        wz (x := 153 * (m - 3)) (by omega), wz (x := 153 * (m - 3) + 2) (by omega), td (153 * (m - 3) + 2) 5 (by omega), wz (x := (153 * (m - 3) + 2) / 5) (by omega), wz (x := h * 3600) (by omega), wz (x := mi * 60) (by omega)]
      have b1 : 0 ≤ y / 4 ∧ y / 4 ≤ 600 := by omega
      have b2 : 0 ≤ y / 100 ∧ y / 100 ≤ 600 := by omega
      have b3 : 0 ≤ y / 400 ∧ y / 400 ≤ 600 := by omega
      have b4 : 0 ≤ (153 * (m - 3) + 2) / 5 ∧ (153 * (m - 3) + 2) / 5 ≤ 600 := by omega
      generalize y / 4 = q1 at *
      generalize y / 100 = q2 at *
      generalize y / 400 = q3 at *
      generalize (153 * (m - 3) + 2) / 5 = q4 at *
      rw [wz (x := -693901 + 365 * y) (by omega), wz (x := -693901 + 365 * y + q1) (by omega), wz (x := -693901 + 365 * y + q1 - q2) (by omega), wz (x := -693901 + 365 * y + q1 - q2 + q3) (by omega), wz (x := -693901 + 365 * y + q1 - q2 + q3 + q4) (by omega), wz (x := -693901 + 365 * y + q1 - q2 + q3 + q4 + d) (by omega), wz (x := -693901 + 365 * y + q1 - q2 + q3 + q4 + d - 1) (by omega)]
      have bD : -1000000 ≤ -693901 + 365 * y + q1 - q2 + q3 + q4 + d - 1 ∧ -693901 + 365 * y + q1 - q2 + q3 + q4 + d - 1 ≤ 1000000 := by omega
      generalize -693901 + 365 * y + q1 - q2 + q3 + q4 + d - 1 = D at *
      rw [wz (x := D * 86400) (by omega), wz (x := D * 86400 + h * 3600) (by omega), wz (x := D * 86400 + h * 3600 + mi * 60) (by omega), wz (x := D * 86400 + h * 3600 + mi * 60 + s) (by omega)]
      exact ifs _
  · rw [if_neg e, if_neg e, res_3 e]
theorem yd_bd (y : Int) : 365 ≤ yd y ∧ yd y ≤ 366 := by
  unfold yd
  split <;> omega
theorem ms_1900 : ms 1900 1 = 0 := by decide
/-- Weekday and MJD. -/
theorem tm7 (t : Int) : (0 ≤ t → Int.tmod t 7 = t % 7) ∧ (t < 0 → Int.tmod t 7 = -((-t) % 7)) :=
  ⟨fun h => Int.tmod_eq_emod_of_nonneg h, fun h => by
    rw [← Int.tmod_eq_emod_of_nonneg (show 0 ≤ -t by omega), Int.neg_tmod, Int.neg_neg]⟩
theorem of_f (s : Int) : civil_Of.f s = some (civil_Of.res s) := rfl
theorem check_f (y m d h mi s n : Int) : civil_Check.f y m d h mi s n = some (civil_Check.res y m d h mi s n) := rfl

abbrev E := S44
abbrev rdE (l : List E) (i : Int) : E := rd_T44 l i
theorem rdE_nat (l : List E) (i : Nat) (h : i < l.length) : rdE l (i : Int) = l[i] := by
  show l.getD (i : Int).toNat _ = _
  simp [h]
/-- Does a month begin at a second? -/
def beg (a : Int) : Bool := decide (a % 86400 = 0 ∧ od (a / 86400) = 1)
theorem year_in (n : Int) (h : -100000 ≤ n ∧ n ≤ 100000) : 1600 ≤ oy n ∧ oy n ≤ 2200 := by
  have hd := of_date n
  have he := of_dn n
  have m1 := hd.m1
  have m2 := hd.m2
  refine ⟨?_, ?_⟩
  · by_cases g : 1600 ≤ oy n
    · exact g
    · have g2 := Date.le (y := oy n) (m := om n) (d := od n) (y' := 1600) (m' := 1) (d' := 1) hd ⟨by decide, by decide, by decide, by decide⟩ (by omega)
      have g3 : dn 1600 1 1 = ms 1600 1 := by unfold dn; omega
      have g4 : ms 1600 1 ≤ -100001 := by decide
      omega
  · by_cases g : oy n ≤ 2200
    · exact g
    · have g2 := Date.le (y := 2200) (m := 12) (d := 31) (y' := oy n) (m' := om n) (d' := od n) ⟨by decide, by decide, by decide, by decide⟩ hd (by omega)
      have g3 : dn 2200 12 31 = ms 2200 12 + 30 := by unfold dn; omega
      have g4 : 100001 ≤ ms 2200 12 := by decide
      omega
theorem res_in (a : Int) (h : -8000000000 ≤ a ∧ a ≤ 8000000000) : civil_Of.res a = (oy (a / 86400), om (a / 86400), od (a / 86400), a % 86400 / 3600, a % 86400 / 60 % 60, a % 86400 % 60, 0, 0) := by
  unfold civil_Of.res
  rw [if_neg (by omega)]
/-- The first second of a month of a year. -/
theorem first_f (y m : Int) (hy : 1600 ≤ y ∧ y ≤ 2200) (hm : 1 ≤ m ∧ m ≤ 12) : civil_Seconds.f y m 1 0 0 0 0 = some (if ms y m * 86400 < -8000000000 then (0, 3) else if ms y m * 86400 > 8000000000 then (0, 3) else (ms y m * 86400, 0)) := by
  have hb := md_bd y m hm.1 hm.2
  rw [seconds_f]
  unfold secres
  rw [check_res, if_pos (by omega)]
  have e : sec y m 1 0 0 0 = ms y m * 86400 := by unfold sec dn; omega
  rw [e]
theorem beg_iff (a : Int) : beg a = true ↔ ms (oy (a / 86400)) (om (a / 86400)) * 86400 = a := by
  have hd := of_dn (a / 86400)
  have h1 := (of_date (a / 86400)).d1
  unfold dn at hd
  unfold beg
  rw [decide_eq_true_eq]
  omega
theorem month_f (a : Int) (h : -8000000000 ≤ a ∧ a ≤ 8000000000) : ∃ p : Int × Bool, leap_month.f a 0 = some p ∧ ((p.2 = true ∧ p.1 = a) ↔ beg a = true) := by
  have hd := of_date (a / 86400)
  have hy := year_in (a / 86400) (by omega)
  have hb := beg_iff a
  have hdn := of_dn (a / 86400)
  unfold dn at hdn
  have m1 := hd.m1
  have m2 := hd.m2
  have d1 := hd.d1
  unfold leap_month.f
  rw [of_f, Option.bind_some, res_in a h]
  dsimp only
  rw [if_pos rfl, Int.add_zero, wz (x := om (a / 86400)) (by omega), if_neg (by omega), first_f _ _ hy ⟨m1, m2⟩, Option.bind_some]
  refine ⟨_, rfl, ?_⟩
  rw [hb]
  generalize ms (oy (a / 86400)) (om (a / 86400)) * 86400 = M at *
  by_cases g1 : M < -8000000000
  · rw [if_pos g1]
    simp
    omega
  · rw [if_neg g1]
    by_cases g2 : M > 8000000000
    · rw [if_pos g2]
      simp
      omega
    · rw [if_neg g2]
      simp
/-- Two months' first seconds are at least 28 days apart. -/
theorem beg_gap (a b : Int) (ha : beg a = true) (hb : beg b = true) (h : a < b) : a + 2419200 ≤ b := by
  rw [beg_iff] at ha hb
  have da := of_date (a / 86400)
  have db := of_date (b / 86400)
  have e1 := mi_of (oy (a / 86400)) (om (a / 86400)) da.m1 da.m2
  have e2 := mi_of (oy (b / 86400)) (om (b / 86400)) db.m1 db.m2
  rw [← e1] at ha
  rw [← e2] at hb
  generalize 12 * oy (a / 86400) + (om (a / 86400) - 1) = i at *
  generalize 12 * oy (b / 86400) + (om (b / 86400) - 1) = j at *
  clear e1 e2 da db
  by_cases hij : i < j
  · have h1 := mi_mono (i := i) (j := j) (by omega)
    omega
  · have h1 := mi_mono (i := j) (j := i) (by omega)
    omega
/-- Are an entry's numbers in their bounds? -/
def okE (e : E) : Bool := decide (-8000000000 ≤ e.f0 ∧ e.f0 ≤ 8000000000 ∧ -1000 ≤ e.f1 ∧ e.f1 ≤ 1000)
/-- The entries one after the other: behind the offset o and the second p. -/
def scan (o p : Int) : List E → Int
  | [] => 0
  | e :: r => if beg e.f0 = false then 7 else if e.f0 ≤ p then 12 else if e.f1 - o = 1 ∨ e.f1 - o = -1 then scan e.f1 e.f0 r else 3
/-- The check of a table. -/
def chk (b x : Int) (l : List E) : Int := if 64 < l.length then 6 else if (-1000 ≤ b ∧ b ≤ 1000) ∧ (-8000000000 ≤ x ∧ x ≤ 8000000000) ∧ l.all okE = true then scan b (-9000000000) l else 3
def oldI (b : Int) (l : List E) (i : Nat) : Int := if i = 0 then b else (rdE l ((i : Int) - 1)).f1
def prvI (l : List E) (i : Nat) : Int := if i = 0 then -9000000000 else (rdE l ((i : Int) - 1)).f0
theorem okE_bd {e : E} (h : okE e = true) : (-8000000000 ≤ e.f0 ∧ e.f0 ≤ 8000000000) ∧ (-1000 ≤ e.f1 ∧ e.f1 ≤ 1000) := by
  have := of_decide_eq_true h
  omega
theorem all_get {l : List E} (h : l.all okE = true) (i : Nat) (hi : i < l.length) : okE l[i] = true := (List.all_eq_true.1 h) _ (List.getElem_mem hi)
theorem old_f (b x : Int) (l : List E) (i : Nat) (hi : i ≤ l.length) (hl : l.length ≤ 64) : leap_old.f b x l (i : Int) = some (oldI b l i) := by
  unfold leap_old.f oldI
  by_cases h : i = 0
  · subst h
    rw [if_pos rfl, if_pos (by rfl)]
  · rw [if_neg (by omega), if_neg h, wz (by omega), if_pos (by omega), if_pos (by omega)]
theorem oldI_bd (b : Int) (l : List E) (hb : -1000 ≤ b ∧ b ≤ 1000) (h : l.all okE = true) (i : Nat) (hi : i ≤ l.length) : -1000 ≤ oldI b l i ∧ oldI b l i ≤ 1000 := by
  unfold oldI
  by_cases h0 : i = 0
  · rw [if_pos h0]
    exact hb
  · rw [if_neg h0, show ((i : Int) - 1) = ((i - 1 : Nat) : Int) by omega, rdE_nat l (i - 1) (by omega)]
    exact (okE_bd (all_get h (i - 1) (by omega))).2
theorem scan_at (b : Int) (l : List E) (i : Nat) (hi : i < l.length) : scan (oldI b l i) (prvI l i) (l.drop i) = if beg l[i].f0 = false then 7 else if l[i].f0 ≤ prvI l i then 12 else if l[i].f1 - oldI b l i = 1 ∨ l[i].f1 - oldI b l i = -1 then scan (oldI b l (i + 1)) (prvI l (i + 1)) (l.drop (i + 1)) else 3 := by
  rw [List.drop_eq_getElem_cons hi, scan]
  have e1 : oldI b l (i + 1) = l[i].f1 := by
    unfold oldI
    rw [if_neg (by omega), show (((i + 1 : Nat) : Int) - 1) = (i : Int) by omega, rdE_nat l i hi]
  have e2 : prvI l (i + 1) = l[i].f0 := by
    unfold prvI
    rw [if_neg (by omega), show (((i + 1 : Nat) : Int) - 1) = (i : Int) by omega, rdE_nat l i hi]
  rw [e1, e2]
theorem leap_l1 (b x : Int) (l : List E) (hb : -1000 ≤ b ∧ b ≤ 1000) (hall : l.all okE = true) (hl : l.length ≤ 64) : ∀ (m i k : Nat), i + m = l.length → 3 * m + 1 ≤ k → leap_Check.l1 k l (l.length : Int) (i : Int) b x l = some (scan (oldI b l i) (prvI l i) (l.drop i)) := by
  intro m
  induction m with
  | zero =>
    intro i k hi hk
    obtain ⟨k, rfl⟩ : ∃ q, k = q + 1 := ⟨k - 1, by omega⟩
    rw [leap_Check.l1, if_neg (by omega), List.drop_eq_nil_of_le (by omega)]
    rfl
  | succ m ih =>
    intro i k hi hk
    obtain ⟨k, rfl⟩ : ∃ q, k = q + 3 := ⟨k - 3, by omega⟩
    have hil : i < l.length := by omega
    have hnext := ih (i + 1) k (by omega) (by omega)
    have hok := okE_bd (all_get hall i hil)
    have hob := oldI_bd b l hb hall i (by omega)
    have hof := old_f b x l i (by omega) hl
    obtain ⟨p, hp, hpe⟩ := month_f l[i].f0 hok.1
    have ei : wrap64 ((i : Int) + 1) = ((i + 1 : Nat) : Int) := by rw [wz (by omega)]; omega
    have hrd := rdE_nat l i hil
    rw [scan_at b l i hil, leap_Check.l1, if_pos (by omega), if_pos (by omega), if_pos (by omega)]
    rw [show rd_T44 l (i : Int) = l[i] from hrd, hp, Option.bind_some]
    have j4 : ∀ z : Bool, z = decide (l[i].f0 ≤ prvI l i) → leap_Check.j4 (k + 1) (i : Int) l (l.length : Int) (i : Int) z b x l l[i].f0 l[i].f1 = some (if l[i].f0 ≤ prvI l i then 12 else if l[i].f1 - oldI b l i = 1 ∨ l[i].f1 - oldI b l i = -1 then scan (oldI b l (i + 1)) (prvI l (i + 1)) (l.drop (i + 1)) else 3) := by
      rintro z rfl
      rw [leap_Check.j4]
      by_cases g : l[i].f0 ≤ prvI l i
      · rw [decide_eq_true g, if_pos rfl, if_pos g]
      · rw [decide_eq_false g, if_neg (by decide), if_neg g, hof, Option.bind_some, wz (x := l[i].f1 - oldI b l i) (by omega), ei, hnext]
        by_cases g1 : l[i].f1 - oldI b l i = 1
        · rw [if_pos g1, if_pos (.inl g1)]
        · rw [if_neg g1]
          by_cases g2 : l[i].f1 - oldI b l i = -1
          · rw [if_pos g2, if_pos (.inr g2)]
          · rw [if_neg g2, if_neg (by omega)]
    have j3 : ∀ z : Bool, z = !(beg l[i].f0) → leap_Check.j3 (k + 2) (i : Int) l (l.length : Int) (i : Int) z b x l l[i].f0 l[i].f1 = some (if beg l[i].f0 = false then 7 else if l[i].f0 ≤ prvI l i then 12 else if l[i].f1 - oldI b l i = 1 ∨ l[i].f1 - oldI b l i = -1 then scan (oldI b l (i + 1)) (prvI l (i + 1)) (l.drop (i + 1)) else 3) := by
      rintro z rfl
      rw [leap_Check.j3]
      cases g : beg l[i].f0
      · rw [if_pos (show (!false) = true from rfl), if_pos (show false = false from rfl)]
      · rw [if_neg (show ¬ (!true) = true by decide), if_neg (show ¬ true = false by decide)]
        by_cases g0 : i = 0
        · rw [if_neg (by omega), j4 _ (by unfold prvI; rw [if_pos g0, decide_eq_false (by omega)])]
        · rw [if_pos (by omega), wz (x := (i : Int) - 1) (by omega), if_pos (by omega), if_pos (by omega), j4 _ (by unfold prvI; rw [if_neg g0])]
    by_cases g : p.2 = true
    · rw [if_pos g]
      refine j3 _ ?_
      by_cases g2 : p.1 = l[i].f0
      · rw [hpe.1 ⟨g, g2⟩, g2]
        simp
      · have : beg l[i].f0 = false := by
          cases g3 : beg l[i].f0
          · rfl
          · exact absurd (hpe.2 g3).2 g2
        rw [this]
        simpa using g2
    · rw [if_neg g]
      refine j3 _ ?_
      have : beg l[i].f0 = false := by
        cases g3 : beg l[i].f0
        · rfl
        · exact absurd (hpe.2 g3).1 g
      rw [this]
      rfl
theorem inside_f (a : Int) : leap_inside.f a = some (decide (-8000000000 ≤ a ∧ a ≤ 8000000000)) := by
  unfold leap_inside.f
  by_cases h : a ≥ -8000000000
  · rw [if_pos h]
    congr 1
    exact decide_eq_decide.2 (by omega)
  · rw [if_neg h, decide_eq_false (by omega)]
theorem all_of (l : List E) (h : ∀ j, (hj : j < l.length) → okE l[j] = true) : l.all okE = true := by
  rw [List.all_eq_true]
  intro e he
  obtain ⟨j, hj, rfl⟩ := List.getElem_of_mem he
  exact h j hj
theorem drop_all (l : List E) (i : Nat) (hi : i < l.length) : (l.drop i).all okE = (okE l[i] && (l.drop (i + 1)).all okE) := by
  rw [List.drop_eq_getElem_cons hi, List.all_cons]
theorem leap_l0 (b x : Int) (l : List E) (hl : l.length ≤ 64) : ∀ (m i k : Nat) (r : Bool), i + m = l.length → m + 200 ≤ k → (r = true → (-1000 ≤ b ∧ b ≤ 1000) ∧ ∀ j, (hj : j < l.length) → j < i → okE l[j] = true) →
    leap_Check.l0 k r l (l.length : Int) (i : Int) b x l = some (if r = true ∧ (l.drop i).all okE = true then scan b (-9000000000) l else 3) := by
  intro m
  induction m with
  | zero =>
    intro i k r hi hk hr
    obtain ⟨k, rfl⟩ : ∃ q, k = q + 1 := ⟨k - 1, by omega⟩
    rw [leap_Check.l0, if_neg (by omega), List.drop_eq_nil_of_le (by omega)]
    cases r
    · rw [if_neg (by decide), if_neg (by simp)]
    · obtain ⟨hb, ha⟩ := hr rfl
      have h1 := leap_l1 b x l hb (all_of l fun j hj => ha j hj (by omega)) hl l.length 0 k (by omega) (by omega)
      have e0 : oldI b l 0 = b := rfl
      have e1 : prvI l 0 = -9000000000 := rfl
      rw [e0, e1, List.drop_zero] at h1
      rw [if_pos rfl, if_pos ⟨rfl, rfl⟩]
      exact h1
  | succ m ih =>
    intro i k r hi hk hr
    obtain ⟨k, rfl⟩ : ∃ q, k = q + 1 := ⟨k - 1, by omega⟩
    have hil : i < l.length := by omega
    have hrd := rdE_nat l i hil
    have ei : wrap64 ((i : Int) + 1) = ((i + 1 : Nat) : Int) := by rw [wz (by omega)]; omega
    rw [leap_Check.l0, if_pos (by omega), if_pos (by omega), if_pos (by omega), show rd_T44 l (i : Int) = l[i] from hrd, ei, drop_all l i hil]
    have hf := ih (i + 1) k false (by omega) (by omega) (fun h => by cases h)
    rw [if_neg (fun h => by cases h.1)] at hf
    cases r
    · rw [if_neg (by decide), hf, if_neg (fun h => by cases h.1)]
    · obtain ⟨hb, ha⟩ := hr rfl
      rw [if_pos rfl, inside_f, Option.bind_some]
      by_cases g0 : -8000000000 ≤ l[i].f0 ∧ l[i].f0 ≤ 8000000000
      · rw [decide_eq_true g0, if_pos rfl]
        by_cases g1 : l[i].f1 ≥ -1000
        · rw [if_pos g1, ih (i + 1) k _ (by omega) (by omega) (fun h => ⟨hb, fun j hj hji => by
            by_cases e : j = i
            · subst e
              have g2 := of_decide_eq_true h
              exact decide_eq_true (by omega)
            · exact ha j hj (by omega)⟩)]
          have e : decide (l[i].f1 ≤ 1000) = okE l[i] := by
            unfold okE
            exact decide_eq_decide.2 (by omega)
          rw [e]
          cases okE l[i] <;> simp
        · have e : okE l[i] = false := decide_eq_false (by omega)
          rw [if_neg g1, hf, e, if_neg (by simp)]
      · have e : okE l[i] = false := decide_eq_false (by omega)
        rw [decide_eq_false g0, if_neg (by decide), hf, e, if_neg (by simp)]
theorem leap_check (k : Nat) (hk : 300 ≤ k) (b x : Int) (l : List E) : leap_Check.f k b x l = some (chk b x l) := by
  unfold leap_Check.f chk
  by_cases h : 64 < l.length
  · rw [if_pos (by omega), if_pos h]
  · rw [if_neg (by omega), if_neg h]
    obtain ⟨k, rfl⟩ : ∃ q, k = q + 1 := ⟨k - 1, by omega⟩
    have j0 : ∀ z : Bool, (z = true → -1000 ≤ b ∧ b ≤ 1000) → leap_Check.j0 (k + 1) z b x l = some (if z = true ∧ l.all okE = true then scan b (-9000000000) l else 3) := by
      intro z hz
      rw [leap_Check.j0]
      exact leap_l0 b x l (by omega) l.length 0 k z (by omega) (by omega) (fun h => ⟨hz h, fun j _ hj => by omega⟩)
    by_cases h1 : b ≥ -1000
    · rw [if_pos h1]
      by_cases h2 : b ≤ 1000
      · rw [if_pos h2, inside_f, Option.bind_some, j0 _ (fun _ => ⟨h1, h2⟩)]
        congr 1
        by_cases h3 : -8000000000 ≤ x ∧ x ≤ 8000000000
        · rw [decide_eq_true h3]
          by_cases h4 : l.all okE = true
          · rw [if_pos ⟨rfl, h4⟩, if_pos ⟨⟨h1, h2⟩, h3, h4⟩]
          · rw [if_neg (fun g => h4 g.2), if_neg (fun g => h4 g.2.2)]
        · rw [decide_eq_false h3, if_neg (fun g => by cases g.1), if_neg (fun g => h3 g.2.1)]
      · rw [if_neg h2, j0 _ (fun h => by cases h), if_neg (fun g => by cases g.1), if_neg (fun g => h2 g.1.2)]
    · rw [if_neg h1, j0 _ (fun h => by cases h), if_neg (fun g => by cases g.1), if_neg (fun g => h1 g.1.1)]
end Go.Proofs.Ytljbajnmkkebkaa.CivB
