/- The calendar and the checks of leap tables: what the reference's functions answer. No condition but the arguments' kinds. -/
import Derived.Test.YtljbajnmkkebkaaAll15
import Derived.Test.YtljbajnmkkebkaaAll14
import Derived.Test.YtljbajnmkkebkaaAll18
import Derived.Test.YtljbajnmkkebkaaCal
namespace Go.Proofs.Ytljbajnmkkebkaa.CivB
open Go.RowKit Go.Proofs.Ytljbajnmkkebkaa.All Go.Proofs.Ytljbajnmkkebkaa.Civ Go.Proofs.YtljbajnmkkebkaaW.PrintWords Go.Proofs.YtljbajnmkkebkaaW.PrintLast

theorem leap_f (y : Int) : timesyncref05_isLeap.f y = some (decide (Leap y)) := by
  unfold timesyncref05_isLeap.f Leap
  by_cases h4 : y % 4 = 0
  · rw [if_pos ((tm0 y 4).2 h4)]
    by_cases h1 : y % 100 = 0
    · rw [if_pos ((tm0 y 100).2 h1)]
      by_cases h2 : y % 400 = 0
      · rw [(tm0 y 400).2 h2]
        simp [h4, h2]
      · have h3 : ¬ Int.tmod y 400 = 0 := fun h => h2 ((tm0 y 400).1 h)
        simp [h4, h1, h2, h3]
    · rw [if_neg (fun h => h1 ((tm0 y 100).1 h))]
      simp [h4, h1]
  · rw [if_neg (fun h => h4 ((tm0 y 4).1 h))]
    simp [h4]
theorem ryd_f (y : Int) : timesyncref05_yearDays.f y = some (yd y) := by
  unfold timesyncref05_yearDays.f yd
  rw [leap_f, Option.bind_some]
  by_cases h : Leap y <;> simp [h]
theorem rmd_j1 (k : Nat) (y m : Int) : timesyncref05_MonthDays.j1 (k + 1) y m true = some 30 := by simp [timesyncref05_MonthDays.j1]
theorem rmd_j0 (k : Nat) (y m : Int) : timesyncref05_MonthDays.j0 (k + 1) y m true = some 31 := by simp [timesyncref05_MonthDays.j0]
theorem rmd_f (k : Nat) (hk : 2 ≤ k) (y m : Int) : timesyncref05_MonthDays.f k y m = some (md y m) := by
  obtain ⟨k, rfl⟩ : ∃ n, k = n + 2 := ⟨k - 2, by omega⟩
  by_cases h : 1 ≤ m ∧ m ≤ 12
  · obtain rfl | rfl | rfl | rfl | rfl | rfl | rfl | rfl | rfl | rfl | rfl | rfl : m = 1 ∨ m = 2 ∨ m = 3 ∨ m = 4 ∨ m = 5 ∨ m = 6 ∨ m = 7 ∨ m = 8 ∨ m = 9 ∨ m = 10 ∨ m = 11 ∨ m = 12 := by omega
    case inr.inl =>
      by_cases hl : Leap y <;> simp [timesyncref05_MonthDays.f, timesyncref05_MonthDays.j0, timesyncref05_MonthDays.j1, md, leap_f, hl]
    all_goals simp [timesyncref05_MonthDays.f, timesyncref05_MonthDays.j0, timesyncref05_MonthDays.j1, md]
  · have e : md y m = 0 := by
      unfold md
      by_cases h1 : m < 1
      · rw [if_pos h1]
      · rw [if_neg h1, if_pos (by omega)]
    have g : m ≠ 1 ∧ m ≠ 2 ∧ m ≠ 3 ∧ m ≠ 4 ∧ m ≠ 5 ∧ m ≠ 6 ∧ m ≠ 7 ∧ m ≠ 8 ∧ m ≠ 9 ∧ m ≠ 10 ∧ m ≠ 11 ∧ m ≠ 12 := by omega
    obtain ⟨g1, g2, g3, g4, g5, g6, g7, g8, g9, g10, g11, g12⟩ := g
    rw [e]
    simp [timesyncref05_MonthDays.f, timesyncref05_MonthDays.j0, timesyncref05_MonthDays.j1, g1, g2, g3, g4, g5, g6, g7, g8, g9, g10, g11, g12]
theorem rday_f (s : Int) (h : -9223372036854775808 ≤ s ∧ s ≤ 9223372036854775807) : timesyncref05_dayOf.f s = some (s / 86400) := by
  unfold timesyncref05_dayOf.f timesyncref01_Floor.f timesyncref01_MulDiv.f
  rw [if_pos (by omega)]
  rfl
/-- The reference's civil time of a second, by its three loops. -/
theorem rof_l2 (y h mi s z : Int) (hy : 0 ≤ y ∧ y ≤ 4000) : ∀ (e k : Nat) (x q : Int), 12 = q + e → 1 ≤ q → 0 ≤ x → x + ms y q < ms (y + 1) 1 → x ≤ 100000 → e + 3 < k →
    timesyncref05_Of.l2 k x y q z h mi s 0 = some (oy (x + ms y q), om (x + ms y q), od (x + ms y q), h, mi, s, 0, 0) := by
  intro e
  induction e with
  | zero =>
    intro k x q e1 e2 e3 e4 e5 hk
    obtain ⟨k, rfl⟩ : ∃ j, k = j + 1 := ⟨k - 1, by omega⟩
    obtain rfl : q = 12 := by omega
    have hn := ms_year y
    have hm : md y 12 = 31 := by simp [md]
    have hone := of_one (n := x + ms y 12) (y := y) (m := 12) (d := x + 1) ⟨by omega, by omega, by omega, by omega⟩ (by unfold dn; omega)
    simp only [timesyncref05_Of.l2]
    rw [rmd_f k (by omega), Option.bind_some, if_neg (by omega), wz (x := x + 1) (by omega), ← hone.1, ← hone.2.1, ← hone.2.2]
  | succ e ih =>
    intro k x q e1 e2 e3 e4 e5 hk
    obtain ⟨k, rfl⟩ : ∃ j, k = j + 1 := ⟨k - 1, by omega⟩
    have hb := md_bd y q e2 (by omega)
    have hn := ms_next y q e2 (by omega)
    simp only [timesyncref05_Of.l2]
    rw [rmd_f k (by omega), Option.bind_some]
    by_cases hx : x ≥ md y q
    · rw [if_pos hx, Option.bind_some, wz (x := x - md y q) (by omega), wz (x := q + 1) (by omega), ih k (x - md y q) (q + 1) (by omega) (by omega) (by omega) (by omega) (by omega) (by omega)]
      rw [show x - md y q + ms y (q + 1) = x + ms y q by omega]
    · have hone := of_one (n := x + ms y q) (y := y) (m := q) (d := x + 1) ⟨by omega, by omega, by omega, by omega⟩ (by unfold dn; omega)
      rw [if_neg hx, wz (x := x + 1) (by omega), ← hone.1, ← hone.2.1, ← hone.2.2]
theorem rof_l1 (h mi s z : Int) : ∀ (e k : Nat) (x y : Int), 0 ≤ x → x ≤ 365 * (e : Int) → x ≤ 100000 → 0 ≤ y → y + e ≤ 4000 → e + 20 < k →
    timesyncref05_Of.l1 k x y 1 z h mi s 0 = some (oy (x + ms y 1), om (x + ms y 1), od (x + ms y 1), h, mi, s, 0, 0) := by
  intro e
  induction e with
  | zero =>
    intro k x y e1 e2 e3 e4 e5 hk
    obtain ⟨k, rfl⟩ : ∃ j, k = j + 1 := ⟨k - 1, by omega⟩
    have hb := yd_bd y
    have hn := ms_yd y
    simp only [timesyncref05_Of.l1]
    rw [ryd_f, Option.bind_some, if_neg (by omega), rof_l2 y h mi s z (by omega) 11 k x 1 (by omega) (by omega) (by omega) (by omega) (by omega) (by omega)]
  | succ e ih =>
    intro k x y e1 e2 e3 e4 e5 hk
    obtain ⟨k, rfl⟩ : ∃ j, k = j + 1 := ⟨k - 1, by omega⟩
    have hb := yd_bd y
    have hn := ms_yd y
    simp only [timesyncref05_Of.l1]
    rw [ryd_f, Option.bind_some]
    by_cases hx : x ≥ yd y
    · rw [if_pos hx, Option.bind_some, wz (x := x - yd y) (by omega), wz (x := y + 1) (by omega), ih k (x - yd y) (y + 1) (by omega) (by omega) (by omega) (by omega) (by omega) (by omega)]
      rw [show x - yd y + ms (y + 1) 1 = x + ms y 1 by omega]
    · rw [if_neg hx, rof_l2 y h mi s z (by omega) 11 k x 1 (by omega) (by omega) (by omega) (by omega) (by omega) (by omega)]
theorem rof_l0 (h mi s z : Int) : ∀ (e k : Nat) (x y : Int), -365 * (e : Int) ≤ x → x ≤ 100000 → (e : Int) ≤ y → y ≤ 3000 → e + 400 < k →
    timesyncref05_Of.l0 k x y 1 z h mi s 0 = some (oy (x + ms y 1), om (x + ms y 1), od (x + ms y 1), h, mi, s, 0, 0) := by
  intro e
  induction e with
  | zero =>
    intro k x y e1 e2 e3 e4 hk
    obtain ⟨k, rfl⟩ : ∃ j, k = j + 1 := ⟨k - 1, by omega⟩
    simp only [timesyncref05_Of.l0]
    rw [if_neg (by omega), rof_l1 h mi s z 300 k x y (by omega) (by omega) (by omega) (by omega) (by omega) (by omega)]
  | succ e ih =>
    intro k x y e1 e2 e3 e4 hk
    obtain ⟨k, rfl⟩ : ∃ j, k = j + 1 := ⟨k - 1, by omega⟩
    have hb := yd_bd (y - 1)
    have hn := ms_yd (y - 1)
    rw [show y - 1 + 1 = y by omega] at hn
    simp only [timesyncref05_Of.l0]
    by_cases hx : x < 0
    · rw [if_pos hx, wz (x := y - 1) (by omega), ryd_f, Option.bind_some, wz (x := x + yd (y - 1)) (by omega), ih k (x + yd (y - 1)) (y - 1) (by omega) (by omega) (by omega) (by omega) (by omega)]
      rw [show x + yd (y - 1) + ms (y - 1) 1 = x + ms y 1 by omega]
    · rw [if_neg hx, rof_l1 h mi s z 300 k x y (by omega) (by omega) (by omega) (by omega) (by omega) (by omega)]
theorem rof_f (s : Int) : timesyncref05_Of.f 2000 s = some (civil_Of.res s) := by
  unfold timesyncref05_Of.f civil_Of.res
  by_cases h1 : s < -8000000000
  · rw [if_pos h1, if_pos (.inl h1)]
    simp only [timesyncref05_Of.j0]
    rw [if_pos trivial]
  rw [if_neg h1]
  by_cases h2 : s > 8000000000
  · rw [decide_eq_true h2, if_pos (.inr h2)]
    simp only [timesyncref05_Of.j0]
    rw [if_pos trivial]
  rw [decide_eq_false h2, if_neg (by omega)]
  simp only [timesyncref05_Of.j0]
  rw [if_neg (by decide), rday_f s (by omega), Option.bind_some, wz (x := s / 86400 * 86400) (by omega), show s - s / 86400 * 86400 = s % 86400 by omega, wz (x := s % 86400) (by omega)]
  rw [td (s % 86400) 3600 (by omega), td (s % 86400) 60 (by omega), Int.tmod_eq_emod_of_nonneg (show 0 ≤ s % 86400 by omega), wz (x := s % 86400 / 3600) (by omega), wz (x := s % 86400 / 60) (by omega), Int.tmod_eq_emod_of_nonneg (show 0 ≤ s % 86400 / 60 by omega)]
  rw [rof_l0 _ _ _ 0 300 1999 (s / 86400) 1900 (by omega) (by omega) (by omega) (by omega) (by omega), ms_1900, Int.add_zero]
theorem rof_k (k : Nat) (hk : 2000 ≤ k) (s : Int) : timesyncref05_Of.f k s = some (civil_Of.res s) := by
  obtain ⟨d, rfl⟩ : ∃ d, k = 2000 + d := ⟨k - 2000, by omega⟩
  clear hk
  induction d with
  | zero => exact rof_f s
  | succ d ih => exact timesyncref05_Of.mono s (2000 + d) _ ih
theorem begins_f (k : Nat) (hk : 2000 ≤ k) (a : Int) (h : -8000000000 ≤ a ∧ a ≤ 8000000000) : timesyncref06_begins.f k a = some (beg a) := by
  unfold timesyncref06_begins.f
  rw [rof_k k hk, Option.bind_some, res_in a h]
  dsimp only
  rw [if_pos rfl]
  unfold beg
  by_cases h1 : od (a / 86400) = 1
  · rw [if_pos h1]
    by_cases h2 : a % 86400 / 3600 = 0
    · rw [if_pos h2]
      by_cases h3 : a % 86400 / 60 % 60 = 0
      · rw [if_pos h3]
        congr 1
        rw [Bool.eq_iff_iff]
        simp only [beq_iff_eq, decide_eq_true_eq]
        omega
      · rw [if_neg h3, decide_eq_false (by omega)]
    · rw [if_neg h2, decide_eq_false (by omega)]
  · rw [if_neg h1, decide_eq_false (by omega)]
theorem rold_f (b x : Int) (l : List E) (i : Nat) (hi : i ≤ l.length) (hl : l.length ≤ 64) : timesyncref06_old.f b x l (i : Int) = some (oldI b l i) := by
  unfold timesyncref06_old.f oldI
  by_cases h : i = 0
  · subst h
    rw [if_pos rfl, if_pos (by rfl)]
  · rw [if_neg (by omega), if_neg h, wz (by omega), if_pos (by omega), if_pos (by omega)]
theorem in_f (a n : Int) (hn : 0 ≤ n ∧ n ≤ 8000000000) : timesyncref06_in.f a n = some (decide (-n ≤ a ∧ a ≤ n)) := by
  unfold timesyncref06_in.f
  rw [wz (by omega)]
  by_cases h : a ≥ -n
  · rw [if_pos h]
    congr 1
    exact decide_eq_decide.2 (by omega)
  · rw [if_neg h, decide_eq_false (by omega)]
theorem ref_l1 (b x : Int) (l : List E) (hb : -1000 ≤ b ∧ b ≤ 1000) (hall : l.all okE = true) (hl : l.length ≤ 64) : ∀ (m i k : Nat), i + m = l.length → 2 * m + 2001 ≤ k → timesyncref06_Check.l1 k (i : Int) b x l = some (scan (oldI b l i) (prvI l i) (l.drop i)) := by
  intro m
  induction m with
  | zero =>
    intro i k hi hk
    obtain ⟨k, rfl⟩ : ∃ q, k = q + 1 := ⟨k - 1, by omega⟩
    rw [timesyncref06_Check.l1, if_neg (by omega), List.drop_eq_nil_of_le (by omega)]
    rfl
  | succ m ih =>
    intro i k hi hk
    obtain ⟨k, rfl⟩ : ∃ q, k = q + 2 := ⟨k - 2, by omega⟩
    have hil : i < l.length := by omega
    have hnext := ih (i + 1) k (by omega) (by omega)
    have hok := okE_bd (all_get hall i hil)
    have hob := oldI_bd b l hb hall i (by omega)
    have hof := rold_f b x l i (by omega) hl
    have ei : wrap64 ((i : Int) + 1) = ((i + 1 : Nat) : Int) := by rw [wz (by omega)]; omega
    have hrd := rdE_nat l i hil
    rw [scan_at b l i hil, timesyncref06_Check.l1, if_pos (by omega), if_pos (by omega)]
    rw [show rd_T44 l (i : Int) = l[i] from hrd, begins_f _ (by omega) _ hok.1, Option.bind_some]
    have j3 : ∀ z : Bool, z = decide (l[i].f0 ≤ prvI l i) → timesyncref06_Check.j3 (k + 1) (i : Int) z b x l l[i].f0 l[i].f1 = some (if l[i].f0 ≤ prvI l i then 12 else if l[i].f1 - oldI b l i = 1 ∨ l[i].f1 - oldI b l i = -1 then scan (oldI b l (i + 1)) (prvI l (i + 1)) (l.drop (i + 1)) else 3) := by
      rintro z rfl
      rw [timesyncref06_Check.j3]
      by_cases g : l[i].f0 ≤ prvI l i
      · rw [decide_eq_true g, if_pos rfl, if_pos g]
      · rw [decide_eq_false g, if_neg (by decide), if_neg g, hof, Option.bind_some, Option.bind_some, wz (x := oldI b l i + 1) (by omega), wz (x := oldI b l i - 1) (by omega), ei, hnext]
        by_cases g1 : l[i].f1 = oldI b l i + 1
        · rw [if_pos g1, if_pos (.inl (by omega))]
        · rw [if_neg g1]
          by_cases g2 : l[i].f1 = oldI b l i - 1
          · rw [if_pos g2, if_pos (.inr (by omega))]
          · rw [if_neg g2, if_neg (by omega)]
    cases g : beg l[i].f0
    · rw [if_neg (show ¬ false = true by decide), if_pos (show false = false from rfl)]
    · rw [if_pos (show true = true from rfl), if_neg (show ¬ true = false by decide)]
      by_cases g0 : i = 0
      · rw [if_neg (by omega), j3 _ (by unfold prvI; rw [if_pos g0, decide_eq_false (by omega)])]
      · rw [if_pos (by omega), wz (x := (i : Int) - 1) (by omega), if_pos (by omega), if_pos (by omega), j3 _ (by unfold prvI; rw [if_neg g0])]
theorem ref_l0 (b x : Int) (l : List E) (hb : -1000 ≤ b ∧ b ≤ 1000) (hl : l.length ≤ 64) : ∀ (m i k : Nat), i + m = l.length → m + 2200 ≤ k → (∀ j, (hj : j < l.length) → j < i → okE l[j] = true) →
    timesyncref06_Check.l0 k (i : Int) b x l = some (if (l.drop i).all okE = true then scan b (-9000000000) l else 3) := by
  intro m
  induction m with
  | zero =>
    intro i k hi hk ha
    obtain ⟨k, rfl⟩ : ∃ q, k = q + 1 := ⟨k - 1, by omega⟩
    rw [timesyncref06_Check.l0, if_neg (by omega), List.drop_eq_nil_of_le (by omega)]
    have h1 := ref_l1 b x l hb (all_of l fun j hj => ha j hj (by omega)) hl l.length 0 k (by omega) (by omega)
    have e0 : oldI b l 0 = b := rfl
    have e1 : prvI l 0 = -9000000000 := rfl
    rw [e0, e1, List.drop_zero] at h1
    rw [if_pos (show ([] : List E).all okE = true from rfl)]
    exact h1
  | succ m ih =>
    intro i k hi hk ha
    obtain ⟨k, rfl⟩ : ∃ q, k = q + 1 := ⟨k - 1, by omega⟩
    have hil : i < l.length := by omega
    have hrd := rdE_nat l i hil
    have ei : wrap64 ((i : Int) + 1) = ((i + 1 : Nat) : Int) := by rw [wz (by omega)]; omega
    rw [timesyncref06_Check.l0, if_pos (by omega), if_pos (by omega), show rd_T44 l (i : Int) = l[i] from hrd, ei, drop_all l i hil, in_f _ _ (by omega), Option.bind_some, in_f _ _ (by omega), Option.bind_some]
    by_cases g0 : -8000000000 ≤ l[i].f0 ∧ l[i].f0 ≤ 8000000000
    · rw [decide_eq_true g0, if_pos rfl]
      by_cases g1 : -1000 ≤ l[i].f1 ∧ l[i].f1 ≤ 1000
      · have e : okE l[i] = true := decide_eq_true (by omega)
        rw [decide_eq_true g1, if_pos rfl, e, Bool.true_and, ih (i + 1) k (by omega) (by omega) (fun j hj hji => by
            by_cases e2 : j = i
            · subst e2
              exact e
            · exact ha j hj (by omega))]
      · have e : okE l[i] = false := decide_eq_false (by omega)
        rw [decide_eq_false g1, if_neg (by decide), e, if_neg (by simp)]
    · have e : okE l[i] = false := decide_eq_false (by omega)
      rw [decide_eq_false g0, if_neg (by decide), e, if_neg (by simp)]
theorem ref_check (k : Nat) (hk : 2300 ≤ k) (b x : Int) (l : List E) : timesyncref06_Check.f k b x l = some (chk b x l) := by
  unfold timesyncref06_Check.f chk
  by_cases h : 64 < l.length
  · rw [if_pos (by omega), if_pos h]
  · rw [if_neg (by omega), if_neg h, in_f _ _ (by omega), Option.bind_some, in_f _ _ (by omega), Option.bind_some]
    obtain ⟨k, rfl⟩ : ∃ q, k = q + 1 := ⟨k - 1, by omega⟩
    by_cases h1 : -1000 ≤ b ∧ b ≤ 1000
    · rw [decide_eq_true h1, if_pos rfl, timesyncref06_Check.j0]
      by_cases h3 : -8000000000 ≤ x ∧ x ≤ 8000000000
      · rw [decide_eq_true h3, if_neg (by decide)]
        have h0 := ref_l0 b x l h1 (by omega) l.length 0 k (by omega) (by omega) (fun j _ hj => by omega)
        rw [List.drop_zero] at h0
        rw [show (0 : Int) = ((0 : Nat) : Int) from rfl, h0]
        congr 1
        by_cases h4 : l.all okE = true
        · rw [if_pos h4, if_pos ⟨h1, h3, h4⟩]
        · rw [if_neg h4, if_neg (fun g => h4 g.2.2)]
      · rw [decide_eq_false h3, if_pos (show (!false) = true from rfl), if_neg (fun g => h3 g.2.1)]
    · rw [decide_eq_false h1, if_neg (by decide), timesyncref06_Check.j0, if_pos rfl, if_neg (fun g => h1 g.1)]
end Go.Proofs.Ytljbajnmkkebkaa.CivB
