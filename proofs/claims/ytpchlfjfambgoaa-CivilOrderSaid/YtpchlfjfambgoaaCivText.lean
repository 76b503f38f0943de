/- The texts of civil times: their bytes, that Parse inverts Text, and their order. No condition. -/
import Derived.Test.YtpchlfjfambgoaaAll5
import Derived.Test.YtpchlfjfambgoaaCivBr
namespace Go.Proofs.Ytpchlfjfambgoaa.CivT
open Go.RowKit Go.Proofs.Ytpchlfjfambgoaa.All Go.Proofs.Ytpchlfjfambgoaa.Civ Go.Proofs.Ytpchlfjfambgoaa.CivB Go.Proofs.YtpchlfjfambgoaaW.PrintWords Go.Proofs.YtpchlfjfambgoaaW.PrintLast

theorem all_eq (y m d h mi s n : Int) : civil_Text.all y m d h mi s n = [48 + y / 1000 % 10, 48 + y / 100 % 10, 48 + y / 10 % 10, 48 + y / 1 % 10, 45, 48 + m / 10 % 10, 48 + m / 1 % 10, 45, 48 + d / 10 % 10, 48 + d / 1 % 10, 84, 48 + h / 10 % 10, 48 + h / 1 % 10, 58, 48 + mi / 10 % 10, 48 + mi / 1 % 10, 58, 48 + s / 10 % 10, 48 + s / 1 % 10, 46, 48 + n / 100000000 % 10, 48 + n / 10000000 % 10, 48 + n / 1000000 % 10, 48 + n / 100000 % 10, 48 + n / 10000 % 10, 48 + n / 1000 % 10, 48 + n / 100 % 10, 48 + n / 10 % 10, 48 + n / 1 % 10, 90] := rfl
theorem bt_str (xs : List Int) (i : Nat) (v : Int) (h : xs[i]? = some v) (h0 : 0 ≤ v) (h1 : v ≤ 255) : bt (strOfNums xs) (i : Int) = v := by
  obtain ⟨hi, hv⟩ := List.getElem?_eq_some_iff.1 h
  have hs : i < (strOfNums xs).size := by rw [strOfNums_size]; exact hi
  unfold bt
  rw [dif_pos (show (i : Int).toNat < (strOfNums xs).size from hs)]
  show (((strOfNums xs)[i]'hs).toNat : Int) = v
  have e : ((strOfNums xs)[i]'hs) = UInt8.ofNat v.toNat := by
    have e2 : ((strOfNums xs)[i]'hs) = ((xs.map fun n => UInt8.ofNat n.toNat).toArray)[i]'(by simp; exact hi) := rfl
    rw [e2]
    simp [hv]
  rw [e, UInt8.toNat_ofNat']
  omega
theorem fields {y m d h mi s n : Int} (e : civil_Check.bad y m d h mi s n = false) : (1600 ≤ y ∧ y ≤ 2200) ∧ (1 ≤ m ∧ m ≤ 12) ∧ (1 ≤ d ∧ d ≤ 31) ∧ (0 ≤ h ∧ h ≤ 23) ∧ (0 ≤ mi ∧ mi ≤ 59) ∧ (0 ≤ s ∧ s ≤ 59) ∧ (0 ≤ n ∧ n ≤ 999999999) := by
  have h := (bad_iff y m d h mi s n).1 e
  obtain ⟨h1, h2, h3, h4, h5, h6, h7⟩ := h
  have hd := md_bd y m h2.1 h2.2
  exact ⟨h1, h2, by omega, h4, h5, h6, h7⟩
set_option maxHeartbeats 1600000 in
set_option maxRecDepth 10000 in
theorem parse_text (y m d h mi s n : Int) (e : civil_Check.bad y m d h mi s n = false) : civil_Parse.res (strOfNums (civil_Text.all y m d h mi s n)) = (y, m, d, h, mi, s, n, 0) := by
  obtain ⟨h1, h2, h3, h4, h5, h6, h7⟩ := fields e
  have hsz : (strOfNums (civil_Text.all y m d h mi s n)).size = 30 := by rw [strOfNums_size, all_eq]; rfl
  have b0 : bt (strOfNums (civil_Text.all y m d h mi s n)) ((0 : Nat) : Int) = 48 + y / 1000 % 10 := bt_str _ 0 _ (by rw [all_eq]; rfl) (by omega) (by omega)
  have b1 : bt (strOfNums (civil_Text.all y m d h mi s n)) ((1 : Nat) : Int) = 48 + y / 100 % 10 := bt_str _ 1 _ (by rw [all_eq]; rfl) (by omega) (by omega)
  have b2 : bt (strOfNums (civil_Text.all y m d h mi s n)) ((2 : Nat) : Int) = 48 + y / 10 % 10 := bt_str _ 2 _ (by rw [all_eq]; rfl) (by omega) (by omega)
  have b3 : bt (strOfNums (civil_Text.all y m d h mi s n)) ((3 : Nat) : Int) = 48 + y / 1 % 10 := bt_str _ 3 _ (by rw [all_eq]; rfl) (by omega) (by omega)
  have b4 : bt (strOfNums (civil_Text.all y m d h mi s n)) ((4 : Nat) : Int) = 45 := bt_str _ 4 _ (by rw [all_eq]; rfl) (by omega) (by omega)
  have b5 : bt (strOfNums (civil_Text.all y m d h mi s n)) ((5 : Nat) : Int) = 48 + m / 10 % 10 := bt_str _ 5 _ (by rw [all_eq]; rfl) (by omega) (by omega)
  have b6 : bt (strOfNums (civil_Text.all y m d h mi s n)) ((6 : Nat) : Int) = 48 + m / 1 % 10 := bt_str _ 6 _ (by rw [all_eq]; rfl) (by omega) (by omega)
  have b7 : bt (strOfNums (civil_Text.all y m d h mi s n)) ((7 : Nat) : Int) = 45 := bt_str _ 7 _ (by rw [all_eq]; rfl) (by omega) (by omega)
  have b8 : bt (strOfNums (civil_Text.all y m d h mi s n)) ((8 : Nat) : Int) = 48 + d / 10 % 10 := bt_str _ 8 _ (by rw [all_eq]; rfl) (by omega) (by omega)
  have b9 : bt (strOfNums (civil_Text.all y m d h mi s n)) ((9 : Nat) : Int) = 48 + d / 1 % 10 := bt_str _ 9 _ (by rw [all_eq]; rfl) (by omega) (by omega)
  have b10 : bt (strOfNums (civil_Text.all y m d h mi s n)) ((10 : Nat) : Int) = 84 := bt_str _ 10 _ (by rw [all_eq]; rfl) (by omega) (by omega)
  have b11 : bt (strOfNums (civil_Text.all y m d h mi s n)) ((11 : Nat) : Int) = 48 + h / 10 % 10 := bt_str _ 11 _ (by rw [all_eq]; rfl) (by omega) (by omega)
  have b12 : bt (strOfNums (civil_Text.all y m d h mi s n)) ((12 : Nat) : Int) = 48 + h / 1 % 10 := bt_str _ 12 _ (by rw [all_eq]; rfl) (by omega) (by omega)
  have b13 : bt (strOfNums (civil_Text.all y m d h mi s n)) ((13 : Nat) : Int) = 58 := bt_str _ 13 _ (by rw [all_eq]; rfl) (by omega) (by omega)
  have b14 : bt (strOfNums (civil_Text.all y m d h mi s n)) ((14 : Nat) : Int) = 48 + mi / 10 % 10 := bt_str _ 14 _ (by rw [all_eq]; rfl) (by omega) (by omega)
  have b15 : bt (strOfNums (civil_Text.all y m d h mi s n)) ((15 : Nat) : Int) = 48 + mi / 1 % 10 := bt_str _ 15 _ (by rw [all_eq]; rfl) (by omega) (by omega)
  have b16 : bt (strOfNums (civil_Text.all y m d h mi s n)) ((16 : Nat) : Int) = 58 := bt_str _ 16 _ (by rw [all_eq]; rfl) (by omega) (by omega)
  have b17 : bt (strOfNums (civil_Text.all y m d h mi s n)) ((17 : Nat) : Int) = 48 + s / 10 % 10 := bt_str _ 17 _ (by rw [all_eq]; rfl) (by omega) (by omega)
  have b18 : bt (strOfNums (civil_Text.all y m d h mi s n)) ((18 : Nat) : Int) = 48 + s / 1 % 10 := bt_str _ 18 _ (by rw [all_eq]; rfl) (by omega) (by omega)
  have b19 : bt (strOfNums (civil_Text.all y m d h mi s n)) ((19 : Nat) : Int) = 46 := bt_str _ 19 _ (by rw [all_eq]; rfl) (by omega) (by omega)
  have b20 : bt (strOfNums (civil_Text.all y m d h mi s n)) ((20 : Nat) : Int) = 48 + n / 100000000 % 10 := bt_str _ 20 _ (by rw [all_eq]; rfl) (by omega) (by omega)
  have b21 : bt (strOfNums (civil_Text.all y m d h mi s n)) ((21 : Nat) : Int) = 48 + n / 10000000 % 10 := bt_str _ 21 _ (by rw [all_eq]; rfl) (by omega) (by omega)
  have b22 : bt (strOfNums (civil_Text.all y m d h mi s n)) ((22 : Nat) : Int) = 48 + n / 1000000 % 10 := bt_str _ 22 _ (by rw [all_eq]; rfl) (by omega) (by omega)
  have b23 : bt (strOfNums (civil_Text.all y m d h mi s n)) ((23 : Nat) : Int) = 48 + n / 100000 % 10 := bt_str _ 23 _ (by rw [all_eq]; rfl) (by omega) (by omega)
  have b24 : bt (strOfNums (civil_Text.all y m d h mi s n)) ((24 : Nat) : Int) = 48 + n / 10000 % 10 := bt_str _ 24 _ (by rw [all_eq]; rfl) (by omega) (by omega)
  have b25 : bt (strOfNums (civil_Text.all y m d h mi s n)) ((25 : Nat) : Int) = 48 + n / 1000 % 10 := bt_str _ 25 _ (by rw [all_eq]; rfl) (by omega) (by omega)
  have b26 : bt (strOfNums (civil_Text.all y m d h mi s n)) ((26 : Nat) : Int) = 48 + n / 100 % 10 := bt_str _ 26 _ (by rw [all_eq]; rfl) (by omega) (by omega)
  have b27 : bt (strOfNums (civil_Text.all y m d h mi s n)) ((27 : Nat) : Int) = 48 + n / 10 % 10 := bt_str _ 27 _ (by rw [all_eq]; rfl) (by omega) (by omega)
  have b28 : bt (strOfNums (civil_Text.all y m d h mi s n)) ((28 : Nat) : Int) = 48 + n / 1 % 10 := bt_str _ 28 _ (by rw [all_eq]; rfl) (by omega) (by omega)
  have b29 : bt (strOfNums (civil_Text.all y m d h mi s n)) ((29 : Nat) : Int) = 90 := bt_str _ 29 _ (by rw [all_eq]; rfl) (by omega) (by omega)
  generalize strOfNums (civil_Text.all y m d h mi s n) = S at *
  have f0 : civil_Parse.fld S 0 4 = y := by
    have q0 : y / 1 = 10 * (y / 10) + y / 1 % 10 := by omega
    have q1 : y / 10 = 10 * (y / 100) + y / 10 % 10 := by omega
    have q2 : y / 100 = 10 * (y / 1000) + y / 100 % 10 := by omega
    have q3 : y / 1000 = 10 * (y / 10000) + y / 1000 % 10 := by omega
    have q4 : y / 10000 = 0 := by omega
    have q : y / 1 = y := by omega
    simp only [civil_Parse.fld, Nat.reduceAdd, b0, b1, b2, b3]
    generalize y / 1 % 10 = c0 at *
    generalize y / 10 % 10 = c1 at *
    generalize y / 100 % 10 = c2 at *
    generalize y / 1000 % 10 = c3 at *
    generalize y / 1 = p0 at *
    generalize y / 10 = p1 at *
    generalize y / 100 = p2 at *
    generalize y / 1000 = p3 at *
    generalize y / 10000 = p4 at *
    clear b0 b1 b2 b3 b4 b5 b6 b7 b8 b9 b10 b11 b12 b13 b14 b15 b16 b17 b18 b19 b20 b21 b22 b23 b24 b25 b26 b27 b28 b29
    omega
  have f5 : civil_Parse.fld S 5 2 = m := by
    have q0 : m / 1 = 10 * (m / 10) + m / 1 % 10 := by omega
    have q1 : m / 10 = 10 * (m / 100) + m / 10 % 10 := by omega
    have q2 : m / 100 = 0 := by omega
    have q : m / 1 = m := by omega
    simp only [civil_Parse.fld, Nat.reduceAdd, b5, b6]
    generalize m / 1 % 10 = c0 at *
    generalize m / 10 % 10 = c1 at *
    generalize m / 1 = p0 at *
    generalize m / 10 = p1 at *
    generalize m / 100 = p2 at *
    clear b0 b1 b2 b3 b4 b5 b6 b7 b8 b9 b10 b11 b12 b13 b14 b15 b16 b17 b18 b19 b20 b21 b22 b23 b24 b25 b26 b27 b28 b29
    omega
  have f8 : civil_Parse.fld S 8 2 = d := by
    have q0 : d / 1 = 10 * (d / 10) + d / 1 % 10 := by omega
    have q1 : d / 10 = 10 * (d / 100) + d / 10 % 10 := by omega
    have q2 : d / 100 = 0 := by omega
    have q : d / 1 = d := by omega
    simp only [civil_Parse.fld, Nat.reduceAdd, b8, b9]
    generalize d / 1 % 10 = c0 at *
    generalize d / 10 % 10 = c1 at *
    generalize d / 1 = p0 at *
    generalize d / 10 = p1 at *
    generalize d / 100 = p2 at *
    clear b0 b1 b2 b3 b4 b5 b6 b7 b8 b9 b10 b11 b12 b13 b14 b15 b16 b17 b18 b19 b20 b21 b22 b23 b24 b25 b26 b27 b28 b29
    omega
  have f11 : civil_Parse.fld S 11 2 = h := by
    have q0 : h / 1 = 10 * (h / 10) + h / 1 % 10 := by omega
    have q1 : h / 10 = 10 * (h / 100) + h / 10 % 10 := by omega
    have q2 : h / 100 = 0 := by omega
    have q : h / 1 = h := by omega
    simp only [civil_Parse.fld, Nat.reduceAdd, b11, b12]
    generalize h / 1 % 10 = c0 at *
    generalize h / 10 % 10 = c1 at *
    generalize h / 1 = p0 at *
    generalize h / 10 = p1 at *
    generalize h / 100 = p2 at *
    clear b0 b1 b2 b3 b4 b5 b6 b7 b8 b9 b10 b11 b12 b13 b14 b15 b16 b17 b18 b19 b20 b21 b22 b23 b24 b25 b26 b27 b28 b29
    omega
  have f14 : civil_Parse.fld S 14 2 = mi := by
    have q0 : mi / 1 = 10 * (mi / 10) + mi / 1 % 10 := by omega
    have q1 : mi / 10 = 10 * (mi / 100) + mi / 10 % 10 := by omega
    have q2 : mi / 100 = 0 := by omega
    have q : mi / 1 = mi := by omega
    simp only [civil_Parse.fld, Nat.reduceAdd, b14, b15]
    generalize mi / 1 % 10 = c0 at *
    generalize mi / 10 % 10 = c1 at *
    generalize mi / 1 = p0 at *
    generalize mi / 10 = p1 at *
    generalize mi / 100 = p2 at *
    clear b0 b1 b2 b3 b4 b5 b6 b7 b8 b9 b10 b11 b12 b13 b14 b15 b16 b17 b18 b19 b20 b21 b22 b23 b24 b25 b26 b27 b28 b29
    omega
  have f17 : civil_Parse.fld S 17 2 = s := by
    have q0 : s / 1 = 10 * (s / 10) + s / 1 % 10 := by omega
    have q1 : s / 10 = 10 * (s / 100) + s / 10 % 10 := by omega
    have q2 : s / 100 = 0 := by omega
    have q : s / 1 = s := by omega
    simp only [civil_Parse.fld, Nat.reduceAdd, b17, b18]
    generalize s / 1 % 10 = c0 at *
    generalize s / 10 % 10 = c1 at *
    generalize s / 1 = p0 at *
    generalize s / 10 = p1 at *
    generalize s / 100 = p2 at *
    clear b0 b1 b2 b3 b4 b5 b6 b7 b8 b9 b10 b11 b12 b13 b14 b15 b16 b17 b18 b19 b20 b21 b22 b23 b24 b25 b26 b27 b28 b29
    omega
  have f20 : civil_Parse.fld S 20 9 = n := by
    have q0 : n / 1 = 10 * (n / 10) + n / 1 % 10 := by omega
    have q1 : n / 10 = 10 * (n / 100) + n / 10 % 10 := by omega
    have q2 : n / 100 = 10 * (n / 1000) + n / 100 % 10 := by omega
    have q3 : n / 1000 = 10 * (n / 10000) + n / 1000 % 10 := by omega
    have q4 : n / 10000 = 10 * (n / 100000) + n / 10000 % 10 := by omega
    have q5 : n / 100000 = 10 * (n / 1000000) + n / 100000 % 10 := by omega
    have q6 : n / 1000000 = 10 * (n / 10000000) + n / 1000000 % 10 := by omega
    have q7 : n / 10000000 = 10 * (n / 100000000) + n / 10000000 % 10 := by omega
    have q8 : n / 100000000 = 10 * (n / 1000000000) + n / 100000000 % 10 := by omega
    have q9 : n / 1000000000 = 0 := by omega
    have q : n / 1 = n := by omega
    simp only [civil_Parse.fld, Nat.reduceAdd, b20, b21, b22, b23, b24, b25, b26, b27, b28]
    generalize n / 1 % 10 = c0 at *
    generalize n / 10 % 10 = c1 at *
    generalize n / 100 % 10 = c2 at *
    generalize n / 1000 % 10 = c3 at *
    generalize n / 10000 % 10 = c4 at *
    generalize n / 100000 % 10 = c5 at *
    generalize n / 1000000 % 10 = c6 at *
    generalize n / 10000000 % 10 = c7 at *
    generalize n / 100000000 % 10 = c8 at *
    generalize n / 1 = p0 at *
    generalize n / 10 = p1 at *
    generalize n / 100 = p2 at *
    generalize n / 1000 = p3 at *
    generalize n / 10000 = p4 at *
    generalize n / 100000 = p5 at *
    generalize n / 1000000 = p6 at *
    generalize n / 10000000 = p7 at *
    generalize n / 100000000 = p8 at *
    generalize n / 1000000000 = p9 at *
    clear b0 b1 b2 b3 b4 b5 b6 b7 b8 b9 b10 b11 b12 b13 b14 b15 b16 b17 b18 b19 b20 b21 b22 b23 b24 b25 b26 b27 b28 b29
    omega
  have hok : civil_Parse.ok S = true := by
    have hc : ∀ i : Nat, i < 30 → civil_Parse.okc S i = true := by
      intro i hi
      obtain rfl | rfl | rfl | rfl | rfl | rfl | rfl | rfl | rfl | rfl | rfl | rfl | rfl | rfl | rfl | rfl | rfl | rfl | rfl | rfl | rfl | rfl | rfl | rfl | rfl | rfl | rfl | rfl | rfl | rfl : i = 0 ∨ i = 1 ∨ i = 2 ∨ i = 3 ∨ i = 4 ∨ i = 5 ∨ i = 6 ∨ i = 7 ∨ i = 8 ∨ i = 9 ∨ i = 10 ∨ i = 11 ∨ i = 12 ∨ i = 13 ∨ i = 14 ∨ i = 15 ∨ i = 16 ∨ i = 17 ∨ i = 18 ∨ i = 19 ∨ i = 20 ∨ i = 21 ∨ i = 22 ∨ i = 23 ∨ i = 24 ∨ i = 25 ∨ i = 26 ∨ i = 27 ∨ i = 28 ∨ i = 29 := by omega
      · unfold civil_Parse.okc; rw [if_pos (show bt civil_Parse.form ((0 : Nat) : Int) = 48 by decide), b0]; exact decide_eq_true ⟨by omega, by omega⟩
      · unfold civil_Parse.okc; rw [if_pos (show bt civil_Parse.form ((1 : Nat) : Int) = 48 by decide), b1]; exact decide_eq_true ⟨by omega, by omega⟩
      · unfold civil_Parse.okc; rw [if_pos (show bt civil_Parse.form ((2 : Nat) : Int) = 48 by decide), b2]; exact decide_eq_true ⟨by omega, by omega⟩
      · unfold civil_Parse.okc; rw [if_pos (show bt civil_Parse.form ((3 : Nat) : Int) = 48 by decide), b3]; exact decide_eq_true ⟨by omega, by omega⟩
      · unfold civil_Parse.okc; rw [if_neg (show ¬ bt civil_Parse.form ((4 : Nat) : Int) = 48 by decide), b4]; exact decide_eq_true (by decide)
      · unfold civil_Parse.okc; rw [if_pos (show bt civil_Parse.form ((5 : Nat) : Int) = 48 by decide), b5]; exact decide_eq_true ⟨by omega, by omega⟩
      · unfold civil_Parse.okc; rw [if_pos (show bt civil_Parse.form ((6 : Nat) : Int) = 48 by decide), b6]; exact decide_eq_true ⟨by omega, by omega⟩
      · unfold civil_Parse.okc; rw [if_neg (show ¬ bt civil_Parse.form ((7 : Nat) : Int) = 48 by decide), b7]; exact decide_eq_true (by decide)
      · unfold civil_Parse.okc; rw [if_pos (show bt civil_Parse.form ((8 : Nat) : Int) = 48 by decide), b8]; exact decide_eq_true ⟨by omega, by omega⟩
      · unfold civil_Parse.okc; rw [if_pos (show bt civil_Parse.form ((9 : Nat) : Int) = 48 by decide), b9]; exact decide_eq_true ⟨by omega, by omega⟩
      · unfold civil_Parse.okc; rw [if_neg (show ¬ bt civil_Parse.form ((10 : Nat) : Int) = 48 by decide), b10]; exact decide_eq_true (by decide)
      · unfold civil_Parse.okc; rw [if_pos (show bt civil_Parse.form ((11 : Nat) : Int) = 48 by decide), b11]; exact decide_eq_true ⟨by omega, by omega⟩
      · unfold civil_Parse.okc; rw [if_pos (show bt civil_Parse.form ((12 : Nat) : Int) = 48 by decide), b12]; exact decide_eq_true ⟨by omega, by omega⟩
      · unfold civil_Parse.okc; rw [if_neg (show ¬ bt civil_Parse.form ((13 : Nat) : Int) = 48 by decide), b13]; exact decide_eq_true (by decide)
      · unfold civil_Parse.okc; rw [if_pos (show bt civil_Parse.form ((14 : Nat) : Int) = 48 by decide), b14]; exact decide_eq_true ⟨by omega, by omega⟩
      · unfold civil_Parse.okc; rw [if_pos (show bt civil_Parse.form ((15 : Nat) : Int) = 48 by decide), b15]; exact decide_eq_true ⟨by omega, by omega⟩
      · unfold civil_Parse.okc; rw [if_neg (show ¬ bt civil_Parse.form ((16 : Nat) : Int) = 48 by decide), b16]; exact decide_eq_true (by decide)
      · unfold civil_Parse.okc; rw [if_pos (show bt civil_Parse.form ((17 : Nat) : Int) = 48 by decide), b17]; exact decide_eq_true ⟨by omega, by omega⟩
      · unfold civil_Parse.okc; rw [if_pos (show bt civil_Parse.form ((18 : Nat) : Int) = 48 by decide), b18]; exact decide_eq_true ⟨by omega, by omega⟩
      · unfold civil_Parse.okc; rw [if_neg (show ¬ bt civil_Parse.form ((19 : Nat) : Int) = 48 by decide), b19]; exact decide_eq_true (by decide)
      · unfold civil_Parse.okc; rw [if_pos (show bt civil_Parse.form ((20 : Nat) : Int) = 48 by decide), b20]; exact decide_eq_true ⟨by omega, by omega⟩
      · unfold civil_Parse.okc; rw [if_pos (show bt civil_Parse.form ((21 : Nat) : Int) = 48 by decide), b21]; exact decide_eq_true ⟨by omega, by omega⟩
      · unfold civil_Parse.okc; rw [if_pos (show bt civil_Parse.form ((22 : Nat) : Int) = 48 by decide), b22]; exact decide_eq_true ⟨by omega, by omega⟩
      · unfold civil_Parse.okc; rw [if_pos (show bt civil_Parse.form ((23 : Nat) : Int) = 48 by decide), b23]; exact decide_eq_true ⟨by omega, by omega⟩
      · unfold civil_Parse.okc; rw [if_pos (show bt civil_Parse.form ((24 : Nat) : Int) = 48 by decide), b24]; exact decide_eq_true ⟨by omega, by omega⟩
      · unfold civil_Parse.okc; rw [if_pos (show bt civil_Parse.form ((25 : Nat) : Int) = 48 by decide), b25]; exact decide_eq_true ⟨by omega, by omega⟩
      · unfold civil_Parse.okc; rw [if_pos (show bt civil_Parse.form ((26 : Nat) : Int) = 48 by decide), b26]; exact decide_eq_true ⟨by omega, by omega⟩
      · unfold civil_Parse.okc; rw [if_pos (show bt civil_Parse.form ((27 : Nat) : Int) = 48 by decide), b27]; exact decide_eq_true ⟨by omega, by omega⟩
      · unfold civil_Parse.okc; rw [if_pos (show bt civil_Parse.form ((28 : Nat) : Int) = 48 by decide), b28]; exact decide_eq_true ⟨by omega, by omega⟩
      · unfold civil_Parse.okc; rw [if_neg (show ¬ bt civil_Parse.form ((29 : Nat) : Int) = 48 by decide), b29]; exact decide_eq_true (by decide)
    unfold civil_Parse.ok
    rw [List.all_eq_true]
    intro i hi
    exact hc i (List.mem_range.1 hi)
  have hbad : civil_Parse.bad S = false := by
    unfold civil_Parse.bad
    rw [f0, f5, f8, f11, f14, f17, f20]
    exact e
  unfold civil_Parse.res
  rw [if_neg (by rw [hsz]; decide), if_neg (by rw [hok]; decide), if_neg (by rw [hbad]; decide), f0, f5, f8, f11, f14, f17, f20]
/-- The order of two lists of bytes, as numbers. -/
def ltI : List Int → List Int → Bool
  | _, [] => false
  | [], _ :: _ => true
  | a :: x, b :: y => decide (a < b) || (a == b && ltI x y)
theorem ltI_self : ∀ x : List Int, ltI x x = false
  | [] => rfl
  | a :: x => by simp [ltI, ltI_self x]
def Byte (x : Int) : Prop := 0 ≤ x ∧ x ≤ 255
theorem less_ltI : ∀ x y : List Int, (∀ a, a ∈ x → Byte a) → (∀ a, a ∈ y → Byte a) → Op.bytesLess (x.map fun n => UInt8.ofNat n.toNat) (y.map fun n => UInt8.ofNat n.toNat) = ltI x y
  | x, [], _, _ => by cases x <;> rfl
  | [], _ :: _, _, _ => rfl
  | a :: x, b :: y, hx, hy => by
    have ih := less_ltI x y (fun c hc => hx c (List.mem_cons_of_mem _ hc)) (fun c hc => hy c (List.mem_cons_of_mem _ hc))
    obtain ⟨a0, a1⟩ := hx a (List.mem_cons_self ..)
    obtain ⟨b0, b1⟩ := hy b (List.mem_cons_self ..)
    have ea : (UInt8.ofNat a.toNat).toNat = a.toNat := by rw [UInt8.toNat_ofNat']; omega
    have eb : (UInt8.ofNat b.toNat).toNat = b.toNat := by rw [UInt8.toNat_ofNat']; omega
    have l1 : decide (UInt8.ofNat a.toNat < UInt8.ofNat b.toNat) = decide (a < b) := by
      apply decide_eq_decide.2
      rw [UInt8.lt_iff_toNat_lt, ea, eb]
      omega
    have l2 : (UInt8.ofNat a.toNat == UInt8.ofNat b.toNat) = (a == b) := by
      rw [Bool.eq_iff_iff, beq_iff_eq, beq_iff_eq, ← UInt8.toNat_inj, ea, eb]
      omega
    simp only [List.map_cons, Op.bytesLess, ltI, ih, l1, l2]
theorem dig2 (y : Int) (h : 0 ≤ y ∧ y ≤ 99) : ∃ c e : Int, y / 10 % 10 = c ∧ y / 1 % 10 = e ∧ 0 ≤ c ∧ c ≤ 9 ∧ 0 ≤ e ∧ e ≤ 9 ∧ y = 10 * c + e :=
  ⟨_, _, rfl, rfl, by omega, by omega, by omega, by omega, by omega⟩
theorem dig4 (y : Int) (h : 0 ≤ y ∧ y ≤ 9999) : ∃ a b c e : Int, y / 1000 % 10 = a ∧ y / 100 % 10 = b ∧ y / 10 % 10 = c ∧ y / 1 % 10 = e ∧ 0 ≤ a ∧ a ≤ 9 ∧ 0 ≤ b ∧ b ≤ 9 ∧ 0 ≤ c ∧ c ≤ 9 ∧ 0 ≤ e ∧ e ≤ 9 ∧ y = 1000 * a + 100 * b + 10 * c + e := by
  have q0 : y / 1 = 10 * (y / 10) + y / 1 % 10 := by omega
  have q1 : y / 10 = 10 * (y / 100) + y / 10 % 10 := by omega
  have q2 : y / 100 = 10 * (y / 1000) + y / 100 % 10 := by omega
  have q3 : y / 1000 = y / 1000 % 10 := by omega
  exact ⟨_, _, _, _, rfl, rfl, rfl, rfl, by omega, by omega, by omega, by omega, by omega, by omega, by omega, by omega, by omega⟩
theorem step4 (y y' c : Int) (X X' : List Int) (h : 0 ≤ y ∧ y ≤ 9999) (h' : 0 ≤ y' ∧ y' ≤ 9999) :
    ltI ((48 + y / 1000 % 10) :: (48 + y / 100 % 10) :: (48 + y / 10 % 10) :: (48 + y / 1 % 10) :: c :: X) ((48 + y' / 1000 % 10) :: (48 + y' / 100 % 10) :: (48 + y' / 10 % 10) :: (48 + y' / 1 % 10) :: c :: X') = (if y = y' then ltI X X' else decide (y < y')) := by
  by_cases e : y = y'
  · subst e
    simp [ltI]
  · obtain ⟨a1, a2, a3, a4, e1, e2, e3, e4, u⟩ := dig4 y h
    obtain ⟨b1, b2, b3, b4, f1, f2, f3, f4, v⟩ := dig4 y' h'
    rw [if_neg e, e1, e2, e3, e4, f1, f2, f3, f4, Bool.eq_iff_iff]
    clear e1 e2 e3 e4 f1 f2 f3 f4
    simp only [ltI, Bool.or_eq_true, Bool.and_eq_true, decide_eq_true_eq, beq_iff_eq]
    generalize (ltI X X' = true) = R
    by_cases g1 : a1 = b1 <;> by_cases g2 : a2 = b2 <;> by_cases g3 : a3 = b3 <;> by_cases hR : R <;> simp [g1, g2, g3, hR] <;> omega
theorem step2 (y y' c : Int) (X X' : List Int) (h : 0 ≤ y ∧ y ≤ 99) (h' : 0 ≤ y' ∧ y' ≤ 99) :
    ltI ((48 + y / 10 % 10) :: (48 + y / 1 % 10) :: c :: X) ((48 + y' / 10 % 10) :: (48 + y' / 1 % 10) :: c :: X') = (if y = y' then ltI X X' else decide (y < y')) := by
  by_cases e : y = y'
  · subst e
    simp [ltI]
  · obtain ⟨a3, a4, e3, e4, u⟩ := dig2 y h
    obtain ⟨b3, b4, f3, f4, v⟩ := dig2 y' h'
    rw [if_neg e, e3, e4, f3, f4, Bool.eq_iff_iff]
    clear e3 e4 f3 f4
    simp only [ltI, Bool.or_eq_true, Bool.and_eq_true, decide_eq_true_eq, beq_iff_eq]
    generalize (ltI X X' = true) = R
    by_cases g3 : a3 = b3 <;> by_cases hR : R <;> simp [g3, hR] <;> omega
theorem ltI_ge {a b : Int} {x y : List Int} (h : b ≤ a) (hx : ltI x y = false) : ltI (a :: x) (b :: y) = false := by
  have e : decide (a < b) = false := decide_eq_false (by omega)
  simp [ltI, hx, e]
theorem tail (n : Int) (hn : 0 ≤ n) : ltI [48 + n / 100000000 % 10, 48 + n / 10000000 % 10, 48 + n / 1000000 % 10, 48 + n / 100000 % 10, 48 + n / 10000 % 10, 48 + n / 1000 % 10, 48 + n / 100 % 10, 48 + n / 10 % 10, 48 + n / 1 % 10, 90] [48 + (0 : Int) / 100000000 % 10, 48 + (0 : Int) / 10000000 % 10, 48 + (0 : Int) / 1000000 % 10, 48 + (0 : Int) / 100000 % 10, 48 + (0 : Int) / 10000 % 10, 48 + (0 : Int) / 1000 % 10, 48 + (0 : Int) / 100 % 10, 48 + (0 : Int) / 10 % 10, 48 + (0 : Int) / 1 % 10, 90] = false := by
  have z : ∀ k : Int, 48 + (0 : Int) / k % 10 = 48 := fun k => by simp
  simp only [z]
  exact ltI_ge (by omega) (ltI_ge (by omega) (ltI_ge (by omega) (ltI_ge (by omega) (ltI_ge (by omega) (ltI_ge (by omega) (ltI_ge (by omega) (ltI_ge (by omega) (ltI_ge (by omega) (ltI_self [90])))))))))
/-- The order of two texts; the second without nanoseconds. -/
def lexi (y m d h mi s y' m' d' h' mi' s' : Int) : Bool :=
  if y = y' then (if m = m' then (if d = d' then (if h = h' then (if mi = mi' then (if s = s' then false else decide (s < s')) else decide (mi < mi')) else decide (h < h')) else decide (d < d')) else decide (m < m')) else decide (y < y')
set_option maxHeartbeats 1600000 in
theorem bytes {y m d h mi s n : Int} (e : civil_Check.bad y m d h mi s n = false) : ∀ a, a ∈ civil_Text.all y m d h mi s n → Byte a := by
  obtain ⟨h1, h2, h3, h4, h5, h6, h7⟩ := fields e
  intro a ha
  rw [all_eq] at ha
  simp only [List.mem_cons, List.not_mem_nil, or_false] at ha
  unfold Byte
  rcases ha with rfl | rfl | rfl | rfl | rfl | rfl | rfl | rfl | rfl | rfl | rfl | rfl | rfl | rfl | rfl | rfl | rfl | rfl | rfl | rfl | rfl | rfl | rfl | rfl | rfl | rfl | rfl | rfl | rfl | rfl
  all_goals exact ⟨by omega, by omega⟩
theorem text_less (y m d h mi s n y' m' d' h' mi' s' : Int) (e : civil_Check.bad y m d h mi s n = false) (e' : civil_Check.bad y' m' d' h' mi' s' 0 = false) : Op.bytesLess (strOfNums (civil_Text.all y m d h mi s n)).toList (strOfNums (civil_Text.all y' m' d' h' mi' s' 0)).toList = lexi y m d h mi s y' m' d' h' mi' s' := by
  obtain ⟨h1, h2, h3, h4, h5, h6, h7⟩ := fields e
  obtain ⟨k1, k2, k3, k4, k5, k6, k7⟩ := fields e'
  rw [ByteArray.toList_eq, ByteArray.toList_eq, strOfNums_data, strOfNums_data, less_ltI _ _ (bytes e) (bytes e'), all_eq, all_eq]
  rw [step4 y y' _ _ _ (by omega) (by omega), step2 m m' _ _ _ (by omega) (by omega), step2 d d' _ _ _ (by omega) (by omega), step2 h h' _ _ _ (by omega) (by omega), step2 mi mi' _ _ _ (by omega) (by omega), step2 s s' _ _ _ (by omega) (by omega), tail n (by omega)]
  rfl
end Go.Proofs.Ytpchlfjfambgoaa.CivT
