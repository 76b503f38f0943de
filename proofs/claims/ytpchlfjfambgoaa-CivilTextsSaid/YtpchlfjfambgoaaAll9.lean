/- What the Go functions named below answer, each as a plain Lean function, and that its call comes to just that answer. No condition. Written by a program of this session (wip/myprint.py), which runs the kit's print with changes of its own. -/
import Derived.Test.YtpchlfjfambgoaaAll0
import Derived.Test.YtpchlfjfambgoaaAll6
namespace Go.Proofs.Ytpchlfjfambgoaa.All
open Go.RowKit Go.Proofs.YtpchlfjfambgoaaW.PrintWords Go.Proofs.YtpchlfjfambgoaaW.PrintLast Go.Proofs.YtpchlfjfambgoaaW.PrintMore
attribute [local go_sem] max2_int min2_int max_two min_two max_three min_three max_four min_four   -- for this text's walks alone
set_option linter.unusedVariables false
set_option linter.unusedSimpArgs false

/-! ### timesyncref05_digits: function 35 (typed by hand) -/
def timesyncref05_digits.P10 : Nat → Int
 | 0 => 1
 | k + 1 => 10 * timesyncref05_digits.P10 k
def timesyncref05_digits.dg (n : Int) : Nat → List Int
 | 0 => []
 | i + 1 => (48 + n / timesyncref05_digits.P10 i % 10) :: timesyncref05_digits.dg n i
def timesyncref05_digits.f (a0 : Int) (a1 : Int) : Option (ByteArray) := if 0 ≤ a0 ∧ a0 ≤ 999999999 ∧ 0 ≤ a1 ∧ a1 ≤ 9 then some (strOfNums (timesyncref05_digits.dg a0 a1.toNat)) else none
theorem timesyncref05_digits.P10_pos : ∀ k, 1 ≤ timesyncref05_digits.P10 k
 | 0 => Int.le_refl 1
 | k + 1 => by
  have h := timesyncref05_digits.P10_pos k
  show 1 ≤ 10 * timesyncref05_digits.P10 k
  omega
theorem timesyncref05_digits.next (n : Int) (k : Nat) : n / timesyncref05_digits.P10 k / 10 = n / timesyncref05_digits.P10 (k + 1) := by
 show _ = n / (10 * timesyncref05_digits.P10 k)
 have h := timesyncref05_digits.P10_pos k
 rw [Int.ediv_ediv_of_nonneg (by omega), Int.mul_comm]
theorem timesyncref05_digits.enc (x : Int) (h0 : 48 ≤ x) (h1 : x ≤ 57) : Utf8.encode x = strOfNums [x] := by
 obtain rfl | rfl | rfl | rfl | rfl | rfl | rfl | rfl | rfl | rfl : x = 48 ∨ x = 49 ∨ x = 50 ∨ x = 51 ∨ x = 52 ∨ x = 53 ∨ x = 54 ∨ x = 55 ∨ x = 56 ∨ x = 57 := by omega
 all_goals decide +kernel
theorem timesyncref05_digits.app (a : Int) (xs : List Int) : strOfNums [a] ++ strOfNums xs = strOfNums (a :: xs) := by
 apply ByteArray.ext
 simp [strOfNums, ByteArray.data_append]
theorem timesyncref05_digits.len (n : Int) : ∀ k, (timesyncref05_digits.dg n k).length = k
 | 0 => rfl
 | k + 1 => by simp [timesyncref05_digits.dg, timesyncref05_digits.len n k]
set_option maxHeartbeats 1600000 in
set_option maxRecDepth 100000 in
theorem timesyncref05_digits.calls (a0 : Int) (a1 : Int) (r : ByteArray) (w : World) (h : timesyncref05_digits.f a0 a1 = some r) :
  Calls Try.prog 35 #[.int .i64 a0, .int .i64 a1] w fun e w' => e = .returned (.string r) ∧ Drawn0 w w' := by
 unfold timesyncref05_digits.f at h
 by_cases hc : 0 ≤ a0 ∧ a0 ≤ 999999999 ∧ 0 ≤ a1 ∧ a1 ≤ 9
 ·rw [if_pos hc] at h
  obtain rfl := Option.some.inj h
  clear h
  obtain ⟨x0, x1, y0, y1⟩ := hc
  obtain ⟨d, rfl⟩ := Int.eq_ofNat_of_zero_le y0
  have ht : ((d : Int)).toNat = d := by omega
  rw [ht]
  go_enter Try.func35, Try.ntmps35
  go_wp2
  go_loop [0, 5, 6] (fun x s q => ∃ k : Nat, k ≤ d ∧ q = .int .i64 (k : Int) ∧ x = .int .i64 (a0 / timesyncref05_digits.P10 k) ∧ s = .string (strOfNums (timesyncref05_digits.dg a0 k))) (fun _ _ q => d - (intOf q).toNat)
  case atStart => exact ⟨0, by omega, rfl, by simp [timesyncref05_digits.P10], rfl⟩
  case round =>
   obtain ⟨k, hk, rfl, rfl, rfl⟩ := hrel
   by_cases hlt : k < d
   ·have hlt2 : (k : Int) < (d : Int) := by omega
    have hp := timesyncref05_digits.P10_pos k
    have hq : 0 ≤ a0 / timesyncref05_digits.P10 k := Int.ediv_nonneg x0 (by omega)
    have hq1 : a0 / timesyncref05_digits.P10 k ≤ 999999999 := Int.le_trans (Int.ediv_le_self _ x0) x1
    have e1 : (a0 / timesyncref05_digits.P10 k).tmod 10 = a0 / timesyncref05_digits.P10 k % 10 := Int.tmod_eq_emod_of_nonneg hq
    have e2 : wrap64 (48 + a0 / timesyncref05_digits.P10 k % 10) % 256 = 48 + a0 / timesyncref05_digits.P10 k % 10 := by
     unfold wrap64
     omega
    have e3 : Utf8.encode (wrap64 (48 + (a0 / timesyncref05_digits.P10 k).tmod 10) % 256) = strOfNums [48 + a0 / timesyncref05_digits.P10 k % 10] := by
     rw [e1, e2]
     exact timesyncref05_digits.enc _ (by omega) (by omega)
    have e4 : wrap64 ((a0 / timesyncref05_digits.P10 k).tdiv 10) = a0 / timesyncref05_digits.P10 (k + 1) := by
     rw [Int.tdiv_eq_ediv_of_nonneg hq, timesyncref05_digits.next]
     have hp1 := timesyncref05_digits.P10_pos (k + 1)
     have g0 : 0 ≤ a0 / timesyncref05_digits.P10 (k + 1) := Int.ediv_nonneg x0 (by omega)
     have g1 : a0 / timesyncref05_digits.P10 (k + 1) ≤ 999999999 := Int.le_trans (Int.ediv_le_self _ x0) x1
     unfold wrap64
     omega
    have e5 : ¬ 9223372036854775807 < (Utf8.encode (wrap64 (48 + (a0 / timesyncref05_digits.P10 k).tmod 10) % 256)).size + (strOfNums (timesyncref05_digits.dg a0 k)).size := by
     rw [e3, strOfNums_size, strOfNums_size, timesyncref05_digits.len]
     show ¬ 9223372036854775807 < 1 + k
     omega
    have E3 := Aside0.mk e3
    have E4 := Aside0.mk e4
    clear e1 e2 e3 e4 hq hq1 hp
    go_wp2
    go_round
    case rel => exact ⟨k + 1, by omega, rfl, by rw [E4.out], by rw [E3.out, timesyncref05_digits.app]; rfl⟩
    case measure => simp [intOf]; omega
   ·obtain rfl : k = d := by omega
    go_wp2
    go_ret
    exact ⟨rfl, ⟨0, rfl⟩⟩
 ·rw [if_neg hc] at h
  cases h

/-! ### timesyncref05_Text: function 17 -/
def timesyncref05_Text.f (k : Nat) (a0_0 : Int) (a0_1 : Int) (a0_2 : Int) (a0_3 : Int) (a0_4 : Int) (a0_5 : Int) (a0_6 : Int) : Option (ByteArray) := (timesyncref05_Check.f k a0_0 a0_1 a0_2 a0_3 a0_4 a0_5 a0_6).bind fun t141 => (if t141 = 0 then ((timesyncref05_digits.f a0_0 4).bind fun t142 => (if t142.size + 1 ≤ 9223372036854775807 then ((timesyncref05_digits.f a0_1 2).bind fun t143 => (if (t142 ++ (⟨#[45]⟩ : ByteArray)).size + t143.size ≤ 9223372036854775807 then (if ((t142 ++ (⟨#[45]⟩ : ByteArray)) ++ t143).size + 1 ≤ 9223372036854775807 then ((timesyncref05_digits.f a0_2 2).bind fun t144 => (if (((t142 ++ (⟨#[45]⟩ : ByteArray)) ++ t143) ++ (⟨#[45]⟩ : ByteArray)).size + t144.size ≤ 9223372036854775807 then (if ((((t142 ++ (⟨#[45]⟩ : ByteArray)) ++ t143) ++ (⟨#[45]⟩ : ByteArray)) ++ t144).size + 1 ≤ 9223372036854775807 then ((timesyncref05_digits.f a0_3 2).bind fun t145 => (if (((((t142 ++ (⟨#[45]⟩ : ByteArray)) ++ t143) ++ (⟨#[45]⟩ : ByteArray)) ++ t144) ++ (⟨#[84]⟩ : ByteArray)).size + t145.size ≤ 9223372036854775807 then (if ((((((t142 ++ (⟨#[45]⟩ : ByteArray)) ++ t143) ++ (⟨#[45]⟩ : ByteArray)) ++ t144) ++ (⟨#[84]⟩ : ByteArray)) ++ t145).size + 1 ≤ 9223372036854775807 then ((timesyncref05_digits.f a0_4 2).bind fun t146 => (if (((((((t142 ++ (⟨#[45]⟩ : ByteArray)) ++ t143) ++ (⟨#[45]⟩ : ByteArray)) ++ t144) ++ (⟨#[84]⟩ : ByteArray)) ++ t145) ++ (⟨#[58]⟩ : ByteArray)).size + t146.size ≤ 9223372036854775807 then (if ((((((((t142 ++ (⟨#[45]⟩ : ByteArray)) ++ t143) ++ (⟨#[45]⟩ : ByteArray)) ++ t144) ++ (⟨#[84]⟩ : ByteArray)) ++ t145) ++ (⟨#[58]⟩ : ByteArray)) ++ t146).size + 1 ≤ 9223372036854775807 then ((timesyncref05_digits.f a0_5 2).bind fun t147 => (if (((((((((t142 ++ (⟨#[45]⟩ : ByteArray)) ++ t143) ++ (⟨#[45]⟩ : ByteArray)) ++ t144) ++ (⟨#[84]⟩ : ByteArray)) ++ t145) ++ (⟨#[58]⟩ : ByteArray)) ++ t146) ++ (⟨#[58]⟩ : ByteArray)).size + t147.size ≤ 9223372036854775807 then (if ((((((((((t142 ++ (⟨#[45]⟩ : ByteArray)) ++ t143) ++ (⟨#[45]⟩ : ByteArray)) ++ t144) ++ (⟨#[84]⟩ : ByteArray)) ++ t145) ++ (⟨#[58]⟩ : ByteArray)) ++ t146) ++ (⟨#[58]⟩ : ByteArray)) ++ t147).size + 1 ≤ 9223372036854775807 then ((timesyncref05_digits.f a0_6 9).bind fun t148 => (if (((((((((((t142 ++ (⟨#[45]⟩ : ByteArray)) ++ t143) ++ (⟨#[45]⟩ : ByteArray)) ++ t144) ++ (⟨#[84]⟩ : ByteArray)) ++ t145) ++ (⟨#[58]⟩ : ByteArray)) ++ t146) ++ (⟨#[58]⟩ : ByteArray)) ++ t147) ++ (⟨#[46]⟩ : ByteArray)).size + t148.size ≤ 9223372036854775807 then (if ((((((((((((t142 ++ (⟨#[45]⟩ : ByteArray)) ++ t143) ++ (⟨#[45]⟩ : ByteArray)) ++ t144) ++ (⟨#[84]⟩ : ByteArray)) ++ t145) ++ (⟨#[58]⟩ : ByteArray)) ++ t146) ++ (⟨#[58]⟩ : ByteArray)) ++ t147) ++ (⟨#[46]⟩ : ByteArray)) ++ t148).size + 1 ≤ 9223372036854775807 then (some (((((((((((((t142 ++ (⟨#[45]⟩ : ByteArray)) ++ t143) ++ (⟨#[45]⟩ : ByteArray)) ++ t144) ++ (⟨#[84]⟩ : ByteArray)) ++ t145) ++ (⟨#[58]⟩ : ByteArray)) ++ t146) ++ (⟨#[58]⟩ : ByteArray)) ++ t147) ++ (⟨#[46]⟩ : ByteArray)) ++ t148) ++ (⟨#[90]⟩ : ByteArray))) else (none)) else (none))) else (none)) else (none))) else (none)) else (none))) else (none)) else (none))) else (none)) else (none))) else (none)) else (none))) else (none))) else (some (⟨#[]⟩ : ByteArray)))
theorem timesyncref05_Text.mono : ∀ a0 a1 a2 a3 a4 a5 a6 k, LeO (timesyncref05_Text.f k a0 a1 a2 a3 a4 a5 a6) (timesyncref05_Text.f (k + 1) a0 a1 a2 a3 a4 a5 a6) := by
 intro a0 a1 a2 a3 a4 a5 a6 k
 unfold timesyncref05_Text.f
 repeat' first
   | (with_reducible exact timesyncref05_Check.mono _ _ _ _ _ _ _ _)
   | (with_reducible exact LeO.refl _)
   | (with_reducible exact LeO.none _)
   | (with_reducible refine LeO.ite ?_ ?_)
   | (with_reducible refine LeO.bind ?_ (fun _ => ?_))
   | exact timesyncref05_Check.mono _ _ _ _ _ _ _ _
   | exact LeO.none _
   | refine LeO.ite ?_ ?_
   | refine LeO.bind ?_ (fun _ => ?_)
def timesyncref05_Text.T3 : Bool × List (List Nat × List Nat) := (true, [([], []), ([0], [0]), ([1], [1]), ([2], [2]), ([], []), ([4], [4]), ([5, 2], [5]), ([3, 6], [3, 6]), ([7], [7]), ([], []), ([9], [9]), ([10, 6], [10]), ([8, 11], [8, 11]), ([12], [12]), ([], []), ([14], [14]), ([15, 11], [15]), ([13, 16], [13, 16]), ([17], [17]), ([], []), ([19], [19]), ([20, 16], [20]), ([18, 21], [18, 21]), ([22], [22]), ([], []), ([24], [24]), ([25, 21], [25]), ([23, 26], [23, 26]), ([27], [27]), ([], []), ([29], [29]), ([30, 26], [30]), ([28, 31], [28, 31]), ([32], [32]), ([33, 31, 0, 1, 2, 3, 4, 5, 6, 7, 8, 9, 10, 11, 12, 13, 14, 15, 16, 17, 18, 19, 20, 21, 22, 23, 24, 25, 26, 27, 28, 29, 30, 31, 32, 33], [33])])
def timesyncref05_Text.B3 : List Nat := [0, 1, 3, 7, 0, 16, 55, 127, 255, 0, 512, 1655, 4095, 8191, 0, 16384, 52855, 131071, 262143, 0, 524288, 1691255, 4194303, 8388607, 0, 16777216, 54120055, 134217727, 268435455, 0, 536870912, 1731841655, 4294967295, 8589934591, 17179869183]
theorem timesyncref05_Text.tab3 : rtab .any (opsOf Try.f17 3) = timesyncref05_Text.T3 := by kernel_rfl
theorem timesyncref05_Text.bits3 : waitsOk timesyncref05_Text.T3.2 timesyncref05_Text.B3 = true := by kernel_rfl
set_option maxHeartbeats 8000000 in
set_option maxRecDepth 100000 in
theorem timesyncref05_Text.calls (k : Nat) (a0_0 : Int) (a0_1 : Int) (a0_2 : Int) (a0_3 : Int) (a0_4 : Int) (a0_5 : Int) (a0_6 : Int) (r : ByteArray) (w : World) (h : timesyncref05_Text.f k a0_0 a0_1 a0_2 a0_3 a0_4 a0_5 a0_6 = some r) :
  Calls Try.prog 17 #[.agg #[.int .i64 a0_0, .int .i64 a0_1, .int .i64 a0_2, .int .i64 a0_3, .int .i64 a0_4, .int .i64 a0_5, .int .i64 a0_6]] w fun e w' => e = .returned (.string r) ∧ Below w.heap.size w w' := by
 have hu23 := Try.underlying23
 have HB := Aside0.mk (Below.refl w.heap.size w)
 have H : ((timesyncref05_Check.f k a0_0 a0_1 a0_2 a0_3 a0_4 a0_5 a0_6).bind fun t141 => (if t141 = 0 then ((timesyncref05_digits.f a0_0 4).bind fun t142 => (if t142.size + 1 ≤ 9223372036854775807 then ((timesyncref05_digits.f a0_1 2).bind fun t143 => (if (t142 ++ (⟨#[45]⟩ : ByteArray)).size + t143.size ≤ 9223372036854775807 then (if ((t142 ++ (⟨#[45]⟩ : ByteArray)) ++ t143).size + 1 ≤ 9223372036854775807 then ((timesyncref05_digits.f a0_2 2).bind fun t144 => (if (((t142 ++ (⟨#[45]⟩ : ByteArray)) ++ t143) ++ (⟨#[45]⟩ : ByteArray)).size + t144.size ≤ 9223372036854775807 then (if ((((t142 ++ (⟨#[45]⟩ : ByteArray)) ++ t143) ++ (⟨#[45]⟩ : ByteArray)) ++ t144).size + 1 ≤ 9223372036854775807 then ((timesyncref05_digits.f a0_3 2).bind fun t145 => (if (((((t142 ++ (⟨#[45]⟩ : ByteArray)) ++ t143) ++ (⟨#[45]⟩ : ByteArray)) ++ t144) ++ (⟨#[84]⟩ : ByteArray)).size + t145.size ≤ 9223372036854775807 then (if ((((((t142 ++ (⟨#[45]⟩ : ByteArray)) ++ t143) ++ (⟨#[45]⟩ : ByteArray)) ++ t144) ++ (⟨#[84]⟩ : ByteArray)) ++ t145).size + 1 ≤ 9223372036854775807 then ((timesyncref05_digits.f a0_4 2).bind fun t146 => (if (((((((t142 ++ (⟨#[45]⟩ : ByteArray)) ++ t143) ++ (⟨#[45]⟩ : ByteArray)) ++ t144) ++ (⟨#[84]⟩ : ByteArray)) ++ t145) ++ (⟨#[58]⟩ : ByteArray)).size + t146.size ≤ 9223372036854775807 then (if ((((((((t142 ++ (⟨#[45]⟩ : ByteArray)) ++ t143) ++ (⟨#[45]⟩ : ByteArray)) ++ t144) ++ (⟨#[84]⟩ : ByteArray)) ++ t145) ++ (⟨#[58]⟩ : ByteArray)) ++ t146).size + 1 ≤ 9223372036854775807 then ((timesyncref05_digits.f a0_5 2).bind fun t147 => (if (((((((((t142 ++ (⟨#[45]⟩ : ByteArray)) ++ t143) ++ (⟨#[45]⟩ : ByteArray)) ++ t144) ++ (⟨#[84]⟩ : ByteArray)) ++ t145) ++ (⟨#[58]⟩ : ByteArray)) ++ t146) ++ (⟨#[58]⟩ : ByteArray)).size + t147.size ≤ 9223372036854775807 then (if ((((((((((t142 ++ (⟨#[45]⟩ : ByteArray)) ++ t143) ++ (⟨#[45]⟩ : ByteArray)) ++ t144) ++ (⟨#[84]⟩ : ByteArray)) ++ t145) ++ (⟨#[58]⟩ : ByteArray)) ++ t146) ++ (⟨#[58]⟩ : ByteArray)) ++ t147).size + 1 ≤ 9223372036854775807 then ((timesyncref05_digits.f a0_6 9).bind fun t148 => (if (((((((((((t142 ++ (⟨#[45]⟩ : ByteArray)) ++ t143) ++ (⟨#[45]⟩ : ByteArray)) ++ t144) ++ (⟨#[84]⟩ : ByteArray)) ++ t145) ++ (⟨#[58]⟩ : ByteArray)) ++ t146) ++ (⟨#[58]⟩ : ByteArray)) ++ t147) ++ (⟨#[46]⟩ : ByteArray)).size + t148.size ≤ 9223372036854775807 then (if ((((((((((((t142 ++ (⟨#[45]⟩ : ByteArray)) ++ t143) ++ (⟨#[45]⟩ : ByteArray)) ++ t144) ++ (⟨#[84]⟩ : ByteArray)) ++ t145) ++ (⟨#[58]⟩ : ByteArray)) ++ t146) ++ (⟨#[58]⟩ : ByteArray)) ++ t147) ++ (⟨#[46]⟩ : ByteArray)) ++ t148).size + 1 ≤ 9223372036854775807 then (some (((((((((((((t142 ++ (⟨#[45]⟩ : ByteArray)) ++ t143) ++ (⟨#[45]⟩ : ByteArray)) ++ t144) ++ (⟨#[84]⟩ : ByteArray)) ++ t145) ++ (⟨#[58]⟩ : ByteArray)) ++ t146) ++ (⟨#[58]⟩ : ByteArray)) ++ t147) ++ (⟨#[46]⟩ : ByteArray)) ++ t148) ++ (⟨#[90]⟩ : ByteArray))) else (none)) else (none))) else (none)) else (none))) else (none)) else (none))) else (none)) else (none))) else (none)) else (none))) else (none)) else (none))) else (none))) else (some (⟨#[]⟩ : ByteArray)))) = some r := h
 clear h
 replace H := Option.bind_eq_some_iff.mp H
 obtain ⟨t141, A20, H⟩ := H
 replace H : (if t141 = 0 then ((timesyncref05_digits.f a0_0 4).bind fun t142 => (if t142.size + 1 ≤ 9223372036854775807 then ((timesyncref05_digits.f a0_1 2).bind fun t143 => (if (t142 ++ (⟨#[45]⟩ : ByteArray)).size + t143.size ≤ 9223372036854775807 then (if ((t142 ++ (⟨#[45]⟩ : ByteArray)) ++ t143).size + 1 ≤ 9223372036854775807 then ((timesyncref05_digits.f a0_2 2).bind fun t144 => (if (((t142 ++ (⟨#[45]⟩ : ByteArray)) ++ t143) ++ (⟨#[45]⟩ : ByteArray)).size + t144.size ≤ 9223372036854775807 then (if ((((t142 ++ (⟨#[45]⟩ : ByteArray)) ++ t143) ++ (⟨#[45]⟩ : ByteArray)) ++ t144).size + 1 ≤ 9223372036854775807 then ((timesyncref05_digits.f a0_3 2).bind fun t145 => (if (((((t142 ++ (⟨#[45]⟩ : ByteArray)) ++ t143) ++ (⟨#[45]⟩ : ByteArray)) ++ t144) ++ (⟨#[84]⟩ : ByteArray)).size + t145.size ≤ 9223372036854775807 then (if ((((((t142 ++ (⟨#[45]⟩ : ByteArray)) ++ t143) ++ (⟨#[45]⟩ : ByteArray)) ++ t144) ++ (⟨#[84]⟩ : ByteArray)) ++ t145).size + 1 ≤ 9223372036854775807 then ((timesyncref05_digits.f a0_4 2).bind fun t146 => (if (((((((t142 ++ (⟨#[45]⟩ : ByteArray)) ++ t143) ++ (⟨#[45]⟩ : ByteArray)) ++ t144) ++ (⟨#[84]⟩ : ByteArray)) ++ t145) ++ (⟨#[58]⟩ : ByteArray)).size + t146.size ≤ 9223372036854775807 then (if ((((((((t142 ++ (⟨#[45]⟩ : ByteArray)) ++ t143) ++ (⟨#[45]⟩ : ByteArray)) ++ t144) ++ (⟨#[84]⟩ : ByteArray)) ++ t145) ++ (⟨#[58]⟩ : ByteArray)) ++ t146).size + 1 ≤ 9223372036854775807 then ((timesyncref05_digits.f a0_5 2).bind fun t147 => (if (((((((((t142 ++ (⟨#[45]⟩ : ByteArray)) ++ t143) ++ (⟨#[45]⟩ : ByteArray)) ++ t144) ++ (⟨#[84]⟩ : ByteArray)) ++ t145) ++ (⟨#[58]⟩ : ByteArray)) ++ t146) ++ (⟨#[58]⟩ : ByteArray)).size + t147.size ≤ 9223372036854775807 then (if ((((((((((t142 ++ (⟨#[45]⟩ : ByteArray)) ++ t143) ++ (⟨#[45]⟩ : ByteArray)) ++ t144) ++ (⟨#[84]⟩ : ByteArray)) ++ t145) ++ (⟨#[58]⟩ : ByteArray)) ++ t146) ++ (⟨#[58]⟩ : ByteArray)) ++ t147).size + 1 ≤ 9223372036854775807 then ((timesyncref05_digits.f a0_6 9).bind fun t148 => (if (((((((((((t142 ++ (⟨#[45]⟩ : ByteArray)) ++ t143) ++ (⟨#[45]⟩ : ByteArray)) ++ t144) ++ (⟨#[84]⟩ : ByteArray)) ++ t145) ++ (⟨#[58]⟩ : ByteArray)) ++ t146) ++ (⟨#[58]⟩ : ByteArray)) ++ t147) ++ (⟨#[46]⟩ : ByteArray)).size + t148.size ≤ 9223372036854775807 then (if ((((((((((((t142 ++ (⟨#[45]⟩ : ByteArray)) ++ t143) ++ (⟨#[45]⟩ : ByteArray)) ++ t144) ++ (⟨#[84]⟩ : ByteArray)) ++ t145) ++ (⟨#[58]⟩ : ByteArray)) ++ t146) ++ (⟨#[58]⟩ : ByteArray)) ++ t147) ++ (⟨#[46]⟩ : ByteArray)) ++ t148).size + 1 ≤ 9223372036854775807 then (some (((((((((((((t142 ++ (⟨#[45]⟩ : ByteArray)) ++ t143) ++ (⟨#[45]⟩ : ByteArray)) ++ t144) ++ (⟨#[84]⟩ : ByteArray)) ++ t145) ++ (⟨#[58]⟩ : ByteArray)) ++ t146) ++ (⟨#[58]⟩ : ByteArray)) ++ t147) ++ (⟨#[46]⟩ : ByteArray)) ++ t148) ++ (⟨#[90]⟩ : ByteArray))) else (none)) else (none))) else (none)) else (none))) else (none)) else (none))) else (none)) else (none))) else (none)) else (none))) else (none)) else (none))) else (none))) else (some (⟨#[]⟩ : ByteArray))) = some r := H
 have A2 := Aside0.mk A20
 clear A20
 by_cases c3 : t141 = 0
 ·rw [if_pos c3] at H
  have c3b0 : (t141 == 0) = true := beq_iff_eq.mpr c3
  have c3b1 : (t141 != 0) = false := bne_eq_false_iff_eq.mpr c3
  clear c3
  replace H := Option.bind_eq_some_iff.mp H
  obtain ⟨t142, A40, H⟩ := H
  replace H : (if t142.size + 1 ≤ 9223372036854775807 then ((timesyncref05_digits.f a0_1 2).bind fun t143 => (if (t142 ++ (⟨#[45]⟩ : ByteArray)).size + t143.size ≤ 9223372036854775807 then (if ((t142 ++ (⟨#[45]⟩ : ByteArray)) ++ t143).size + 1 ≤ 9223372036854775807 then ((timesyncref05_digits.f a0_2 2).bind fun t144 => (if (((t142 ++ (⟨#[45]⟩ : ByteArray)) ++ t143) ++ (⟨#[45]⟩ : ByteArray)).size + t144.size ≤ 9223372036854775807 then (if ((((t142 ++ (⟨#[45]⟩ : ByteArray)) ++ t143) ++ (⟨#[45]⟩ : ByteArray)) ++ t144).size + 1 ≤ 9223372036854775807 then ((timesyncref05_digits.f a0_3 2).bind fun t145 => (if (((((t142 ++ (⟨#[45]⟩ : ByteArray)) ++ t143) ++ (⟨#[45]⟩ : ByteArray)) ++ t144) ++ (⟨#[84]⟩ : ByteArray)).size + t145.size ≤ 9223372036854775807 then (if ((((((t142 ++ (⟨#[45]⟩ : ByteArray)) ++ t143) ++ (⟨#[45]⟩ : ByteArray)) ++ t144) ++ (⟨#[84]⟩ : ByteArray)) ++ t145).size + 1 ≤ 9223372036854775807 then ((timesyncref05_digits.f a0_4 2).bind fun t146 => (if (((((((t142 ++ (⟨#[45]⟩ : ByteArray)) ++ t143) ++ (⟨#[45]⟩ : ByteArray)) ++ t144) ++ (⟨#[84]⟩ : ByteArray)) ++ t145) ++ (⟨#[58]⟩ : ByteArray)).size + t146.size ≤ 9223372036854775807 then (if ((((((((t142 ++ (⟨#[45]⟩ : ByteArray)) ++ t143) ++ (⟨#[45]⟩ : ByteArray)) ++ t144) ++ (⟨#[84]⟩ : ByteArray)) ++ t145) ++ (⟨#[58]⟩ : ByteArray)) ++ t146).size + 1 ≤ 9223372036854775807 then ((timesyncref05_digits.f a0_5 2).bind fun t147 => (if (((((((((t142 ++ (⟨#[45]⟩ : ByteArray)) ++ t143) ++ (⟨#[45]⟩ : ByteArray)) ++ t144) ++ (⟨#[84]⟩ : ByteArray)) ++ t145) ++ (⟨#[58]⟩ : ByteArray)) ++ t146) ++ (⟨#[58]⟩ : ByteArray)).size + t147.size ≤ 9223372036854775807 then (if ((((((((((t142 ++ (⟨#[45]⟩ : ByteArray)) ++ t143) ++ (⟨#[45]⟩ : ByteArray)) ++ t144) ++ (⟨#[84]⟩ : ByteArray)) ++ t145) ++ (⟨#[58]⟩ : ByteArray)) ++ t146) ++ (⟨#[58]⟩ : ByteArray)) ++ t147).size + 1 ≤ 9223372036854775807 then ((timesyncref05_digits.f a0_6 9).bind fun t148 => (if (((((((((((t142 ++ (⟨#[45]⟩ : ByteArray)) ++ t143) ++ (⟨#[45]⟩ : ByteArray)) ++ t144) ++ (⟨#[84]⟩ : ByteArray)) ++ t145) ++ (⟨#[58]⟩ : ByteArray)) ++ t146) ++ (⟨#[58]⟩ : ByteArray)) ++ t147) ++ (⟨#[46]⟩ : ByteArray)).size + t148.size ≤ 9223372036854775807 then (if ((((((((((((t142 ++ (⟨#[45]⟩ : ByteArray)) ++ t143) ++ (⟨#[45]⟩ : ByteArray)) ++ t144) ++ (⟨#[84]⟩ : ByteArray)) ++ t145) ++ (⟨#[58]⟩ : ByteArray)) ++ t146) ++ (⟨#[58]⟩ : ByteArray)) ++ t147) ++ (⟨#[46]⟩ : ByteArray)) ++ t148).size + 1 ≤ 9223372036854775807 then (some (((((((((((((t142 ++ (⟨#[45]⟩ : ByteArray)) ++ t143) ++ (⟨#[45]⟩ : ByteArray)) ++ t144) ++ (⟨#[84]⟩ : ByteArray)) ++ t145) ++ (⟨#[58]⟩ : ByteArray)) ++ t146) ++ (⟨#[58]⟩ : ByteArray)) ++ t147) ++ (⟨#[46]⟩ : ByteArray)) ++ t148) ++ (⟨#[90]⟩ : ByteArray))) else (none)) else (none))) else (none)) else (none))) else (none)) else (none))) else (none)) else (none))) else (none)) else (none))) else (none)) else (none))) else (none)) = some r := H
  have A4 := Aside0.mk A40
  clear A40
  by_cases c5 : t142.size + 1 ≤ 9223372036854775807
  ·rw [if_pos c5] at H
   have c5b0 := eq_true c5
   have c5b1 : decide (t142.size + 1 ≤ 9223372036854775807) = true := decide_eq_true c5
   try have c5b2 : (9223372036854775807 < t142.size + 1) = False := eq_false (Nat.not_lt.2 c5)
   replace H := Option.bind_eq_some_iff.mp H
   obtain ⟨t143, A60, H⟩ := H
   replace H : (if (t142 ++ (⟨#[45]⟩ : ByteArray)).size + t143.size ≤ 9223372036854775807 then (if ((t142 ++ (⟨#[45]⟩ : ByteArray)) ++ t143).size + 1 ≤ 9223372036854775807 then ((timesyncref05_digits.f a0_2 2).bind fun t144 => (if (((t142 ++ (⟨#[45]⟩ : ByteArray)) ++ t143) ++ (⟨#[45]⟩ : ByteArray)).size + t144.size ≤ 9223372036854775807 then (if ((((t142 ++ (⟨#[45]⟩ : ByteArray)) ++ t143) ++ (⟨#[45]⟩ : ByteArray)) ++ t144).size + 1 ≤ 9223372036854775807 then ((timesyncref05_digits.f a0_3 2).bind fun t145 => (if (((((t142 ++ (⟨#[45]⟩ : ByteArray)) ++ t143) ++ (⟨#[45]⟩ : ByteArray)) ++ t144) ++ (⟨#[84]⟩ : ByteArray)).size + t145.size ≤ 9223372036854775807 then (if ((((((t142 ++ (⟨#[45]⟩ : ByteArray)) ++ t143) ++ (⟨#[45]⟩ : ByteArray)) ++ t144) ++ (⟨#[84]⟩ : ByteArray)) ++ t145).size + 1 ≤ 9223372036854775807 then ((timesyncref05_digits.f a0_4 2).bind fun t146 => (if (((((((t142 ++ (⟨#[45]⟩ : ByteArray)) ++ t143) ++ (⟨#[45]⟩ : ByteArray)) ++ t144) ++ (⟨#[84]⟩ : ByteArray)) ++ t145) ++ (⟨#[58]⟩ : ByteArray)).size + t146.size ≤ 9223372036854775807 then (if ((((((((t142 ++ (⟨#[45]⟩ : ByteArray)) ++ t143) ++ (⟨#[45]⟩ : ByteArray)) ++ t144) ++ (⟨#[84]⟩ : ByteArray)) ++ t145) ++ (⟨#[58]⟩ : ByteArray)) ++ t146).size + 1 ≤ 9223372036854775807 then ((timesyncref05_digits.f a0_5 2).bind fun t147 => (if (((((((((t142 ++ (⟨#[45]⟩ : ByteArray)) ++ t143) ++ (⟨#[45]⟩ : ByteArray)) ++ t144) ++ (⟨#[84]⟩ : ByteArray)) ++ t145) ++ (⟨#[58]⟩ : ByteArray)) ++ t146) ++ (⟨#[58]⟩ : ByteArray)).size + t147.size ≤ 9223372036854775807 then (if ((((((((((t142 ++ (⟨#[45]⟩ : ByteArray)) ++ t143) ++ (⟨#[45]⟩ : ByteArray)) ++ t144) ++ (⟨#[84]⟩ : ByteArray)) ++ t145) ++ (⟨#[58]⟩ : ByteArray)) ++ t146) ++ (⟨#[58]⟩ : ByteArray)) ++ t147).size + 1 ≤ 9223372036854775807 then ((timesyncref05_digits.f a0_6 9).bind fun t148 => (if (((((((((((t142 ++ (⟨#[45]⟩ : ByteArray)) ++ t143) ++ (⟨#[45]⟩ : ByteArray)) ++ t144) ++ (⟨#[84]⟩ : ByteArray)) ++ t145) ++ (⟨#[58]⟩ : ByteArray)) ++ t146) ++ (⟨#[58]⟩ : ByteArray)) ++ t147) ++ (⟨#[46]⟩ : ByteArray)).size + t148.size ≤ 9223372036854775807 then (if ((((((((((((t142 ++ (⟨#[45]⟩ : ByteArray)) ++ t143) ++ (⟨#[45]⟩ : ByteArray)) ++ t144) ++ (⟨#[84]⟩ : ByteArray)) ++ t145) ++ (⟨#[58]⟩ : ByteArray)) ++ t146) ++ (⟨#[58]⟩ : ByteArray)) ++ t147) ++ (⟨#[46]⟩ : ByteArray)) ++ t148).size + 1 ≤ 9223372036854775807 then (some (((((((((((((t142 ++ (⟨#[45]⟩ : ByteArray)) ++ t143) ++ (⟨#[45]⟩ : ByteArray)) ++ t144) ++ (⟨#[84]⟩ : ByteArray)) ++ t145) ++ (⟨#[58]⟩ : ByteArray)) ++ t146) ++ (⟨#[58]⟩ : ByteArray)) ++ t147) ++ (⟨#[46]⟩ : ByteArray)) ++ t148) ++ (⟨#[90]⟩ : ByteArray))) else (none)) else (none))) else (none)) else (none))) else (none)) else (none))) else (none)) else (none))) else (none)) else (none))) else (none)) else (none)) = some r := H
   have A6 := Aside0.mk A60
   clear A60
   by_cases c7 : (t142 ++ (⟨#[45]⟩ : ByteArray)).size + t143.size ≤ 9223372036854775807
   ·rw [if_pos c7] at H
    have c7b0 := eq_true c7
    have c7b1 : decide ((t142 ++ (⟨#[45]⟩ : ByteArray)).size + t143.size ≤ 9223372036854775807) = true := decide_eq_true c7
    try have c7b2 : (9223372036854775807 < (t142 ++ (⟨#[45]⟩ : ByteArray)).size + t143.size) = False := eq_false (Nat.not_lt.2 c7)
    have c7s : (9223372036854775807 < t142.size + 1 + t143.size) = False := eq_false (by have e_ := c7; have e1_ : ∀ x : UInt8, (⟨#[x]⟩ : ByteArray).size = 1 := fun _ => rfl; simp only [ByteArray.size_append, e1_] at e_; omega)
    by_cases c8 : ((t142 ++ (⟨#[45]⟩ : ByteArray)) ++ t143).size + 1 ≤ 9223372036854775807
    ·rw [if_pos c8] at H
     have c8b0 := eq_true c8
     have c8b1 : decide (((t142 ++ (⟨#[45]⟩ : ByteArray)) ++ t143).size + 1 ≤ 9223372036854775807) = true := decide_eq_true c8
     try have c8b2 : (9223372036854775807 < ((t142 ++ (⟨#[45]⟩ : ByteArray)) ++ t143).size + 1) = False := eq_false (Nat.not_lt.2 c8)
     have c8s : (9223372036854775807 < t142.size + 1 + t143.size + 1) = False := eq_false (by have e_ := c8; have e1_ : ∀ x : UInt8, (⟨#[x]⟩ : ByteArray).size = 1 := fun _ => rfl; simp only [ByteArray.size_append, e1_] at e_; omega)
     replace H := Option.bind_eq_some_iff.mp H
     obtain ⟨t144, A90, H⟩ := H
     replace H : (if (((t142 ++ (⟨#[45]⟩ : ByteArray)) ++ t143) ++ (⟨#[45]⟩ : ByteArray)).size + t144.size ≤ 9223372036854775807 then (if ((((t142 ++ (⟨#[45]⟩ : ByteArray)) ++ t143) ++ (⟨#[45]⟩ : ByteArray)) ++ t144).size + 1 ≤ 9223372036854775807 then ((timesyncref05_digits.f a0_3 2).bind fun t145 => (if (((((t142 ++ (⟨#[45]⟩ : ByteArray)) ++ t143) ++ (⟨#[45]⟩ : ByteArray)) ++ t144) ++ (⟨#[84]⟩ : ByteArray)).size + t145.size ≤ 9223372036854775807 then (if ((((((t142 ++ (⟨#[45]⟩ : ByteArray)) ++ t143) ++ (⟨#[45]⟩ : ByteArray)) ++ t144) ++ (⟨#[84]⟩ : ByteArray)) ++ t145).size + 1 ≤ 9223372036854775807 then ((timesyncref05_digits.f a0_4 2).bind fun t146 => (if (((((((t142 ++ (⟨#[45]⟩ : ByteArray)) ++ t143) ++ (⟨#[45]⟩ : ByteArray)) ++ t144) ++ (⟨#[84]⟩ : ByteArray)) ++ t145) ++ (⟨#[58]⟩ : ByteArray)).size + t146.size ≤ 9223372036854775807 then (if ((((((((t142 ++ (⟨#[45]⟩ : ByteArray)) ++ t143) ++ (⟨#[45]⟩ : ByteArray)) ++ t144) ++ (⟨#[84]⟩ : ByteArray)) ++ t145) ++ (⟨#[58]⟩ : ByteArray)) ++ t146).size + 1 ≤ 9223372036854775807 then ((timesyncref05_digits.f a0_5 2).bind fun t147 => (if (((((((((t142 ++ (⟨#[45]⟩ : ByteArray)) ++ t143) ++ (⟨#[45]⟩ : ByteArray)) ++ t144) ++ (⟨#[84]⟩ : ByteArray)) ++ t145) ++ (⟨#[58]⟩ : ByteArray)) ++ t146) ++ (⟨#[58]⟩ : ByteArray)).size + t147.size ≤ 9223372036854775807 then (if ((((((((((t142 ++ (⟨#[45]⟩ : ByteArray)) ++ t143) ++ (⟨#[45]⟩ : ByteArray)) ++ t144) ++ (⟨#[84]⟩ : ByteArray)) ++ t145) ++ (⟨#[58]⟩ : ByteArray)) ++ t146) ++ (⟨#[58]⟩ : ByteArray)) ++ t147).size + 1 ≤ 9223372036854775807 then ((timesyncref05_digits.f a0_6 9).bind fun t148 => (if (((((((((((t142 ++ (⟨#[45]⟩ : ByteArray)) ++ t143) ++ (⟨#[45]⟩ : ByteArray)) ++ t144) ++ (⟨#[84]⟩ : ByteArray)) ++ t145) ++ (⟨#[58]⟩ : ByteArray)) ++ t146) ++ (⟨#[58]⟩ : ByteArray)) ++ t147) ++ (⟨#[46]⟩ : ByteArray)).size + t148.size ≤ 9223372036854775807 then (if ((((((((((((t142 ++ (⟨#[45]⟩ : ByteArray)) ++ t143) ++ (⟨#[45]⟩ : ByteArray)) ++ t144) ++ (⟨#[84]⟩ : ByteArray)) ++ t145) ++ (⟨#[58]⟩ : ByteArray)) ++ t146) ++ (⟨#[58]⟩ : ByteArray)) ++ t147) ++ (⟨#[46]⟩ : ByteArray)) ++ t148).size + 1 ≤ 9223372036854775807 then (some (((((((((((((t142 ++ (⟨#[45]⟩ : ByteArray)) ++ t143) ++ (⟨#[45]⟩ : ByteArray)) ++ t144) ++ (⟨#[84]⟩ : ByteArray)) ++ t145) ++ (⟨#[58]⟩ : ByteArray)) ++ t146) ++ (⟨#[58]⟩ : ByteArray)) ++ t147) ++ (⟨#[46]⟩ : ByteArray)) ++ t148) ++ (⟨#[90]⟩ : ByteArray))) else (none)) else (none))) else (none)) else (none))) else (none)) else (none))) else (none)) else (none))) else (none)) else (none)) = some r := H
     have A9 := Aside0.mk A90
     clear A90
     by_cases c10 : (((t142 ++ (⟨#[45]⟩ : ByteArray)) ++ t143) ++ (⟨#[45]⟩ : ByteArray)).size + t144.size ≤ 9223372036854775807
     ·rw [if_pos c10] at H
      have c10b0 := eq_true c10
      have c10b1 : decide ((((t142 ++ (⟨#[45]⟩ : ByteArray)) ++ t143) ++ (⟨#[45]⟩ : ByteArray)).size + t144.size ≤ 9223372036854775807) = true := decide_eq_true c10
      try have c10b2 : (9223372036854775807 < (((t142 ++ (⟨#[45]⟩ : ByteArray)) ++ t143) ++ (⟨#[45]⟩ : ByteArray)).size + t144.size) = False := eq_false (Nat.not_lt.2 c10)
      have c10s : (9223372036854775807 < t142.size + 1 + t143.size + 1 + t144.size) = False := eq_false (by have e_ := c10; have e1_ : ∀ x : UInt8, (⟨#[x]⟩ : ByteArray).size = 1 := fun _ => rfl; simp only [ByteArray.size_append, e1_] at e_; omega)
      by_cases c11 : ((((t142 ++ (⟨#[45]⟩ : ByteArray)) ++ t143) ++ (⟨#[45]⟩ : ByteArray)) ++ t144).size + 1 ≤ 9223372036854775807
      ·rw [if_pos c11] at H
       have c11b0 := eq_true c11
       have c11b1 : decide (((((t142 ++ (⟨#[45]⟩ : ByteArray)) ++ t143) ++ (⟨#[45]⟩ : ByteArray)) ++ t144).size + 1 ≤ 9223372036854775807) = true := decide_eq_true c11
       try have c11b2 : (9223372036854775807 < ((((t142 ++ (⟨#[45]⟩ : ByteArray)) ++ t143) ++ (⟨#[45]⟩ : ByteArray)) ++ t144).size + 1) = False := eq_false (Nat.not_lt.2 c11)
       have c11s : (9223372036854775807 < t142.size + 1 + t143.size + 1 + t144.size + 1) = False := eq_false (by have e_ := c11; have e1_ : ∀ x : UInt8, (⟨#[x]⟩ : ByteArray).size = 1 := fun _ => rfl; simp only [ByteArray.size_append, e1_] at e_; omega)
       replace H := Option.bind_eq_some_iff.mp H
       obtain ⟨t145, A120, H⟩ := H
       replace H : (if (((((t142 ++ (⟨#[45]⟩ : ByteArray)) ++ t143) ++ (⟨#[45]⟩ : ByteArray)) ++ t144) ++ (⟨#[84]⟩ : ByteArray)).size + t145.size ≤ 9223372036854775807 then (if ((((((t142 ++ (⟨#[45]⟩ : ByteArray)) ++ t143) ++ (⟨#[45]⟩ : ByteArray)) ++ t144) ++ (⟨#[84]⟩ : ByteArray)) ++ t145).size + 1 ≤ 9223372036854775807 then ((timesyncref05_digits.f a0_4 2).bind fun t146 => (if (((((((t142 ++ (⟨#[45]⟩ : ByteArray)) ++ t143) ++ (⟨#[45]⟩ : ByteArray)) ++ t144) ++ (⟨#[84]⟩ : ByteArray)) ++ t145) ++ (⟨#[58]⟩ : ByteArray)).size + t146.size ≤ 9223372036854775807 then (if ((((((((t142 ++ (⟨#[45]⟩ : ByteArray)) ++ t143) ++ (⟨#[45]⟩ : ByteArray)) ++ t144) ++ (⟨#[84]⟩ : ByteArray)) ++ t145) ++ (⟨#[58]⟩ : ByteArray)) ++ t146).size + 1 ≤ 9223372036854775807 then ((timesyncref05_digits.f a0_5 2).bind fun t147 => (if (((((((((t142 ++ (⟨#[45]⟩ : ByteArray)) ++ t143) ++ (⟨#[45]⟩ : ByteArray)) ++ t144) ++ (⟨#[84]⟩ : ByteArray)) ++ t145) ++ (⟨#[58]⟩ : ByteArray)) ++ t146) ++ (⟨#[58]⟩ : ByteArray)).size + t147.size ≤ 9223372036854775807 then (if ((((((((((t142 ++ (⟨#[45]⟩ : ByteArray)) ++ t143) ++ (⟨#[45]⟩ : ByteArray)) ++ t144) ++ (⟨#[84]⟩ : ByteArray)) ++ t145) ++ (⟨#[58]⟩ : ByteArray)) ++ t146) ++ (⟨#[58]⟩ : ByteArray)) ++ t147).size + 1 ≤ 9223372036854775807 then ((timesyncref05_digits.f a0_6 9).bind fun t148 => (if (((((((((((t142 ++ (⟨#[45]⟩ : ByteArray)) ++ t143) ++ (⟨#[45]⟩ : ByteArray)) ++ t144) ++ (⟨#[84]⟩ : ByteArray)) ++ t145) ++ (⟨#[58]⟩ : ByteArray)) ++ t146) ++ (⟨#[58]⟩ : ByteArray)) ++ t147) ++ (⟨#[46]⟩ : ByteArray)).size + t148.size ≤ 9223372036854775807 then (if ((((((((((((t142 ++ (⟨#[45]⟩ : ByteArray)) ++ t143) ++ (⟨#[45]⟩ : ByteArray)) ++ t144) ++ (⟨#[84]⟩ : ByteArray)) ++ t145) ++ (⟨#[58]⟩ : ByteArray)) ++ t146) ++ (⟨#[58]⟩ : ByteArray)) ++ t147) ++ (⟨#[46]⟩ : ByteArray)) ++ t148).size + 1 ≤ 9223372036854775807 then (some (((((((((((((t142 ++ (⟨#[45]⟩ : ByteArray)) ++ t143) ++ (⟨#[45]⟩ : ByteArray)) ++ t144) ++ (⟨#[84]⟩ : ByteArray)) ++ t145) ++ (⟨#[58]⟩ : ByteArray)) ++ t146) ++ (⟨#[58]⟩ : ByteArray)) ++ t147) ++ (⟨#[46]⟩ : ByteArray)) ++ t148) ++ (⟨#[90]⟩ : ByteArray))) else (none)) else (none))) else (none)) else (none))) else (none)) else (none))) else (none)) else (none)) = some r := H
       have A12 := Aside0.mk A120
       clear A120
       by_cases c13 : (((((t142 ++ (⟨#[45]⟩ : ByteArray)) ++ t143) ++ (⟨#[45]⟩ : ByteArray)) ++ t144) ++ (⟨#[84]⟩ : ByteArray)).size + t145.size ≤ 9223372036854775807
       ·rw [if_pos c13] at H
        have c13b0 := eq_true c13
        have c13b1 : decide ((((((t142 ++ (⟨#[45]⟩ : ByteArray)) ++ t143) ++ (⟨#[45]⟩ : ByteArray)) ++ t144) ++ (⟨#[84]⟩ : ByteArray)).size + t145.size ≤ 9223372036854775807) = true := decide_eq_true c13
        try have c13b2 : (9223372036854775807 < (((((t142 ++ (⟨#[45]⟩ : ByteArray)) ++ t143) ++ (⟨#[45]⟩ : ByteArray)) ++ t144) ++ (⟨#[84]⟩ : ByteArray)).size + t145.size) = False := eq_false (Nat.not_lt.2 c13)
        have c13s : (9223372036854775807 < t142.size + 1 + t143.size + 1 + t144.size + 1 + t145.size) = False := eq_false (by have e_ := c13; have e1_ : ∀ x : UInt8, (⟨#[x]⟩ : ByteArray).size = 1 := fun _ => rfl; simp only [ByteArray.size_append, e1_] at e_; omega)
        by_cases c14 : ((((((t142 ++ (⟨#[45]⟩ : ByteArray)) ++ t143) ++ (⟨#[45]⟩ : ByteArray)) ++ t144) ++ (⟨#[84]⟩ : ByteArray)) ++ t145).size + 1 ≤ 9223372036854775807
        ·rw [if_pos c14] at H
         have c14b0 := eq_true c14
         have c14b1 : decide (((((((t142 ++ (⟨#[45]⟩ : ByteArray)) ++ t143) ++ (⟨#[45]⟩ : ByteArray)) ++ t144) ++ (⟨#[84]⟩ : ByteArray)) ++ t145).size + 1 ≤ 9223372036854775807) = true := decide_eq_true c14
         try have c14b2 : (9223372036854775807 < ((((((t142 ++ (⟨#[45]⟩ : ByteArray)) ++ t143) ++ (⟨#[45]⟩ : ByteArray)) ++ t144) ++ (⟨#[84]⟩ : ByteArray)) ++ t145).size + 1) = False := eq_false (Nat.not_lt.2 c14)
         have c14s : (9223372036854775807 < t142.size + 1 + t143.size + 1 + t144.size + 1 + t145.size + 1) = False := eq_false (by have e_ := c14; have e1_ : ∀ x : UInt8, (⟨#[x]⟩ : ByteArray).size = 1 := fun _ => rfl; simp only [ByteArray.size_append, e1_] at e_; omega)
         replace H := Option.bind_eq_some_iff.mp H
         obtain ⟨t146, A150, H⟩ := H
         replace H : (if (((((((t142 ++ (⟨#[45]⟩ : ByteArray)) ++ t143) ++ (⟨#[45]⟩ : ByteArray)) ++ t144) ++ (⟨#[84]⟩ : ByteArray)) ++ t145) ++ (⟨#[58]⟩ : ByteArray)).size + t146.size ≤ 9223372036854775807 then (if ((((((((t142 ++ (⟨#[45]⟩ : ByteArray)) ++ t143) ++ (⟨#[45]⟩ : ByteArray)) ++ t144) ++ (⟨#[84]⟩ : ByteArray)) ++ t145) ++ (⟨#[58]⟩ : ByteArray)) ++ t146).size + 1 ≤ 9223372036854775807 then ((timesyncref05_digits.f a0_5 2).bind fun t147 => (if (((((((((t142 ++ (⟨#[45]⟩ : ByteArray)) ++ t143) ++ (⟨#[45]⟩ : ByteArray)) ++ t144) ++ (⟨#[84]⟩ : ByteArray)) ++ t145) ++ (⟨#[58]⟩ : ByteArray)) ++ t146) ++ (⟨#[58]⟩ : ByteArray)).size + t147.size ≤ 9223372036854775807 then (if ((((((((((t142 ++ (⟨#[45]⟩ : ByteArray)) ++ t143) ++ (⟨#[45]⟩ : ByteArray)) ++ t144) ++ (⟨#[84]⟩ : ByteArray)) ++ t145) ++ (⟨#[58]⟩ : ByteArray)) ++ t146) ++ (⟨#[58]⟩ : ByteArray)) ++ t147).size + 1 ≤ 9223372036854775807 then ((timesyncref05_digits.f a0_6 9).bind fun t148 => (if (((((((((((t142 ++ (⟨#[45]⟩ : ByteArray)) ++ t143) ++ (⟨#[45]⟩ : ByteArray)) ++ t144) ++ (⟨#[84]⟩ : ByteArray)) ++ t145) ++ (⟨#[58]⟩ : ByteArray)) ++ t146) ++ (⟨#[58]⟩ : ByteArray)) ++ t147) ++ (⟨#[46]⟩ : ByteArray)).size + t148.size ≤ 9223372036854775807 then (if ((((((((((((t142 ++ (⟨#[45]⟩ : ByteArray)) ++ t143) ++ (⟨#[45]⟩ : ByteArray)) ++ t144) ++ (⟨#[84]⟩ : ByteArray)) ++ t145) ++ (⟨#[58]⟩ : ByteArray)) ++ t146) ++ (⟨#[58]⟩ : ByteArray)) ++ t147) ++ (⟨#[46]⟩ : ByteArray)) ++ t148).size + 1 ≤ 9223372036854775807 then (some (((((((((((((t142 ++ (⟨#[45]⟩ : ByteArray)) ++ t143) ++ (⟨#[45]⟩ : ByteArray)) ++ t144) ++ (⟨#[84]⟩ : ByteArray)) ++ t145) ++ (⟨#[58]⟩ : ByteArray)) ++ t146) ++ (⟨#[58]⟩ : ByteArray)) ++ t147) ++ (⟨#[46]⟩ : ByteArray)) ++ t148) ++ (⟨#[90]⟩ : ByteArray))) else (none)) else (none))) else (none)) else (none))) else (none)) else (none)) = some r := H
         have A15 := Aside0.mk A150
         clear A150
         by_cases c16 : (((((((t142 ++ (⟨#[45]⟩ : ByteArray)) ++ t143) ++ (⟨#[45]⟩ : ByteArray)) ++ t144) ++ (⟨#[84]⟩ : ByteArray)) ++ t145) ++ (⟨#[58]⟩ : ByteArray)).size + t146.size ≤ 9223372036854775807
         ·rw [if_pos c16] at H
          have c16b0 := eq_true c16
          have c16b1 : decide ((((((((t142 ++ (⟨#[45]⟩ : ByteArray)) ++ t143) ++ (⟨#[45]⟩ : ByteArray)) ++ t144) ++ (⟨#[84]⟩ : ByteArray)) ++ t145) ++ (⟨#[58]⟩ : ByteArray)).size + t146.size ≤ 9223372036854775807) = true := decide_eq_true c16
          try have c16b2 : (9223372036854775807 < (((((((t142 ++ (⟨#[45]⟩ : ByteArray)) ++ t143) ++ (⟨#[45]⟩ : ByteArray)) ++ t144) ++ (⟨#[84]⟩ : ByteArray)) ++ t145) ++ (⟨#[58]⟩ : ByteArray)).size + t146.size) = False := eq_false (Nat.not_lt.2 c16)
          have c16s : (9223372036854775807 < t142.size + 1 + t143.size + 1 + t144.size + 1 + t145.size + 1 + t146.size) = False := eq_false (by have e_ := c16; have e1_ : ∀ x : UInt8, (⟨#[x]⟩ : ByteArray).size = 1 := fun _ => rfl; simp only [ByteArray.size_append, e1_] at e_; omega)
          by_cases c17 : ((((((((t142 ++ (⟨#[45]⟩ : ByteArray)) ++ t143) ++ (⟨#[45]⟩ : ByteArray)) ++ t144) ++ (⟨#[84]⟩ : ByteArray)) ++ t145) ++ (⟨#[58]⟩ : ByteArray)) ++ t146).size + 1 ≤ 9223372036854775807
          ·rw [if_pos c17] at H
           have c17b0 := eq_true c17
           have c17b1 : decide (((((((((t142 ++ (⟨#[45]⟩ : ByteArray)) ++ t143) ++ (⟨#[45]⟩ : ByteArray)) ++ t144) ++ (⟨#[84]⟩ : ByteArray)) ++ t145) ++ (⟨#[58]⟩ : ByteArray)) ++ t146).size + 1 ≤ 9223372036854775807) = true := decide_eq_true c17
           try have c17b2 : (9223372036854775807 < ((((((((t142 ++ (⟨#[45]⟩ : ByteArray)) ++ t143) ++ (⟨#[45]⟩ : ByteArray)) ++ t144) ++ (⟨#[84]⟩ : ByteArray)) ++ t145) ++ (⟨#[58]⟩ : ByteArray)) ++ t146).size + 1) = False := eq_false (Nat.not_lt.2 c17)
           have c17s : (9223372036854775807 < t142.size + 1 + t143.size + 1 + t144.size + 1 + t145.size + 1 + t146.size + 1) = False := eq_false (by have e_ := c17; have e1_ : ∀ x : UInt8, (⟨#[x]⟩ : ByteArray).size = 1 := fun _ => rfl; simp only [ByteArray.size_append, e1_] at e_; omega)
           replace H := Option.bind_eq_some_iff.mp H
           obtain ⟨t147, A180, H⟩ := H
           replace H : (if (((((((((t142 ++ (⟨#[45]⟩ : ByteArray)) ++ t143) ++ (⟨#[45]⟩ : ByteArray)) ++ t144) ++ (⟨#[84]⟩ : ByteArray)) ++ t145) ++ (⟨#[58]⟩ : ByteArray)) ++ t146) ++ (⟨#[58]⟩ : ByteArray)).size + t147.size ≤ 9223372036854775807 then (if ((((((((((t142 ++ (⟨#[45]⟩ : ByteArray)) ++ t143) ++ (⟨#[45]⟩ : ByteArray)) ++ t144) ++ (⟨#[84]⟩ : ByteArray)) ++ t145) ++ (⟨#[58]⟩ : ByteArray)) ++ t146) ++ (⟨#[58]⟩ : ByteArray)) ++ t147).size + 1 ≤ 9223372036854775807 then ((timesyncref05_digits.f a0_6 9).bind fun t148 => (if (((((((((((t142 ++ (⟨#[45]⟩ : ByteArray)) ++ t143) ++ (⟨#[45]⟩ : ByteArray)) ++ t144) ++ (⟨#[84]⟩ : ByteArray)) ++ t145) ++ (⟨#[58]⟩ : ByteArray)) ++ t146) ++ (⟨#[58]⟩ : ByteArray)) ++ t147) ++ (⟨#[46]⟩ : ByteArray)).size + t148.size ≤ 9223372036854775807 then (if ((((((((((((t142 ++ (⟨#[45]⟩ : ByteArray)) ++ t143) ++ (⟨#[45]⟩ : ByteArray)) ++ t144) ++ (⟨#[84]⟩ : ByteArray)) ++ t145) ++ (⟨#[58]⟩ : ByteArray)) ++ t146) ++ (⟨#[58]⟩ : ByteArray)) ++ t147) ++ (⟨#[46]⟩ : ByteArray)) ++ t148).size + 1 ≤ 9223372036854775807 then (some (((((((((((((t142 ++ (⟨#[45]⟩ : ByteArray)) ++ t143) ++ (⟨#[45]⟩ : ByteArray)) ++ t144) ++ (⟨#[84]⟩ : ByteArray)) ++ t145) ++ (⟨#[58]⟩ : ByteArray)) ++ t146) ++ (⟨#[58]⟩ : ByteArray)) ++ t147) ++ (⟨#[46]⟩ : ByteArray)) ++ t148) ++ (⟨#[90]⟩ : ByteArray))) else (none)) else (none))) else (none)) else (none)) = some r := H
           have A18 := Aside0.mk A180
           clear A180
           by_cases c19 : (((((((((t142 ++ (⟨#[45]⟩ : ByteArray)) ++ t143) ++ (⟨#[45]⟩ : ByteArray)) ++ t144) ++ (⟨#[84]⟩ : ByteArray)) ++ t145) ++ (⟨#[58]⟩ : ByteArray)) ++ t146) ++ (⟨#[58]⟩ : ByteArray)).size + t147.size ≤ 9223372036854775807
           ·rw [if_pos c19] at H
            have c19b0 := eq_true c19
            have c19b1 : decide ((((((((((t142 ++ (⟨#[45]⟩ : ByteArray)) ++ t143) ++ (⟨#[45]⟩ : ByteArray)) ++ t144) ++ (⟨#[84]⟩ : ByteArray)) ++ t145) ++ (⟨#[58]⟩ : ByteArray)) ++ t146) ++ (⟨#[58]⟩ : ByteArray)).size + t147.size ≤ 9223372036854775807) = true := decide_eq_true c19
            try have c19b2 : (9223372036854775807 < (((((((((t142 ++ (⟨#[45]⟩ : ByteArray)) ++ t143) ++ (⟨#[45]⟩ : ByteArray)) ++ t144) ++ (⟨#[84]⟩ : ByteArray)) ++ t145) ++ (⟨#[58]⟩ : ByteArray)) ++ t146) ++ (⟨#[58]⟩ : ByteArray)).size + t147.size) = False := eq_false (Nat.not_lt.2 c19)
            have c19s : (9223372036854775807 < t142.size + 1 + t143.size + 1 + t144.size + 1 + t145.size + 1 + t146.size + 1 + t147.size) = False := eq_false (by have e_ := c19; have e1_ : ∀ x : UInt8, (⟨#[x]⟩ : ByteArray).size = 1 := fun _ => rfl; simp only [ByteArray.size_append, e1_] at e_; omega)
            by_cases c20 : ((((((((((t142 ++ (⟨#[45]⟩ : ByteArray)) ++ t143) ++ (⟨#[45]⟩ : ByteArray)) ++ t144) ++ (⟨#[84]⟩ : ByteArray)) ++ t145) ++ (⟨#[58]⟩ : ByteArray)) ++ t146) ++ (⟨#[58]⟩ : ByteArray)) ++ t147).size + 1 ≤ 9223372036854775807
            ·rw [if_pos c20] at H
             have c20b0 := eq_true c20
             have c20b1 : decide (((((((((((t142 ++ (⟨#[45]⟩ : ByteArray)) ++ t143) ++ (⟨#[45]⟩ : ByteArray)) ++ t144) ++ (⟨#[84]⟩ : ByteArray)) ++ t145) ++ (⟨#[58]⟩ : ByteArray)) ++ t146) ++ (⟨#[58]⟩ : ByteArray)) ++ t147).size + 1 ≤ 9223372036854775807) = true := decide_eq_true c20
             try have c20b2 : (9223372036854775807 < ((((((((((t142 ++ (⟨#[45]⟩ : ByteArray)) ++ t143) ++ (⟨#[45]⟩ : ByteArray)) ++ t144) ++ (⟨#[84]⟩ : ByteArray)) ++ t145) ++ (⟨#[58]⟩ : ByteArray)) ++ t146) ++ (⟨#[58]⟩ : ByteArray)) ++ t147).size + 1) = False := eq_false (Nat.not_lt.2 c20)
             have c20s : (9223372036854775807 < t142.size + 1 + t143.size + 1 + t144.size + 1 + t145.size + 1 + t146.size + 1 + t147.size + 1) = False := eq_false (by have e_ := c20; have e1_ : ∀ x : UInt8, (⟨#[x]⟩ : ByteArray).size = 1 := fun _ => rfl; simp only [ByteArray.size_append, e1_] at e_; omega)
             replace H := Option.bind_eq_some_iff.mp H
             obtain ⟨t148, A210, H⟩ := H
             replace H : (if (((((((((((t142 ++ (⟨#[45]⟩ : ByteArray)) ++ t143) ++ (⟨#[45]⟩ : ByteArray)) ++ t144) ++ (⟨#[84]⟩ : ByteArray)) ++ t145) ++ (⟨#[58]⟩ : ByteArray)) ++ t146) ++ (⟨#[58]⟩ : ByteArray)) ++ t147) ++ (⟨#[46]⟩ : ByteArray)).size + t148.size ≤ 9223372036854775807 then (if ((((((((((((t142 ++ (⟨#[45]⟩ : ByteArray)) ++ t143) ++ (⟨#[45]⟩ : ByteArray)) ++ t144) ++ (⟨#[84]⟩ : ByteArray)) ++ t145) ++ (⟨#[58]⟩ : ByteArray)) ++ t146) ++ (⟨#[58]⟩ : ByteArray)) ++ t147) ++ (⟨#[46]⟩ : ByteArray)) ++ t148).size + 1 ≤ 9223372036854775807 then (some (((((((((((((t142 ++ (⟨#[45]⟩ : ByteArray)) ++ t143) ++ (⟨#[45]⟩ : ByteArray)) ++ t144) ++ (⟨#[84]⟩ : ByteArray)) ++ t145) ++ (⟨#[58]⟩ : ByteArray)) ++ t146) ++ (⟨#[58]⟩ : ByteArray)) ++ t147) ++ (⟨#[46]⟩ : ByteArray)) ++ t148) ++ (⟨#[90]⟩ : ByteArray))) else (none)) else (none)) = some r := H
             have A21 := Aside0.mk A210
             clear A210
             by_cases c22 : (((((((((((t142 ++ (⟨#[45]⟩ : ByteArray)) ++ t143) ++ (⟨#[45]⟩ : ByteArray)) ++ t144) ++ (⟨#[84]⟩ : ByteArray)) ++ t145) ++ (⟨#[58]⟩ : ByteArray)) ++ t146) ++ (⟨#[58]⟩ : ByteArray)) ++ t147) ++ (⟨#[46]⟩ : ByteArray)).size + t148.size ≤ 9223372036854775807
             ·rw [if_pos c22] at H
              have c22b0 := eq_true c22
              have c22b1 : decide ((((((((((((t142 ++ (⟨#[45]⟩ : ByteArray)) ++ t143) ++ (⟨#[45]⟩ : ByteArray)) ++ t144) ++ (⟨#[84]⟩ : ByteArray)) ++ t145) ++ (⟨#[58]⟩ : ByteArray)) ++ t146) ++ (⟨#[58]⟩ : ByteArray)) ++ t147) ++ (⟨#[46]⟩ : ByteArray)).size + t148.size ≤ 9223372036854775807) = true := decide_eq_true c22
              try have c22b2 : (9223372036854775807 < (((((((((((t142 ++ (⟨#[45]⟩ : ByteArray)) ++ t143) ++ (⟨#[45]⟩ : ByteArray)) ++ t144) ++ (⟨#[84]⟩ : ByteArray)) ++ t145) ++ (⟨#[58]⟩ : ByteArray)) ++ t146) ++ (⟨#[58]⟩ : ByteArray)) ++ t147) ++ (⟨#[46]⟩ : ByteArray)).size + t148.size) = False := eq_false (Nat.not_lt.2 c22)
              have c22s : (9223372036854775807 < t142.size + 1 + t143.size + 1 + t144.size + 1 + t145.size + 1 + t146.size + 1 + t147.size + 1 + t148.size) = False := eq_false (by have e_ := c22; have e1_ : ∀ x : UInt8, (⟨#[x]⟩ : ByteArray).size = 1 := fun _ => rfl; simp only [ByteArray.size_append, e1_] at e_; omega)
              by_cases c23 : ((((((((((((t142 ++ (⟨#[45]⟩ : ByteArray)) ++ t143) ++ (⟨#[45]⟩ : ByteArray)) ++ t144) ++ (⟨#[84]⟩ : ByteArray)) ++ t145) ++ (⟨#[58]⟩ : ByteArray)) ++ t146) ++ (⟨#[58]⟩ : ByteArray)) ++ t147) ++ (⟨#[46]⟩ : ByteArray)) ++ t148).size + 1 ≤ 9223372036854775807
              ·rw [if_pos c23] at H
               have c23b0 := eq_true c23
               have c23b1 : decide (((((((((((((t142 ++ (⟨#[45]⟩ : ByteArray)) ++ t143) ++ (⟨#[45]⟩ : ByteArray)) ++ t144) ++ (⟨#[84]⟩ : ByteArray)) ++ t145) ++ (⟨#[58]⟩ : ByteArray)) ++ t146) ++ (⟨#[58]⟩ : ByteArray)) ++ t147) ++ (⟨#[46]⟩ : ByteArray)) ++ t148).size + 1 ≤ 9223372036854775807) = true := decide_eq_true c23
               try have c23b2 : (9223372036854775807 < ((((((((((((t142 ++ (⟨#[45]⟩ : ByteArray)) ++ t143) ++ (⟨#[45]⟩ : ByteArray)) ++ t144) ++ (⟨#[84]⟩ : ByteArray)) ++ t145) ++ (⟨#[58]⟩ : ByteArray)) ++ t146) ++ (⟨#[58]⟩ : ByteArray)) ++ t147) ++ (⟨#[46]⟩ : ByteArray)) ++ t148).size + 1) = False := eq_false (Nat.not_lt.2 c23)
               have c23s : (9223372036854775807 < t142.size + 1 + t143.size + 1 + t144.size + 1 + t145.size + 1 + t146.size + 1 + t147.size + 1 + t148.size + 1) = False := eq_false (by have e_ := c23; have e1_ : ∀ x : UInt8, (⟨#[x]⟩ : ByteArray).size = 1 := fun _ => rfl; simp only [ByteArray.size_append, e1_] at e_; omega)
               obtain rfl := Option.some.inj H
               go_enter Try.func17, Try.ntmps17
               try go_wp2_with (first | ((with_reducible refine gate_dst (N := 1) rfl ?_); refine box_event ?hg (N := 1) ?hd (cs := #[.int .i64 a0_0, .int .i64 a0_1, .int .i64 a0_2, .int .i64 a0_3, .int .i64 a0_4, .int .i64 a0_5, .int .i64 a0_6]) (t := 23) ?hr ?_; (case hd => rfl); (case hg => rfl); (case hr => first | (go_simp; done) | (go_simp; rfl)); intro gb140 hg w24 hbox hb; have n0_ := Aside0.mk (below_step (by repeat (first | (with_reducible first | exact HB.out | apply below_alloc | apply pw_below_drewN | apply below_drew1) | exact HB.out)) hb); have n1_ := Aside0.mk (hbox); have n2_ := Aside0.mk ((by rw [hg]; exact (below_size (by repeat (first | (with_reducible first | exact HB.out | apply below_alloc | apply pw_below_drewN | apply below_drew1) | exact HB.out))) : w.heap.size ≤ gb140)); have n3_ := Aside0.mk ((by rw [hg]; exact (below_size (by repeat (first | (with_reducible first | exact HB.out | apply below_alloc | apply pw_below_drewN | apply below_drew1) | exact HB.out))) : w.heap.size ≤ gb140)); clear HB; have HB := n0_; have BK140 := n1_; have GW140 := n2_; have GE140 := n3_; clear n0_ n1_ n2_ n3_; clear hb hbox hg; have hcz25_0 : w24.cell? ⟨gb140, 0, none⟩ = some (.int .i64 a0_0) := (blk_cell BK140.out 0).trans rfl; have hcz25_1 : w24.cell? ⟨gb140, 1, none⟩ = some (.int .i64 a0_1) := (blk_cell BK140.out 1).trans rfl; have hcz25_2 : w24.cell? ⟨gb140, 2, none⟩ = some (.int .i64 a0_2) := (blk_cell BK140.out 2).trans rfl; have hcz25_3 : w24.cell? ⟨gb140, 3, none⟩ = some (.int .i64 a0_3) := (blk_cell BK140.out 3).trans rfl; have hcz25_4 : w24.cell? ⟨gb140, 4, none⟩ = some (.int .i64 a0_4) := (blk_cell BK140.out 4).trans rfl; have hcz25_5 : w24.cell? ⟨gb140, 5, none⟩ = some (.int .i64 a0_5) := (blk_cell BK140.out 5).trans rfl; have hcz25_6 : w24.cell? ⟨gb140, 6, none⟩ = some (.int .i64 a0_6) := (blk_cell BK140.out 6).trans rfl; have hfz25_0 := blk_frozen BK140.out 0; have hfz25_1 := blk_frozen BK140.out 1; have hfz25_2 := blk_frozen BK140.out 2; have hfz25_3 := blk_frozen BK140.out 3; have hfz25_4 := blk_frozen BK140.out 4; have hfz25_5 := blk_frozen BK140.out 5; have hfz25_6 := blk_frozen BK140.out 6) | ((with_reducible refine gate_callee (f := 28) rfl ?_); refine goesL_ (some 4) rfl rfl Try.func28 (by kernel_rfl) rfl #[.agg #[.int .i64 a0_0, .int .i64 a0_1, .int .i64 a0_2, .int .i64 a0_3, .int .i64 a0_4, .int .i64 a0_5, .int .i64 a0_6]] rfl (by (try simp only [List.map_toArray, List.map_cons, List.map_nil]); first | done | rfl | (simp only [List.length_drop, List.length_take]; rfl)) ?_; (with_reducible refine (timesyncref05_Check.calls k a0_0 a0_1 a0_2 a0_3 a0_4 a0_5 a0_6 t141 _ A2.out).mono ?_); rintro e w26 ⟨rfl, hb⟩; refine ⟨_, rfl, ?_⟩; have n0_ := Aside0.mk (blk_below (g := gb140) (o := .cells #[.int .i64 a0_0, .int .i64 a0_1, .int .i64 a0_2, .int .i64 a0_3, .int .i64 a0_4, .int .i64 a0_5, .int .i64 a0_6] 23 (0, 0)) (by (with_reducible repeat (first | refine blk_drewN ?_ _ | refine blk_drew ?_ | refine blk_alloc ?_ _)); exact BK140.out) hb); have n1_ := Aside0.mk (below_step (by repeat (first | (with_reducible first | exact HB.out | apply below_alloc | apply pw_below_drewN | apply below_drew1 | refine below_set ?_ GE140.out) | exact HB.out)) hb); clear BK140; clear HB; have BK140 := n0_; have HB := n1_; clear n0_ n1_; (try clear hb); (try clear hb2); (try clear hk); (try clear hi)))
               have n0_ := Aside0.mk (blk_drew BK140.out)
               have n1_ := Aside0.mk (below_drew1 HB.out)
               clear BK140
               clear HB
               have BK140 := n0_
               have HB := n1_
               clear n0_ n1_
               refine start_ (n := 35) (S := fun w' => w'.cell? ⟨gb140, 0, none⟩ = some (.int .i64 a0_0) ∧ w'.cell? ⟨gb140, 1, none⟩ = some (.int .i64 a0_1) ∧ w'.cell? ⟨gb140, 2, none⟩ = some (.int .i64 a0_2) ∧ w'.cell? ⟨gb140, 3, none⟩ = some (.int .i64 a0_3) ∧ w'.cell? ⟨gb140, 4, none⟩ = some (.int .i64 a0_4) ∧ w'.cell? ⟨gb140, 5, none⟩ = some (.int .i64 a0_5) ∧ w'.cell? ⟨gb140, 6, none⟩ = some (.int .i64 a0_6)) (ds := []) #[false, false, false, false, false, false, false, false, false, false, false, false, false, false, false, false, false, false, false, false, false, false, false, false, false, false, false, false, false, false, false, false, false, false, false] (by kernel_rfl) rfl rfl ⟨(blk_cell BK140.out 0).trans rfl, (blk_cell BK140.out 1).trans rfl, (blk_cell BK140.out 2).trans rfl, (blk_cell BK140.out 3).trans rfl, (blk_cell BK140.out 4).trans rfl, (blk_cell BK140.out 5).trans rfl, (blk_cell BK140.out 6).trans rfl⟩ (fun hHeld => ?_); refine with_tabW timesyncref05_Text.tab3 timesyncref05_Text.bits3 (fun HT_ HW_ => ?_)
               generalize w26.drew = w27 at BK140 HB hHeld ⊢
               refine pure_ (i := 0) (N := some 6) (v := ?_) (a' := ?_) #[true, false, false, false, false, false, false, false, false, false, false, false, false, false, false, false, false, false, false, false, false, false, false, false, false, false, false, false, false, false, false, false, false, false, false] rfl rfl (any_of HT_.out (by kernel_rfl)) (fun _ _ _ h => h) (Or.inl ⟨by rfl, ?_⟩) ?_ ?_
               rotate_left
               ·intro w'
                go_simp
                with_reducible rfl
               rotate_left
               ·simp only [Act.put, List.setIfInBounds_toArray, List.set_cons_zero, List.set_cons_succ, i64_w, i32_w]
                rfl
               refine pure_ (i := 4) (N := some 10) (v := ?_) (a' := ?_) #[true, false, false, false, true, false, false, false, false, false, false, false, false, false, false, false, false, false, false, false, false, false, false, false, false, false, false, false, false, false, false, false, false, false, false] rfl rfl (any_of HT_.out (by kernel_rfl)) (fun _ _ _ h => h) (Or.inl ⟨by rfl, ?_⟩) ?_ ?_
               rotate_left
               ·intro w'
                go_simp
                with_reducible rfl
               rotate_left
               ·simp only [Act.put, List.setIfInBounds_toArray, List.set_cons_zero, List.set_cons_succ, i64_w, i32_w]
                rfl
               refine pure_ (i := 9) (N := some 15) (v := ?_) (a' := ?_) #[true, false, false, false, true, false, false, false, false, true, false, false, false, false, false, false, false, false, false, false, false, false, false, false, false, false, false, false, false, false, false, false, false, false, false] rfl rfl (any_of HT_.out (by kernel_rfl)) (fun _ _ _ h => h) (Or.inl ⟨by rfl, ?_⟩) ?_ ?_
               rotate_left
               ·intro w'
                go_simp
                with_reducible rfl
               rotate_left
               ·simp only [Act.put, List.setIfInBounds_toArray, List.set_cons_zero, List.set_cons_succ, i64_w, i32_w]
                rfl
               refine pure_ (i := 14) (N := some 20) (v := ?_) (a' := ?_) #[true, false, false, false, true, false, false, false, false, true, false, false, false, false, true, false, false, false, false, false, false, false, false, false, false, false, false, false, false, false, false, false, false, false, false] rfl rfl (any_of HT_.out (by kernel_rfl)) (fun _ _ _ h => h) (Or.inl ⟨by rfl, ?_⟩) ?_ ?_
               rotate_left
               ·intro w'
                go_simp
                with_reducible rfl
               rotate_left
               ·simp only [Act.put, List.setIfInBounds_toArray, List.set_cons_zero, List.set_cons_succ, i64_w, i32_w]
                rfl
               refine pure_ (i := 19) (N := some 25) (v := ?_) (a' := ?_) #[true, false, false, false, true, false, false, false, false, true, false, false, false, false, true, false, false, false, false, true, false, false, false, false, false, false, false, false, false, false, false, false, false, false, false] rfl rfl (any_of HT_.out (by kernel_rfl)) (fun _ _ _ h => h) (Or.inl ⟨by rfl, ?_⟩) ?_ ?_
               rotate_left
               ·intro w'
                go_simp
                with_reducible rfl
               rotate_left
               ·simp only [Act.put, List.setIfInBounds_toArray, List.set_cons_zero, List.set_cons_succ, i64_w, i32_w]
                rfl
               refine pure_ (i := 24) (N := some 30) (v := ?_) (a' := ?_) #[true, false, false, false, true, false, false, false, false, true, false, false, false, false, true, false, false, false, false, true, false, false, false, false, true, false, false, false, false, false, false, false, false, false, false] rfl rfl (any_of HT_.out (by kernel_rfl)) (fun _ _ _ h => h) (Or.inl ⟨by rfl, ?_⟩) ?_ ?_
               rotate_left
               ·intro w'
                go_simp
                with_reducible rfl
               rotate_left
               ·simp only [Act.put, List.setIfInBounds_toArray, List.set_cons_zero, List.set_cons_succ, i64_w, i32_w]
                rfl
               refine pure_ (i := 29) (N := some 35) (v := ?_) (a' := ?_) #[true, false, false, false, true, false, false, false, false, true, false, false, false, false, true, false, false, false, false, true, false, false, false, false, true, false, false, false, false, true, false, false, false, false, false] rfl rfl (any_of HT_.out (by kernel_rfl)) (fun _ _ _ h => h) (Or.inl ⟨by rfl, ?_⟩) ?_ ?_
               rotate_left
               ·intro w'
                go_simp
                with_reducible rfl
               rotate_left
               ·simp only [Act.put, List.setIfInBounds_toArray, List.set_cons_zero, List.set_cons_succ, i64_w, i32_w]
                rfl
               refine take_ (i := 1) (N := some 7) (v := ?_) (a' := ?_) #[true, true, false, false, true, false, false, false, false, true, false, false, false, false, true, false, false, false, false, true, false, false, false, false, true, false, false, false, false, true, false, false, false, false, false] rfl rfl (take_ofW HT_.out HW_.out (by kernel_rfl)) (fun _ _ _ h => h) (Or.inl ⟨by rfl, ?_⟩) hHeld ?_ ?_
               rotate_left
               ·rintro w' ⟨s0, s1, s2, s3, s4, s5, s6⟩
                go_simp
                with_reducible rfl
               rotate_left
               ·simp only [Act.put, List.setIfInBounds_toArray, List.set_cons_zero, List.set_cons_succ, i64_w, i32_w]
                rfl
               refine take_ (i := 5) (N := some 11) (v := ?_) (a' := ?_) #[true, true, false, false, true, true, false, false, false, true, false, false, false, false, true, false, false, false, false, true, false, false, false, false, true, false, false, false, false, true, false, false, false, false, false] rfl rfl (take_ofW HT_.out HW_.out (by kernel_rfl)) (fun _ _ _ h => h) (Or.inl ⟨by rfl, ?_⟩) hHeld ?_ ?_
               rotate_left
               ·rintro w' ⟨s0, s1, s2, s3, s4, s5, s6⟩
                go_simp
                with_reducible rfl
               rotate_left
               ·simp only [Act.put, List.setIfInBounds_toArray, List.set_cons_zero, List.set_cons_succ, i64_w, i32_w]
                rfl
               refine take_ (i := 10) (N := some 16) (v := ?_) (a' := ?_) #[true, true, false, false, true, true, false, false, false, true, true, false, false, false, true, false, false, false, false, true, false, false, false, false, true, false, false, false, false, true, false, false, false, false, false] rfl rfl (take_ofW HT_.out HW_.out (by kernel_rfl)) (fun _ _ _ h => h) (Or.inl ⟨by rfl, ?_⟩) hHeld ?_ ?_
               rotate_left
               ·rintro w' ⟨s0, s1, s2, s3, s4, s5, s6⟩
                go_simp
                with_reducible rfl
               rotate_left
               ·simp only [Act.put, List.setIfInBounds_toArray, List.set_cons_zero, List.set_cons_succ, i64_w, i32_w]
                rfl
               refine take_ (i := 15) (N := some 21) (v := ?_) (a' := ?_) #[true, true, false, false, true, true, false, false, false, true, true, false, false, false, true, true, false, false, false, true, false, false, false, false, true, false, false, false, false, true, false, false, false, false, false] rfl rfl (take_ofW HT_.out HW_.out (by kernel_rfl)) (fun _ _ _ h => h) (Or.inl ⟨by rfl, ?_⟩) hHeld ?_ ?_
               rotate_left
               ·rintro w' ⟨s0, s1, s2, s3, s4, s5, s6⟩
                go_simp
                with_reducible rfl
               rotate_left
               ·simp only [Act.put, List.setIfInBounds_toArray, List.set_cons_zero, List.set_cons_succ, i64_w, i32_w]
                rfl
               refine take_ (i := 20) (N := some 26) (v := ?_) (a' := ?_) #[true, true, false, false, true, true, false, false, false, true, true, false, false, false, true, true, false, false, false, true, true, false, false, false, true, false, false, false, false, true, false, false, false, false, false] rfl rfl (take_ofW HT_.out HW_.out (by kernel_rfl)) (fun _ _ _ h => h) (Or.inl ⟨by rfl, ?_⟩) hHeld ?_ ?_
               rotate_left
               ·rintro w' ⟨s0, s1, s2, s3, s4, s5, s6⟩
                go_simp
                with_reducible rfl
               rotate_left
               ·simp only [Act.put, List.setIfInBounds_toArray, List.set_cons_zero, List.set_cons_succ, i64_w, i32_w]
                rfl
               refine take_ (i := 25) (N := some 31) (v := ?_) (a' := ?_) #[true, true, false, false, true, true, false, false, false, true, true, false, false, false, true, true, false, false, false, true, true, false, false, false, true, true, false, false, false, true, false, false, false, false, false] rfl rfl (take_ofW HT_.out HW_.out (by kernel_rfl)) (fun _ _ _ h => h) (Or.inl ⟨by rfl, ?_⟩) hHeld ?_ ?_
               rotate_left
               ·rintro w' ⟨s0, s1, s2, s3, s4, s5, s6⟩
                go_simp
                with_reducible rfl
               rotate_left
               ·simp only [Act.put, List.setIfInBounds_toArray, List.set_cons_zero, List.set_cons_succ, i64_w, i32_w]
                rfl
               refine take_ (i := 30) (N := some 36) (v := ?_) (a' := ?_) #[true, true, false, false, true, true, false, false, false, true, true, false, false, false, true, true, false, false, false, true, true, false, false, false, true, true, false, false, false, true, true, false, false, false, false] rfl rfl (take_ofW HT_.out HW_.out (by kernel_rfl)) (fun _ _ _ h => h) (Or.inl ⟨by rfl, ?_⟩) hHeld ?_ ?_
               rotate_left
               ·rintro w' ⟨s0, s1, s2, s3, s4, s5, s6⟩
                go_simp
                with_reducible rfl
               rotate_left
               ·simp only [Act.put, List.setIfInBounds_toArray, List.set_cons_zero, List.set_cons_succ, i64_w, i32_w]
                rfl
               refine one_ (i := 2) (N := some 8) #[true, true, true, false, true, true, false, false, false, true, true, false, false, false, true, true, false, false, false, true, true, false, false, false, true, true, false, false, false, true, true, false, false, false, false] rfl rfl (one_of HT_.out (by kernel_rfl)) (by decide) (fun K hK => ?_)
               refine goes_ Try.func35 (by kernel_rfl) rfl #[.int .i64 a0_0, .int .i64 4] (by rfl) rfl rfl (by (try simp only [List.map_toArray, List.map_cons, List.map_nil]); first | done | rfl | (simp only [List.length_drop, List.length_take]; rfl)) ?_
               with_reducible refine (timesyncref05_digits.calls a0_0 4 t142 _ A4.out).mono ?_
               rintro e w' ⟨rfl, ⟨nd, rfl⟩⟩
               refine ⟨_, rfl, ?_⟩
               refine hK.out _ _ ⟨(blk_cell BK140.out 0).trans rfl, (blk_cell BK140.out 1).trans rfl, (blk_cell BK140.out 2).trans rfl, (blk_cell BK140.out 3).trans rfl, (blk_cell BK140.out 4).trans rfl, (blk_cell BK140.out 5).trans rfl, (blk_cell BK140.out 6).trans rfl⟩ (fun hHeld => ?_)
               clear hK K
               refine norm_ (a' := ?_) ?_ ?_
               rotate_left
               ·show Act.put _ (some 8) _ = _
                simp only [Act.put, List.setIfInBounds_toArray, List.set_cons_zero, List.set_cons_succ, i64_w, i32_w]
                rfl
               refine pure_ (i := 3) (N := some 9) (v := ?_) (a' := ?_) #[true, true, true, true, true, true, false, false, false, true, true, false, false, false, true, true, false, false, false, true, true, false, false, false, true, true, false, false, false, true, true, false, false, false, false] rfl rfl (any_of HT_.out (by kernel_rfl)) (fun _ _ _ h => h) (Or.inl ⟨by rfl, ?_⟩) ?_ ?_
               rotate_left
               ·intro w'
                go_simp
                with_reducible rfl
               rotate_left
               ·simp only [Act.put, List.setIfInBounds_toArray, List.set_cons_zero, List.set_cons_succ, i64_w, i32_w]
                rfl
               refine one_ (i := 6) (N := some 12) #[true, true, true, true, true, true, true, false, false, true, true, false, false, false, true, true, false, false, false, true, true, false, false, false, true, true, false, false, false, true, true, false, false, false, false] rfl rfl (one_of HT_.out (by kernel_rfl)) (by decide) (fun K hK => ?_)
               refine goes_ Try.func35 (by kernel_rfl) rfl #[.int .i64 a0_1, .int .i64 2] (by rfl) rfl rfl (by (try simp only [List.map_toArray, List.map_cons, List.map_nil]); first | done | rfl | (simp only [List.length_drop, List.length_take]; rfl)) ?_
               with_reducible refine (timesyncref05_digits.calls a0_1 2 t143 _ A6.out).mono ?_
               rintro e w' ⟨rfl, ⟨nd, rfl⟩⟩
               refine ⟨_, rfl, ?_⟩
               refine hK.out _ _ ⟨(blk_cell BK140.out 0).trans rfl, (blk_cell BK140.out 1).trans rfl, (blk_cell BK140.out 2).trans rfl, (blk_cell BK140.out 3).trans rfl, (blk_cell BK140.out 4).trans rfl, (blk_cell BK140.out 5).trans rfl, (blk_cell BK140.out 6).trans rfl⟩ (fun hHeld => ?_)
               clear hK K
               refine norm_ (a' := ?_) ?_ ?_
               rotate_left
               ·show Act.put _ (some 12) _ = _
                simp only [Act.put, List.setIfInBounds_toArray, List.set_cons_zero, List.set_cons_succ, i64_w, i32_w]
                rfl
               refine pure_ (i := 7) (N := some 13) (v := ?_) (a' := ?_) #[true, true, true, true, true, true, true, true, false, true, true, false, false, false, true, true, false, false, false, true, true, false, false, false, true, true, false, false, false, true, true, false, false, false, false] rfl rfl (any_of HT_.out (by kernel_rfl)) (fun _ _ _ h => h) (Or.inl ⟨by rfl, ?_⟩) ?_ ?_
               rotate_left
               ·intro w'
                go_simp
                with_reducible rfl
               rotate_left
               ·simp only [Act.put, List.setIfInBounds_toArray, List.set_cons_zero, List.set_cons_succ, i64_w, i32_w]
                rfl
               refine pure_ (i := 8) (N := some 14) (v := ?_) (a' := ?_) #[true, true, true, true, true, true, true, true, true, true, true, false, false, false, true, true, false, false, false, true, true, false, false, false, true, true, false, false, false, true, true, false, false, false, false] rfl rfl (any_of HT_.out (by kernel_rfl)) (fun _ _ _ h => h) (Or.inl ⟨by rfl, ?_⟩) ?_ ?_
               rotate_left
               ·intro w'
                go_simp
                with_reducible rfl
               rotate_left
               ·simp only [Act.put, List.setIfInBounds_toArray, List.set_cons_zero, List.set_cons_succ, i64_w, i32_w]
                rfl
               refine one_ (i := 11) (N := some 17) #[true, true, true, true, true, true, true, true, true, true, true, true, false, false, true, true, false, false, false, true, true, false, false, false, true, true, false, false, false, true, true, false, false, false, false] rfl rfl (one_of HT_.out (by kernel_rfl)) (by decide) (fun K hK => ?_)
               refine goes_ Try.func35 (by kernel_rfl) rfl #[.int .i64 a0_2, .int .i64 2] (by rfl) rfl rfl (by (try simp only [List.map_toArray, List.map_cons, List.map_nil]); first | done | rfl | (simp only [List.length_drop, List.length_take]; rfl)) ?_
               with_reducible refine (timesyncref05_digits.calls a0_2 2 t144 _ A9.out).mono ?_
               rintro e w' ⟨rfl, ⟨nd, rfl⟩⟩
               refine ⟨_, rfl, ?_⟩
               refine hK.out _ _ ⟨(blk_cell BK140.out 0).trans rfl, (blk_cell BK140.out 1).trans rfl, (blk_cell BK140.out 2).trans rfl, (blk_cell BK140.out 3).trans rfl, (blk_cell BK140.out 4).trans rfl, (blk_cell BK140.out 5).trans rfl, (blk_cell BK140.out 6).trans rfl⟩ (fun hHeld => ?_)
               clear hK K
               refine norm_ (a' := ?_) ?_ ?_
               rotate_left
               ·show Act.put _ (some 17) _ = _
                simp only [Act.put, List.setIfInBounds_toArray, List.set_cons_zero, List.set_cons_succ, i64_w, i32_w]
                rfl
               refine pure_ (i := 12) (N := some 18) (v := ?_) (a' := ?_) #[true, true, true, true, true, true, true, true, true, true, true, true, true, false, true, true, false, false, false, true, true, false, false, false, true, true, false, false, false, true, true, false, false, false, false] rfl rfl (any_of HT_.out (by kernel_rfl)) (fun _ _ _ h => h) (Or.inl ⟨by rfl, ?_⟩) ?_ ?_
               rotate_left
               ·intro w'
                go_simp
                with_reducible rfl
               rotate_left
               ·simp only [Act.put, List.setIfInBounds_toArray, List.set_cons_zero, List.set_cons_succ, i64_w, i32_w]
                rfl
               refine pure_ (i := 13) (N := some 19) (v := ?_) (a' := ?_) #[true, true, true, true, true, true, true, true, true, true, true, true, true, true, true, true, false, false, false, true, true, false, false, false, true, true, false, false, false, true, true, false, false, false, false] rfl rfl (any_of HT_.out (by kernel_rfl)) (fun _ _ _ h => h) (Or.inl ⟨by rfl, ?_⟩) ?_ ?_
               rotate_left
               ·intro w'
                go_simp
                with_reducible rfl
               rotate_left
               ·simp only [Act.put, List.setIfInBounds_toArray, List.set_cons_zero, List.set_cons_succ, i64_w, i32_w]
                rfl
               refine one_ (i := 16) (N := some 22) #[true, true, true, true, true, true, true, true, true, true, true, true, true, true, true, true, true, false, false, true, true, false, false, false, true, true, false, false, false, true, true, false, false, false, false] rfl rfl (one_of HT_.out (by kernel_rfl)) (by decide) (fun K hK => ?_)
               refine goes_ Try.func35 (by kernel_rfl) rfl #[.int .i64 a0_3, .int .i64 2] (by rfl) rfl rfl (by (try simp only [List.map_toArray, List.map_cons, List.map_nil]); first | done | rfl | (simp only [List.length_drop, List.length_take]; rfl)) ?_
               with_reducible refine (timesyncref05_digits.calls a0_3 2 t145 _ A12.out).mono ?_
               rintro e w' ⟨rfl, ⟨nd, rfl⟩⟩
               refine ⟨_, rfl, ?_⟩
               refine hK.out _ _ ⟨(blk_cell BK140.out 0).trans rfl, (blk_cell BK140.out 1).trans rfl, (blk_cell BK140.out 2).trans rfl, (blk_cell BK140.out 3).trans rfl, (blk_cell BK140.out 4).trans rfl, (blk_cell BK140.out 5).trans rfl, (blk_cell BK140.out 6).trans rfl⟩ (fun hHeld => ?_)
               clear hK K
               refine norm_ (a' := ?_) ?_ ?_
               rotate_left
               ·show Act.put _ (some 22) _ = _
                simp only [Act.put, List.setIfInBounds_toArray, List.set_cons_zero, List.set_cons_succ, i64_w, i32_w]
                rfl
               refine pure_ (i := 17) (N := some 23) (v := ?_) (a' := ?_) #[true, true, true, true, true, true, true, true, true, true, true, true, true, true, true, true, true, true, false, true, true, false, false, false, true, true, false, false, false, true, true, false, false, false, false] rfl rfl (any_of HT_.out (by kernel_rfl)) (fun _ _ _ h => h) (Or.inl ⟨by rfl, ?_⟩) ?_ ?_
               rotate_left
               ·intro w'
                go_simp
                with_reducible rfl
               rotate_left
               ·simp only [Act.put, List.setIfInBounds_toArray, List.set_cons_zero, List.set_cons_succ, i64_w, i32_w]
                rfl
               refine pure_ (i := 18) (N := some 24) (v := ?_) (a' := ?_) #[true, true, true, true, true, true, true, true, true, true, true, true, true, true, true, true, true, true, true, true, true, false, false, false, true, true, false, false, false, true, true, false, false, false, false] rfl rfl (any_of HT_.out (by kernel_rfl)) (fun _ _ _ h => h) (Or.inl ⟨by rfl, ?_⟩) ?_ ?_
               rotate_left
               ·intro w'
                go_simp
                with_reducible rfl
               rotate_left
               ·simp only [Act.put, List.setIfInBounds_toArray, List.set_cons_zero, List.set_cons_succ, i64_w, i32_w]
                rfl
               refine one_ (i := 21) (N := some 27) #[true, true, true, true, true, true, true, true, true, true, true, true, true, true, true, true, true, true, true, true, true, true, false, false, true, true, false, false, false, true, true, false, false, false, false] rfl rfl (one_of HT_.out (by kernel_rfl)) (by decide) (fun K hK => ?_)
               refine goes_ Try.func35 (by kernel_rfl) rfl #[.int .i64 a0_4, .int .i64 2] (by rfl) rfl rfl (by (try simp only [List.map_toArray, List.map_cons, List.map_nil]); first | done | rfl | (simp only [List.length_drop, List.length_take]; rfl)) ?_
               with_reducible refine (timesyncref05_digits.calls a0_4 2 t146 _ A15.out).mono ?_
               rintro e w' ⟨rfl, ⟨nd, rfl⟩⟩
               refine ⟨_, rfl, ?_⟩
               refine hK.out _ _ ⟨(blk_cell BK140.out 0).trans rfl, (blk_cell BK140.out 1).trans rfl, (blk_cell BK140.out 2).trans rfl, (blk_cell BK140.out 3).trans rfl, (blk_cell BK140.out 4).trans rfl, (blk_cell BK140.out 5).trans rfl, (blk_cell BK140.out 6).trans rfl⟩ (fun hHeld => ?_)
               clear hK K
               refine norm_ (a' := ?_) ?_ ?_
               rotate_left
               ·show Act.put _ (some 27) _ = _
                simp only [Act.put, List.setIfInBounds_toArray, List.set_cons_zero, List.set_cons_succ, i64_w, i32_w]
                rfl
               refine pure_ (i := 22) (N := some 28) (v := ?_) (a' := ?_) #[true, true, true, true, true, true, true, true, true, true, true, true, true, true, true, true, true, true, true, true, true, true, true, false, true, true, false, false, false, true, true, false, false, false, false] rfl rfl (any_of HT_.out (by kernel_rfl)) (fun _ _ _ h => h) (Or.inl ⟨by rfl, ?_⟩) ?_ ?_
               rotate_left
               ·intro w'
                go_simp
                with_reducible rfl
               rotate_left
               ·simp only [Act.put, List.setIfInBounds_toArray, List.set_cons_zero, List.set_cons_succ, i64_w, i32_w]
                rfl
               refine pure_ (i := 23) (N := some 29) (v := ?_) (a' := ?_) #[true, true, true, true, true, true, true, true, true, true, true, true, true, true, true, true, true, true, true, true, true, true, true, true, true, true, false, false, false, true, true, false, false, false, false] rfl rfl (any_of HT_.out (by kernel_rfl)) (fun _ _ _ h => h) (Or.inl ⟨by rfl, ?_⟩) ?_ ?_
               rotate_left
               ·intro w'
                go_simp
                with_reducible rfl
               rotate_left
               ·simp only [Act.put, List.setIfInBounds_toArray, List.set_cons_zero, List.set_cons_succ, i64_w, i32_w]
                rfl
               refine one_ (i := 26) (N := some 32) #[true, true, true, true, true, true, true, true, true, true, true, true, true, true, true, true, true, true, true, true, true, true, true, true, true, true, true, false, false, true, true, false, false, false, false] rfl rfl (one_of HT_.out (by kernel_rfl)) (by decide) (fun K hK => ?_)
               refine goes_ Try.func35 (by kernel_rfl) rfl #[.int .i64 a0_5, .int .i64 2] (by rfl) rfl rfl (by (try simp only [List.map_toArray, List.map_cons, List.map_nil]); first | done | rfl | (simp only [List.length_drop, List.length_take]; rfl)) ?_
               with_reducible refine (timesyncref05_digits.calls a0_5 2 t147 _ A18.out).mono ?_
               rintro e w' ⟨rfl, ⟨nd, rfl⟩⟩
               refine ⟨_, rfl, ?_⟩
               refine hK.out _ _ ⟨(blk_cell BK140.out 0).trans rfl, (blk_cell BK140.out 1).trans rfl, (blk_cell BK140.out 2).trans rfl, (blk_cell BK140.out 3).trans rfl, (blk_cell BK140.out 4).trans rfl, (blk_cell BK140.out 5).trans rfl, (blk_cell BK140.out 6).trans rfl⟩ (fun hHeld => ?_)
               clear hK K
               refine norm_ (a' := ?_) ?_ ?_
               rotate_left
               ·show Act.put _ (some 32) _ = _
                simp only [Act.put, List.setIfInBounds_toArray, List.set_cons_zero, List.set_cons_succ, i64_w, i32_w]
                rfl
               refine pure_ (i := 27) (N := some 33) (v := ?_) (a' := ?_) #[true, true, true, true, true, true, true, true, true, true, true, true, true, true, true, true, true, true, true, true, true, true, true, true, true, true, true, true, false, true, true, false, false, false, false] rfl rfl (any_of HT_.out (by kernel_rfl)) (fun _ _ _ h => h) (Or.inl ⟨by rfl, ?_⟩) ?_ ?_
               rotate_left
               ·intro w'
                go_simp
                with_reducible rfl
               rotate_left
               ·simp only [Act.put, List.setIfInBounds_toArray, List.set_cons_zero, List.set_cons_succ, i64_w, i32_w]
                rfl
               refine pure_ (i := 28) (N := some 34) (v := ?_) (a' := ?_) #[true, true, true, true, true, true, true, true, true, true, true, true, true, true, true, true, true, true, true, true, true, true, true, true, true, true, true, true, true, true, true, false, false, false, false] rfl rfl (any_of HT_.out (by kernel_rfl)) (fun _ _ _ h => h) (Or.inl ⟨by rfl, ?_⟩) ?_ ?_
               rotate_left
               ·intro w'
                go_simp
                with_reducible rfl
               rotate_left
               ·simp only [Act.put, List.setIfInBounds_toArray, List.set_cons_zero, List.set_cons_succ, i64_w, i32_w]
                rfl
               refine one_ (i := 31) (N := some 37) #[true, true, true, true, true, true, true, true, true, true, true, true, true, true, true, true, true, true, true, true, true, true, true, true, true, true, true, true, true, true, true, true, false, false, false] rfl rfl (one_of HT_.out (by kernel_rfl)) (by decide) (fun K hK => ?_)
               refine goes_ Try.func35 (by kernel_rfl) rfl #[.int .i64 a0_6, .int .i64 9] (by rfl) rfl rfl (by (try simp only [List.map_toArray, List.map_cons, List.map_nil]); first | done | rfl | (simp only [List.length_drop, List.length_take]; rfl)) ?_
               with_reducible refine (timesyncref05_digits.calls a0_6 9 t148 _ A21.out).mono ?_
               rintro e w' ⟨rfl, ⟨nd, rfl⟩⟩
               refine ⟨_, rfl, ?_⟩
               refine hK.out _ _ ⟨(blk_cell BK140.out 0).trans rfl, (blk_cell BK140.out 1).trans rfl, (blk_cell BK140.out 2).trans rfl, (blk_cell BK140.out 3).trans rfl, (blk_cell BK140.out 4).trans rfl, (blk_cell BK140.out 5).trans rfl, (blk_cell BK140.out 6).trans rfl⟩ (fun hHeld => ?_)
               clear hK K
               refine norm_ (a' := ?_) ?_ ?_
               rotate_left
               ·show Act.put _ (some 37) _ = _
                simp only [Act.put, List.setIfInBounds_toArray, List.set_cons_zero, List.set_cons_succ, i64_w, i32_w]
                rfl
               refine pure_ (i := 32) (N := some 38) (v := ?_) (a' := ?_) #[true, true, true, true, true, true, true, true, true, true, true, true, true, true, true, true, true, true, true, true, true, true, true, true, true, true, true, true, true, true, true, true, true, false, false] rfl rfl (any_of HT_.out (by kernel_rfl)) (fun _ _ _ h => h) (Or.inl ⟨by rfl, ?_⟩) ?_ ?_
               rotate_left
               ·intro w'
                go_simp
                with_reducible rfl
               rotate_left
               ·simp only [Act.put, List.setIfInBounds_toArray, List.set_cons_zero, List.set_cons_succ, i64_w, i32_w]
                rfl
               refine pure_ (i := 33) (N := some 39) (v := ?_) (a' := ?_) #[true, true, true, true, true, true, true, true, true, true, true, true, true, true, true, true, true, true, true, true, true, true, true, true, true, true, true, true, true, true, true, true, true, true, false] rfl rfl (any_of HT_.out (by kernel_rfl)) (fun _ _ _ h => h) (Or.inl ⟨by rfl, ?_⟩) ?_ ?_
               rotate_left
               ·intro w'
                go_simp
                with_reducible rfl
               rotate_left
               ·simp only [Act.put, List.setIfInBounds_toArray, List.set_cons_zero, List.set_cons_succ, i64_w, i32_w]
                rfl
               refine pure_ (i := 34) (N := some 2) (v := ?_) (a' := ?_) #[true, true, true, true, true, true, true, true, true, true, true, true, true, true, true, true, true, true, true, true, true, true, true, true, true, true, true, true, true, true, true, true, true, true, true] rfl rfl (any_of HT_.out (by kernel_rfl)) (fun _ _ _ h => h) (Or.inl ⟨by rfl, ?_⟩) ?_ ?_
               rotate_left
               ·intro w'
                go_simp
                with_reducible rfl
               rotate_left
               ·simp only [Act.put, List.setIfInBounds_toArray, List.set_cons_zero, List.set_cons_succ, i64_w, i32_w]
                rfl
               refine done_ (done_of HT_.out (by kernel_rfl)) ?_
               try go_wp2
               go_ret
               exact ⟨by first | rfl | (simp [errW_none, errW_some] <;> rfl) | (simp [*, errW_none, errW_some] <;> rfl), by repeat (first | (with_reducible first | exact HB.out | apply below_alloc | apply pw_below_drewN | apply below_drew1 | refine below_set ?_ GE140.out) | exact HB.out)⟩
              ·rw [if_neg c23] at H
               exact absurd H (by simp)
             ·rw [if_neg c22] at H
              exact absurd H (by simp)
            ·rw [if_neg c20] at H
             exact absurd H (by simp)
           ·rw [if_neg c19] at H
            exact absurd H (by simp)
          ·rw [if_neg c17] at H
           exact absurd H (by simp)
         ·rw [if_neg c16] at H
          exact absurd H (by simp)
        ·rw [if_neg c14] at H
         exact absurd H (by simp)
       ·rw [if_neg c13] at H
        exact absurd H (by simp)
      ·rw [if_neg c11] at H
       exact absurd H (by simp)
     ·rw [if_neg c10] at H
      exact absurd H (by simp)
    ·rw [if_neg c8] at H
     exact absurd H (by simp)
   ·rw [if_neg c7] at H
    exact absurd H (by simp)
  ·rw [if_neg c5] at H
   exact absurd H (by simp)
 ·rw [if_neg c3] at H
  have c3b0 : (t141 == 0) = false := beq_eq_false_iff_ne.mpr c3
  have c3b1 : (t141 != 0) = true := bne_iff_ne.mpr c3
  obtain rfl := Option.some.inj H
  go_enter Try.func17, Try.ntmps17
  go_wp2_with (first | ((with_reducible refine gate_dst (N := 1) rfl ?_); refine box_event ?hg (N := 1) ?hd (cs := #[.int .i64 a0_0, .int .i64 a0_1, .int .i64 a0_2, .int .i64 a0_3, .int .i64 a0_4, .int .i64 a0_5, .int .i64 a0_6]) (t := 23) ?hr ?_; (case hd => rfl); (case hg => rfl); (case hr => first | (go_simp; done) | (go_simp; rfl)); intro gb140 hg w28 hbox hb; have n0_ := Aside0.mk (below_step (by repeat (first | (with_reducible first | exact HB.out | apply below_alloc | apply pw_below_drewN | apply below_drew1) | exact HB.out)) hb); have n1_ := Aside0.mk (hbox); have n2_ := Aside0.mk ((by rw [hg]; exact (below_size (by repeat (first | (with_reducible first | exact HB.out | apply below_alloc | apply pw_below_drewN | apply below_drew1) | exact HB.out))) : w.heap.size ≤ gb140)); have n3_ := Aside0.mk ((by rw [hg]; exact (below_size (by repeat (first | (with_reducible first | exact HB.out | apply below_alloc | apply pw_below_drewN | apply below_drew1) | exact HB.out))) : w.heap.size ≤ gb140)); clear HB; have HB := n0_; have BK140 := n1_; have GW140 := n2_; have GE140 := n3_; clear n0_ n1_ n2_ n3_; clear hb hbox hg; have hcz29_0 : w28.cell? ⟨gb140, 0, none⟩ = some (.int .i64 a0_0) := (blk_cell BK140.out 0).trans rfl; have hcz29_1 : w28.cell? ⟨gb140, 1, none⟩ = some (.int .i64 a0_1) := (blk_cell BK140.out 1).trans rfl; have hcz29_2 : w28.cell? ⟨gb140, 2, none⟩ = some (.int .i64 a0_2) := (blk_cell BK140.out 2).trans rfl; have hcz29_3 : w28.cell? ⟨gb140, 3, none⟩ = some (.int .i64 a0_3) := (blk_cell BK140.out 3).trans rfl; have hcz29_4 : w28.cell? ⟨gb140, 4, none⟩ = some (.int .i64 a0_4) := (blk_cell BK140.out 4).trans rfl; have hcz29_5 : w28.cell? ⟨gb140, 5, none⟩ = some (.int .i64 a0_5) := (blk_cell BK140.out 5).trans rfl; have hcz29_6 : w28.cell? ⟨gb140, 6, none⟩ = some (.int .i64 a0_6) := (blk_cell BK140.out 6).trans rfl; have hfz29_0 := blk_frozen BK140.out 0; have hfz29_1 := blk_frozen BK140.out 1; have hfz29_2 := blk_frozen BK140.out 2; have hfz29_3 := blk_frozen BK140.out 3; have hfz29_4 := blk_frozen BK140.out 4; have hfz29_5 := blk_frozen BK140.out 5; have hfz29_6 := blk_frozen BK140.out 6) | ((with_reducible refine gate_callee (f := 28) rfl ?_); refine goesL_ (some 4) rfl rfl Try.func28 (by kernel_rfl) rfl #[.agg #[.int .i64 a0_0, .int .i64 a0_1, .int .i64 a0_2, .int .i64 a0_3, .int .i64 a0_4, .int .i64 a0_5, .int .i64 a0_6]] rfl (by (try simp only [List.map_toArray, List.map_cons, List.map_nil]); first | done | rfl | (simp only [List.length_drop, List.length_take]; rfl)) ?_; (with_reducible refine (timesyncref05_Check.calls k a0_0 a0_1 a0_2 a0_3 a0_4 a0_5 a0_6 t141 _ A2.out).mono ?_); rintro e w30 ⟨rfl, hb⟩; refine ⟨_, rfl, ?_⟩; have n0_ := Aside0.mk (blk_below (g := gb140) (o := .cells #[.int .i64 a0_0, .int .i64 a0_1, .int .i64 a0_2, .int .i64 a0_3, .int .i64 a0_4, .int .i64 a0_5, .int .i64 a0_6] 23 (0, 0)) (by (with_reducible repeat (first | refine blk_drewN ?_ _ | refine blk_drew ?_ | refine blk_alloc ?_ _)); exact BK140.out) hb); have n1_ := Aside0.mk (below_step (by repeat (first | (with_reducible first | exact HB.out | apply below_alloc | apply pw_below_drewN | apply below_drew1 | refine below_set ?_ GE140.out) | exact HB.out)) hb); clear BK140; clear HB; have BK140 := n0_; have HB := n1_; clear n0_ n1_; (try clear hb); (try clear hb2); (try clear hk); (try clear hi)))
  go_ret
  exact ⟨by first | rfl | (simp [errW_none, errW_some] <;> rfl) | (simp [*, errW_none, errW_some] <;> rfl), by repeat (first | (with_reducible first | exact HB.out | apply below_alloc | apply pw_below_drewN | apply below_drew1 | refine below_set ?_ GE140.out) | exact HB.out)⟩

end Go.Proofs.Ytpchlfjfambgoaa.All
