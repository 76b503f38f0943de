/- What the Go functions named below answer, each as a plain Lean function, and that its call comes to just that answer. No condition. Written by a program of this session (wip/myprint.py), which runs the kit's print with changes of its own. -/
import Derived.Test.YtljbajnmkkebkaaAll0
import Derived.Test.YtljbajnmkkebkaaAll13
namespace Go.Proofs.Ytljbajnmkkebkaa.All
open Go.RowKit Go.Proofs.YtljbajnmkkebkaaW.PrintWords Go.Proofs.YtljbajnmkkebkaaW.PrintLast Go.Proofs.YtljbajnmkkebkaaW.PrintMore
attribute [local go_sem] max2_int min2_int max_two min_two max_three min_three max_four min_four   -- for this text's walks alone
set_option linter.unusedVariables false
set_option linter.unusedSimpArgs false

/-! ### timesyncref01_MulDiv: function 70 (typed by hand) -/
theorem timesyncref01_MulDiv.or_low (y b : Int) (h0 : 0 ≤ y) (h1 : y < 9223372036854775808) (b0 : 0 ≤ b) (b1 : b ≤ 1) : Go.bits .or .u64 (2 * y) b = 2 * y + b := by
 obtain ⟨m, rfl⟩ := Int.eq_ofNat_of_zero_le h0
 obtain ⟨n, rfl⟩ := Int.eq_ofNat_of_zero_le b0
 have e : (2 * (m : Int)) = ((2 * m : Nat) : Int) := by omega
 rw [e, bits_or_u64_nat (2 * m) n (by omega) (by omega)]
 have h := Nat.shiftLeft_add_eq_or_of_lt (b := n) (i := 1) (by omega) m
 rw [Nat.shiftLeft_eq] at h
 have e2 : 2 * m = m * 2 ^ 1 := by omega
 rw [e2, ← h]
 omega
theorem timesyncref01_MulDiv.dbl (y : Int) (h0 : 0 ≤ y) (h1 : y < 18446744073709551616) : IntKind.u64.wrap (y * 2) = 2 * (y % 9223372036854775808) := by
 rw [IntKind.wrap_u64]
 omega
theorem timesyncref01_MulDiv.wu (y : Int) (h0 : 0 ≤ y) (h1 : y < 18446744073709551616) : IntKind.u64.wrap y = y := by
 rw [IntKind.wrap_u64]
 omega
def timesyncref01_MulDiv.pw : Nat → Int
 | 0 => 1
 | n + 1 => 2 * timesyncref01_MulDiv.pw n
theorem timesyncref01_MulDiv.pw_succ (n : Nat) : timesyncref01_MulDiv.pw (n + 1) = 2 * timesyncref01_MulDiv.pw n := rfl
theorem timesyncref01_MulDiv.pw_pos : ∀ n : Nat, 1 ≤ timesyncref01_MulDiv.pw n
 | 0 => Int.le_refl 1
 | n + 1 => by
  have h := timesyncref01_MulDiv.pw_pos n
  rw [timesyncref01_MulDiv.pw_succ]
  omega
theorem timesyncref01_MulDiv.pw_mono (n : Nat) : ∀ d : Nat, timesyncref01_MulDiv.pw n ≤ timesyncref01_MulDiv.pw (n + d)
 | 0 => Int.le_refl _
 | d + 1 => by
  have h := timesyncref01_MulDiv.pw_mono n d
  have h2 := timesyncref01_MulDiv.pw_pos (n + d)
  rw [← Nat.add_assoc, timesyncref01_MulDiv.pw_succ]
  omega
theorem timesyncref01_MulDiv.pw_128 : timesyncref01_MulDiv.pw 128 = 340282366920938463463374607431768211456 := by decide +kernel
theorem timesyncref01_MulDiv.pow_le (n d : Nat) (h : n + d = 128) : timesyncref01_MulDiv.pw n ≤ 340282366920938463463374607431768211456 := by
 have h1 := timesyncref01_MulDiv.pw_mono n d
 rw [h, timesyncref01_MulDiv.pw_128] at h1
 exact h1
theorem timesyncref01_MulDiv.i1 (i d : Nat) (h : i + (d + 1) = 128) : (i : Int) < 128 := by omega
theorem timesyncref01_MulDiv.i2 (i d : Nat) (h : i + (d + 1) = 128) : i + 1 + d = 128 := by omega
theorem timesyncref01_MulDiv.i3 (i d : Nat) (h : i + (d + 1) = 128) : wrap64 ((i : Int) + 1) = ((i + 1 : Nat) : Int) := by unfold wrap64; omega
set_option maxHeartbeats 1600000 in
theorem timesyncref01_MulDiv.div_l0 (A c : Int) (hA0 : 0 ≤ A) (hA1 : A ≤ 9223372036854775808) (c0 : 0 < c) (c1 : c ≤ 4611686018427387904) : ∀ (d i k : Nat) (hi lo Q r : Int), i + d = 128 → d < k →
  0 ≤ hi → hi < 18446744073709551616 → 0 ≤ lo → lo < 18446744073709551616 → 0 ≤ Q → 0 ≤ r → r < c →
  (Q * c + r) * 340282366920938463463374607431768211456 + (hi * 18446744073709551616 + lo) = A * timesyncref01_MulDiv.pw i →
  timesyncref01_divide.l0 k hi lo c 0 Q r (i : Int) = some (0, A / c, A % c) := by
 intro d
 induction d with
 | zero =>
  intro i k hi lo Q r hid hk h0 h1 l0 l1 q0 r0 r1 e
  obtain ⟨k, rfl⟩ : ∃ m, k = m + 1 := ⟨k - 1, by omega⟩
  obtain rfl : i = 128 := by omega
  simp only [timesyncref01_divide.l0]
  rw [if_neg (by omega)]
  rw [timesyncref01_MulDiv.pw_128] at e
  have e3 : Q * c + r = A := by omega
  have e4 : A / c = Q := by rw [← e3, Int.add_comm, Int.add_mul_ediv_right _ _ (by omega), Int.ediv_eq_zero_of_lt r0 r1]; omega
  have e5 : A % c = r := by rw [← e3, Int.add_comm, Int.add_mul_emod_self_right, Int.emod_eq_of_lt r0 r1]
  rw [e4, e5]
 | succ d ih =>
  intro i k hi lo Q r hid hk h0 h1 l0 l1 q0 r0 r1 e
  obtain ⟨k, rfl⟩ : ∃ m, k = m + 1 := ⟨k - 1, by omega⟩
  have hk2 : d < k := by omega
  have i2 := timesyncref01_MulDiv.i2 i d hid
  have i1 := timesyncref01_MulDiv.i1 i d hid
  have ep : A * timesyncref01_MulDiv.pw (i + 1) = 2 * (A * timesyncref01_MulDiv.pw i) := by rw [timesyncref01_MulDiv.pw_succ, ← Int.mul_assoc, Int.mul_comm A 2, Int.mul_assoc]
  have hT : A * timesyncref01_MulDiv.pw (i + 1) ≤ A * 340282366920938463463374607431768211456 := by
   refine Int.mul_le_mul_of_nonneg_left ?_ hA0
   exact timesyncref01_MulDiv.pow_le (i + 1) d i2
  have hz : 0 ≤ Q * c := Int.mul_nonneg q0 (by omega)
  have hQ : Q ≤ Q * c := by
   have := Int.mul_le_mul_of_nonneg_left (show (1 : Int) ≤ c by omega) q0
   omega
  have hQ3 : Q < 9223372036854775808 := by
   generalize A * timesyncref01_MulDiv.pw i = X at *
   generalize A * timesyncref01_MulDiv.pw (i + 1) = Y at *
   generalize Q * c = z at *
   by_cases hq : Q = 0
   ·omega
   ·have h3 : 2 * (z + r) ≤ A := by omega
    omega
  simp only [timesyncref01_divide.l0]
  rw [if_pos i1, if_neg (by omega), timesyncref01_MulDiv.i3 i d hid, timesyncref01_MulDiv.dbl hi h0 h1, timesyncref01_MulDiv.dbl lo l0 l1, timesyncref01_MulDiv.dbl r r0 (by omega), timesyncref01_MulDiv.dbl Q q0 (by omega), timesyncref01_MulDiv.dbl 0 (by omega) (by omega)]
  rw [timesyncref01_MulDiv.or_low (hi % 9223372036854775808) (lo / 9223372036854775808) (by omega) (by omega) (by omega) (by omega), timesyncref01_MulDiv.or_low (r % 9223372036854775808) (hi / 9223372036854775808) (by omega) (by omega) (by omega) (by omega),
   timesyncref01_MulDiv.or_low (0 % 9223372036854775808) (Q / 9223372036854775808) (by omega) (by omega) (by omega) (by omega), timesyncref01_MulDiv.or_low (Q % 9223372036854775808) 1 (by omega) (by omega) (by omega) (by omega)]
  have g1 : 2 * (0 % 9223372036854775808) + Q / 9223372036854775808 = 0 := by omega
  have g2 : Q % 9223372036854775808 = Q := by omega
  have g3 : r % 9223372036854775808 = r := by omega
  rw [g1, g2, g3]
  have m1 : (2 * Q) * c = 2 * (Q * c) := by rw [Int.mul_assoc]
  have m2 : (2 * Q + 1) * c = 2 * (Q * c) + c := by rw [Int.add_mul, Int.mul_assoc, Int.one_mul]
  by_cases hc : 2 * r + hi / 9223372036854775808 ≥ c
  ·rw [if_pos hc, timesyncref01_MulDiv.wu _ (by omega) (by omega)]
   refine ih (i + 1) k _ _ _ _ i2 hk2 (by omega) (by omega) (by omega) (by omega) (by omega) (by omega) (by omega) ?_
   rw [ep, ← e, m2]
   generalize Q * c = z at *
   omega
  ·rw [if_neg hc]
   refine ih (i + 1) k _ _ _ _ i2 hk2 (by omega) (by omega) (by omega) (by omega) (by omega) (by omega) (by omega) ?_
   rw [ep, ← e, m1]
   generalize Q * c = z at *
   omega
theorem timesyncref01_MulDiv.div_f (A c : Int) (hA0 : 0 ≤ A) (hA1 : A ≤ 9223372036854775808) (c0 : 0 < c) (c1 : c ≤ 4611686018427387904) : timesyncref01_divide.f 200 0 A c = some (0, A / c, A % c) :=
 timesyncref01_MulDiv.div_l0 A c hA0 hA1 c0 c1 128 0 200 0 A 0 0 (by omega) (by omega) (by omega) (by omega) hA0 (by omega) (by omega) (by omega) c0 (by rw [show timesyncref01_MulDiv.pw 0 = 1 from rfl]; omega)
def timesyncref01_MulDiv.f (a0 : Int) (a1 : Int) (a2 : Int) : Option (Int × Bool) :=
 if a1 = 1 ∧ 0 < a2 ∧ a2 ≤ 4611686018427387904 ∧ -9223372036854775808 ≤ a0 ∧ a0 ≤ 9223372036854775807 then some (a0 / a2, true) else none
theorem timesyncref01_MulDiv.size_pos (a : Int) (h0 : 0 ≤ a) (h1 : a ≤ 9223372036854775807) : timesyncref01_size.f a = some a := by
 unfold timesyncref01_size.f
 rw [if_neg (by omega), timesyncref01_MulDiv.wu a h0 (by omega)]
theorem timesyncref01_MulDiv.size_neg (a : Int) (h0 : a < 0) (h1 : -9223372036854775808 ≤ a) : timesyncref01_size.f a = some (-a) := by
 unfold timesyncref01_size.f
 have w1 : wrap64 (a + 1) = a + 1 := by unfold wrap64; omega
 have w2 : wrap64 (-(a + 1)) = -(a + 1) := by unfold wrap64; omega
 rw [if_pos h0, w1, w2, timesyncref01_MulDiv.wu (-(a + 1)) (by omega) (by omega), timesyncref01_MulDiv.wu _ (by omega) (by omega)]
 congr 1
 omega
theorem timesyncref01_MulDiv.prod (A : Int) (h0 : 0 ≤ A) (h1 : A ≤ 9223372036854775808) : timesyncref01_product.f A 1 = some (0, A) := by
 unfold timesyncref01_product.f
 have t1 : Int.tdiv 1 4294967296 = 0 := by decide
 have t2 : Int.tmod 1 4294967296 = 1 := by decide
 rw [t1, t2, Int.tdiv_eq_ediv_of_nonneg h0, Int.tmod_eq_emod_of_nonneg h0]
 have u0 : IntKind.u64.wrap 0 = 0 := by rw [IntKind.wrap_u64]; omega
 simp only [u0, Int.mul_zero, Int.mul_one, Int.zero_add]
 rw [timesyncref01_MulDiv.wu (A % 4294967296) (by omega) (by omega), timesyncref01_MulDiv.wu (A / 4294967296) (by omega) (by omega), timesyncref01_MulDiv.wu (A / 4294967296) (by omega) (by omega)]
 have d1 : Int.tdiv (A % 4294967296) 4294967296 = 0 := by rw [Int.tdiv_eq_ediv_of_nonneg (by omega)]; omega
 rw [d1, u0, Int.add_zero, timesyncref01_MulDiv.wu (A / 4294967296) (by omega) (by omega), Int.tdiv_eq_ediv_of_nonneg (show 0 ≤ A / 4294967296 by omega), Int.tmod_eq_emod_of_nonneg (show 0 ≤ A / 4294967296 by omega), Int.tmod_eq_emod_of_nonneg (show 0 ≤ A % 4294967296 by omega)]
 have d2 : A / 4294967296 / 4294967296 = 0 := by omega
 rw [d2, u0, timesyncref01_MulDiv.wu (A / 4294967296 % 4294967296) (by omega) (by omega), Int.tdiv_eq_ediv_of_nonneg (show 0 ≤ A / 4294967296 % 4294967296 by omega), Int.tmod_eq_emod_of_nonneg (show 0 ≤ A / 4294967296 % 4294967296 by omega)]
 have d3 : A / 4294967296 % 4294967296 / 4294967296 = 0 := by omega
 rw [d3]
 simp only [u0, Int.add_zero]
 rw [timesyncref01_MulDiv.wu (A / 4294967296 % 4294967296 % 4294967296 * 4294967296) (by omega) (by omega), timesyncref01_MulDiv.wu (A / 4294967296 % 4294967296 % 4294967296 * 4294967296 + A % 4294967296 % 4294967296) (by omega) (by omega)]
 have d4 : A / 4294967296 % 4294967296 % 4294967296 * 4294967296 + A % 4294967296 % 4294967296 = A := by omega
 rw [d4]
theorem timesyncref01_MulDiv.sg (n : Bool) (q : Int) (h0 : 0 ≤ q) (h1 : q ≤ 9223372036854775808) (h2 : n = false → q ≤ 9223372036854775807) : timesyncref01_signed.f 5 n 0 q = some (if n = true then -q else q, true) := by
 have wq : ∀ x : Int, -9223372036854775808 ≤ x ∧ x ≤ 9223372036854775807 → wrap64 x = x := fun x hx => by unfold wrap64; omega
 unfold timesyncref01_signed.f
 rw [if_neg (by omega), if_neg (by omega)]
 cases n
 ·have h3 := h2 rfl
  rw [if_neg (by omega)]
  simp only [timesyncref01_signed.j0]
  rw [if_neg (by decide), if_neg (by decide), if_neg (by decide), wq q (by omega)]
 ·have hj : timesyncref01_signed.j0 5 true q false = some (-q, true) := by
   simp only [timesyncref01_signed.j0]
   rw [if_neg (by decide), if_pos trivial]
   by_cases hq : q = 0
   ·rw [if_pos hq, hq]; rfl
   ·have e : -(q - 1) - 1 = -q := by omega
    rw [if_neg hq, timesyncref01_MulDiv.wu (q - 1) (by omega) (by omega), wq (q - 1) (by omega), wq (-(q - 1)) (by omega), wq (-(q - 1) - 1) (by omega), e]
  by_cases h2 : q = 9223372036854775808
  ·rw [if_pos h2]
   exact hj
  ·rw [if_neg h2]
   exact hj
set_option maxHeartbeats 1600000 in
set_option maxRecDepth 100000 in
theorem timesyncref01_MulDiv.calls (a0 : Int) (a1 : Int) (a2 : Int) (r1 : Int) (r2 : Bool) (w : World) (h : timesyncref01_MulDiv.f a0 a1 a2 = some (r1, r2)) :
  Calls Try.prog 70 #[.int .i64 a0, .int .i64 a1, .int .i64 a2] w fun e w' => e = .returned (.tuple #[.int .i64 r1, .bool r2]) ∧ Drawn0 w w' := by
 unfold timesyncref01_MulDiv.f at h
 by_cases hc : a1 = 1 ∧ 0 < a2 ∧ a2 ≤ 4611686018427387904 ∧ -9223372036854775808 ≤ a0 ∧ a0 ≤ 9223372036854775807
 ·rw [if_pos hc] at h
  obtain ⟨rfl, c0, c1, x0, x1⟩ := hc
  obtain ⟨e1, e2⟩ := Prod.mk.inj (Option.some.inj h)
  subst e1 e2
  clear h
  have S1 := Aside0.mk (timesyncref01_MulDiv.size_pos 1 (by omega) (by omega))
  have S2 := Aside0.mk (timesyncref01_MulDiv.size_pos a2 (by omega) (by omega))
  have c2 : (a2 == 0) = false := by rw [beq_eq_false_iff_ne]; omega
  have c3 : decide (a2 < 0) = false := decide_eq_false (by omega)
  by_cases hn : a0 < 0
  ·have S0 := Aside0.mk (timesyncref01_MulDiv.size_neg a0 hn x0)
   have P0 := Aside0.mk (timesyncref01_MulDiv.prod (-a0) (by omega) (by omega))
   have D0 := Aside0.mk (timesyncref01_MulDiv.div_f (-a0) a2 (by omega) (by omega) c0 c1)
   have n1 : decide (a0 < 0) = true := decide_eq_true hn
   have hm := Int.mul_ediv_add_emod (-a0) a2
   have hr0 := Int.emod_nonneg (-a0) (show a2 ≠ 0 by omega)
   have hr1 := Int.emod_lt_of_pos (-a0) c0
   have hq0 : 0 ≤ -a0 / a2 := Int.ediv_nonneg (by omega) (by omega)
   have hq1 : -a0 / a2 ≤ -a0 := Int.ediv_le_self _ (by omega)
   by_cases hr : -a0 % a2 = 0
   ·have G := Aside0.mk (timesyncref01_MulDiv.sg true (-a0 / a2) hq0 (by omega) (by intro h; cases h))
    have V : Aside0 (a0 / a2 = -(-a0 / a2)) := ⟨by
     rw [hr, Int.add_zero] at hm
     have : a0 = a2 * (-(-a0 / a2)) := by rw [Int.mul_neg]; omega
     have e2 := Int.mul_ediv_cancel_left (-(-a0 / a2)) (show a2 ≠ 0 by omega)
     rw [← this] at e2
     exact e2⟩
    have r1 : decide (0 < -a0 % a2) = false := decide_eq_false (by omega)
    generalize -a0 % a2 = R at *
    generalize -a0 / a2 = Q at *
    clear hm hr hn
    go_enter Try.func70, Try.ntmps70
    go_wp2_with fail
    refine (timesyncref01_size.calls a0 _ _ S0.out).mono ?_
    rintro e w1 ⟨rfl, d1⟩
    obtain ⟨n1, rfl⟩ := d1.out
    go_wp2_with fail
    refine (timesyncref01_size.calls 1 _ _ S1.out).mono ?_
    rintro e w2 ⟨rfl, d2⟩
    obtain ⟨n2, rfl⟩ := d2.out
    go_wp2_with fail
    refine (timesyncref01_product.calls (-a0) 1 _ _ _ P0.out).mono ?_
    rintro e w3 ⟨rfl, d3⟩
    obtain ⟨n3, rfl⟩ := d3.out
    go_wp2_with fail
    refine (timesyncref01_size.calls a2 _ _ S2.out).mono ?_
    rintro e w4 ⟨rfl, d4⟩
    obtain ⟨n4, rfl⟩ := d4.out
    go_wp2_with fail
    refine (timesyncref01_divide.calls 200 0 (-a0) a2 _ _ _ _ D0.out).mono ?_
    rintro e w5 ⟨rfl, d5⟩
    obtain ⟨n5, rfl⟩ := d5.out
    go_wp2_with fail
    refine (timesyncref01_signed.calls 5 true 0 Q _ _ _ G.out).mono ?_
    rintro e w6 ⟨rfl, d6⟩
    obtain ⟨n6, rfl⟩ := d6.out
    go_wp2
    go_ret2
    refine ⟨?_, by first | exact ⟨_, rfl⟩ | exact ⟨⟨_, rfl⟩⟩ | (repeat (first | exact Drawn0.refl _ | apply Drawn0.step))⟩
    rw [V.out]
    rfl
   ·have hq2 : -a0 / a2 ≤ 9223372036854775807 := by
     by_cases h5 : a2 = 1
     ·exfalso
      rw [h5] at hr0 hr1 hr
      omega
     ·have h6 := Int.mul_le_mul_of_nonneg_right (show (2 : Int) ≤ a2 by omega) hq0
      omega
    have G := Aside0.mk (timesyncref01_MulDiv.sg true (-a0 / a2 + 1) (by omega) (by omega) (by intro h; cases h))
    have V : Aside0 (a0 / a2 = -(-a0 / a2 + 1)) := ⟨by
     have : a0 = (a2 - -a0 % a2) + a2 * (-(-a0 / a2 + 1)) := by
      have e5 : a2 * (-(-a0 / a2 + 1)) = -(a2 * (-a0 / a2) + a2) := by rw [Int.mul_neg, Int.mul_add, Int.mul_one]
      omega
     have e2 := Int.add_mul_ediv_left (a2 - -a0 % a2) (-(-a0 / a2 + 1)) (show a2 ≠ 0 by omega)
     have e3 : (a2 - -a0 % a2) / a2 = 0 := Int.ediv_eq_zero_of_lt (by omega) (by omega)
     rw [← this, e3] at e2
     omega⟩
    have W : IntKind.u64.wrap (-a0 / a2 + 1) = -a0 / a2 + 1 := timesyncref01_MulDiv.wu _ (by omega) (by omega)
    have Z : ((-a0 / a2 + 1) == 0) = false := by rw [beq_eq_false_iff_ne]; omega
    have r1 : decide (0 < -a0 % a2) = true := decide_eq_true (by omega)
    generalize -a0 % a2 = R at *
    generalize -a0 / a2 = Q at *
    clear hm hr hn
    go_enter Try.func70, Try.ntmps70
    go_wp2_with fail
    refine (timesyncref01_size.calls a0 _ _ S0.out).mono ?_
    rintro e w1 ⟨rfl, d1⟩
    obtain ⟨n1, rfl⟩ := d1.out
    go_wp2_with fail
    refine (timesyncref01_size.calls 1 _ _ S1.out).mono ?_
    rintro e w2 ⟨rfl, d2⟩
    obtain ⟨n2, rfl⟩ := d2.out
    go_wp2_with fail
    refine (timesyncref01_product.calls (-a0) 1 _ _ _ P0.out).mono ?_
    rintro e w3 ⟨rfl, d3⟩
    obtain ⟨n3, rfl⟩ := d3.out
    go_wp2_with fail
    refine (timesyncref01_size.calls a2 _ _ S2.out).mono ?_
    rintro e w4 ⟨rfl, d4⟩
    obtain ⟨n4, rfl⟩ := d4.out
    go_wp2_with fail
    refine (timesyncref01_divide.calls 200 0 (-a0) a2 _ _ _ _ D0.out).mono ?_
    rintro e w5 ⟨rfl, d5⟩
    obtain ⟨n5, rfl⟩ := d5.out
    go_wp2_with fail
    refine (timesyncref01_signed.calls 5 true 0 (Q + 1) _ _ _ G.out).mono ?_
    rintro e w6 ⟨rfl, d6⟩
    obtain ⟨n6, rfl⟩ := d6.out
    go_wp2
    go_ret2
    refine ⟨?_, by first | exact ⟨_, rfl⟩ | exact ⟨⟨_, rfl⟩⟩ | (repeat (first | exact Drawn0.refl _ | apply Drawn0.step))⟩
    rw [V.out]
    rfl
  ·have S0 := Aside0.mk (timesyncref01_MulDiv.size_pos a0 (by omega) x1)
   have P0 := Aside0.mk (timesyncref01_MulDiv.prod a0 (by omega) (by omega))
   have D0 := Aside0.mk (timesyncref01_MulDiv.div_f a0 a2 (by omega) (by omega) c0 c1)
   have n1 : decide (a0 < 0) = false := decide_eq_false hn
   have hq0 : 0 ≤ a0 / a2 := Int.ediv_nonneg (by omega) (by omega)
   have hq1 : a0 / a2 ≤ a0 := Int.ediv_le_self _ (by omega)
   have G := Aside0.mk (timesyncref01_MulDiv.sg false (a0 / a2) hq0 (by omega) (by intro h; omega))
   generalize a0 % a2 = R at *
   generalize a0 / a2 = Q at *
   clear hn
   go_enter Try.func70, Try.ntmps70
   go_wp2_with fail
   refine (timesyncref01_size.calls a0 _ _ S0.out).mono ?_
   rintro e w1 ⟨rfl, d1⟩
   obtain ⟨n1, rfl⟩ := d1.out
   go_wp2_with fail
   refine (timesyncref01_size.calls 1 _ _ S1.out).mono ?_
   rintro e w2 ⟨rfl, d2⟩
   obtain ⟨n2, rfl⟩ := d2.out
   go_wp2_with fail
   refine (timesyncref01_product.calls a0 1 _ _ _ P0.out).mono ?_
   rintro e w3 ⟨rfl, d3⟩
   obtain ⟨n3, rfl⟩ := d3.out
   go_wp2_with fail
   refine (timesyncref01_size.calls a2 _ _ S2.out).mono ?_
   rintro e w4 ⟨rfl, d4⟩
   obtain ⟨n4, rfl⟩ := d4.out
   go_wp2_with fail
   refine (timesyncref01_divide.calls 200 0 a0 a2 _ _ _ _ D0.out).mono ?_
   rintro e w5 ⟨rfl, d5⟩
   obtain ⟨n5, rfl⟩ := d5.out
   go_wp2_with fail
   refine (timesyncref01_signed.calls 5 false 0 Q _ _ _ G.out).mono ?_
   rintro e w6 ⟨rfl, d6⟩
   obtain ⟨n6, rfl⟩ := d6.out
   go_wp2
   go_ret2
   refine ⟨?_, by first | exact ⟨_, rfl⟩ | exact ⟨⟨_, rfl⟩⟩ | (repeat (first | exact Drawn0.refl _ | apply Drawn0.step))⟩
   rfl
 ·rw [if_neg hc] at h
  cases h

/-! ### timesyncref01_Floor: function 68 -/
def timesyncref01_Floor.f (a0 : Int) (a1 : Int) : Option (Int × Bool) := (timesyncref01_MulDiv.f a0 1 a1).bind fun bt248 => (some (bt248.1, bt248.2))
set_option maxHeartbeats 8000000 in
set_option maxRecDepth 100000 in
theorem timesyncref01_Floor.calls (a0 : Int) (a1 : Int) (r1 : Int) (r2 : Bool) (w : World) (h : timesyncref01_Floor.f a0 a1 = some (r1, r2)) :
  Calls Try.prog 68 #[.int .i64 a0, .int .i64 a1] w fun e w' => e = .returned (.tuple #[.int .i64 r1, .bool r2]) ∧ Drawn0 w w' := by
 have H : ((timesyncref01_MulDiv.f a0 1 a1).bind fun bt248 => (some (bt248.1, bt248.2))) = some (r1, r2) := h
 clear h
 replace H := Option.bind_eq_some_iff.mp H
 obtain ⟨⟨t248, t249⟩, A30, H⟩ := H
 replace H : (some (t248, t249)) = some (r1, r2) := H
 have A3 := Aside0.mk A30
 clear A30
 simp only [Option.some.injEq, Prod.mk.injEq] at H
 obtain ⟨rfl, rfl⟩ := H
 go_enter Try.func68, Try.ntmps68
 go_wp2_with (first | ((with_reducible refine gate_callee (f := 70) rfl ?_); refine goesL_ (some 8) rfl rfl Try.func70 (by kernel_rfl) rfl #[.int .i64 a0, .int .i64 1, .int .i64 a1] rfl (by (try simp only [List.map_toArray, List.map_cons, List.map_nil]); first | done | rfl | (simp only [List.length_drop, List.length_take]; rfl)) ?_; (with_reducible refine (timesyncref01_MulDiv.calls a0 1 a1 t248 t249 _ A3.out).mono ?_); rintro e w' ⟨rfl, ⟨nd, rfl⟩⟩; refine ⟨_, rfl, ?_⟩))
 go_ret2
 exact ⟨by first | rfl | (simp; done) | (simp [*]; done), by repeat (first | exact Drawn0.refl _ | apply Drawn0.step)⟩

/-! ### timesyncref05_dayOf: function 64 -/
def timesyncref05_dayOf.f (a0 : Int) : Option (Int) := (timesyncref01_Floor.f a0 86400).bind fun bt250 => (some bt250.1)
set_option maxHeartbeats 8000000 in
set_option maxRecDepth 100000 in
theorem timesyncref05_dayOf.calls (a0 : Int) (r : Int) (w : World) (h : timesyncref05_dayOf.f a0 = some r) :
  Calls Try.prog 64 #[.int .i64 a0] w fun e w' => e = .returned (.int .i64 r) ∧ Drawn0 w w' := by
 have H : ((timesyncref01_Floor.f a0 86400).bind fun bt250 => (some bt250.1)) = some r := h
 clear h
 replace H := Option.bind_eq_some_iff.mp H
 obtain ⟨⟨t250, t251⟩, A20, H⟩ := H
 replace H : (some t250) = some r := H
 have A2 := Aside0.mk A20
 clear A20
 obtain rfl := Option.some.inj H
 go_enter Try.func64, Try.ntmps64
 go_wp2_with (first | ((with_reducible refine gate_callee (f := 68) rfl ?_); refine goesL_ (some 7) rfl rfl Try.func68 (by kernel_rfl) rfl #[.int .i64 a0, .int .i64 86400] rfl (by (try simp only [List.map_toArray, List.map_cons, List.map_nil]); first | done | rfl | (simp only [List.length_drop, List.length_take]; rfl)) ?_; (with_reducible refine (timesyncref01_Floor.calls a0 86400 t250 t251 _ A2.out).mono ?_); rintro e w' ⟨rfl, ⟨nd, rfl⟩⟩; refine ⟨_, rfl, ?_⟩))
 go_ret
 exact ⟨by first | rfl | (simp; done) | (simp [*]; done), by repeat (first | exact Drawn0.refl _ | apply Drawn0.step)⟩

/-! ### timesyncref05_isLeap: function 69 -/
def timesyncref05_isLeap.f (a0 : Int) : Option (Bool) := if (Int.tmod a0 4) = 0 then (if (Int.tmod a0 100) = 0 then (some ((Int.tmod a0 400) == 0)) else (some true)) else (some false)
set_option maxHeartbeats 8000000 in
set_option maxRecDepth 100000 in
theorem timesyncref05_isLeap.calls (a0 : Int) (r : Bool) (w : World) (h : timesyncref05_isLeap.f a0 = some r) :
  Calls Try.prog 69 #[.int .i64 a0] w fun e w' => e = .returned (.bool r) ∧ Drawn0 w w' := by
 have H : (if (Int.tmod a0 4) = 0 then (if (Int.tmod a0 100) = 0 then (some ((Int.tmod a0 400) == 0)) else (some true)) else (some false)) = some r := h
 clear h
 by_cases c2 : (Int.tmod a0 4) = 0
 ·rw [if_pos c2] at H
  have c2b0 : ((Int.tmod a0 4) == 0) = true := beq_iff_eq.mpr c2
  have c2b1 : ((Int.tmod a0 4) != 0) = false := bne_eq_false_iff_eq.mpr c2
  clear c2
  by_cases c3 : (Int.tmod a0 100) = 0
  ·rw [if_pos c3] at H
   have c3b0 : ((Int.tmod a0 100) == 0) = true := beq_iff_eq.mpr c3
   have c3b1 : ((Int.tmod a0 100) != 0) = false := bne_eq_false_iff_eq.mpr c3
   clear c3
   obtain rfl := Option.some.inj H
   go_enter Try.func69, Try.ntmps69
   go_wp2
   go_ret
   exact ⟨by first | rfl | (simp; done) | (simp [*]; done), by repeat (first | exact Drawn0.refl _ | apply Drawn0.step)⟩
  ·rw [if_neg c3] at H
   have c3b0 : ((Int.tmod a0 100) == 0) = false := beq_eq_false_iff_ne.mpr c3
   have c3b1 : ((Int.tmod a0 100) != 0) = true := bne_iff_ne.mpr c3
   obtain rfl := Option.some.inj H
   go_enter Try.func69, Try.ntmps69
   go_wp2
   go_ret
   exact ⟨by first | rfl | (simp; done) | (simp [*]; done), by repeat (first | exact Drawn0.refl _ | apply Drawn0.step)⟩
 ·rw [if_neg c2] at H
  have c2b0 : ((Int.tmod a0 4) == 0) = false := beq_eq_false_iff_ne.mpr c2
  have c2b1 : ((Int.tmod a0 4) != 0) = true := bne_iff_ne.mpr c2
  obtain rfl := Option.some.inj H
  go_enter Try.func69, Try.ntmps69
  go_wp2
  go_ret
  exact ⟨by first | rfl | (simp; done) | (simp [*]; done), by repeat (first | exact Drawn0.refl _ | apply Drawn0.step)⟩

/-! ### timesyncref05_yearDays: function 65 -/
def timesyncref05_yearDays.f (a0 : Int) : Option (Int) := (timesyncref05_isLeap.f a0).bind fun t252 => (if t252 = true then (some 366) else (some 365))
set_option maxHeartbeats 8000000 in
set_option maxRecDepth 100000 in
theorem timesyncref05_yearDays.calls (a0 : Int) (r : Int) (w : World) (h : timesyncref05_yearDays.f a0 = some r) :
  Calls Try.prog 65 #[.int .i64 a0] w fun e w' => e = .returned (.int .i64 r) ∧ Drawn0 w w' := by
 have H : ((timesyncref05_isLeap.f a0).bind fun t252 => (if t252 = true then (some 366) else (some 365))) = some r := h
 clear h
 replace H := Option.bind_eq_some_iff.mp H
 obtain ⟨t252, A20, H⟩ := H
 replace H : (if t252 = true then (some 366) else (some 365)) = some r := H
 have A2 := Aside0.mk A20
 clear A20
 by_cases c3 : t252 = true
 ·subst c3
  have H1 : (some 366) = some r := by rw [if_pos rfl] at H; exact H
  clear H
  have H := H1
  clear H1
  obtain rfl := Option.some.inj H
  go_enter Try.func65, Try.ntmps65
  go_wp2_with (first | ((with_reducible refine gate_callee (f := 69) rfl ?_); refine goesL_ (some 4) rfl rfl Try.func69 (by kernel_rfl) rfl #[.int .i64 a0] rfl (by (try simp only [List.map_toArray, List.map_cons, List.map_nil]); first | done | rfl | (simp only [List.length_drop, List.length_take]; rfl)) ?_; (with_reducible refine (timesyncref05_isLeap.calls a0 true _ A2.out).mono ?_); rintro e w' ⟨rfl, ⟨nd, rfl⟩⟩; refine ⟨_, rfl, ?_⟩))
  go_ret
  exact ⟨by first | rfl | (simp; done) | (simp [*]; done), by repeat (first | exact Drawn0.refl _ | apply Drawn0.step)⟩
 ·replace c3 := Bool.eq_false_iff.mpr c3
  subst c3
  have H1 : (some 365) = some r := by rw [if_neg (show ¬ (false = true) by decide)] at H; exact H
  clear H
  have H := H1
  clear H1
  obtain rfl := Option.some.inj H
  go_enter Try.func65, Try.ntmps65
  go_wp2_with (first | ((with_reducible refine gate_callee (f := 69) rfl ?_); refine goesL_ (some 4) rfl rfl Try.func69 (by kernel_rfl) rfl #[.int .i64 a0] rfl (by (try simp only [List.map_toArray, List.map_cons, List.map_nil]); first | done | rfl | (simp only [List.length_drop, List.length_take]; rfl)) ?_; (with_reducible refine (timesyncref05_isLeap.calls a0 false _ A2.out).mono ?_); rintro e w' ⟨rfl, ⟨nd, rfl⟩⟩; refine ⟨_, rfl, ?_⟩))
  go_ret
  exact ⟨by first | rfl | (simp; done) | (simp [*]; done), by repeat (first | exact Drawn0.refl _ | apply Drawn0.step)⟩

/-! ### timesyncref05_MonthDays: function 66 -/
mutual
def timesyncref05_MonthDays.j0 : Nat → Int → Int → Bool → Option (Int)
 | 0, _, _, _ => none
 | k + 1, x0, x5, x6 => if x6 = true then (some 31) else (if x5 = 4 then (timesyncref05_MonthDays.j1 k x0 x5 (x5 == 4)) else (if x5 = 6 then (timesyncref05_MonthDays.j1 k x0 x5 (x5 == 6)) else (if x5 = 9 then (timesyncref05_MonthDays.j1 k x0 x5 (x5 == 9)) else (timesyncref05_MonthDays.j1 k x0 x5 (x5 == 11)))))
def timesyncref05_MonthDays.j1 : Nat → Int → Int → Bool → Option (Int)
 | 0, _, _, _ => none
 | k + 1, x0, x5, x14 => if x14 = true then (some 30) else (if x5 = 2 then ((timesyncref05_isLeap.f x0).bind fun t253 => (if t253 = true then (some 29) else (some 28))) else (some 0))
end
def timesyncref05_MonthDays.f (k : Nat) (a0 : Int) (a1 : Int) : Option (Int) := if a1 = 1 then (timesyncref05_MonthDays.j0 k a0 a1 (a1 == 1)) else (if a1 = 3 then (timesyncref05_MonthDays.j0 k a0 a1 (a1 == 3)) else (if a1 = 5 then (timesyncref05_MonthDays.j0 k a0 a1 (a1 == 5)) else (if a1 = 7 then (timesyncref05_MonthDays.j0 k a0 a1 (a1 == 7)) else (if a1 = 8 then (timesyncref05_MonthDays.j0 k a0 a1 (a1 == 8)) else (if a1 = 10 then (timesyncref05_MonthDays.j0 k a0 a1 (a1 == 10)) else (timesyncref05_MonthDays.j0 k a0 a1 (a1 == 12)))))))
theorem timesyncref05_MonthDays.mono_l : ∀ k, (∀ y0 y1 y2, LeO (timesyncref05_MonthDays.j0 k y0 y1 y2) (timesyncref05_MonthDays.j0 (k + 1) y0 y1 y2)) ∧ (∀ y0 y1 y2, LeO (timesyncref05_MonthDays.j1 k y0 y1 y2) (timesyncref05_MonthDays.j1 (k + 1) y0 y1 y2))
 | 0 => ⟨fun _ _ _ r h => by simp [timesyncref05_MonthDays.j0] at h, fun _ _ _ r h => by simp [timesyncref05_MonthDays.j1] at h⟩
 | k + 1 => by
  obtain ⟨ih0, ih1⟩ := timesyncref05_MonthDays.mono_l k
  refine ⟨?_, ?_⟩
  ·intro y0 y1 y2
   unfold timesyncref05_MonthDays.j0
   repeat' first
   | (with_reducible exact ih0 _ _ _)
   | (with_reducible exact ih1 _ _ _)
   | (with_reducible exact LeO.refl _)
   | (with_reducible exact LeO.none _)
   | (with_reducible refine LeO.ite ?_ ?_)
   | (with_reducible refine LeO.bind ?_ (fun _ => ?_))
   | exact ih0 _ _ _
   | exact ih1 _ _ _
   | exact LeO.none _
   | refine LeO.ite ?_ ?_
   | refine LeO.bind ?_ (fun _ => ?_)
  ·intro y0 y1 y2
   unfold timesyncref05_MonthDays.j1
   repeat' first
   | (with_reducible exact ih0 _ _ _)
   | (with_reducible exact ih1 _ _ _)
   | (with_reducible exact LeO.refl _)
   | (with_reducible exact LeO.none _)
   | (with_reducible refine LeO.ite ?_ ?_)
   | (with_reducible refine LeO.bind ?_ (fun _ => ?_))
   | exact ih0 _ _ _
   | exact ih1 _ _ _
   | exact LeO.none _
   | refine LeO.ite ?_ ?_
   | refine LeO.bind ?_ (fun _ => ?_)
theorem timesyncref05_MonthDays.mono : ∀ a0 a1 k, LeO (timesyncref05_MonthDays.f k a0 a1) (timesyncref05_MonthDays.f (k + 1) a0 a1) := by
 intro a0 a1 k
 obtain ⟨ih0, ih1⟩ := timesyncref05_MonthDays.mono_l k
 unfold timesyncref05_MonthDays.f
 repeat' first
   | (with_reducible exact ih0 _ _ _)
   | (with_reducible exact ih1 _ _ _)
   | (with_reducible exact LeO.refl _)
   | (with_reducible exact LeO.none _)
   | (with_reducible refine LeO.ite ?_ ?_)
   | (with_reducible refine LeO.bind ?_ (fun _ => ?_))
   | exact ih0 _ _ _
   | exact ih1 _ _ _
   | exact LeO.none _
   | refine LeO.ite ?_ ?_
   | refine LeO.bind ?_ (fun _ => ?_)
set_option maxHeartbeats 8000000 in
set_option maxRecDepth 100000 in
theorem timesyncref05_MonthDays.calls (k : Nat) (a0 : Int) (a1 : Int) (r : Int) (w : World) (h : timesyncref05_MonthDays.f k a0 a1 = some r) :
  Calls Try.prog 66 #[.int .i64 a0, .int .i64 a1] w fun e w' => e = .returned (.int .i64 r) ∧ Drawn0 w w' := by
 have H : (if a1 = 1 then (timesyncref05_MonthDays.j0 k a0 a1 (a1 == 1)) else (if a1 = 3 then (timesyncref05_MonthDays.j0 k a0 a1 (a1 == 3)) else (if a1 = 5 then (timesyncref05_MonthDays.j0 k a0 a1 (a1 == 5)) else (if a1 = 7 then (timesyncref05_MonthDays.j0 k a0 a1 (a1 == 7)) else (if a1 = 8 then (timesyncref05_MonthDays.j0 k a0 a1 (a1 == 8)) else (if a1 = 10 then (timesyncref05_MonthDays.j0 k a0 a1 (a1 == 10)) else (timesyncref05_MonthDays.j0 k a0 a1 (a1 == 12)))))))) = some r := h
 clear h
 have HC3 := Aside0.mk H
 clear H
 go_enter Try.func66, Try.ntmps66
 go_upto_if 6 with (fail)
 go_cut [6] (fun v6 wc => ∃ (kq : Nat) (x6_2 : Bool), v6 = .bool x6_2 ∧ Aside0 (timesyncref05_MonthDays.j0 kq a0 a1 x6_2 = some r) ∧ Aside0 (kq ≤ k) ∧ Drawn0 w wc)
 case first =>
  have H := HC3.out
  clear HC3
  by_cases c4 : a1 = 1
  ·rw [if_pos c4] at H
   have c4b0 : (a1 == 1) = true := beq_iff_eq.mpr c4
   have c4b1 : (a1 != 1) = false := bne_eq_false_iff_eq.mpr c4
   clear c4
   (first | rw [c4b0] | (simp only [i64_w, i32_w]; rw [c4b0]) | skip)
   have H' := Aside0.mk H
   clear H
   go_wp2
   go_meet
   case rel => exact ⟨_, ((a1 == 1)), (by first | rfl | (simp; done) | (simp [*]; done)), H', ⟨by first | omega | exact Nat.le_refl _⟩, by repeat (first | exact Drawn0.refl _ | apply Drawn0.step)⟩
  ·rw [if_neg c4] at H
   have c4b0 : (a1 == 1) = false := beq_eq_false_iff_ne.mpr c4
   have c4b1 : (a1 != 1) = true := bne_iff_ne.mpr c4
   (first | rw [c4b0] | (simp only [i64_w, i32_w]; rw [c4b0]) | skip)
   by_cases c5 : a1 = 3
   ·rw [if_pos c5] at H
    have c5b0 : (a1 == 3) = true := beq_iff_eq.mpr c5
    have c5b1 : (a1 != 3) = false := bne_eq_false_iff_eq.mpr c5
    clear c5
    have H' := Aside0.mk H
    clear H
    go_wp2
    go_meet
    case rel => exact ⟨_, ((a1 == 3)), (by first | rfl | (simp; done) | (simp [*]; done)), H', ⟨by first | omega | exact Nat.le_refl _⟩, by repeat (first | exact Drawn0.refl _ | apply Drawn0.step)⟩
   ·rw [if_neg c5] at H
    have c5b0 : (a1 == 3) = false := beq_eq_false_iff_ne.mpr c5
    have c5b1 : (a1 != 3) = true := bne_iff_ne.mpr c5
    by_cases c6 : a1 = 5
    ·rw [if_pos c6] at H
     have c6b0 : (a1 == 5) = true := beq_iff_eq.mpr c6
     have c6b1 : (a1 != 5) = false := bne_eq_false_iff_eq.mpr c6
     clear c6
     have H' := Aside0.mk H
     clear H
     go_wp2
     go_meet
     case rel => exact ⟨_, ((a1 == 5)), (by first | rfl | (simp; done) | (simp [*]; done)), H', ⟨by first | omega | exact Nat.le_refl _⟩, by repeat (first | exact Drawn0.refl _ | apply Drawn0.step)⟩
    ·rw [if_neg c6] at H
     have c6b0 : (a1 == 5) = false := beq_eq_false_iff_ne.mpr c6
     have c6b1 : (a1 != 5) = true := bne_iff_ne.mpr c6
     by_cases c7 : a1 = 7
     ·rw [if_pos c7] at H
      have c7b0 : (a1 == 7) = true := beq_iff_eq.mpr c7
      have c7b1 : (a1 != 7) = false := bne_eq_false_iff_eq.mpr c7
      clear c7
      have H' := Aside0.mk H
      clear H
      go_wp2
      go_meet
      case rel => exact ⟨_, ((a1 == 7)), (by first | rfl | (simp; done) | (simp [*]; done)), H', ⟨by first | omega | exact Nat.le_refl _⟩, by repeat (first | exact Drawn0.refl _ | apply Drawn0.step)⟩
     ·rw [if_neg c7] at H
      have c7b0 : (a1 == 7) = false := beq_eq_false_iff_ne.mpr c7
      have c7b1 : (a1 != 7) = true := bne_iff_ne.mpr c7
      by_cases c8 : a1 = 8
      ·rw [if_pos c8] at H
       have c8b0 : (a1 == 8) = true := beq_iff_eq.mpr c8
       have c8b1 : (a1 != 8) = false := bne_eq_false_iff_eq.mpr c8
       clear c8
       have H' := Aside0.mk H
       clear H
       go_wp2
       go_meet
       case rel => exact ⟨_, ((a1 == 8)), (by first | rfl | (simp; done) | (simp [*]; done)), H', ⟨by first | omega | exact Nat.le_refl _⟩, by repeat (first | exact Drawn0.refl _ | apply Drawn0.step)⟩
      ·rw [if_neg c8] at H
       have c8b0 : (a1 == 8) = false := beq_eq_false_iff_ne.mpr c8
       have c8b1 : (a1 != 8) = true := bne_iff_ne.mpr c8
       by_cases c9 : a1 = 10
       ·rw [if_pos c9] at H
        have c9b0 : (a1 == 10) = true := beq_iff_eq.mpr c9
        have c9b1 : (a1 != 10) = false := bne_eq_false_iff_eq.mpr c9
        clear c9
        have H' := Aside0.mk H
        clear H
        go_wp2
        go_meet
        case rel => exact ⟨_, ((a1 == 10)), (by first | rfl | (simp; done) | (simp [*]; done)), H', ⟨by first | omega | exact Nat.le_refl _⟩, by repeat (first | exact Drawn0.refl _ | apply Drawn0.step)⟩
       ·rw [if_neg c9] at H
        have c9b0 : (a1 == 10) = false := beq_eq_false_iff_ne.mpr c9
        have c9b1 : (a1 != 10) = true := bne_iff_ne.mpr c9
        have H' := Aside0.mk H
        clear H
        go_wp2
        go_meet
        case rel => exact ⟨_, ((a1 == 12)), (by first | rfl | (simp; done) | (simp [*]; done)), H', ⟨by first | omega | exact Nat.le_refl _⟩, by repeat (first | exact Drawn0.refl _ | apply Drawn0.step)⟩
 case rest =>
  clear HC3
  try clear p2
  try clear c4
  try clear c4b0
  try clear c4b1
  try clear c5
  try clear c5b0
  try clear c5b1
  try clear c6
  try clear c6b0
  try clear c6b1
  try clear c7
  try clear c7b0
  try clear c7b1
  try clear c8
  try clear c8b0
  try clear c8b1
  try clear c9
  try clear c9b0
  try clear c9b1
  obtain ⟨kq, x6_2, rfl, HA, HJ2, ⟨mc2, rfl⟩⟩ := hcut
  cases kq with
  | zero => exact absurd HA.out (by simp [timesyncref05_MonthDays.j0])
  | succ kj2 =>
   have H := HA.out
   clear HA
   simp only [timesyncref05_MonthDays.j0] at H
   by_cases c10 : x6_2 = true
   ·subst c10
    have H1 : (some 31) = some r := by rw [if_pos rfl] at H; exact H
    clear H
    have H := H1
    clear H1
    obtain rfl := Option.some.inj H
    go_wp2
    go_ret
    exact ⟨by first | rfl | (simp; done) | (simp [*]; done), by repeat (first | exact Drawn0.refl _ | apply Drawn0.step)⟩
   ·replace c10 := Bool.eq_false_iff.mpr c10
    subst c10
    have H1 : (if a1 = 4 then (timesyncref05_MonthDays.j1 kj2 a0 a1 (a1 == 4)) else (if a1 = 6 then (timesyncref05_MonthDays.j1 kj2 a0 a1 (a1 == 6)) else (if a1 = 9 then (timesyncref05_MonthDays.j1 kj2 a0 a1 (a1 == 9)) else (timesyncref05_MonthDays.j1 kj2 a0 a1 (a1 == 11))))) = some r := by rw [if_neg (show ¬ (false = true) by decide)] at H; exact H
    clear H
    have H := H1
    clear H1
    have HC11 := Aside0.mk H
    clear H
    go_upto_if 14 with (fail)
    go_cut [14] (fun v14 wc => ∃ (kq : Nat) (x14_10 : Bool), v14 = .bool x14_10 ∧ Aside0 (timesyncref05_MonthDays.j1 kq a0 a1 x14_10 = some r) ∧ Aside0 (kq ≤ kj2) ∧ Drawn0 w wc)
    case first =>
     have H := HC11.out
     clear HC11
     by_cases c12 : a1 = 4
     ·rw [if_pos c12] at H
      have c12b0 : (a1 == 4) = true := beq_iff_eq.mpr c12
      have c12b1 : (a1 != 4) = false := bne_eq_false_iff_eq.mpr c12
      clear c12
      (first | rw [c12b0] | (simp only [i64_w, i32_w]; rw [c12b0]) | skip)
      have H' := Aside0.mk H
      clear H
      go_wp2
      go_meet
      case rel => exact ⟨_, ((a1 == 4)), (by first | rfl | (simp; done) | (simp [*]; done)), H', ⟨by have := HJ2.out; first | omega | exact Nat.le_refl _⟩, by repeat (first | exact Drawn0.refl _ | apply Drawn0.step)⟩
     ·rw [if_neg c12] at H
      have c12b0 : (a1 == 4) = false := beq_eq_false_iff_ne.mpr c12
      have c12b1 : (a1 != 4) = true := bne_iff_ne.mpr c12
      (first | rw [c12b0] | (simp only [i64_w, i32_w]; rw [c12b0]) | skip)
      by_cases c13 : a1 = 6
      ·rw [if_pos c13] at H
       have c13b0 : (a1 == 6) = true := beq_iff_eq.mpr c13
       have c13b1 : (a1 != 6) = false := bne_eq_false_iff_eq.mpr c13
       clear c13
       have H' := Aside0.mk H
       clear H
       go_wp2
       go_meet
       case rel => exact ⟨_, ((a1 == 6)), (by first | rfl | (simp; done) | (simp [*]; done)), H', ⟨by have := HJ2.out; first | omega | exact Nat.le_refl _⟩, by repeat (first | exact Drawn0.refl _ | apply Drawn0.step)⟩
      ·rw [if_neg c13] at H
       have c13b0 : (a1 == 6) = false := beq_eq_false_iff_ne.mpr c13
       have c13b1 : (a1 != 6) = true := bne_iff_ne.mpr c13
       by_cases c14 : a1 = 9
       ·rw [if_pos c14] at H
        have c14b0 : (a1 == 9) = true := beq_iff_eq.mpr c14
        have c14b1 : (a1 != 9) = false := bne_eq_false_iff_eq.mpr c14
        clear c14
        have H' := Aside0.mk H
        clear H
        go_wp2
        go_meet
        case rel => exact ⟨_, ((a1 == 9)), (by first | rfl | (simp; done) | (simp [*]; done)), H', ⟨by have := HJ2.out; first | omega | exact Nat.le_refl _⟩, by repeat (first | exact Drawn0.refl _ | apply Drawn0.step)⟩
       ·rw [if_neg c14] at H
        have c14b0 : (a1 == 9) = false := beq_eq_false_iff_ne.mpr c14
        have c14b1 : (a1 != 9) = true := bne_iff_ne.mpr c14
        have H' := Aside0.mk H
        clear H
        go_wp2
        go_meet
        case rel => exact ⟨_, ((a1 == 11)), (by first | rfl | (simp; done) | (simp [*]; done)), H', ⟨by have := HJ2.out; first | omega | exact Nat.le_refl _⟩, by repeat (first | exact Drawn0.refl _ | apply Drawn0.step)⟩
    case rest =>
     clear HC11
     try clear c1
     try clear c2
     try clear p2
     try clear c4
     try clear c4b0
     try clear c4b1
     try clear c5
     try clear c5b0
     try clear c5b1
     try clear c6
     try clear c6b0
     try clear c6b1
     try clear c7
     try clear c7b0
     try clear c7b1
     try clear c8
     try clear c8b0
     try clear c8b1
     try clear c9
     try clear c9b0
     try clear c9b1
     try clear c10
     try clear c12
     try clear c12b0
     try clear c12b1
     try clear c13
     try clear c13b0
     try clear c13b1
     try clear c14
     try clear c14b0
     try clear c14b1
     try clear p2
     obtain ⟨kq, x14_10, rfl, HA, HJ10, ⟨mc10, rfl⟩⟩ := hcut
     cases kq with
     | zero => exact absurd HA.out (by simp [timesyncref05_MonthDays.j1])
     | succ kj10 =>
      have H := HA.out
      clear HA
      simp only [timesyncref05_MonthDays.j1] at H
      by_cases c15 : x14_10 = true
      ·subst c15
       have H1 : (some 30) = some r := by rw [if_pos rfl] at H; exact H
       clear H
       have H := H1
       clear H1
       obtain rfl := Option.some.inj H
       go_wp2
       go_ret
       exact ⟨by first | rfl | (simp; done) | (simp [*]; done), by repeat (first | exact Drawn0.refl _ | apply Drawn0.step)⟩
      ·replace c15 := Bool.eq_false_iff.mpr c15
       subst c15
       have H1 : (if a1 = 2 then ((timesyncref05_isLeap.f a0).bind fun t253 => (if t253 = true then (some 29) else (some 28))) else (some 0)) = some r := by rw [if_neg (show ¬ (false = true) by decide)] at H; exact H
       clear H
       have H := H1
       clear H1
       by_cases c16 : a1 = 2
       ·rw [if_pos c16] at H
        have c16b0 : (a1 == 2) = true := beq_iff_eq.mpr c16
        have c16b1 : (a1 != 2) = false := bne_eq_false_iff_eq.mpr c16
        clear c16
        replace H := Option.bind_eq_some_iff.mp H
        obtain ⟨t253, A170, H⟩ := H
        replace H : (if t253 = true then (some 29) else (some 28)) = some r := H
        have A17 := Aside0.mk A170
        clear A170
        by_cases c18 : t253 = true
        ·subst c18
         have H1 : (some 29) = some r := by rw [if_pos rfl] at H; exact H
         clear H
         have H := H1
         clear H1
         obtain rfl := Option.some.inj H
         go_wp2_with (first | ((with_reducible refine gate_callee (f := 69) rfl ?_); refine goesL_ (some 22) rfl rfl Try.func69 (by kernel_rfl) rfl #[.int .i64 a0] rfl (by (try simp only [List.map_toArray, List.map_cons, List.map_nil]); first | done | rfl | (simp only [List.length_drop, List.length_take]; rfl)) ?_; (with_reducible refine (timesyncref05_isLeap.calls a0 true _ A17.out).mono ?_); rintro e w' ⟨rfl, ⟨nd, rfl⟩⟩; refine ⟨_, rfl, ?_⟩))
         go_ret
         exact ⟨by first | rfl | (simp; done) | (simp [*]; done), by repeat (first | exact Drawn0.refl _ | apply Drawn0.step)⟩
        ·replace c18 := Bool.eq_false_iff.mpr c18
         subst c18
         have H1 : (some 28) = some r := by rw [if_neg (show ¬ (false = true) by decide)] at H; exact H
         clear H
         have H := H1
         clear H1
         obtain rfl := Option.some.inj H
         go_wp2_with (first | ((with_reducible refine gate_callee (f := 69) rfl ?_); refine goesL_ (some 22) rfl rfl Try.func69 (by kernel_rfl) rfl #[.int .i64 a0] rfl (by (try simp only [List.map_toArray, List.map_cons, List.map_nil]); first | done | rfl | (simp only [List.length_drop, List.length_take]; rfl)) ?_; (with_reducible refine (timesyncref05_isLeap.calls a0 false _ A17.out).mono ?_); rintro e w' ⟨rfl, ⟨nd, rfl⟩⟩; refine ⟨_, rfl, ?_⟩))
         go_ret
         exact ⟨by first | rfl | (simp; done) | (simp [*]; done), by repeat (first | exact Drawn0.refl _ | apply Drawn0.step)⟩
       ·rw [if_neg c16] at H
        have c16b0 : (a1 == 2) = false := beq_eq_false_iff_ne.mpr c16
        have c16b1 : (a1 != 2) = true := bne_iff_ne.mpr c16
        obtain rfl := Option.some.inj H
        go_wp2
        go_ret
        exact ⟨by first | rfl | (simp; done) | (simp [*]; done), by repeat (first | exact Drawn0.refl _ | apply Drawn0.step)⟩

end Go.Proofs.Ytljbajnmkkebkaa.All
