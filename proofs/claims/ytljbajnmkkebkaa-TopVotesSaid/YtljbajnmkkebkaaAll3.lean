/- What the Go functions named below answer, each as a plain Lean function, and that its call comes to just that answer. No condition. Written by a program of this session (wip/myprint.py), which runs the kit's print with changes of its own. -/
import Derived.Test.YtljbajnmkkebkaaAll0
namespace Go.Proofs.Ytljbajnmkkebkaa.All
open Go.RowKit Go.Proofs.YtljbajnmkkebkaaW.PrintWords Go.Proofs.YtljbajnmkkebkaaW.PrintLast Go.Proofs.YtljbajnmkkebkaaW.PrintMore
attribute [local go_sem] max2_int min2_int max_two min_two max_three min_three max_four min_four   -- for this text's walks alone
set_option linter.unusedVariables false
set_option linter.unusedSimpArgs false

/-! ### leap_inside: function 35 -/
def leap_inside.f (a0 : Int) : Option (Bool) := if a0 ≥ (-8000000000) then (some (decide (a0 ≤ 8000000000))) else (some false)
set_option maxHeartbeats 8000000 in
set_option maxRecDepth 100000 in
theorem leap_inside.calls (a0 : Int) (r : Bool) (w : World) (h : leap_inside.f a0 = some r) :
  Calls Try.prog 35 #[.int .i64 a0] w fun e w' => e = .returned (.bool r) ∧ Drawn0 w w' := by
 have H : (if a0 ≥ (-8000000000) then (some (decide (a0 ≤ 8000000000))) else (some false)) = some r := h
 clear h
 by_cases c2 : a0 ≥ (-8000000000)
 ·rw [if_pos c2] at H
  have c2b0 : decide ((-8000000000) ≤ a0) = true := decide_eq_true c2
  clear c2
  obtain rfl := Option.some.inj H
  go_enter Try.func35, Try.ntmps35
  go_wp2
  go_ret
  exact ⟨by first | rfl | (simp; done) | (simp [*]; done), by repeat (first | exact Drawn0.refl _ | apply Drawn0.step)⟩
 ·rw [if_neg c2] at H
  have c2b0 : decide ((-8000000000) ≤ a0) = false := decide_eq_false c2
  clear c2
  obtain rfl := Option.some.inj H
  go_enter Try.func35, Try.ntmps35
  go_wp2
  go_ret
  exact ⟨by first | rfl | (simp; done) | (simp [*]; done), by repeat (first | exact Drawn0.refl _ | apply Drawn0.step)⟩

/-! ### leap_old: function 37 -/
def leap_old.f (a0_0 : Int) (a0_1 : Int) (l0_2 : List (S44)) (a1 : Int) : Option (Int) := if a1 = 0 then (some a0_0) else (if 0 ≤ (wrap64 (a1 - 1)) then (if (wrap64 (a1 - 1)) < (l0_2.length : Int) then (some ((rd_T44 l0_2 (wrap64 (a1 - 1))).f1)) else (none)) else (none))
set_option maxHeartbeats 8000000 in
set_option maxRecDepth 100000 in
theorem leap_old.calls (a0_0 : Int) (a0_1 : Int) (A0_2 : Option Addr) (c0_2 : Nat) (l0_2 : List (S44)) (a1 : Int) (r : Int) (w : World) (hr0_2 : Kd.C k44 w A0_2 l0_2.length l0_2) (hc0_2 : l0_2.length ≤ c0_2) (h : leap_old.f a0_0 a0_1 l0_2 a1 = some r) :
  Calls Try.prog 37 #[.agg #[.int .i64 a0_0, .int .i64 a0_1, .slice A0_2 l0_2.length c0_2], .int .i64 a1] w fun e w' => e = .returned (.int .i64 r) ∧ Below w.heap.size w w' := by
 have hu24 := Try.underlying24
 have HR0_2 := Aside0.mk hr0_2
 have HC0_2 := Aside0.mk hc0_2
 clear hr0_2 hc0_2
 have HB := Aside0.mk (Below.refl w.heap.size w)
 have H : (if a1 = 0 then (some a0_0) else (if 0 ≤ (wrap64 (a1 - 1)) then (if (wrap64 (a1 - 1)) < (l0_2.length : Int) then (some ((rd_T44 l0_2 (wrap64 (a1 - 1))).f1)) else (none)) else (none))) = some r := h
 clear h
 by_cases c3 : a1 = 0
 ·rw [if_pos c3] at H
  have c3b0 : (a1 == 0) = true := beq_iff_eq.mpr c3
  have c3b1 : (a1 != 0) = false := bne_eq_false_iff_eq.mpr c3
  clear c3
  obtain rfl := Option.some.inj H
  go_enter Try.func37, Try.ntmps37
  go_wp2_with (first | ((with_reducible refine gate_dst (N := 2) rfl ?_); refine box_event ?hg (N := 2) ?hd (cs := #[.int .i64 a0_0, .int .i64 a0_1, .slice A0_2 l0_2.length c0_2]) (t := 24) ?hr ?_; (case hd => rfl); (case hg => rfl); (case hr => first | (go_simp; done) | (go_simp; rfl)); intro gb101 hg w4 hbox hb; have n0_ := Aside0.mk (below_step (by repeat (first | (with_reducible first | exact HB.out | apply below_alloc | apply pw_below_drewN | apply below_drew1) | exact HB.out)) hb); have n1_ := Aside0.mk (hbox); have n2_ := Aside0.mk ((by rw [hg]; exact (below_size (by repeat (first | (with_reducible first | exact HB.out | apply below_alloc | apply pw_below_drewN | apply below_drew1) | exact HB.out))) : w.heap.size ≤ gb101)); have n3_ := Aside0.mk ((by rw [hg]; exact (below_size (by repeat (first | (with_reducible first | exact HB.out | apply below_alloc | apply pw_below_drewN | apply below_drew1) | exact HB.out))) : w.heap.size ≤ gb101)); clear HB; have HB := n0_; have BK101 := n1_; have GW101 := n2_; have GE101 := n3_; clear n0_ n1_ n2_ n3_; clear hb hbox hg; have hcz5_0 : w4.cell? ⟨gb101, 0, none⟩ = some (.int .i64 a0_0) := (blk_cell BK101.out 0).trans rfl; have hcz5_1 : w4.cell? ⟨gb101, 1, none⟩ = some (.int .i64 a0_1) := (blk_cell BK101.out 1).trans rfl; have hcz5_2 : w4.cell? ⟨gb101, 2, none⟩ = some (.slice A0_2 l0_2.length c0_2) := (blk_cell BK101.out 2).trans rfl; have hfz5_0 := blk_frozen BK101.out 0; have hfz5_1 := blk_frozen BK101.out 1; have hfz5_2 := blk_frozen BK101.out 2))
  go_ret
  exact ⟨by first | rfl | (simp [errW_none, errW_some] <;> rfl) | (simp [*, errW_none, errW_some] <;> rfl), by repeat (first | (with_reducible first | exact HB.out | apply below_alloc | apply pw_below_drewN | apply below_drew1 | refine below_set ?_ GE101.out) | exact HB.out)⟩
 ·rw [if_neg c3] at H
  have c3b0 : (a1 == 0) = false := beq_eq_false_iff_ne.mpr c3
  have c3b1 : (a1 != 0) = true := bne_iff_ne.mpr c3
  obtain ⟨ji6, hji6⟩ : ∃ j_ : Int, (wrap64 (a1 - 1)) = j_ := ⟨_, rfl⟩
  replace H : (if 0 ≤ (ji6) then (if (ji6) < (l0_2.length : Int) then (some ((rd_T44 l0_2 (ji6)).f1)) else (none)) else (none)) = some r := by first | (rw [hji6] at H; exact H) | (simp only [hji6] at H ⊢; exact H)
  have hji6w : (IntKind.i64.wrap (a1 - 1)) = ji6 := (i64_w _).trans hji6
  by_cases c7 : 0 ≤ (ji6)
  ·rw [if_pos c7] at H
   have c7b0 : decide (0 ≤ (ji6)) = true := decide_eq_true c7
   clear c7
   by_cases c8 : (ji6) < (l0_2.length : Int)
   ·rw [if_pos c8] at H
    have c8b0 : decide ((ji6) < (l0_2.length : Int)) = true := decide_eq_true c8
    clear c8
    obtain rfl := Option.some.inj H
    go_enter Try.func37, Try.ntmps37
    go_wp2_with (first | ((with_reducible refine gate_dst (N := 2) rfl ?_); refine box_event ?hg (N := 2) ?hd (cs := #[.int .i64 a0_0, .int .i64 a0_1, .slice A0_2 l0_2.length c0_2]) (t := 24) ?hr ?_; (case hd => rfl); (case hg => rfl); (case hr => first | (go_simp; done) | (go_simp; rfl)); intro gb101 hg w9 hbox hb; have n0_ := Aside0.mk (below_step (by repeat (first | (with_reducible first | exact HB.out | apply below_alloc | apply pw_below_drewN | apply below_drew1) | exact HB.out)) hb); have n1_ := Aside0.mk (hbox); have n2_ := Aside0.mk ((by rw [hg]; exact (below_size (by repeat (first | (with_reducible first | exact HB.out | apply below_alloc | apply pw_below_drewN | apply below_drew1) | exact HB.out))) : w.heap.size ≤ gb101)); have n3_ := Aside0.mk ((by rw [hg]; exact (below_size (by repeat (first | (with_reducible first | exact HB.out | apply below_alloc | apply pw_below_drewN | apply below_drew1) | exact HB.out))) : w.heap.size ≤ gb101)); clear HB; have HB := n0_; have BK101 := n1_; have GW101 := n2_; have GE101 := n3_; clear n0_ n1_ n2_ n3_; clear hb hbox hg; have hcz10_0 : w9.cell? ⟨gb101, 0, none⟩ = some (.int .i64 a0_0) := (blk_cell BK101.out 0).trans rfl; have hcz10_1 : w9.cell? ⟨gb101, 1, none⟩ = some (.int .i64 a0_1) := (blk_cell BK101.out 1).trans rfl; have hcz10_2 : w9.cell? ⟨gb101, 2, none⟩ = some (.slice A0_2 l0_2.length c0_2) := (blk_cell BK101.out 2).trans rfl; have hfz10_0 := blk_frozen BK101.out 0; have hfz10_1 := blk_frozen BK101.out 1; have hfz10_2 := blk_frozen BK101.out 2; have p102 : 0 ≤ ((ji6) : Int) := of_decide_eq_true (by first | (with_reducible assumption) | assumption); have q102 : (ji6) < (l0_2.length : Int) := of_decide_eq_true (by first | (with_reducible assumption) | assumption); obtain ⟨ad102, e102, hx102_0, hx102_1⟩ := at_T44 HR0_2.out (ji6) p102 q102; cases e102; replace hx102_0 := (HB.out.cell (World.block_lt_of_cell? w _ hx102_0)).trans hx102_0; replace hx102_1 := (HB.out.cell (World.block_lt_of_cell? w _ hx102_1)).trans hx102_1; replace p102 := eq_true p102; replace q102 := eq_true q102))
    go_ret
    exact ⟨by first | rfl | (simp [errW_none, errW_some] <;> rfl) | (simp only [← hji6]; first | rfl | (simp [errW_none, errW_some] <;> rfl)) | (simp [*, errW_none, errW_some] <;> rfl), by repeat (first | (with_reducible first | exact HB.out | apply below_alloc | apply pw_below_drewN | apply below_drew1 | refine below_set ?_ GE101.out) | exact HB.out)⟩
   ·rw [if_neg c8] at H
    exact absurd H (by simp)
  ·rw [if_neg c7] at H
   exact absurd H (by simp)

/-! ### fixed_divides: function 61 -/
def fixed_divides.f (a0 : Int) (a1 : Int) : Option (Bool) := if a1 = 0 then (some false) else (if a1 = (-1) then (some (a0 != (-9223372036854775808))) else (some true))
set_option maxHeartbeats 8000000 in
set_option maxRecDepth 100000 in
theorem fixed_divides.calls (a0 : Int) (a1 : Int) (r : Bool) (w : World) (h : fixed_divides.f a0 a1 = some r) :
  Calls Try.prog 61 #[.int .i64 a0, .int .i64 a1] w fun e w' => e = .returned (.bool r) ∧ Drawn0 w w' := by
 have H : (if a1 = 0 then (some false) else (if a1 = (-1) then (some (a0 != (-9223372036854775808))) else (some true))) = some r := h
 clear h
 by_cases c3 : a1 = 0
 ·rw [if_pos c3] at H
  have c3b0 : (a1 == 0) = true := beq_iff_eq.mpr c3
  have c3b1 : (a1 != 0) = false := bne_eq_false_iff_eq.mpr c3
  clear c3
  obtain rfl := Option.some.inj H
  go_enter Try.func61, Try.ntmps61
  go_wp2
  go_ret
  exact ⟨by first | rfl | (simp; done) | (simp [*]; done), by repeat (first | exact Drawn0.refl _ | apply Drawn0.step)⟩
 ·rw [if_neg c3] at H
  have c3b0 : (a1 == 0) = false := beq_eq_false_iff_ne.mpr c3
  have c3b1 : (a1 != 0) = true := bne_iff_ne.mpr c3
  by_cases c4 : a1 = (-1)
  ·rw [if_pos c4] at H
   have c4b0 : (a1 == (-1)) = true := beq_iff_eq.mpr c4
   have c4b1 : (a1 != (-1)) = false := bne_eq_false_iff_eq.mpr c4
   clear c4
   obtain rfl := Option.some.inj H
   go_enter Try.func61, Try.ntmps61
   go_wp2
   go_ret
   exact ⟨by first | rfl | (simp; done) | (simp [*]; done), by repeat (first | exact Drawn0.refl _ | apply Drawn0.step)⟩
  ·rw [if_neg c4] at H
   have c4b0 : (a1 == (-1)) = false := beq_eq_false_iff_ne.mpr c4
   have c4b1 : (a1 != (-1)) = true := bne_iff_ne.mpr c4
   obtain rfl := Option.some.inj H
   go_enter Try.func61, Try.ntmps61
   go_wp2
   go_ret
   exact ⟨by first | rfl | (simp; done) | (simp [*]; done), by repeat (first | exact Drawn0.refl _ | apply Drawn0.step)⟩

/-! ### fixed_Floor: function 54 -/
def fixed_Floor.f (a0 : Int) (a1 : Int) : Option (Int × Bool) := (fixed_divides.f a0 a1).bind fun t103 => (if t103 = true then (if a1 = 0 then (none) else (if (Int.tmod a0 a1) = 0 then (some (wrap64 (Int.tdiv a0 a1), true)) else (if ((decide (a0 < 0)) != (decide (a1 < 0))) = true then (some (wrap64 ((wrap64 (Int.tdiv a0 a1)) - 1), true)) else (some (wrap64 (Int.tdiv a0 a1), true))))) else (some (0, false)))
set_option maxHeartbeats 8000000 in
set_option maxRecDepth 100000 in
theorem fixed_Floor.calls (a0 : Int) (a1 : Int) (r1 : Int) (r2 : Bool) (w : World) (h : fixed_Floor.f a0 a1 = some (r1, r2)) :
  Calls Try.prog 54 #[.int .i64 a0, .int .i64 a1] w fun e w' => e = .returned (.tuple #[.int .i64 r1, .bool r2]) ∧ Drawn0 w w' := by
 have H : ((fixed_divides.f a0 a1).bind fun t103 => (if t103 = true then (if a1 = 0 then (none) else (if (Int.tmod a0 a1) = 0 then (some (wrap64 (Int.tdiv a0 a1), true)) else (if ((decide (a0 < 0)) != (decide (a1 < 0))) = true then (some (wrap64 ((wrap64 (Int.tdiv a0 a1)) - 1), true)) else (some (wrap64 (Int.tdiv a0 a1), true))))) else (some (0, false)))) = some (r1, r2) := h
 clear h
 replace H := Option.bind_eq_some_iff.mp H
 obtain ⟨t103, A30, H⟩ := H
 replace H : (if t103 = true then (if a1 = 0 then (none) else (if (Int.tmod a0 a1) = 0 then (some (wrap64 (Int.tdiv a0 a1), true)) else (if ((decide (a0 < 0)) != (decide (a1 < 0))) = true then (some (wrap64 ((wrap64 (Int.tdiv a0 a1)) - 1), true)) else (some (wrap64 (Int.tdiv a0 a1), true))))) else (some (0, false))) = some (r1, r2) := H
 have A3 := Aside0.mk A30
 clear A30
 by_cases c4 : t103 = true
 ·subst c4
  have H1 : (if a1 = 0 then (none) else (if (Int.tmod a0 a1) = 0 then (some (wrap64 (Int.tdiv a0 a1), true)) else (if ((decide (a0 < 0)) != (decide (a1 < 0))) = true then (some (wrap64 ((wrap64 (Int.tdiv a0 a1)) - 1), true)) else (some (wrap64 (Int.tdiv a0 a1), true))))) = some (r1, r2) := by rw [if_pos rfl] at H; exact H
  clear H
  have H := H1
  clear H1
  by_cases c5 : a1 = 0
  ·rw [if_pos c5] at H
   exact absurd H (by simp)
  ·rw [if_neg c5] at H
   have c5b0 : (a1 == 0) = false := beq_eq_false_iff_ne.mpr c5
   have c5b1 : (a1 != 0) = true := bne_iff_ne.mpr c5
   by_cases c6 : (Int.tmod a0 a1) = 0
   ·rw [if_pos c6] at H
    have c6b0 : ((Int.tmod a0 a1) == 0) = true := beq_iff_eq.mpr c6
    have c6b1 : ((Int.tmod a0 a1) != 0) = false := bne_eq_false_iff_eq.mpr c6
    clear c6
    simp only [Option.some.injEq, Prod.mk.injEq] at H
    obtain ⟨rfl, rfl⟩ := H
    go_enter Try.func54, Try.ntmps54
    go_wp2_with (first | ((with_reducible refine gate_callee (f := 61) rfl ?_); refine goesL_ (some 9) rfl rfl Try.func61 (by kernel_rfl) rfl #[.int .i64 a0, .int .i64 a1] rfl (by (try simp only [List.map_toArray, List.map_cons, List.map_nil]); first | done | rfl | (simp only [List.length_drop, List.length_take]; rfl)) ?_; (with_reducible refine (fixed_divides.calls a0 a1 true _ A3.out).mono ?_); rintro e w' ⟨rfl, ⟨nd, rfl⟩⟩; refine ⟨_, rfl, ?_⟩))
    go_ret2
    exact ⟨by first | rfl | (simp; done) | (simp [*]; done), by repeat (first | exact Drawn0.refl _ | apply Drawn0.step)⟩
   ·rw [if_neg c6] at H
    have c6b0 : ((Int.tmod a0 a1) == 0) = false := beq_eq_false_iff_ne.mpr c6
    have c6b1 : ((Int.tmod a0 a1) != 0) = true := bne_iff_ne.mpr c6
    by_cases c7 : ((decide (a0 < 0)) != (decide (a1 < 0))) = true
    ·rw [if_pos c7] at H
     have c7b0 : ((decide (a0 < 0)) != (decide (a1 < 0))) = true := c7
     (try (have c7b1 : decide ((decide (a0 < 0)) = (decide (a1 < 0))) = false := by simpa using c7))
     (try (have c7b2 : ((decide (a0 < 0)) == (decide (a1 < 0))) = false := by simpa using c7))
     (try (have c7b3 : ¬ ((decide (a0 < 0)) = (decide (a1 < 0))) := by simpa using c7))
     clear c7
     simp only [Option.some.injEq, Prod.mk.injEq] at H
     obtain ⟨rfl, rfl⟩ := H
     go_enter Try.func54, Try.ntmps54
     go_wp2_with (first | ((with_reducible refine gate_callee (f := 61) rfl ?_); refine goesL_ (some 9) rfl rfl Try.func61 (by kernel_rfl) rfl #[.int .i64 a0, .int .i64 a1] rfl (by (try simp only [List.map_toArray, List.map_cons, List.map_nil]); first | done | rfl | (simp only [List.length_drop, List.length_take]; rfl)) ?_; (with_reducible refine (fixed_divides.calls a0 a1 true _ A3.out).mono ?_); rintro e w' ⟨rfl, ⟨nd, rfl⟩⟩; refine ⟨_, rfl, ?_⟩))
     go_ret2
     exact ⟨by first | rfl | (simp; done) | (simp [*]; done), by repeat (first | exact Drawn0.refl _ | apply Drawn0.step)⟩
    ·rw [if_neg c7] at H
     have c7b0 : ((decide (a0 < 0)) != (decide (a1 < 0))) = false := by simpa using c7
     (try (have c7b1 : decide ((decide (a0 < 0)) = (decide (a1 < 0))) = true := by simpa using c7))
     (try (have c7b2 : ((decide (a0 < 0)) == (decide (a1 < 0))) = true := by simpa using c7))
     clear c7
     simp only [Option.some.injEq, Prod.mk.injEq] at H
     obtain ⟨rfl, rfl⟩ := H
     go_enter Try.func54, Try.ntmps54
     go_wp2_with (first | ((with_reducible refine gate_callee (f := 61) rfl ?_); refine goesL_ (some 9) rfl rfl Try.func61 (by kernel_rfl) rfl #[.int .i64 a0, .int .i64 a1] rfl (by (try simp only [List.map_toArray, List.map_cons, List.map_nil]); first | done | rfl | (simp only [List.length_drop, List.length_take]; rfl)) ?_; (with_reducible refine (fixed_divides.calls a0 a1 true _ A3.out).mono ?_); rintro e w' ⟨rfl, ⟨nd, rfl⟩⟩; refine ⟨_, rfl, ?_⟩))
     go_ret2
     exact ⟨by first | rfl | (simp; done) | (simp [*]; done), by repeat (first | exact Drawn0.refl _ | apply Drawn0.step)⟩
 ·replace c4 := Bool.eq_false_iff.mpr c4
  subst c4
  have H1 : (some (0, false)) = some (r1, r2) := by rw [if_neg (show ¬ (false = true) by decide)] at H; exact H
  clear H
  have H := H1
  clear H1
  simp only [Option.some.injEq, Prod.mk.injEq] at H
  obtain ⟨rfl, rfl⟩ := H
  go_enter Try.func54, Try.ntmps54
  go_wp2_with (first | ((with_reducible refine gate_callee (f := 61) rfl ?_); refine goesL_ (some 9) rfl rfl Try.func61 (by kernel_rfl) rfl #[.int .i64 a0, .int .i64 a1] rfl (by (try simp only [List.map_toArray, List.map_cons, List.map_nil]); first | done | rfl | (simp only [List.length_drop, List.length_take]; rfl)) ?_; (with_reducible refine (fixed_divides.calls a0 a1 false _ A3.out).mono ?_); rintro e w' ⟨rfl, ⟨nd, rfl⟩⟩; refine ⟨_, rfl, ?_⟩))
  go_ret2
  exact ⟨by first | rfl | (simp; done) | (simp [*]; done), by repeat (first | exact Drawn0.refl _ | apply Drawn0.step)⟩

/-! ### civil_dayOf: function 48 -/
def civil_dayOf.f (a0 : Int) : Option (Int) := (fixed_Floor.f a0 86400).bind fun bt104 => (some bt104.1)
set_option maxHeartbeats 8000000 in
set_option maxRecDepth 100000 in
theorem civil_dayOf.calls (a0 : Int) (r : Int) (w : World) (h : civil_dayOf.f a0 = some r) :
  Calls Try.prog 48 #[.int .i64 a0] w fun e w' => e = .returned (.int .i64 r) ∧ Drawn0 w w' := by
 have H : ((fixed_Floor.f a0 86400).bind fun bt104 => (some bt104.1)) = some r := h
 clear h
 replace H := Option.bind_eq_some_iff.mp H
 obtain ⟨⟨t104, t105⟩, A20, H⟩ := H
 replace H : (some t104) = some r := H
 have A2 := Aside0.mk A20
 clear A20
 obtain rfl := Option.some.inj H
 go_enter Try.func48, Try.ntmps48
 go_wp2_with (first | ((with_reducible refine gate_callee (f := 54) rfl ?_); refine goesL_ (some 7) rfl rfl Try.func54 (by kernel_rfl) rfl #[.int .i64 a0, .int .i64 86400] rfl (by (try simp only [List.map_toArray, List.map_cons, List.map_nil]); first | done | rfl | (simp only [List.length_drop, List.length_take]; rfl)) ?_; (with_reducible refine (fixed_Floor.calls a0 86400 t104 t105 _ A2.out).mono ?_); rintro e w' ⟨rfl, ⟨nd, rfl⟩⟩; refine ⟨_, rfl, ?_⟩))
 go_ret
 exact ⟨by first | rfl | (simp; done) | (simp [*]; done), by repeat (first | exact Drawn0.refl _ | apply Drawn0.step)⟩

/-! ### civil_Of: function 23 (typed by hand) -/
def civil_Of.res (s : Int) : Int × Int × Int × Int × Int × Int × Int × Int :=
 if s < -8000000000 ∨ 8000000000 < s then (0, 0, 0, 0, 0, 0, 0, 3)
 else (Civ.oy (s / 86400), Civ.om (s / 86400), Civ.od (s / 86400), s % 86400 / 3600, s % 86400 / 60 % 60, s % 86400 % 60, 0, 0)
def civil_Of.f (a0 : Int) : Option (Int × Int × Int × Int × Int × Int × Int × Int) := some (civil_Of.res a0)
def civil_Of.Post (w : World) (s : Int) (e : Ending) (w' : World) : Prop :=
 e = .returned (.tuple #[.agg #[.int .i64 (civil_Of.res s).1, .int .i64 (civil_Of.res s).2.1, .int .i64 (civil_Of.res s).2.2.1, .int .i64 (civil_Of.res s).2.2.2.1, .int .i64 (civil_Of.res s).2.2.2.2.1, .int .i64 (civil_Of.res s).2.2.2.2.2.1, .int .i64 (civil_Of.res s).2.2.2.2.2.2.1], .int .i64 (civil_Of.res s).2.2.2.2.2.2.2]) ∧ Below w.heap.size w w'
theorem civil_Of.day (s : Int) (h : -8000000000 ≤ s ∧ s ≤ 8000000000) : civil_dayOf.f s = some (s / 86400) := by
 unfold civil_dayOf.f fixed_Floor.f fixed_divides.f
 rw [if_neg (by omega), if_neg (by omega), Option.bind_some, if_pos rfl, if_neg (by omega)]
 have e := Int.mul_tdiv_add_tmod s 86400
 have w1 : ∀ x : Int, -8000000001 ≤ x ∧ x ≤ 8000000000 → wrap64 x = x := fun x hx => by unfold wrap64; omega
 by_cases hx : 0 ≤ s
 ·have h1 : Int.tdiv s 86400 = s / 86400 := Int.tdiv_eq_ediv_of_nonneg hx
  by_cases h2 : Int.tmod s 86400 = 0
  ·rw [if_pos h2, h1, w1 _ (by omega)]; rfl
  ·rw [if_neg h2, decide_eq_false (show ¬ s < 0 by omega), if_neg (by decide), h1, w1 _ (by omega)]; rfl
 ·have hr : -86400 < Int.tmod s 86400 ∧ Int.tmod s 86400 ≤ 0 := by
   have e3 := Int.neg_tmod s 86400
   have e4 := Int.tmod_nonneg (86400 : Int) (show 0 ≤ -s by omega)
   have e5 := Int.tmod_lt_of_pos (-s) (show (0 : Int) < 86400 by omega)
   omega
  by_cases h2 : Int.tmod s 86400 = 0
  ·rw [if_pos h2, w1 _ (by omega), Option.bind_some]
   congr 1
   show Int.tdiv s 86400 = _
   omega
  ·rw [if_neg h2, decide_eq_true (show s < 0 by omega), if_pos (by decide), w1 (Int.tdiv s 86400) (by omega), w1 _ (by omega), Option.bind_some]
   congr 1
   show Int.tdiv s 86400 - 1 = _
   omega
theorem civil_Of.below (w : World) (o o2 : Obj) (q : Nat) (v0 v1 v2 v3 v4 v5 v6 : Value) : Below w.heap.size w (((((((((((w.alloc o).drewN q).setCell ⟨w.heap.size, 0, none⟩ v0).setCell ⟨w.heap.size, 1, none⟩ v1).setCell ⟨w.heap.size, 2, none⟩ v2).setCell ⟨w.heap.size, 3, none⟩ v3).setCell ⟨w.heap.size, 4, none⟩ v4).setCell ⟨w.heap.size, 5, none⟩ v5).setCell ⟨w.heap.size, 6, none⟩ v6).alloc o2)) :=
 below_alloc (((((((Below.setCell (pw_below_drewN (below_alloc (Below.refl _ _) _) _) (Nat.le_refl _) v0).setCell (Nat.le_refl _) v1).setCell (Nat.le_refl _) v2).setCell (Nat.le_refl _) v3).setCell (Nat.le_refl _) v4).setCell (Nat.le_refl _) v5).setCell (Nat.le_refl _) v6) _
set_option maxHeartbeats 6400000 in
set_option maxRecDepth 100000 in
theorem civil_Of.walk (s : Int) (w : World) : Calls Try.prog 23 #[.int .i64 s] w (civil_Of.Post w s) := by
 have hu := Try.underlying51
 by_cases h1 : s < -8000000000
 ·have HR := Aside0.mk (show civil_Of.res s = (0, 0, 0, 0, 0, 0, 0, 3) from by unfold civil_Of.res; rw [if_pos (.inl h1)])
  go_enter Try.func23, Try.ntmps23
  go_wp2
  refine bodyPost_ret (v := .tuple #[.agg #[.int .i64 0, .int .i64 0, .int .i64 0, .int .i64 0, .int .i64 0, .int .i64 0, .int .i64 0], .int .i64 3]) (by simp [results, Try.results23, go_sem]) rfl ?_
  exact ⟨by rw [HR.out], by repeat (first | exact Below.refl _ _ | apply below_alloc | refine Below.setCell ?_ (by simp) _)⟩
 by_cases h2 : 8000000000 < s
 ·have HR := Aside0.mk (show civil_Of.res s = (0, 0, 0, 0, 0, 0, 0, 3) from by unfold civil_Of.res; rw [if_pos (.inr h2)])
  go_enter Try.func23, Try.ntmps23
  go_wp2
  refine bodyPost_ret (v := .tuple #[.agg #[.int .i64 0, .int .i64 0, .int .i64 0, .int .i64 0, .int .i64 0, .int .i64 0, .int .i64 0], .int .i64 3]) (by simp [results, Try.results23, go_sem]) rfl ?_
  exact ⟨by rw [HR.out], by repeat (first | exact Below.refl _ _ | apply below_alloc | refine Below.setCell ?_ (by simp) _)⟩
 have HR := Aside0.mk (show civil_Of.res s = (Civ.oy (s / 86400), Civ.om (s / 86400), Civ.od (s / 86400), s % 86400 / 3600, s % 86400 / 60 % 60, s % 86400 % 60, 0, 0) from by unfold civil_Of.res; rw [if_neg (by omega)])
 have HD := Aside0.mk (civil_Of.day s ⟨by omega, by omega⟩)
 have y := Civ.year_of (s / 86400)
 have mo := Civ.month_of (s / 86400)
 have e1 : Civ.cM (s / 86400) = (5 * Civ.ce (s / 86400) + 2) / 153 := rfl
 have e2 : Civ.ce (s / 86400) = Civ.cd (s / 86400) - (365 * Civ.cY (s / 86400) + Civ.cY (s / 86400) / 4 - Civ.cY (s / 86400) / 100) := rfl
 have e3 : Civ.cY (s / 86400) = (Civ.cd (s / 86400) - Civ.cd (s / 86400) / 1460 + Civ.cd (s / 86400) / 36524 - Civ.cd (s / 86400) / 146096) / 365 := rfl
 have e4 : Civ.cd (s / 86400) = (s / 86400 + 693901) % 146097 := rfl
 have e5 : Civ.cC (s / 86400) = (s / 86400 + 693901) / 146097 := rfl
 have e6 : Civ.od (s / 86400) = Civ.ce (s / 86400) - (153 * Civ.cM (s / 86400) + 2) / 5 + 1 := rfl
 have e7 : Civ.oy (s / 86400) = if 12 < Civ.cM (s / 86400) + 3 then 400 * Civ.cC (s / 86400) + Civ.cY (s / 86400) + 1 else 400 * Civ.cC (s / 86400) + Civ.cY (s / 86400) := rfl
 have e8 : Civ.om (s / 86400) = if 12 < Civ.cM (s / 86400) + 3 then Civ.cM (s / 86400) + 3 - 12 else Civ.cM (s / 86400) + 3 := rfl
 have y0 := y.y0
 have y1 := y.y1
 have x0 := y.e0
 have x1 := y.e1
 obtain ⟨m0, m1⟩ := mo
 clear y
 have e9 : s - s / 86400 * 86400 = s % 86400 := by omega
 have n0 : -92593 ≤ s / 86400 := by omega
 have n1 : s / 86400 ≤ 92592 := by omega
 have s0 : 0 ≤ s % 86400 := by omega
 have s1 : s % 86400 ≤ 86399 := by omega
 generalize Civ.oy (s / 86400) = OY at *
 generalize Civ.om (s / 86400) = OM at *
 generalize Civ.od (s / 86400) = OD at *
 generalize Civ.cM (s / 86400) = M at *
 generalize Civ.ce (s / 86400) = E at *
 generalize Civ.cY (s / 86400) = Y at *
 generalize Civ.cC (s / 86400) = C at *
 generalize Civ.cd (s / 86400) = D at *
 generalize hN : s / 86400 = N at *
 generalize hS : s % 86400 = S at *
 clear hN hS
 obtain ⟨G, hG⟩ : ∃ G : Int, G = N + 693901 := ⟨_, rfl⟩
 rw [← hG] at e4 e5
 have d0 : 0 ≤ D := by omega
 have d1 : D ≤ 146096 := by omega
 have g0 : 601308 ≤ G := by omega
 have g1 : G ≤ 786493 := by omega
 have c0 : 4 ≤ C := by omega
 have c1 : C ≤ 5 := by omega
 replace hG : N + 693901 = G := hG.symm
 replace e1 := e1.symm
 replace e2 := e2.symm
 replace e3 := e3.symm
 replace e4 := e4.symm
 replace e5 := e5.symm
 replace e6 := e6.symm
 have E7 := Aside0.mk e7
 have E8 := Aside0.mk e8
 clear e7 e8
 by_cases hm : 12 < M + 3
 ·have hb : decide (12 < M + 3) = true := decide_eq_true hm
  have HY : Aside0 (OY = 400 * C + Y + 1) := ⟨by have h := E7.out; rw [if_pos hm] at h; exact h⟩
  have HM : Aside0 (OM = M + 3 - 12) := ⟨by have h := E8.out; rw [if_pos hm] at h; exact h⟩
  clear hm E7 E8
  go_enter Try.func23, Try.ntmps23
  go_wp2_with fail
  refine (civil_dayOf.calls s N _ HD.out).mono ?_
  rintro e w' ⟨rfl, hd⟩
  obtain ⟨q, rfl⟩ := hd.out
  go_wp2
  refine bodyPost_ret (v := .tuple #[.agg #[.int .i64 (400 * C + Y + 1), .int .i64 (M + 3 - 12), .int .i64 OD, .int .i64 (S / 3600), .int .i64 (S / 60 % 60), .int .i64 (S % 60), .int .i64 0], .int .i64 0]) (by simp [results, Try.results23, go_sem]) rfl ?_
  exact ⟨by rw [HR.out, HY.out, HM.out], civil_Of.below _ _ _ _ _ _ _ _ _ _ _⟩
 ·have hb : decide (12 < M + 3) = false := decide_eq_false hm
  have HY : Aside0 (OY = 400 * C + Y) := ⟨by have h := E7.out; rw [if_neg hm] at h; exact h⟩
  have HM : Aside0 (OM = M + 3) := ⟨by have h := E8.out; rw [if_neg hm] at h; exact h⟩
  clear hm E7 E8
  go_enter Try.func23, Try.ntmps23
  go_wp2_with fail
  refine (civil_dayOf.calls s N _ HD.out).mono ?_
  rintro e w' ⟨rfl, hd⟩
  obtain ⟨q, rfl⟩ := hd.out
  go_wp2
  refine bodyPost_ret (v := .tuple #[.agg #[.int .i64 (400 * C + Y), .int .i64 (M + 3), .int .i64 OD, .int .i64 (S / 3600), .int .i64 (S / 60 % 60), .int .i64 (S % 60), .int .i64 0], .int .i64 0]) (by simp [results, Try.results23, go_sem]) rfl ?_
  exact ⟨by rw [HR.out, HY.out, HM.out], civil_Of.below _ _ _ _ _ _ _ _ _ _ _⟩
theorem civil_Of.calls (a0 : Int) (r1 : Int) (r2 : Int) (r3 : Int) (r4 : Int) (r5 : Int) (r6 : Int) (r7 : Int) (r8 : Int) (w : World) (h : civil_Of.f a0 = some (r1, r2, r3, r4, r5, r6, r7, r8)) :
  Calls Try.prog 23 #[.int .i64 a0] w fun e w' => e = .returned (.tuple #[.agg #[.int .i64 r1, .int .i64 r2, .int .i64 r3, .int .i64 r4, .int .i64 r5, .int .i64 r6, .int .i64 r7], .int .i64 r8]) ∧ Below w.heap.size w w' := by
 have e := Option.some.inj h
 refine (civil_Of.walk a0 w).mono ?_
 rintro x w' ⟨hx, hb⟩
 rw [e] at hx
 exact ⟨hx, hb⟩

/-! ### civil_MonthDays: function 63 (typed by hand) -/
def civil_MonthDays.lp (y : Int) : Bool := (Int.tmod y 4 == 0) && (!(Int.tmod y 100 == 0) || (Int.tmod y 400 == 0))
def civil_MonthDays.v (y m : Int) : Int := if m < 1 then 0 else if 12 < m then 0 else if m = 2 then (if civil_MonthDays.lp y = true then 29 else 28) else if m = 4 then 30 else if m = 6 then 30 else if m = 9 then 30 else if m = 11 then 30 else 31
def civil_MonthDays.f (a0 : Int) (a1 : Int) : Option (Int) := some (civil_MonthDays.v a0 a1)
set_option maxHeartbeats 400000 in
theorem civil_MonthDays.low (y m : Int) (w : World) (h : m < 1) : Calls Try.prog 63 #[.int .i64 y, .int .i64 m] w fun e w' => e = .returned (.int .i64 0) ∧ Below w.heap.size w w' := by
 go_enter Try.func63, Try.ntmps63
 go_wp2
 go_ret
 exact ⟨rfl, Below.refl _ _⟩
set_option maxHeartbeats 400000 in
theorem civil_MonthDays.high (y m : Int) (w : World) (h : 12 < m) : Calls Try.prog 63 #[.int .i64 y, .int .i64 m] w fun e w' => e = .returned (.int .i64 0) ∧ Below w.heap.size w w' := by
 have h1 : ¬ m < 1 := by omega
 go_enter Try.func63, Try.ntmps63
 go_wp2
 go_ret
 exact ⟨rfl, Below.refl _ _⟩
set_option maxHeartbeats 3200000 in
theorem civil_MonthDays.mid (y m : Int) (w : World) (h1 : 1 ≤ m) (h2 : m ≤ 12) (h3 : m ≠ 2) : Calls Try.prog 63 #[.int .i64 y, .int .i64 m] w fun e w' => e = .returned (.int .i64 (civil_MonthDays.v y m)) ∧ Below w.heap.size w w' := by
 obtain rfl | rfl | rfl | rfl | rfl | rfl | rfl | rfl | rfl | rfl | rfl : m = 1 ∨ m = 3 ∨ m = 4 ∨ m = 5 ∨ m = 6 ∨ m = 7 ∨ m = 8 ∨ m = 9 ∨ m = 10 ∨ m = 11 ∨ m = 12 := by omega
 all_goals
  clear h1 h2 h3
  go_enter Try.func63, Try.ntmps63
  go_wp2
  go_ret
  exact ⟨rfl, (Below.refl _ _).alloc (Nat.le_refl _) _⟩
set_option maxHeartbeats 3200000 in
theorem civil_MonthDays.feb (y : Int) (w : World) : Calls Try.prog 63 #[.int .i64 y, .int .i64 2] w fun e w' => e = .returned (.int .i64 (civil_MonthDays.v y 2)) ∧ Below w.heap.size w w' := by
 have hv : civil_MonthDays.v y 2 = if civil_MonthDays.lp y = true then 29 else 28 := rfl
 rw [hv]
 unfold civil_MonthDays.lp
 cases h4 : (Int.tmod y 4 == 0) <;> cases h100 : (Int.tmod y 100 == 0) <;> cases h400 : (Int.tmod y 400 == 0)
 all_goals
  have n100 : (Int.tmod y 100 != 0) = !(Int.tmod y 100 == 0) := rfl
  rw [h100] at n100
  simp only [Bool.not_true, Bool.not_false] at n100
  go_enter Try.func63, Try.ntmps63
  go_wp2
  go_ret
  exact ⟨rfl, (Below.refl _ _).alloc (Nat.le_refl _) _⟩
theorem civil_MonthDays.calls (a0 : Int) (a1 : Int) (r : Int) (w : World) (h : civil_MonthDays.f a0 a1 = some r) :
  Calls Try.prog 63 #[.int .i64 a0, .int .i64 a1] w fun e w' => e = .returned (.int .i64 r) ∧ Below w.heap.size w w' := by
 obtain rfl := Option.some.inj h
 by_cases h1 : a1 < 1
 ·have e : civil_MonthDays.v a0 a1 = 0 := by unfold civil_MonthDays.v; rw [if_pos h1]
  rw [e]
  exact civil_MonthDays.low a0 a1 w h1
 ·by_cases h2 : 12 < a1
  ·have e : civil_MonthDays.v a0 a1 = 0 := by unfold civil_MonthDays.v; rw [if_neg h1, if_pos h2]
   rw [e]
   exact civil_MonthDays.high a0 a1 w h2
  ·by_cases h3 : a1 = 2
   ·subst h3
    exact civil_MonthDays.feb a0 w
   ·exact civil_MonthDays.mid a0 a1 w (by omega) (by omega) h3

/-! ### civil_Check: function 55 (typed by hand) -/
def civil_Check.far (n lo hi : Int) : Bool := !decide (lo ≤ n ∧ n ≤ hi)
def civil_Check.bad (y m d h mi s n : Int) : Bool := civil_Check.far y 1600 2200 || (civil_Check.far m 1 12 || (civil_Check.far d 1 (civil_MonthDays.v y m) || (civil_Check.far h 0 23 || (civil_Check.far mi 0 59 || (civil_Check.far s 0 59 || civil_Check.far n 0 999999999)))))
def civil_Check.res (y m d h mi s n : Int) : Int := if civil_Check.bad y m d h mi s n = true then 3 else 0
def civil_Check.f (a0_0 : Int) (a0_1 : Int) (a0_2 : Int) (a0_3 : Int) (a0_4 : Int) (a0_5 : Int) (a0_6 : Int) : Option (Int) := some (civil_Check.res a0_0 a0_1 a0_2 a0_3 a0_4 a0_5 a0_6)
set_option maxHeartbeats 400000 in
/-- 'outside' says no. -/
theorem civil_Check.inside (n lo hi : Int) (w : World) (h : lo ≤ n ∧ n ≤ hi) : Calls Try.prog 62 #[.int .i64 n, .int .i64 lo, .int .i64 hi] w fun e w' => e = .returned (.bool false) ∧ Drawn0 w w' := by
 have h1 : decide (n < lo) = false := decide_eq_false (by omega)
 have h2 : decide (hi < n) = false := decide_eq_false (by omega)
 clear h
 go_enter Try.func62, Try.ntmps62
 go_wp2
 go_ret
 exact ⟨rfl, Drawn0.refl _⟩
set_option maxHeartbeats 400000 in
/-- 'outside' says yes. -/
theorem civil_Check.outside (n lo hi : Int) (w : World) (h : ¬ (lo ≤ n ∧ n ≤ hi)) : Calls Try.prog 62 #[.int .i64 n, .int .i64 lo, .int .i64 hi] w fun e w' => e = .returned (.bool true) ∧ Drawn0 w w' := by
 by_cases h0 : n < lo
 ·have h1 : decide (n < lo) = true := decide_eq_true h0
  clear h h0
  go_enter Try.func62, Try.ntmps62
  go_wp2
  go_ret
  exact ⟨rfl, Drawn0.refl _⟩
 ·have h1 : decide (n < lo) = false := decide_eq_false h0
  have h2 : decide (hi < n) = true := decide_eq_true (by omega)
  clear h h0
  go_enter Try.func62, Try.ntmps62
  go_wp2
  go_ret
  exact ⟨rfl, Drawn0.refl _⟩
theorem civil_Check.out (n lo hi : Int) (w : World) : Calls Try.prog 62 #[.int .i64 n, .int .i64 lo, .int .i64 hi] w fun e w' => e = .returned (.bool (civil_Check.far n lo hi)) ∧ Below w.heap.size w w' := by
 unfold civil_Check.far
 by_cases h : lo ≤ n ∧ n ≤ hi
 ·rw [decide_eq_true h]
  exact (civil_Check.inside n lo hi w h).mono fun _ _ ⟨a, b⟩ => ⟨a, b.below⟩
 ·rw [decide_eq_false h]
  exact (civil_Check.outside n lo hi w h).mono fun _ _ ⟨a, b⟩ => ⟨a, b.below⟩
/-- The civil time's box, as it was. -/
structure civil_Check.At (w0 w : World) (g : Nat) (y m d h mi s n : Int) : Prop where
 k0 : w.cell? ⟨g, 0, none⟩ = some (.int .i64 y)
 k1 : w.cell? ⟨g, 1, none⟩ = some (.int .i64 m)
 k2 : w.cell? ⟨g, 2, none⟩ = some (.int .i64 d)
 k3 : w.cell? ⟨g, 3, none⟩ = some (.int .i64 h)
 k4 : w.cell? ⟨g, 4, none⟩ = some (.int .i64 mi)
 k5 : w.cell? ⟨g, 5, none⟩ = some (.int .i64 s)
 k6 : w.cell? ⟨g, 6, none⟩ = some (.int .i64 n)
 hb : Below w0.heap.size w0 w
theorem civil_Check.At.step {w0 w w' : World} {g : Nat} {y m d h mi s n : Int} (a : civil_Check.At w0 w g y m d h mi s n) (hb : Below w.heap.size w w') : civil_Check.At w0 w' g y m d h mi s n :=
 ⟨pw_cell_below hb a.k0, pw_cell_below hb a.k1, pw_cell_below hb a.k2, pw_cell_below hb a.k3, pw_cell_below hb a.k4, pw_cell_below hb a.k5, pw_cell_below hb a.k6, below_step a.hb hb⟩
set_option maxHeartbeats 3200000 in
set_option maxRecDepth 100000 in
theorem civil_Check.calls (a0_0 : Int) (a0_1 : Int) (a0_2 : Int) (a0_3 : Int) (a0_4 : Int) (a0_5 : Int) (a0_6 : Int) (r : Int) (w : World) (h : civil_Check.f a0_0 a0_1 a0_2 a0_3 a0_4 a0_5 a0_6 = some r) :
  Calls Try.prog 55 #[.agg #[.int .i64 a0_0, .int .i64 a0_1, .int .i64 a0_2, .int .i64 a0_3, .int .i64 a0_4, .int .i64 a0_5, .int .i64 a0_6]] w fun e w' => e = .returned (.int .i64 r) ∧ Below w.heap.size w w' := by
 obtain rfl := Option.some.inj h
 clear h
 have hu := Try.underlying51
 go_enter Try.func55, Try.ntmps55
 go_wp2_with fail
 refine (civil_Check.out a0_0 1600 2200 _).mono ?_
 rintro e w1 ⟨rfl, hb1⟩
 have HA1 := Aside0.mk ((⟨by simp [go_sem], by simp [go_sem], by simp [go_sem], by simp [go_sem], by simp [go_sem], by simp [go_sem], by simp [go_sem], below_alloc (Below.refl w.heap.size w) _⟩ : civil_Check.At w (w.alloc (.cells #[.int .i64 a0_0, .int .i64 a0_1, .int .i64 a0_2, .int .i64 a0_3, .int .i64 a0_4, .int .i64 a0_5, .int .i64 a0_6] 51)) w.heap.size a0_0 a0_1 a0_2 a0_3 a0_4 a0_5 a0_6).step hb1)
 clear hb1
 cases b0 : civil_Check.far a0_0 1600 2200
 rotate_left
 ·go_wp2
  go_ret
  exact ⟨by show Ending.returned (.int .i64 3) = _; unfold civil_Check.res civil_Check.bad; rw [b0]; rfl, HA1.out.hb⟩
 have k1 := HA1.out.k1
 go_wp2_with fail
 refine (civil_Check.out a0_1 1 12 _).mono ?_
 rintro e w2 ⟨rfl, hb2⟩
 have HA2 := Aside0.mk (HA1.out.step hb2)
 clear hb2 HA1 k1
 cases b1 : civil_Check.far a0_1 1 12
 rotate_left
 ·go_wp2
  go_ret
  exact ⟨by show Ending.returned (.int .i64 3) = _; unfold civil_Check.res civil_Check.bad; rw [b0, b1]; rfl, HA2.out.hb⟩
 have k0 := HA2.out.k0
 have k1 := HA2.out.k1
 have k2 := HA2.out.k2
 go_wp2_with fail
 go_region_held3 (fun W => W.cell? ⟨w.heap.size, 0, none⟩ = some (.int .i64 a0_0) ∧ W.cell? ⟨w.heap.size, 1, none⟩ = some (.int .i64 a0_1) ∧ W.cell? ⟨w.heap.size, 2, none⟩ = some (.int .i64 a0_2) ∧ Aside0 (civil_Check.At w W w.heap.size a0_0 a0_1 a0_2 a0_3 a0_4 a0_5 a0_6))
  (first
   | exact ⟨k0, k1, k2, ⟨HA2.out.step (below_drew (Below.refl _ _))⟩⟩
   | (go_split_ands; exact ⟨pw_cell_below hb (by assumption), pw_cell_below hb (by assumption), pw_cell_below hb (by assumption), ⟨civil_Check.At.step (by exact Aside0.out (by assumption)) hb⟩⟩))
  (first
   | (go_at_call 63; refine (civil_MonthDays.calls a0_0 a0_1 _ _ rfl).mono ?_; rintro e w' ⟨rfl, hb⟩)
   | (go_at_call 62; refine (civil_Check.out a0_2 1 (civil_MonthDays.v a0_0 a0_1) _).mono ?_; rintro e w' ⟨rfl, hb⟩))
 have HA3 := ‹_ ∧ _ ∧ _ ∧ Aside0 (civil_Check.At w _ w.heap.size a0_0 a0_1 a0_2 a0_3 a0_4 a0_5 a0_6)›.2.2.2
 clear HA2 k0 k1 k2
 cases b2 : civil_Check.far a0_2 1 (civil_MonthDays.v a0_0 a0_1)
 rotate_left
 ·go_wp2
  go_ret
  exact ⟨by show Ending.returned (.int .i64 3) = _; unfold civil_Check.res civil_Check.bad; rw [b0, b1, b2]; rfl, HA3.out.hb⟩
 have k := HA3.out.k3
 go_wp2_with fail
 refine (civil_Check.out a0_3 0 23 _).mono ?_
 rintro e w4 ⟨rfl, hb4⟩
 have HA4 := Aside0.mk (HA3.out.step hb4)
 clear hb4 HA3 k
 cases b3 : civil_Check.far a0_3 0 23
 rotate_left
 ·go_wp2
  go_ret
  exact ⟨by show Ending.returned (.int .i64 3) = _; unfold civil_Check.res civil_Check.bad; rw [b0, b1, b2, b3]; rfl, HA4.out.hb⟩
 have k := HA4.out.k4
 go_wp2_with fail
 refine (civil_Check.out a0_4 0 59 _).mono ?_
 rintro e w5 ⟨rfl, hb5⟩
 have HA5 := Aside0.mk (HA4.out.step hb5)
 clear hb5 HA4 k
 cases b4 : civil_Check.far a0_4 0 59
 rotate_left
 ·go_wp2
  go_ret
  exact ⟨by show Ending.returned (.int .i64 3) = _; unfold civil_Check.res civil_Check.bad; rw [b0, b1, b2, b3, b4]; rfl, HA5.out.hb⟩
 have k := HA5.out.k5
 go_wp2_with fail
 refine (civil_Check.out a0_5 0 59 _).mono ?_
 rintro e w6 ⟨rfl, hb6⟩
 have HA6 := Aside0.mk (HA5.out.step hb6)
 clear hb6 HA5 k
 cases b5 : civil_Check.far a0_5 0 59
 rotate_left
 ·go_wp2
  go_ret
  exact ⟨by show Ending.returned (.int .i64 3) = _; unfold civil_Check.res civil_Check.bad; rw [b0, b1, b2, b3, b4, b5]; rfl, HA6.out.hb⟩
 have k := HA6.out.k6
 go_wp2_with fail
 refine (civil_Check.out a0_6 0 999999999 _).mono ?_
 rintro e w7 ⟨rfl, hb7⟩
 have HA7 := Aside0.mk (HA6.out.step hb7)
 clear hb7 HA6 k
 cases b6 : civil_Check.far a0_6 0 999999999
 rotate_left
 ·go_wp2
  go_ret
  exact ⟨by show Ending.returned (.int .i64 3) = _; unfold civil_Check.res civil_Check.bad; rw [b0, b1, b2, b3, b4, b5, b6]; rfl, HA7.out.hb⟩
 go_wp2
 go_ret
 exact ⟨by show Ending.returned (.int .i64 0) = _; unfold civil_Check.res civil_Check.bad; rw [b0, b1, b2, b3, b4, b5, b6]; rfl, HA7.out.hb⟩

/-! ### civil_Seconds: function 46 (typed by hand) -/
def civil_Seconds.f (a0_0 : Int) (a0_1 : Int) (a0_2 : Int) (a0_3 : Int) (a0_4 : Int) (a0_5 : Int) (a0_6 : Int) : Option (Int × Int) := (civil_Check.f a0_0 a0_1 a0_2 a0_3 a0_4 a0_5 a0_6).bind fun t106 => (if t106 = 0 then (if (wrap64 (a0_1 - 3)) < 0 then (if (wrap64 ((wrap64 ((wrap64 ((wrap64 ((wrap64 ((wrap64 ((wrap64 ((wrap64 ((wrap64 ((wrap64 ((wrap64 ((-693901) + (wrap64 (365 * (wrap64 (a0_0 - 1)))))) + (wrap64 (Int.tdiv (wrap64 (a0_0 - 1)) 4)))) - (wrap64 (Int.tdiv (wrap64 (a0_0 - 1)) 100)))) + (wrap64 (Int.tdiv (wrap64 (a0_0 - 1)) 400)))) + (wrap64 (Int.tdiv (wrap64 ((wrap64 (153 * (wrap64 ((wrap64 (a0_1 - 3)) + 12)))) + 2)) 5)))) + a0_2)) - 1)) * 86400)) + (wrap64 (a0_3 * 3600)))) + (wrap64 (a0_4 * 60)))) + a0_5)) < (-8000000000) then (some (0, 3)) else (if (wrap64 ((wrap64 ((wrap64 ((wrap64 ((wrap64 ((wrap64 ((wrap64 ((wrap64 ((wrap64 ((wrap64 ((wrap64 ((-693901) + (wrap64 (365 * (wrap64 (a0_0 - 1)))))) + (wrap64 (Int.tdiv (wrap64 (a0_0 - 1)) 4)))) - (wrap64 (Int.tdiv (wrap64 (a0_0 - 1)) 100)))) + (wrap64 (Int.tdiv (wrap64 (a0_0 - 1)) 400)))) + (wrap64 (Int.tdiv (wrap64 ((wrap64 (153 * (wrap64 ((wrap64 (a0_1 - 3)) + 12)))) + 2)) 5)))) + a0_2)) - 1)) * 86400)) + (wrap64 (a0_3 * 3600)))) + (wrap64 (a0_4 * 60)))) + a0_5)) > 8000000000 then (some (0, 3)) else (some (wrap64 ((wrap64 ((wrap64 ((wrap64 ((wrap64 ((wrap64 ((wrap64 ((wrap64 ((wrap64 ((wrap64 ((wrap64 ((-693901) + (wrap64 (365 * (wrap64 (a0_0 - 1)))))) + (wrap64 (Int.tdiv (wrap64 (a0_0 - 1)) 4)))) - (wrap64 (Int.tdiv (wrap64 (a0_0 - 1)) 100)))) + (wrap64 (Int.tdiv (wrap64 (a0_0 - 1)) 400)))) + (wrap64 (Int.tdiv (wrap64 ((wrap64 (153 * (wrap64 ((wrap64 (a0_1 - 3)) + 12)))) + 2)) 5)))) + a0_2)) - 1)) * 86400)) + (wrap64 (a0_3 * 3600)))) + (wrap64 (a0_4 * 60)))) + a0_5), 0)))) else (if (wrap64 ((wrap64 ((wrap64 ((wrap64 ((wrap64 ((wrap64 ((wrap64 ((wrap64 ((wrap64 ((wrap64 ((wrap64 ((-693901) + (wrap64 (365 * a0_0)))) + (wrap64 (Int.tdiv a0_0 4)))) - (wrap64 (Int.tdiv a0_0 100)))) + (wrap64 (Int.tdiv a0_0 400)))) + (wrap64 (Int.tdiv (wrap64 ((wrap64 (153 * (wrap64 (a0_1 - 3)))) + 2)) 5)))) + a0_2)) - 1)) * 86400)) + (wrap64 (a0_3 * 3600)))) + (wrap64 (a0_4 * 60)))) + a0_5)) < (-8000000000) then (some (0, 3)) else (if (wrap64 ((wrap64 ((wrap64 ((wrap64 ((wrap64 ((wrap64 ((wrap64 ((wrap64 ((wrap64 ((wrap64 ((wrap64 ((-693901) + (wrap64 (365 * a0_0)))) + (wrap64 (Int.tdiv a0_0 4)))) - (wrap64 (Int.tdiv a0_0 100)))) + (wrap64 (Int.tdiv a0_0 400)))) + (wrap64 (Int.tdiv (wrap64 ((wrap64 (153 * (wrap64 (a0_1 - 3)))) + 2)) 5)))) + a0_2)) - 1)) * 86400)) + (wrap64 (a0_3 * 3600)))) + (wrap64 (a0_4 * 60)))) + a0_5)) > 8000000000 then (some (0, 3)) else (some (wrap64 ((wrap64 ((wrap64 ((wrap64 ((wrap64 ((wrap64 ((wrap64 ((wrap64 ((wrap64 ((wrap64 ((wrap64 ((-693901) + (wrap64 (365 * a0_0)))) + (wrap64 (Int.tdiv a0_0 4)))) - (wrap64 (Int.tdiv a0_0 100)))) + (wrap64 (Int.tdiv a0_0 400)))) + (wrap64 (Int.tdiv (wrap64 ((wrap64 (153 * (wrap64 (a0_1 - 3)))) + 2)) 5)))) + a0_2)) - 1)) * 86400)) + (wrap64 (a0_3 * 3600)))) + (wrap64 (a0_4 * 60)))) + a0_5), 0))))) else (some (0, t106)))
set_option maxHeartbeats 3200000 in
set_option maxRecDepth 100000 in
theorem civil_Seconds.calls (a0_0 : Int) (a0_1 : Int) (a0_2 : Int) (a0_3 : Int) (a0_4 : Int) (a0_5 : Int) (a0_6 : Int) (r1 : Int) (r2 : Int) (w : World) (h : civil_Seconds.f a0_0 a0_1 a0_2 a0_3 a0_4 a0_5 a0_6 = some (r1, r2)) :
  Calls Try.prog 46 #[.agg #[.int .i64 a0_0, .int .i64 a0_1, .int .i64 a0_2, .int .i64 a0_3, .int .i64 a0_4, .int .i64 a0_5, .int .i64 a0_6]] w fun e w' => e = .returned (.tuple #[.int .i64 r1, .int .i64 r2]) ∧ Below w.heap.size w w' := by
 have hu := Try.underlying51
 unfold civil_Seconds.f at h
 obtain ⟨e0, A0, H⟩ := Option.bind_eq_some_iff.mp h
 clear h
 have A1 := Aside0.mk A0
 clear A0
 have HS : Aside0 (Below w.heap.size w (w.alloc (.cells #[.int .i64 a0_0, .int .i64 a0_1, .int .i64 a0_2, .int .i64 a0_3, .int .i64 a0_4, .int .i64 a0_5, .int .i64 a0_6] 51))) := ⟨below_alloc (Below.refl _ _) _⟩
 have BK := Aside0.mk (blk_new w (.cells #[.int .i64 a0_0, .int .i64 a0_1, .int .i64 a0_2, .int .i64 a0_3, .int .i64 a0_4, .int .i64 a0_5, .int .i64 a0_6] 51))
 by_cases c0 : e0 = 0
 ·rw [if_pos c0] at H
  subst c0
  by_cases c1 : wrap64 (a0_1 - 3) < 0
  ·rw [if_pos c1] at H
   have c1b := decide_eq_true c1
   clear c1
   split at H
   ·rename_i c2
    have c2b := decide_eq_true c2
    clear c2
    simp only [Option.some.injEq, Prod.mk.injEq] at H
    obtain ⟨rfl, rfl⟩ := H
    go_enter Try.func46, Try.ntmps46
    go_wp2_with fail
    refine (civil_Check.calls a0_0 a0_1 a0_2 a0_3 a0_4 a0_5 a0_6 0 _ A1.out).mono ?_
    rintro e w1 ⟨rfl, hb1⟩
    have HB := Aside0.mk (below_step HS.out hb1)
    have B1 := Aside0.mk (blk_below BK.out hb1)
    clear hb1
    have k0 := blk_cell B1.out 0
    have k1 := blk_cell B1.out 1
    have k2 := blk_cell B1.out 2
    have k3 := blk_cell B1.out 3
    have k4 := blk_cell B1.out 4
    have k5 := blk_cell B1.out 5
    go_wp2_with fail
    go_quiet (fail)
    go_wp2
    go_ret2
    exact ⟨rfl, pw_below_drewN HB.out _⟩
   ·rename_i c2
    have c2b := decide_eq_false c2
    clear c2
    split at H
    ·rename_i c3
     have c3b : decide ((8000000000 : Int) < _) = true := decide_eq_true c3
     clear c3
     simp only [Option.some.injEq, Prod.mk.injEq] at H
     obtain ⟨rfl, rfl⟩ := H
     go_enter Try.func46, Try.ntmps46
     go_wp2_with fail
     refine (civil_Check.calls a0_0 a0_1 a0_2 a0_3 a0_4 a0_5 a0_6 0 _ A1.out).mono ?_
     rintro e w1 ⟨rfl, hb1⟩
     have HB := Aside0.mk (below_step HS.out hb1)
     have B1 := Aside0.mk (blk_below BK.out hb1)
     clear hb1
     have k0 := blk_cell B1.out 0
     have k1 := blk_cell B1.out 1
     have k2 := blk_cell B1.out 2
     have k3 := blk_cell B1.out 3
     have k4 := blk_cell B1.out 4
     have k5 := blk_cell B1.out 5
     go_wp2_with fail
     go_quiet (fail)
     go_wp2
     go_ret2
     exact ⟨rfl, pw_below_drewN HB.out _⟩
    ·rename_i c3
     have c3b : decide ((8000000000 : Int) < _) = false := decide_eq_false c3
     clear c3
     simp only [Option.some.injEq, Prod.mk.injEq] at H
     obtain ⟨rfl, rfl⟩ := H
     go_enter Try.func46, Try.ntmps46
     go_wp2_with fail
     refine (civil_Check.calls a0_0 a0_1 a0_2 a0_3 a0_4 a0_5 a0_6 0 _ A1.out).mono ?_
     rintro e w1 ⟨rfl, hb1⟩
     have HB := Aside0.mk (below_step HS.out hb1)
     have B1 := Aside0.mk (blk_below BK.out hb1)
     clear hb1
     have k0 := blk_cell B1.out 0
     have k1 := blk_cell B1.out 1
     have k2 := blk_cell B1.out 2
     have k3 := blk_cell B1.out 3
     have k4 := blk_cell B1.out 4
     have k5 := blk_cell B1.out 5
     go_wp2_with fail
     go_quiet (fail)
     go_wp2
     go_ret2
     exact ⟨rfl, pw_below_drewN HB.out _⟩
  ·rw [if_neg c1] at H
   have c1b := decide_eq_false c1
   clear c1
   split at H
   ·rename_i c2
    have c2b := decide_eq_true c2
    clear c2
    simp only [Option.some.injEq, Prod.mk.injEq] at H
    obtain ⟨rfl, rfl⟩ := H
    go_enter Try.func46, Try.ntmps46
    go_wp2_with fail
    refine (civil_Check.calls a0_0 a0_1 a0_2 a0_3 a0_4 a0_5 a0_6 0 _ A1.out).mono ?_
    rintro e w1 ⟨rfl, hb1⟩
    have HB := Aside0.mk (below_step HS.out hb1)
    have B1 := Aside0.mk (blk_below BK.out hb1)
    clear hb1
    have k0 := blk_cell B1.out 0
    have k1 := blk_cell B1.out 1
    have k2 := blk_cell B1.out 2
    have k3 := blk_cell B1.out 3
    have k4 := blk_cell B1.out 4
    have k5 := blk_cell B1.out 5
    go_wp2_with fail
    go_quiet (fail)
    go_wp2
    go_ret2
    exact ⟨rfl, pw_below_drewN HB.out _⟩
   ·rename_i c2
    have c2b := decide_eq_false c2
    clear c2
    split at H
    ·rename_i c3
     have c3b : decide ((8000000000 : Int) < _) = true := decide_eq_true c3
     clear c3
     simp only [Option.some.injEq, Prod.mk.injEq] at H
     obtain ⟨rfl, rfl⟩ := H
     go_enter Try.func46, Try.ntmps46
     go_wp2_with fail
     refine (civil_Check.calls a0_0 a0_1 a0_2 a0_3 a0_4 a0_5 a0_6 0 _ A1.out).mono ?_
     rintro e w1 ⟨rfl, hb1⟩
     have HB := Aside0.mk (below_step HS.out hb1)
     have B1 := Aside0.mk (blk_below BK.out hb1)
     clear hb1
     have k0 := blk_cell B1.out 0
     have k1 := blk_cell B1.out 1
     have k2 := blk_cell B1.out 2
     have k3 := blk_cell B1.out 3
     have k4 := blk_cell B1.out 4
     have k5 := blk_cell B1.out 5
     go_wp2_with fail
     go_quiet (fail)
     go_wp2
     go_ret2
     exact ⟨rfl, pw_below_drewN HB.out _⟩
    ·rename_i c3
     have c3b : decide ((8000000000 : Int) < _) = false := decide_eq_false c3
     clear c3
     simp only [Option.some.injEq, Prod.mk.injEq] at H
     obtain ⟨rfl, rfl⟩ := H
     go_enter Try.func46, Try.ntmps46
     go_wp2_with fail
     refine (civil_Check.calls a0_0 a0_1 a0_2 a0_3 a0_4 a0_5 a0_6 0 _ A1.out).mono ?_
     rintro e w1 ⟨rfl, hb1⟩
     have HB := Aside0.mk (below_step HS.out hb1)
     have B1 := Aside0.mk (blk_below BK.out hb1)
     clear hb1
     have k0 := blk_cell B1.out 0
     have k1 := blk_cell B1.out 1
     have k2 := blk_cell B1.out 2
     have k3 := blk_cell B1.out 3
     have k4 := blk_cell B1.out 4
     have k5 := blk_cell B1.out 5
     go_wp2_with fail
     go_quiet (fail)
     go_wp2
     go_ret2
     exact ⟨rfl, pw_below_drewN HB.out _⟩
 ·rw [if_neg c0] at H
  simp only [Option.some.injEq, Prod.mk.injEq] at H
  obtain ⟨rfl, rfl⟩ := H
  have hq : (e0 != 0) = true := by simpa using c0
  go_enter Try.func46, Try.ntmps46
  go_wp2_with fail
  refine (civil_Check.calls a0_0 a0_1 a0_2 a0_3 a0_4 a0_5 a0_6 e0 _ A1.out).mono ?_
  rintro e w1 ⟨rfl, hb1⟩
  have HB := Aside0.mk (below_step HS.out hb1)
  clear hb1
  go_wp2
  go_ret2
  exact ⟨rfl, HB.out⟩

/-! ### leap_month: function 43 (typed by hand) -/
def leap_month.f (a0 : Int) (a1 : Int) : Option (Int × Bool) := (civil_Of.f a0).bind fun bt107 => (if bt107.2.2.2.2.2.2.2 = 0 then (if (wrap64 (bt107.2.1 + a1)) > 12 then ((civil_Seconds.f (wrap64 (bt107.1 + 1)) 1 1 0 0 0 0).bind fun bt116 => (some (bt116.1, (bt116.2 == 0)))) else ((civil_Seconds.f bt107.1 (wrap64 (bt107.2.1 + a1)) 1 0 0 0 0).bind fun bt118 => (some (bt118.1, (bt118.2 == 0))))) else (some (0, false)))
set_option maxHeartbeats 3200000 in
set_option maxRecDepth 100000 in
theorem leap_month.calls (a0 : Int) (a1 : Int) (r1 : Int) (r2 : Bool) (w : World) (h : leap_month.f a0 a1 = some (r1, r2)) :
  Calls Try.prog 43 #[.int .i64 a0, .int .i64 a1] w fun e w' => e = .returned (.tuple #[.int .i64 r1, .bool r2]) ∧ Below w.heap.size w w' := by
 have hu := Try.underlying51
 unfold leap_month.f at h
 obtain ⟨⟨y, m, d, hh, mi, s, n, q⟩, A30, H⟩ := Option.bind_eq_some_iff.mp h
 clear h
 replace H : (if q = 0 then (if (wrap64 (m + a1)) > 12 then ((civil_Seconds.f (wrap64 (y + 1)) 1 1 0 0 0 0).bind fun bt116 => (some (bt116.1, (bt116.2 == 0)))) else ((civil_Seconds.f y (wrap64 (m + a1)) 1 0 0 0 0).bind fun bt118 => (some (bt118.1, (bt118.2 == 0))))) else (some (0, false))) = some (r1, r2) := H
 have A3 := Aside0.mk A30
 clear A30
 by_cases c4 : q = 0
 ·rw [if_pos c4] at H
  subst c4
  by_cases c5 : (wrap64 (m + a1)) > 12
  ·rw [if_pos c5] at H
   obtain ⟨⟨t, u⟩, A60, H⟩ := Option.bind_eq_some_iff.mp H
   replace H : (some (t, (u == 0))) = some (r1, r2) := H
   have A6 := Aside0.mk A60
   clear A60
   simp only [Option.some.injEq, Prod.mk.injEq] at H
   obtain ⟨rfl, rfl⟩ := H
   have hm : decide (12 < wrap64 (m + a1)) = true := decide_eq_true c5
   clear c5
   go_enter Try.func43, Try.ntmps43
   go_wp2_with fail
   refine (civil_Of.calls a0 y m d hh mi s n 0 _ A3.out).mono ?_
   rintro e w1 ⟨rfl, hb1⟩
   have HB1 := Aside0.mk hb1
   clear hb1
   go_wp2_with fail
   refine (civil_Seconds.calls (wrap64 (y + 1)) 1 1 0 0 0 0 t u _ A6.out).mono ?_
   rintro e w2 ⟨rfl, hb2⟩
   have HB2 := Aside0.mk (below_step (below_alloc HB1.out _) hb2)
   clear hb2
   go_wp2
   go_ret2
   exact ⟨rfl, HB2.out⟩
  ·rw [if_neg c5] at H
   obtain ⟨⟨t, u⟩, A60, H⟩ := Option.bind_eq_some_iff.mp H
   replace H : (some (t, (u == 0))) = some (r1, r2) := H
   have A6 := Aside0.mk A60
   clear A60
   simp only [Option.some.injEq, Prod.mk.injEq] at H
   obtain ⟨rfl, rfl⟩ := H
   have hm : decide (12 < wrap64 (m + a1)) = false := decide_eq_false c5
   clear c5
   go_enter Try.func43, Try.ntmps43
   go_wp2_with fail
   refine (civil_Of.calls a0 y m d hh mi s n 0 _ A3.out).mono ?_
   rintro e w1 ⟨rfl, hb1⟩
   have HB1 := Aside0.mk hb1
   clear hb1
   go_wp2_with fail
   refine (civil_Seconds.calls y (wrap64 (m + a1)) 1 0 0 0 0 t u _ A6.out).mono ?_
   rintro e w2 ⟨rfl, hb2⟩
   have HB2 := Aside0.mk (below_step (below_alloc HB1.out _) hb2)
   clear hb2
   go_wp2
   go_ret2
   exact ⟨rfl, HB2.out⟩
 ·rw [if_neg c4] at H
  simp only [Option.some.injEq, Prod.mk.injEq] at H
  obtain ⟨rfl, rfl⟩ := H
  have hq : (q != 0) = true := by simpa using c4
  go_enter Try.func43, Try.ntmps43
  go_wp2_with fail
  refine (civil_Of.calls a0 y m d hh mi s n q _ A3.out).mono ?_
  rintro e w1 ⟨rfl, hb1⟩
  go_wp2
  go_ret2
  exact ⟨rfl, below_alloc hb1 _⟩

end Go.Proofs.Ytljbajnmkkebkaa.All
