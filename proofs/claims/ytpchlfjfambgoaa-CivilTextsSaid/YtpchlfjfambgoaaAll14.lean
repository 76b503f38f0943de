/- What the Go functions named below answer, each as a plain Lean function, and that its call comes to just that answer. No condition. Written by a program of this session (wip/myprint.py), which runs the kit's print with changes of its own. -/
import Derived.Test.YtpchlfjfambgoaaAll0
import Derived.Test.YtpchlfjfambgoaaAll1
import Derived.Test.YtpchlfjfambgoaaAll2
import Derived.Test.YtpchlfjfambgoaaAll4
import Derived.Test.YtpchlfjfambgoaaAll5
import Derived.Test.YtpchlfjfambgoaaAll12
namespace Go.Proofs.Ytpchlfjfambgoaa.All
open Go.RowKit Go.Proofs.YtpchlfjfambgoaaW.PrintWords Go.Proofs.YtpchlfjfambgoaaW.PrintLast Go.Proofs.YtpchlfjfambgoaaW.PrintMore
attribute [local go_sem] max2_int min2_int max_two min_two max_three min_three max_four min_four   -- for this text's walks alone
set_option linter.unusedVariables false
set_option linter.unusedSimpArgs false

/-! ### civil_Seconds: function 25 (typed by hand) -/
def civil_Seconds.f (a0_0 : Int) (a0_1 : Int) (a0_2 : Int) (a0_3 : Int) (a0_4 : Int) (a0_5 : Int) (a0_6 : Int) : Option (Int × Int) := (civil_Check.f a0_0 a0_1 a0_2 a0_3 a0_4 a0_5 a0_6).bind fun t106 => (if t106 = 0 then (if (wrap64 (a0_1 - 3)) < 0 then (if (wrap64 ((wrap64 ((wrap64 ((wrap64 ((wrap64 ((wrap64 ((wrap64 ((wrap64 ((wrap64 ((wrap64 ((wrap64 ((-693901) + (wrap64 (365 * (wrap64 (a0_0 - 1)))))) + (wrap64 (Int.tdiv (wrap64 (a0_0 - 1)) 4)))) - (wrap64 (Int.tdiv (wrap64 (a0_0 - 1)) 100)))) + (wrap64 (Int.tdiv (wrap64 (a0_0 - 1)) 400)))) + (wrap64 (Int.tdiv (wrap64 ((wrap64 (153 * (wrap64 ((wrap64 (a0_1 - 3)) + 12)))) + 2)) 5)))) + a0_2)) - 1)) * 86400)) + (wrap64 (a0_3 * 3600)))) + (wrap64 (a0_4 * 60)))) + a0_5)) < (-8000000000) then (some (0, 3)) else (if (wrap64 ((wrap64 ((wrap64 ((wrap64 ((wrap64 ((wrap64 ((wrap64 ((wrap64 ((wrap64 ((wrap64 ((wrap64 ((-693901) + (wrap64 (365 * (wrap64 (a0_0 - 1)))))) + (wrap64 (Int.tdiv (wrap64 (a0_0 - 1)) 4)))) - (wrap64 (Int.tdiv (wrap64 (a0_0 - 1)) 100)))) + (wrap64 (Int.tdiv (wrap64 (a0_0 - 1)) 400)))) + (wrap64 (Int.tdiv (wrap64 ((wrap64 (153 * (wrap64 ((wrap64 (a0_1 - 3)) + 12)))) + 2)) 5)))) + a0_2)) - 1)) * 86400)) + (wrap64 (a0_3 * 3600)))) + (wrap64 (a0_4 * 60)))) + a0_5)) > 8000000000 then (some (0, 3)) else (some (wrap64 ((wrap64 ((wrap64 ((wrap64 ((wrap64 ((wrap64 ((wrap64 ((wrap64 ((wrap64 ((wrap64 ((wrap64 ((-693901) + (wrap64 (365 * (wrap64 (a0_0 - 1)))))) + (wrap64 (Int.tdiv (wrap64 (a0_0 - 1)) 4)))) - (wrap64 (Int.tdiv (wrap64 (a0_0 - 1)) 100)))) + (wrap64 (Int.tdiv (wrap64 (a0_0 - 1)) 400)))) + (wrap64 (Int.tdiv (wrap64 ((wrap64 (153 * (wrap64 ((wrap64 (a0_1 - 3)) + 12)))) + 2)) 5)))) + a0_2)) - 1)) * 86400)) + (wrap64 (a0_3 * 3600)))) + (wrap64 (a0_4 * 60)))) + a0_5), 0)))) else (if (wrap64 ((wrap64 ((wrap64 ((wrap64 ((wrap64 ((wrap64 ((wrap64 ((wrap64 ((wrap64 ((wrap64 ((wrap64 ((-693901) + (wrap64 (365 * a0_0)))) + (wrap64 (Int.tdiv a0_0 4)))) - (wrap64 (Int.tdiv a0_0 100)))) + (wrap64 (Int.tdiv a0_0 400)))) + (wrap64 (Int.tdiv (wrap64 ((wrap64 (153 * (wrap64 (a0_1 - 3)))) + 2)) 5)))) + a0_2)) - 1)) * 86400)) + (wrap64 (a0_3 * 3600)))) + (wrap64 (a0_4 * 60)))) + a0_5)) < (-8000000000) then (some (0, 3)) else (if (wrap64 ((wrap64 ((wrap64 ((wrap64 ((wrap64 ((wrap64 ((wrap64 ((wrap64 ((wrap64 ((wrap64 ((wrap64 ((-693901) + (wrap64 (365 * a0_0)))) + (wrap64 (Int.tdiv a0_0 4)))) - (wrap64 (Int.tdiv a0_0 100)))) + (wrap64 (Int.tdiv a0_0 400)))) + (wrap64 (Int.tdiv (wrap64 ((wrap64 (153 * (wrap64 (a0_1 - 3)))) + 2)) 5)))) + a0_2)) - 1)) * 86400)) + (wrap64 (a0_3 * 3600)))) + (wrap64 (a0_4 * 60)))) + a0_5)) > 8000000000 then (some (0, 3)) else (some (wrap64 ((wrap64 ((wrap64 ((wrap64 ((wrap64 ((wrap64 ((wrap64 ((wrap64 ((wrap64 ((wrap64 ((wrap64 ((-693901) + (wrap64 (365 * a0_0)))) + (wrap64 (Int.tdiv a0_0 4)))) - (wrap64 (Int.tdiv a0_0 100)))) + (wrap64 (Int.tdiv a0_0 400)))) + (wrap64 (Int.tdiv (wrap64 ((wrap64 (153 * (wrap64 (a0_1 - 3)))) + 2)) 5)))) + a0_2)) - 1)) * 86400)) + (wrap64 (a0_3 * 3600)))) + (wrap64 (a0_4 * 60)))) + a0_5), 0))))) else (some (0, t106)))
set_option maxHeartbeats 3200000 in
set_option maxRecDepth 100000 in
theorem civil_Seconds.calls (a0_0 : Int) (a0_1 : Int) (a0_2 : Int) (a0_3 : Int) (a0_4 : Int) (a0_5 : Int) (a0_6 : Int) (r1 : Int) (r2 : Int) (w : World) (h : civil_Seconds.f a0_0 a0_1 a0_2 a0_3 a0_4 a0_5 a0_6 = some (r1, r2)) :
  Calls Try.prog 25 #[.agg #[.int .i64 a0_0, .int .i64 a0_1, .int .i64 a0_2, .int .i64 a0_3, .int .i64 a0_4, .int .i64 a0_5, .int .i64 a0_6]] w fun e w' => e = .returned (.tuple #[.int .i64 r1, .int .i64 r2]) ∧ Below w.heap.size w w' := by
 have hu := Try.underlying23
 unfold civil_Seconds.f at h
 obtain ⟨e0, A0, H⟩ := Option.bind_eq_some_iff.mp h
 clear h
 have A1 := Aside0.mk A0
 clear A0
 have HS : Aside0 (Below w.heap.size w (w.alloc (.cells #[.int .i64 a0_0, .int .i64 a0_1, .int .i64 a0_2, .int .i64 a0_3, .int .i64 a0_4, .int .i64 a0_5, .int .i64 a0_6] 23))) := ⟨below_alloc (Below.refl _ _) _⟩
 have BK := Aside0.mk (blk_new w (.cells #[.int .i64 a0_0, .int .i64 a0_1, .int .i64 a0_2, .int .i64 a0_3, .int .i64 a0_4, .int .i64 a0_5, .int .i64 a0_6] 23))
 by_cases c0 : e0 = 0
 ·rw [if_pos c0] at H
  subst c0
  by_cases c1 : wrap64 (a0_1 - 3) < 0
  ·rw [if_pos c1] at H
   have c1b := decide_eq_true c1
   clear c1
   split at H
   ·rename_i c2
    have c2b := decide_eq_true c2
    clear c2
    simp only [Option.some.injEq, Prod.mk.injEq] at H
    obtain ⟨rfl, rfl⟩ := H
    go_enter Try.func25, Try.ntmps25
    go_wp2_with fail
    refine (civil_Check.calls a0_0 a0_1 a0_2 a0_3 a0_4 a0_5 a0_6 0 _ A1.out).mono ?_
    rintro e w1 ⟨rfl, hb1⟩
    have HB := Aside0.mk (below_step HS.out hb1)
    have B1 := Aside0.mk (blk_below BK.out hb1)
    clear hb1
    have k0 := blk_cell B1.out 0
    have k1 := blk_cell B1.out 1
    have k2 := blk_cell B1.out 2
    have k3 := blk_cell B1.out 3
    have k4 := blk_cell B1.out 4
    have k5 := blk_cell B1.out 5
    go_wp2_with fail
    go_quiet (fail)
    go_wp2
    go_ret2
    exact ⟨rfl, pw_below_drewN HB.out _⟩
   ·rename_i c2
    have c2b := decide_eq_false c2
    clear c2
    split at H
    ·rename_i c3
     have c3b : decide ((8000000000 : Int) < _) = true := decide_eq_true c3
     clear c3
     simp only [Option.some.injEq, Prod.mk.injEq] at H
     obtain ⟨rfl, rfl⟩ := H
     go_enter Try.func25, Try.ntmps25
     go_wp2_with fail
     refine (civil_Check.calls a0_0 a0_1 a0_2 a0_3 a0_4 a0_5 a0_6 0 _ A1.out).mono ?_
     rintro e w1 ⟨rfl, hb1⟩
     have HB := Aside0.mk (below_step HS.out hb1)
     have B1 := Aside0.mk (blk_below BK.out hb1)
     clear hb1
     have k0 := blk_cell B1.out 0
     have k1 := blk_cell B1.out 1
     have k2 := blk_cell B1.out 2
     have k3 := blk_cell B1.out 3
     have k4 := blk_cell B1.out 4
     have k5 := blk_cell B1.out 5
     go_wp2_with fail
     go_quiet (fail)
     go_wp2
     go_ret2
     exact ⟨rfl, pw_below_drewN HB.out _⟩
    ·rename_i c3
     have c3b : decide ((8000000000 : Int) < _) = false := decide_eq_false c3
     clear c3
     simp only [Option.some.injEq, Prod.mk.injEq] at H
     obtain ⟨rfl, rfl⟩ := H
     go_enter Try.func25, Try.ntmps25
     go_wp2_with fail
     refine (civil_Check.calls a0_0 a0_1 a0_2 a0_3 a0_4 a0_5 a0_6 0 _ A1.out).mono ?_
     rintro e w1 ⟨rfl, hb1⟩
     have HB := Aside0.mk (below_step HS.out hb1)
     have B1 := Aside0.mk (blk_below BK.out hb1)
     clear hb1
     have k0 := blk_cell B1.out 0
     have k1 := blk_cell B1.out 1
     have k2 := blk_cell B1.out 2
     have k3 := blk_cell B1.out 3
     have k4 := blk_cell B1.out 4
     have k5 := blk_cell B1.out 5
     go_wp2_with fail
     go_quiet (fail)
     go_wp2
     go_ret2
     exact ⟨rfl, pw_below_drewN HB.out _⟩
  ·rw [if_neg c1] at H
   have c1b := decide_eq_false c1
   clear c1
   split at H
   ·rename_i c2
    have c2b := decide_eq_true c2
    clear c2
    simp only [Option.some.injEq, Prod.mk.injEq] at H
    obtain ⟨rfl, rfl⟩ := H
    go_enter Try.func25, Try.ntmps25
    go_wp2_with fail
    refine (civil_Check.calls a0_0 a0_1 a0_2 a0_3 a0_4 a0_5 a0_6 0 _ A1.out).mono ?_
    rintro e w1 ⟨rfl, hb1⟩
    have HB := Aside0.mk (below_step HS.out hb1)
    have B1 := Aside0.mk (blk_below BK.out hb1)
    clear hb1
    have k0 := blk_cell B1.out 0
    have k1 := blk_cell B1.out 1
    have k2 := blk_cell B1.out 2
    have k3 := blk_cell B1.out 3
    have k4 := blk_cell B1.out 4
    have k5 := blk_cell B1.out 5
    go_wp2_with fail
    go_quiet (fail)
    go_wp2
    go_ret2
    exact ⟨rfl, pw_below_drewN HB.out _⟩
   ·rename_i c2
    have c2b := decide_eq_false c2
    clear c2
    split at H
    ·rename_i c3
     have c3b : decide ((8000000000 : Int) < _) = true := decide_eq_true c3
     clear c3
     simp only [Option.some.injEq, Prod.mk.injEq] at H
     obtain ⟨rfl, rfl⟩ := H
     go_enter Try.func25, Try.ntmps25
     go_wp2_with fail
     refine (civil_Check.calls a0_0 a0_1 a0_2 a0_3 a0_4 a0_5 a0_6 0 _ A1.out).mono ?_
     rintro e w1 ⟨rfl, hb1⟩
     have HB := Aside0.mk (below_step HS.out hb1)
     have B1 := Aside0.mk (blk_below BK.out hb1)
     clear hb1
     have k0 := blk_cell B1.out 0
     have k1 := blk_cell B1.out 1
     have k2 := blk_cell B1.out 2
     have k3 := blk_cell B1.out 3
     have k4 := blk_cell B1.out 4
     have k5 := blk_cell B1.out 5
     go_wp2_with fail
     go_quiet (fail)
     go_wp2
     go_ret2
     exact ⟨rfl, pw_below_drewN HB.out _⟩
    ·rename_i c3
     have c3b : decide ((8000000000 : Int) < _) = false := decide_eq_false c3
     clear c3
     simp only [Option.some.injEq, Prod.mk.injEq] at H
     obtain ⟨rfl, rfl⟩ := H
     go_enter Try.func25, Try.ntmps25
     go_wp2_with fail
     refine (civil_Check.calls a0_0 a0_1 a0_2 a0_3 a0_4 a0_5 a0_6 0 _ A1.out).mono ?_
     rintro e w1 ⟨rfl, hb1⟩
     have HB := Aside0.mk (below_step HS.out hb1)
     have B1 := Aside0.mk (blk_below BK.out hb1)
     clear hb1
     have k0 := blk_cell B1.out 0
     have k1 := blk_cell B1.out 1
     have k2 := blk_cell B1.out 2
     have k3 := blk_cell B1.out 3
     have k4 := blk_cell B1.out 4
     have k5 := blk_cell B1.out 5
     go_wp2_with fail
     go_quiet (fail)
     go_wp2
     go_ret2
     exact ⟨rfl, pw_below_drewN HB.out _⟩
 ·rw [if_neg c0] at H
  simp only [Option.some.injEq, Prod.mk.injEq] at H
  obtain ⟨rfl, rfl⟩ := H
  have hq : (e0 != 0) = true := by simpa using c0
  go_enter Try.func25, Try.ntmps25
  go_wp2_with fail
  refine (civil_Check.calls a0_0 a0_1 a0_2 a0_3 a0_4 a0_5 a0_6 e0 _ A1.out).mono ?_
  rintro e w1 ⟨rfl, hb1⟩
  have HB := Aside0.mk (below_step HS.out hb1)
  clear hb1
  go_wp2
  go_ret2
  exact ⟨rfl, HB.out⟩

end Go.Proofs.Ytpchlfjfambgoaa.All
