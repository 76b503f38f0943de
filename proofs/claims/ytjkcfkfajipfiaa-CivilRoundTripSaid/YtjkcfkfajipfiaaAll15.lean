/- What the Go functions named below answer, each as a plain Lean function, and that its call comes to just that answer. No condition. Written by a program of this session (wip/myprint.py), which runs the kit's print with changes of its own. -/
import Derived.Test.YtjkcfkfajipfiaaAll0
import Derived.Test.YtjkcfkfajipfiaaAll1
import Derived.Test.YtjkcfkfajipfiaaAll2
import Derived.Test.YtjkcfkfajipfiaaAll4
import Derived.Test.YtjkcfkfajipfiaaAll5
import Derived.Test.YtjkcfkfajipfiaaAll12
namespace Go.Proofs.Ytjkcfkfajipfiaa.All
open Go.RowKit Go.Proofs.YtjkcfkfajipfiaaW.PrintWords Go.Proofs.YtjkcfkfajipfiaaW.PrintLast Go.Proofs.YtjkcfkfajipfiaaW.PrintMore
attribute [local go_sem] max2_int min2_int max_two min_two max_three min_three max_four min_four   -- for this text's walks alone
set_option linter.unusedVariables false
set_option linter.unusedSimpArgs false

attribute [local go_sem high] eqA23
/-! ### timesynclaw05_CivilRoundTrip: function 10 -/
mutual
def timesynclaw05_CivilRoundTrip.j0 : Nat → Int → Int → Bool → Int → Int → Int → Int → Int → Int → Int → Int → Int → Int → Int → Int → Int → Int → Option (Bool)
  | 0, _, _, _, _, _, _, _, _, _, _, _, _, _, _, _, _, _ => none
  | k + 1, x0, x6, x23, x282000, x282001, x282002, x282003, x282004, x282005, x282006, x291000, x291001, x291002, x291003, x291004, x291005, x291006 => if x23 = true then (if x6 = 3 then (if (!(x291000 == 0) || (!(x291001 == 0) || (!(x291002 == 0) || (!(x291003 == 0) || (!(x291004 == 0) || (!(x291005 == 0) || (!(x291006 == 0)))))))) = true then (some false) else (timesynclaw05_CivilRoundTrip.j1 k x282000 x282001 x282002 x282003 x282004 x282005 x282006)) else (some false)) else ((civil_Seconds.f x291000 x291001 x291002 x291003 x291004 x291005 x291006).bind fun bt291 => (if x6 = 0 then (if x291006 = 0 then ((civil_Check.f x291000 x291001 x291002 x291003 x291004 x291005 x291006).bind fun t293 => (if t293 = 0 then (if bt291.1 = x0 then (if bt291.2 = 0 then (timesynclaw05_CivilRoundTrip.j1 k x282000 x282001 x282002 x282003 x282004 x282005 x282006) else (some false)) else (some false)) else (some false))) else (some false)) else (some false)))
def timesynclaw05_CivilRoundTrip.j1 : Nat → Int → Int → Int → Int → Int → Int → Int → Option (Bool)
  | 0, _, _, _, _, _, _, _ => none
  | k + 1, x282000, x282001, x282002, x282003, x282004, x282005, x282006 => (civil_Seconds.f x282000 x282001 x282002 x282003 x282004 x282005 x282006).bind fun bt294 => (if bt294.2 = 0 then ((civil_Of.f bt294.1).bind fun bt296 => (if (bt296.1 == x282000 && (bt296.2.1 == x282001 && (bt296.2.2.1 == x282002 && (bt296.2.2.2.1 == x282003 && (bt296.2.2.2.2.1 == x282004 && (bt296.2.2.2.2.2.1 == x282005 && (bt296.2.2.2.2.2.2.1 == 0))))))) = true then (if bt296.2.2.2.2.2.2.2 = 0 then ((timesynclaw05_awake.f).bind fun t305 => (some t305)) else (some false)) else (some false))) else (if bt294.1 = 0 then (if bt294.2 = 3 then ((timesynclaw05_awake.f).bind fun t306 => (some t306)) else (some false)) else (some false)))
end
def timesynclaw05_CivilRoundTrip.f (k : Nat) (a0 : Int) (a1_0 : Int) (a1_1 : Int) (a1_2 : Int) (a1_3 : Int) (a1_4 : Int) (a1_5 : Int) (a1_6 : Int) : Option (Bool) := (civil_Of.f a0).bind fun bt282 => (if a0 < (-8000000000) then (timesynclaw05_CivilRoundTrip.j0 k a0 bt282.2.2.2.2.2.2.2 true a1_0 a1_1 a1_2 a1_3 a1_4 a1_5 a1_6 bt282.1 bt282.2.1 bt282.2.2.1 bt282.2.2.2.1 bt282.2.2.2.2.1 bt282.2.2.2.2.2.1 bt282.2.2.2.2.2.2.1) else (timesynclaw05_CivilRoundTrip.j0 k a0 bt282.2.2.2.2.2.2.2 (decide (a0 > 8000000000)) a1_0 a1_1 a1_2 a1_3 a1_4 a1_5 a1_6 bt282.1 bt282.2.1 bt282.2.2.1 bt282.2.2.2.1 bt282.2.2.2.2.1 bt282.2.2.2.2.2.1 bt282.2.2.2.2.2.2.1))
theorem timesynclaw05_CivilRoundTrip.mono_l : ∀ k, (∀ y0 y1 y2 y3 y4 y5 y6 y7 y8 y9 y10 y11 y12 y13 y14 y15 y16, LeO (timesynclaw05_CivilRoundTrip.j0 k y0 y1 y2 y3 y4 y5 y6 y7 y8 y9 y10 y11 y12 y13 y14 y15 y16) (timesynclaw05_CivilRoundTrip.j0 (k + 1) y0 y1 y2 y3 y4 y5 y6 y7 y8 y9 y10 y11 y12 y13 y14 y15 y16)) ∧ (∀ y0 y1 y2 y3 y4 y5 y6, LeO (timesynclaw05_CivilRoundTrip.j1 k y0 y1 y2 y3 y4 y5 y6) (timesynclaw05_CivilRoundTrip.j1 (k + 1) y0 y1 y2 y3 y4 y5 y6))
  | 0 => ⟨fun _ _ _ _ _ _ _ _ _ _ _ _ _ _ _ _ _ r h => by simp [timesynclaw05_CivilRoundTrip.j0] at h, fun _ _ _ _ _ _ _ r h => by simp [timesynclaw05_CivilRoundTrip.j1] at h⟩
  | k + 1 => by
    obtain ⟨ih0, ih1⟩ := timesynclaw05_CivilRoundTrip.mono_l k
    refine ⟨?_, ?_⟩
    · intro y0 y1 y2 y3 y4 y5 y6 y7 y8 y9 y10 y11 y12 y13 y14 y15 y16
      unfold timesynclaw05_CivilRoundTrip.j0
      repeat' first
      | (with_reducible exact ih0 _ _ _ _ _ _ _ _ _ _ _ _ _ _ _ _ _)
      | (with_reducible exact ih1 _ _ _ _ _ _ _)
      | (with_reducible exact LeO.refl _)
      | (with_reducible exact LeO.none _)
      | (with_reducible refine LeO.ite ?_ ?_)
      | (with_reducible refine LeO.bind ?_ (fun _ => ?_))
      | exact ih0 _ _ _ _ _ _ _ _ _ _ _ _ _ _ _ _ _
      | exact ih1 _ _ _ _ _ _ _
      | exact LeO.none _
      | refine LeO.ite ?_ ?_
      | refine LeO.bind ?_ (fun _ => ?_)
    · intro y0 y1 y2 y3 y4 y5 y6
      unfold timesynclaw05_CivilRoundTrip.j1
      repeat' first
      | (with_reducible exact ih0 _ _ _ _ _ _ _ _ _ _ _ _ _ _ _ _ _)
      | (with_reducible exact ih1 _ _ _ _ _ _ _)
      | (with_reducible exact LeO.refl _)
      | (with_reducible exact LeO.none _)
      | (with_reducible refine LeO.ite ?_ ?_)
      | (with_reducible refine LeO.bind ?_ (fun _ => ?_))
      | exact ih0 _ _ _ _ _ _ _ _ _ _ _ _ _ _ _ _ _
      | exact ih1 _ _ _ _ _ _ _
      | exact LeO.none _
      | refine LeO.ite ?_ ?_
      | refine LeO.bind ?_ (fun _ => ?_)
theorem timesynclaw05_CivilRoundTrip.mono : ∀ a0 a1 a2 a3 a4 a5 a6 a7 k, LeO (timesynclaw05_CivilRoundTrip.f k a0 a1 a2 a3 a4 a5 a6 a7) (timesynclaw05_CivilRoundTrip.f (k + 1) a0 a1 a2 a3 a4 a5 a6 a7) := by
  intro a0 a1 a2 a3 a4 a5 a6 a7 k
  obtain ⟨ih0, ih1⟩ := timesynclaw05_CivilRoundTrip.mono_l k
  unfold timesynclaw05_CivilRoundTrip.f
  repeat' first
      | (with_reducible exact ih0 _ _ _ _ _ _ _ _ _ _ _ _ _ _ _ _ _)
      | (with_reducible exact ih1 _ _ _ _ _ _ _)
      | (with_reducible exact LeO.refl _)
      | (with_reducible exact LeO.none _)
      | (with_reducible refine LeO.ite ?_ ?_)
      | (with_reducible refine LeO.bind ?_ (fun _ => ?_))
      | exact ih0 _ _ _ _ _ _ _ _ _ _ _ _ _ _ _ _ _
      | exact ih1 _ _ _ _ _ _ _
      | exact LeO.none _
      | refine LeO.ite ?_ ?_
      | refine LeO.bind ?_ (fun _ => ?_)
set_option maxHeartbeats 8000000 in
set_option maxRecDepth 100000 in
theorem timesynclaw05_CivilRoundTrip.calls (k : Nat) (a0 : Int) (a1_0 : Int) (a1_1 : Int) (a1_2 : Int) (a1_3 : Int) (a1_4 : Int) (a1_5 : Int) (a1_6 : Int) (r : Bool) (w : World) (h : timesynclaw05_CivilRoundTrip.f k a0 a1_0 a1_1 a1_2 a1_3 a1_4 a1_5 a1_6 = some r) :
    Calls Try.prog 10 #[.int .i64 a0, .agg #[.int .i64 a1_0, .int .i64 a1_1, .int .i64 a1_2, .int .i64 a1_3, .int .i64 a1_4, .int .i64 a1_5, .int .i64 a1_6]] w fun e w' => e = .returned (.bool r) ∧ Below w.heap.size w w' := by
  have hu23 := Try.underlying23
  have HB := Aside0.mk (Below.refl w.heap.size w)
  have H : ((civil_Of.f a0).bind fun bt282 => (if a0 < (-8000000000) then (timesynclaw05_CivilRoundTrip.j0 k a0 bt282.2.2.2.2.2.2.2 true a1_0 a1_1 a1_2 a1_3 a1_4 a1_5 a1_6 bt282.1 bt282.2.1 bt282.2.2.1 bt282.2.2.2.1 bt282.2.2.2.2.1 bt282.2.2.2.2.2.1 bt282.2.2.2.2.2.2.1) else (timesynclaw05_CivilRoundTrip.j0 k a0 bt282.2.2.2.2.2.2.2 (decide (a0 > 8000000000)) a1_0 a1_1 a1_2 a1_3 a1_4 a1_5 a1_6 bt282.1 bt282.2.1 bt282.2.2.1 bt282.2.2.2.1 bt282.2.2.2.2.1 bt282.2.2.2.2.2.1 bt282.2.2.2.2.2.2.1))) = some r := h
  clear h
  replace H := Option.bind_eq_some_iff.mp H
  obtain ⟨⟨t282, t283, t284, t285, t286, t287, t288, t289⟩, A30, H⟩ := H
  replace H : (if a0 < (-8000000000) then (timesynclaw05_CivilRoundTrip.j0 k a0 t289 true a1_0 a1_1 a1_2 a1_3 a1_4 a1_5 a1_6 t282 t283 t284 t285 t286 t287 t288) else (timesynclaw05_CivilRoundTrip.j0 k a0 t289 (decide (a0 > 8000000000)) a1_0 a1_1 a1_2 a1_3 a1_4 a1_5 a1_6 t282 t283 t284 t285 t286 t287 t288)) = some r := H
  have A3 := Aside0.mk A30
  clear A30
  have HC4 := Aside0.mk H
  clear H
  go_enter Try.func10, Try.ntmps10
  go_upto_region 2 with (first | ((with_reducible refine gate_dst (N := 3) rfl ?_); refine box_event ?hg (N := 3) ?hd (cs := #[.int .i64 a1_0, .int .i64 a1_1, .int .i64 a1_2, .int .i64 a1_3, .int .i64 a1_4, .int .i64 a1_5, .int .i64 a1_6]) (t := 23) ?hr ?_; (case hd => rfl); (case hg => rfl); (case hr => first | (go_simp; done) | (go_simp; rfl)); intro gb281 hg w5 hbox hb; have n0_ := Aside0.mk (below_step (by repeat (first | (with_reducible first | exact HB.out | apply below_alloc | apply pw_below_drewN | apply below_drew1) | exact HB.out)) hb); have n1_ := Aside0.mk (hbox); have n2_ := Aside0.mk ((by rw [hg]; exact (below_size (by repeat (first | (with_reducible first | exact HB.out | apply below_alloc | apply pw_below_drewN | apply below_drew1) | exact HB.out))) : w.heap.size ≤ gb281)); have n3_ := Aside0.mk ((by rw [hg]; exact (below_size (by repeat (first | (with_reducible first | exact HB.out | apply below_alloc | apply pw_below_drewN | apply below_drew1) | exact HB.out))) : w.heap.size ≤ gb281)); clear HB; have HB := n0_; have BK281 := n1_; have GW281 := n2_; have GE281 := n3_; clear n0_ n1_ n2_ n3_; clear hb hbox hg) | ((with_reducible refine gate_callee (f := 11) rfl ?_); refine goesL_ (some 15) rfl rfl Try.func11 (by kernel_rfl) rfl #[.int .i64 a0] rfl (by (try simp only [List.map_toArray, List.map_cons, List.map_nil]); first | done | rfl | (simp only [List.length_drop, List.length_take]; rfl)) ?_; (with_reducible refine (civil_Of.calls a0 t282 t283 t284 t285 t286 t287 t288 t289 _ A3.out).mono ?_); rintro e w6 ⟨rfl, hb⟩; refine ⟨_, rfl, ?_⟩; have n0_ := Aside0.mk (blk_below (g := gb281) (o := .cells #[.int .i64 a1_0, .int .i64 a1_1, .int .i64 a1_2, .int .i64 a1_3, .int .i64 a1_4, .int .i64 a1_5, .int .i64 a1_6] 23 (0, 0)) (by (with_reducible repeat (first | refine blk_drewN ?_ _ | refine blk_drew ?_ | refine blk_alloc ?_ _)); exact BK281.out) hb); have n1_ := Aside0.mk (below_step (by repeat (first | (with_reducible first | exact HB.out | apply below_alloc | apply pw_below_drewN | apply below_drew1 | refine below_set ?_ GE281.out) | exact HB.out)) hb); clear BK281; clear HB; have BK281 := n0_; have HB := n1_; clear n0_ n1_; (try clear hb); (try clear hb2); (try clear hk); (try clear hi)) | ((with_reducible refine gate_dst (N := 5) rfl ?_); refine box_event ?hg (N := 5) ?hd (cs := #[.int .i64 0, .int .i64 0, .int .i64 0, .int .i64 0, .int .i64 0, .int .i64 0, .int .i64 0]) (t := 23) ?hr ?_; (case hd => rfl); (case hg => rfl); (case hr => first | (go_simp; done) | (go_simp; rfl)); intro gb290 hg w7 hbox hb; have n0_ := Aside0.mk (blk_below (g := gb281) (o := .cells #[.int .i64 a1_0, .int .i64 a1_1, .int .i64 a1_2, .int .i64 a1_3, .int .i64 a1_4, .int .i64 a1_5, .int .i64 a1_6] 23 (0, 0)) (by (with_reducible repeat (first | refine blk_drewN ?_ _ | refine blk_drew ?_ | refine blk_alloc ?_ _)); exact BK281.out) hb); have n1_ := Aside0.mk (below_step (by repeat (first | (with_reducible first | exact HB.out | apply below_alloc | apply pw_below_drewN | apply below_drew1 | refine below_set ?_ GE281.out) | exact HB.out)) hb); have n2_ := Aside0.mk (hbox); have n3_ := Aside0.mk ((by rw [hg]; exact (below_size (by repeat (first | (with_reducible first | exact HB.out | apply below_alloc | apply pw_below_drewN | apply below_drew1 | refine below_set ?_ GE281.out) | exact HB.out))) : w.heap.size ≤ gb290)); have n4_ := Aside0.mk ((by rw [hg]; exact (below_size (by repeat (first | (with_reducible first | exact HB.out | apply below_alloc | apply pw_below_drewN | apply below_drew1 | refine below_set ?_ GE281.out) | exact HB.out))) : w.heap.size ≤ gb290)); have n5_ := Aside0.mk ((by rw [hg]; exact Nat.ne_of_lt (blk_lt (g := gb281) (o := .cells #[.int .i64 a1_0, .int .i64 a1_1, .int .i64 a1_2, .int .i64 a1_3, .int .i64 a1_4, .int .i64 a1_5, .int .i64 a1_6] 23 (0, 0)) (by (with_reducible repeat (first | refine blk_drewN ?_ _ | refine blk_drew ?_ | refine blk_alloc ?_ _)); exact BK281.out)) : gb281 ≠ gb290)); have n6_ := Aside0.mk ((by rw [hg]; exact Nat.ne_of_gt (blk_lt (g := gb281) (o := .cells #[.int .i64 a1_0, .int .i64 a1_1, .int .i64 a1_2, .int .i64 a1_3, .int .i64 a1_4, .int .i64 a1_5, .int .i64 a1_6] 23 (0, 0)) (by (with_reducible repeat (first | refine blk_drewN ?_ _ | refine blk_drew ?_ | refine blk_alloc ?_ _)); exact BK281.out)) : gb290 ≠ gb281)); clear BK281; clear HB; have BK281 := n0_; have HB := n1_; have BK290 := n2_; have GW290 := n3_; have GE290 := n4_; have NB281_290 := n5_; have NB290_281 := n6_; clear n0_ n1_ n2_ n3_ n4_ n5_ n6_; clear hb hbox hg; have hnb8 := NB290_281.out; have hnc8 := NB281_290.out; have hcz9_0 : w7.cell? ⟨gb290, 0, none⟩ = some (.int .i64 0) := (blk_cell BK290.out 0).trans rfl; have hcz9_1 : w7.cell? ⟨gb290, 1, none⟩ = some (.int .i64 0) := (blk_cell BK290.out 1).trans rfl; have hcz9_2 : w7.cell? ⟨gb290, 2, none⟩ = some (.int .i64 0) := (blk_cell BK290.out 2).trans rfl; have hcz9_3 : w7.cell? ⟨gb290, 3, none⟩ = some (.int .i64 0) := (blk_cell BK290.out 3).trans rfl; have hcz9_4 : w7.cell? ⟨gb290, 4, none⟩ = some (.int .i64 0) := (blk_cell BK290.out 4).trans rfl; have hcz9_5 : w7.cell? ⟨gb290, 5, none⟩ = some (.int .i64 0) := (blk_cell BK290.out 5).trans rfl; have hcz9_6 : w7.cell? ⟨gb290, 6, none⟩ = some (.int .i64 0) := (blk_cell BK290.out 6).trans rfl; have hfz9_0 := blk_frozen BK290.out 0; have hfz9_1 := blk_frozen BK290.out 1; have hfz9_2 := blk_frozen BK290.out 2; have hfz9_3 := blk_frozen BK290.out 3; have hfz9_4 := blk_frozen BK290.out 4; have hfz9_5 := blk_frozen BK290.out 5; have hfz9_6 := blk_frozen BK290.out 6))
  (try simp only [Act.put, List.setIfInBounds_toArray, List.set_cons_zero, List.set_cons_succ])
  go_cut [23] (fun v23 wc => ∃ (kq : Nat) (x23_3 : Bool), v23 = .bool x23_3 ∧ Aside0 (timesynclaw05_CivilRoundTrip.j0 kq a0 t289 x23_3 a1_0 a1_1 a1_2 a1_3 a1_4 a1_5 a1_6 t282 t283 t284 t285 t286 t287 t288 = some r) ∧ Aside0 (kq ≤ k) ∧ Aside0 (wc.heap[gb281]? = some (.cells #[.int .i64 a1_0, .int .i64 a1_1, .int .i64 a1_2, .int .i64 a1_3, .int .i64 a1_4, .int .i64 a1_5, .int .i64 a1_6] 23 (0, 0))) ∧ Aside0 (wc.heap[gb290]? = some (.cells #[.int .i64 t282, .int .i64 t283, .int .i64 t284, .int .i64 t285, .int .i64 t286, .int .i64 t287, .int .i64 t288] 23 (0, 0))) ∧ Aside0 (Below w.heap.size w wc))
  case first =>
    have H := HC4.out
    clear HC4
    by_cases c10 : a0 < (-8000000000)
    · rw [if_pos c10] at H
      have c10b0 : decide (a0 < (-8000000000)) = true := decide_eq_true c10
      clear c10
      (first | rw [c10b0] | (simp only [i64_w, i32_w]; rw [c10b0]) | skip)
      have H' := Aside0.mk H
      clear H
      go_wp2
      go_meet
      case rel => exact ⟨_, (true), (by first | rfl | (simp; done) | (simp [*]; done)), H', ⟨by first | omega | exact Nat.le_refl _⟩, ⟨by (with_reducible repeat (first | refine blk_drewN ?_ _ | refine blk_drew ?_ | refine blk_alloc ?_ _)); refine blk_far ?_ NB281_290.out _; (with_reducible repeat (first | refine blk_drewN ?_ _ | refine blk_drew ?_ | refine blk_alloc ?_ _)); refine blk_far ?_ NB281_290.out _; (with_reducible repeat (first | refine blk_drewN ?_ _ | refine blk_drew ?_ | refine blk_alloc ?_ _)); refine blk_far ?_ NB281_290.out _; (with_reducible repeat (first | refine blk_drewN ?_ _ | refine blk_drew ?_ | refine blk_alloc ?_ _)); refine blk_far ?_ NB281_290.out _; (with_reducible repeat (first | refine blk_drewN ?_ _ | refine blk_drew ?_ | refine blk_alloc ?_ _)); refine blk_far ?_ NB281_290.out _; (with_reducible repeat (first | refine blk_drewN ?_ _ | refine blk_drew ?_ | refine blk_alloc ?_ _)); refine blk_far ?_ NB281_290.out _; (with_reducible repeat (first | refine blk_drewN ?_ _ | refine blk_drew ?_ | refine blk_alloc ?_ _)); refine blk_far ?_ NB281_290.out _; (with_reducible repeat (first | refine blk_drewN ?_ _ | refine blk_drew ?_ | refine blk_alloc ?_ _)); exact BK281.out⟩, ⟨by (with_reducible repeat (first | refine blk_drewN ?_ _ | refine blk_drew ?_ | refine blk_alloc ?_ _)); refine blk_put (cs := #[.int .i64 t282, .int .i64 t283, .int .i64 t284, .int .i64 t285, .int .i64 t286, .int .i64 t287, .int .i64 0]) ?_ 6 _ rfl; (with_reducible repeat (first | refine blk_drewN ?_ _ | refine blk_drew ?_ | refine blk_alloc ?_ _)); refine blk_put (cs := #[.int .i64 t282, .int .i64 t283, .int .i64 t284, .int .i64 t285, .int .i64 t286, .int .i64 0, .int .i64 0]) ?_ 5 _ rfl; (with_reducible repeat (first | refine blk_drewN ?_ _ | refine blk_drew ?_ | refine blk_alloc ?_ _)); refine blk_put (cs := #[.int .i64 t282, .int .i64 t283, .int .i64 t284, .int .i64 t285, .int .i64 0, .int .i64 0, .int .i64 0]) ?_ 4 _ rfl; (with_reducible repeat (first | refine blk_drewN ?_ _ | refine blk_drew ?_ | refine blk_alloc ?_ _)); refine blk_put (cs := #[.int .i64 t282, .int .i64 t283, .int .i64 t284, .int .i64 0, .int .i64 0, .int .i64 0, .int .i64 0]) ?_ 3 _ rfl; (with_reducible repeat (first | refine blk_drewN ?_ _ | refine blk_drew ?_ | refine blk_alloc ?_ _)); refine blk_put (cs := #[.int .i64 t282, .int .i64 t283, .int .i64 0, .int .i64 0, .int .i64 0, .int .i64 0, .int .i64 0]) ?_ 2 _ rfl; (with_reducible repeat (first | refine blk_drewN ?_ _ | refine blk_drew ?_ | refine blk_alloc ?_ _)); refine blk_put (cs := #[.int .i64 t282, .int .i64 0, .int .i64 0, .int .i64 0, .int .i64 0, .int .i64 0, .int .i64 0]) ?_ 1 _ rfl; (with_reducible repeat (first | refine blk_drewN ?_ _ | refine blk_drew ?_ | refine blk_alloc ?_ _)); refine blk_put (cs := #[.int .i64 0, .int .i64 0, .int .i64 0, .int .i64 0, .int .i64 0, .int .i64 0, .int .i64 0]) ?_ 0 _ rfl; (with_reducible repeat (first | refine blk_drewN ?_ _ | refine blk_drew ?_ | refine blk_alloc ?_ _)); exact BK290.out⟩, ⟨by repeat (first | (with_reducible first | exact HB.out | apply below_alloc | apply pw_below_drewN | apply below_drew1 | refine below_set ?_ GE281.out | refine below_set ?_ GE290.out) | exact HB.out)⟩⟩
    · rw [if_neg c10] at H
      have c10b0 : decide (a0 < (-8000000000)) = false := decide_eq_false c10
      clear c10
      (first | rw [c10b0] | (simp only [i64_w, i32_w]; rw [c10b0]) | skip)
      have H' := Aside0.mk H
      clear H
      go_wp2
      go_meet
      case rel => exact ⟨_, (decide (a0 > 8000000000)), (by first | rfl | (simp; done) | (simp [*]; done)), H', ⟨by first | omega | exact Nat.le_refl _⟩, ⟨by (with_reducible repeat (first | refine blk_drewN ?_ _ | refine blk_drew ?_ | refine blk_alloc ?_ _)); refine blk_far ?_ NB281_290.out _; (with_reducible repeat (first | refine blk_drewN ?_ _ | refine blk_drew ?_ | refine blk_alloc ?_ _)); refine blk_far ?_ NB281_290.out _; (with_reducible repeat (first | refine blk_drewN ?_ _ | refine blk_drew ?_ | refine blk_alloc ?_ _)); refine blk_far ?_ NB281_290.out _; (with_reducible repeat (first | refine blk_drewN ?_ _ | refine blk_drew ?_ | refine blk_alloc ?_ _)); refine blk_far ?_ NB281_290.out _; (with_reducible repeat (first | refine blk_drewN ?_ _ | refine blk_drew ?_ | refine blk_alloc ?_ _)); refine blk_far ?_ NB281_290.out _; (with_reducible repeat (first | refine blk_drewN ?_ _ | refine blk_drew ?_ | refine blk_alloc ?_ _)); refine blk_far ?_ NB281_290.out _; (with_reducible repeat (first | refine blk_drewN ?_ _ | refine blk_drew ?_ | refine blk_alloc ?_ _)); refine blk_far ?_ NB281_290.out _; (with_reducible repeat (first | refine blk_drewN ?_ _ | refine blk_drew ?_ | refine blk_alloc ?_ _)); exact BK281.out⟩, ⟨by (with_reducible repeat (first | refine blk_drewN ?_ _ | refine blk_drew ?_ | refine blk_alloc ?_ _)); refine blk_put (cs := #[.int .i64 t282, .int .i64 t283, .int .i64 t284, .int .i64 t285, .int .i64 t286, .int .i64 t287, .int .i64 0]) ?_ 6 _ rfl; (with_reducible repeat (first | refine blk_drewN ?_ _ | refine blk_drew ?_ | refine blk_alloc ?_ _)); refine blk_put (cs := #[.int .i64 t282, .int .i64 t283, .int .i64 t284, .int .i64 t285, .int .i64 t286, .int .i64 0, .int .i64 0]) ?_ 5 _ rfl; (with_reducible repeat (first | refine blk_drewN ?_ _ | refine blk_drew ?_ | refine blk_alloc ?_ _)); refine blk_put (cs := #[.int .i64 t282, .int .i64 t283, .int .i64 t284, .int .i64 t285, .int .i64 0, .int .i64 0, .int .i64 0]) ?_ 4 _ rfl; (with_reducible repeat (first | refine blk_drewN ?_ _ | refine blk_drew ?_ | refine blk_alloc ?_ _)); refine blk_put (cs := #[.int .i64 t282, .int .i64 t283, .int .i64 t284, .int .i64 0, .int .i64 0, .int .i64 0, .int .i64 0]) ?_ 3 _ rfl; (with_reducible repeat (first | refine blk_drewN ?_ _ | refine blk_drew ?_ | refine blk_alloc ?_ _)); refine blk_put (cs := #[.int .i64 t282, .int .i64 t283, .int .i64 0, .int .i64 0, .int .i64 0, .int .i64 0, .int .i64 0]) ?_ 2 _ rfl; (with_reducible repeat (first | refine blk_drewN ?_ _ | refine blk_drew ?_ | refine blk_alloc ?_ _)); refine blk_put (cs := #[.int .i64 t282, .int .i64 0, .int .i64 0, .int .i64 0, .int .i64 0, .int .i64 0, .int .i64 0]) ?_ 1 _ rfl; (with_reducible repeat (first | refine blk_drewN ?_ _ | refine blk_drew ?_ | refine blk_alloc ?_ _)); refine blk_put (cs := #[.int .i64 0, .int .i64 0, .int .i64 0, .int .i64 0, .int .i64 0, .int .i64 0, .int .i64 0]) ?_ 0 _ rfl; (with_reducible repeat (first | refine blk_drewN ?_ _ | refine blk_drew ?_ | refine blk_alloc ?_ _)); exact BK290.out⟩, ⟨by repeat (first | (with_reducible first | exact HB.out | apply below_alloc | apply pw_below_drewN | apply below_drew1 | refine below_set ?_ GE281.out | refine below_set ?_ GE290.out) | exact HB.out)⟩⟩
  case rest =>
    clear HC4
    try clear c1
    try clear p2
    try clear c8
    try clear c10
    try clear c10b0
    try clear hcz9_0
    try clear hcz9_1
    try clear hcz9_2
    try clear hcz9_3
    try clear hcz9_4
    try clear hcz9_5
    try clear hcz9_6
    try clear hfz9_0
    try clear hfz9_1
    try clear hfz9_2
    try clear hfz9_3
    try clear hfz9_4
    try clear hfz9_5
    try clear hfz9_6
    obtain ⟨kq, x23_3, rfl, HA, HJ3, BK281, BK290, HB⟩ := hcut
    cases kq with
    | zero => exact absurd HA.out (by simp [timesynclaw05_CivilRoundTrip.j0])
    | succ kj3 =>
      have H := HA.out
      clear HA
      simp only [timesynclaw05_CivilRoundTrip.j0] at H
      have HC11 := Aside0.mk H
      clear H
      go_upto_if 23 with (fail)
      go_cut [] (fun wc => ∃ (kq : Nat), Aside0 (timesynclaw05_CivilRoundTrip.j1 kq a1_0 a1_1 a1_2 a1_3 a1_4 a1_5 a1_6 = some r) ∧ Aside0 (kq ≤ kj3) ∧ Aside0 (wc.heap[gb281]? = some (.cells #[.int .i64 a1_0, .int .i64 a1_1, .int .i64 a1_2, .int .i64 a1_3, .int .i64 a1_4, .int .i64 a1_5, .int .i64 a1_6] 23 (0, 0))) ∧ Aside0 (wc.heap[gb290]? = some (.cells #[.int .i64 t282, .int .i64 t283, .int .i64 t284, .int .i64 t285, .int .i64 t286, .int .i64 t287, .int .i64 t288] 23 (0, 0))) ∧ Aside0 (Below w.heap.size w wc))
      case first =>
        have H := HC11.out
        clear HC11
        by_cases c12 : x23_3 = true
        · subst c12
          have H1 : (if t289 = 3 then (if (!(t282 == 0) || (!(t283 == 0) || (!(t284 == 0) || (!(t285 == 0) || (!(t286 == 0) || (!(t287 == 0) || (!(t288 == 0)))))))) = true then (some false) else (timesynclaw05_CivilRoundTrip.j1 kj3 a1_0 a1_1 a1_2 a1_3 a1_4 a1_5 a1_6)) else (some false)) = some r := by rw [if_pos rfl] at H; exact H
          clear H
          have H := H1
          clear H1
          by_cases c13 : t289 = 3
          · rw [if_pos c13] at H
            have c13b0 : (t289 == 3) = true := beq_iff_eq.mpr c13
            have c13b1 : (t289 != 3) = false := bne_eq_false_iff_eq.mpr c13
            clear c13
            (first | rw [c13b0] | (simp only [i64_w, i32_w]; rw [c13b0]) | skip)
            by_cases c14 : (!(t282 == 0) || (!(t283 == 0) || (!(t284 == 0) || (!(t285 == 0) || (!(t286 == 0) || (!(t287 == 0) || (!(t288 == 0)))))))) = true
            · rw [if_pos c14] at H
              have c14b0 : (!(t282 == 0) || (!(t283 == 0) || (!(t284 == 0) || (!(t285 == 0) || (!(t286 == 0) || (!(t287 == 0) || (!(t288 == 0)))))))) = true := c14
              clear c14
              obtain rfl := Option.some.inj H
              have hnb15 := NB290_281.out
              have hnc15 := NB281_290.out
              have hcz16_0 : wc.cell? ⟨gb290, 0, none⟩ = some (.int .i64 t282) := (blk_cell BK290.out 0).trans rfl
              have hcz16_1 : wc.cell? ⟨gb290, 1, none⟩ = some (.int .i64 t283) := (blk_cell BK290.out 1).trans rfl
              have hcz16_2 : wc.cell? ⟨gb290, 2, none⟩ = some (.int .i64 t284) := (blk_cell BK290.out 2).trans rfl
              have hcz16_3 : wc.cell? ⟨gb290, 3, none⟩ = some (.int .i64 t285) := (blk_cell BK290.out 3).trans rfl
              have hcz16_4 : wc.cell? ⟨gb290, 4, none⟩ = some (.int .i64 t286) := (blk_cell BK290.out 4).trans rfl
              have hcz16_5 : wc.cell? ⟨gb290, 5, none⟩ = some (.int .i64 t287) := (blk_cell BK290.out 5).trans rfl
              have hcz16_6 : wc.cell? ⟨gb290, 6, none⟩ = some (.int .i64 t288) := (blk_cell BK290.out 6).trans rfl
              have hfz16_0 := blk_frozen BK290.out 0
              have hfz16_1 := blk_frozen BK290.out 1
              have hfz16_2 := blk_frozen BK290.out 2
              have hfz16_3 := blk_frozen BK290.out 3
              have hfz16_4 := blk_frozen BK290.out 4
              have hfz16_5 := blk_frozen BK290.out 5
              have hfz16_6 := blk_frozen BK290.out 6
              go_wp2
              go_ret
              exact ⟨by first | rfl | (simp [errW_none, errW_some] <;> rfl) | (simp [*, errW_none, errW_some] <;> rfl), by repeat (first | (with_reducible first | exact HB.out | apply below_alloc | apply pw_below_drewN | apply below_drew1 | refine below_set ?_ GE281.out | refine below_set ?_ GE290.out) | exact HB.out)⟩
            · rw [if_neg c14] at H
              have c14b0 : (!(t282 == 0) || (!(t283 == 0) || (!(t284 == 0) || (!(t285 == 0) || (!(t286 == 0) || (!(t287 == 0) || (!(t288 == 0)))))))) = false := by simpa using c14
              clear c14
              have H' := Aside0.mk H
              clear H
              have hnb17 := NB290_281.out
              have hnc17 := NB281_290.out
              have hcz18_0 : wc.cell? ⟨gb290, 0, none⟩ = some (.int .i64 t282) := (blk_cell BK290.out 0).trans rfl
              have hcz18_1 : wc.cell? ⟨gb290, 1, none⟩ = some (.int .i64 t283) := (blk_cell BK290.out 1).trans rfl
              have hcz18_2 : wc.cell? ⟨gb290, 2, none⟩ = some (.int .i64 t284) := (blk_cell BK290.out 2).trans rfl
              have hcz18_3 : wc.cell? ⟨gb290, 3, none⟩ = some (.int .i64 t285) := (blk_cell BK290.out 3).trans rfl
              have hcz18_4 : wc.cell? ⟨gb290, 4, none⟩ = some (.int .i64 t286) := (blk_cell BK290.out 4).trans rfl
              have hcz18_5 : wc.cell? ⟨gb290, 5, none⟩ = some (.int .i64 t287) := (blk_cell BK290.out 5).trans rfl
              have hcz18_6 : wc.cell? ⟨gb290, 6, none⟩ = some (.int .i64 t288) := (blk_cell BK290.out 6).trans rfl
              have hfz18_0 := blk_frozen BK290.out 0
              have hfz18_1 := blk_frozen BK290.out 1
              have hfz18_2 := blk_frozen BK290.out 2
              have hfz18_3 := blk_frozen BK290.out 3
              have hfz18_4 := blk_frozen BK290.out 4
              have hfz18_5 := blk_frozen BK290.out 5
              have hfz18_6 := blk_frozen BK290.out 6
              go_wp2
              go_meet
              case rel => exact ⟨_, H', ⟨by have := HJ3.out; first | omega | exact Nat.le_refl _⟩, ⟨by (with_reducible repeat (first | refine blk_drewN ?_ _ | refine blk_drew ?_ | refine blk_alloc ?_ _)); exact BK281.out⟩, ⟨by (with_reducible repeat (first | refine blk_drewN ?_ _ | refine blk_drew ?_ | refine blk_alloc ?_ _)); exact BK290.out⟩, ⟨by repeat (first | (with_reducible first | exact HB.out | apply below_alloc | apply pw_below_drewN | apply below_drew1 | refine below_set ?_ GE281.out | refine below_set ?_ GE290.out) | exact HB.out)⟩⟩
          · rw [if_neg c13] at H
            have c13b0 : (t289 == 3) = false := beq_eq_false_iff_ne.mpr c13
            have c13b1 : (t289 != 3) = true := bne_iff_ne.mpr c13
            (first | rw [c13b0] | (simp only [i64_w, i32_w]; rw [c13b0]) | skip)
            obtain rfl := Option.some.inj H
            go_wp2
            go_ret
            exact ⟨by first | rfl | (simp [errW_none, errW_some] <;> rfl) | (simp [*, errW_none, errW_some] <;> rfl), by repeat (first | (with_reducible first | exact HB.out | apply below_alloc | apply pw_below_drewN | apply below_drew1 | refine below_set ?_ GE281.out | refine below_set ?_ GE290.out) | exact HB.out)⟩
        · replace c12 := Bool.eq_false_iff.mpr c12
          subst c12
          have H1 : ((civil_Seconds.f t282 t283 t284 t285 t286 t287 t288).bind fun bt291 => (if t289 = 0 then (if t288 = 0 then ((civil_Check.f t282 t283 t284 t285 t286 t287 t288).bind fun t293 => (if t293 = 0 then (if bt291.1 = a0 then (if bt291.2 = 0 then (timesynclaw05_CivilRoundTrip.j1 kj3 a1_0 a1_1 a1_2 a1_3 a1_4 a1_5 a1_6) else (some false)) else (some false)) else (some false))) else (some false)) else (some false))) = some r := by rw [if_neg (show ¬ (false = true) by decide)] at H; exact H
          clear H
          have H := H1
          clear H1
          replace H := Option.bind_eq_some_iff.mp H
          obtain ⟨⟨t291, t292⟩, A190, H⟩ := H
          replace H : (if t289 = 0 then (if t288 = 0 then ((civil_Check.f t282 t283 t284 t285 t286 t287 t288).bind fun t293 => (if t293 = 0 then (if t291 = a0 then (if t292 = 0 then (timesynclaw05_CivilRoundTrip.j1 kj3 a1_0 a1_1 a1_2 a1_3 a1_4 a1_5 a1_6) else (some false)) else (some false)) else (some false))) else (some false)) else (some false)) = some r := H
          have A19 := Aside0.mk A190
          clear A190
          by_cases c20 : t289 = 0
          · rw [if_pos c20] at H
            have c20b0 : (t289 == 0) = true := beq_iff_eq.mpr c20
            have c20b1 : (t289 != 0) = false := bne_eq_false_iff_eq.mpr c20
            clear c20
            by_cases c21 : t288 = 0
            · rw [if_pos c21] at H
              have c21b0 : (t288 == 0) = true := beq_iff_eq.mpr c21
              have c21b1 : (t288 != 0) = false := bne_eq_false_iff_eq.mpr c21
              clear c21
              replace H := Option.bind_eq_some_iff.mp H
              obtain ⟨t293, A220, H⟩ := H
              replace H : (if t293 = 0 then (if t291 = a0 then (if t292 = 0 then (timesynclaw05_CivilRoundTrip.j1 kj3 a1_0 a1_1 a1_2 a1_3 a1_4 a1_5 a1_6) else (some false)) else (some false)) else (some false)) = some r := H
              have A22 := Aside0.mk A220
              clear A220
              by_cases c23 : t293 = 0
              · rw [if_pos c23] at H
                have c23b0 : (t293 == 0) = true := beq_iff_eq.mpr c23
                have c23b1 : (t293 != 0) = false := bne_eq_false_iff_eq.mpr c23
                clear c23
                by_cases c24 : t291 = a0
                · rw [if_pos c24] at H
                  have c24b0 : (t291 == a0) = true := beq_iff_eq.mpr c24
                  have c24b1 : (t291 != a0) = false := bne_eq_false_iff_eq.mpr c24
                  clear c24
                  by_cases c25 : t292 = 0
                  · rw [if_pos c25] at H
                    have c25b0 : (t292 == 0) = true := beq_iff_eq.mpr c25
                    have c25b1 : (t292 != 0) = false := bne_eq_false_iff_eq.mpr c25
                    clear c25
                    have H' := Aside0.mk H
                    clear H
                    have hnb26 := NB290_281.out
                    have hnc26 := NB281_290.out
                    have hcz27_0 : wc.cell? ⟨gb290, 0, none⟩ = some (.int .i64 t282) := (blk_cell BK290.out 0).trans rfl
                    have hcz27_1 : wc.cell? ⟨gb290, 1, none⟩ = some (.int .i64 t283) := (blk_cell BK290.out 1).trans rfl
                    have hcz27_2 : wc.cell? ⟨gb290, 2, none⟩ = some (.int .i64 t284) := (blk_cell BK290.out 2).trans rfl
                    have hcz27_3 : wc.cell? ⟨gb290, 3, none⟩ = some (.int .i64 t285) := (blk_cell BK290.out 3).trans rfl
                    have hcz27_4 : wc.cell? ⟨gb290, 4, none⟩ = some (.int .i64 t286) := (blk_cell BK290.out 4).trans rfl
                    have hcz27_5 : wc.cell? ⟨gb290, 5, none⟩ = some (.int .i64 t287) := (blk_cell BK290.out 5).trans rfl
                    have hcz27_6 : wc.cell? ⟨gb290, 6, none⟩ = some (.int .i64 t288) := (blk_cell BK290.out 6).trans rfl
                    have hfz27_0 := blk_frozen BK290.out 0
                    have hfz27_1 := blk_frozen BK290.out 1
                    have hfz27_2 := blk_frozen BK290.out 2
                    have hfz27_3 := blk_frozen BK290.out 3
                    have hfz27_4 := blk_frozen BK290.out 4
                    have hfz27_5 := blk_frozen BK290.out 5
                    have hfz27_6 := blk_frozen BK290.out 6
                    go_wp2_with (first | ((with_reducible refine gate_callee (f := 25) rfl ?_); refine goesL_ (some 33) rfl rfl Try.func25 (by kernel_rfl) rfl #[.agg #[.int .i64 t282, .int .i64 t283, .int .i64 t284, .int .i64 t285, .int .i64 t286, .int .i64 t287, .int .i64 t288]] rfl (by (try simp only [List.map_toArray, List.map_cons, List.map_nil]); first | done | rfl | (simp only [List.length_drop, List.length_take]; rfl)) ?_; (with_reducible refine (civil_Seconds.calls t282 t283 t284 t285 t286 t287 t288 t291 t292 _ A19.out).mono ?_); rintro e w28 ⟨rfl, hb⟩; refine ⟨_, rfl, ?_⟩; have n0_ := Aside0.mk (blk_below (g := gb281) (o := .cells #[.int .i64 a1_0, .int .i64 a1_1, .int .i64 a1_2, .int .i64 a1_3, .int .i64 a1_4, .int .i64 a1_5, .int .i64 a1_6] 23 (0, 0)) (by (with_reducible repeat (first | refine blk_drewN ?_ _ | refine blk_drew ?_ | refine blk_alloc ?_ _)); exact BK281.out) hb); have n1_ := Aside0.mk (blk_below (g := gb290) (o := .cells #[.int .i64 t282, .int .i64 t283, .int .i64 t284, .int .i64 t285, .int .i64 t286, .int .i64 t287, .int .i64 t288] 23 (0, 0)) (by (with_reducible repeat (first | refine blk_drewN ?_ _ | refine blk_drew ?_ | refine blk_alloc ?_ _)); exact BK290.out) hb); have n2_ := Aside0.mk (below_step (by repeat (first | (with_reducible first | exact HB.out | apply below_alloc | apply pw_below_drewN | apply below_drew1 | refine below_set ?_ GE281.out | refine below_set ?_ GE290.out) | exact HB.out)) hb); clear BK281; clear BK290; clear HB; have BK281 := n0_; have BK290 := n1_; have HB := n2_; clear n0_ n1_ n2_; (try clear hb); (try clear hb2); (try clear hk); (try clear hi); have hcz29_0 : w28.cell? ⟨gb290, 0, none⟩ = some (.int .i64 t282) := (blk_cell BK290.out 0).trans rfl; have hcz29_1 : w28.cell? ⟨gb290, 1, none⟩ = some (.int .i64 t283) := (blk_cell BK290.out 1).trans rfl; have hcz29_2 : w28.cell? ⟨gb290, 2, none⟩ = some (.int .i64 t284) := (blk_cell BK290.out 2).trans rfl; have hcz29_3 : w28.cell? ⟨gb290, 3, none⟩ = some (.int .i64 t285) := (blk_cell BK290.out 3).trans rfl; have hcz29_4 : w28.cell? ⟨gb290, 4, none⟩ = some (.int .i64 t286) := (blk_cell BK290.out 4).trans rfl; have hcz29_5 : w28.cell? ⟨gb290, 5, none⟩ = some (.int .i64 t287) := (blk_cell BK290.out 5).trans rfl; have hcz29_6 : w28.cell? ⟨gb290, 6, none⟩ = some (.int .i64 t288) := (blk_cell BK290.out 6).trans rfl; have hfz29_0 := blk_frozen BK290.out 0; have hfz29_1 := blk_frozen BK290.out 1; have hfz29_2 := blk_frozen BK290.out 2; have hfz29_3 := blk_frozen BK290.out 3; have hfz29_4 := blk_frozen BK290.out 4; have hfz29_5 := blk_frozen BK290.out 5; have hfz29_6 := blk_frozen BK290.out 6) | (go_at_call 27; (with_reducible refine (civil_Check.calls t282 t283 t284 t285 t286 t287 t288 t293 _ A22.out).mono ?_); rintro e w30 ⟨rfl, hb⟩; have n0_ := Aside0.mk (blk_below (g := gb281) (o := .cells #[.int .i64 a1_0, .int .i64 a1_1, .int .i64 a1_2, .int .i64 a1_3, .int .i64 a1_4, .int .i64 a1_5, .int .i64 a1_6] 23 (0, 0)) (by (with_reducible repeat (first | refine blk_drewN ?_ _ | refine blk_drew ?_ | refine blk_alloc ?_ _)); exact BK281.out) hb); have n1_ := Aside0.mk (blk_below (g := gb290) (o := .cells #[.int .i64 t282, .int .i64 t283, .int .i64 t284, .int .i64 t285, .int .i64 t286, .int .i64 t287, .int .i64 t288] 23 (0, 0)) (by (with_reducible repeat (first | refine blk_drewN ?_ _ | refine blk_drew ?_ | refine blk_alloc ?_ _)); exact BK290.out) hb); have n2_ := Aside0.mk (below_step (by repeat (first | (with_reducible first | exact HB.out | apply below_alloc | apply pw_below_drewN | apply below_drew1 | refine below_set ?_ GE281.out | refine below_set ?_ GE290.out) | exact HB.out)) hb); clear BK281; clear BK290; clear HB; have BK281 := n0_; have BK290 := n1_; have HB := n2_; clear n0_ n1_ n2_; (try clear hb); (try clear hb2); (try clear hk); (try clear hi)))
                    go_meet
                    case rel => exact ⟨_, H', ⟨by have := HJ3.out; first | omega | exact Nat.le_refl _⟩, ⟨by (with_reducible repeat (first | refine blk_drewN ?_ _ | refine blk_drew ?_ | refine blk_alloc ?_ _)); exact BK281.out⟩, ⟨by (with_reducible repeat (first | refine blk_drewN ?_ _ | refine blk_drew ?_ | refine blk_alloc ?_ _)); exact BK290.out⟩, ⟨by repeat (first | (with_reducible first | exact HB.out | apply below_alloc | apply pw_below_drewN | apply below_drew1 | refine below_set ?_ GE281.out | refine below_set ?_ GE290.out) | exact HB.out)⟩⟩
                  · rw [if_neg c25] at H
                    have c25b0 : (t292 == 0) = false := beq_eq_false_iff_ne.mpr c25
                    have c25b1 : (t292 != 0) = true := bne_iff_ne.mpr c25
                    obtain rfl := Option.some.inj H
                    have hnb31 := NB290_281.out
                    have hnc31 := NB281_290.out
                    have hcz32_0 : wc.cell? ⟨gb290, 0, none⟩ = some (.int .i64 t282) := (blk_cell BK290.out 0).trans rfl
                    have hcz32_1 : wc.cell? ⟨gb290, 1, none⟩ = some (.int .i64 t283) := (blk_cell BK290.out 1).trans rfl
                    have hcz32_2 : wc.cell? ⟨gb290, 2, none⟩ = some (.int .i64 t284) := (blk_cell BK290.out 2).trans rfl
                    have hcz32_3 : wc.cell? ⟨gb290, 3, none⟩ = some (.int .i64 t285) := (blk_cell BK290.out 3).trans rfl
                    have hcz32_4 : wc.cell? ⟨gb290, 4, none⟩ = some (.int .i64 t286) := (blk_cell BK290.out 4).trans rfl
                    have hcz32_5 : wc.cell? ⟨gb290, 5, none⟩ = some (.int .i64 t287) := (blk_cell BK290.out 5).trans rfl
                    have hcz32_6 : wc.cell? ⟨gb290, 6, none⟩ = some (.int .i64 t288) := (blk_cell BK290.out 6).trans rfl
                    have hfz32_0 := blk_frozen BK290.out 0
                    have hfz32_1 := blk_frozen BK290.out 1
                    have hfz32_2 := blk_frozen BK290.out 2
                    have hfz32_3 := blk_frozen BK290.out 3
                    have hfz32_4 := blk_frozen BK290.out 4
                    have hfz32_5 := blk_frozen BK290.out 5
                    have hfz32_6 := blk_frozen BK290.out 6
                    go_wp2_with (first | ((with_reducible refine gate_callee (f := 25) rfl ?_); refine goesL_ (some 33) rfl rfl Try.func25 (by kernel_rfl) rfl #[.agg #[.int .i64 t282, .int .i64 t283, .int .i64 t284, .int .i64 t285, .int .i64 t286, .int .i64 t287, .int .i64 t288]] rfl (by (try simp only [List.map_toArray, List.map_cons, List.map_nil]); first | done | rfl | (simp only [List.length_drop, List.length_take]; rfl)) ?_; (with_reducible refine (civil_Seconds.calls t282 t283 t284 t285 t286 t287 t288 t291 t292 _ A19.out).mono ?_); rintro e w33 ⟨rfl, hb⟩; refine ⟨_, rfl, ?_⟩; have n0_ := Aside0.mk (blk_below (g := gb281) (o := .cells #[.int .i64 a1_0, .int .i64 a1_1, .int .i64 a1_2, .int .i64 a1_3, .int .i64 a1_4, .int .i64 a1_5, .int .i64 a1_6] 23 (0, 0)) (by (with_reducible repeat (first | refine blk_drewN ?_ _ | refine blk_drew ?_ | refine blk_alloc ?_ _)); exact BK281.out) hb); have n1_ := Aside0.mk (blk_below (g := gb290) (o := .cells #[.int .i64 t282, .int .i64 t283, .int .i64 t284, .int .i64 t285, .int .i64 t286, .int .i64 t287, .int .i64 t288] 23 (0, 0)) (by (with_reducible repeat (first | refine blk_drewN ?_ _ | refine blk_drew ?_ | refine blk_alloc ?_ _)); exact BK290.out) hb); have n2_ := Aside0.mk (below_step (by repeat (first | (with_reducible first | exact HB.out | apply below_alloc | apply pw_below_drewN | apply below_drew1 | refine below_set ?_ GE281.out | refine below_set ?_ GE290.out) | exact HB.out)) hb); clear BK281; clear BK290; clear HB; have BK281 := n0_; have BK290 := n1_; have HB := n2_; clear n0_ n1_ n2_; (try clear hb); (try clear hb2); (try clear hk); (try clear hi); have hcz34_0 : w33.cell? ⟨gb290, 0, none⟩ = some (.int .i64 t282) := (blk_cell BK290.out 0).trans rfl; have hcz34_1 : w33.cell? ⟨gb290, 1, none⟩ = some (.int .i64 t283) := (blk_cell BK290.out 1).trans rfl; have hcz34_2 : w33.cell? ⟨gb290, 2, none⟩ = some (.int .i64 t284) := (blk_cell BK290.out 2).trans rfl; have hcz34_3 : w33.cell? ⟨gb290, 3, none⟩ = some (.int .i64 t285) := (blk_cell BK290.out 3).trans rfl; have hcz34_4 : w33.cell? ⟨gb290, 4, none⟩ = some (.int .i64 t286) := (blk_cell BK290.out 4).trans rfl; have hcz34_5 : w33.cell? ⟨gb290, 5, none⟩ = some (.int .i64 t287) := (blk_cell BK290.out 5).trans rfl; have hcz34_6 : w33.cell? ⟨gb290, 6, none⟩ = some (.int .i64 t288) := (blk_cell BK290.out 6).trans rfl; have hfz34_0 := blk_frozen BK290.out 0; have hfz34_1 := blk_frozen BK290.out 1; have hfz34_2 := blk_frozen BK290.out 2; have hfz34_3 := blk_frozen BK290.out 3; have hfz34_4 := blk_frozen BK290.out 4; have hfz34_5 := blk_frozen BK290.out 5; have hfz34_6 := blk_frozen BK290.out 6) | (go_at_call 27; (with_reducible refine (civil_Check.calls t282 t283 t284 t285 t286 t287 t288 t293 _ A22.out).mono ?_); rintro e w35 ⟨rfl, hb⟩; have n0_ := Aside0.mk (blk_below (g := gb281) (o := .cells #[.int .i64 a1_0, .int .i64 a1_1, .int .i64 a1_2, .int .i64 a1_3, .int .i64 a1_4, .int .i64 a1_5, .int .i64 a1_6] 23 (0, 0)) (by (with_reducible repeat (first | refine blk_drewN ?_ _ | refine blk_drew ?_ | refine blk_alloc ?_ _)); exact BK281.out) hb); have n1_ := Aside0.mk (blk_below (g := gb290) (o := .cells #[.int .i64 t282, .int .i64 t283, .int .i64 t284, .int .i64 t285, .int .i64 t286, .int .i64 t287, .int .i64 t288] 23 (0, 0)) (by (with_reducible repeat (first | refine blk_drewN ?_ _ | refine blk_drew ?_ | refine blk_alloc ?_ _)); exact BK290.out) hb); have n2_ := Aside0.mk (below_step (by repeat (first | (with_reducible first | exact HB.out | apply below_alloc | apply pw_below_drewN | apply below_drew1 | refine below_set ?_ GE281.out | refine below_set ?_ GE290.out) | exact HB.out)) hb); clear BK281; clear BK290; clear HB; have BK281 := n0_; have BK290 := n1_; have HB := n2_; clear n0_ n1_ n2_; (try clear hb); (try clear hb2); (try clear hk); (try clear hi)))
                    go_ret
                    exact ⟨by first | rfl | (simp [errW_none, errW_some] <;> rfl) | (simp [*, errW_none, errW_some] <;> rfl), by repeat (first | (with_reducible first | exact HB.out | apply below_alloc | apply pw_below_drewN | apply below_drew1 | refine below_set ?_ GE281.out | refine below_set ?_ GE290.out) | exact HB.out)⟩
                · rw [if_neg c24] at H
                  have c24b0 : (t291 == a0) = false := beq_eq_false_iff_ne.mpr c24
                  have c24b1 : (t291 != a0) = true := bne_iff_ne.mpr c24
                  obtain rfl := Option.some.inj H
                  have hnb36 := NB290_281.out
                  have hnc36 := NB281_290.out
                  have hcz37_0 : wc.cell? ⟨gb290, 0, none⟩ = some (.int .i64 t282) := (blk_cell BK290.out 0).trans rfl
                  have hcz37_1 : wc.cell? ⟨gb290, 1, none⟩ = some (.int .i64 t283) := (blk_cell BK290.out 1).trans rfl
                  have hcz37_2 : wc.cell? ⟨gb290, 2, none⟩ = some (.int .i64 t284) := (blk_cell BK290.out 2).trans rfl
                  have hcz37_3 : wc.cell? ⟨gb290, 3, none⟩ = some (.int .i64 t285) := (blk_cell BK290.out 3).trans rfl
                  have hcz37_4 : wc.cell? ⟨gb290, 4, none⟩ = some (.int .i64 t286) := (blk_cell BK290.out 4).trans rfl
                  have hcz37_5 : wc.cell? ⟨gb290, 5, none⟩ = some (.int .i64 t287) := (blk_cell BK290.out 5).trans rfl
                  have hcz37_6 : wc.cell? ⟨gb290, 6, none⟩ = some (.int .i64 t288) := (blk_cell BK290.out 6).trans rfl
                  have hfz37_0 := blk_frozen BK290.out 0
                  have hfz37_1 := blk_frozen BK290.out 1
                  have hfz37_2 := blk_frozen BK290.out 2
                  have hfz37_3 := blk_frozen BK290.out 3
                  have hfz37_4 := blk_frozen BK290.out 4
                  have hfz37_5 := blk_frozen BK290.out 5
                  have hfz37_6 := blk_frozen BK290.out 6
                  go_wp2_with (first | ((with_reducible refine gate_callee (f := 25) rfl ?_); refine goesL_ (some 33) rfl rfl Try.func25 (by kernel_rfl) rfl #[.agg #[.int .i64 t282, .int .i64 t283, .int .i64 t284, .int .i64 t285, .int .i64 t286, .int .i64 t287, .int .i64 t288]] rfl (by (try simp only [List.map_toArray, List.map_cons, List.map_nil]); first | done | rfl | (simp only [List.length_drop, List.length_take]; rfl)) ?_; (with_reducible refine (civil_Seconds.calls t282 t283 t284 t285 t286 t287 t288 t291 t292 _ A19.out).mono ?_); rintro e w38 ⟨rfl, hb⟩; refine ⟨_, rfl, ?_⟩; have n0_ := Aside0.mk (blk_below (g := gb281) (o := .cells #[.int .i64 a1_0, .int .i64 a1_1, .int .i64 a1_2, .int .i64 a1_3, .int .i64 a1_4, .int .i64 a1_5, .int .i64 a1_6] 23 (0, 0)) (by (with_reducible repeat (first | refine blk_drewN ?_ _ | refine blk_drew ?_ | refine blk_alloc ?_ _)); exact BK281.out) hb); have n1_ := Aside0.mk (blk_below (g := gb290) (o := .cells #[.int .i64 t282, .int .i64 t283, .int .i64 t284, .int .i64 t285, .int .i64 t286, .int .i64 t287, .int .i64 t288] 23 (0, 0)) (by (with_reducible repeat (first | refine blk_drewN ?_ _ | refine blk_drew ?_ | refine blk_alloc ?_ _)); exact BK290.out) hb); have n2_ := Aside0.mk (below_step (by repeat (first | (with_reducible first | exact HB.out | apply below_alloc | apply pw_below_drewN | apply below_drew1 | refine below_set ?_ GE281.out | refine below_set ?_ GE290.out) | exact HB.out)) hb); clear BK281; clear BK290; clear HB; have BK281 := n0_; have BK290 := n1_; have HB := n2_; clear n0_ n1_ n2_; (try clear hb); (try clear hb2); (try clear hk); (try clear hi); have hcz39_0 : w38.cell? ⟨gb290, 0, none⟩ = some (.int .i64 t282) := (blk_cell BK290.out 0).trans rfl; have hcz39_1 : w38.cell? ⟨gb290, 1, none⟩ = some (.int .i64 t283) := (blk_cell BK290.out 1).trans rfl; have hcz39_2 : w38.cell? ⟨gb290, 2, none⟩ = some (.int .i64 t284) := (blk_cell BK290.out 2).trans rfl; have hcz39_3 : w38.cell? ⟨gb290, 3, none⟩ = some (.int .i64 t285) := (blk_cell BK290.out 3).trans rfl; have hcz39_4 : w38.cell? ⟨gb290, 4, none⟩ = some (.int .i64 t286) := (blk_cell BK290.out 4).trans rfl; have hcz39_5 : w38.cell? ⟨gb290, 5, none⟩ = some (.int .i64 t287) := (blk_cell BK290.out 5).trans rfl; have hcz39_6 : w38.cell? ⟨gb290, 6, none⟩ = some (.int .i64 t288) := (blk_cell BK290.out 6).trans rfl; have hfz39_0 := blk_frozen BK290.out 0; have hfz39_1 := blk_frozen BK290.out 1; have hfz39_2 := blk_frozen BK290.out 2; have hfz39_3 := blk_frozen BK290.out 3; have hfz39_4 := blk_frozen BK290.out 4; have hfz39_5 := blk_frozen BK290.out 5; have hfz39_6 := blk_frozen BK290.out 6) | (go_at_call 27; (with_reducible refine (civil_Check.calls t282 t283 t284 t285 t286 t287 t288 t293 _ A22.out).mono ?_); rintro e w40 ⟨rfl, hb⟩; have n0_ := Aside0.mk (blk_below (g := gb281) (o := .cells #[.int .i64 a1_0, .int .i64 a1_1, .int .i64 a1_2, .int .i64 a1_3, .int .i64 a1_4, .int .i64 a1_5, .int .i64 a1_6] 23 (0, 0)) (by (with_reducible repeat (first | refine blk_drewN ?_ _ | refine blk_drew ?_ | refine blk_alloc ?_ _)); exact BK281.out) hb); have n1_ := Aside0.mk (blk_below (g := gb290) (o := .cells #[.int .i64 t282, .int .i64 t283, .int .i64 t284, .int .i64 t285, .int .i64 t286, .int .i64 t287, .int .i64 t288] 23 (0, 0)) (by (with_reducible repeat (first | refine blk_drewN ?_ _ | refine blk_drew ?_ | refine blk_alloc ?_ _)); exact BK290.out) hb); have n2_ := Aside0.mk (below_step (by repeat (first | (with_reducible first | exact HB.out | apply below_alloc | apply pw_below_drewN | apply below_drew1 | refine below_set ?_ GE281.out | refine below_set ?_ GE290.out) | exact HB.out)) hb); clear BK281; clear BK290; clear HB; have BK281 := n0_; have BK290 := n1_; have HB := n2_; clear n0_ n1_ n2_; (try clear hb); (try clear hb2); (try clear hk); (try clear hi)))
                  go_ret
                  exact ⟨by first | rfl | (simp [errW_none, errW_some] <;> rfl) | (simp [*, errW_none, errW_some] <;> rfl), by repeat (first | (with_reducible first | exact HB.out | apply below_alloc | apply pw_below_drewN | apply below_drew1 | refine below_set ?_ GE281.out | refine below_set ?_ GE290.out) | exact HB.out)⟩
              · rw [if_neg c23] at H
                have c23b0 : (t293 == 0) = false := beq_eq_false_iff_ne.mpr c23
                have c23b1 : (t293 != 0) = true := bne_iff_ne.mpr c23
                obtain rfl := Option.some.inj H
                have hnb41 := NB290_281.out
                have hnc41 := NB281_290.out
                have hcz42_0 : wc.cell? ⟨gb290, 0, none⟩ = some (.int .i64 t282) := (blk_cell BK290.out 0).trans rfl
                have hcz42_1 : wc.cell? ⟨gb290, 1, none⟩ = some (.int .i64 t283) := (blk_cell BK290.out 1).trans rfl
                have hcz42_2 : wc.cell? ⟨gb290, 2, none⟩ = some (.int .i64 t284) := (blk_cell BK290.out 2).trans rfl
                have hcz42_3 : wc.cell? ⟨gb290, 3, none⟩ = some (.int .i64 t285) := (blk_cell BK290.out 3).trans rfl
                have hcz42_4 : wc.cell? ⟨gb290, 4, none⟩ = some (.int .i64 t286) := (blk_cell BK290.out 4).trans rfl
                have hcz42_5 : wc.cell? ⟨gb290, 5, none⟩ = some (.int .i64 t287) := (blk_cell BK290.out 5).trans rfl
                have hcz42_6 : wc.cell? ⟨gb290, 6, none⟩ = some (.int .i64 t288) := (blk_cell BK290.out 6).trans rfl
                have hfz42_0 := blk_frozen BK290.out 0
                have hfz42_1 := blk_frozen BK290.out 1
                have hfz42_2 := blk_frozen BK290.out 2
                have hfz42_3 := blk_frozen BK290.out 3
                have hfz42_4 := blk_frozen BK290.out 4
                have hfz42_5 := blk_frozen BK290.out 5
                have hfz42_6 := blk_frozen BK290.out 6
                go_wp2_with (first | ((with_reducible refine gate_callee (f := 25) rfl ?_); refine goesL_ (some 33) rfl rfl Try.func25 (by kernel_rfl) rfl #[.agg #[.int .i64 t282, .int .i64 t283, .int .i64 t284, .int .i64 t285, .int .i64 t286, .int .i64 t287, .int .i64 t288]] rfl (by (try simp only [List.map_toArray, List.map_cons, List.map_nil]); first | done | rfl | (simp only [List.length_drop, List.length_take]; rfl)) ?_; (with_reducible refine (civil_Seconds.calls t282 t283 t284 t285 t286 t287 t288 t291 t292 _ A19.out).mono ?_); rintro e w43 ⟨rfl, hb⟩; refine ⟨_, rfl, ?_⟩; have n0_ := Aside0.mk (blk_below (g := gb281) (o := .cells #[.int .i64 a1_0, .int .i64 a1_1, .int .i64 a1_2, .int .i64 a1_3, .int .i64 a1_4, .int .i64 a1_5, .int .i64 a1_6] 23 (0, 0)) (by (with_reducible repeat (first | refine blk_drewN ?_ _ | refine blk_drew ?_ | refine blk_alloc ?_ _)); exact BK281.out) hb); have n1_ := Aside0.mk (blk_below (g := gb290) (o := .cells #[.int .i64 t282, .int .i64 t283, .int .i64 t284, .int .i64 t285, .int .i64 t286, .int .i64 t287, .int .i64 t288] 23 (0, 0)) (by (with_reducible repeat (first | refine blk_drewN ?_ _ | refine blk_drew ?_ | refine blk_alloc ?_ _)); exact BK290.out) hb); have n2_ := Aside0.mk (below_step (by repeat (first | (with_reducible first | exact HB.out | apply below_alloc | apply pw_below_drewN | apply below_drew1 | refine below_set ?_ GE281.out | refine below_set ?_ GE290.out) | exact HB.out)) hb); clear BK281; clear BK290; clear HB; have BK281 := n0_; have BK290 := n1_; have HB := n2_; clear n0_ n1_ n2_; (try clear hb); (try clear hb2); (try clear hk); (try clear hi); have hcz44_0 : w43.cell? ⟨gb290, 0, none⟩ = some (.int .i64 t282) := (blk_cell BK290.out 0).trans rfl; have hcz44_1 : w43.cell? ⟨gb290, 1, none⟩ = some (.int .i64 t283) := (blk_cell BK290.out 1).trans rfl; have hcz44_2 : w43.cell? ⟨gb290, 2, none⟩ = some (.int .i64 t284) := (blk_cell BK290.out 2).trans rfl; have hcz44_3 : w43.cell? ⟨gb290, 3, none⟩ = some (.int .i64 t285) := (blk_cell BK290.out 3).trans rfl; have hcz44_4 : w43.cell? ⟨gb290, 4, none⟩ = some (.int .i64 t286) := (blk_cell BK290.out 4).trans rfl; have hcz44_5 : w43.cell? ⟨gb290, 5, none⟩ = some (.int .i64 t287) := (blk_cell BK290.out 5).trans rfl; have hcz44_6 : w43.cell? ⟨gb290, 6, none⟩ = some (.int .i64 t288) := (blk_cell BK290.out 6).trans rfl; have hfz44_0 := blk_frozen BK290.out 0; have hfz44_1 := blk_frozen BK290.out 1; have hfz44_2 := blk_frozen BK290.out 2; have hfz44_3 := blk_frozen BK290.out 3; have hfz44_4 := blk_frozen BK290.out 4; have hfz44_5 := blk_frozen BK290.out 5; have hfz44_6 := blk_frozen BK290.out 6) | (go_at_call 27; (with_reducible refine (civil_Check.calls t282 t283 t284 t285 t286 t287 t288 t293 _ A22.out).mono ?_); rintro e w45 ⟨rfl, hb⟩; have n0_ := Aside0.mk (blk_below (g := gb281) (o := .cells #[.int .i64 a1_0, .int .i64 a1_1, .int .i64 a1_2, .int .i64 a1_3, .int .i64 a1_4, .int .i64 a1_5, .int .i64 a1_6] 23 (0, 0)) (by (with_reducible repeat (first | refine blk_drewN ?_ _ | refine blk_drew ?_ | refine blk_alloc ?_ _)); exact BK281.out) hb); have n1_ := Aside0.mk (blk_below (g := gb290) (o := .cells #[.int .i64 t282, .int .i64 t283, .int .i64 t284, .int .i64 t285, .int .i64 t286, .int .i64 t287, .int .i64 t288] 23 (0, 0)) (by (with_reducible repeat (first | refine blk_drewN ?_ _ | refine blk_drew ?_ | refine blk_alloc ?_ _)); exact BK290.out) hb); have n2_ := Aside0.mk (below_step (by repeat (first | (with_reducible first | exact HB.out | apply below_alloc | apply pw_below_drewN | apply below_drew1 | refine below_set ?_ GE281.out | refine below_set ?_ GE290.out) | exact HB.out)) hb); clear BK281; clear BK290; clear HB; have BK281 := n0_; have BK290 := n1_; have HB := n2_; clear n0_ n1_ n2_; (try clear hb); (try clear hb2); (try clear hk); (try clear hi)))
                go_ret
                exact ⟨by first | rfl | (simp [errW_none, errW_some] <;> rfl) | (simp [*, errW_none, errW_some] <;> rfl), by repeat (first | (with_reducible first | exact HB.out | apply below_alloc | apply pw_below_drewN | apply below_drew1 | refine below_set ?_ GE281.out | refine below_set ?_ GE290.out) | exact HB.out)⟩
            · rw [if_neg c21] at H
              have c21b0 : (t288 == 0) = false := beq_eq_false_iff_ne.mpr c21
              have c21b1 : (t288 != 0) = true := bne_iff_ne.mpr c21
              obtain rfl := Option.some.inj H
              have hnb46 := NB290_281.out
              have hnc46 := NB281_290.out
              have hcz47_0 : wc.cell? ⟨gb290, 0, none⟩ = some (.int .i64 t282) := (blk_cell BK290.out 0).trans rfl
              have hcz47_1 : wc.cell? ⟨gb290, 1, none⟩ = some (.int .i64 t283) := (blk_cell BK290.out 1).trans rfl
              have hcz47_2 : wc.cell? ⟨gb290, 2, none⟩ = some (.int .i64 t284) := (blk_cell BK290.out 2).trans rfl
              have hcz47_3 : wc.cell? ⟨gb290, 3, none⟩ = some (.int .i64 t285) := (blk_cell BK290.out 3).trans rfl
              have hcz47_4 : wc.cell? ⟨gb290, 4, none⟩ = some (.int .i64 t286) := (blk_cell BK290.out 4).trans rfl
              have hcz47_5 : wc.cell? ⟨gb290, 5, none⟩ = some (.int .i64 t287) := (blk_cell BK290.out 5).trans rfl
              have hcz47_6 : wc.cell? ⟨gb290, 6, none⟩ = some (.int .i64 t288) := (blk_cell BK290.out 6).trans rfl
              have hfz47_0 := blk_frozen BK290.out 0
              have hfz47_1 := blk_frozen BK290.out 1
              have hfz47_2 := blk_frozen BK290.out 2
              have hfz47_3 := blk_frozen BK290.out 3
              have hfz47_4 := blk_frozen BK290.out 4
              have hfz47_5 := blk_frozen BK290.out 5
              have hfz47_6 := blk_frozen BK290.out 6
              go_wp2_with (first | ((with_reducible refine gate_callee (f := 25) rfl ?_); refine goesL_ (some 33) rfl rfl Try.func25 (by kernel_rfl) rfl #[.agg #[.int .i64 t282, .int .i64 t283, .int .i64 t284, .int .i64 t285, .int .i64 t286, .int .i64 t287, .int .i64 t288]] rfl (by (try simp only [List.map_toArray, List.map_cons, List.map_nil]); first | done | rfl | (simp only [List.length_drop, List.length_take]; rfl)) ?_; (with_reducible refine (civil_Seconds.calls t282 t283 t284 t285 t286 t287 t288 t291 t292 _ A19.out).mono ?_); rintro e w48 ⟨rfl, hb⟩; refine ⟨_, rfl, ?_⟩; have n0_ := Aside0.mk (blk_below (g := gb281) (o := .cells #[.int .i64 a1_0, .int .i64 a1_1, .int .i64 a1_2, .int .i64 a1_3, .int .i64 a1_4, .int .i64 a1_5, .int .i64 a1_6] 23 (0, 0)) (by (with_reducible repeat (first | refine blk_drewN ?_ _ | refine blk_drew ?_ | refine blk_alloc ?_ _)); exact BK281.out) hb); have n1_ := Aside0.mk (blk_below (g := gb290) (o := .cells #[.int .i64 t282, .int .i64 t283, .int .i64 t284, .int .i64 t285, .int .i64 t286, .int .i64 t287, .int .i64 t288] 23 (0, 0)) (by (with_reducible repeat (first | refine blk_drewN ?_ _ | refine blk_drew ?_ | refine blk_alloc ?_ _)); exact BK290.out) hb); have n2_ := Aside0.mk (below_step (by repeat (first | (with_reducible first | exact HB.out | apply below_alloc | apply pw_below_drewN | apply below_drew1 | refine below_set ?_ GE281.out | refine below_set ?_ GE290.out) | exact HB.out)) hb); clear BK281; clear BK290; clear HB; have BK281 := n0_; have BK290 := n1_; have HB := n2_; clear n0_ n1_ n2_; (try clear hb); (try clear hb2); (try clear hk); (try clear hi); have hcz49_0 : w48.cell? ⟨gb290, 0, none⟩ = some (.int .i64 t282) := (blk_cell BK290.out 0).trans rfl; have hcz49_1 : w48.cell? ⟨gb290, 1, none⟩ = some (.int .i64 t283) := (blk_cell BK290.out 1).trans rfl; have hcz49_2 : w48.cell? ⟨gb290, 2, none⟩ = some (.int .i64 t284) := (blk_cell BK290.out 2).trans rfl; have hcz49_3 : w48.cell? ⟨gb290, 3, none⟩ = some (.int .i64 t285) := (blk_cell BK290.out 3).trans rfl; have hcz49_4 : w48.cell? ⟨gb290, 4, none⟩ = some (.int .i64 t286) := (blk_cell BK290.out 4).trans rfl; have hcz49_5 : w48.cell? ⟨gb290, 5, none⟩ = some (.int .i64 t287) := (blk_cell BK290.out 5).trans rfl; have hcz49_6 : w48.cell? ⟨gb290, 6, none⟩ = some (.int .i64 t288) := (blk_cell BK290.out 6).trans rfl; have hfz49_0 := blk_frozen BK290.out 0; have hfz49_1 := blk_frozen BK290.out 1; have hfz49_2 := blk_frozen BK290.out 2; have hfz49_3 := blk_frozen BK290.out 3; have hfz49_4 := blk_frozen BK290.out 4; have hfz49_5 := blk_frozen BK290.out 5; have hfz49_6 := blk_frozen BK290.out 6))
              go_ret
              exact ⟨by first | rfl | (simp [errW_none, errW_some] <;> rfl) | (simp [*, errW_none, errW_some] <;> rfl), by repeat (first | (with_reducible first | exact HB.out | apply below_alloc | apply pw_below_drewN | apply below_drew1 | refine below_set ?_ GE281.out | refine below_set ?_ GE290.out) | exact HB.out)⟩
          · rw [if_neg c20] at H
            have c20b0 : (t289 == 0) = false := beq_eq_false_iff_ne.mpr c20
            have c20b1 : (t289 != 0) = true := bne_iff_ne.mpr c20
            obtain rfl := Option.some.inj H
            have hnb50 := NB290_281.out
            have hnc50 := NB281_290.out
            have hcz51_0 : wc.cell? ⟨gb290, 0, none⟩ = some (.int .i64 t282) := (blk_cell BK290.out 0).trans rfl
            have hcz51_1 : wc.cell? ⟨gb290, 1, none⟩ = some (.int .i64 t283) := (blk_cell BK290.out 1).trans rfl
            have hcz51_2 : wc.cell? ⟨gb290, 2, none⟩ = some (.int .i64 t284) := (blk_cell BK290.out 2).trans rfl
            have hcz51_3 : wc.cell? ⟨gb290, 3, none⟩ = some (.int .i64 t285) := (blk_cell BK290.out 3).trans rfl
            have hcz51_4 : wc.cell? ⟨gb290, 4, none⟩ = some (.int .i64 t286) := (blk_cell BK290.out 4).trans rfl
            have hcz51_5 : wc.cell? ⟨gb290, 5, none⟩ = some (.int .i64 t287) := (blk_cell BK290.out 5).trans rfl
            have hcz51_6 : wc.cell? ⟨gb290, 6, none⟩ = some (.int .i64 t288) := (blk_cell BK290.out 6).trans rfl
            have hfz51_0 := blk_frozen BK290.out 0
            have hfz51_1 := blk_frozen BK290.out 1
            have hfz51_2 := blk_frozen BK290.out 2
            have hfz51_3 := blk_frozen BK290.out 3
            have hfz51_4 := blk_frozen BK290.out 4
            have hfz51_5 := blk_frozen BK290.out 5
            have hfz51_6 := blk_frozen BK290.out 6
            go_wp2_with (first | ((with_reducible refine gate_callee (f := 25) rfl ?_); refine goesL_ (some 33) rfl rfl Try.func25 (by kernel_rfl) rfl #[.agg #[.int .i64 t282, .int .i64 t283, .int .i64 t284, .int .i64 t285, .int .i64 t286, .int .i64 t287, .int .i64 t288]] rfl (by (try simp only [List.map_toArray, List.map_cons, List.map_nil]); first | done | rfl | (simp only [List.length_drop, List.length_take]; rfl)) ?_; (with_reducible refine (civil_Seconds.calls t282 t283 t284 t285 t286 t287 t288 t291 t292 _ A19.out).mono ?_); rintro e w52 ⟨rfl, hb⟩; refine ⟨_, rfl, ?_⟩; have n0_ := Aside0.mk (blk_below (g := gb281) (o := .cells #[.int .i64 a1_0, .int .i64 a1_1, .int .i64 a1_2, .int .i64 a1_3, .int .i64 a1_4, .int .i64 a1_5, .int .i64 a1_6] 23 (0, 0)) (by (with_reducible repeat (first | refine blk_drewN ?_ _ | refine blk_drew ?_ | refine blk_alloc ?_ _)); exact BK281.out) hb); have n1_ := Aside0.mk (blk_below (g := gb290) (o := .cells #[.int .i64 t282, .int .i64 t283, .int .i64 t284, .int .i64 t285, .int .i64 t286, .int .i64 t287, .int .i64 t288] 23 (0, 0)) (by (with_reducible repeat (first | refine blk_drewN ?_ _ | refine blk_drew ?_ | refine blk_alloc ?_ _)); exact BK290.out) hb); have n2_ := Aside0.mk (below_step (by repeat (first | (with_reducible first | exact HB.out | apply below_alloc | apply pw_below_drewN | apply below_drew1 | refine below_set ?_ GE281.out | refine below_set ?_ GE290.out) | exact HB.out)) hb); clear BK281; clear BK290; clear HB; have BK281 := n0_; have BK290 := n1_; have HB := n2_; clear n0_ n1_ n2_; (try clear hb); (try clear hb2); (try clear hk); (try clear hi)))
            go_ret
            exact ⟨by first | rfl | (simp [errW_none, errW_some] <;> rfl) | (simp [*, errW_none, errW_some] <;> rfl), by repeat (first | (with_reducible first | exact HB.out | apply below_alloc | apply pw_below_drewN | apply below_drew1 | refine below_set ?_ GE281.out | refine below_set ?_ GE290.out) | exact HB.out)⟩
      case rest =>
        clear HC11
        try clear c1
        try clear c2
        try clear p2
        try clear c3
        try clear c4
        try clear c5
        try clear c8
        try clear c10
        try clear c10b0
        try clear c11
        try clear c12
        try clear c13
        try clear c13b0
        try clear c13b1
        try clear c14
        try clear c14b0
        try clear c15
        try clear c17
        try clear c20
        try clear c20b0
        try clear c20b1
        try clear c21
        try clear c21b0
        try clear c21b1
        try clear c23
        try clear c23b0
        try clear c23b1
        try clear c24
        try clear c24b0
        try clear c24b1
        try clear c25
        try clear c25b0
        try clear c25b1
        try clear c26
        try clear c31
        try clear c36
        try clear c41
        try clear c46
        try clear c50
        try clear hcz16_0
        try clear hcz16_1
        try clear hcz16_2
        try clear hcz16_3
        try clear hcz16_4
        try clear hcz16_5
        try clear hcz16_6
        try clear hcz18_0
        try clear hcz18_1
        try clear hcz18_2
        try clear hcz18_3
        try clear hcz18_4
        try clear hcz18_5
        try clear hcz18_6
        try clear hcz27_0
        try clear hcz27_1
        try clear hcz27_2
        try clear hcz27_3
        try clear hcz27_4
        try clear hcz27_5
        try clear hcz27_6
        try clear hcz29_0
        try clear hcz29_1
        try clear hcz29_2
        try clear hcz29_3
        try clear hcz29_4
        try clear hcz29_5
        try clear hcz29_6
        try clear hcz32_0
        try clear hcz32_1
        try clear hcz32_2
        try clear hcz32_3
        try clear hcz32_4
        try clear hcz32_5
        try clear hcz32_6
        try clear hcz34_0
        try clear hcz34_1
        try clear hcz34_2
        try clear hcz34_3
        try clear hcz34_4
        try clear hcz34_5
        try clear hcz34_6
        try clear hcz37_0
        try clear hcz37_1
        try clear hcz37_2
        try clear hcz37_3
        try clear hcz37_4
        try clear hcz37_5
        try clear hcz37_6
        try clear hcz39_0
        try clear hcz39_1
        try clear hcz39_2
        try clear hcz39_3
        try clear hcz39_4
        try clear hcz39_5
        try clear hcz39_6
        try clear hcz42_0
        try clear hcz42_1
        try clear hcz42_2
        try clear hcz42_3
        try clear hcz42_4
        try clear hcz42_5
        try clear hcz42_6
        try clear hcz44_0
        try clear hcz44_1
        try clear hcz44_2
        try clear hcz44_3
        try clear hcz44_4
        try clear hcz44_5
        try clear hcz44_6
        try clear hcz47_0
        try clear hcz47_1
        try clear hcz47_2
        try clear hcz47_3
        try clear hcz47_4
        try clear hcz47_5
        try clear hcz47_6
        try clear hcz49_0
        try clear hcz49_1
        try clear hcz49_2
        try clear hcz49_3
        try clear hcz49_4
        try clear hcz49_5
        try clear hcz49_6
        try clear hcz51_0
        try clear hcz51_1
        try clear hcz51_2
        try clear hcz51_3
        try clear hcz51_4
        try clear hcz51_5
        try clear hcz51_6
        try clear hcz9_0
        try clear hcz9_1
        try clear hcz9_2
        try clear hcz9_3
        try clear hcz9_4
        try clear hcz9_5
        try clear hcz9_6
        try clear hfz16_0
        try clear hfz16_1
        try clear hfz16_2
        try clear hfz16_3
        try clear hfz16_4
        try clear hfz16_5
        try clear hfz16_6
        try clear hfz18_0
        try clear hfz18_1
        try clear hfz18_2
        try clear hfz18_3
        try clear hfz18_4
        try clear hfz18_5
        try clear hfz18_6
        try clear hfz27_0
        try clear hfz27_1
        try clear hfz27_2
        try clear hfz27_3
        try clear hfz27_4
        try clear hfz27_5
        try clear hfz27_6
        try clear hfz29_0
        try clear hfz29_1
        try clear hfz29_2
        try clear hfz29_3
        try clear hfz29_4
        try clear hfz29_5
        try clear hfz29_6
        try clear hfz32_0
        try clear hfz32_1
        try clear hfz32_2
        try clear hfz32_3
        try clear hfz32_4
        try clear hfz32_5
        try clear hfz32_6
        try clear hfz34_0
        try clear hfz34_1
        try clear hfz34_2
        try clear hfz34_3
        try clear hfz34_4
        try clear hfz34_5
        try clear hfz34_6
        try clear hfz37_0
        try clear hfz37_1
        try clear hfz37_2
        try clear hfz37_3
        try clear hfz37_4
        try clear hfz37_5
        try clear hfz37_6
        try clear hfz39_0
        try clear hfz39_1
        try clear hfz39_2
        try clear hfz39_3
        try clear hfz39_4
        try clear hfz39_5
        try clear hfz39_6
        try clear hfz42_0
        try clear hfz42_1
        try clear hfz42_2
        try clear hfz42_3
        try clear hfz42_4
        try clear hfz42_5
        try clear hfz42_6
        try clear hfz44_0
        try clear hfz44_1
        try clear hfz44_2
        try clear hfz44_3
        try clear hfz44_4
        try clear hfz44_5
        try clear hfz44_6
        try clear hfz47_0
        try clear hfz47_1
        try clear hfz47_2
        try clear hfz47_3
        try clear hfz47_4
        try clear hfz47_5
        try clear hfz47_6
        try clear hfz49_0
        try clear hfz49_1
        try clear hfz49_2
        try clear hfz49_3
        try clear hfz49_4
        try clear hfz49_5
        try clear hfz49_6
        try clear hfz51_0
        try clear hfz51_1
        try clear hfz51_2
        try clear hfz51_3
        try clear hfz51_4
        try clear hfz51_5
        try clear hfz51_6
        try clear hfz9_0
        try clear hfz9_1
        try clear hfz9_2
        try clear hfz9_3
        try clear hfz9_4
        try clear hfz9_5
        try clear hfz9_6
        try clear p2
        obtain ⟨kq, HA, HJ10, BK281, BK290, HB⟩ := hcut
        cases kq with
        | zero => exact absurd HA.out (by simp [timesynclaw05_CivilRoundTrip.j1])
        | succ kj10 =>
          have H := HA.out
          clear HA
          simp only [timesynclaw05_CivilRoundTrip.j1] at H
          replace H := Option.bind_eq_some_iff.mp H
          obtain ⟨⟨t294, t295⟩, A530, H⟩ := H
          replace H : (if t295 = 0 then ((civil_Of.f t294).bind fun bt296 => (if (bt296.1 == a1_0 && (bt296.2.1 == a1_1 && (bt296.2.2.1 == a1_2 && (bt296.2.2.2.1 == a1_3 && (bt296.2.2.2.2.1 == a1_4 && (bt296.2.2.2.2.2.1 == a1_5 && (bt296.2.2.2.2.2.2.1 == 0))))))) = true then (if bt296.2.2.2.2.2.2.2 = 0 then ((timesynclaw05_awake.f).bind fun t305 => (some t305)) else (some false)) else (some false))) else (if t294 = 0 then (if t295 = 3 then ((timesynclaw05_awake.f).bind fun t306 => (some t306)) else (some false)) else (some false))) = some r := H
          have A53 := Aside0.mk A530
          clear A530
          by_cases c54 : t295 = 0
          · rw [if_pos c54] at H
            have c54b0 : (t295 == 0) = true := beq_iff_eq.mpr c54
            have c54b1 : (t295 != 0) = false := bne_eq_false_iff_eq.mpr c54
            clear c54
            replace H := Option.bind_eq_some_iff.mp H
            obtain ⟨⟨t296, t297, t298, t299, t300, t301, t302, t303⟩, A550, H⟩ := H
            replace H : (if (t296 == a1_0 && (t297 == a1_1 && (t298 == a1_2 && (t299 == a1_3 && (t300 == a1_4 && (t301 == a1_5 && (t302 == 0))))))) = true then (if t303 = 0 then ((timesynclaw05_awake.f).bind fun t305 => (some t305)) else (some false)) else (some false)) = some r := H
            have A55 := Aside0.mk A550
            clear A550
            by_cases c56 : (t296 == a1_0 && (t297 == a1_1 && (t298 == a1_2 && (t299 == a1_3 && (t300 == a1_4 && (t301 == a1_5 && (t302 == 0))))))) = true
            · rw [if_pos c56] at H
              have c56b0 : (t296 == a1_0 && (t297 == a1_1 && (t298 == a1_2 && (t299 == a1_3 && (t300 == a1_4 && (t301 == a1_5 && (t302 == 0))))))) = true := c56
              (try (have c56b1 : decide (t296 = a1_0 && (t297 == a1_1 && (t298 == a1_2 && (t299 == a1_3 && (t300 == a1_4 && (t301 == a1_5 && (t302 == 0))))))) = true := by simpa using c56))
              (try (have c56b2 : (t296 == a1_0 && (t297 == a1_1 && (t298 == a1_2 && (t299 == a1_3 && (t300 == a1_4 && (t301 == a1_5 && (t302 == 0))))))) = true := by simpa using c56))
              clear c56
              by_cases c57 : t303 = 0
              · rw [if_pos c57] at H
                have c57b0 : (t303 == 0) = true := beq_iff_eq.mpr c57
                have c57b1 : (t303 != 0) = false := bne_eq_false_iff_eq.mpr c57
                clear c57
                replace H := Option.bind_eq_some_iff.mp H
                obtain ⟨t305, A580, H⟩ := H
                replace H : (some t305) = some r := H
                have A58 := Aside0.mk A580
                clear A580
                obtain rfl := Option.some.inj H
                have hnb59 := NB281_290.out
                have hnc59 := NB290_281.out
                have hcz60_0 : wc.cell? ⟨gb281, 0, none⟩ = some (.int .i64 a1_0) := (blk_cell BK281.out 0).trans rfl
                have hcz60_1 : wc.cell? ⟨gb281, 1, none⟩ = some (.int .i64 a1_1) := (blk_cell BK281.out 1).trans rfl
                have hcz60_2 : wc.cell? ⟨gb281, 2, none⟩ = some (.int .i64 a1_2) := (blk_cell BK281.out 2).trans rfl
                have hcz60_3 : wc.cell? ⟨gb281, 3, none⟩ = some (.int .i64 a1_3) := (blk_cell BK281.out 3).trans rfl
                have hcz60_4 : wc.cell? ⟨gb281, 4, none⟩ = some (.int .i64 a1_4) := (blk_cell BK281.out 4).trans rfl
                have hcz60_5 : wc.cell? ⟨gb281, 5, none⟩ = some (.int .i64 a1_5) := (blk_cell BK281.out 5).trans rfl
                have hcz60_6 : wc.cell? ⟨gb281, 6, none⟩ = some (.int .i64 a1_6) := (blk_cell BK281.out 6).trans rfl
                have hfz60_0 := blk_frozen BK281.out 0
                have hfz60_1 := blk_frozen BK281.out 1
                have hfz60_2 := blk_frozen BK281.out 2
                have hfz60_3 := blk_frozen BK281.out 3
                have hfz60_4 := blk_frozen BK281.out 4
                have hfz60_5 := blk_frozen BK281.out 5
                have hfz60_6 := blk_frozen BK281.out 6
                go_wp2_with (first | ((with_reducible refine gate_callee (f := 25) rfl ?_); refine goesL_ (some 59) rfl rfl Try.func25 (by kernel_rfl) rfl #[.agg #[.int .i64 a1_0, .int .i64 a1_1, .int .i64 a1_2, .int .i64 a1_3, .int .i64 a1_4, .int .i64 a1_5, .int .i64 a1_6]] rfl (by (try simp only [List.map_toArray, List.map_cons, List.map_nil]); first | done | rfl | (simp only [List.length_drop, List.length_take]; rfl)) ?_; (with_reducible refine (civil_Seconds.calls a1_0 a1_1 a1_2 a1_3 a1_4 a1_5 a1_6 t294 t295 _ A53.out).mono ?_); rintro e w61 ⟨rfl, hb⟩; refine ⟨_, rfl, ?_⟩; have n0_ := Aside0.mk (blk_below (g := gb281) (o := .cells #[.int .i64 a1_0, .int .i64 a1_1, .int .i64 a1_2, .int .i64 a1_3, .int .i64 a1_4, .int .i64 a1_5, .int .i64 a1_6] 23 (0, 0)) (by (with_reducible repeat (first | refine blk_drewN ?_ _ | refine blk_drew ?_ | refine blk_alloc ?_ _)); exact BK281.out) hb); have n1_ := Aside0.mk (blk_below (g := gb290) (o := .cells #[.int .i64 t282, .int .i64 t283, .int .i64 t284, .int .i64 t285, .int .i64 t286, .int .i64 t287, .int .i64 t288] 23 (0, 0)) (by (with_reducible repeat (first | refine blk_drewN ?_ _ | refine blk_drew ?_ | refine blk_alloc ?_ _)); exact BK290.out) hb); have n2_ := Aside0.mk (below_step (by repeat (first | (with_reducible first | exact HB.out | apply below_alloc | apply pw_below_drewN | apply below_drew1 | refine below_set ?_ GE281.out | refine below_set ?_ GE290.out) | exact HB.out)) hb); clear BK281; clear BK290; clear HB; have BK281 := n0_; have BK290 := n1_; have HB := n2_; clear n0_ n1_ n2_; (try clear hb); (try clear hb2); (try clear hk); (try clear hi)) | ((with_reducible refine gate_callee (f := 11) rfl ?_); refine goesL_ (some 75) rfl rfl Try.func11 (by kernel_rfl) rfl #[.int .i64 t294] rfl (by (try simp only [List.map_toArray, List.map_cons, List.map_nil]); first | done | rfl | (simp only [List.length_drop, List.length_take]; rfl)) ?_; (with_reducible refine (civil_Of.calls t294 t296 t297 t298 t299 t300 t301 t302 t303 _ A55.out).mono ?_); rintro e w62 ⟨rfl, hb⟩; refine ⟨_, rfl, ?_⟩; have n0_ := Aside0.mk (blk_below (g := gb281) (o := .cells #[.int .i64 a1_0, .int .i64 a1_1, .int .i64 a1_2, .int .i64 a1_3, .int .i64 a1_4, .int .i64 a1_5, .int .i64 a1_6] 23 (0, 0)) (by (with_reducible repeat (first | refine blk_drewN ?_ _ | refine blk_drew ?_ | refine blk_alloc ?_ _)); exact BK281.out) hb); have n1_ := Aside0.mk (blk_below (g := gb290) (o := .cells #[.int .i64 t282, .int .i64 t283, .int .i64 t284, .int .i64 t285, .int .i64 t286, .int .i64 t287, .int .i64 t288] 23 (0, 0)) (by (with_reducible repeat (first | refine blk_drewN ?_ _ | refine blk_drew ?_ | refine blk_alloc ?_ _)); exact BK290.out) hb); have n2_ := Aside0.mk (below_step (by repeat (first | (with_reducible first | exact HB.out | apply below_alloc | apply pw_below_drewN | apply below_drew1 | refine below_set ?_ GE281.out | refine below_set ?_ GE290.out) | exact HB.out)) hb); clear BK281; clear BK290; clear HB; have BK281 := n0_; have BK290 := n1_; have HB := n2_; clear n0_ n1_ n2_; (try clear hb); (try clear hb2); (try clear hk); (try clear hi)) | ((with_reducible refine gate_dst (N := 11) rfl ?_); refine box_event ?hg (N := 11) ?hd (cs := #[.int .i64 0, .int .i64 0, .int .i64 0, .int .i64 0, .int .i64 0, .int .i64 0, .int .i64 0]) (t := 23) ?hr ?_; (case hd => rfl); (case hg => rfl); (case hr => first | (go_simp; done) | (go_simp; rfl)); intro gb304 hg w63 hbox hb; have n0_ := Aside0.mk (blk_below (g := gb281) (o := .cells #[.int .i64 a1_0, .int .i64 a1_1, .int .i64 a1_2, .int .i64 a1_3, .int .i64 a1_4, .int .i64 a1_5, .int .i64 a1_6] 23 (0, 0)) (by (with_reducible repeat (first | refine blk_drewN ?_ _ | refine blk_drew ?_ | refine blk_alloc ?_ _)); exact BK281.out) hb); have n1_ := Aside0.mk (blk_below (g := gb290) (o := .cells #[.int .i64 t282, .int .i64 t283, .int .i64 t284, .int .i64 t285, .int .i64 t286, .int .i64 t287, .int .i64 t288] 23 (0, 0)) (by (with_reducible repeat (first | refine blk_drewN ?_ _ | refine blk_drew ?_ | refine blk_alloc ?_ _)); exact BK290.out) hb); have n2_ := Aside0.mk (below_step (by repeat (first | (with_reducible first | exact HB.out | apply below_alloc | apply pw_below_drewN | apply below_drew1 | refine below_set ?_ GE281.out | refine below_set ?_ GE290.out) | exact HB.out)) hb); have n3_ := Aside0.mk (hbox); have n4_ := Aside0.mk ((by rw [hg]; exact (below_size (by repeat (first | (with_reducible first | exact HB.out | apply below_alloc | apply pw_below_drewN | apply below_drew1 | refine below_set ?_ GE281.out | refine below_set ?_ GE290.out) | exact HB.out))) : w.heap.size ≤ gb304)); have n5_ := Aside0.mk ((by rw [hg]; exact (below_size (by repeat (first | (with_reducible first | exact HB.out | apply below_alloc | apply pw_below_drewN | apply below_drew1 | refine below_set ?_ GE281.out | refine below_set ?_ GE290.out) | exact HB.out))) : w.heap.size ≤ gb304)); have n6_ := Aside0.mk ((by rw [hg]; exact Nat.ne_of_lt (blk_lt (g := gb281) (o := .cells #[.int .i64 a1_0, .int .i64 a1_1, .int .i64 a1_2, .int .i64 a1_3, .int .i64 a1_4, .int .i64 a1_5, .int .i64 a1_6] 23 (0, 0)) (by (with_reducible repeat (first | refine blk_drewN ?_ _ | refine blk_drew ?_ | refine blk_alloc ?_ _)); exact BK281.out)) : gb281 ≠ gb304)); have n7_ := Aside0.mk ((by rw [hg]; exact Nat.ne_of_gt (blk_lt (g := gb281) (o := .cells #[.int .i64 a1_0, .int .i64 a1_1, .int .i64 a1_2, .int .i64 a1_3, .int .i64 a1_4, .int .i64 a1_5, .int .i64 a1_6] 23 (0, 0)) (by (with_reducible repeat (first | refine blk_drewN ?_ _ | refine blk_drew ?_ | refine blk_alloc ?_ _)); exact BK281.out)) : gb304 ≠ gb281)); have n8_ := Aside0.mk ((by rw [hg]; exact Nat.ne_of_lt (blk_lt (g := gb290) (o := .cells #[.int .i64 t282, .int .i64 t283, .int .i64 t284, .int .i64 t285, .int .i64 t286, .int .i64 t287, .int .i64 t288] 23 (0, 0)) (by (with_reducible repeat (first | refine blk_drewN ?_ _ | refine blk_drew ?_ | refine blk_alloc ?_ _)); exact BK290.out)) : gb290 ≠ gb304)); have n9_ := Aside0.mk ((by rw [hg]; exact Nat.ne_of_gt (blk_lt (g := gb290) (o := .cells #[.int .i64 t282, .int .i64 t283, .int .i64 t284, .int .i64 t285, .int .i64 t286, .int .i64 t287, .int .i64 t288] 23 (0, 0)) (by (with_reducible repeat (first | refine blk_drewN ?_ _ | refine blk_drew ?_ | refine blk_alloc ?_ _)); exact BK290.out)) : gb304 ≠ gb290)); clear BK281; clear BK290; clear HB; have BK281 := n0_; have BK290 := n1_; have HB := n2_; have BK304 := n3_; have GW304 := n4_; have GE304 := n5_; have NB281_304 := n6_; have NB304_281 := n7_; have NB290_304 := n8_; have NB304_290 := n9_; clear n0_ n1_ n2_ n3_ n4_ n5_ n6_ n7_ n8_ n9_; clear hb hbox hg; have hnb64 := NB304_281.out; have hnc64 := NB281_304.out; have hnb65 := NB304_290.out; have hnc65 := NB290_304.out; have hcz66_0 : w63.cell? ⟨gb304, 0, none⟩ = some (.int .i64 0) := (blk_cell BK304.out 0).trans rfl; have hcz66_1 : w63.cell? ⟨gb304, 1, none⟩ = some (.int .i64 0) := (blk_cell BK304.out 1).trans rfl; have hcz66_2 : w63.cell? ⟨gb304, 2, none⟩ = some (.int .i64 0) := (blk_cell BK304.out 2).trans rfl; have hcz66_3 : w63.cell? ⟨gb304, 3, none⟩ = some (.int .i64 0) := (blk_cell BK304.out 3).trans rfl; have hcz66_4 : w63.cell? ⟨gb304, 4, none⟩ = some (.int .i64 0) := (blk_cell BK304.out 4).trans rfl; have hcz66_5 : w63.cell? ⟨gb304, 5, none⟩ = some (.int .i64 0) := (blk_cell BK304.out 5).trans rfl; have hcz66_6 : w63.cell? ⟨gb304, 6, none⟩ = some (.int .i64 0) := (blk_cell BK304.out 6).trans rfl; have hfz66_0 := blk_frozen BK304.out 0; have hfz66_1 := blk_frozen BK304.out 1; have hfz66_2 := blk_frozen BK304.out 2; have hfz66_3 := blk_frozen BK304.out 3; have hfz66_4 := blk_frozen BK304.out 4; have hfz66_5 := blk_frozen BK304.out 5; have hfz66_6 := blk_frozen BK304.out 6; have hcz67_0 : w63.cell? ⟨gb281, 0, none⟩ = some (.int .i64 a1_0) := (blk_cell BK281.out 0).trans rfl; have hcz67_1 : w63.cell? ⟨gb281, 1, none⟩ = some (.int .i64 a1_1) := (blk_cell BK281.out 1).trans rfl; have hcz67_2 : w63.cell? ⟨gb281, 2, none⟩ = some (.int .i64 a1_2) := (blk_cell BK281.out 2).trans rfl; have hcz67_3 : w63.cell? ⟨gb281, 3, none⟩ = some (.int .i64 a1_3) := (blk_cell BK281.out 3).trans rfl; have hcz67_4 : w63.cell? ⟨gb281, 4, none⟩ = some (.int .i64 a1_4) := (blk_cell BK281.out 4).trans rfl; have hcz67_5 : w63.cell? ⟨gb281, 5, none⟩ = some (.int .i64 a1_5) := (blk_cell BK281.out 5).trans rfl; have hcz67_6 : w63.cell? ⟨gb281, 6, none⟩ = some (.int .i64 a1_6) := (blk_cell BK281.out 6).trans rfl; have hfz67_0 := blk_frozen BK281.out 0; have hfz67_1 := blk_frozen BK281.out 1; have hfz67_2 := blk_frozen BK281.out 2; have hfz67_3 := blk_frozen BK281.out 3; have hfz67_4 := blk_frozen BK281.out 4; have hfz67_5 := blk_frozen BK281.out 5; have hfz67_6 := blk_frozen BK281.out 6) | (go_at_call 13; (with_reducible refine (timesynclaw05_awake.calls  t305 _ A58.out).mono ?_); rintro e w68 ⟨rfl, hb⟩; have n0_ := Aside0.mk (blk_below (g := gb281) (o := .cells #[.int .i64 a1_0, .int .i64 a1_1, .int .i64 a1_2, .int .i64 a1_3, .int .i64 a1_4, .int .i64 a1_5, .int .i64 0] 23 (0, 0)) (by (with_reducible repeat (first | refine blk_drewN ?_ _ | refine blk_drew ?_ | refine blk_alloc ?_ _)); refine blk_put (cs := #[.int .i64 a1_0, .int .i64 a1_1, .int .i64 a1_2, .int .i64 a1_3, .int .i64 a1_4, .int .i64 a1_5, .int .i64 a1_6]) ?_ 6 _ rfl; (with_reducible repeat (first | refine blk_drewN ?_ _ | refine blk_drew ?_ | refine blk_alloc ?_ _)); refine blk_far ?_ NB281_304.out _; (with_reducible repeat (first | refine blk_drewN ?_ _ | refine blk_drew ?_ | refine blk_alloc ?_ _)); refine blk_far ?_ NB281_304.out _; (with_reducible repeat (first | refine blk_drewN ?_ _ | refine blk_drew ?_ | refine blk_alloc ?_ _)); refine blk_far ?_ NB281_304.out _; (with_reducible repeat (first | refine blk_drewN ?_ _ | refine blk_drew ?_ | refine blk_alloc ?_ _)); refine blk_far ?_ NB281_304.out _; (with_reducible repeat (first | refine blk_drewN ?_ _ | refine blk_drew ?_ | refine blk_alloc ?_ _)); refine blk_far ?_ NB281_304.out _; (with_reducible repeat (first | refine blk_drewN ?_ _ | refine blk_drew ?_ | refine blk_alloc ?_ _)); refine blk_far ?_ NB281_304.out _; (with_reducible repeat (first | refine blk_drewN ?_ _ | refine blk_drew ?_ | refine blk_alloc ?_ _)); refine blk_far ?_ NB281_304.out _; (with_reducible repeat (first | refine blk_drewN ?_ _ | refine blk_drew ?_ | refine blk_alloc ?_ _)); exact BK281.out) hb); have n1_ := Aside0.mk (blk_below (g := gb290) (o := .cells #[.int .i64 t282, .int .i64 t283, .int .i64 t284, .int .i64 t285, .int .i64 t286, .int .i64 t287, .int .i64 t288] 23 (0, 0)) (by (with_reducible repeat (first | refine blk_drewN ?_ _ | refine blk_drew ?_ | refine blk_alloc ?_ _)); refine blk_far ?_ NB290_281.out _; (with_reducible repeat (first | refine blk_drewN ?_ _ | refine blk_drew ?_ | refine blk_alloc ?_ _)); refine blk_far ?_ NB290_304.out _; (with_reducible repeat (first | refine blk_drewN ?_ _ | refine blk_drew ?_ | refine blk_alloc ?_ _)); refine blk_far ?_ NB290_304.out _; (with_reducible repeat (first | refine blk_drewN ?_ _ | refine blk_drew ?_ | refine blk_alloc ?_ _)); refine blk_far ?_ NB290_304.out _; (with_reducible repeat (first | refine blk_drewN ?_ _ | refine blk_drew ?_ | refine blk_alloc ?_ _)); refine blk_far ?_ NB290_304.out _; (with_reducible repeat (first | refine blk_drewN ?_ _ | refine blk_drew ?_ | refine blk_alloc ?_ _)); refine blk_far ?_ NB290_304.out _; (with_reducible repeat (first | refine blk_drewN ?_ _ | refine blk_drew ?_ | refine blk_alloc ?_ _)); refine blk_far ?_ NB290_304.out _; (with_reducible repeat (first | refine blk_drewN ?_ _ | refine blk_drew ?_ | refine blk_alloc ?_ _)); refine blk_far ?_ NB290_304.out _; (with_reducible repeat (first | refine blk_drewN ?_ _ | refine blk_drew ?_ | refine blk_alloc ?_ _)); exact BK290.out) hb); have n2_ := Aside0.mk (blk_below (g := gb304) (o := .cells #[.int .i64 t296, .int .i64 t297, .int .i64 t298, .int .i64 t299, .int .i64 t300, .int .i64 t301, .int .i64 t302] 23 (0, 0)) (by (with_reducible repeat (first | refine blk_drewN ?_ _ | refine blk_drew ?_ | refine blk_alloc ?_ _)); refine blk_far ?_ NB304_281.out _; (with_reducible repeat (first | refine blk_drewN ?_ _ | refine blk_drew ?_ | refine blk_alloc ?_ _)); refine blk_put (cs := #[.int .i64 t296, .int .i64 t297, .int .i64 t298, .int .i64 t299, .int .i64 t300, .int .i64 t301, .int .i64 0]) ?_ 6 _ rfl; (with_reducible repeat (first | refine blk_drewN ?_ _ | refine blk_drew ?_ | refine blk_alloc ?_ _)); refine blk_put (cs := #[.int .i64 t296, .int .i64 t297, .int .i64 t298, .int .i64 t299, .int .i64 t300, .int .i64 0, .int .i64 0]) ?_ 5 _ rfl; (with_reducible repeat (first | refine blk_drewN ?_ _ | refine blk_drew ?_ | refine blk_alloc ?_ _)); refine blk_put (cs := #[.int .i64 t296, .int .i64 t297, .int .i64 t298, .int .i64 t299, .int .i64 0, .int .i64 0, .int .i64 0]) ?_ 4 _ rfl; (with_reducible repeat (first | refine blk_drewN ?_ _ | refine blk_drew ?_ | refine blk_alloc ?_ _)); refine blk_put (cs := #[.int .i64 t296, .int .i64 t297, .int .i64 t298, .int .i64 0, .int .i64 0, .int .i64 0, .int .i64 0]) ?_ 3 _ rfl; (with_reducible repeat (first | refine blk_drewN ?_ _ | refine blk_drew ?_ | refine blk_alloc ?_ _)); refine blk_put (cs := #[.int .i64 t296, .int .i64 t297, .int .i64 0, .int .i64 0, .int .i64 0, .int .i64 0, .int .i64 0]) ?_ 2 _ rfl; (with_reducible repeat (first | refine blk_drewN ?_ _ | refine blk_drew ?_ | refine blk_alloc ?_ _)); refine blk_put (cs := #[.int .i64 t296, .int .i64 0, .int .i64 0, .int .i64 0, .int .i64 0, .int .i64 0, .int .i64 0]) ?_ 1 _ rfl; (with_reducible repeat (first | refine blk_drewN ?_ _ | refine blk_drew ?_ | refine blk_alloc ?_ _)); refine blk_put (cs := #[.int .i64 0, .int .i64 0, .int .i64 0, .int .i64 0, .int .i64 0, .int .i64 0, .int .i64 0]) ?_ 0 _ rfl; (with_reducible repeat (first | refine blk_drewN ?_ _ | refine blk_drew ?_ | refine blk_alloc ?_ _)); exact BK304.out) hb); have n3_ := Aside0.mk (below_step (by repeat (first | (with_reducible first | exact HB.out | apply below_alloc | apply pw_below_drewN | apply below_drew1 | refine below_set ?_ GE281.out | refine below_set ?_ GE290.out | refine below_set ?_ GE304.out) | exact HB.out)) hb); clear BK281; clear BK290; clear BK304; clear HB; have BK281 := n0_; have BK290 := n1_; have BK304 := n2_; have HB := n3_; clear n0_ n1_ n2_ n3_; (try clear hb); (try clear hb2); (try clear hk); (try clear hi)))
                go_ret
                exact ⟨by first | rfl | (simp [errW_none, errW_some] <;> rfl) | (simp [*, errW_none, errW_some] <;> rfl), by repeat (first | (with_reducible first | exact HB.out | apply below_alloc | apply pw_below_drewN | apply below_drew1 | refine below_set ?_ GE281.out | refine below_set ?_ GE290.out | refine below_set ?_ GE304.out) | exact HB.out)⟩
              · rw [if_neg c57] at H
                have c57b0 : (t303 == 0) = false := beq_eq_false_iff_ne.mpr c57
                have c57b1 : (t303 != 0) = true := bne_iff_ne.mpr c57
                obtain rfl := Option.some.inj H
                have hnb69 := NB281_290.out
                have hnc69 := NB290_281.out
                have hcz70_0 : wc.cell? ⟨gb281, 0, none⟩ = some (.int .i64 a1_0) := (blk_cell BK281.out 0).trans rfl
                have hcz70_1 : wc.cell? ⟨gb281, 1, none⟩ = some (.int .i64 a1_1) := (blk_cell BK281.out 1).trans rfl
                have hcz70_2 : wc.cell? ⟨gb281, 2, none⟩ = some (.int .i64 a1_2) := (blk_cell BK281.out 2).trans rfl
                have hcz70_3 : wc.cell? ⟨gb281, 3, none⟩ = some (.int .i64 a1_3) := (blk_cell BK281.out 3).trans rfl
                have hcz70_4 : wc.cell? ⟨gb281, 4, none⟩ = some (.int .i64 a1_4) := (blk_cell BK281.out 4).trans rfl
                have hcz70_5 : wc.cell? ⟨gb281, 5, none⟩ = some (.int .i64 a1_5) := (blk_cell BK281.out 5).trans rfl
                have hcz70_6 : wc.cell? ⟨gb281, 6, none⟩ = some (.int .i64 a1_6) := (blk_cell BK281.out 6).trans rfl
                have hfz70_0 := blk_frozen BK281.out 0
                have hfz70_1 := blk_frozen BK281.out 1
                have hfz70_2 := blk_frozen BK281.out 2
                have hfz70_3 := blk_frozen BK281.out 3
                have hfz70_4 := blk_frozen BK281.out 4
                have hfz70_5 := blk_frozen BK281.out 5
                have hfz70_6 := blk_frozen BK281.out 6
                go_wp2_with (first | ((with_reducible refine gate_callee (f := 25) rfl ?_); refine goesL_ (some 59) rfl rfl Try.func25 (by kernel_rfl) rfl #[.agg #[.int .i64 a1_0, .int .i64 a1_1, .int .i64 a1_2, .int .i64 a1_3, .int .i64 a1_4, .int .i64 a1_5, .int .i64 a1_6]] rfl (by (try simp only [List.map_toArray, List.map_cons, List.map_nil]); first | done | rfl | (simp only [List.length_drop, List.length_take]; rfl)) ?_; (with_reducible refine (civil_Seconds.calls a1_0 a1_1 a1_2 a1_3 a1_4 a1_5 a1_6 t294 t295 _ A53.out).mono ?_); rintro e w71 ⟨rfl, hb⟩; refine ⟨_, rfl, ?_⟩; have n0_ := Aside0.mk (blk_below (g := gb281) (o := .cells #[.int .i64 a1_0, .int .i64 a1_1, .int .i64 a1_2, .int .i64 a1_3, .int .i64 a1_4, .int .i64 a1_5, .int .i64 a1_6] 23 (0, 0)) (by (with_reducible repeat (first | refine blk_drewN ?_ _ | refine blk_drew ?_ | refine blk_alloc ?_ _)); exact BK281.out) hb); have n1_ := Aside0.mk (blk_below (g := gb290) (o := .cells #[.int .i64 t282, .int .i64 t283, .int .i64 t284, .int .i64 t285, .int .i64 t286, .int .i64 t287, .int .i64 t288] 23 (0, 0)) (by (with_reducible repeat (first | refine blk_drewN ?_ _ | refine blk_drew ?_ | refine blk_alloc ?_ _)); exact BK290.out) hb); have n2_ := Aside0.mk (below_step (by repeat (first | (with_reducible first | exact HB.out | apply below_alloc | apply pw_below_drewN | apply below_drew1 | refine below_set ?_ GE281.out | refine below_set ?_ GE290.out) | exact HB.out)) hb); clear BK281; clear BK290; clear HB; have BK281 := n0_; have BK290 := n1_; have HB := n2_; clear n0_ n1_ n2_; (try clear hb); (try clear hb2); (try clear hk); (try clear hi)) | ((with_reducible refine gate_callee (f := 11) rfl ?_); refine goesL_ (some 75) rfl rfl Try.func11 (by kernel_rfl) rfl #[.int .i64 t294] rfl (by (try simp only [List.map_toArray, List.map_cons, List.map_nil]); first | done | rfl | (simp only [List.length_drop, List.length_take]; rfl)) ?_; (with_reducible refine (civil_Of.calls t294 t296 t297 t298 t299 t300 t301 t302 t303 _ A55.out).mono ?_); rintro e w72 ⟨rfl, hb⟩; refine ⟨_, rfl, ?_⟩; have n0_ := Aside0.mk (blk_below (g := gb281) (o := .cells #[.int .i64 a1_0, .int .i64 a1_1, .int .i64 a1_2, .int .i64 a1_3, .int .i64 a1_4, .int .i64 a1_5, .int .i64 a1_6] 23 (0, 0)) (by (with_reducible repeat (first | refine blk_drewN ?_ _ | refine blk_drew ?_ | refine blk_alloc ?_ _)); exact BK281.out) hb); have n1_ := Aside0.mk (blk_below (g := gb290) (o := .cells #[.int .i64 t282, .int .i64 t283, .int .i64 t284, .int .i64 t285, .int .i64 t286, .int .i64 t287, .int .i64 t288] 23 (0, 0)) (by (with_reducible repeat (first | refine blk_drewN ?_ _ | refine blk_drew ?_ | refine blk_alloc ?_ _)); exact BK290.out) hb); have n2_ := Aside0.mk (below_step (by repeat (first | (with_reducible first | exact HB.out | apply below_alloc | apply pw_below_drewN | apply below_drew1 | refine below_set ?_ GE281.out | refine below_set ?_ GE290.out) | exact HB.out)) hb); clear BK281; clear BK290; clear HB; have BK281 := n0_; have BK290 := n1_; have HB := n2_; clear n0_ n1_ n2_; (try clear hb); (try clear hb2); (try clear hk); (try clear hi)) | ((with_reducible refine gate_dst (N := 11) rfl ?_); refine box_event ?hg (N := 11) ?hd (cs := #[.int .i64 0, .int .i64 0, .int .i64 0, .int .i64 0, .int .i64 0, .int .i64 0, .int .i64 0]) (t := 23) ?hr ?_; (case hd => rfl); (case hg => rfl); (case hr => first | (go_simp; done) | (go_simp; rfl)); intro gb304 hg w73 hbox hb; have n0_ := Aside0.mk (blk_below (g := gb281) (o := .cells #[.int .i64 a1_0, .int .i64 a1_1, .int .i64 a1_2, .int .i64 a1_3, .int .i64 a1_4, .int .i64 a1_5, .int .i64 a1_6] 23 (0, 0)) (by (with_reducible repeat (first | refine blk_drewN ?_ _ | refine blk_drew ?_ | refine blk_alloc ?_ _)); exact BK281.out) hb); have n1_ := Aside0.mk (blk_below (g := gb290) (o := .cells #[.int .i64 t282, .int .i64 t283, .int .i64 t284, .int .i64 t285, .int .i64 t286, .int .i64 t287, .int .i64 t288] 23 (0, 0)) (by (with_reducible repeat (first | refine blk_drewN ?_ _ | refine blk_drew ?_ | refine blk_alloc ?_ _)); exact BK290.out) hb); have n2_ := Aside0.mk (below_step (by repeat (first | (with_reducible first | exact HB.out | apply below_alloc | apply pw_below_drewN | apply below_drew1 | refine below_set ?_ GE281.out | refine below_set ?_ GE290.out) | exact HB.out)) hb); have n3_ := Aside0.mk (hbox); have n4_ := Aside0.mk ((by rw [hg]; exact (below_size (by repeat (first | (with_reducible first | exact HB.out | apply below_alloc | apply pw_below_drewN | apply below_drew1 | refine below_set ?_ GE281.out | refine below_set ?_ GE290.out) | exact HB.out))) : w.heap.size ≤ gb304)); have n5_ := Aside0.mk ((by rw [hg]; exact (below_size (by repeat (first | (with_reducible first | exact HB.out | apply below_alloc | apply pw_below_drewN | apply below_drew1 | refine below_set ?_ GE281.out | refine below_set ?_ GE290.out) | exact HB.out))) : w.heap.size ≤ gb304)); have n6_ := Aside0.mk ((by rw [hg]; exact Nat.ne_of_lt (blk_lt (g := gb281) (o := .cells #[.int .i64 a1_0, .int .i64 a1_1, .int .i64 a1_2, .int .i64 a1_3, .int .i64 a1_4, .int .i64 a1_5, .int .i64 a1_6] 23 (0, 0)) (by (with_reducible repeat (first | refine blk_drewN ?_ _ | refine blk_drew ?_ | refine blk_alloc ?_ _)); exact BK281.out)) : gb281 ≠ gb304)); have n7_ := Aside0.mk ((by rw [hg]; exact Nat.ne_of_gt (blk_lt (g := gb281) (o := .cells #[.int .i64 a1_0, .int .i64 a1_1, .int .i64 a1_2, .int .i64 a1_3, .int .i64 a1_4, .int .i64 a1_5, .int .i64 a1_6] 23 (0, 0)) (by (with_reducible repeat (first | refine blk_drewN ?_ _ | refine blk_drew ?_ | refine blk_alloc ?_ _)); exact BK281.out)) : gb304 ≠ gb281)); have n8_ := Aside0.mk ((by rw [hg]; exact Nat.ne_of_lt (blk_lt (g := gb290) (o := .cells #[.int .i64 t282, .int .i64 t283, .int .i64 t284, .int .i64 t285, .int .i64 t286, .int .i64 t287, .int .i64 t288] 23 (0, 0)) (by (with_reducible repeat (first | refine blk_drewN ?_ _ | refine blk_drew ?_ | refine blk_alloc ?_ _)); exact BK290.out)) : gb290 ≠ gb304)); have n9_ := Aside0.mk ((by rw [hg]; exact Nat.ne_of_gt (blk_lt (g := gb290) (o := .cells #[.int .i64 t282, .int .i64 t283, .int .i64 t284, .int .i64 t285, .int .i64 t286, .int .i64 t287, .int .i64 t288] 23 (0, 0)) (by (with_reducible repeat (first | refine blk_drewN ?_ _ | refine blk_drew ?_ | refine blk_alloc ?_ _)); exact BK290.out)) : gb304 ≠ gb290)); clear BK281; clear BK290; clear HB; have BK281 := n0_; have BK290 := n1_; have HB := n2_; have BK304 := n3_; have GW304 := n4_; have GE304 := n5_; have NB281_304 := n6_; have NB304_281 := n7_; have NB290_304 := n8_; have NB304_290 := n9_; clear n0_ n1_ n2_ n3_ n4_ n5_ n6_ n7_ n8_ n9_; clear hb hbox hg; have hnb74 := NB304_281.out; have hnc74 := NB281_304.out; have hnb75 := NB304_290.out; have hnc75 := NB290_304.out; have hcz76_0 : w73.cell? ⟨gb304, 0, none⟩ = some (.int .i64 0) := (blk_cell BK304.out 0).trans rfl; have hcz76_1 : w73.cell? ⟨gb304, 1, none⟩ = some (.int .i64 0) := (blk_cell BK304.out 1).trans rfl; have hcz76_2 : w73.cell? ⟨gb304, 2, none⟩ = some (.int .i64 0) := (blk_cell BK304.out 2).trans rfl; have hcz76_3 : w73.cell? ⟨gb304, 3, none⟩ = some (.int .i64 0) := (blk_cell BK304.out 3).trans rfl; have hcz76_4 : w73.cell? ⟨gb304, 4, none⟩ = some (.int .i64 0) := (blk_cell BK304.out 4).trans rfl; have hcz76_5 : w73.cell? ⟨gb304, 5, none⟩ = some (.int .i64 0) := (blk_cell BK304.out 5).trans rfl; have hcz76_6 : w73.cell? ⟨gb304, 6, none⟩ = some (.int .i64 0) := (blk_cell BK304.out 6).trans rfl; have hfz76_0 := blk_frozen BK304.out 0; have hfz76_1 := blk_frozen BK304.out 1; have hfz76_2 := blk_frozen BK304.out 2; have hfz76_3 := blk_frozen BK304.out 3; have hfz76_4 := blk_frozen BK304.out 4; have hfz76_5 := blk_frozen BK304.out 5; have hfz76_6 := blk_frozen BK304.out 6; have hcz77_0 : w73.cell? ⟨gb281, 0, none⟩ = some (.int .i64 a1_0) := (blk_cell BK281.out 0).trans rfl; have hcz77_1 : w73.cell? ⟨gb281, 1, none⟩ = some (.int .i64 a1_1) := (blk_cell BK281.out 1).trans rfl; have hcz77_2 : w73.cell? ⟨gb281, 2, none⟩ = some (.int .i64 a1_2) := (blk_cell BK281.out 2).trans rfl; have hcz77_3 : w73.cell? ⟨gb281, 3, none⟩ = some (.int .i64 a1_3) := (blk_cell BK281.out 3).trans rfl; have hcz77_4 : w73.cell? ⟨gb281, 4, none⟩ = some (.int .i64 a1_4) := (blk_cell BK281.out 4).trans rfl; have hcz77_5 : w73.cell? ⟨gb281, 5, none⟩ = some (.int .i64 a1_5) := (blk_cell BK281.out 5).trans rfl; have hcz77_6 : w73.cell? ⟨gb281, 6, none⟩ = some (.int .i64 a1_6) := (blk_cell BK281.out 6).trans rfl; have hfz77_0 := blk_frozen BK281.out 0; have hfz77_1 := blk_frozen BK281.out 1; have hfz77_2 := blk_frozen BK281.out 2; have hfz77_3 := blk_frozen BK281.out 3; have hfz77_4 := blk_frozen BK281.out 4; have hfz77_5 := blk_frozen BK281.out 5; have hfz77_6 := blk_frozen BK281.out 6))
                go_ret
                exact ⟨by first | rfl | (simp [errW_none, errW_some] <;> rfl) | (simp [*, errW_none, errW_some] <;> rfl), by repeat (first | (with_reducible first | exact HB.out | apply below_alloc | apply pw_below_drewN | apply below_drew1 | refine below_set ?_ GE281.out | refine below_set ?_ GE290.out | refine below_set ?_ GE304.out) | exact HB.out)⟩
            · rw [if_neg c56] at H
              have c56b0 : (t296 == a1_0 && (t297 == a1_1 && (t298 == a1_2 && (t299 == a1_3 && (t300 == a1_4 && (t301 == a1_5 && (t302 == 0))))))) = false := by simpa using c56
              (try (have c56b1 : decide (t296 = a1_0 && (t297 == a1_1 && (t298 == a1_2 && (t299 == a1_3 && (t300 == a1_4 && (t301 == a1_5 && (t302 == 0))))))) = false := by simpa using c56))
              (try (have c56b2 : (t296 == a1_0 && (t297 == a1_1 && (t298 == a1_2 && (t299 == a1_3 && (t300 == a1_4 && (t301 == a1_5 && (t302 == 0))))))) = false := by simpa using c56))
              (try (have c56b3 : ¬ (t296 = a1_0 && (t297 == a1_1 && (t298 == a1_2 && (t299 == a1_3 && (t300 == a1_4 && (t301 == a1_5 && (t302 == 0))))))) := by simpa using c56))
              clear c56
              obtain rfl := Option.some.inj H
              have hnb78 := NB281_290.out
              have hnc78 := NB290_281.out
              have hcz79_0 : wc.cell? ⟨gb281, 0, none⟩ = some (.int .i64 a1_0) := (blk_cell BK281.out 0).trans rfl
              have hcz79_1 : wc.cell? ⟨gb281, 1, none⟩ = some (.int .i64 a1_1) := (blk_cell BK281.out 1).trans rfl
              have hcz79_2 : wc.cell? ⟨gb281, 2, none⟩ = some (.int .i64 a1_2) := (blk_cell BK281.out 2).trans rfl
              have hcz79_3 : wc.cell? ⟨gb281, 3, none⟩ = some (.int .i64 a1_3) := (blk_cell BK281.out 3).trans rfl
              have hcz79_4 : wc.cell? ⟨gb281, 4, none⟩ = some (.int .i64 a1_4) := (blk_cell BK281.out 4).trans rfl
              have hcz79_5 : wc.cell? ⟨gb281, 5, none⟩ = some (.int .i64 a1_5) := (blk_cell BK281.out 5).trans rfl
              have hcz79_6 : wc.cell? ⟨gb281, 6, none⟩ = some (.int .i64 a1_6) := (blk_cell BK281.out 6).trans rfl
              have hfz79_0 := blk_frozen BK281.out 0
              have hfz79_1 := blk_frozen BK281.out 1
              have hfz79_2 := blk_frozen BK281.out 2
              have hfz79_3 := blk_frozen BK281.out 3
              have hfz79_4 := blk_frozen BK281.out 4
              have hfz79_5 := blk_frozen BK281.out 5
              have hfz79_6 := blk_frozen BK281.out 6
              go_wp2_with (first | ((with_reducible refine gate_callee (f := 25) rfl ?_); refine goesL_ (some 59) rfl rfl Try.func25 (by kernel_rfl) rfl #[.agg #[.int .i64 a1_0, .int .i64 a1_1, .int .i64 a1_2, .int .i64 a1_3, .int .i64 a1_4, .int .i64 a1_5, .int .i64 a1_6]] rfl (by (try simp only [List.map_toArray, List.map_cons, List.map_nil]); first | done | rfl | (simp only [List.length_drop, List.length_take]; rfl)) ?_; (with_reducible refine (civil_Seconds.calls a1_0 a1_1 a1_2 a1_3 a1_4 a1_5 a1_6 t294 t295 _ A53.out).mono ?_); rintro e w80 ⟨rfl, hb⟩; refine ⟨_, rfl, ?_⟩; have n0_ := Aside0.mk (blk_below (g := gb281) (o := .cells #[.int .i64 a1_0, .int .i64 a1_1, .int .i64 a1_2, .int .i64 a1_3, .int .i64 a1_4, .int .i64 a1_5, .int .i64 a1_6] 23 (0, 0)) (by (with_reducible repeat (first | refine blk_drewN ?_ _ | refine blk_drew ?_ | refine blk_alloc ?_ _)); exact BK281.out) hb); have n1_ := Aside0.mk (blk_below (g := gb290) (o := .cells #[.int .i64 t282, .int .i64 t283, .int .i64 t284, .int .i64 t285, .int .i64 t286, .int .i64 t287, .int .i64 t288] 23 (0, 0)) (by (with_reducible repeat (first | refine blk_drewN ?_ _ | refine blk_drew ?_ | refine blk_alloc ?_ _)); exact BK290.out) hb); have n2_ := Aside0.mk (below_step (by repeat (first | (with_reducible first | exact HB.out | apply below_alloc | apply pw_below_drewN | apply below_drew1 | refine below_set ?_ GE281.out | refine below_set ?_ GE290.out) | exact HB.out)) hb); clear BK281; clear BK290; clear HB; have BK281 := n0_; have BK290 := n1_; have HB := n2_; clear n0_ n1_ n2_; (try clear hb); (try clear hb2); (try clear hk); (try clear hi)) | ((with_reducible refine gate_callee (f := 11) rfl ?_); refine goesL_ (some 75) rfl rfl Try.func11 (by kernel_rfl) rfl #[.int .i64 t294] rfl (by (try simp only [List.map_toArray, List.map_cons, List.map_nil]); first | done | rfl | (simp only [List.length_drop, List.length_take]; rfl)) ?_; (with_reducible refine (civil_Of.calls t294 t296 t297 t298 t299 t300 t301 t302 t303 _ A55.out).mono ?_); rintro e w81 ⟨rfl, hb⟩; refine ⟨_, rfl, ?_⟩; have n0_ := Aside0.mk (blk_below (g := gb281) (o := .cells #[.int .i64 a1_0, .int .i64 a1_1, .int .i64 a1_2, .int .i64 a1_3, .int .i64 a1_4, .int .i64 a1_5, .int .i64 a1_6] 23 (0, 0)) (by (with_reducible repeat (first | refine blk_drewN ?_ _ | refine blk_drew ?_ | refine blk_alloc ?_ _)); exact BK281.out) hb); have n1_ := Aside0.mk (blk_below (g := gb290) (o := .cells #[.int .i64 t282, .int .i64 t283, .int .i64 t284, .int .i64 t285, .int .i64 t286, .int .i64 t287, .int .i64 t288] 23 (0, 0)) (by (with_reducible repeat (first | refine blk_drewN ?_ _ | refine blk_drew ?_ | refine blk_alloc ?_ _)); exact BK290.out) hb); have n2_ := Aside0.mk (below_step (by repeat (first | (with_reducible first | exact HB.out | apply below_alloc | apply pw_below_drewN | apply below_drew1 | refine below_set ?_ GE281.out | refine below_set ?_ GE290.out) | exact HB.out)) hb); clear BK281; clear BK290; clear HB; have BK281 := n0_; have BK290 := n1_; have HB := n2_; clear n0_ n1_ n2_; (try clear hb); (try clear hb2); (try clear hk); (try clear hi)) | ((with_reducible refine gate_dst (N := 11) rfl ?_); refine box_event ?hg (N := 11) ?hd (cs := #[.int .i64 0, .int .i64 0, .int .i64 0, .int .i64 0, .int .i64 0, .int .i64 0, .int .i64 0]) (t := 23) ?hr ?_; (case hd => rfl); (case hg => rfl); (case hr => first | (go_simp; done) | (go_simp; rfl)); intro gb304 hg w82 hbox hb; have n0_ := Aside0.mk (blk_below (g := gb281) (o := .cells #[.int .i64 a1_0, .int .i64 a1_1, .int .i64 a1_2, .int .i64 a1_3, .int .i64 a1_4, .int .i64 a1_5, .int .i64 a1_6] 23 (0, 0)) (by (with_reducible repeat (first | refine blk_drewN ?_ _ | refine blk_drew ?_ | refine blk_alloc ?_ _)); exact BK281.out) hb); have n1_ := Aside0.mk (blk_below (g := gb290) (o := .cells #[.int .i64 t282, .int .i64 t283, .int .i64 t284, .int .i64 t285, .int .i64 t286, .int .i64 t287, .int .i64 t288] 23 (0, 0)) (by (with_reducible repeat (first | refine blk_drewN ?_ _ | refine blk_drew ?_ | refine blk_alloc ?_ _)); exact BK290.out) hb); have n2_ := Aside0.mk (below_step (by repeat (first | (with_reducible first | exact HB.out | apply below_alloc | apply pw_below_drewN | apply below_drew1 | refine below_set ?_ GE281.out | refine below_set ?_ GE290.out) | exact HB.out)) hb); have n3_ := Aside0.mk (hbox); have n4_ := Aside0.mk ((by rw [hg]; exact (below_size (by repeat (first | (with_reducible first | exact HB.out | apply below_alloc | apply pw_below_drewN | apply below_drew1 | refine below_set ?_ GE281.out | refine below_set ?_ GE290.out) | exact HB.out))) : w.heap.size ≤ gb304)); have n5_ := Aside0.mk ((by rw [hg]; exact (below_size (by repeat (first | (with_reducible first | exact HB.out | apply below_alloc | apply pw_below_drewN | apply below_drew1 | refine below_set ?_ GE281.out | refine below_set ?_ GE290.out) | exact HB.out))) : w.heap.size ≤ gb304)); have n6_ := Aside0.mk ((by rw [hg]; exact Nat.ne_of_lt (blk_lt (g := gb281) (o := .cells #[.int .i64 a1_0, .int .i64 a1_1, .int .i64 a1_2, .int .i64 a1_3, .int .i64 a1_4, .int .i64 a1_5, .int .i64 a1_6] 23 (0, 0)) (by (with_reducible repeat (first | refine blk_drewN ?_ _ | refine blk_drew ?_ | refine blk_alloc ?_ _)); exact BK281.out)) : gb281 ≠ gb304)); have n7_ := Aside0.mk ((by rw [hg]; exact Nat.ne_of_gt (blk_lt (g := gb281) (o := .cells #[.int .i64 a1_0, .int .i64 a1_1, .int .i64 a1_2, .int .i64 a1_3, .int .i64 a1_4, .int .i64 a1_5, .int .i64 a1_6] 23 (0, 0)) (by (with_reducible repeat (first | refine blk_drewN ?_ _ | refine blk_drew ?_ | refine blk_alloc ?_ _)); exact BK281.out)) : gb304 ≠ gb281)); have n8_ := Aside0.mk ((by rw [hg]; exact Nat.ne_of_lt (blk_lt (g := gb290) (o := .cells #[.int .i64 t282, .int .i64 t283, .int .i64 t284, .int .i64 t285, .int .i64 t286, .int .i64 t287, .int .i64 t288] 23 (0, 0)) (by (with_reducible repeat (first | refine blk_drewN ?_ _ | refine blk_drew ?_ | refine blk_alloc ?_ _)); exact BK290.out)) : gb290 ≠ gb304)); have n9_ := Aside0.mk ((by rw [hg]; exact Nat.ne_of_gt (blk_lt (g := gb290) (o := .cells #[.int .i64 t282, .int .i64 t283, .int .i64 t284, .int .i64 t285, .int .i64 t286, .int .i64 t287, .int .i64 t288] 23 (0, 0)) (by (with_reducible repeat (first | refine blk_drewN ?_ _ | refine blk_drew ?_ | refine blk_alloc ?_ _)); exact BK290.out)) : gb304 ≠ gb290)); clear BK281; clear BK290; clear HB; have BK281 := n0_; have BK290 := n1_; have HB := n2_; have BK304 := n3_; have GW304 := n4_; have GE304 := n5_; have NB281_304 := n6_; have NB304_281 := n7_; have NB290_304 := n8_; have NB304_290 := n9_; clear n0_ n1_ n2_ n3_ n4_ n5_ n6_ n7_ n8_ n9_; clear hb hbox hg; have hnb83 := NB304_281.out; have hnc83 := NB281_304.out; have hnb84 := NB304_290.out; have hnc84 := NB290_304.out; have hcz85_0 : w82.cell? ⟨gb304, 0, none⟩ = some (.int .i64 0) := (blk_cell BK304.out 0).trans rfl; have hcz85_1 : w82.cell? ⟨gb304, 1, none⟩ = some (.int .i64 0) := (blk_cell BK304.out 1).trans rfl; have hcz85_2 : w82.cell? ⟨gb304, 2, none⟩ = some (.int .i64 0) := (blk_cell BK304.out 2).trans rfl; have hcz85_3 : w82.cell? ⟨gb304, 3, none⟩ = some (.int .i64 0) := (blk_cell BK304.out 3).trans rfl; have hcz85_4 : w82.cell? ⟨gb304, 4, none⟩ = some (.int .i64 0) := (blk_cell BK304.out 4).trans rfl; have hcz85_5 : w82.cell? ⟨gb304, 5, none⟩ = some (.int .i64 0) := (blk_cell BK304.out 5).trans rfl; have hcz85_6 : w82.cell? ⟨gb304, 6, none⟩ = some (.int .i64 0) := (blk_cell BK304.out 6).trans rfl; have hfz85_0 := blk_frozen BK304.out 0; have hfz85_1 := blk_frozen BK304.out 1; have hfz85_2 := blk_frozen BK304.out 2; have hfz85_3 := blk_frozen BK304.out 3; have hfz85_4 := blk_frozen BK304.out 4; have hfz85_5 := blk_frozen BK304.out 5; have hfz85_6 := blk_frozen BK304.out 6; have hcz86_0 : w82.cell? ⟨gb281, 0, none⟩ = some (.int .i64 a1_0) := (blk_cell BK281.out 0).trans rfl; have hcz86_1 : w82.cell? ⟨gb281, 1, none⟩ = some (.int .i64 a1_1) := (blk_cell BK281.out 1).trans rfl; have hcz86_2 : w82.cell? ⟨gb281, 2, none⟩ = some (.int .i64 a1_2) := (blk_cell BK281.out 2).trans rfl; have hcz86_3 : w82.cell? ⟨gb281, 3, none⟩ = some (.int .i64 a1_3) := (blk_cell BK281.out 3).trans rfl; have hcz86_4 : w82.cell? ⟨gb281, 4, none⟩ = some (.int .i64 a1_4) := (blk_cell BK281.out 4).trans rfl; have hcz86_5 : w82.cell? ⟨gb281, 5, none⟩ = some (.int .i64 a1_5) := (blk_cell BK281.out 5).trans rfl; have hcz86_6 : w82.cell? ⟨gb281, 6, none⟩ = some (.int .i64 a1_6) := (blk_cell BK281.out 6).trans rfl; have hfz86_0 := blk_frozen BK281.out 0; have hfz86_1 := blk_frozen BK281.out 1; have hfz86_2 := blk_frozen BK281.out 2; have hfz86_3 := blk_frozen BK281.out 3; have hfz86_4 := blk_frozen BK281.out 4; have hfz86_5 := blk_frozen BK281.out 5; have hfz86_6 := blk_frozen BK281.out 6))
              go_ret
              exact ⟨by first | rfl | (simp [errW_none, errW_some] <;> rfl) | (simp [*, errW_none, errW_some] <;> rfl), by repeat (first | (with_reducible first | exact HB.out | apply below_alloc | apply pw_below_drewN | apply below_drew1 | refine below_set ?_ GE281.out | refine below_set ?_ GE290.out | refine below_set ?_ GE304.out) | exact HB.out)⟩
          · rw [if_neg c54] at H
            have c54b0 : (t295 == 0) = false := beq_eq_false_iff_ne.mpr c54
            have c54b1 : (t295 != 0) = true := bne_iff_ne.mpr c54
            by_cases c87 : t294 = 0
            · rw [if_pos c87] at H
              have c87b0 : (t294 == 0) = true := beq_iff_eq.mpr c87
              have c87b1 : (t294 != 0) = false := bne_eq_false_iff_eq.mpr c87
              clear c87
              by_cases c88 : t295 = 3
              · rw [if_pos c88] at H
                have c88b0 : (t295 == 3) = true := beq_iff_eq.mpr c88
                have c88b1 : (t295 != 3) = false := bne_eq_false_iff_eq.mpr c88
                clear c88
                replace H := Option.bind_eq_some_iff.mp H
                obtain ⟨t306, A890, H⟩ := H
                replace H : (some t306) = some r := H
                have A89 := Aside0.mk A890
                clear A890
                obtain rfl := Option.some.inj H
                have hnb90 := NB281_290.out
                have hnc90 := NB290_281.out
                have hcz91_0 : wc.cell? ⟨gb281, 0, none⟩ = some (.int .i64 a1_0) := (blk_cell BK281.out 0).trans rfl
                have hcz91_1 : wc.cell? ⟨gb281, 1, none⟩ = some (.int .i64 a1_1) := (blk_cell BK281.out 1).trans rfl
                have hcz91_2 : wc.cell? ⟨gb281, 2, none⟩ = some (.int .i64 a1_2) := (blk_cell BK281.out 2).trans rfl
                have hcz91_3 : wc.cell? ⟨gb281, 3, none⟩ = some (.int .i64 a1_3) := (blk_cell BK281.out 3).trans rfl
                have hcz91_4 : wc.cell? ⟨gb281, 4, none⟩ = some (.int .i64 a1_4) := (blk_cell BK281.out 4).trans rfl
                have hcz91_5 : wc.cell? ⟨gb281, 5, none⟩ = some (.int .i64 a1_5) := (blk_cell BK281.out 5).trans rfl
                have hcz91_6 : wc.cell? ⟨gb281, 6, none⟩ = some (.int .i64 a1_6) := (blk_cell BK281.out 6).trans rfl
                have hfz91_0 := blk_frozen BK281.out 0
                have hfz91_1 := blk_frozen BK281.out 1
                have hfz91_2 := blk_frozen BK281.out 2
                have hfz91_3 := blk_frozen BK281.out 3
                have hfz91_4 := blk_frozen BK281.out 4
                have hfz91_5 := blk_frozen BK281.out 5
                have hfz91_6 := blk_frozen BK281.out 6
                go_wp2_with (first | ((with_reducible refine gate_callee (f := 25) rfl ?_); refine goesL_ (some 59) rfl rfl Try.func25 (by kernel_rfl) rfl #[.agg #[.int .i64 a1_0, .int .i64 a1_1, .int .i64 a1_2, .int .i64 a1_3, .int .i64 a1_4, .int .i64 a1_5, .int .i64 a1_6]] rfl (by (try simp only [List.map_toArray, List.map_cons, List.map_nil]); first | done | rfl | (simp only [List.length_drop, List.length_take]; rfl)) ?_; (with_reducible refine (civil_Seconds.calls a1_0 a1_1 a1_2 a1_3 a1_4 a1_5 a1_6 t294 t295 _ A53.out).mono ?_); rintro e w92 ⟨rfl, hb⟩; refine ⟨_, rfl, ?_⟩; have n0_ := Aside0.mk (blk_below (g := gb281) (o := .cells #[.int .i64 a1_0, .int .i64 a1_1, .int .i64 a1_2, .int .i64 a1_3, .int .i64 a1_4, .int .i64 a1_5, .int .i64 a1_6] 23 (0, 0)) (by (with_reducible repeat (first | refine blk_drewN ?_ _ | refine blk_drew ?_ | refine blk_alloc ?_ _)); exact BK281.out) hb); have n1_ := Aside0.mk (blk_below (g := gb290) (o := .cells #[.int .i64 t282, .int .i64 t283, .int .i64 t284, .int .i64 t285, .int .i64 t286, .int .i64 t287, .int .i64 t288] 23 (0, 0)) (by (with_reducible repeat (first | refine blk_drewN ?_ _ | refine blk_drew ?_ | refine blk_alloc ?_ _)); exact BK290.out) hb); have n2_ := Aside0.mk (below_step (by repeat (first | (with_reducible first | exact HB.out | apply below_alloc | apply pw_below_drewN | apply below_drew1 | refine below_set ?_ GE281.out | refine below_set ?_ GE290.out) | exact HB.out)) hb); clear BK281; clear BK290; clear HB; have BK281 := n0_; have BK290 := n1_; have HB := n2_; clear n0_ n1_ n2_; (try clear hb); (try clear hb2); (try clear hk); (try clear hi)) | (go_at_call 13; (with_reducible refine (timesynclaw05_awake.calls  t306 _ A89.out).mono ?_); rintro e w93 ⟨rfl, hb⟩; have n0_ := Aside0.mk (blk_below (g := gb281) (o := .cells #[.int .i64 a1_0, .int .i64 a1_1, .int .i64 a1_2, .int .i64 a1_3, .int .i64 a1_4, .int .i64 a1_5, .int .i64 a1_6] 23 (0, 0)) (by (with_reducible repeat (first | refine blk_drewN ?_ _ | refine blk_drew ?_ | refine blk_alloc ?_ _)); exact BK281.out) hb); have n1_ := Aside0.mk (blk_below (g := gb290) (o := .cells #[.int .i64 t282, .int .i64 t283, .int .i64 t284, .int .i64 t285, .int .i64 t286, .int .i64 t287, .int .i64 t288] 23 (0, 0)) (by (with_reducible repeat (first | refine blk_drewN ?_ _ | refine blk_drew ?_ | refine blk_alloc ?_ _)); exact BK290.out) hb); have n2_ := Aside0.mk (below_step (by repeat (first | (with_reducible first | exact HB.out | apply below_alloc | apply pw_below_drewN | apply below_drew1 | refine below_set ?_ GE281.out | refine below_set ?_ GE290.out) | exact HB.out)) hb); clear BK281; clear BK290; clear HB; have BK281 := n0_; have BK290 := n1_; have HB := n2_; clear n0_ n1_ n2_; (try clear hb); (try clear hb2); (try clear hk); (try clear hi)))
                go_ret
                exact ⟨by first | rfl | (simp [errW_none, errW_some] <;> rfl) | (simp [*, errW_none, errW_some] <;> rfl), by repeat (first | (with_reducible first | exact HB.out | apply below_alloc | apply pw_below_drewN | apply below_drew1 | refine below_set ?_ GE281.out | refine below_set ?_ GE290.out) | exact HB.out)⟩
              · rw [if_neg c88] at H
                have c88b0 : (t295 == 3) = false := beq_eq_false_iff_ne.mpr c88
                have c88b1 : (t295 != 3) = true := bne_iff_ne.mpr c88
                obtain rfl := Option.some.inj H
                have hnb94 := NB281_290.out
                have hnc94 := NB290_281.out
                have hcz95_0 : wc.cell? ⟨gb281, 0, none⟩ = some (.int .i64 a1_0) := (blk_cell BK281.out 0).trans rfl
                have hcz95_1 : wc.cell? ⟨gb281, 1, none⟩ = some (.int .i64 a1_1) := (blk_cell BK281.out 1).trans rfl
                have hcz95_2 : wc.cell? ⟨gb281, 2, none⟩ = some (.int .i64 a1_2) := (blk_cell BK281.out 2).trans rfl
                have hcz95_3 : wc.cell? ⟨gb281, 3, none⟩ = some (.int .i64 a1_3) := (blk_cell BK281.out 3).trans rfl
                have hcz95_4 : wc.cell? ⟨gb281, 4, none⟩ = some (.int .i64 a1_4) := (blk_cell BK281.out 4).trans rfl
                have hcz95_5 : wc.cell? ⟨gb281, 5, none⟩ = some (.int .i64 a1_5) := (blk_cell BK281.out 5).trans rfl
                have hcz95_6 : wc.cell? ⟨gb281, 6, none⟩ = some (.int .i64 a1_6) := (blk_cell BK281.out 6).trans rfl
                have hfz95_0 := blk_frozen BK281.out 0
                have hfz95_1 := blk_frozen BK281.out 1
                have hfz95_2 := blk_frozen BK281.out 2
                have hfz95_3 := blk_frozen BK281.out 3
                have hfz95_4 := blk_frozen BK281.out 4
                have hfz95_5 := blk_frozen BK281.out 5
                have hfz95_6 := blk_frozen BK281.out 6
                go_wp2_with (first | ((with_reducible refine gate_callee (f := 25) rfl ?_); refine goesL_ (some 59) rfl rfl Try.func25 (by kernel_rfl) rfl #[.agg #[.int .i64 a1_0, .int .i64 a1_1, .int .i64 a1_2, .int .i64 a1_3, .int .i64 a1_4, .int .i64 a1_5, .int .i64 a1_6]] rfl (by (try simp only [List.map_toArray, List.map_cons, List.map_nil]); first | done | rfl | (simp only [List.length_drop, List.length_take]; rfl)) ?_; (with_reducible refine (civil_Seconds.calls a1_0 a1_1 a1_2 a1_3 a1_4 a1_5 a1_6 t294 t295 _ A53.out).mono ?_); rintro e w96 ⟨rfl, hb⟩; refine ⟨_, rfl, ?_⟩; have n0_ := Aside0.mk (blk_below (g := gb281) (o := .cells #[.int .i64 a1_0, .int .i64 a1_1, .int .i64 a1_2, .int .i64 a1_3, .int .i64 a1_4, .int .i64 a1_5, .int .i64 a1_6] 23 (0, 0)) (by (with_reducible repeat (first | refine blk_drewN ?_ _ | refine blk_drew ?_ | refine blk_alloc ?_ _)); exact BK281.out) hb); have n1_ := Aside0.mk (blk_below (g := gb290) (o := .cells #[.int .i64 t282, .int .i64 t283, .int .i64 t284, .int .i64 t285, .int .i64 t286, .int .i64 t287, .int .i64 t288] 23 (0, 0)) (by (with_reducible repeat (first | refine blk_drewN ?_ _ | refine blk_drew ?_ | refine blk_alloc ?_ _)); exact BK290.out) hb); have n2_ := Aside0.mk (below_step (by repeat (first | (with_reducible first | exact HB.out | apply below_alloc | apply pw_below_drewN | apply below_drew1 | refine below_set ?_ GE281.out | refine below_set ?_ GE290.out) | exact HB.out)) hb); clear BK281; clear BK290; clear HB; have BK281 := n0_; have BK290 := n1_; have HB := n2_; clear n0_ n1_ n2_; (try clear hb); (try clear hb2); (try clear hk); (try clear hi)))
                go_ret
                exact ⟨by first | rfl | (simp [errW_none, errW_some] <;> rfl) | (simp [*, errW_none, errW_some] <;> rfl), by repeat (first | (with_reducible first | exact HB.out | apply below_alloc | apply pw_below_drewN | apply below_drew1 | refine below_set ?_ GE281.out | refine below_set ?_ GE290.out) | exact HB.out)⟩
            · rw [if_neg c87] at H
              have c87b0 : (t294 == 0) = false := beq_eq_false_iff_ne.mpr c87
              have c87b1 : (t294 != 0) = true := bne_iff_ne.mpr c87
              obtain rfl := Option.some.inj H
              have hnb97 := NB281_290.out
              have hnc97 := NB290_281.out
              have hcz98_0 : wc.cell? ⟨gb281, 0, none⟩ = some (.int .i64 a1_0) := (blk_cell BK281.out 0).trans rfl
              have hcz98_1 : wc.cell? ⟨gb281, 1, none⟩ = some (.int .i64 a1_1) := (blk_cell BK281.out 1).trans rfl
              have hcz98_2 : wc.cell? ⟨gb281, 2, none⟩ = some (.int .i64 a1_2) := (blk_cell BK281.out 2).trans rfl
              have hcz98_3 : wc.cell? ⟨gb281, 3, none⟩ = some (.int .i64 a1_3) := (blk_cell BK281.out 3).trans rfl
              have hcz98_4 : wc.cell? ⟨gb281, 4, none⟩ = some (.int .i64 a1_4) := (blk_cell BK281.out 4).trans rfl
              have hcz98_5 : wc.cell? ⟨gb281, 5, none⟩ = some (.int .i64 a1_5) := (blk_cell BK281.out 5).trans rfl
              have hcz98_6 : wc.cell? ⟨gb281, 6, none⟩ = some (.int .i64 a1_6) := (blk_cell BK281.out 6).trans rfl
              have hfz98_0 := blk_frozen BK281.out 0
              have hfz98_1 := blk_frozen BK281.out 1
              have hfz98_2 := blk_frozen BK281.out 2
              have hfz98_3 := blk_frozen BK281.out 3
              have hfz98_4 := blk_frozen BK281.out 4
              have hfz98_5 := blk_frozen BK281.out 5
              have hfz98_6 := blk_frozen BK281.out 6
              go_wp2_with (first | ((with_reducible refine gate_callee (f := 25) rfl ?_); refine goesL_ (some 59) rfl rfl Try.func25 (by kernel_rfl) rfl #[.agg #[.int .i64 a1_0, .int .i64 a1_1, .int .i64 a1_2, .int .i64 a1_3, .int .i64 a1_4, .int .i64 a1_5, .int .i64 a1_6]] rfl (by (try simp only [List.map_toArray, List.map_cons, List.map_nil]); first | done | rfl | (simp only [List.length_drop, List.length_take]; rfl)) ?_; (with_reducible refine (civil_Seconds.calls a1_0 a1_1 a1_2 a1_3 a1_4 a1_5 a1_6 t294 t295 _ A53.out).mono ?_); rintro e w99 ⟨rfl, hb⟩; refine ⟨_, rfl, ?_⟩; have n0_ := Aside0.mk (blk_below (g := gb281) (o := .cells #[.int .i64 a1_0, .int .i64 a1_1, .int .i64 a1_2, .int .i64 a1_3, .int .i64 a1_4, .int .i64 a1_5, .int .i64 a1_6] 23 (0, 0)) (by (with_reducible repeat (first | refine blk_drewN ?_ _ | refine blk_drew ?_ | refine blk_alloc ?_ _)); exact BK281.out) hb); have n1_ := Aside0.mk (blk_below (g := gb290) (o := .cells #[.int .i64 t282, .int .i64 t283, .int .i64 t284, .int .i64 t285, .int .i64 t286, .int .i64 t287, .int .i64 t288] 23 (0, 0)) (by (with_reducible repeat (first | refine blk_drewN ?_ _ | refine blk_drew ?_ | refine blk_alloc ?_ _)); exact BK290.out) hb); have n2_ := Aside0.mk (below_step (by repeat (first | (with_reducible first | exact HB.out | apply below_alloc | apply pw_below_drewN | apply below_drew1 | refine below_set ?_ GE281.out | refine below_set ?_ GE290.out) | exact HB.out)) hb); clear BK281; clear BK290; clear HB; have BK281 := n0_; have BK290 := n1_; have HB := n2_; clear n0_ n1_ n2_; (try clear hb); (try clear hb2); (try clear hk); (try clear hi)))
              go_ret
              exact ⟨by first | rfl | (simp [errW_none, errW_some] <;> rfl) | (simp [*, errW_none, errW_some] <;> rfl), by repeat (first | (with_reducible first | exact HB.out | apply below_alloc | apply pw_below_drewN | apply below_drew1 | refine below_set ?_ GE281.out | refine below_set ?_ GE290.out) | exact HB.out)⟩

end Go.Proofs.Ytjkcfkfajipfiaa.All
