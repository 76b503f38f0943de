/- What the Go functions named below answer, each as a plain Lean function, and that its call comes to just that answer. No condition. Written by a program of this session (wip/myprint.py), which runs the kit's print with changes of its own. -/
import Derived.Test.YtimbfocogklmhaaAll0
import Derived.Test.YtimbfocogklmhaaAll2
import Derived.Test.YtimbfocogklmhaaAll3
import Derived.Test.YtimbfocogklmhaaAll4
namespace Go.Proofs.Ytimbfocogklmhaa.All
open Go.RowKit Go.Proofs.YtimbfocogklmhaaW.PrintWords Go.Proofs.YtimbfocogklmhaaW.PrintLast Go.Proofs.YtimbfocogklmhaaW.PrintMore
attribute [local go_sem] max2_int min2_int max_two min_two max_three min_three max_four min_four   -- for this text's walks alone
set_option linter.unusedVariables false
set_option linter.unusedSimpArgs false

/-! ### timesynclaw09_OscSplits: function 4 -/
mutual
def timesynclaw09_OscSplits.j0 : Nat → Int → Int → Bool → Int → List (S32) → Option (Bool)
  | 0, _, _, _, _, _ => none
  | k + 1, x1, x2, x29, x166000, x166001 => if x29 = true then ((timesynclaw09_awake.f k).bind fun t167 => (some t167)) else (timesynclaw09_OscSplits.l0 k x1 x2 0 x166000 x166001)
def timesynclaw09_OscSplits.j2 : Nat → Int → Int → Int → Int → List (S32) → Option (Bool)
  | 0, _, _, _, _, _ => none
  | k + 1, x1, x2, x7, x166000, x166001 => if x7 = 0 then (timesynclaw09_OscSplits.j3 k x1 x2 x7 true x166000 x166001) else (if x7 < (x166001.length : Int) then (if 0 ≤ x7 then (timesynclaw09_OscSplits.j3 k x1 x2 x7 (((rd_T32 x166001 x7).f0) == x1) x166000 x166001) else (none)) else (timesynclaw09_OscSplits.j3 k x1 x2 x7 false x166000 x166001))
def timesynclaw09_OscSplits.j3 : Nat → Int → Int → Int → Bool → Int → List (S32) → Option (Bool)
  | 0, _, _, _, _, _, _ => none
  | k + 1, x1, x2, x7, x66, x166000, x166001 => if x66 = true then ((timesynclaw09_awake.f k).bind fun t170 => (some t170)) else ((some (([] : List (S32)) : List (S32))).bind fun y171 => (if 0 ≤ x7 then (if x7 ≤ (x166001.length : Int) then ((some (x166001.take (x7 : Int).toNat : List (S32))).bind fun y174 => (if y171.length + y174.length < 8796093022208 then ((some (y171 ++ y174 : List (S32))).bind fun y178 => (if 0 ≤ (wrap64 (x7 - 1)) then (if (wrap64 (x7 - 1)) < (x166001.length : Int) then ((some (([(⟨x1, (rd_T32 x166001 (wrap64 (x7 - 1))).f1⟩ : S32)] : List (S32)) : List (S32))).bind fun y182 => (if y178.length + y182.length < 8796093022208 then ((some (y178 ++ y182 : List (S32))).bind fun y185 => ((some (x166001.drop (x7 : Int).toNat : List (S32))).bind fun y188 => (if y185.length + y188.length < 8796093022208 then ((some (y185 ++ y188 : List (S32))).bind fun y192 => ((osc_Read.f k x166000 x166001 x2).bind fun bt195 => ((osc_Read.f k x166000 y192 x2).bind fun bt197 => (if bt195.1 = bt197.1 then (timesynclaw09_OscSplits.j4 k x1 x2 x7 y192 bt195.1 bt195.2 bt197.1 bt197.2 (bt195.2 != bt197.2) x166000 x166001) else (timesynclaw09_OscSplits.j4 k x1 x2 x7 y192 bt195.1 bt195.2 bt197.1 bt197.2 true x166000 x166001))))) else (none)))) else (none))) else (none)) else (none))) else (none))) else (none)) else (none)))
def timesynclaw09_OscSplits.j4 : Nat → Int → Int → Int → List (S32) → Int → Int → Int → Int → Bool → Int → List (S32) → Option (Bool)
  | 0, _, _, _, _, _, _, _, _, _, _, _ => none
  | k + 1, x1, x2, x7, x8, x9, x10, x11, x12, x112, x166000, x166001 => if x112 = true then (some false) else (if x2 ≤ x1 then (if 0 ≤ x7 then (if x7 < (x8.length : Int) then ((osc_Read.f k x166000 (x8.set (x7 : Int).toNat (⟨(rd_T32 x8 x7).f0, wrap64 (-((rd_T32 x8 x7).f1))⟩ : S32)) x2).bind fun bt201 => (if x9 = bt201.1 then (if x10 = bt201.2 then ((timesynclaw09_awake.f k).bind fun t203 => (some t203)) else (some false)) else (some false))) else (none)) else (none)) else (if x9 = x11 then (if x10 = x12 then ((timesynclaw09_awake.f k).bind fun t204 => (some t204)) else (some false)) else (some false)))
def timesynclaw09_OscSplits.l0 : Nat → Int → Int → Int → Int → List (S32) → Option (Bool)
  | 0, _, _, _, _, _ => none
  | k + 1, x1, x2, x7, x166000, x166001 => if x7 < (x166001.length : Int) then (if 0 ≤ x7 then (if ((rd_T32 x166001 x7).f0) < x1 then (timesynclaw09_OscSplits.l0 k x1 x2 (wrap64 (x7 + 1)) x166000 x166001) else (timesynclaw09_OscSplits.j2 k x1 x2 x7 x166000 x166001)) else (none)) else (timesynclaw09_OscSplits.j2 k x1 x2 x7 x166000 x166001)
end
def timesynclaw09_OscSplits.f (k : Nat) (a0_0 : Int) (l0_1 : List (S32)) (a1 : Int) (a2 : Int) : Option (Bool) := if a1 < 1 then (timesynclaw09_OscSplits.j0 k a1 a2 true a0_0 l0_1) else (if a1 > 1125899906842624 then (timesynclaw09_OscSplits.j0 k a1 a2 true a0_0 l0_1) else ((osc_Check.f k a0_0 l0_1).bind fun t166 => (if t166 = 0 then (timesynclaw09_OscSplits.j0 k a1 a2 (decide ((l0_1.length : Int) ≥ 16)) a0_0 l0_1) else (timesynclaw09_OscSplits.j0 k a1 a2 true a0_0 l0_1))))
theorem timesynclaw09_OscSplits.mono_l : ∀ k, (∀ y0 y1 y2 y3 y4, LeO (timesynclaw09_OscSplits.j0 k y0 y1 y2 y3 y4) (timesynclaw09_OscSplits.j0 (k + 1) y0 y1 y2 y3 y4)) ∧ (∀ y0 y1 y2 y3 y4, LeO (timesynclaw09_OscSplits.j2 k y0 y1 y2 y3 y4) (timesynclaw09_OscSplits.j2 (k + 1) y0 y1 y2 y3 y4)) ∧ (∀ y0 y1 y2 y3 y4 y5, LeO (timesynclaw09_OscSplits.j3 k y0 y1 y2 y3 y4 y5) (timesynclaw09_OscSplits.j3 (k + 1) y0 y1 y2 y3 y4 y5)) ∧ (∀ y0 y1 y2 y3 y4 y5 y6 y7 y8 y9 y10, LeO (timesynclaw09_OscSplits.j4 k y0 y1 y2 y3 y4 y5 y6 y7 y8 y9 y10) (timesynclaw09_OscSplits.j4 (k + 1) y0 y1 y2 y3 y4 y5 y6 y7 y8 y9 y10)) ∧ (∀ y0 y1 y2 y3 y4, LeO (timesynclaw09_OscSplits.l0 k y0 y1 y2 y3 y4) (timesynclaw09_OscSplits.l0 (k + 1) y0 y1 y2 y3 y4))
  | 0 => ⟨fun _ _ _ _ _ r h => by simp [timesynclaw09_OscSplits.j0] at h, fun _ _ _ _ _ r h => by simp [timesynclaw09_OscSplits.j2] at h, fun _ _ _ _ _ _ r h => by simp [timesynclaw09_OscSplits.j3] at h, fun _ _ _ _ _ _ _ _ _ _ _ r h => by simp [timesynclaw09_OscSplits.j4] at h, fun _ _ _ _ _ r h => by simp [timesynclaw09_OscSplits.l0] at h⟩
  | k + 1 => by
    obtain ⟨ih0, ih1, ih2, ih3, ih4⟩ := timesynclaw09_OscSplits.mono_l k
    refine ⟨?_, ?_, ?_, ?_, ?_⟩
    · intro y0 y1 y2 y3 y4
      unfold timesynclaw09_OscSplits.j0
      repeat' first
      | (with_reducible exact ih0 _ _ _ _ _)
      | (with_reducible exact ih1 _ _ _ _ _)
      | (with_reducible exact ih2 _ _ _ _ _ _)
      | (with_reducible exact ih3 _ _ _ _ _ _ _ _ _ _ _)
      | (with_reducible exact ih4 _ _ _ _ _)
      | (with_reducible exact osc_Check.mono _ _ _)
      | (with_reducible exact osc_Read.mono _ _ _ _)
      | (with_reducible exact timesynclaw09_awake.mono _)
      | (with_reducible exact LeO.refl _)
      | (with_reducible exact LeO.none _)
      | (with_reducible refine LeO.ite ?_ ?_)
      | (with_reducible refine LeO.bind ?_ (fun _ => ?_))
      | exact ih0 _ _ _ _ _
      | exact ih1 _ _ _ _ _
      | exact ih2 _ _ _ _ _ _
      | exact ih3 _ _ _ _ _ _ _ _ _ _ _
      | exact ih4 _ _ _ _ _
      | exact osc_Check.mono _ _ _
      | exact osc_Read.mono _ _ _ _
      | exact timesynclaw09_awake.mono _
      | exact LeO.none _
      | refine LeO.ite ?_ ?_
      | refine LeO.bind ?_ (fun _ => ?_)
    · intro y0 y1 y2 y3 y4
      unfold timesynclaw09_OscSplits.j2
      repeat' first
      | (with_reducible exact ih0 _ _ _ _ _)
      | (with_reducible exact ih1 _ _ _ _ _)
      | (with_reducible exact ih2 _ _ _ _ _ _)
      | (with_reducible exact ih3 _ _ _ _ _ _ _ _ _ _ _)
      | (with_reducible exact ih4 _ _ _ _ _)
      | (with_reducible exact osc_Check.mono _ _ _)
      | (with_reducible exact osc_Read.mono _ _ _ _)
      | (with_reducible exact timesynclaw09_awake.mono _)
      | (with_reducible exact LeO.refl _)
      | (with_reducible exact LeO.none _)
      | (with_reducible refine LeO.ite ?_ ?_)
      | (with_reducible refine LeO.bind ?_ (fun _ => ?_))
      | exact ih0 _ _ _ _ _
      | exact ih1 _ _ _ _ _
      | exact ih2 _ _ _ _ _ _
      | exact ih3 _ _ _ _ _ _ _ _ _ _ _
      | exact ih4 _ _ _ _ _
      | exact osc_Check.mono _ _ _
      | exact osc_Read.mono _ _ _ _
      | exact timesynclaw09_awake.mono _
      | exact LeO.none _
      | refine LeO.ite ?_ ?_
      | refine LeO.bind ?_ (fun _ => ?_)
    · intro y0 y1 y2 y3 y4 y5
      unfold timesynclaw09_OscSplits.j3
      repeat' first
      | (with_reducible exact ih0 _ _ _ _ _)
      | (with_reducible exact ih1 _ _ _ _ _)
      | (with_reducible exact ih2 _ _ _ _ _ _)
      | (with_reducible exact ih3 _ _ _ _ _ _ _ _ _ _ _)
      | (with_reducible exact ih4 _ _ _ _ _)
      | (with_reducible exact osc_Check.mono _ _ _)
      | (with_reducible exact osc_Read.mono _ _ _ _)
      | (with_reducible exact timesynclaw09_awake.mono _)
      | (with_reducible exact LeO.refl _)
      | (with_reducible exact LeO.none _)
      | (with_reducible refine LeO.ite ?_ ?_)
      | (with_reducible refine LeO.bind ?_ (fun _ => ?_))
      | exact ih0 _ _ _ _ _
      | exact ih1 _ _ _ _ _
      | exact ih2 _ _ _ _ _ _
      | exact ih3 _ _ _ _ _ _ _ _ _ _ _
      | exact ih4 _ _ _ _ _
      | exact osc_Check.mono _ _ _
      | exact osc_Read.mono _ _ _ _
      | exact timesynclaw09_awake.mono _
      | exact LeO.none _
      | refine LeO.ite ?_ ?_
      | refine LeO.bind ?_ (fun _ => ?_)
    · intro y0 y1 y2 y3 y4 y5 y6 y7 y8 y9 y10
      unfold timesynclaw09_OscSplits.j4
      repeat' first
      | (with_reducible exact ih0 _ _ _ _ _)
      | (with_reducible exact ih1 _ _ _ _ _)
      | (with_reducible exact ih2 _ _ _ _ _ _)
      | (with_reducible exact ih3 _ _ _ _ _ _ _ _ _ _ _)
      | (with_reducible exact ih4 _ _ _ _ _)
      | (with_reducible exact osc_Check.mono _ _ _)
      | (with_reducible exact osc_Read.mono _ _ _ _)
      | (with_reducible exact timesynclaw09_awake.mono _)
      | (with_reducible exact LeO.refl _)
      | (with_reducible exact LeO.none _)
      | (with_reducible refine LeO.ite ?_ ?_)
      | (with_reducible refine LeO.bind ?_ (fun _ => ?_))
      | exact ih0 _ _ _ _ _
      | exact ih1 _ _ _ _ _
      | exact ih2 _ _ _ _ _ _
      | exact ih3 _ _ _ _ _ _ _ _ _ _ _
      | exact ih4 _ _ _ _ _
      | exact osc_Check.mono _ _ _
      | exact osc_Read.mono _ _ _ _
      | exact timesynclaw09_awake.mono _
      | exact LeO.none _
      | refine LeO.ite ?_ ?_
      | refine LeO.bind ?_ (fun _ => ?_)
    · intro y0 y1 y2 y3 y4
      unfold timesynclaw09_OscSplits.l0
      repeat' first
      | (with_reducible exact ih0 _ _ _ _ _)
      | (with_reducible exact ih1 _ _ _ _ _)
      | (with_reducible exact ih2 _ _ _ _ _ _)
      | (with_reducible exact ih3 _ _ _ _ _ _ _ _ _ _ _)
      | (with_reducible exact ih4 _ _ _ _ _)
      | (with_reducible exact osc_Check.mono _ _ _)
      | (with_reducible exact osc_Read.mono _ _ _ _)
      | (with_reducible exact timesynclaw09_awake.mono _)
      | (with_reducible exact LeO.refl _)
      | (with_reducible exact LeO.none _)
      | (with_reducible refine LeO.ite ?_ ?_)
      | (with_reducible refine LeO.bind ?_ (fun _ => ?_))
      | exact ih0 _ _ _ _ _
      | exact ih1 _ _ _ _ _
      | exact ih2 _ _ _ _ _ _
      | exact ih3 _ _ _ _ _ _ _ _ _ _ _
      | exact ih4 _ _ _ _ _
      | exact osc_Check.mono _ _ _
      | exact osc_Read.mono _ _ _ _
      | exact timesynclaw09_awake.mono _
      | exact LeO.none _
      | refine LeO.ite ?_ ?_
      | refine LeO.bind ?_ (fun _ => ?_)
theorem timesynclaw09_OscSplits.mono : ∀ a0 a1 a2 a3 k, LeO (timesynclaw09_OscSplits.f k a0 a1 a2 a3) (timesynclaw09_OscSplits.f (k + 1) a0 a1 a2 a3) := by
  intro a0 a1 a2 a3 k
  obtain ⟨ih0, ih1, ih2, ih3, ih4⟩ := timesynclaw09_OscSplits.mono_l k
  unfold timesynclaw09_OscSplits.f
  repeat' first
      | (with_reducible exact ih0 _ _ _ _ _)
      | (with_reducible exact ih1 _ _ _ _ _)
      | (with_reducible exact ih2 _ _ _ _ _ _)
      | (with_reducible exact ih3 _ _ _ _ _ _ _ _ _ _ _)
      | (with_reducible exact ih4 _ _ _ _ _)
      | (with_reducible exact osc_Check.mono _ _ _)
      | (with_reducible exact osc_Read.mono _ _ _ _)
      | (with_reducible exact timesynclaw09_awake.mono _)
      | (with_reducible exact LeO.refl _)
      | (with_reducible exact LeO.none _)
      | (with_reducible refine LeO.ite ?_ ?_)
      | (with_reducible refine LeO.bind ?_ (fun _ => ?_))
      | exact ih0 _ _ _ _ _
      | exact ih1 _ _ _ _ _
      | exact ih2 _ _ _ _ _ _
      | exact ih3 _ _ _ _ _ _ _ _ _ _ _
      | exact ih4 _ _ _ _ _
      | exact osc_Check.mono _ _ _
      | exact osc_Read.mono _ _ _ _
      | exact timesynclaw09_awake.mono _
      | exact LeO.none _
      | refine LeO.ite ?_ ?_
      | refine LeO.bind ?_ (fun _ => ?_)
def timesynclaw09_OscSplits.T8 : Bool × List (List Nat × List Nat) := (true, [([], []), ([], []), ([1], [1]), ([], []), ([2, 3], [2, 3]), ([0, 4], [0, 4]), ([], []), ([], []), ([7], [7]), ([], []), ([9], [9]), ([8, 10], [8, 10]), ([11], [11]), ([12], [12]), ([6, 13], [6, 13]), ([14], [14]), ([5, 15, 5], [5, 15]), ([], []), ([17], [17]), ([], []), ([18, 19], [18, 19]), ([16, 20, 16], [16, 20]), ([21, 21, 0, 1, 2, 3, 4, 5, 6, 7, 8, 9, 10, 11, 12, 13, 14, 15, 16, 17, 18, 19, 20, 21], [21])])
def timesynclaw09_OscSplits.B8 : List Nat := [0, 0, 2, 0, 14, 31, 0, 0, 128, 0, 512, 1920, 3968, 8064, 16320, 32704, 65535, 0, 131072, 0, 917504, 2097151, 4194303]
theorem timesynclaw09_OscSplits.tab8 : rtab .any (opsOf Try.f4 8) = timesynclaw09_OscSplits.T8 := by kernel_rfl
theorem timesynclaw09_OscSplits.bits8 : waitsOk timesynclaw09_OscSplits.T8.2 timesynclaw09_OscSplits.B8 = true := by kernel_rfl
set_option maxHeartbeats 8000000 in
set_option maxRecDepth 100000 in
theorem timesynclaw09_OscSplits.calls (k : Nat) (a0_0 : Int) (A0_1 : Option Addr) (c0_1 : Nat) (l0_1 : List (S32)) (a1 : Int) (a2 : Int) (r : Bool) (w : World) (hr0_1 : Kd.C k32 w A0_1 l0_1.length l0_1) (hc0_1 : l0_1.length ≤ c0_1) (h : timesynclaw09_OscSplits.f k a0_0 l0_1 a1 a2 = some r) :
    Calls Try.prog 4 #[.agg #[.int .i64 a0_0, .slice A0_1 l0_1.length c0_1], .int .i64 a1, .int .i64 a2] w fun e w' => e = .returned (.bool r) ∧ Below w.heap.size w w' := by
  have hu24 := Try.underlying24
  have hu32 := Try.underlying32
  have HR0_1 := Aside0.mk hr0_1
  have HC0_1 := Aside0.mk hc0_1
  clear hr0_1 hc0_1
  have HB := Aside0.mk (Below.refl w.heap.size w)
  have H : (if a1 < 1 then (timesynclaw09_OscSplits.j0 k a1 a2 true a0_0 l0_1) else (if a1 > 1125899906842624 then (timesynclaw09_OscSplits.j0 k a1 a2 true a0_0 l0_1) else ((osc_Check.f k a0_0 l0_1).bind fun t166 => (if t166 = 0 then (timesynclaw09_OscSplits.j0 k a1 a2 (decide ((l0_1.length : Int) ≥ 16)) a0_0 l0_1) else (timesynclaw09_OscSplits.j0 k a1 a2 true a0_0 l0_1))))) = some r := h
  clear h
  have HC4 := Aside0.mk H
  clear H
  go_enter Try.func4, Try.ntmps4
  go_upto_region 1 with (first | ((with_reducible refine gate_dst (N := 3) rfl ?_); (try (refine gate_guard (by rfl) ?_; dsimp only)); refine box_event ?hg (N := 3) ?hd (cs := #[.int .i64 a0_0, .slice A0_1 l0_1.length c0_1]) (t := 24) ?hr ?_; (case hd => rfl); (case hg => rfl); (case hr => first | (go_simp; done) | (go_simp; rfl)); intro gb165 hg w5 hbox hb; have n0_ := Aside0.mk (below_step (by repeat (first | (with_reducible first | exact HB.out | apply below_alloc | apply pw_below_drewN | apply below_drew1) | exact HB.out)) hb); have n1_ := Aside0.mk (hbox); have n2_ := Aside0.mk ((by rw [hg]; exact (below_size (by repeat (first | (with_reducible first | exact HB.out | apply below_alloc | apply pw_below_drewN | apply below_drew1) | exact HB.out))) : w.heap.size ≤ gb165)); have n3_ := Aside0.mk ((by rw [hg]; exact (below_size (by repeat (first | (with_reducible first | exact HB.out | apply below_alloc | apply pw_below_drewN | apply below_drew1) | exact HB.out))) : w.heap.size ≤ gb165)); clear HB; have HB := n0_; have BK165 := n1_; have GW165 := n2_; have GE165 := n3_; clear n0_ n1_ n2_ n3_; clear hb hbox hg))
  (try simp only [Act.put, List.setIfInBounds_toArray, List.set_cons_zero, List.set_cons_succ])
  go_cut [29] (fun v29 wc => ∃ (kq : Nat) (x29_3 : Bool), v29 = .bool x29_3 ∧ Aside0 (timesynclaw09_OscSplits.j0 kq a1 a2 x29_3 a0_0 l0_1 = some r) ∧ Aside0 (kq ≤ k) ∧ Aside0 (wc.heap[gb165]? = some (.cells #[.int .i64 a0_0, (.slice A0_1 l0_1.length c0_1)] 24 (0, 0))) ∧ Aside0 (Below w.heap.size w wc))
  case first =>
    have H := HC4.out
    clear HC4
    by_cases c6 : a1 < 1
    · rw [if_pos c6] at H
      have c6b0 : decide (a1 < 1) = true := decide_eq_true c6
      clear c6
      (first | rw [c6b0] | (simp only [i64_w, i32_w]; rw [c6b0]) | skip)
      have H' := Aside0.mk H
      clear H
      go_wp2
      go_meet
      case rel => exact ⟨_, (true), (by first | rfl | (simp; done) | (simp [*]; done)), H', ⟨by first | omega | exact Nat.le_refl _⟩, ⟨by (with_reducible repeat (first | refine blk_drewN ?_ _ | refine blk_drew ?_ | refine blk_alloc ?_ _)); exact BK165.out⟩, ⟨by repeat (first | (with_reducible first | exact HB.out | apply below_alloc | apply pw_below_drewN | apply below_drew1 | refine below_set ?_ GE165.out) | exact HB.out)⟩⟩
    · rw [if_neg c6] at H
      have c6b0 : decide (a1 < 1) = false := decide_eq_false c6
      clear c6
      (first | rw [c6b0] | (simp only [i64_w, i32_w]; rw [c6b0]) | skip)
      by_cases c7 : a1 > 1125899906842624
      · rw [if_pos c7] at H
        have c7b0 : decide (1125899906842624 < a1) = true := decide_eq_true c7
        clear c7
        have H' := Aside0.mk H
        clear H
        go_wp2
        go_meet
        case rel => exact ⟨_, (true), (by first | rfl | (simp; done) | (simp [*]; done)), H', ⟨by first | omega | exact Nat.le_refl _⟩, ⟨by (with_reducible repeat (first | refine blk_drewN ?_ _ | refine blk_drew ?_ | refine blk_alloc ?_ _)); exact BK165.out⟩, ⟨by repeat (first | (with_reducible first | exact HB.out | apply below_alloc | apply pw_below_drewN | apply below_drew1 | refine below_set ?_ GE165.out) | exact HB.out)⟩⟩
      · rw [if_neg c7] at H
        have c7b0 : decide (1125899906842624 < a1) = false := decide_eq_false c7
        clear c7
        replace H := Option.bind_eq_some_iff.mp H
        obtain ⟨t166, A80, H⟩ := H
        replace H : (if t166 = 0 then (timesynclaw09_OscSplits.j0 k a1 a2 (decide ((l0_1.length : Int) ≥ 16)) a0_0 l0_1) else (timesynclaw09_OscSplits.j0 k a1 a2 true a0_0 l0_1)) = some r := H
        have A8 := Aside0.mk A80
        clear A80
        by_cases c9 : t166 = 0
        · rw [if_pos c9] at H
          have c9b0 : (t166 == 0) = true := beq_iff_eq.mpr c9
          have c9b1 : (t166 != 0) = false := bne_eq_false_iff_eq.mpr c9
          clear c9
          have H' := Aside0.mk H
          clear H
          have hcz10_0 : w5.cell? ⟨gb165, 0, none⟩ = some (.int .i64 a0_0) := (blk_cell BK165.out 0).trans rfl
          have hcz10_1 : w5.cell? ⟨gb165, 1, none⟩ = some (.slice A0_1 l0_1.length c0_1) := (blk_cell BK165.out 1).trans rfl
          have hfz10_0 := blk_frozen BK165.out 0
          have hfz10_1 := blk_frozen BK165.out 1
          go_wp2_with (first | (go_at_call 11; (with_reducible refine (osc_Check.calls k a0_0 _ _ l0_1 t166 _ ?side1 ?side2 A8.out).mono ?_); (case side1 => repeat (first | exact (Kd.C_below HR0_1.out HB.out) | (with_reducible refine Kd.C_alloc ?_ _) | (with_reducible refine Kd.C_drewN ?_ _) | (with_reducible refine Kd.C_drew ?_))); (case side2 => exact HC0_1.out); rintro e w11 ⟨rfl, hb⟩; have n0_ := Aside0.mk (blk_below (g := gb165) (o := .cells #[.int .i64 a0_0, .slice A0_1 l0_1.length c0_1] 24 (0, 0)) (by (with_reducible repeat (first | refine blk_drewN ?_ _ | refine blk_drew ?_ | refine blk_alloc ?_ _)); exact BK165.out) hb); have n1_ := Aside0.mk (below_step (by repeat (first | (with_reducible first | exact HB.out | apply below_alloc | apply pw_below_drewN | apply below_drew1 | refine below_set ?_ GE165.out) | exact HB.out)) hb); clear BK165; clear HB; have BK165 := n0_; have HB := n1_; clear n0_ n1_; (try clear hb); (try clear hb2); (try clear hk); (try clear hi); have hcz12_0 : w11.cell? ⟨gb165, 0, none⟩ = some (.int .i64 a0_0) := (blk_cell BK165.out 0).trans rfl; have hcz12_1 : w11.cell? ⟨gb165, 1, none⟩ = some (.slice A0_1 l0_1.length c0_1) := (blk_cell BK165.out 1).trans rfl; have hfz12_0 := blk_frozen BK165.out 0; have hfz12_1 := blk_frozen BK165.out 1))
          go_meet
          case rel => exact ⟨_, (decide ((l0_1.length : Int) ≥ 16)), (by first | rfl | (simp; done) | (simp [*]; done)), H', ⟨by first | omega | exact Nat.le_refl _⟩, ⟨by (with_reducible repeat (first | refine blk_drewN ?_ _ | refine blk_drew ?_ | refine blk_alloc ?_ _)); exact BK165.out⟩, ⟨by repeat (first | (with_reducible first | exact HB.out | apply below_alloc | apply pw_below_drewN | apply below_drew1 | refine below_set ?_ GE165.out) | exact HB.out)⟩⟩
        · rw [if_neg c9] at H
          have c9b0 : (t166 == 0) = false := beq_eq_false_iff_ne.mpr c9
          have c9b1 : (t166 != 0) = true := bne_iff_ne.mpr c9
          have H' := Aside0.mk H
          clear H
          have hcz13_0 : w5.cell? ⟨gb165, 0, none⟩ = some (.int .i64 a0_0) := (blk_cell BK165.out 0).trans rfl
          have hcz13_1 : w5.cell? ⟨gb165, 1, none⟩ = some (.slice A0_1 l0_1.length c0_1) := (blk_cell BK165.out 1).trans rfl
          have hfz13_0 := blk_frozen BK165.out 0
          have hfz13_1 := blk_frozen BK165.out 1
          go_wp2_with (first | (go_at_call 11; (with_reducible refine (osc_Check.calls k a0_0 _ _ l0_1 t166 _ ?side1 ?side2 A8.out).mono ?_); (case side1 => repeat (first | exact (Kd.C_below HR0_1.out HB.out) | (with_reducible refine Kd.C_alloc ?_ _) | (with_reducible refine Kd.C_drewN ?_ _) | (with_reducible refine Kd.C_drew ?_))); (case side2 => exact HC0_1.out); rintro e w14 ⟨rfl, hb⟩; have n0_ := Aside0.mk (blk_below (g := gb165) (o := .cells #[.int .i64 a0_0, .slice A0_1 l0_1.length c0_1] 24 (0, 0)) (by (with_reducible repeat (first | refine blk_drewN ?_ _ | refine blk_drew ?_ | refine blk_alloc ?_ _)); exact BK165.out) hb); have n1_ := Aside0.mk (below_step (by repeat (first | (with_reducible first | exact HB.out | apply below_alloc | apply pw_below_drewN | apply below_drew1 | refine below_set ?_ GE165.out) | exact HB.out)) hb); clear BK165; clear HB; have BK165 := n0_; have HB := n1_; clear n0_ n1_; (try clear hb); (try clear hb2); (try clear hk); (try clear hi)))
          go_meet
          case rel => exact ⟨_, (true), (by first | rfl | (simp; done) | (simp [*]; done)), H', ⟨by first | omega | exact Nat.le_refl _⟩, ⟨by (with_reducible repeat (first | refine blk_drewN ?_ _ | refine blk_drew ?_ | refine blk_alloc ?_ _)); exact BK165.out⟩, ⟨by repeat (first | (with_reducible first | exact HB.out | apply below_alloc | apply pw_below_drewN | apply below_drew1 | refine below_set ?_ GE165.out) | exact HB.out)⟩⟩
  case rest =>
    clear HC4
    try clear p2
    try clear c4
    try clear c6
    try clear c6b0
    try clear c7
    try clear c7b0
    try clear c9
    try clear c9b0
    try clear c9b1
    try clear hcz10_0
    try clear hcz10_1
    try clear hcz12_0
    try clear hcz12_1
    try clear hcz13_0
    try clear hcz13_1
    try clear hfz10_0
    try clear hfz10_1
    try clear hfz12_0
    try clear hfz12_1
    try clear hfz13_0
    try clear hfz13_1
    obtain ⟨kq, x29_3, rfl, HA, HJ3, BK165, HB⟩ := hcut
    cases kq with
    | zero => exact absurd HA.out (by simp [timesynclaw09_OscSplits.j0])
    | succ kj3 =>
      have H := HA.out
      clear HA
      simp only [timesynclaw09_OscSplits.j0] at H
      by_cases c15 : x29_3 = true
      · subst c15
        have H1 : ((timesynclaw09_awake.f kj3).bind fun t167 => (some t167)) = some r := by rw [if_pos rfl] at H; exact H
        clear H
        have H := H1
        clear H1
        replace H := Option.bind_eq_some_iff.mp H
        obtain ⟨t167, A160, H⟩ := H
        replace H : (some t167) = some r := H
        have A16 := Aside0.mk A160
        clear A160
        obtain rfl := Option.some.inj H
        go_wp2_with (first | ((with_reducible refine gate_callee (f := 13) rfl ?_); refine goesL_ (some 30) rfl rfl Try.func13 (by kernel_rfl) rfl #[] rfl (by (try simp only [List.map_toArray, List.map_cons, List.map_nil]); first | done | rfl | (simp only [List.length_drop, List.length_take]; rfl)) ?_; (with_reducible refine (timesynclaw09_awake.calls kj3  t167 _ A16.out).mono ?_); rintro e w17 ⟨rfl, hb⟩; refine ⟨_, rfl, ?_⟩; have n0_ := Aside0.mk (blk_below (g := gb165) (o := .cells #[.int .i64 a0_0, .slice A0_1 l0_1.length c0_1] 24 (0, 0)) (by (with_reducible repeat (first | refine blk_drewN ?_ _ | refine blk_drew ?_ | refine blk_alloc ?_ _)); exact BK165.out) hb); have n1_ := Aside0.mk (below_step (by repeat (first | (with_reducible first | exact HB.out | apply below_alloc | apply pw_below_drewN | apply below_drew1 | refine below_set ?_ GE165.out) | exact HB.out)) hb); clear BK165; clear HB; have BK165 := n0_; have HB := n1_; clear n0_ n1_; (try clear hb); (try clear hb2); (try clear hk); (try clear hi)))
        go_ret
        exact ⟨by first | rfl | (simp [errW_none, errW_some] <;> rfl) | (simp [*, errW_none, errW_some] <;> rfl), by repeat (first | (with_reducible first | exact HB.out | apply below_alloc | apply pw_below_drewN | apply below_drew1 | refine below_set ?_ GE165.out) | exact HB.out)⟩
      · replace c15 := Bool.eq_false_iff.mpr c15
        subst c15
        have H1 : (timesynclaw09_OscSplits.l0 kj3 a1 a2 0 a0_0 l0_1) = some r := by rw [if_neg (show ¬ (false = true) by decide)] at H; exact H
        clear H
        have H := H1
        clear H1
        have HC18 := Aside0.mk H
        clear H
        go_upto_block 0 with (fail)
        go_cut [7] (fun v7 wc => ∃ (kq : Nat) (x7_17 : Int), v7 = .int .i64 x7_17 ∧ Aside0 (timesynclaw09_OscSplits.j2 kq a1 a2 x7_17 a0_0 l0_1 = some r) ∧ Aside0 (kq ≤ kj3) ∧ Aside0 (wc.heap[gb165]? = some (.cells #[.int .i64 a0_0, (.slice A0_1 l0_1.length c0_1)] 24 (0, 0))) ∧ Aside0 (Below w.heap.size w wc))
        case first =>
          have H := HC18.out
          clear HC18
          have H' := Aside0.mk H
          clear H
          go_wp2
          go_loopg [7] kj3 (fun kq v7 w' => ∃ (x7_2 : Int), v7 = .int .i64 x7_2 ∧ Aside0 (timesynclaw09_OscSplits.l0 kq a1 a2 x7_2 a0_0 l0_1 = some r) ∧ Aside0 (kq ≤ kj3) ∧ Aside0 (w'.heap[gb165]? = some (.cells #[.int .i64 a0_0, (.slice A0_1 l0_1.length c0_1)] 24 (0, 0))) ∧ Aside0 (Below w.heap.size w w'))
          case atStart => exact ⟨(0), (by first | rfl | (simp; done) | (simp [*]; done)), H', ⟨Nat.le_refl _⟩, ⟨by (with_reducible repeat (first | refine blk_drewN ?_ _ | refine blk_drew ?_ | refine blk_alloc ?_ _)); exact BK165.out⟩, ⟨by repeat (first | (with_reducible first | exact HB.out | apply below_alloc | apply pw_below_drewN | apply below_drew1 | refine below_set ?_ GE165.out) | exact HB.out)⟩⟩
          case round =>
            clear H'
            try clear c1
            try clear p2
            try clear c4
            try clear c6
            try clear c6b0
            try clear c7
            try clear c7b0
            try clear c9
            try clear c9b0
            try clear c9b1
            try clear c13
            try clear c15
            try clear hcz10_0
            try clear hcz10_1
            try clear hcz12_0
            try clear hcz12_1
            try clear hcz13_0
            try clear hcz13_1
            try clear hfz10_0
            try clear hfz10_1
            try clear hfz12_0
            try clear hfz12_1
            try clear hfz13_0
            try clear hfz13_1
            try clear p2
            obtain ⟨x7_2, rfl, HA, HK2, BK165, HB⟩ := hrel
            cases gk with
            | zero => exact absurd HA.out (by simp [timesynclaw09_OscSplits.l0])
            | succ k2 =>
              have H := HA.out
              clear HA
              simp only [timesynclaw09_OscSplits.l0] at H
              by_cases c19 : x7_2 < (l0_1.length : Int)
              · rw [if_pos c19] at H
                have c19b0 : decide (x7_2 < (l0_1.length : Int)) = true := decide_eq_true c19
                clear c19
                (first | rw [c19b0] | (simp only [i64_w, i32_w]; rw [c19b0]) | skip)
                by_cases c20 : 0 ≤ x7_2
                · rw [if_pos c20] at H
                  have c20b0 : decide (0 ≤ x7_2) = true := decide_eq_true c20
                  clear c20
                  by_cases c21 : ((rd_T32 l0_1 x7_2).f0) < a1
                  · rw [if_pos c21] at H
                    have c21b0 : decide (((rd_T32 l0_1 x7_2).f0) < a1) = true := decide_eq_true c21
                    clear c21
                    have H' := Aside0.mk H
                    clear H
                    have hcz22_0 : wr.cell? ⟨gb165, 0, none⟩ = some (.int .i64 a0_0) := (blk_cell BK165.out 0).trans rfl
                    have hcz22_1 : wr.cell? ⟨gb165, 1, none⟩ = some (.slice A0_1 l0_1.length c0_1) := (blk_cell BK165.out 1).trans rfl
                    have hfz22_0 := blk_frozen BK165.out 0
                    have hfz22_1 := blk_frozen BK165.out 1
                    have p168 : 0 ≤ (x7_2 : Int) := of_decide_eq_true (by first | (with_reducible assumption) | assumption)
                    have q168 : x7_2 < (l0_1.length : Int) := of_decide_eq_true (by first | (with_reducible assumption) | assumption)
                    obtain ⟨ad168, e168, hx168_0, hx168_1⟩ := at_T32 HR0_1.out x7_2 p168 q168
                    cases e168
                    replace hx168_0 := (HB.out.cell (World.block_lt_of_cell? w _ hx168_0)).trans hx168_0
                    replace hx168_1 := (HB.out.cell (World.block_lt_of_cell? w _ hx168_1)).trans hx168_1
                    replace p168 := eq_true p168
                    replace q168 := eq_true q168
                    go_wp2
                    go_roundg k2
                    case measure => have := HJ3.out; have := HK2.out; omega
                    case rel => exact ⟨(wrap64 (x7_2 + 1)), (by first | rfl | (simp; done) | (simp [*]; done)), H', ⟨by have := HJ3.out; have := HK2.out; omega⟩, ⟨by (with_reducible repeat (first | refine blk_drewN ?_ _ | refine blk_drew ?_ | refine blk_alloc ?_ _)); exact BK165.out⟩, ⟨by repeat (first | (with_reducible first | exact HB.out | apply below_alloc | apply pw_below_drewN | apply below_drew1 | refine below_set ?_ GE165.out) | exact HB.out)⟩⟩
                  · rw [if_neg c21] at H
                    have c21b0 : decide (((rd_T32 l0_1 x7_2).f0) < a1) = false := decide_eq_false c21
                    clear c21
                    have H' := Aside0.mk H
                    clear H
                    have hcz23_0 : wr.cell? ⟨gb165, 0, none⟩ = some (.int .i64 a0_0) := (blk_cell BK165.out 0).trans rfl
                    have hcz23_1 : wr.cell? ⟨gb165, 1, none⟩ = some (.slice A0_1 l0_1.length c0_1) := (blk_cell BK165.out 1).trans rfl
                    have hfz23_0 := blk_frozen BK165.out 0
                    have hfz23_1 := blk_frozen BK165.out 1
                    have p168 : 0 ≤ (x7_2 : Int) := of_decide_eq_true (by first | (with_reducible assumption) | assumption)
                    have q168 : x7_2 < (l0_1.length : Int) := of_decide_eq_true (by first | (with_reducible assumption) | assumption)
                    obtain ⟨ad168, e168, hx168_0, hx168_1⟩ := at_T32 HR0_1.out x7_2 p168 q168
                    cases e168
                    replace hx168_0 := (HB.out.cell (World.block_lt_of_cell? w _ hx168_0)).trans hx168_0
                    replace hx168_1 := (HB.out.cell (World.block_lt_of_cell? w _ hx168_1)).trans hx168_1
                    replace p168 := eq_true p168
                    replace q168 := eq_true q168
                    go_wp2
                    go_meet
                    case rel => exact ⟨_, (x7_2), (by first | rfl | (simp; done) | (simp [*]; done)), H', ⟨by have := HJ3.out; have := HK2.out; first | omega | exact Nat.le_refl _⟩, ⟨by (with_reducible repeat (first | refine blk_drewN ?_ _ | refine blk_drew ?_ | refine blk_alloc ?_ _)); exact BK165.out⟩, ⟨by repeat (first | (with_reducible first | exact HB.out | apply below_alloc | apply pw_below_drewN | apply below_drew1 | refine below_set ?_ GE165.out) | exact HB.out)⟩⟩
                · rw [if_neg c20] at H
                  exact absurd H (by simp)
              · rw [if_neg c19] at H
                have c19b0 : decide (x7_2 < (l0_1.length : Int)) = false := decide_eq_false c19
                clear c19
                (first | rw [c19b0] | (simp only [i64_w, i32_w]; rw [c19b0]) | skip)
                have H' := Aside0.mk H
                clear H
                have hcz24_0 : wr.cell? ⟨gb165, 0, none⟩ = some (.int .i64 a0_0) := (blk_cell BK165.out 0).trans rfl
                have hcz24_1 : wr.cell? ⟨gb165, 1, none⟩ = some (.slice A0_1 l0_1.length c0_1) := (blk_cell BK165.out 1).trans rfl
                have hfz24_0 := blk_frozen BK165.out 0
                have hfz24_1 := blk_frozen BK165.out 1
                go_wp2
                go_meet
                case rel => exact ⟨_, (x7_2), (by first | rfl | (simp; done) | (simp [*]; done)), H', ⟨by have := HJ3.out; have := HK2.out; first | omega | exact Nat.le_refl _⟩, ⟨by (with_reducible repeat (first | refine blk_drewN ?_ _ | refine blk_drew ?_ | refine blk_alloc ?_ _)); exact BK165.out⟩, ⟨by repeat (first | (with_reducible first | exact HB.out | apply below_alloc | apply pw_below_drewN | apply below_drew1 | refine below_set ?_ GE165.out) | exact HB.out)⟩⟩
        case rest =>
          clear HC18
          try clear c1
          try clear p1
          try clear q1
          try clear hx1
          try clear c2
          try clear p2
          try clear c4
          try clear c6
          try clear c6b0
          try clear p6
          try clear c7
          try clear c7b0
          try clear c9
          try clear c9b0
          try clear c9b1
          try clear c13
          try clear c15
          try clear p16
          try clear q16
          try clear hx16
          try clear c19
          try clear c19b0
          try clear c20
          try clear c20b0
          try clear c21
          try clear c21b0
          try clear hcz10_0
          try clear hcz10_1
          try clear hcz12_0
          try clear hcz12_1
          try clear hcz13_0
          try clear hcz13_1
          try clear hcz22_0
          try clear hcz22_1
          try clear hcz23_0
          try clear hcz23_1
          try clear hcz24_0
          try clear hcz24_1
          try clear hfz10_0
          try clear hfz10_1
          try clear hfz12_0
          try clear hfz12_1
          try clear hfz13_0
          try clear hfz13_1
          try clear hfz22_0
          try clear hfz22_1
          try clear hfz23_0
          try clear hfz23_1
          try clear hfz24_0
          try clear hfz24_1
          try clear hx168_0
          try clear hx168_1
          try clear p168
          try clear p2
          try clear q168
          obtain ⟨kq, x7_17, rfl, HA, HJ17, BK165, HB⟩ := hcut
          cases kq with
          | zero => exact absurd HA.out (by simp [timesynclaw09_OscSplits.j2])
          | succ kj17 =>
            have H := HA.out
            clear HA
            simp only [timesynclaw09_OscSplits.j2] at H
            have HC25 := Aside0.mk H
            clear H
            go_upto_region 6 with (fail)
            go_cut [66] (fun v66 wc => ∃ (kq : Nat) (x66_24 : Bool), v66 = .bool x66_24 ∧ Aside0 (timesynclaw09_OscSplits.j3 kq a1 a2 x7_17 x66_24 a0_0 l0_1 = some r) ∧ Aside0 (kq ≤ kj17) ∧ Aside0 (wc.heap[gb165]? = some (.cells #[.int .i64 a0_0, (.slice A0_1 l0_1.length c0_1)] 24 (0, 0))) ∧ Aside0 (Below w.heap.size w wc))
            case first =>
              have H := HC25.out
              clear HC25
              by_cases c26 : x7_17 = 0
              · rw [if_pos c26] at H
                have c26b0 : (x7_17 == 0) = true := beq_iff_eq.mpr c26
                have c26b1 : (x7_17 != 0) = false := bne_eq_false_iff_eq.mpr c26
                clear c26
                (first | rw [c26b0] | (simp only [i64_w, i32_w]; rw [c26b0]) | skip)
                have H' := Aside0.mk H
                clear H
                go_wp2
                go_meet
                case rel => exact ⟨_, (true), (by first | rfl | (simp; done) | (simp [*]; done)), H', ⟨by have := HJ3.out; have := HJ17.out; first | omega | exact Nat.le_refl _⟩, ⟨by (with_reducible repeat (first | refine blk_drewN ?_ _ | refine blk_drew ?_ | refine blk_alloc ?_ _)); exact BK165.out⟩, ⟨by repeat (first | (with_reducible first | exact HB.out | apply below_alloc | apply pw_below_drewN | apply below_drew1 | refine below_set ?_ GE165.out) | exact HB.out)⟩⟩
              · rw [if_neg c26] at H
                have c26b0 : (x7_17 == 0) = false := beq_eq_false_iff_ne.mpr c26
                have c26b1 : (x7_17 != 0) = true := bne_iff_ne.mpr c26
                (first | rw [c26b0] | (simp only [i64_w, i32_w]; rw [c26b0]) | skip)
                by_cases c27 : x7_17 < (l0_1.length : Int)
                · rw [if_pos c27] at H
                  have c27b0 : decide (x7_17 < (l0_1.length : Int)) = true := decide_eq_true c27
                  clear c27
                  by_cases c28 : 0 ≤ x7_17
                  · rw [if_pos c28] at H
                    have c28b0 : decide (0 ≤ x7_17) = true := decide_eq_true c28
                    clear c28
                    have H' := Aside0.mk H
                    clear H
                    have hcz29_0 : wc.cell? ⟨gb165, 0, none⟩ = some (.int .i64 a0_0) := (blk_cell BK165.out 0).trans rfl
                    have hcz29_1 : wc.cell? ⟨gb165, 1, none⟩ = some (.slice A0_1 l0_1.length c0_1) := (blk_cell BK165.out 1).trans rfl
                    have hfz29_0 := blk_frozen BK165.out 0
                    have hfz29_1 := blk_frozen BK165.out 1
                    have p169 : 0 ≤ (x7_17 : Int) := of_decide_eq_true (by first | (with_reducible assumption) | assumption)
                    have q169 : x7_17 < (l0_1.length : Int) := of_decide_eq_true (by first | (with_reducible assumption) | assumption)
                    obtain ⟨ad169, e169, hx169_0, hx169_1⟩ := at_T32 HR0_1.out x7_17 p169 q169
                    cases e169
                    replace hx169_0 := (HB.out.cell (World.block_lt_of_cell? w _ hx169_0)).trans hx169_0
                    replace hx169_1 := (HB.out.cell (World.block_lt_of_cell? w _ hx169_1)).trans hx169_1
                    replace p169 := eq_true p169
                    replace q169 := eq_true q169
                    go_wp2
                    go_meet
                    case rel => exact ⟨_, ((((rd_T32 l0_1 x7_17).f0) == a1)), (by first | rfl | (simp; done) | (simp [*]; done)), H', ⟨by have := HJ3.out; have := HJ17.out; first | omega | exact Nat.le_refl _⟩, ⟨by (with_reducible repeat (first | refine blk_drewN ?_ _ | refine blk_drew ?_ | refine blk_alloc ?_ _)); exact BK165.out⟩, ⟨by repeat (first | (with_reducible first | exact HB.out | apply below_alloc | apply pw_below_drewN | apply below_drew1 | refine below_set ?_ GE165.out) | exact HB.out)⟩⟩
                  · rw [if_neg c28] at H
                    exact absurd H (by simp)
                · rw [if_neg c27] at H
                  have c27b0 : decide (x7_17 < (l0_1.length : Int)) = false := decide_eq_false c27
                  clear c27
                  have H' := Aside0.mk H
                  clear H
                  have hcz30_0 : wc.cell? ⟨gb165, 0, none⟩ = some (.int .i64 a0_0) := (blk_cell BK165.out 0).trans rfl
                  have hcz30_1 : wc.cell? ⟨gb165, 1, none⟩ = some (.slice A0_1 l0_1.length c0_1) := (blk_cell BK165.out 1).trans rfl
                  have hfz30_0 := blk_frozen BK165.out 0
                  have hfz30_1 := blk_frozen BK165.out 1
                  go_wp2
                  go_meet
                  case rel => exact ⟨_, (false), (by first | rfl | (simp; done) | (simp [*]; done)), H', ⟨by have := HJ3.out; have := HJ17.out; first | omega | exact Nat.le_refl _⟩, ⟨by (with_reducible repeat (first | refine blk_drewN ?_ _ | refine blk_drew ?_ | refine blk_alloc ?_ _)); exact BK165.out⟩, ⟨by repeat (first | (with_reducible first | exact HB.out | apply below_alloc | apply pw_below_drewN | apply below_drew1 | refine below_set ?_ GE165.out) | exact HB.out)⟩⟩
            case rest =>
              clear HC25
              try clear c1
              try clear p1
              try clear q1
              try clear hx1
              try clear c2
              try clear p2
              try clear c4
              try clear c6
              try clear c6b0
              try clear p6
              try clear c7
              try clear c7b0
              try clear c9
              try clear c9b0
              try clear c9b1
              try clear c13
              try clear c15
              try clear p16
              try clear q16
              try clear hx16
              try clear c19
              try clear c19b0
              try clear c20
              try clear c20b0
              try clear c21
              try clear c21b0
              try clear c26
              try clear c26b0
              try clear c26b1
              try clear c27
              try clear c27b0
              try clear c28
              try clear c28b0
              try clear hcz10_0
              try clear hcz10_1
              try clear hcz12_0
              try clear hcz12_1
              try clear hcz13_0
              try clear hcz13_1
              try clear hcz22_0
              try clear hcz22_1
              try clear hcz23_0
              try clear hcz23_1
              try clear hcz24_0
              try clear hcz24_1
              try clear hcz29_0
              try clear hcz29_1
              try clear hcz30_0
              try clear hcz30_1
              try clear hfz10_0
              try clear hfz10_1
              try clear hfz12_0
              try clear hfz12_1
              try clear hfz13_0
              try clear hfz13_1
              try clear hfz22_0
              try clear hfz22_1
              try clear hfz23_0
              try clear hfz23_1
              try clear hfz24_0
              try clear hfz24_1
              try clear hfz29_0
              try clear hfz29_1
              try clear hfz30_0
              try clear hfz30_1
              try clear hx168_0
              try clear hx168_1
              try clear hx169_0
              try clear hx169_1
              try clear p1
              try clear p16
              try clear p168
              try clear p169
              try clear p2
              try clear p6
              try clear q1
              try clear q16
              try clear q168
              try clear q169
              obtain ⟨kq, x66_24, rfl, HA, HJ24, BK165, HB⟩ := hcut
              cases kq with
              | zero => exact absurd HA.out (by simp [timesynclaw09_OscSplits.j3])
              | succ kj24 =>
                have H := HA.out
                clear HA
                simp only [timesynclaw09_OscSplits.j3] at H
                by_cases c31 : x66_24 = true
                · subst c31
                  have H1 : ((timesynclaw09_awake.f kj24).bind fun t170 => (some t170)) = some r := by rw [if_pos rfl] at H; exact H
                  clear H
                  have H := H1
                  clear H1
                  replace H := Option.bind_eq_some_iff.mp H
                  obtain ⟨t170, A320, H⟩ := H
                  replace H : (some t170) = some r := H
                  have A32 := Aside0.mk A320
                  clear A320
                  obtain rfl := Option.some.inj H
                  go_wp2_with (first | ((with_reducible refine gate_callee (f := 13) rfl ?_); refine goesL_ (some 67) rfl rfl Try.func13 (by kernel_rfl) rfl #[] rfl (by (try simp only [List.map_toArray, List.map_cons, List.map_nil]); first | done | rfl | (simp only [List.length_drop, List.length_take]; rfl)) ?_; (with_reducible refine (timesynclaw09_awake.calls kj24  t170 _ A32.out).mono ?_); rintro e w33 ⟨rfl, hb⟩; refine ⟨_, rfl, ?_⟩; have n0_ := Aside0.mk (blk_below (g := gb165) (o := .cells #[.int .i64 a0_0, .slice A0_1 l0_1.length c0_1] 24 (0, 0)) (by (with_reducible repeat (first | refine blk_drewN ?_ _ | refine blk_drew ?_ | refine blk_alloc ?_ _)); exact BK165.out) hb); have n1_ := Aside0.mk (below_step (by repeat (first | (with_reducible first | exact HB.out | apply below_alloc | apply pw_below_drewN | apply below_drew1 | refine below_set ?_ GE165.out) | exact HB.out)) hb); clear BK165; clear HB; have BK165 := n0_; have HB := n1_; clear n0_ n1_; (try clear hb); (try clear hb2); (try clear hk); (try clear hi)))
                  go_ret
                  exact ⟨by first | rfl | (simp [errW_none, errW_some] <;> rfl) | (simp [*, errW_none, errW_some] <;> rfl), by repeat (first | (with_reducible first | exact HB.out | apply below_alloc | apply pw_below_drewN | apply below_drew1 | refine below_set ?_ GE165.out) | exact HB.out)⟩
                · replace c31 := Bool.eq_false_iff.mpr c31
                  subst c31
                  have H1 : ((some (([] : List (S32)) : List (S32))).bind fun y171 => (if 0 ≤ x7_17 then (if x7_17 ≤ (l0_1.length : Int) then ((some (l0_1.take (x7_17 : Int).toNat : List (S32))).bind fun y174 => (if y171.length + y174.length < 8796093022208 then ((some (y171 ++ y174 : List (S32))).bind fun y178 => (if 0 ≤ (wrap64 (x7_17 - 1)) then (if (wrap64 (x7_17 - 1)) < (l0_1.length : Int) then ((some (([(⟨a1, (rd_T32 l0_1 (wrap64 (x7_17 - 1))).f1⟩ : S32)] : List (S32)) : List (S32))).bind fun y182 => (if y178.length + y182.length < 8796093022208 then ((some (y178 ++ y182 : List (S32))).bind fun y185 => ((some (l0_1.drop (x7_17 : Int).toNat : List (S32))).bind fun y188 => (if y185.length + y188.length < 8796093022208 then ((some (y185 ++ y188 : List (S32))).bind fun y192 => ((osc_Read.f kj24 a0_0 l0_1 a2).bind fun bt195 => ((osc_Read.f kj24 a0_0 y192 a2).bind fun bt197 => (if bt195.1 = bt197.1 then (timesynclaw09_OscSplits.j4 kj24 a1 a2 x7_17 y192 bt195.1 bt195.2 bt197.1 bt197.2 (bt195.2 != bt197.2) a0_0 l0_1) else (timesynclaw09_OscSplits.j4 kj24 a1 a2 x7_17 y192 bt195.1 bt195.2 bt197.1 bt197.2 true a0_0 l0_1))))) else (none)))) else (none))) else (none)) else (none))) else (none))) else (none)) else (none))) = some r := by rw [if_neg (show ¬ (false = true) by decide)] at H; exact H
                  clear H
                  have H := H1
                  clear H1
                  obtain ⟨y171, hy171⟩ : ∃ y_ : List (S32), y_ = (([] : List (S32))) := ⟨_, rfl⟩
                  replace H : (if 0 ≤ x7_17 then (if x7_17 ≤ (l0_1.length : Int) then ((some (l0_1.take (x7_17 : Int).toNat : List (S32))).bind fun y174 => (if y171.length + y174.length < 8796093022208 then ((some (y171 ++ y174 : List (S32))).bind fun y178 => (if 0 ≤ (wrap64 (x7_17 - 1)) then (if (wrap64 (x7_17 - 1)) < (l0_1.length : Int) then ((some (([(⟨a1, (rd_T32 l0_1 (wrap64 (x7_17 - 1))).f1⟩ : S32)] : List (S32)) : List (S32))).bind fun y182 => (if y178.length + y182.length < 8796093022208 then ((some (y178 ++ y182 : List (S32))).bind fun y185 => ((some (l0_1.drop (x7_17 : Int).toNat : List (S32))).bind fun y188 => (if y185.length + y188.length < 8796093022208 then ((some (y185 ++ y188 : List (S32))).bind fun y192 => ((osc_Read.f kj24 a0_0 l0_1 a2).bind fun bt195 => ((osc_Read.f kj24 a0_0 y192 a2).bind fun bt197 => (if bt195.1 = bt197.1 then (timesynclaw09_OscSplits.j4 kj24 a1 a2 x7_17 y192 bt195.1 bt195.2 bt197.1 bt197.2 (bt195.2 != bt197.2) a0_0 l0_1) else (timesynclaw09_OscSplits.j4 kj24 a1 a2 x7_17 y192 bt195.1 bt195.2 bt197.1 bt197.2 true a0_0 l0_1))))) else (none)))) else (none))) else (none)) else (none))) else (none))) else (none)) else (none)) = some r := by first | (rw [hy171]; with_reducible exact H) | (have H2_ := (Option.bind_some _ _).symm.trans H; rw [hy171]; with_reducible exact H2_) | (have H2_ := (Option.bind_some _ _).symm.trans H; with_reducible exact H2_) | with_reducible exact H | (rw [hy171]; exact H) | exact H
                  have Ny171 := Aside0.mk hy171
                  clear hy171
                  by_cases c34 : 0 ≤ x7_17
                  · rw [if_pos c34] at H
                    have c34b0 := eq_true c34
                    have c34b1 : decide (0 ≤ x7_17) = true := decide_eq_true c34
                    clear c34
                    by_cases c35 : x7_17 ≤ (l0_1.length : Int)
                    · rw [if_pos c35] at H
                      have c35b0 := eq_true c35
                      have c35b1 : decide (x7_17 ≤ (l0_1.length : Int)) = true := decide_eq_true c35
                      clear c35
                      obtain ⟨y174, hy174⟩ : ∃ y_ : List (S32), y_ = (l0_1.take (x7_17 : Int).toNat) := ⟨_, rfl⟩
                      replace H : (if y171.length + y174.length < 8796093022208 then ((some (y171 ++ y174 : List (S32))).bind fun y178 => (if 0 ≤ (wrap64 (x7_17 - 1)) then (if (wrap64 (x7_17 - 1)) < (l0_1.length : Int) then ((some (([(⟨a1, (rd_T32 l0_1 (wrap64 (x7_17 - 1))).f1⟩ : S32)] : List (S32)) : List (S32))).bind fun y182 => (if y178.length + y182.length < 8796093022208 then ((some (y178 ++ y182 : List (S32))).bind fun y185 => ((some (l0_1.drop (x7_17 : Int).toNat : List (S32))).bind fun y188 => (if y185.length + y188.length < 8796093022208 then ((some (y185 ++ y188 : List (S32))).bind fun y192 => ((osc_Read.f kj24 a0_0 l0_1 a2).bind fun bt195 => ((osc_Read.f kj24 a0_0 y192 a2).bind fun bt197 => (if bt195.1 = bt197.1 then (timesynclaw09_OscSplits.j4 kj24 a1 a2 x7_17 y192 bt195.1 bt195.2 bt197.1 bt197.2 (bt195.2 != bt197.2) a0_0 l0_1) else (timesynclaw09_OscSplits.j4 kj24 a1 a2 x7_17 y192 bt195.1 bt195.2 bt197.1 bt197.2 true a0_0 l0_1))))) else (none)))) else (none))) else (none)) else (none))) else (none)) = some r := by first | (rw [hy174]; with_reducible exact H) | (have H2_ := (Option.bind_some _ _).symm.trans H; rw [hy174]; with_reducible exact H2_) | (have H2_ := (Option.bind_some _ _).symm.trans H; with_reducible exact H2_) | with_reducible exact H | (rw [hy174]; exact H) | exact H
                      have Ny174 := Aside0.mk hy174
                      clear hy174
                      by_cases c36 : y171.length + y174.length < 8796093022208
                      · rw [if_pos c36] at H
                        have LMc36 := Aside0.mk c36
                        clear c36
                        obtain ⟨y178, hy178⟩ : ∃ y_ : List (S32), y_ = (y171 ++ y174) := ⟨_, rfl⟩
                        replace H : (if 0 ≤ (wrap64 (x7_17 - 1)) then (if (wrap64 (x7_17 - 1)) < (l0_1.length : Int) then ((some (([(⟨a1, (rd_T32 l0_1 (wrap64 (x7_17 - 1))).f1⟩ : S32)] : List (S32)) : List (S32))).bind fun y182 => (if y178.length + y182.length < 8796093022208 then ((some (y178 ++ y182 : List (S32))).bind fun y185 => ((some (l0_1.drop (x7_17 : Int).toNat : List (S32))).bind fun y188 => (if y185.length + y188.length < 8796093022208 then ((some (y185 ++ y188 : List (S32))).bind fun y192 => ((osc_Read.f kj24 a0_0 l0_1 a2).bind fun bt195 => ((osc_Read.f kj24 a0_0 y192 a2).bind fun bt197 => (if bt195.1 = bt197.1 then (timesynclaw09_OscSplits.j4 kj24 a1 a2 x7_17 y192 bt195.1 bt195.2 bt197.1 bt197.2 (bt195.2 != bt197.2) a0_0 l0_1) else (timesynclaw09_OscSplits.j4 kj24 a1 a2 x7_17 y192 bt195.1 bt195.2 bt197.1 bt197.2 true a0_0 l0_1))))) else (none)))) else (none))) else (none)) else (none)) = some r := by first | (rw [hy178]; with_reducible exact H) | (have H2_ := (Option.bind_some _ _).symm.trans H; rw [hy178]; with_reducible exact H2_) | (have H2_ := (Option.bind_some _ _).symm.trans H; with_reducible exact H2_) | with_reducible exact H | (rw [hy178]; exact H) | exact H
                        have Ny178 := Aside0.mk hy178
                        clear hy178
                        obtain ⟨ji37, hji37⟩ : ∃ j_ : Int, (wrap64 (x7_17 - 1)) = j_ := ⟨_, rfl⟩
                        replace H : (if 0 ≤ (ji37) then (if (ji37) < (l0_1.length : Int) then ((some (([(⟨a1, (rd_T32 l0_1 (ji37)).f1⟩ : S32)] : List (S32)) : List (S32))).bind fun y182 => (if y178.length + y182.length < 8796093022208 then ((some (y178 ++ y182 : List (S32))).bind fun y185 => ((some (l0_1.drop (x7_17 : Int).toNat : List (S32))).bind fun y188 => (if y185.length + y188.length < 8796093022208 then ((some (y185 ++ y188 : List (S32))).bind fun y192 => ((osc_Read.f kj24 a0_0 l0_1 a2).bind fun bt195 => ((osc_Read.f kj24 a0_0 y192 a2).bind fun bt197 => (if bt195.1 = bt197.1 then (timesynclaw09_OscSplits.j4 kj24 a1 a2 x7_17 y192 bt195.1 bt195.2 bt197.1 bt197.2 (bt195.2 != bt197.2) a0_0 l0_1) else (timesynclaw09_OscSplits.j4 kj24 a1 a2 x7_17 y192 bt195.1 bt195.2 bt197.1 bt197.2 true a0_0 l0_1))))) else (none)))) else (none))) else (none)) else (none)) = some r := by first | (rw [hji37] at H; exact H) | (simp only [hji37] at H ⊢; exact H)
                        have hji37w : (IntKind.i64.wrap (x7_17 - 1)) = ji37 := (i64_w _).trans hji37
                        by_cases c38 : 0 ≤ (ji37)
                        · rw [if_pos c38] at H
                          have c38b0 : decide (0 ≤ (ji37)) = true := decide_eq_true c38
                          clear c38
                          by_cases c39 : (ji37) < (l0_1.length : Int)
                          · rw [if_pos c39] at H
                            have c39b0 : decide ((ji37) < (l0_1.length : Int)) = true := decide_eq_true c39
                            clear c39
                            obtain ⟨y182, hy182⟩ : ∃ y_ : List (S32), y_ = (([(⟨a1, (rd_T32 l0_1 (ji37)).f1⟩ : S32)] : List (S32))) := ⟨_, rfl⟩
                            replace H : (if y178.length + y182.length < 8796093022208 then ((some (y178 ++ y182 : List (S32))).bind fun y185 => ((some (l0_1.drop (x7_17 : Int).toNat : List (S32))).bind fun y188 => (if y185.length + y188.length < 8796093022208 then ((some (y185 ++ y188 : List (S32))).bind fun y192 => ((osc_Read.f kj24 a0_0 l0_1 a2).bind fun bt195 => ((osc_Read.f kj24 a0_0 y192 a2).bind fun bt197 => (if bt195.1 = bt197.1 then (timesynclaw09_OscSplits.j4 kj24 a1 a2 x7_17 y192 bt195.1 bt195.2 bt197.1 bt197.2 (bt195.2 != bt197.2) a0_0 l0_1) else (timesynclaw09_OscSplits.j4 kj24 a1 a2 x7_17 y192 bt195.1 bt195.2 bt197.1 bt197.2 true a0_0 l0_1))))) else (none)))) else (none)) = some r := by first | (rw [hy182]; with_reducible exact H) | (have H2_ := (Option.bind_some _ _).symm.trans H; rw [hy182]; with_reducible exact H2_) | (have H2_ := (Option.bind_some _ _).symm.trans H; with_reducible exact H2_) | with_reducible exact H | (rw [hy182]; exact H) | exact H
                            have Ny182 := Aside0.mk hy182
                            clear hy182
                            by_cases c40 : y178.length + y182.length < 8796093022208
                            · rw [if_pos c40] at H
                              have LMc40 := Aside0.mk c40
                              clear c40
                              obtain ⟨y185, hy185⟩ : ∃ y_ : List (S32), y_ = (y178 ++ y182) := ⟨_, rfl⟩
                              replace H : ((some (l0_1.drop (x7_17 : Int).toNat : List (S32))).bind fun y188 => (if y185.length + y188.length < 8796093022208 then ((some (y185 ++ y188 : List (S32))).bind fun y192 => ((osc_Read.f kj24 a0_0 l0_1 a2).bind fun bt195 => ((osc_Read.f kj24 a0_0 y192 a2).bind fun bt197 => (if bt195.1 = bt197.1 then (timesynclaw09_OscSplits.j4 kj24 a1 a2 x7_17 y192 bt195.1 bt195.2 bt197.1 bt197.2 (bt195.2 != bt197.2) a0_0 l0_1) else (timesynclaw09_OscSplits.j4 kj24 a1 a2 x7_17 y192 bt195.1 bt195.2 bt197.1 bt197.2 true a0_0 l0_1))))) else (none))) = some r := by first | (rw [hy185]; with_reducible exact H) | (have H2_ := (Option.bind_some _ _).symm.trans H; rw [hy185]; with_reducible exact H2_) | (have H2_ := (Option.bind_some _ _).symm.trans H; with_reducible exact H2_) | with_reducible exact H | (rw [hy185]; exact H) | exact H
                              have Ny185 := Aside0.mk hy185
                              clear hy185
                              have c41b0 := eq_true (of_decide_eq_true (by first | (with_reducible assumption) | assumption) : 0 ≤ x7_17)
                              have c42b0 := eq_true (of_decide_eq_true (by first | (with_reducible assumption) | assumption) : x7_17 ≤ (l0_1.length : Int))
                              obtain ⟨y188, hy188⟩ : ∃ y_ : List (S32), y_ = (l0_1.drop (x7_17 : Int).toNat) := ⟨_, rfl⟩
                              replace H : (if y185.length + y188.length < 8796093022208 then ((some (y185 ++ y188 : List (S32))).bind fun y192 => ((osc_Read.f kj24 a0_0 l0_1 a2).bind fun bt195 => ((osc_Read.f kj24 a0_0 y192 a2).bind fun bt197 => (if bt195.1 = bt197.1 then (timesynclaw09_OscSplits.j4 kj24 a1 a2 x7_17 y192 bt195.1 bt195.2 bt197.1 bt197.2 (bt195.2 != bt197.2) a0_0 l0_1) else (timesynclaw09_OscSplits.j4 kj24 a1 a2 x7_17 y192 bt195.1 bt195.2 bt197.1 bt197.2 true a0_0 l0_1))))) else (none)) = some r := by first | (rw [hy188]; with_reducible exact H) | (have H2_ := (Option.bind_some _ _).symm.trans H; rw [hy188]; with_reducible exact H2_) | (have H2_ := (Option.bind_some _ _).symm.trans H; with_reducible exact H2_) | with_reducible exact H | (rw [hy188]; exact H) | exact H
                              have Ny188 := Aside0.mk hy188
                              clear hy188
                              by_cases c43 : y185.length + y188.length < 8796093022208
                              · rw [if_pos c43] at H
                                have LMc43 := Aside0.mk c43
                                clear c43
                                obtain ⟨y192, hy192⟩ : ∃ y_ : List (S32), y_ = (y185 ++ y188) := ⟨_, rfl⟩
                                replace H : ((osc_Read.f kj24 a0_0 l0_1 a2).bind fun bt195 => ((osc_Read.f kj24 a0_0 y192 a2).bind fun bt197 => (if bt195.1 = bt197.1 then (timesynclaw09_OscSplits.j4 kj24 a1 a2 x7_17 y192 bt195.1 bt195.2 bt197.1 bt197.2 (bt195.2 != bt197.2) a0_0 l0_1) else (timesynclaw09_OscSplits.j4 kj24 a1 a2 x7_17 y192 bt195.1 bt195.2 bt197.1 bt197.2 true a0_0 l0_1)))) = some r := by first | (rw [hy192]; with_reducible exact H) | (have H2_ := (Option.bind_some _ _).symm.trans H; rw [hy192]; with_reducible exact H2_) | (have H2_ := (Option.bind_some _ _).symm.trans H; with_reducible exact H2_) | with_reducible exact H | (rw [hy192]; exact H) | exact H
                                have Ny192 := Aside0.mk hy192
                                clear hy192
                                replace H := Option.bind_eq_some_iff.mp H
                                obtain ⟨⟨t195, t196⟩, A440, H⟩ := H
                                replace H : ((osc_Read.f kj24 a0_0 y192 a2).bind fun bt197 => (if t195 = bt197.1 then (timesynclaw09_OscSplits.j4 kj24 a1 a2 x7_17 y192 t195 t196 bt197.1 bt197.2 (t196 != bt197.2) a0_0 l0_1) else (timesynclaw09_OscSplits.j4 kj24 a1 a2 x7_17 y192 t195 t196 bt197.1 bt197.2 true a0_0 l0_1))) = some r := H
                                have A44 := Aside0.mk A440
                                clear A440
                                replace H := Option.bind_eq_some_iff.mp H
                                obtain ⟨⟨t197, t198⟩, A450, H⟩ := H
                                replace H : (if t195 = t197 then (timesynclaw09_OscSplits.j4 kj24 a1 a2 x7_17 y192 t195 t196 t197 t198 (t196 != t198) a0_0 l0_1) else (timesynclaw09_OscSplits.j4 kj24 a1 a2 x7_17 y192 t195 t196 t197 t198 true a0_0 l0_1)) = some r := H
                                have A45 := Aside0.mk A450
                                clear A450
                                have HC46 := Aside0.mk H
                                clear H
                                try go_wp2
                                have n0_ := Aside0.mk (blk_drew BK165.out)
                                have n1_ := Aside0.mk (below_drew1 HB.out)
                                clear BK165
                                clear HB
                                have BK165 := n0_
                                have HB := n1_
                                clear n0_ n1_
                                have q48 : (x7_17 : Int) ≤ ((l0_1.length : Int) : Int) := of_decide_eq_true (by first | (with_reducible assumption) | assumption)
                                obtain ⟨i048, hi048, _, hsz48, _⟩ := info_parts info32
                                have hroom48 : l0_1.length ≤ c0_1 := HC0_1.out
                                have hC48 : Kd.C k32 _ A0_1 l0_1.length l0_1 := HR0_1.out
                                have hcut48 := cut_to (P := Try.prog) 22 32 .i64 Try.underlying22 hi048 A0_1 l0_1.length c0_1 x7_17 (of_decide_eq_true (by first | (with_reducible assumption) | assumption)) q48 hroom48
                                have hr48 := Kd.C_take (m := (x7_17 : Int).toNat) hC48 (by omega)
                                have hy48 : y174.length = (x7_17 : Int).toNat := (by rw [Ny174.out, List.length_take]; omega)
                                rw [← Ny174.out] at hr48
                                rw [← hy48] at hcut48
                                have HR177 := Aside0.mk hr48
                                have HC177 := Aside0.mk (show y174.length ≤ c0_1 from by omega)
                                clear hr48 hC48 hroom48 hi048 hsz48
                                have KY48 := Aside0.mk hy48
                                clear hy48
                                replace q48 := eq_true q48
                                have p181 : 0 ≤ ((ji37) : Int) := of_decide_eq_true (by first | (with_reducible assumption) | assumption)
                                have q181 : (ji37) < (l0_1.length : Int) := of_decide_eq_true (by first | (with_reducible assumption) | assumption)
                                obtain ⟨ad181, e181, hx181_0, hx181_1⟩ := at_T32 HR0_1.out (ji37) p181 q181
                                have hw181_1 := hx181_1
                                have hw181_0 := hx181_0
                                cases e181
                                replace hx181_0 := (HB.out.cell (World.block_lt_of_cell? w _ hx181_0)).trans hx181_0
                                replace hx181_1 := (HB.out.cell (World.block_lt_of_cell? w _ hx181_1)).trans hx181_1
                                replace p181 := eq_true p181
                                replace q181 := eq_true q181
                                have q49 : (x7_17 : Int) ≤ ((l0_1.length : Int) : Int) := of_decide_eq_true (by first | (with_reducible assumption) | assumption)
                                obtain ⟨i049, hi049, _, hsz49, _⟩ := info_parts info32
                                have hroom49 : l0_1.length ≤ c0_1 := HC0_1.out
                                have hC49 : Kd.C k32 _ (some ad181) l0_1.length l0_1 := HR0_1.out
                                have q049 : (0 : Int) ≤ (x7_17 : Int) := of_decide_eq_true (by first | (with_reducible assumption) | assumption)
                                have hcut49 := cut_from (P := Try.prog) 22 32 .i64 Try.underlying22 hi049 2 hsz49 (some ad181) l0_1.length c0_1 x7_17 q049 q49
                                have hr49 := Kd.C_drop (m := (x7_17 : Int).toNat) (c := c0_1) hC49 (by omega) hroom49
                                obtain ⟨A49, hA49⟩ : ∃ A1, A1 = (if c0_1 = (x7_17 : Int).toNat then (some ad181) else ((some ad181) : Option Addr).map (·.add ((x7_17 : Int).toNat * 2))) := ⟨_, rfl⟩
                                obtain ⟨c49, hc49⟩ : ∃ c1, c1 = c0_1 - (x7_17 : Int).toNat := ⟨_, rfl⟩
                                have hy49 : y188.length = l0_1.length - (x7_17 : Int).toNat := (by rw [Ny188.out, List.length_drop] <;> omega)
                                rw [show (l0_1).drop (x7_17 : Int).toNat = y188 from Ny188.out.symm] at hr49
                                replace hr49 : Kd.C k32 _ A49 y188.length y188 := (by rw [hA49]; exact hr49)
                                rw [← hy49, ← hA49, ← hc49] at hcut49
                                have HR191 := Aside0.mk hr49
                                have HC191 := Aside0.mk (show y188.length ≤ c49 from by rw [hy49, hc49]; exact Nat.sub_le_sub_right hroom49 _)
                                clear hr49 hC49 hroom49 hi049 hsz49 hc49
                                have KY49 := Aside0.mk hy49
                                have KA49 := Aside0.mk hA49
                                clear hy49 hA49
                                replace q49 := eq_true q49
                                refine start_ (n := 23) (S := fun w' => w'.cell? ⟨gb165, 0, none⟩ = some (.int .i64 a0_0) ∧ w'.cell? ⟨gb165, 1, none⟩ = some (.slice (some ad181) l0_1.length c0_1) ∧ w'.cell? (ad181.add (((ji37)).toNat * 2)) = some (.int .i64 ((rd_T32 l0_1 (ji37)).f0)) ∧ w'.cell? ⟨(ad181.add (((ji37)).toNat * 2)).block, (ad181.add (((ji37)).toNat * 2)).off + 1, none⟩ = some (.int .i64 ((rd_T32 l0_1 (ji37)).f1))) (ds := []) #[false, false, false, false, false, false, false, false, false, false, false, false, false, false, false, false, false, false, false, false, false, false, false] (by kernel_rfl) rfl rfl ⟨(blk_cell BK165.out 0).trans rfl, (blk_cell BK165.out 1).trans rfl, ((HB.out.cell (World.block_lt_of_cell? w _ hw181_0)).trans hw181_0), ((HB.out.cell (World.block_lt_of_cell? w _ hw181_1)).trans hw181_1)⟩ (fun hHeld => ?_); refine with_tabW timesynclaw09_OscSplits.tab8 timesynclaw09_OscSplits.bits8 (fun HT_ HW_ => ?_)
                                generalize wc.drew = w47 at BK165 HB HR177 HR191 hx181_0 hx181_1 hHeld ⊢
                                refine pure_ (i := 1) (N := some 69) (v := ?_) (a' := ?_) #[false, true, false, false, false, false, false, false, false, false, false, false, false, false, false, false, false, false, false, false, false, false, false] rfl rfl (any_of HT_.out (by kernel_rfl)) (fun _ _ _ h => h) (Or.inl ⟨by rfl, ?_⟩) ?_ ?_
                                rotate_left
                                · intro w'
                                  go_simp
                                  with_reducible rfl
                                rotate_left
                                · simp only [Act.put, List.setIfInBounds_toArray, List.set_cons_zero, List.set_cons_succ, i64_w, i32_w]
                                  rfl
                                refine pure_ (i := 3) (N := some 71) (v := ?_) (a' := ?_) #[false, true, false, true, false, false, false, false, false, false, false, false, false, false, false, false, false, false, false, false, false, false, false] rfl rfl (any_of HT_.out (by kernel_rfl)) (fun _ _ _ h => h) (Or.inl ⟨by rfl, ?_⟩) ?_ ?_
                                rotate_left
                                · intro w'
                                  go_simp
                                  with_reducible rfl
                                rotate_left
                                · simp only [Act.put, List.setIfInBounds_toArray, List.set_cons_zero, List.set_cons_succ, i64_w, i32_w]
                                  rfl
                                refine pure_ (i := 6) (N := some 74) (v := ?_) (a' := ?_) #[false, true, false, true, false, false, true, false, false, false, false, false, false, false, false, false, false, false, false, false, false, false, false] rfl rfl (any_of HT_.out (by kernel_rfl)) (fun _ _ _ h => h) (Or.inl ⟨by rfl, ?_⟩) ?_ ?_
                                rotate_left
                                · intro w'
                                  go_simp
                                  with_reducible rfl
                                rotate_left
                                · simp only [Act.put, List.setIfInBounds_toArray, List.set_cons_zero, List.set_cons_succ, i64_w, i32_w]
                                  rfl
                                refine pure_ (i := 7) (N := some 75) (v := ?_) (a' := ?_) #[false, true, false, true, false, false, true, true, false, false, false, false, false, false, false, false, false, false, false, false, false, false, false] rfl rfl (any_of HT_.out (by kernel_rfl)) (fun _ _ _ h => h) (Or.inl ⟨by rfl, ?_⟩) ?_ ?_
                                rotate_left
                                · intro w'
                                  go_simp
                                  with_reducible rfl
                                rotate_left
                                · simp only [Act.put, List.setIfInBounds_toArray, List.set_cons_zero, List.set_cons_succ, i64_w, i32_w]
                                  rfl
                                refine pure_ (i := 9) (N := some 77) (v := ?_) (a' := ?_) #[false, true, false, true, false, false, true, true, false, true, false, false, false, false, false, false, false, false, false, false, false, false, false] rfl rfl (any_of HT_.out (by kernel_rfl)) (fun _ _ _ h => h) (Or.inl ⟨by rfl, ?_⟩) ?_ ?_
                                rotate_left
                                · intro w'
                                  go_simp
                                  with_reducible rfl
                                rotate_left
                                · simp only [Act.put, List.setIfInBounds_toArray, List.set_cons_zero, List.set_cons_succ, i64_w, i32_w]
                                  rfl
                                refine pure_ (i := 10) (N := some 78) (v := ?_) (a' := ?_) #[false, true, false, true, false, false, true, true, false, true, true, false, false, false, false, false, false, false, false, false, false, false, false] rfl rfl (any_of HT_.out (by kernel_rfl)) (fun _ _ _ h => h) (Or.inl ⟨by rfl, ?_⟩) ?_ ?_
                                rotate_left
                                · intro w'
                                  go_simp
                                  with_reducible rfl
                                rotate_left
                                · simp only [Act.put, List.setIfInBounds_toArray, List.set_cons_zero, List.set_cons_succ, i64_w, i32_w]
                                  rfl
                                refine pure_ (i := 17) (N := some 85) (v := ?_) (a' := ?_) #[false, true, false, true, false, false, true, true, false, true, true, false, false, false, false, false, false, true, false, false, false, false, false] rfl rfl (any_of HT_.out (by kernel_rfl)) (fun _ _ _ h => h) (Or.inl ⟨by rfl, ?_⟩) ?_ ?_
                                rotate_left
                                · intro w'
                                  go_simp
                                  with_reducible rfl
                                rotate_left
                                · simp only [Act.put, List.setIfInBounds_toArray, List.set_cons_zero, List.set_cons_succ, i64_w, i32_w]
                                  rfl
                                refine pure_ (i := 19) (N := some 87) (v := ?_) (a' := ?_) #[false, true, false, true, false, false, true, true, false, true, true, false, false, false, false, false, false, true, false, true, false, false, false] rfl rfl (any_of HT_.out (by kernel_rfl)) (fun _ _ _ h => h) (Or.inl ⟨by rfl, ?_⟩) ?_ ?_
                                rotate_left
                                · intro w'
                                  go_simp
                                  with_reducible rfl
                                rotate_left
                                · simp only [Act.put, List.setIfInBounds_toArray, List.set_cons_zero, List.set_cons_succ, i64_w, i32_w]
                                  rfl
                                refine take_ (i := 2) (N := some 70) (v := ?_) (a' := ?_) #[false, true, true, true, false, false, true, true, false, true, true, false, false, false, false, false, false, true, false, true, false, false, false] rfl rfl (take_ofW HT_.out HW_.out (by kernel_rfl)) (fun _ _ _ h => h) (Or.inl ⟨by rfl, ?_⟩) hHeld ?_ ?_
                                rotate_left
                                · rintro w' ⟨s0, s1, s2, s3⟩
                                  go_simp
                                  with_reducible rfl
                                rotate_left
                                · simp only [Act.put, List.setIfInBounds_toArray, List.set_cons_zero, List.set_cons_succ, i64_w, i32_w]
                                  rfl
                                refine pure_ (i := 4) (N := some 72) (v := ?_) (a' := ?_) #[false, true, true, true, true, false, true, true, false, true, true, false, false, false, false, false, false, true, false, true, false, false, false] rfl rfl (any_of HT_.out (by kernel_rfl)) (fun _ _ _ h => h) (Or.inl ⟨by rfl, ?_⟩) ?_ ?_
                                rotate_left
                                · intro w'
                                  go_simp
                                  with_reducible rfl
                                rotate_left
                                · simp only [Act.put, List.setIfInBounds_toArray, List.set_cons_zero, List.set_cons_succ, i64_w, i32_w]
                                  rfl
                                refine take_ (i := 8) (N := some 76) (v := ?_) (a' := ?_) #[false, true, true, true, true, false, true, true, true, true, true, false, false, false, false, false, false, true, false, true, false, false, false] rfl rfl (take_ofW HT_.out HW_.out (by kernel_rfl)) (fun _ _ _ h => h) (Or.inl ⟨by rfl, ?_⟩) hHeld ?_ ?_
                                rotate_left
                                · rintro w' ⟨s0, s1, s2, s3⟩
                                  go_simp
                                  with_reducible rfl
                                rotate_left
                                · simp only [Act.put, List.setIfInBounds_toArray, List.set_cons_zero, List.set_cons_succ, i64_w, i32_w]
                                  rfl
                                refine pure_ (i := 11) (N := some 79) (v := ?_) (a' := ?_) #[false, true, true, true, true, false, true, true, true, true, true, true, false, false, false, false, false, true, false, true, false, false, false] rfl rfl (any_of HT_.out (by kernel_rfl)) (fun _ _ _ h => h) (Or.inl ⟨by rfl, ?_⟩) ?_ ?_
                                rotate_left
                                · intro w'
                                  go_simp
                                  with_reducible rfl
                                rotate_left
                                · simp only [Act.put, List.setIfInBounds_toArray, List.set_cons_zero, List.set_cons_succ, i64_w, i32_w]
                                  rfl
                                refine pure_ (i := 12) (N := some 80) (v := ?_) (a' := ?_) #[false, true, true, true, true, false, true, true, true, true, true, true, true, false, false, false, false, true, false, true, false, false, false] rfl rfl (any_of HT_.out (by kernel_rfl)) (fun _ _ _ h => h) (Or.inl ⟨by rfl, ?_⟩) ?_ ?_
                                rotate_left
                                · intro w'
                                  go_simp
                                  with_reducible rfl
                                rotate_left
                                · simp only [Act.put, List.setIfInBounds_toArray, List.set_cons_zero, List.set_cons_succ, i64_w, i32_w]
                                  rfl
                                refine take_ (i := 13) (N := some 81) (v := ?_) (a' := ?_) #[false, true, true, true, true, false, true, true, true, true, true, true, true, true, false, false, false, true, false, true, false, false, false] rfl rfl (take_ofW HT_.out HW_.out (by kernel_rfl)) (fun _ _ _ h => h) (Or.inl ⟨by rfl, ?_⟩) hHeld ?_ ?_
                                rotate_left
                                · rintro w' ⟨s0, s1, s2, s3⟩
                                  go_simp
                                  with_reducible rfl
                                rotate_left
                                · simp only [Act.put, List.setIfInBounds_toArray, List.set_cons_zero, List.set_cons_succ, i64_w, i32_w]
                                  rfl
                                refine pure_ (i := 14) (N := some 82) (v := ?_) (a' := ?_) #[false, true, true, true, true, false, true, true, true, true, true, true, true, true, true, false, false, true, false, true, false, false, false] rfl rfl (any_of HT_.out (by kernel_rfl)) (fun _ _ _ h => h) (Or.inl ⟨by rfl, ?_⟩) ?_ ?_
                                rotate_left
                                · intro w'
                                  go_simp
                                  with_reducible rfl
                                rotate_left
                                · simp only [Act.put, List.setIfInBounds_toArray, List.set_cons_zero, List.set_cons_succ, i64_w, i32_w]
                                  rfl
                                refine take_ (i := 18) (N := some 86) (v := ?_) (a' := ?_) #[false, true, true, true, true, false, true, true, true, true, true, true, true, true, true, false, false, true, true, true, false, false, false] rfl rfl (take_ofW HT_.out HW_.out (by kernel_rfl)) (fun _ _ _ h => h) (Or.inl ⟨by rfl, ?_⟩) hHeld ?_ ?_
                                rotate_left
                                · rintro w' ⟨s0, s1, s2, s3⟩
                                  go_simp
                                  with_reducible rfl
                                rotate_left
                                · simp only [Act.put, List.setIfInBounds_toArray, List.set_cons_zero, List.set_cons_succ, i64_w, i32_w]
                                  rfl
                                refine pure_ (i := 20) (N := some 88) (v := ?_) (a' := ?_) #[false, true, true, true, true, false, true, true, true, true, true, true, true, true, true, false, false, true, true, true, true, false, false] rfl rfl (any_of HT_.out (by kernel_rfl)) (fun _ _ _ h => h) (Or.inl ⟨by rfl, ?_⟩) ?_ ?_
                                rotate_left
                                · intro w'
                                  go_simp
                                  with_reducible rfl
                                rotate_left
                                · simp only [Act.put, List.setIfInBounds_toArray, List.set_cons_zero, List.set_cons_succ, i64_w, i32_w]
                                  rfl
                                refine join_ (σ := Value × Value × Value) 3 #[true, true, true, true, true, true, true, true, true, true, true, true, true, true, true, true, false, true, true, true, true, false, false] (fun s_ => [(68, s_.1), (73, s_.2.1), (83, s_.2.2)]) (fun s_ w' => (w'.cell? ⟨gb165, 0, none⟩ = some (.int .i64 a0_0) ∧ w'.cell? ⟨gb165, 1, none⟩ = some (.slice (some ad181) l0_1.length c0_1) ∧ w'.cell? (ad181.add (((ji37)).toNat * 2)) = some (.int .i64 ((rd_T32 l0_1 (ji37)).f0)) ∧ w'.cell? ⟨(ad181.add (((ji37)).toNat * 2)).block, (ad181.add (((ji37)).toNat * 2)).off + 1, none⟩ = some (.int .i64 ((rd_T32 l0_1 (ji37)).f1))) ∧ (Kd.R k32 32 w' w.heap.size (fun k_ => some k_ ≠ (s_.2.2 : Value).ownBlock) s_.2.1 y178) ∧ (Kd.R k32 32 w' w.heap.size (fun k_ => some k_ ≠ (s_.2.1 : Value).ownBlock) s_.2.2 y182) ∧ (w'.heap[gb165]? = some (.cells #[.int .i64 a0_0, .slice (some ad181) l0_1.length c0_1] 24 (0, 0))) ∧ (Below w.heap.size w w')) ?_ ?_
                                rotate_left
                                · intro hCont
                                  refine two_ (i := 0) (j := 15) (Ni := some 68) (Nj := some 83) #[true, true, true, true, true, false, true, true, true, true, true, true, true, true, true, false, false, true, true, true, true, false, false] #[false, true, true, true, true, false, true, true, true, true, true, true, true, true, true, true, false, true, true, true, true, false, false] rfl rfl rfl rfl (two_of HT_.out (by kernel_rfl)) (by decide) (by decide) (fun K hK => ?_) (fun K hK => ?_)
                                  · skip
                                    refine Kd.R_lit_step k32 _ 32 ?hg (N := 68) ?hd (xs := ([] : List (S32))) (inner := []) (ok := fun _ => True) (okp := fun _ => True) ?hr ?hp (fun _ hk => hk) trivial (Below.refl _ _) (Nat.le_refl _) (by simp) ?_; (case hd => rfl); (case hg => rfl); (case hr => first | (go_simp; done) | (go_simp; rfl)); (case hp => exact (Reps.none _ _))
                                    intro v172 w50 ho51 hb hg_ hnew_
                                    clear hg_ hnew_
                                    (first | rw [← Ny171.out] at ho51 | (simp only [Int.reduceToNat] at ho51; rw [← Ny171.out] at ho51))
                                    have n0_ := Aside0.mk (Kd.R_lower ho51 (below_size (by repeat (first | (with_reducible first | exact HB.out | apply below_alloc | apply pw_below_drewN | apply below_drew1 | refine below_set ?_ GE165.out) | exact HB.out))))
                                    have n1_ := Aside0.mk (blk_below (g := gb165) (o := .cells #[.int .i64 a0_0, .slice (some ad181) l0_1.length c0_1] 24 (0, 0)) (by (with_reducible repeat (first | refine blk_drewN ?_ _ | refine blk_drew ?_ | refine blk_alloc ?_ _)); exact BK165.out) hb)
                                    have n2_ := Aside0.mk (below_step (by repeat (first | (with_reducible first | exact HB.out | apply below_alloc | apply pw_below_drewN | apply below_drew1 | refine below_set ?_ GE165.out) | exact HB.out)) hb)
                                    clear BK165
                                    clear HB
                                    have HO173 := n0_
                                    have BK165 := n1_
                                    have HB := n2_
                                    clear n0_ n1_ n2_
                                    clear hb ho51
                                    refine hK.out _ _ ⟨(blk_cell BK165.out 0).trans rfl, (blk_cell BK165.out 1).trans rfl, ((HB.out.cell (World.block_lt_of_cell? w _ hw181_0)).trans hw181_0), ((HB.out.cell (World.block_lt_of_cell? w _ hw181_1)).trans hw181_1)⟩ (fun hHeld => ?_)
                                    clear hK K
                                    refine norm_ (a' := ?_) ?_ ?_
                                    rotate_left
                                    · show Act.put _ (some 68) _ = _
                                      simp only [Act.put, List.setIfInBounds_toArray, List.set_cons_zero, List.set_cons_succ, i64_w, i32_w]
                                      rfl
                                    refine two_ (i := 5) (j := 15) (Ni := some 73) (Nj := some 83) #[true, true, true, true, true, true, true, true, true, true, true, true, true, true, true, false, false, true, true, true, true, false, false] #[true, true, true, true, true, false, true, true, true, true, true, true, true, true, true, true, false, true, true, true, true, false, false] rfl rfl rfl rfl (two_of HT_.out (by kernel_rfl)) (by decide) (by decide) (fun K hK => ?_) (fun K hK => ?_)
                                    · skip
                                      refine Kd.R_append_rows_step k32 (w0 := w) w.heap.size (by rfl) (.tmp 68) (.tmp 72) 22 32 (.agg #[(.int .i64 0), (.int .i64 0)]) 16 rfl Try.underlying22 info32 rfl (by decide) (by omega) v172 y171 y174 _ _ _ (fun _ => True) (fun _ => False) rfl rfl ?aO ?aR (fun _ _ h => h) (fun _ h => h.elim) ?aF ?aB ?aS ?aL ?_
                                      (case aR => repeat (first | exact (Kd.C_below HR177.out HB.out) | (with_reducible refine Kd.C_alloc ?_ _) | (with_reducible refine Kd.C_drewN ?_ _) | (with_reducible refine Kd.C_drew ?_)))
                                      (case aB => exact (by repeat (first | (with_reducible first | exact HB.out | apply below_alloc | apply pw_below_drewN | apply below_drew1 | refine below_set ?_ GE165.out) | exact HB.out)))
                                      (case aF => exact (fun _ _ => trivial))
                                      (case aO => exact (by (with_reducible repeat (first | apply Kd.R_alloc | apply Kd.R_drewN | apply Kd.R_drew)); exact HO173.out))
                                      (case aS => exact (below_size (by repeat (first | (with_reducible first | exact HB.out | apply below_alloc | apply pw_below_drewN | apply below_drew1 | refine below_set ?_ GE165.out) | exact HB.out))))
                                      (case aL => have := LMc36.out; omega)
                                      intro v179 w52 ho hb hg hat
                                      rw [← Ny178.out] at ho
                                      have n0_ := Aside0.mk (blk_grown (g := gb165) (o := .cells #[.int .i64 a0_0, .slice (some ad181) l0_1.length c0_1] 24 (0, 0)) (by (with_reducible repeat (first | refine blk_drewN ?_ _ | refine blk_drew ?_ | refine blk_alloc ?_ _)); exact BK165.out) hg (Kd.R_ne HO173.out BK165.out (by decide)))
                                      have n1_ := Aside0.mk (hb)
                                      have n2_ := Aside0.mk (ho)
                                      clear BK165
                                      clear HB
                                      clear HO173
                                      have BK165 := n0_
                                      have HB := n1_
                                      have HO180 := n2_
                                      clear n0_ n1_ n2_
                                      clear ho hb hg hat
                                      refine hK.out _ _ ⟨(blk_cell BK165.out 0).trans rfl, (blk_cell BK165.out 1).trans rfl, ((HB.out.cell (World.block_lt_of_cell? w _ hw181_0)).trans hw181_0), ((HB.out.cell (World.block_lt_of_cell? w _ hw181_1)).trans hw181_1)⟩ (fun hHeld => ?_)
                                      clear hK K
                                      refine norm_ (a' := ?_) ?_ ?_
                                      rotate_left
                                      · show Act.put _ (some 73) _ = _
                                        simp only [Act.put, List.setIfInBounds_toArray, List.set_cons_zero, List.set_cons_succ, i64_w, i32_w]
                                        rfl
                                      refine one_ (i := 15) (N := some 83) #[true, true, true, true, true, true, true, true, true, true, true, true, true, true, true, true, false, true, true, true, true, false, false] rfl rfl (one_of HT_.out (by kernel_rfl)) (by decide) (fun K hK => ?_)
                                      refine Kd.R_lit_step k32 _ 32 ?hg (N := 83) ?hd (xs := ([(⟨a1, (rd_T32 l0_1 (ji37)).f1⟩ : S32)] : List (S32))) (inner := [.int .i64 a1, .int .i64 ((rd_T32 l0_1 (ji37)).f1)]) (ok := fun _ => True) (okp := fun _ => True) ?hr ?hp (fun _ hk => hk) trivial (Below.refl _ _) (Nat.le_refl _) (by simp) ?_; (case hd => rfl); (case hg => rfl); (case hr => first | (go_simp; done) | (go_simp; rfl)); (case hp => exact (Reps.c2 (show Kd.M k32 _ _ _ (⟨a1, (rd_T32 l0_1 (ji37)).f1⟩ : S32) [.int .i64 a1, .int .i64 ((rd_T32 l0_1 (ji37)).f1)] from (k32_mkM _ _ _ (⟨a1, (rd_T32 l0_1 (ji37)).f1⟩ : S32) )) (Reps.none _ _)))
                                      intro v183 w53 ho54 hb hg_ hnew_
                                      clear hg_ hnew_
                                      (first | rw [← Ny182.out] at ho54 | (simp only [Int.reduceToNat] at ho54; rw [← Ny182.out] at ho54))
                                      have n0_ := Aside0.mk (Kd.R_elder' (by (with_reducible repeat (first | apply Kd.R_alloc | apply Kd.R_drewN | apply Kd.R_drew)); exact HO180.out) (Kd.R_base ho54) hb)
                                      have n1_ := Aside0.mk (Kd.R_lower (Kd.R_new' ho54 (Kd.R_lt (by (with_reducible repeat (first | apply Kd.R_alloc | apply Kd.R_drewN | apply Kd.R_drew)); exact HO180.out))) (below_size (by repeat (first | (with_reducible first | exact HB.out | apply below_alloc | apply pw_below_drewN | apply below_drew1 | refine below_set ?_ GE165.out) | exact HB.out))))
                                      have n2_ := Aside0.mk (blk_below (g := gb165) (o := .cells #[.int .i64 a0_0, .slice (some ad181) l0_1.length c0_1] 24 (0, 0)) (by (with_reducible repeat (first | refine blk_drewN ?_ _ | refine blk_drew ?_ | refine blk_alloc ?_ _)); exact BK165.out) hb)
                                      have n3_ := Aside0.mk (below_step (by repeat (first | (with_reducible first | exact HB.out | apply below_alloc | apply pw_below_drewN | apply below_drew1 | refine below_set ?_ GE165.out) | exact HB.out)) hb)
                                      clear HO180
                                      clear BK165
                                      clear HB
                                      have HO180 := n0_
                                      have HO184 := n1_
                                      have BK165 := n2_
                                      have HB := n3_
                                      clear n0_ n1_ n2_ n3_
                                      clear hb ho54
                                      refine hK.out _ _ ⟨(blk_cell BK165.out 0).trans rfl, (blk_cell BK165.out 1).trans rfl, ((HB.out.cell (World.block_lt_of_cell? w _ hw181_0)).trans hw181_0), ((HB.out.cell (World.block_lt_of_cell? w _ hw181_1)).trans hw181_1)⟩ (fun hHeld => ?_)
                                      clear hK K
                                      refine norm_ (a' := ?_) ?_ ?_
                                      rotate_left
                                      · show Act.put _ (some 83) _ = _
                                        simp only [Act.put, List.setIfInBounds_toArray, List.set_cons_zero, List.set_cons_succ, i64_w, i32_w]
                                        rfl
                                      exact norm_ (by simp only [putAll, Act.put, List.setIfInBounds_toArray, List.set_cons_zero, List.set_cons_succ]) (hCont (v172, v179, v183) _ ⟨hHeld, (by (with_reducible repeat (first | apply Kd.R_alloc | apply Kd.R_drewN | apply Kd.R_drew)); exact Kd.R_mono HO180.out (fun _ hk => hk.2)), (by (with_reducible repeat (first | apply Kd.R_alloc | apply Kd.R_drewN | apply Kd.R_drew)); exact Kd.R_mono HO184.out (fun _ hk => hk.2)), (by (with_reducible repeat (first | refine blk_drewN ?_ _ | refine blk_drew ?_ | refine blk_alloc ?_ _)); exact BK165.out), (by repeat (first | (with_reducible first | exact HB.out | apply below_alloc | apply pw_below_drewN | apply below_drew1 | refine below_set ?_ GE165.out) | exact HB.out))⟩)
                                    · skip
                                      refine Kd.R_lit_step k32 _ 32 ?hg (N := 83) ?hd (xs := ([(⟨a1, (rd_T32 l0_1 (ji37)).f1⟩ : S32)] : List (S32))) (inner := [.int .i64 a1, .int .i64 ((rd_T32 l0_1 (ji37)).f1)]) (ok := fun _ => True) (okp := fun _ => True) ?hr ?hp (fun _ hk => hk) trivial (Below.refl _ _) (Nat.le_refl _) (by simp) ?_; (case hd => rfl); (case hg => rfl); (case hr => first | (go_simp; done) | (go_simp; rfl)); (case hp => exact (Reps.c2 (show Kd.M k32 _ _ _ (⟨a1, (rd_T32 l0_1 (ji37)).f1⟩ : S32) [.int .i64 a1, .int .i64 ((rd_T32 l0_1 (ji37)).f1)] from (k32_mkM _ _ _ (⟨a1, (rd_T32 l0_1 (ji37)).f1⟩ : S32) )) (Reps.none _ _)))
                                      intro v183 w52 ho53 hb hg_ hnew_
                                      clear hg_ hnew_
                                      (first | rw [← Ny182.out] at ho53 | (simp only [Int.reduceToNat] at ho53; rw [← Ny182.out] at ho53))
                                      have n0_ := Aside0.mk (Kd.R_elder' (by (with_reducible repeat (first | apply Kd.R_alloc | apply Kd.R_drewN | apply Kd.R_drew)); exact HO173.out) (Kd.R_base ho53) hb)
                                      have n1_ := Aside0.mk (Kd.R_lower (Kd.R_new' ho53 (Kd.R_lt (by (with_reducible repeat (first | apply Kd.R_alloc | apply Kd.R_drewN | apply Kd.R_drew)); exact HO173.out))) (below_size (by repeat (first | (with_reducible first | exact HB.out | apply below_alloc | apply pw_below_drewN | apply below_drew1 | refine below_set ?_ GE165.out) | exact HB.out))))
                                      have n2_ := Aside0.mk (blk_below (g := gb165) (o := .cells #[.int .i64 a0_0, .slice (some ad181) l0_1.length c0_1] 24 (0, 0)) (by (with_reducible repeat (first | refine blk_drewN ?_ _ | refine blk_drew ?_ | refine blk_alloc ?_ _)); exact BK165.out) hb)
                                      have n3_ := Aside0.mk (below_step (by repeat (first | (with_reducible first | exact HB.out | apply below_alloc | apply pw_below_drewN | apply below_drew1 | refine below_set ?_ GE165.out) | exact HB.out)) hb)
                                      clear HO173
                                      clear BK165
                                      clear HB
                                      have HO173 := n0_
                                      have HO184 := n1_
                                      have BK165 := n2_
                                      have HB := n3_
                                      clear n0_ n1_ n2_ n3_
                                      clear hb ho53
                                      refine hK.out _ _ ⟨(blk_cell BK165.out 0).trans rfl, (blk_cell BK165.out 1).trans rfl, ((HB.out.cell (World.block_lt_of_cell? w _ hw181_0)).trans hw181_0), ((HB.out.cell (World.block_lt_of_cell? w _ hw181_1)).trans hw181_1)⟩ (fun hHeld => ?_)
                                      clear hK K
                                      refine norm_ (a' := ?_) ?_ ?_
                                      rotate_left
                                      · show Act.put _ (some 83) _ = _
                                        simp only [Act.put, List.setIfInBounds_toArray, List.set_cons_zero, List.set_cons_succ, i64_w, i32_w]
                                        rfl
                                      refine one_ (i := 5) (N := some 73) #[true, true, true, true, true, true, true, true, true, true, true, true, true, true, true, true, false, true, true, true, true, false, false] rfl rfl (one_of HT_.out (by kernel_rfl)) (by decide) (fun K hK => ?_)
                                      refine Kd.R_append_rows_step k32 (w0 := w) w.heap.size (by rfl) (.tmp 68) (.tmp 72) 22 32 (.agg #[(.int .i64 0), (.int .i64 0)]) 16 rfl Try.underlying22 info32 rfl (by decide) (by omega) v172 y171 y174 _ _ _ (fun k_ => some k_ ≠ (v183 : Value).ownBlock) (fun _ => False) rfl rfl ?aO ?aR (fun _ _ h => h) (fun _ h => h.elim) ?aF ?aB ?aS ?aL ?_
                                      (case aR => repeat (first | exact (Kd.C_below HR177.out HB.out) | (with_reducible refine Kd.C_alloc ?_ _) | (with_reducible refine Kd.C_drewN ?_ _) | (with_reducible refine Kd.C_drew ?_)))
                                      (case aB => exact (by repeat (first | (with_reducible first | exact HB.out | apply below_alloc | apply pw_below_drewN | apply below_drew1 | refine below_set ?_ GE165.out) | exact HB.out)))
                                      (case aF => exact (fun k_ hk => Kd.fresh' (Kd.R_lt (by (with_reducible repeat (first | apply Kd.R_alloc | apply Kd.R_drewN | apply Kd.R_drew)); exact HO184.out)) k_ hk))
                                      (case aO => exact (by (with_reducible repeat (first | apply Kd.R_alloc | apply Kd.R_drewN | apply Kd.R_drew)); exact Kd.R_mono HO173.out (fun _ hk => hk.2)))
                                      (case aS => exact (below_size (by repeat (first | (with_reducible first | exact HB.out | apply below_alloc | apply pw_below_drewN | apply below_drew1 | refine below_set ?_ GE165.out) | exact HB.out))))
                                      (case aL => have := LMc36.out; omega)
                                      intro v179 w54 ho hb hg hat
                                      rw [← Ny178.out] at ho
                                      have n0_ := Aside0.mk (blk_grown (g := gb165) (o := .cells #[.int .i64 a0_0, .slice (some ad181) l0_1.length c0_1] 24 (0, 0)) (by (with_reducible repeat (first | refine blk_drewN ?_ _ | refine blk_drew ?_ | refine blk_alloc ?_ _)); exact BK165.out) hg (Kd.R_ne HO173.out BK165.out (by decide)))
                                      have n1_ := Aside0.mk (Kd.R_after (ok := (fun _ => True)) (by (with_reducible repeat (first | apply Kd.R_alloc | apply Kd.R_drewN | apply Kd.R_drew)); exact HO184.out) hg hat)
                                      have n2_ := Aside0.mk (hb)
                                      have n3_ := Aside0.mk (ho)
                                      clear BK165
                                      clear HO184
                                      clear HB
                                      clear HO173
                                      have BK165 := n0_
                                      have HO184 := n1_
                                      have HB := n2_
                                      have HO180 := n3_
                                      clear n0_ n1_ n2_ n3_
                                      clear ho hb hg hat
                                      refine hK.out _ _ ⟨(blk_cell BK165.out 0).trans rfl, (blk_cell BK165.out 1).trans rfl, ((HB.out.cell (World.block_lt_of_cell? w _ hw181_0)).trans hw181_0), ((HB.out.cell (World.block_lt_of_cell? w _ hw181_1)).trans hw181_1)⟩ (fun hHeld => ?_)
                                      clear hK K
                                      refine norm_ (a' := ?_) ?_ ?_
                                      rotate_left
                                      · show Act.put _ (some 73) _ = _
                                        simp only [Act.put, List.setIfInBounds_toArray, List.set_cons_zero, List.set_cons_succ, i64_w, i32_w]
                                        rfl
                                      exact norm_ (by simp only [putAll, Act.put, List.setIfInBounds_toArray, List.set_cons_zero, List.set_cons_succ]) (hCont (v172, v179, v183) _ ⟨hHeld, (by (with_reducible repeat (first | apply Kd.R_alloc | apply Kd.R_drewN | apply Kd.R_drew)); exact HO180.out), (by (with_reducible repeat (first | apply Kd.R_alloc | apply Kd.R_drewN | apply Kd.R_drew)); exact Kd.R_mono HO184.out (fun _ hk => hk.2)), (by (with_reducible repeat (first | refine blk_drewN ?_ _ | refine blk_drew ?_ | refine blk_alloc ?_ _)); exact BK165.out), (by repeat (first | (with_reducible first | exact HB.out | apply below_alloc | apply pw_below_drewN | apply below_drew1 | refine below_set ?_ GE165.out) | exact HB.out))⟩)
                                  · skip
                                    refine Kd.R_lit_step k32 _ 32 ?hg (N := 83) ?hd (xs := ([(⟨a1, (rd_T32 l0_1 (ji37)).f1⟩ : S32)] : List (S32))) (inner := [.int .i64 a1, .int .i64 ((rd_T32 l0_1 (ji37)).f1)]) (ok := fun _ => True) (okp := fun _ => True) ?hr ?hp (fun _ hk => hk) trivial (Below.refl _ _) (Nat.le_refl _) (by simp) ?_; (case hd => rfl); (case hg => rfl); (case hr => first | (go_simp; done) | (go_simp; rfl)); (case hp => exact (Reps.c2 (show Kd.M k32 _ _ _ (⟨a1, (rd_T32 l0_1 (ji37)).f1⟩ : S32) [.int .i64 a1, .int .i64 ((rd_T32 l0_1 (ji37)).f1)] from (k32_mkM _ _ _ (⟨a1, (rd_T32 l0_1 (ji37)).f1⟩ : S32) )) (Reps.none _ _)))
                                    intro v183 w50 ho51 hb hg_ hnew_
                                    clear hg_ hnew_
                                    (first | rw [← Ny182.out] at ho51 | (simp only [Int.reduceToNat] at ho51; rw [← Ny182.out] at ho51))
                                    have n0_ := Aside0.mk (Kd.R_lower ho51 (below_size (by repeat (first | (with_reducible first | exact HB.out | apply below_alloc | apply pw_below_drewN | apply below_drew1 | refine below_set ?_ GE165.out) | exact HB.out))))
                                    have n1_ := Aside0.mk (blk_below (g := gb165) (o := .cells #[.int .i64 a0_0, .slice (some ad181) l0_1.length c0_1] 24 (0, 0)) (by (with_reducible repeat (first | refine blk_drewN ?_ _ | refine blk_drew ?_ | refine blk_alloc ?_ _)); exact BK165.out) hb)
                                    have n2_ := Aside0.mk (below_step (by repeat (first | (with_reducible first | exact HB.out | apply below_alloc | apply pw_below_drewN | apply below_drew1 | refine below_set ?_ GE165.out) | exact HB.out)) hb)
                                    clear BK165
                                    clear HB
                                    have HO184 := n0_
                                    have BK165 := n1_
                                    have HB := n2_
                                    clear n0_ n1_ n2_
                                    clear hb ho51
                                    refine hK.out _ _ ⟨(blk_cell BK165.out 0).trans rfl, (blk_cell BK165.out 1).trans rfl, ((HB.out.cell (World.block_lt_of_cell? w _ hw181_0)).trans hw181_0), ((HB.out.cell (World.block_lt_of_cell? w _ hw181_1)).trans hw181_1)⟩ (fun hHeld => ?_)
                                    clear hK K
                                    refine norm_ (a' := ?_) ?_ ?_
                                    rotate_left
                                    · show Act.put _ (some 83) _ = _
                                      simp only [Act.put, List.setIfInBounds_toArray, List.set_cons_zero, List.set_cons_succ, i64_w, i32_w]
                                      rfl
                                    refine one_ (i := 0) (N := some 68) #[true, true, true, true, true, false, true, true, true, true, true, true, true, true, true, true, false, true, true, true, true, false, false] rfl rfl (one_of HT_.out (by kernel_rfl)) (by decide) (fun K hK => ?_)
                                    refine Kd.R_lit_step k32 _ 32 ?hg (N := 68) ?hd (xs := ([] : List (S32))) (inner := []) (ok := fun _ => True) (okp := fun _ => True) ?hr ?hp (fun _ hk => hk) trivial (Below.refl _ _) (Nat.le_refl _) (by simp) ?_; (case hd => rfl); (case hg => rfl); (case hr => first | (go_simp; done) | (go_simp; rfl)); (case hp => exact (Reps.none _ _))
                                    intro v172 w52 ho53 hb hg_ hnew_
                                    clear hg_ hnew_
                                    (first | rw [← Ny171.out] at ho53 | (simp only [Int.reduceToNat] at ho53; rw [← Ny171.out] at ho53))
                                    have n0_ := Aside0.mk (Kd.R_elder' (by (with_reducible repeat (first | apply Kd.R_alloc | apply Kd.R_drewN | apply Kd.R_drew)); exact HO184.out) (Kd.R_base ho53) hb)
                                    have n1_ := Aside0.mk (Kd.R_lower (Kd.R_new' ho53 (Kd.R_lt (by (with_reducible repeat (first | apply Kd.R_alloc | apply Kd.R_drewN | apply Kd.R_drew)); exact HO184.out))) (below_size (by repeat (first | (with_reducible first | exact HB.out | apply below_alloc | apply pw_below_drewN | apply below_drew1 | refine below_set ?_ GE165.out) | exact HB.out))))
                                    have n2_ := Aside0.mk (blk_below (g := gb165) (o := .cells #[.int .i64 a0_0, .slice (some ad181) l0_1.length c0_1] 24 (0, 0)) (by (with_reducible repeat (first | refine blk_drewN ?_ _ | refine blk_drew ?_ | refine blk_alloc ?_ _)); exact BK165.out) hb)
                                    have n3_ := Aside0.mk (below_step (by repeat (first | (with_reducible first | exact HB.out | apply below_alloc | apply pw_below_drewN | apply below_drew1 | refine below_set ?_ GE165.out) | exact HB.out)) hb)
                                    clear HO184
                                    clear BK165
                                    clear HB
                                    have HO184 := n0_
                                    have HO173 := n1_
                                    have BK165 := n2_
                                    have HB := n3_
                                    clear n0_ n1_ n2_ n3_
                                    clear hb ho53
                                    refine hK.out _ _ ⟨(blk_cell BK165.out 0).trans rfl, (blk_cell BK165.out 1).trans rfl, ((HB.out.cell (World.block_lt_of_cell? w _ hw181_0)).trans hw181_0), ((HB.out.cell (World.block_lt_of_cell? w _ hw181_1)).trans hw181_1)⟩ (fun hHeld => ?_)
                                    clear hK K
                                    refine norm_ (a' := ?_) ?_ ?_
                                    rotate_left
                                    · show Act.put _ (some 68) _ = _
                                      simp only [Act.put, List.setIfInBounds_toArray, List.set_cons_zero, List.set_cons_succ, i64_w, i32_w]
                                      rfl
                                    refine one_ (i := 5) (N := some 73) #[true, true, true, true, true, true, true, true, true, true, true, true, true, true, true, true, false, true, true, true, true, false, false] rfl rfl (one_of HT_.out (by kernel_rfl)) (by decide) (fun K hK => ?_)
                                    refine Kd.R_append_rows_step k32 (w0 := w) w.heap.size (by rfl) (.tmp 68) (.tmp 72) 22 32 (.agg #[(.int .i64 0), (.int .i64 0)]) 16 rfl Try.underlying22 info32 rfl (by decide) (by omega) v172 y171 y174 _ _ _ (fun k_ => some k_ ≠ (v183 : Value).ownBlock) (fun _ => False) rfl rfl ?aO ?aR (fun _ _ h => h) (fun _ h => h.elim) ?aF ?aB ?aS ?aL ?_
                                    (case aR => repeat (first | exact (Kd.C_below HR177.out HB.out) | (with_reducible refine Kd.C_alloc ?_ _) | (with_reducible refine Kd.C_drewN ?_ _) | (with_reducible refine Kd.C_drew ?_)))
                                    (case aB => exact (by repeat (first | (with_reducible first | exact HB.out | apply below_alloc | apply pw_below_drewN | apply below_drew1 | refine below_set ?_ GE165.out) | exact HB.out)))
                                    (case aF => exact (fun k_ hk => Kd.fresh' (Kd.R_lt (by (with_reducible repeat (first | apply Kd.R_alloc | apply Kd.R_drewN | apply Kd.R_drew)); exact HO184.out)) k_ hk))
                                    (case aO => exact (by (with_reducible repeat (first | apply Kd.R_alloc | apply Kd.R_drewN | apply Kd.R_drew)); exact Kd.R_mono HO173.out (fun _ hk => hk.2)))
                                    (case aS => exact (below_size (by repeat (first | (with_reducible first | exact HB.out | apply below_alloc | apply pw_below_drewN | apply below_drew1 | refine below_set ?_ GE165.out) | exact HB.out))))
                                    (case aL => have := LMc36.out; omega)
                                    intro v179 w54 ho hb hg hat
                                    rw [← Ny178.out] at ho
                                    have n0_ := Aside0.mk (blk_grown (g := gb165) (o := .cells #[.int .i64 a0_0, .slice (some ad181) l0_1.length c0_1] 24 (0, 0)) (by (with_reducible repeat (first | refine blk_drewN ?_ _ | refine blk_drew ?_ | refine blk_alloc ?_ _)); exact BK165.out) hg (Kd.R_ne HO173.out BK165.out (by decide)))
                                    have n1_ := Aside0.mk (Kd.R_after (ok := (fun _ => True)) (by (with_reducible repeat (first | apply Kd.R_alloc | apply Kd.R_drewN | apply Kd.R_drew)); exact HO184.out) hg hat)
                                    have n2_ := Aside0.mk (hb)
                                    have n3_ := Aside0.mk (ho)
                                    clear BK165
                                    clear HO184
                                    clear HB
                                    clear HO173
                                    have BK165 := n0_
                                    have HO184 := n1_
                                    have HB := n2_
                                    have HO180 := n3_
                                    clear n0_ n1_ n2_ n3_
                                    clear ho hb hg hat
                                    refine hK.out _ _ ⟨(blk_cell BK165.out 0).trans rfl, (blk_cell BK165.out 1).trans rfl, ((HB.out.cell (World.block_lt_of_cell? w _ hw181_0)).trans hw181_0), ((HB.out.cell (World.block_lt_of_cell? w _ hw181_1)).trans hw181_1)⟩ (fun hHeld => ?_)
                                    clear hK K
                                    refine norm_ (a' := ?_) ?_ ?_
                                    rotate_left
                                    · show Act.put _ (some 73) _ = _
                                      simp only [Act.put, List.setIfInBounds_toArray, List.set_cons_zero, List.set_cons_succ, i64_w, i32_w]
                                      rfl
                                    exact norm_ (by simp only [putAll, Act.put, List.setIfInBounds_toArray, List.set_cons_zero, List.set_cons_succ]) (hCont (v172, v179, v183) _ ⟨hHeld, (by (with_reducible repeat (first | apply Kd.R_alloc | apply Kd.R_drewN | apply Kd.R_drew)); exact HO180.out), (by (with_reducible repeat (first | apply Kd.R_alloc | apply Kd.R_drewN | apply Kd.R_drew)); exact Kd.R_mono HO184.out (fun _ hk => hk.2)), (by (with_reducible repeat (first | refine blk_drewN ?_ _ | refine blk_drew ?_ | refine blk_alloc ?_ _)); exact BK165.out), (by repeat (first | (with_reducible first | exact HB.out | apply below_alloc | apply pw_below_drewN | apply below_drew1 | refine below_set ?_ GE165.out) | exact HB.out))⟩)
                                rintro ⟨v172, v179, v183⟩ w55 ⟨hS_, h0_, h1_, h2_, h3_⟩
                                have n0_ : Aside0 (Kd.R k32 32 w55 w.heap.size (fun k_ => some k_ ≠ (v183 : Value).ownBlock) v179 y178) := ⟨h0_⟩
                                have n1_ : Aside0 (Kd.R k32 32 w55 w.heap.size (fun k_ => some k_ ≠ (v179 : Value).ownBlock) v183 y182) := ⟨h1_⟩
                                have n2_ : Aside0 (w55.heap[gb165]? = some (.cells #[.int .i64 a0_0, .slice (some ad181) l0_1.length c0_1] 24 (0, 0))) := ⟨h2_⟩
                                have n3_ : Aside0 (Below w.heap.size w w55) := ⟨h3_⟩
                                clear BK165
                                clear HB
                                clear h0_ h1_ h2_ h3_
                                have HO180 := n0_
                                have HO184 := n1_
                                have BK165 := n2_
                                have HB := n3_
                                clear n0_ n1_ n2_ n3_
                                have hHeld : w55.cell? ⟨gb165, 0, none⟩ = some (.int .i64 a0_0) ∧ w55.cell? ⟨gb165, 1, none⟩ = some (.slice (some ad181) l0_1.length c0_1) ∧ w55.cell? (ad181.add (((ji37)).toNat * 2)) = some (.int .i64 ((rd_T32 l0_1 (ji37)).f0)) ∧ w55.cell? ⟨(ad181.add (((ji37)).toNat * 2)).block, (ad181.add (((ji37)).toNat * 2)).off + 1, none⟩ = some (.int .i64 ((rd_T32 l0_1 (ji37)).f1)) := hS_
                                obtain ⟨Ao57, co57, eo57⟩ := Kd.R_slice HO184.out
                                (first | subst eo57 | (injection eo57 with f1_ f2_ f3_; have f4_ := f1_.symm; have f5_ := f3_.symm; clear f1_ f2_ f3_; subst f4_; subst f5_))
                                refine norm_ (a' := ?_) ?_ ?_
                                rotate_left
                                · simp only [putAll, Act.put, List.setIfInBounds_toArray, List.set_cons_zero, List.set_cons_succ]
                                  rfl
                                refine one_ (i := 16) (N := some 84) #[true, true, true, true, true, true, true, true, true, true, true, true, true, true, true, true, true, true, true, true, true, false, false] rfl rfl (one_of HT_.out (by kernel_rfl)) (by decide) (fun K hK => ?_)
                                refine Kd.R_append_rows_step k32 (w0 := w) w.heap.size (by rfl) (.tmp 73) (.tmp 83) 22 32 (.agg #[(.int .i64 0), (.int .i64 0)]) 16 rfl Try.underlying22 info32 rfl (by decide) (by omega) v179 y178 y182 _ _ _ (fun k_ => some k_ ≠ (.slice Ao57 y182.length co57 : Value).ownBlock) (fun _ => False) rfl rfl ?aO ?aR (fun _ _ h => h) (fun _ h => h.elim) ?aF ?aB ?aS ?aL ?_
                                (case aR => repeat (first | exact (Kd.R_reads' HO184.out).2.2 | (with_reducible refine Kd.C_alloc ?_ _) | (with_reducible refine Kd.C_drewN ?_ _) | (with_reducible refine Kd.C_drew ?_)))
                                (case aB => exact (by repeat (first | (with_reducible first | exact HB.out | apply below_alloc | apply pw_below_drewN | apply below_drew1 | refine below_set ?_ GE165.out) | exact HB.out)))
                                (case aF => exact (fun k_ hk => Kd.fresh' (Kd.R_lt (by (with_reducible repeat (first | apply Kd.R_alloc | apply Kd.R_drewN | apply Kd.R_drew)); exact HO184.out)) k_ hk))
                                (case aO => exact (by (with_reducible repeat (first | apply Kd.R_alloc | apply Kd.R_drewN | apply Kd.R_drew)); exact HO180.out))
                                (case aS => exact (below_size (by repeat (first | (with_reducible first | exact HB.out | apply below_alloc | apply pw_below_drewN | apply below_drew1 | refine below_set ?_ GE165.out) | exact HB.out))))
                                (case aL => have := LMc40.out; omega)
                                intro v186 w56 ho hb hg hat
                                rw [← Ny185.out] at ho
                                have n0_ := Aside0.mk (blk_grown (g := gb165) (o := .cells #[.int .i64 a0_0, .slice (some ad181) l0_1.length c0_1] 24 (0, 0)) (by (with_reducible repeat (first | refine blk_drewN ?_ _ | refine blk_drew ?_ | refine blk_alloc ?_ _)); exact BK165.out) hg (Kd.R_ne HO180.out BK165.out (by decide)))
                                have n1_ := Aside0.mk (Kd.R_after (ok := (fun _ => True)) (by (with_reducible repeat (first | apply Kd.R_alloc | apply Kd.R_drewN | apply Kd.R_drew)); exact Kd.R_mono HO184.out (fun _ hk => ⟨trivial, hk⟩)) hg hat)
                                have n2_ := Aside0.mk (hb)
                                have n3_ := Aside0.mk (ho)
                                clear BK165
                                clear HO184
                                clear HB
                                clear HO180
                                have BK165 := n0_
                                have HO184 := n1_
                                have HB := n2_
                                have HO187 := n3_
                                clear n0_ n1_ n2_ n3_
                                clear ho hb hg hat
                                refine hK.out _ _ ⟨(blk_cell BK165.out 0).trans rfl, (blk_cell BK165.out 1).trans rfl, ((HB.out.cell (World.block_lt_of_cell? w _ hw181_0)).trans hw181_0), ((HB.out.cell (World.block_lt_of_cell? w _ hw181_1)).trans hw181_1)⟩ (fun hHeld => ?_)
                                clear hK K
                                refine norm_ (a' := ?_) ?_ ?_
                                rotate_left
                                · show Act.put _ (some 84) _ = _
                                  simp only [Act.put, List.setIfInBounds_toArray, List.set_cons_zero, List.set_cons_succ, i64_w, i32_w]
                                  rfl
                                refine one_ (i := 21) (N := some 89) #[true, true, true, true, true, true, true, true, true, true, true, true, true, true, true, true, true, true, true, true, true, true, false] rfl rfl (one_of HT_.out (by kernel_rfl)) (by decide) (fun K hK => ?_)
                                refine Kd.R_append_rows_step k32 (w0 := w) w.heap.size (by rfl) (.tmp 84) (.tmp 88) 22 32 (.agg #[(.int .i64 0), (.int .i64 0)]) 16 rfl Try.underlying22 info32 rfl (by decide) (by omega) v186 y185 y188 _ _ _ (fun k_ => some k_ ≠ (.slice Ao57 y182.length co57 : Value).ownBlock) (fun _ => False) rfl rfl ?aO ?aR (fun _ _ h => h) (fun _ h => h.elim) ?aF ?aB ?aS ?aL ?_
                                (case aR => repeat (first | exact (Kd.C_below HR191.out HB.out) | (with_reducible refine Kd.C_alloc ?_ _) | (with_reducible refine Kd.C_drewN ?_ _) | (with_reducible refine Kd.C_drew ?_)))
                                (case aB => exact (by repeat (first | (with_reducible first | exact HB.out | apply below_alloc | apply pw_below_drewN | apply below_drew1 | refine below_set ?_ GE165.out) | exact HB.out)))
                                (case aF => exact (fun k_ hk => Kd.fresh' (Kd.R_lt (by (with_reducible repeat (first | apply Kd.R_alloc | apply Kd.R_drewN | apply Kd.R_drew)); exact HO184.out)) k_ hk))
                                (case aO => exact (by (with_reducible repeat (first | apply Kd.R_alloc | apply Kd.R_drewN | apply Kd.R_drew)); exact HO187.out))
                                (case aS => exact (below_size (by repeat (first | (with_reducible first | exact HB.out | apply below_alloc | apply pw_below_drewN | apply below_drew1 | refine below_set ?_ GE165.out) | exact HB.out))))
                                (case aL => have := LMc43.out; omega)
                                intro v193 w58 ho hb hg hat
                                rw [← Ny192.out] at ho
                                have n0_ := Aside0.mk (blk_grown (g := gb165) (o := .cells #[.int .i64 a0_0, .slice (some ad181) l0_1.length c0_1] 24 (0, 0)) (by (with_reducible repeat (first | refine blk_drewN ?_ _ | refine blk_drew ?_ | refine blk_alloc ?_ _)); exact BK165.out) hg (Kd.R_ne HO187.out BK165.out (by decide)))
                                have n1_ := Aside0.mk (Kd.R_after (ok := (fun _ => True)) (by (with_reducible repeat (first | apply Kd.R_alloc | apply Kd.R_drewN | apply Kd.R_drew)); exact HO184.out) hg hat)
                                have n2_ := Aside0.mk (hb)
                                have n3_ := Aside0.mk (ho)
                                clear BK165
                                clear HO184
                                clear HB
                                clear HO187
                                have BK165 := n0_
                                have HO184 := n1_
                                have HB := n2_
                                have HO194 := n3_
                                clear n0_ n1_ n2_ n3_
                                clear ho hb hg hat
                                refine hK.out _ _ ⟨(blk_cell BK165.out 0).trans rfl, (blk_cell BK165.out 1).trans rfl, ((HB.out.cell (World.block_lt_of_cell? w _ hw181_0)).trans hw181_0), ((HB.out.cell (World.block_lt_of_cell? w _ hw181_1)).trans hw181_1)⟩ (fun hHeld => ?_)
                                clear hK K
                                refine norm_ (a' := ?_) ?_ ?_
                                rotate_left
                                · show Act.put _ (some 89) _ = _
                                  simp only [Act.put, List.setIfInBounds_toArray, List.set_cons_zero, List.set_cons_succ, i64_w, i32_w]
                                  rfl
                                refine pure_ (i := 22) (N := some 8) (v := ?_) (a' := ?_) #[true, true, true, true, true, true, true, true, true, true, true, true, true, true, true, true, true, true, true, true, true, true, true] rfl rfl (any_of HT_.out (by kernel_rfl)) (fun _ _ _ h => h) (Or.inl ⟨by rfl, ?_⟩) ?_ ?_
                                rotate_left
                                · intro w'
                                  go_simp
                                  with_reducible rfl
                                rotate_left
                                · simp only [Act.put, List.setIfInBounds_toArray, List.set_cons_zero, List.set_cons_succ, i64_w, i32_w]
                                  rfl
                                refine done_ (done_of HT_.out (by kernel_rfl)) ?_
                                have hcz59_0 : w58.cell? ⟨gb165, 0, none⟩ = some (.int .i64 a0_0) := (blk_cell BK165.out 0).trans rfl
                                have hcz59_1 : w58.cell? ⟨gb165, 1, none⟩ = some (.slice (some ad181) l0_1.length c0_1) := (blk_cell BK165.out 1).trans rfl
                                have hfz59_0 := blk_frozen BK165.out 0
                                have hfz59_1 := blk_frozen BK165.out 1
                                go_upto_region 11 with (first | ((with_reducible refine gate_callee (f := 9) rfl ?_); refine goesL_ (some 93) rfl rfl Try.func9 (by kernel_rfl) rfl #[.agg #[.int .i64 a0_0, .slice (some ad181) l0_1.length c0_1], .int .i64 a2] rfl (by (try simp only [List.map_toArray, List.map_cons, List.map_nil]); first | done | rfl | (simp only [List.length_drop, List.length_take]; rfl)) ?_; (with_reducible refine (osc_Read.calls kj24 a0_0 _ _ l0_1 a2 t195 t196 _ ?side1 ?side2 A44.out).mono ?_); (case side1 => repeat (first | exact (Kd.C_below HR0_1.out HB.out) | (with_reducible refine Kd.C_alloc ?_ _) | (with_reducible refine Kd.C_drewN ?_ _) | (with_reducible refine Kd.C_drew ?_))); (case side2 => exact HC0_1.out); rintro e w60 ⟨rfl, hb⟩; refine ⟨_, rfl, ?_⟩; have n0_ := Aside0.mk (Kd.R_below (by (with_reducible repeat (first | apply Kd.R_alloc | apply Kd.R_drewN | apply Kd.R_drew)); exact HO184.out) hb); have n1_ := Aside0.mk (Kd.R_below (by (with_reducible repeat (first | apply Kd.R_alloc | apply Kd.R_drewN | apply Kd.R_drew)); exact HO194.out) hb); have n2_ := Aside0.mk (blk_below (g := gb165) (o := .cells #[.int .i64 a0_0, .slice (some ad181) l0_1.length c0_1] 24 (0, 0)) (by (with_reducible repeat (first | refine blk_drewN ?_ _ | refine blk_drew ?_ | refine blk_alloc ?_ _)); exact BK165.out) hb); have n3_ := Aside0.mk (below_step (by repeat (first | (with_reducible first | exact HB.out | apply below_alloc | apply pw_below_drewN | apply below_drew1 | refine below_set ?_ GE165.out) | exact HB.out)) hb); clear HO184; clear HO194; clear BK165; clear HB; have HO184 := n0_; have HO194 := n1_; have BK165 := n2_; have HB := n3_; clear n0_ n1_ n2_ n3_; (try clear hb); (try clear hb2); (try clear hk); (try clear hi); have hcz61_0 : w60.cell? ⟨gb165, 0, none⟩ = some (.int .i64 a0_0) := (blk_cell BK165.out 0).trans rfl; have hcz61_1 : w60.cell? ⟨gb165, 1, none⟩ = some (.slice (some ad181) l0_1.length c0_1) := (blk_cell BK165.out 1).trans rfl; have hfz61_0 := blk_frozen BK165.out 0; have hfz61_1 := blk_frozen BK165.out 1; obtain ⟨Ao62, co62, eo62⟩ := Kd.R_slice HO194.out; subst eo62) | ((with_reducible refine gate_callee (f := 9) rfl ?_); refine goesL_ (some 102) rfl rfl Try.func9 (by kernel_rfl) rfl #[.agg #[.int .i64 a0_0, .slice Ao62 y192.length co62], .int .i64 a2] rfl (by (try simp only [List.map_toArray, List.map_cons, List.map_nil]); first | done | rfl | (simp only [List.length_drop, List.length_take]; rfl)) ?_; (with_reducible refine (osc_Read.calls kj24 a0_0 _ _ y192 a2 t197 t198 _ ?side1 ?side2 A45.out).mono ?_); (case side1 => repeat (first | exact (Kd.R_reads' HO194.out).2.2 | (with_reducible refine Kd.C_alloc ?_ _) | (with_reducible refine Kd.C_drewN ?_ _) | (with_reducible refine Kd.C_drew ?_))); (case side2 => exact (Kd.R_reads' HO194.out).2.1); rintro e w63 ⟨rfl, hb⟩; refine ⟨_, rfl, ?_⟩; have n0_ := Aside0.mk (Kd.R_below (by (with_reducible repeat (first | apply Kd.R_alloc | apply Kd.R_drewN | apply Kd.R_drew)); exact HO184.out) hb); have n1_ := Aside0.mk (Kd.R_below (by (with_reducible repeat (first | apply Kd.R_alloc | apply Kd.R_drewN | apply Kd.R_drew)); exact HO194.out) hb); have n2_ := Aside0.mk (blk_below (g := gb165) (o := .cells #[.int .i64 a0_0, .slice (some ad181) l0_1.length c0_1] 24 (0, 0)) (by (with_reducible repeat (first | refine blk_drewN ?_ _ | refine blk_drew ?_ | refine blk_alloc ?_ _)); exact BK165.out) hb); have n3_ := Aside0.mk (below_step (by repeat (first | (with_reducible first | exact HB.out | apply below_alloc | apply pw_below_drewN | apply below_drew1 | refine below_set ?_ GE165.out) | exact HB.out)) hb); clear HO184; clear HO194; clear BK165; clear HB; have HO184 := n0_; have HO194 := n1_; have BK165 := n2_; have HB := n3_; clear n0_ n1_ n2_ n3_; (try clear hb); (try clear hb2); (try clear hk); (try clear hi)))
                                (try simp only [Act.put, List.setIfInBounds_toArray, List.set_cons_zero, List.set_cons_succ])
                                go_cut [112] (fun v112 wc => ∃ (kq : Nat) (x112_45 : Bool), v112 = .bool x112_45 ∧ Aside0 (timesynclaw09_OscSplits.j4 kq a1 a2 x7_17 y192 t195 t196 t197 t198 x112_45 a0_0 l0_1 = some r) ∧ Aside0 (kq ≤ kj24) ∧ Aside0 (Kd.R k32 32 wc w.heap.size (fun _ => True) (.slice Ao62 y192.length co62) y192) ∧ Aside0 (wc.heap[gb165]? = some (.cells #[.int .i64 a0_0, (.slice (some ad181) l0_1.length c0_1)] 24 (0, 0))) ∧ Aside0 (Below w.heap.size w wc))
                                case first =>
                                  have H := HC46.out
                                  clear HC46
                                  by_cases c64 : t195 = t197
                                  · rw [if_pos c64] at H
                                    have c64b0 : (t195 == t197) = true := beq_iff_eq.mpr c64
                                    have c64b1 : (t195 != t197) = false := bne_eq_false_iff_eq.mpr c64
                                    clear c64
                                    (first | rw [c64b0] | (simp only [i64_w, i32_w]; rw [c64b0]) | skip)
                                    have H' := Aside0.mk H
                                    clear H
                                    go_wp2
                                    go_meet
                                    case rel => exact ⟨_, ((t196 != t198)), (by first | rfl | (simp; done) | (simp [*]; done)), H', ⟨by have := HJ3.out; have := HJ17.out; have := HJ24.out; first | omega | exact Nat.le_refl _⟩, ⟨by (with_reducible repeat (first | apply Kd.R_alloc | apply Kd.R_drewN | apply Kd.R_drew)); exact Kd.R_mono HO194.out (fun _ hk => trivial)⟩, ⟨by (with_reducible repeat (first | refine blk_drewN ?_ _ | refine blk_drew ?_ | refine blk_alloc ?_ _)); exact BK165.out⟩, ⟨by repeat (first | (with_reducible first | exact HB.out | apply below_alloc | apply pw_below_drewN | apply below_drew1 | refine below_set ?_ GE165.out) | exact HB.out)⟩⟩
                                  · rw [if_neg c64] at H
                                    have c64b0 : (t195 == t197) = false := beq_eq_false_iff_ne.mpr c64
                                    have c64b1 : (t195 != t197) = true := bne_iff_ne.mpr c64
                                    (first | rw [c64b0] | (simp only [i64_w, i32_w]; rw [c64b0]) | skip)
                                    have H' := Aside0.mk H
                                    clear H
                                    go_wp2
                                    go_meet
                                    case rel => exact ⟨_, (true), (by first | rfl | (simp; done) | (simp [*]; done)), H', ⟨by have := HJ3.out; have := HJ17.out; have := HJ24.out; first | omega | exact Nat.le_refl _⟩, ⟨by (with_reducible repeat (first | apply Kd.R_alloc | apply Kd.R_drewN | apply Kd.R_drew)); exact Kd.R_mono HO194.out (fun _ hk => trivial)⟩, ⟨by (with_reducible repeat (first | refine blk_drewN ?_ _ | refine blk_drew ?_ | refine blk_alloc ?_ _)); exact BK165.out⟩, ⟨by repeat (first | (with_reducible first | exact HB.out | apply below_alloc | apply pw_below_drewN | apply below_drew1 | refine below_set ?_ GE165.out) | exact HB.out)⟩⟩
                                case rest =>
                                  clear HC46
                                  try clear c1
                                  try clear p1
                                  try clear q1
                                  try clear hx1
                                  try clear c2
                                  try clear p2
                                  try clear c3
                                  try clear c4
                                  try clear q4
                                  try clear c6
                                  try clear p6
                                  try clear c9
                                  try clear p18
                                  try clear q18
                                  try clear hx18
                                  try clear c34
                                  try clear c34b0
                                  try clear c34b1
                                  try clear c35
                                  try clear c35b0
                                  try clear c35b1
                                  try clear c36
                                  try clear c38
                                  try clear c38b0
                                  try clear c39
                                  try clear c39b0
                                  try clear c40
                                  try clear c41
                                  try clear c41b0
                                  try clear c42
                                  try clear c42b0
                                  try clear c43
                                  try clear q48
                                  try clear c49
                                  try clear q49
                                  try clear c64
                                  try clear c64b0
                                  try clear c64b1
                                  try clear p64
                                  try clear hcz59_0
                                  try clear hcz59_1
                                  try clear hcz61_0
                                  try clear hcz61_1
                                  try clear hfz59_0
                                  try clear hfz59_1
                                  try clear hfz61_0
                                  try clear hfz61_1
                                  try clear hx181_0
                                  try clear hx181_1
                                  try clear p181
                                  try clear q049
                                  try clear q181
                                  try clear q48
                                  try clear q49
                                  obtain ⟨kq, x112_45, rfl, HA, HJ45, HO_8, BK165, HB⟩ := hcut
                                  cases kq with
                                  | zero => exact absurd HA.out (by simp [timesynclaw09_OscSplits.j4])
                                  | succ kj45 =>
                                    have H := HA.out
                                    clear HA
                                    simp only [timesynclaw09_OscSplits.j4] at H
                                    by_cases c65 : x112_45 = true
                                    · subst c65
                                      have H1 : (some false) = some r := by rw [if_pos rfl] at H; exact H
                                      clear H
                                      have H := H1
                                      clear H1
                                      obtain rfl := Option.some.inj H
                                      go_wp2
                                      go_ret
                                      exact ⟨by first | rfl | (simp [errW_none, errW_some] <;> rfl) | (simp only [← hji37]; first | rfl | (simp [errW_none, errW_some] <;> rfl)) | (simp [*, errW_none, errW_some] <;> rfl), by repeat (first | (with_reducible first | exact HB.out | apply below_alloc | apply pw_below_drewN | apply below_drew1 | refine below_set ?_ GE165.out) | exact HB.out)⟩
                                    · replace c65 := Bool.eq_false_iff.mpr c65
                                      subst c65
                                      have H1 : (if a2 ≤ a1 then (if 0 ≤ x7_17 then (if x7_17 < (y192.length : Int) then ((osc_Read.f kj45 a0_0 (y192.set (x7_17 : Int).toNat (⟨(rd_T32 y192 x7_17).f0, wrap64 (-((rd_T32 y192 x7_17).f1))⟩ : S32)) a2).bind fun bt201 => (if t195 = bt201.1 then (if t196 = bt201.2 then ((timesynclaw09_awake.f kj45).bind fun t203 => (some t203)) else (some false)) else (some false))) else (none)) else (none)) else (if t195 = t197 then (if t196 = t198 then ((timesynclaw09_awake.f kj45).bind fun t204 => (some t204)) else (some false)) else (some false))) = some r := by rw [if_neg (show ¬ (false = true) by decide)] at H; exact H
                                      clear H
                                      have H := H1
                                      clear H1
                                      by_cases c66 : a2 ≤ a1
                                      · rw [if_pos c66] at H
                                        have c66b0 : decide (a2 ≤ a1) = true := decide_eq_true c66
                                        clear c66
                                        by_cases c67 : 0 ≤ x7_17
                                        · rw [if_pos c67] at H
                                          have c67b0 : decide (0 ≤ x7_17) = true := decide_eq_true c67
                                          clear c67
                                          by_cases c68 : x7_17 < (y192.length : Int)
                                          · rw [if_pos c68] at H
                                            have c68b0 : decide (x7_17 < (y192.length : Int)) = true := decide_eq_true c68
                                            clear c68
                                            obtain ⟨y200, hy200⟩ : ∃ y_ : List (S32), y_ = (y192.set (x7_17 : Int).toNat (⟨(rd_T32 y192 x7_17).f0, wrap64 (-((rd_T32 y192 x7_17).f1))⟩ : S32)) := ⟨_, rfl⟩
                                            replace H : ((osc_Read.f kj45 a0_0 y200 a2).bind fun bt201 => (if t195 = bt201.1 then (if t196 = bt201.2 then ((timesynclaw09_awake.f kj45).bind fun t203 => (some t203)) else (some false)) else (some false))) = some r := by first | (rw [hy200]; with_reducible exact H) | (have H2_ := (Option.bind_some _ _).symm.trans H; rw [hy200]; with_reducible exact H2_) | (have H2_ := (Option.bind_some _ _).symm.trans H; with_reducible exact H2_) | with_reducible exact H | (rw [hy200]; exact H) | exact H
                                            have Ny200 := Aside0.mk hy200
                                            clear hy200
                                            replace H := Option.bind_eq_some_iff.mp H
                                            obtain ⟨⟨t201, t202⟩, A700, H⟩ := H
                                            replace H : (if t195 = t201 then (if t196 = t202 then ((timesynclaw09_awake.f kj45).bind fun t203 => (some t203)) else (some false)) else (some false)) = some r := H
                                            have A70 := Aside0.mk A700
                                            clear A700
                                            by_cases c71 : t195 = t201
                                            · rw [if_pos c71] at H
                                              have c71b0 : (t195 == t201) = true := beq_iff_eq.mpr c71
                                              have c71b1 : (t195 != t201) = false := bne_eq_false_iff_eq.mpr c71
                                              clear c71
                                              by_cases c72 : t196 = t202
                                              · rw [if_pos c72] at H
                                                have c72b0 : (t196 == t202) = true := beq_iff_eq.mpr c72
                                                have c72b1 : (t196 != t202) = false := bne_eq_false_iff_eq.mpr c72
                                                clear c72
                                                replace H := Option.bind_eq_some_iff.mp H
                                                obtain ⟨t203, A730, H⟩ := H
                                                replace H : (some t203) = some r := H
                                                have A73 := Aside0.mk A730
                                                clear A730
                                                obtain rfl := Option.some.inj H
                                                have p199 : 0 ≤ (x7_17 : Int) := of_decide_eq_true (by first | (with_reducible assumption) | assumption)
                                                have q199 : x7_17 < (y192.length : Int) := of_decide_eq_true (by first | (with_reducible assumption) | assumption)
                                                obtain ⟨ad199, e199, hx199_0, hx199_1⟩ := at_T32 (Kd.R_reads' HO_8.out).2.2 x7_17 p199 q199
                                                cases e199
                                                replace p199 := eq_true p199
                                                replace q199 := eq_true q199
                                                have p69 : 0 ≤ (x7_17 : Int) := of_decide_eq_true (by first | (with_reducible assumption) | assumption)
                                                have q69 : (x7_17 : Int) < ((y192.length : Int) : Int) := of_decide_eq_true (by first | (with_reducible assumption) | assumption)
                                                obtain ⟨go69, co69, eo69, gb69, gl69, cl69, HG69⟩ := Kd.R_form HO_8.out (by omega)
                                                (first | cases eo69 | (injection eo69 with ea_ en_ ec_; (first | subst ea_ | (injection ea_ with ea_; subst ea_)); subst ec_; clear en_))
                                                have GB69 := Aside0.mk gb69
                                                have GG69 := Aside0.mk HG69
                                                clear gb69 gl69 HG69
                                                (first | simp only [add_plain] at hx199_0 | skip)
                                                (first | simp only [add_plain] at hx199_1 | skip)
                                                obtain ⟨ce69, hcl69, hM69, hcc69, hfr69⟩ := Kd.R_elem HO_8.out z32 (x7_17 : Int) p69 q69
                                                obtain rfl := k32_openM hM69
                                                have hx69_0 : wc.cell? ⟨go69, (x7_17 : Int).toNat * 2, none⟩ = some (.int .i64 ((rd_T32 y192 x7_17).f0)) := hcc69 0 _ rfl
                                                have hx69_1 : wc.cell? ⟨go69, (x7_17 : Int).toNat * 2 + 1, none⟩ = some (.int .i64 ((rd_T32 y192 x7_17).f1)) := hcc69 1 _ rfl
                                                have hf69_0 : wc.frozen? ⟨go69, (x7_17 : Int).toNat * 2, none⟩ = false := hfr69 0
                                                have hf69_1 : wc.frozen? ⟨go69, (x7_17 : Int).toNat * 2 + 1, none⟩ = false := hfr69 1
                                                clear hcl69 hcc69 hfr69 hM69
                                                replace p69 := eq_true p69
                                                replace q69 := eq_true q69
                                                have HX74 := Aside0.mk (show Kd.R k32 32 wc w.heap.size (fun _ => True) (.slice (some ⟨go69, 0, none⟩) y192.length co62) y192 from (by (with_reducible repeat (first | apply Kd.R_alloc | apply Kd.R_drewN | apply Kd.R_drew)); exact HO_8.out))
                                                obtain ⟨ce74, hcl74, hM74, hcc74, hfr74⟩ := Kd.R_elem HX74.out z32 (x7_17 : Int) (of_decide_eq_true (by first | (with_reducible assumption) | assumption)) (by have h_ : (x7_17 : Int) < ((y192.length : Int) : Int) := of_decide_eq_true (by first | (with_reducible assumption) | assumption); first | exact h_ | (have e_ := (Kd.R_reads' HO_8.out).1; omega) | simpa using h_)
                                                obtain rfl := k32_openM hM74
                                                have HP74 := Kd.R_seg HX74.out (x7_17 : Int) (of_decide_eq_true (by first | (with_reducible assumption) | assumption)) (by have h_ : (x7_17 : Int) < ((y192.length : Int) : Int) := of_decide_eq_true (by first | (with_reducible assumption) | assumption); first | exact h_ | (have e_ := (Kd.R_reads' HO_8.out).1; omega) | simpa using h_) (seg := [.int .i64 (wrap64 (-((rd_T32 y192 x7_17).f1)))]) (j := 1) hcl74 hcc74 (show 2 ≤ 2 from by decide) (x' := (⟨(rd_T32 y192 x7_17).f0, wrap64 (-((rd_T32 y192 x7_17).f1))⟩ : S32)) (k32_mkM _ _ _ (⟨(rd_T32 y192 x7_17).f0, wrap64 (-((rd_T32 y192 x7_17).f1))⟩ : S32) ) (fun _ hk => hk)
                                                have hx74_1 := hcc74 1 _ rfl
                                                (try simp only [show (k32).sz = 2 from rfl, Nat.mul_one, Nat.add_zero] at hx74_1)
                                                have hf74_1 := hfr74 1
                                                (try simp only [show (k32).sz = 2 from rfl, Nat.mul_one, Nat.add_zero] at hf74_1)
                                                clear hcl74 hcc74 hfr74 hM74
                                                go_wp2_with (first | ((with_reducible refine gate_store (t := 3) (p := 125) rfl ?_); refine store_event (t := 3) (p := 125) (v := ?vo_w75) (w1 := (wc.setCell ⟨go69, (x7_17 : Int).toNat * 2 + 1, none⟩ (.int .i64 (wrap64 (-((rd_T32 y192 x7_17).f1)))))) ?hg ?ho ?hn ?hr ?_; (case ho => rfl); (case hg => rfl); (case hn => rfl); (case hr => first | (go_simp; done) | (go_simp; rfl)); intro w75 hw; have hg : wc.grownBy w75 (some go69) := (by rw [hw]; exact HP74.2); have hp_ : Kd.R k32 32 w75 w.heap.size (fun _ => True) (.slice (some ⟨go69, 0, none⟩) y192.length co62) y200 := (by rw [hw, Ny200.out]; exact HP74.1); clear HP74; have n0_ := Aside0.mk (hp_); have n1_ := Aside0.mk (blk_grown (g := gb165) (o := .cells #[.int .i64 a0_0, .slice (some ad181) l0_1.length c0_1] 24 (0, 0)) (by (with_reducible repeat (first | refine blk_drewN ?_ _ | refine blk_drew ?_ | refine blk_alloc ?_ _)); exact BK165.out) hg (Kd.R_ne HO_8.out BK165.out (by decide))); have n2_ := Aside0.mk ((by rw [hw]; exact below_set (HB.out) GB69.out : Below w.heap.size w w75)); clear HO_8; clear BK165; clear HB; have HO_8 := n0_; have BK165 := n1_; have HB := n2_; clear n0_ n1_ n2_; clear hg hw hp_; have hcz76_0 : w75.cell? ⟨gb165, 0, none⟩ = some (.int .i64 a0_0) := (blk_cell BK165.out 0).trans rfl; have hcz76_1 : w75.cell? ⟨gb165, 1, none⟩ = some (.slice (some ad181) l0_1.length c0_1) := (blk_cell BK165.out 1).trans rfl; have hfz76_0 := blk_frozen BK165.out 0; have hfz76_1 := blk_frozen BK165.out 1) | ((with_reducible refine gate_callee (f := 9) rfl ?_); refine goesL_ (some 132) rfl rfl Try.func9 (by kernel_rfl) rfl #[.agg #[.int .i64 a0_0, .slice (some ⟨go69, 0, none⟩) y200.length co62], .int .i64 a2] rfl (by (try simp only [List.map_toArray, List.map_cons, List.map_nil]); first | done | (rw [show y200.length = y192.length from (Kd.R_reads' HO_8.out).1.symm] <;> rfl) | rfl | (simp only [List.length_drop, List.length_take]; rfl)) ?_; (with_reducible refine (osc_Read.calls kj45 a0_0 _ _ y200 a2 t201 t202 _ ?side1 ?side2 A70.out).mono ?_); (case side1 => repeat (first | exact (Kd.R_reads' HO_8.out).2.2 | (with_reducible refine Kd.C_alloc ?_ _) | (with_reducible refine Kd.C_drewN ?_ _) | (with_reducible refine Kd.C_drew ?_))); (case side2 => rw [show y200.length = y192.length from (Kd.R_reads' HO_8.out).1.symm]; exact (Kd.R_reads' HO_8.out).2.1); rintro e w77 ⟨rfl, hb⟩; refine ⟨_, rfl, ?_⟩; have n0_ := Aside0.mk (Kd.R_below (by (with_reducible repeat (first | apply Kd.R_alloc | apply Kd.R_drewN | apply Kd.R_drew)); exact HO_8.out) hb); have n1_ := Aside0.mk (blk_below (g := gb165) (o := .cells #[.int .i64 a0_0, .slice (some ad181) l0_1.length c0_1] 24 (0, 0)) (by (with_reducible repeat (first | refine blk_drewN ?_ _ | refine blk_drew ?_ | refine blk_alloc ?_ _)); exact BK165.out) hb); have n2_ := Aside0.mk (below_step (by repeat (first | (with_reducible first | exact HB.out | apply below_alloc | apply pw_below_drewN | apply below_drew1 | refine below_set ?_ GE165.out) | exact HB.out)) hb); clear HO_8; clear BK165; clear HB; have HO_8 := n0_; have BK165 := n1_; have HB := n2_; clear n0_ n1_ n2_; (try clear hb); (try clear hb2); (try clear hk); (try clear hi)) | (go_at_call 13; (with_reducible refine (timesynclaw09_awake.calls kj45  t203 _ A73.out).mono ?_); rintro e w78 ⟨rfl, hb⟩; have n0_ := Aside0.mk (Kd.R_below (by (with_reducible repeat (first | apply Kd.R_alloc | apply Kd.R_drewN | apply Kd.R_drew)); exact HO_8.out) hb); have n1_ := Aside0.mk (blk_below (g := gb165) (o := .cells #[.int .i64 a0_0, .slice (some ad181) l0_1.length c0_1] 24 (0, 0)) (by (with_reducible repeat (first | refine blk_drewN ?_ _ | refine blk_drew ?_ | refine blk_alloc ?_ _)); exact BK165.out) hb); have n2_ := Aside0.mk (below_step (by repeat (first | (with_reducible first | exact HB.out | apply below_alloc | apply pw_below_drewN | apply below_drew1 | refine below_set ?_ GE165.out) | exact HB.out)) hb); clear HO_8; clear BK165; clear HB; have HO_8 := n0_; have BK165 := n1_; have HB := n2_; clear n0_ n1_ n2_; (try clear hb); (try clear hb2); (try clear hk); (try clear hi)))
                                                go_ret
                                                exact ⟨by first | rfl | (simp [errW_none, errW_some] <;> rfl) | (simp only [← hji37]; first | rfl | (simp [errW_none, errW_some] <;> rfl)) | (simp [*, errW_none, errW_some] <;> rfl), by repeat (first | (with_reducible first | exact HB.out | apply below_alloc | apply pw_below_drewN | apply below_drew1 | refine below_set ?_ GE165.out) | exact HB.out)⟩
                                              · rw [if_neg c72] at H
                                                have c72b0 : (t196 == t202) = false := beq_eq_false_iff_ne.mpr c72
                                                have c72b1 : (t196 != t202) = true := bne_iff_ne.mpr c72
                                                obtain rfl := Option.some.inj H
                                                have p199 : 0 ≤ (x7_17 : Int) := of_decide_eq_true (by first | (with_reducible assumption) | assumption)
                                                have q199 : x7_17 < (y192.length : Int) := of_decide_eq_true (by first | (with_reducible assumption) | assumption)
                                                obtain ⟨ad199, e199, hx199_0, hx199_1⟩ := at_T32 (Kd.R_reads' HO_8.out).2.2 x7_17 p199 q199
                                                cases e199
                                                replace p199 := eq_true p199
                                                replace q199 := eq_true q199
                                                have p69 : 0 ≤ (x7_17 : Int) := of_decide_eq_true (by first | (with_reducible assumption) | assumption)
                                                have q69 : (x7_17 : Int) < ((y192.length : Int) : Int) := of_decide_eq_true (by first | (with_reducible assumption) | assumption)
                                                obtain ⟨go69, co69, eo69, gb69, gl69, cl69, HG69⟩ := Kd.R_form HO_8.out (by omega)
                                                (first | cases eo69 | (injection eo69 with ea_ en_ ec_; (first | subst ea_ | (injection ea_ with ea_; subst ea_)); subst ec_; clear en_))
                                                have GB69 := Aside0.mk gb69
                                                have GG69 := Aside0.mk HG69
                                                clear gb69 gl69 HG69
                                                (first | simp only [add_plain] at hx199_0 | skip)
                                                (first | simp only [add_plain] at hx199_1 | skip)
                                                obtain ⟨ce69, hcl69, hM69, hcc69, hfr69⟩ := Kd.R_elem HO_8.out z32 (x7_17 : Int) p69 q69
                                                obtain rfl := k32_openM hM69
                                                have hx69_0 : wc.cell? ⟨go69, (x7_17 : Int).toNat * 2, none⟩ = some (.int .i64 ((rd_T32 y192 x7_17).f0)) := hcc69 0 _ rfl
                                                have hx69_1 : wc.cell? ⟨go69, (x7_17 : Int).toNat * 2 + 1, none⟩ = some (.int .i64 ((rd_T32 y192 x7_17).f1)) := hcc69 1 _ rfl
                                                have hf69_0 : wc.frozen? ⟨go69, (x7_17 : Int).toNat * 2, none⟩ = false := hfr69 0
                                                have hf69_1 : wc.frozen? ⟨go69, (x7_17 : Int).toNat * 2 + 1, none⟩ = false := hfr69 1
                                                clear hcl69 hcc69 hfr69 hM69
                                                replace p69 := eq_true p69
                                                replace q69 := eq_true q69
                                                have HX79 := Aside0.mk (show Kd.R k32 32 wc w.heap.size (fun _ => True) (.slice (some ⟨go69, 0, none⟩) y192.length co62) y192 from (by (with_reducible repeat (first | apply Kd.R_alloc | apply Kd.R_drewN | apply Kd.R_drew)); exact HO_8.out))
                                                obtain ⟨ce79, hcl79, hM79, hcc79, hfr79⟩ := Kd.R_elem HX79.out z32 (x7_17 : Int) (of_decide_eq_true (by first | (with_reducible assumption) | assumption)) (by have h_ : (x7_17 : Int) < ((y192.length : Int) : Int) := of_decide_eq_true (by first | (with_reducible assumption) | assumption); first | exact h_ | (have e_ := (Kd.R_reads' HO_8.out).1; omega) | simpa using h_)
                                                obtain rfl := k32_openM hM79
                                                have HP79 := Kd.R_seg HX79.out (x7_17 : Int) (of_decide_eq_true (by first | (with_reducible assumption) | assumption)) (by have h_ : (x7_17 : Int) < ((y192.length : Int) : Int) := of_decide_eq_true (by first | (with_reducible assumption) | assumption); first | exact h_ | (have e_ := (Kd.R_reads' HO_8.out).1; omega) | simpa using h_) (seg := [.int .i64 (wrap64 (-((rd_T32 y192 x7_17).f1)))]) (j := 1) hcl79 hcc79 (show 2 ≤ 2 from by decide) (x' := (⟨(rd_T32 y192 x7_17).f0, wrap64 (-((rd_T32 y192 x7_17).f1))⟩ : S32)) (k32_mkM _ _ _ (⟨(rd_T32 y192 x7_17).f0, wrap64 (-((rd_T32 y192 x7_17).f1))⟩ : S32) ) (fun _ hk => hk)
                                                have hx79_1 := hcc79 1 _ rfl
                                                (try simp only [show (k32).sz = 2 from rfl, Nat.mul_one, Nat.add_zero] at hx79_1)
                                                have hf79_1 := hfr79 1
                                                (try simp only [show (k32).sz = 2 from rfl, Nat.mul_one, Nat.add_zero] at hf79_1)
                                                clear hcl79 hcc79 hfr79 hM79
                                                go_wp2_with (first | ((with_reducible refine gate_store (t := 3) (p := 125) rfl ?_); refine store_event (t := 3) (p := 125) (v := ?vo_w80) (w1 := (wc.setCell ⟨go69, (x7_17 : Int).toNat * 2 + 1, none⟩ (.int .i64 (wrap64 (-((rd_T32 y192 x7_17).f1)))))) ?hg ?ho ?hn ?hr ?_; (case ho => rfl); (case hg => rfl); (case hn => rfl); (case hr => first | (go_simp; done) | (go_simp; rfl)); intro w80 hw; have hg : wc.grownBy w80 (some go69) := (by rw [hw]; exact HP79.2); have hp_ : Kd.R k32 32 w80 w.heap.size (fun _ => True) (.slice (some ⟨go69, 0, none⟩) y192.length co62) y200 := (by rw [hw, Ny200.out]; exact HP79.1); clear HP79; have n0_ := Aside0.mk (hp_); have n1_ := Aside0.mk (blk_grown (g := gb165) (o := .cells #[.int .i64 a0_0, .slice (some ad181) l0_1.length c0_1] 24 (0, 0)) (by (with_reducible repeat (first | refine blk_drewN ?_ _ | refine blk_drew ?_ | refine blk_alloc ?_ _)); exact BK165.out) hg (Kd.R_ne HO_8.out BK165.out (by decide))); have n2_ := Aside0.mk ((by rw [hw]; exact below_set (HB.out) GB69.out : Below w.heap.size w w80)); clear HO_8; clear BK165; clear HB; have HO_8 := n0_; have BK165 := n1_; have HB := n2_; clear n0_ n1_ n2_; clear hg hw hp_; have hcz81_0 : w80.cell? ⟨gb165, 0, none⟩ = some (.int .i64 a0_0) := (blk_cell BK165.out 0).trans rfl; have hcz81_1 : w80.cell? ⟨gb165, 1, none⟩ = some (.slice (some ad181) l0_1.length c0_1) := (blk_cell BK165.out 1).trans rfl; have hfz81_0 := blk_frozen BK165.out 0; have hfz81_1 := blk_frozen BK165.out 1) | ((with_reducible refine gate_callee (f := 9) rfl ?_); refine goesL_ (some 132) rfl rfl Try.func9 (by kernel_rfl) rfl #[.agg #[.int .i64 a0_0, .slice (some ⟨go69, 0, none⟩) y200.length co62], .int .i64 a2] rfl (by (try simp only [List.map_toArray, List.map_cons, List.map_nil]); first | done | (rw [show y200.length = y192.length from (Kd.R_reads' HO_8.out).1.symm] <;> rfl) | rfl | (simp only [List.length_drop, List.length_take]; rfl)) ?_; (with_reducible refine (osc_Read.calls kj45 a0_0 _ _ y200 a2 t201 t202 _ ?side1 ?side2 A70.out).mono ?_); (case side1 => repeat (first | exact (Kd.R_reads' HO_8.out).2.2 | (with_reducible refine Kd.C_alloc ?_ _) | (with_reducible refine Kd.C_drewN ?_ _) | (with_reducible refine Kd.C_drew ?_))); (case side2 => rw [show y200.length = y192.length from (Kd.R_reads' HO_8.out).1.symm]; exact (Kd.R_reads' HO_8.out).2.1); rintro e w82 ⟨rfl, hb⟩; refine ⟨_, rfl, ?_⟩; have n0_ := Aside0.mk (Kd.R_below (by (with_reducible repeat (first | apply Kd.R_alloc | apply Kd.R_drewN | apply Kd.R_drew)); exact HO_8.out) hb); have n1_ := Aside0.mk (blk_below (g := gb165) (o := .cells #[.int .i64 a0_0, .slice (some ad181) l0_1.length c0_1] 24 (0, 0)) (by (with_reducible repeat (first | refine blk_drewN ?_ _ | refine blk_drew ?_ | refine blk_alloc ?_ _)); exact BK165.out) hb); have n2_ := Aside0.mk (below_step (by repeat (first | (with_reducible first | exact HB.out | apply below_alloc | apply pw_below_drewN | apply below_drew1 | refine below_set ?_ GE165.out) | exact HB.out)) hb); clear HO_8; clear BK165; clear HB; have HO_8 := n0_; have BK165 := n1_; have HB := n2_; clear n0_ n1_ n2_; (try clear hb); (try clear hb2); (try clear hk); (try clear hi)))
                                                go_ret
                                                exact ⟨by first | rfl | (simp [errW_none, errW_some] <;> rfl) | (simp only [← hji37]; first | rfl | (simp [errW_none, errW_some] <;> rfl)) | (simp [*, errW_none, errW_some] <;> rfl), by repeat (first | (with_reducible first | exact HB.out | apply below_alloc | apply pw_below_drewN | apply below_drew1 | refine below_set ?_ GE165.out) | exact HB.out)⟩
                                            · rw [if_neg c71] at H
                                              have c71b0 : (t195 == t201) = false := beq_eq_false_iff_ne.mpr c71
                                              have c71b1 : (t195 != t201) = true := bne_iff_ne.mpr c71
                                              obtain rfl := Option.some.inj H
                                              have p199 : 0 ≤ (x7_17 : Int) := of_decide_eq_true (by first | (with_reducible assumption) | assumption)
                                              have q199 : x7_17 < (y192.length : Int) := of_decide_eq_true (by first | (with_reducible assumption) | assumption)
                                              obtain ⟨ad199, e199, hx199_0, hx199_1⟩ := at_T32 (Kd.R_reads' HO_8.out).2.2 x7_17 p199 q199
                                              cases e199
                                              replace p199 := eq_true p199
                                              replace q199 := eq_true q199
                                              have p69 : 0 ≤ (x7_17 : Int) := of_decide_eq_true (by first | (with_reducible assumption) | assumption)
                                              have q69 : (x7_17 : Int) < ((y192.length : Int) : Int) := of_decide_eq_true (by first | (with_reducible assumption) | assumption)
                                              obtain ⟨go69, co69, eo69, gb69, gl69, cl69, HG69⟩ := Kd.R_form HO_8.out (by omega)
                                              (first | cases eo69 | (injection eo69 with ea_ en_ ec_; (first | subst ea_ | (injection ea_ with ea_; subst ea_)); subst ec_; clear en_))
                                              have GB69 := Aside0.mk gb69
                                              have GG69 := Aside0.mk HG69
                                              clear gb69 gl69 HG69
                                              (first | simp only [add_plain] at hx199_0 | skip)
                                              (first | simp only [add_plain] at hx199_1 | skip)
                                              obtain ⟨ce69, hcl69, hM69, hcc69, hfr69⟩ := Kd.R_elem HO_8.out z32 (x7_17 : Int) p69 q69
                                              obtain rfl := k32_openM hM69
                                              have hx69_0 : wc.cell? ⟨go69, (x7_17 : Int).toNat * 2, none⟩ = some (.int .i64 ((rd_T32 y192 x7_17).f0)) := hcc69 0 _ rfl
                                              have hx69_1 : wc.cell? ⟨go69, (x7_17 : Int).toNat * 2 + 1, none⟩ = some (.int .i64 ((rd_T32 y192 x7_17).f1)) := hcc69 1 _ rfl
                                              have hf69_0 : wc.frozen? ⟨go69, (x7_17 : Int).toNat * 2, none⟩ = false := hfr69 0
                                              have hf69_1 : wc.frozen? ⟨go69, (x7_17 : Int).toNat * 2 + 1, none⟩ = false := hfr69 1
                                              clear hcl69 hcc69 hfr69 hM69
                                              replace p69 := eq_true p69
                                              replace q69 := eq_true q69
                                              have HX83 := Aside0.mk (show Kd.R k32 32 wc w.heap.size (fun _ => True) (.slice (some ⟨go69, 0, none⟩) y192.length co62) y192 from (by (with_reducible repeat (first | apply Kd.R_alloc | apply Kd.R_drewN | apply Kd.R_drew)); exact HO_8.out))
                                              obtain ⟨ce83, hcl83, hM83, hcc83, hfr83⟩ := Kd.R_elem HX83.out z32 (x7_17 : Int) (of_decide_eq_true (by first | (with_reducible assumption) | assumption)) (by have h_ : (x7_17 : Int) < ((y192.length : Int) : Int) := of_decide_eq_true (by first | (with_reducible assumption) | assumption); first | exact h_ | (have e_ := (Kd.R_reads' HO_8.out).1; omega) | simpa using h_)
                                              obtain rfl := k32_openM hM83
                                              have HP83 := Kd.R_seg HX83.out (x7_17 : Int) (of_decide_eq_true (by first | (with_reducible assumption) | assumption)) (by have h_ : (x7_17 : Int) < ((y192.length : Int) : Int) := of_decide_eq_true (by first | (with_reducible assumption) | assumption); first | exact h_ | (have e_ := (Kd.R_reads' HO_8.out).1; omega) | simpa using h_) (seg := [.int .i64 (wrap64 (-((rd_T32 y192 x7_17).f1)))]) (j := 1) hcl83 hcc83 (show 2 ≤ 2 from by decide) (x' := (⟨(rd_T32 y192 x7_17).f0, wrap64 (-((rd_T32 y192 x7_17).f1))⟩ : S32)) (k32_mkM _ _ _ (⟨(rd_T32 y192 x7_17).f0, wrap64 (-((rd_T32 y192 x7_17).f1))⟩ : S32) ) (fun _ hk => hk)
                                              have hx83_1 := hcc83 1 _ rfl
                                              (try simp only [show (k32).sz = 2 from rfl, Nat.mul_one, Nat.add_zero] at hx83_1)
                                              have hf83_1 := hfr83 1
                                              (try simp only [show (k32).sz = 2 from rfl, Nat.mul_one, Nat.add_zero] at hf83_1)
                                              clear hcl83 hcc83 hfr83 hM83
                                              go_wp2_with (first | ((with_reducible refine gate_store (t := 3) (p := 125) rfl ?_); refine store_event (t := 3) (p := 125) (v := ?vo_w84) (w1 := (wc.setCell ⟨go69, (x7_17 : Int).toNat * 2 + 1, none⟩ (.int .i64 (wrap64 (-((rd_T32 y192 x7_17).f1)))))) ?hg ?ho ?hn ?hr ?_; (case ho => rfl); (case hg => rfl); (case hn => rfl); (case hr => first | (go_simp; done) | (go_simp; rfl)); intro w84 hw; have hg : wc.grownBy w84 (some go69) := (by rw [hw]; exact HP83.2); have hp_ : Kd.R k32 32 w84 w.heap.size (fun _ => True) (.slice (some ⟨go69, 0, none⟩) y192.length co62) y200 := (by rw [hw, Ny200.out]; exact HP83.1); clear HP83; have n0_ := Aside0.mk (hp_); have n1_ := Aside0.mk (blk_grown (g := gb165) (o := .cells #[.int .i64 a0_0, .slice (some ad181) l0_1.length c0_1] 24 (0, 0)) (by (with_reducible repeat (first | refine blk_drewN ?_ _ | refine blk_drew ?_ | refine blk_alloc ?_ _)); exact BK165.out) hg (Kd.R_ne HO_8.out BK165.out (by decide))); have n2_ := Aside0.mk ((by rw [hw]; exact below_set (HB.out) GB69.out : Below w.heap.size w w84)); clear HO_8; clear BK165; clear HB; have HO_8 := n0_; have BK165 := n1_; have HB := n2_; clear n0_ n1_ n2_; clear hg hw hp_; have hcz85_0 : w84.cell? ⟨gb165, 0, none⟩ = some (.int .i64 a0_0) := (blk_cell BK165.out 0).trans rfl; have hcz85_1 : w84.cell? ⟨gb165, 1, none⟩ = some (.slice (some ad181) l0_1.length c0_1) := (blk_cell BK165.out 1).trans rfl; have hfz85_0 := blk_frozen BK165.out 0; have hfz85_1 := blk_frozen BK165.out 1) | ((with_reducible refine gate_callee (f := 9) rfl ?_); refine goesL_ (some 132) rfl rfl Try.func9 (by kernel_rfl) rfl #[.agg #[.int .i64 a0_0, .slice (some ⟨go69, 0, none⟩) y200.length co62], .int .i64 a2] rfl (by (try simp only [List.map_toArray, List.map_cons, List.map_nil]); first | done | (rw [show y200.length = y192.length from (Kd.R_reads' HO_8.out).1.symm] <;> rfl) | rfl | (simp only [List.length_drop, List.length_take]; rfl)) ?_; (with_reducible refine (osc_Read.calls kj45 a0_0 _ _ y200 a2 t201 t202 _ ?side1 ?side2 A70.out).mono ?_); (case side1 => repeat (first | exact (Kd.R_reads' HO_8.out).2.2 | (with_reducible refine Kd.C_alloc ?_ _) | (with_reducible refine Kd.C_drewN ?_ _) | (with_reducible refine Kd.C_drew ?_))); (case side2 => rw [show y200.length = y192.length from (Kd.R_reads' HO_8.out).1.symm]; exact (Kd.R_reads' HO_8.out).2.1); rintro e w86 ⟨rfl, hb⟩; refine ⟨_, rfl, ?_⟩; have n0_ := Aside0.mk (Kd.R_below (by (with_reducible repeat (first | apply Kd.R_alloc | apply Kd.R_drewN | apply Kd.R_drew)); exact HO_8.out) hb); have n1_ := Aside0.mk (blk_below (g := gb165) (o := .cells #[.int .i64 a0_0, .slice (some ad181) l0_1.length c0_1] 24 (0, 0)) (by (with_reducible repeat (first | refine blk_drewN ?_ _ | refine blk_drew ?_ | refine blk_alloc ?_ _)); exact BK165.out) hb); have n2_ := Aside0.mk (below_step (by repeat (first | (with_reducible first | exact HB.out | apply below_alloc | apply pw_below_drewN | apply below_drew1 | refine below_set ?_ GE165.out) | exact HB.out)) hb); clear HO_8; clear BK165; clear HB; have HO_8 := n0_; have BK165 := n1_; have HB := n2_; clear n0_ n1_ n2_; (try clear hb); (try clear hb2); (try clear hk); (try clear hi)))
                                              go_ret
                                              exact ⟨by first | rfl | (simp [errW_none, errW_some] <;> rfl) | (simp only [← hji37]; first | rfl | (simp [errW_none, errW_some] <;> rfl)) | (simp [*, errW_none, errW_some] <;> rfl), by repeat (first | (with_reducible first | exact HB.out | apply below_alloc | apply pw_below_drewN | apply below_drew1 | refine below_set ?_ GE165.out) | exact HB.out)⟩
                                          · rw [if_neg c68] at H
                                            exact absurd H (by simp)
                                        · rw [if_neg c67] at H
                                          exact absurd H (by simp)
                                      · rw [if_neg c66] at H
                                        have c66b0 : decide (a2 ≤ a1) = false := decide_eq_false c66
                                        clear c66
                                        by_cases c87 : t195 = t197
                                        · rw [if_pos c87] at H
                                          have c87b0 : (t195 == t197) = true := beq_iff_eq.mpr c87
                                          have c87b1 : (t195 != t197) = false := bne_eq_false_iff_eq.mpr c87
                                          clear c87
                                          by_cases c88 : t196 = t198
                                          · rw [if_pos c88] at H
                                            have c88b0 : (t196 == t198) = true := beq_iff_eq.mpr c88
                                            have c88b1 : (t196 != t198) = false := bne_eq_false_iff_eq.mpr c88
                                            clear c88
                                            replace H := Option.bind_eq_some_iff.mp H
                                            obtain ⟨t204, A890, H⟩ := H
                                            replace H : (some t204) = some r := H
                                            have A89 := Aside0.mk A890
                                            clear A890
                                            obtain rfl := Option.some.inj H
                                            go_wp2_with (first | (go_at_call 13; (with_reducible refine (timesynclaw09_awake.calls kj45  t204 _ A89.out).mono ?_); rintro e w90 ⟨rfl, hb⟩; have n0_ := Aside0.mk (Kd.R_below (by (with_reducible repeat (first | apply Kd.R_alloc | apply Kd.R_drewN | apply Kd.R_drew)); exact HO_8.out) hb); have n1_ := Aside0.mk (blk_below (g := gb165) (o := .cells #[.int .i64 a0_0, .slice (some ad181) l0_1.length c0_1] 24 (0, 0)) (by (with_reducible repeat (first | refine blk_drewN ?_ _ | refine blk_drew ?_ | refine blk_alloc ?_ _)); exact BK165.out) hb); have n2_ := Aside0.mk (below_step (by repeat (first | (with_reducible first | exact HB.out | apply below_alloc | apply pw_below_drewN | apply below_drew1 | refine below_set ?_ GE165.out) | exact HB.out)) hb); clear HO_8; clear BK165; clear HB; have HO_8 := n0_; have BK165 := n1_; have HB := n2_; clear n0_ n1_ n2_; (try clear hb); (try clear hb2); (try clear hk); (try clear hi)))
                                            go_ret
                                            exact ⟨by first | rfl | (simp [errW_none, errW_some] <;> rfl) | (simp only [← hji37]; first | rfl | (simp [errW_none, errW_some] <;> rfl)) | (simp [*, errW_none, errW_some] <;> rfl), by repeat (first | (with_reducible first | exact HB.out | apply below_alloc | apply pw_below_drewN | apply below_drew1 | refine below_set ?_ GE165.out) | exact HB.out)⟩
                                          · rw [if_neg c88] at H
                                            have c88b0 : (t196 == t198) = false := beq_eq_false_iff_ne.mpr c88
                                            have c88b1 : (t196 != t198) = true := bne_iff_ne.mpr c88
                                            obtain rfl := Option.some.inj H
                                            go_wp2
                                            go_ret
                                            exact ⟨by first | rfl | (simp [errW_none, errW_some] <;> rfl) | (simp only [← hji37]; first | rfl | (simp [errW_none, errW_some] <;> rfl)) | (simp [*, errW_none, errW_some] <;> rfl), by repeat (first | (with_reducible first | exact HB.out | apply below_alloc | apply pw_below_drewN | apply below_drew1 | refine below_set ?_ GE165.out) | exact HB.out)⟩
                                        · rw [if_neg c87] at H
                                          have c87b0 : (t195 == t197) = false := beq_eq_false_iff_ne.mpr c87
                                          have c87b1 : (t195 != t197) = true := bne_iff_ne.mpr c87
                                          obtain rfl := Option.some.inj H
                                          go_wp2
                                          go_ret
                                          exact ⟨by first | rfl | (simp [errW_none, errW_some] <;> rfl) | (simp only [← hji37]; first | rfl | (simp [errW_none, errW_some] <;> rfl)) | (simp [*, errW_none, errW_some] <;> rfl), by repeat (first | (with_reducible first | exact HB.out | apply below_alloc | apply pw_below_drewN | apply below_drew1 | refine below_set ?_ GE165.out) | exact HB.out)⟩
                              · rw [if_neg c43] at H
                                exact absurd H (by simp)
                            · rw [if_neg c40] at H
                              exact absurd H (by simp)
                          · rw [if_neg c39] at H
                            exact absurd H (by simp)
                        · rw [if_neg c38] at H
                          exact absurd H (by simp)
                      · rw [if_neg c36] at H
                        exact absurd H (by simp)
                    · rw [if_neg c35] at H
                      exact absurd H (by simp)
                  · rw [if_neg c34] at H
                    exact absurd H (by simp)

end Go.Proofs.Ytimbfocogklmhaa.All
