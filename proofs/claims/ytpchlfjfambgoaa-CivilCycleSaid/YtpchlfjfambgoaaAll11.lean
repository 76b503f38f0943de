/- What the Go functions named below answer, each as a plain Lean function, and that its call comes to just that answer. No condition. Written by a program of this session (wip/myprint.py), which runs the kit's print with changes of its own. -/
import Derived.Test.YtpchlfjfambgoaaAll0
import Derived.Test.YtpchlfjfambgoaaAll1
import Derived.Test.YtpchlfjfambgoaaAll2
import Derived.Test.YtpchlfjfambgoaaAll5
import Derived.Test.YtpchlfjfambgoaaAll10
namespace Go.Proofs.Ytpchlfjfambgoaa.All
open Go.RowKit Go.Proofs.YtpchlfjfambgoaaW.PrintWords Go.Proofs.YtpchlfjfambgoaaW.PrintLast Go.Proofs.YtpchlfjfambgoaaW.PrintMore
attribute [local go_sem] max2_int min2_int max_two min_two max_three min_three max_four min_four   -- for this text's walks alone
set_option linter.unusedVariables false
set_option linter.unusedSimpArgs false

attribute [local go_sem high] eqA23
/-! ### timesynclaw05_CivilNext: function 7 -/
mutual
def timesynclaw05_CivilNext.j0 : Nat → Int → Bool → Option (Bool)
  | 0, _, _ => none
  | k + 1, x0, x13 => if x13 = true then ((timesynclaw05_awake.f).bind fun t214 => (some t214)) else ((civil_Of.f x0).bind fun bt215 => ((civil_Of.f (wrap64 (x0 + 1))).bind fun bt224 => (if bt215.2.2.2.2.2.2.2 = 0 then (if bt224.2.2.2.2.2.2.2 = 0 then ((timesynclaw05_after.f bt215.1 bt215.2.1 bt215.2.2.1 bt215.2.2.2.1 bt215.2.2.2.2.1 bt215.2.2.2.2.2.1 bt215.2.2.2.2.2.2.1).bind fun bt233 => (timesynclaw05_CivilNext.j1 k x0 (!(bt224.1 == bt233.1) || (!(bt224.2.1 == bt233.2.1) || (!(bt224.2.2.1 == bt233.2.2.1) || (!(bt224.2.2.2.1 == bt233.2.2.2.1) || (!(bt224.2.2.2.2.1 == bt233.2.2.2.2.1) || (!(bt224.2.2.2.2.2.1 == bt233.2.2.2.2.2.1) || (!(bt224.2.2.2.2.2.2.1 == bt233.2.2.2.2.2.2)))))))) bt215.1 bt215.2.1 bt215.2.2.1 bt215.2.2.2.1 bt215.2.2.2.2.1 bt215.2.2.2.2.2.1 bt215.2.2.2.2.2.2.1 bt224.1 bt224.2.1 bt224.2.2.1 bt224.2.2.2.1 bt224.2.2.2.2.1 bt224.2.2.2.2.2.1 bt224.2.2.2.2.2.2.1)) else (timesynclaw05_CivilNext.j1 k x0 true bt215.1 bt215.2.1 bt215.2.2.1 bt215.2.2.2.1 bt215.2.2.2.2.1 bt215.2.2.2.2.2.1 bt215.2.2.2.2.2.2.1 bt224.1 bt224.2.1 bt224.2.2.1 bt224.2.2.2.1 bt224.2.2.2.2.1 bt224.2.2.2.2.2.1 bt224.2.2.2.2.2.2.1)) else (timesynclaw05_CivilNext.j1 k x0 true bt215.1 bt215.2.1 bt215.2.2.1 bt215.2.2.2.1 bt215.2.2.2.2.1 bt215.2.2.2.2.2.1 bt215.2.2.2.2.2.2.1 bt224.1 bt224.2.1 bt224.2.2.1 bt224.2.2.2.1 bt224.2.2.2.2.1 bt224.2.2.2.2.2.1 bt224.2.2.2.2.2.2.1))))
def timesynclaw05_CivilNext.j1 : Nat → Int → Bool → Int → Int → Int → Int → Int → Int → Int → Int → Int → Int → Int → Int → Int → Int → Option (Bool)
  | 0, _, _, _, _, _, _, _, _, _, _, _, _, _, _, _, _ => none
  | k + 1, x0, x37, x224000, x224001, x224002, x224003, x224004, x224005, x224006, x233000, x233001, x233002, x233003, x233004, x233005, x233006 => if x37 = true then (some false) else (if x233002 = x224002 then (timesynclaw05_CivilNext.j2 k x0 0) else (timesynclaw05_CivilNext.j2 k x0 1))
def timesynclaw05_CivilNext.j2 : Nat → Int → Int → Option (Bool)
  | 0, _, _ => none
  | k + 1, x0, x7 => (civil_MJD.f (wrap64 (x0 + 1))).bind fun t240 => ((civil_MJD.f x0).bind fun t241 => (if (wrap64 (t240 - t241)) = x7 then ((civil_Weekday.f (wrap64 (x0 + 1))).bind fun t242 => ((civil_Weekday.f x0).bind fun t243 => (if t242 = (Int.tmod (wrap64 (t243 + x7)) 7) then ((civil_Weekday.f x0).bind fun t244 => (if t244 ≥ 0 then ((timesynclaw05_awake.f).bind fun t245 => (some t245)) else (some false))) else (some false)))) else (some false)))
end
def timesynclaw05_CivilNext.f (k : Nat) (a0 : Int) : Option (Bool) := if a0 < (-8000000000) then (timesynclaw05_CivilNext.j0 k a0 true) else (timesynclaw05_CivilNext.j0 k a0 (decide (a0 ≥ 8000000000)))
theorem timesynclaw05_CivilNext.mono_l : ∀ k, (∀ y0 y1, LeO (timesynclaw05_CivilNext.j0 k y0 y1) (timesynclaw05_CivilNext.j0 (k + 1) y0 y1)) ∧ (∀ y0 y1 y2 y3 y4 y5 y6 y7 y8 y9 y10 y11 y12 y13 y14 y15, LeO (timesynclaw05_CivilNext.j1 k y0 y1 y2 y3 y4 y5 y6 y7 y8 y9 y10 y11 y12 y13 y14 y15) (timesynclaw05_CivilNext.j1 (k + 1) y0 y1 y2 y3 y4 y5 y6 y7 y8 y9 y10 y11 y12 y13 y14 y15)) ∧ (∀ y0 y1, LeO (timesynclaw05_CivilNext.j2 k y0 y1) (timesynclaw05_CivilNext.j2 (k + 1) y0 y1))
  | 0 => ⟨fun _ _ r h => by simp [timesynclaw05_CivilNext.j0] at h, fun _ _ _ _ _ _ _ _ _ _ _ _ _ _ _ _ r h => by simp [timesynclaw05_CivilNext.j1] at h, fun _ _ r h => by simp [timesynclaw05_CivilNext.j2] at h⟩
  | k + 1 => by
    obtain ⟨ih0, ih1, ih2⟩ := timesynclaw05_CivilNext.mono_l k
    refine ⟨?_, ?_, ?_⟩
    · intro y0 y1
      unfold timesynclaw05_CivilNext.j0
      repeat' first
      | (with_reducible exact ih0 _ _)
      | (with_reducible exact ih1 _ _ _ _ _ _ _ _ _ _ _ _ _ _ _ _)
      | (with_reducible exact ih2 _ _)
      | (with_reducible exact LeO.refl _)
      | (with_reducible exact LeO.none _)
      | (with_reducible refine LeO.ite ?_ ?_)
      | (with_reducible refine LeO.bind ?_ (fun _ => ?_))
      | exact ih0 _ _
      | exact ih1 _ _ _ _ _ _ _ _ _ _ _ _ _ _ _ _
      | exact ih2 _ _
      | exact LeO.none _
      | refine LeO.ite ?_ ?_
      | refine LeO.bind ?_ (fun _ => ?_)
    · intro y0 y1 y2 y3 y4 y5 y6 y7 y8 y9 y10 y11 y12 y13 y14 y15
      unfold timesynclaw05_CivilNext.j1
      repeat' first
      | (with_reducible exact ih0 _ _)
      | (with_reducible exact ih1 _ _ _ _ _ _ _ _ _ _ _ _ _ _ _ _)
      | (with_reducible exact ih2 _ _)
      | (with_reducible exact LeO.refl _)
      | (with_reducible exact LeO.none _)
      | (with_reducible refine LeO.ite ?_ ?_)
      | (with_reducible refine LeO.bind ?_ (fun _ => ?_))
      | exact ih0 _ _
      | exact ih1 _ _ _ _ _ _ _ _ _ _ _ _ _ _ _ _
      | exact ih2 _ _
      | exact LeO.none _
      | refine LeO.ite ?_ ?_
      | refine LeO.bind ?_ (fun _ => ?_)
    · intro y0 y1
      unfold timesynclaw05_CivilNext.j2
      repeat' first
      | (with_reducible exact ih0 _ _)
      | (with_reducible exact ih1 _ _ _ _ _ _ _ _ _ _ _ _ _ _ _ _)
      | (with_reducible exact ih2 _ _)
      | (with_reducible exact LeO.refl _)
      | (with_reducible exact LeO.none _)
      | (with_reducible refine LeO.ite ?_ ?_)
      | (with_reducible refine LeO.bind ?_ (fun _ => ?_))
      | exact ih0 _ _
      | exact ih1 _ _ _ _ _ _ _ _ _ _ _ _ _ _ _ _
      | exact ih2 _ _
      | exact LeO.none _
      | refine LeO.ite ?_ ?_
      | refine LeO.bind ?_ (fun _ => ?_)
theorem timesynclaw05_CivilNext.mono : ∀ a0 k, LeO (timesynclaw05_CivilNext.f k a0) (timesynclaw05_CivilNext.f (k + 1) a0) := by
  intro a0 k
  obtain ⟨ih0, ih1, ih2⟩ := timesynclaw05_CivilNext.mono_l k
  unfold timesynclaw05_CivilNext.f
  repeat' first
      | (with_reducible exact ih0 _ _)
      | (with_reducible exact ih1 _ _ _ _ _ _ _ _ _ _ _ _ _ _ _ _)
      | (with_reducible exact ih2 _ _)
      | (with_reducible exact LeO.refl _)
      | (with_reducible exact LeO.none _)
      | (with_reducible refine LeO.ite ?_ ?_)
      | (with_reducible refine LeO.bind ?_ (fun _ => ?_))
      | exact ih0 _ _
      | exact ih1 _ _ _ _ _ _ _ _ _ _ _ _ _ _ _ _
      | exact ih2 _ _
      | exact LeO.none _
      | refine LeO.ite ?_ ?_
      | refine LeO.bind ?_ (fun _ => ?_)
def timesynclaw05_CivilNext.T5 : Bool × List (List Nat × List Nat) := (true, [([], []), ([0], [0]), ([1], [1]), ([2], [2]), ([3, 2], [2, 3]), ([2, 4], [2, 4]), ([5, 2], [5]), ([6], [6]), ([6], [6]), ([8, 6, 6], [6, 8]), ([7, 9, 6], [6, 7, 9]), ([6, 10], [6, 10])])
def timesynclaw05_CivilNext.B5 : List Nat := [0, 1, 3, 7, 15, 31, 63, 127, 127, 383, 1023, 2047]
theorem timesynclaw05_CivilNext.tab5 : rtab .any (opsOf Try.f7 5) = timesynclaw05_CivilNext.T5 := by kernel_rfl
theorem timesynclaw05_CivilNext.bits5 : waitsOk timesynclaw05_CivilNext.T5.2 timesynclaw05_CivilNext.B5 = true := by kernel_rfl
set_option maxHeartbeats 8000000 in
set_option maxRecDepth 100000 in
theorem timesynclaw05_CivilNext.calls (k : Nat) (a0 : Int) (r : Bool) (w : World) (h : timesynclaw05_CivilNext.f k a0 = some r) :
    Calls Try.prog 7 #[.int .i64 a0] w fun e w' => e = .returned (.bool r) ∧ Below w.heap.size w w' := by
  have hu23 := Try.underlying23
  have HB := Aside0.mk (Below.refl w.heap.size w)
  have H : (if a0 < (-8000000000) then (timesynclaw05_CivilNext.j0 k a0 true) else (timesynclaw05_CivilNext.j0 k a0 (decide (a0 ≥ 8000000000)))) = some r := h
  clear h
  have HC2 := Aside0.mk H
  clear H
  go_enter Try.func7, Try.ntmps7
  go_upto_region 1 with (fail)
  go_cut [13] (fun v13 wc => ∃ (kq : Nat) (x13_1 : Bool), v13 = .bool x13_1 ∧ Aside0 (timesynclaw05_CivilNext.j0 kq a0 x13_1 = some r) ∧ Aside0 (kq ≤ k) ∧ Aside0 (Below w.heap.size w wc))
  case first =>
    have H := HC2.out
    clear HC2
    by_cases c3 : a0 < (-8000000000)
    · rw [if_pos c3] at H
      have c3b0 : decide (a0 < (-8000000000)) = true := decide_eq_true c3
      clear c3
      (first | rw [c3b0] | (simp only [i64_w, i32_w]; rw [c3b0]) | skip)
      have H' := Aside0.mk H
      clear H
      go_wp2
      go_meet
      case rel => exact ⟨_, (true), (by first | rfl | (simp; done) | (simp [*]; done)), H', ⟨by first | omega | exact Nat.le_refl _⟩, ⟨by repeat (first | (with_reducible first | exact HB.out | apply below_alloc | apply pw_below_drewN | apply below_drew1) | exact HB.out)⟩⟩
    · rw [if_neg c3] at H
      have c3b0 : decide (a0 < (-8000000000)) = false := decide_eq_false c3
      clear c3
      (first | rw [c3b0] | (simp only [i64_w, i32_w]; rw [c3b0]) | skip)
      have H' := Aside0.mk H
      clear H
      go_wp2
      go_meet
      case rel => exact ⟨_, (decide (a0 ≥ 8000000000)), (by first | rfl | (simp; done) | (simp [*]; done)), H', ⟨by first | omega | exact Nat.le_refl _⟩, ⟨by repeat (first | (with_reducible first | exact HB.out | apply below_alloc | apply pw_below_drewN | apply below_drew1) | exact HB.out)⟩⟩
  case rest =>
    clear HC2
    try clear p2
    try clear c3
    try clear c3b0
    obtain ⟨kq, x13_1, rfl, HA, HJ1, HB⟩ := hcut
    cases kq with
    | zero => exact absurd HA.out (by simp [timesynclaw05_CivilNext.j0])
    | succ kj1 =>
      have H := HA.out
      clear HA
      simp only [timesynclaw05_CivilNext.j0] at H
      by_cases c4 : x13_1 = true
      · subst c4
        have H1 : ((timesynclaw05_awake.f).bind fun t214 => (some t214)) = some r := by rw [if_pos rfl] at H; exact H
        clear H
        have H := H1
        clear H1
        replace H := Option.bind_eq_some_iff.mp H
        obtain ⟨t214, A50, H⟩ := H
        replace H : (some t214) = some r := H
        have A5 := Aside0.mk A50
        clear A50
        obtain rfl := Option.some.inj H
        go_wp2_with (first | ((with_reducible refine gate_callee (f := 13) rfl ?_); refine goesL_ (some 14) rfl rfl Try.func13 (by kernel_rfl) rfl #[] rfl (by (try simp only [List.map_toArray, List.map_cons, List.map_nil]); first | done | rfl | (simp only [List.length_drop, List.length_take]; rfl)) ?_; (with_reducible refine (timesynclaw05_awake.calls  t214 _ A5.out).mono ?_); rintro e w6 ⟨rfl, hb⟩; refine ⟨_, rfl, ?_⟩; have n0_ := Aside0.mk (below_step (by repeat (first | (with_reducible first | exact HB.out | apply below_alloc | apply pw_below_drewN | apply below_drew1) | exact HB.out)) hb); clear HB; have HB := n0_; clear n0_; (try clear hb); (try clear hb2); (try clear hk); (try clear hi)))
        go_ret
        exact ⟨by first | rfl | (simp [errW_none, errW_some] <;> rfl) | (simp [*, errW_none, errW_some] <;> rfl), by repeat (first | (with_reducible first | exact HB.out | apply below_alloc | apply pw_below_drewN | apply below_drew1) | exact HB.out)⟩
      · replace c4 := Bool.eq_false_iff.mpr c4
        subst c4
        have H1 : ((civil_Of.f a0).bind fun bt215 => ((civil_Of.f (wrap64 (a0 + 1))).bind fun bt224 => (if bt215.2.2.2.2.2.2.2 = 0 then (if bt224.2.2.2.2.2.2.2 = 0 then ((timesynclaw05_after.f bt215.1 bt215.2.1 bt215.2.2.1 bt215.2.2.2.1 bt215.2.2.2.2.1 bt215.2.2.2.2.2.1 bt215.2.2.2.2.2.2.1).bind fun bt233 => (timesynclaw05_CivilNext.j1 kj1 a0 (!(bt224.1 == bt233.1) || (!(bt224.2.1 == bt233.2.1) || (!(bt224.2.2.1 == bt233.2.2.1) || (!(bt224.2.2.2.1 == bt233.2.2.2.1) || (!(bt224.2.2.2.2.1 == bt233.2.2.2.2.1) || (!(bt224.2.2.2.2.2.1 == bt233.2.2.2.2.2.1) || (!(bt224.2.2.2.2.2.2.1 == bt233.2.2.2.2.2.2)))))))) bt215.1 bt215.2.1 bt215.2.2.1 bt215.2.2.2.1 bt215.2.2.2.2.1 bt215.2.2.2.2.2.1 bt215.2.2.2.2.2.2.1 bt224.1 bt224.2.1 bt224.2.2.1 bt224.2.2.2.1 bt224.2.2.2.2.1 bt224.2.2.2.2.2.1 bt224.2.2.2.2.2.2.1)) else (timesynclaw05_CivilNext.j1 kj1 a0 true bt215.1 bt215.2.1 bt215.2.2.1 bt215.2.2.2.1 bt215.2.2.2.2.1 bt215.2.2.2.2.2.1 bt215.2.2.2.2.2.2.1 bt224.1 bt224.2.1 bt224.2.2.1 bt224.2.2.2.1 bt224.2.2.2.2.1 bt224.2.2.2.2.2.1 bt224.2.2.2.2.2.2.1)) else (timesynclaw05_CivilNext.j1 kj1 a0 true bt215.1 bt215.2.1 bt215.2.2.1 bt215.2.2.2.1 bt215.2.2.2.2.1 bt215.2.2.2.2.2.1 bt215.2.2.2.2.2.2.1 bt224.1 bt224.2.1 bt224.2.2.1 bt224.2.2.2.1 bt224.2.2.2.2.1 bt224.2.2.2.2.2.1 bt224.2.2.2.2.2.2.1)))) = some r := by rw [if_neg (show ¬ (false = true) by decide)] at H; exact H
        clear H
        have H := H1
        clear H1
        replace H := Option.bind_eq_some_iff.mp H
        obtain ⟨⟨t215, t216, t217, t218, t219, t220, t221, t222⟩, A70, H⟩ := H
        replace H : ((civil_Of.f (wrap64 (a0 + 1))).bind fun bt224 => (if t222 = 0 then (if bt224.2.2.2.2.2.2.2 = 0 then ((timesynclaw05_after.f t215 t216 t217 t218 t219 t220 t221).bind fun bt233 => (timesynclaw05_CivilNext.j1 kj1 a0 (!(bt224.1 == bt233.1) || (!(bt224.2.1 == bt233.2.1) || (!(bt224.2.2.1 == bt233.2.2.1) || (!(bt224.2.2.2.1 == bt233.2.2.2.1) || (!(bt224.2.2.2.2.1 == bt233.2.2.2.2.1) || (!(bt224.2.2.2.2.2.1 == bt233.2.2.2.2.2.1) || (!(bt224.2.2.2.2.2.2.1 == bt233.2.2.2.2.2.2)))))))) t215 t216 t217 t218 t219 t220 t221 bt224.1 bt224.2.1 bt224.2.2.1 bt224.2.2.2.1 bt224.2.2.2.2.1 bt224.2.2.2.2.2.1 bt224.2.2.2.2.2.2.1)) else (timesynclaw05_CivilNext.j1 kj1 a0 true t215 t216 t217 t218 t219 t220 t221 bt224.1 bt224.2.1 bt224.2.2.1 bt224.2.2.2.1 bt224.2.2.2.2.1 bt224.2.2.2.2.2.1 bt224.2.2.2.2.2.2.1)) else (timesynclaw05_CivilNext.j1 kj1 a0 true t215 t216 t217 t218 t219 t220 t221 bt224.1 bt224.2.1 bt224.2.2.1 bt224.2.2.2.1 bt224.2.2.2.2.1 bt224.2.2.2.2.2.1 bt224.2.2.2.2.2.2.1))) = some r := H
        have A7 := Aside0.mk A70
        clear A70
        replace H := Option.bind_eq_some_iff.mp H
        obtain ⟨⟨t224, t225, t226, t227, t228, t229, t230, t231⟩, A80, H⟩ := H
        replace H : (if t222 = 0 then (if t231 = 0 then ((timesynclaw05_after.f t215 t216 t217 t218 t219 t220 t221).bind fun bt233 => (timesynclaw05_CivilNext.j1 kj1 a0 (!(t224 == bt233.1) || (!(t225 == bt233.2.1) || (!(t226 == bt233.2.2.1) || (!(t227 == bt233.2.2.2.1) || (!(t228 == bt233.2.2.2.2.1) || (!(t229 == bt233.2.2.2.2.2.1) || (!(t230 == bt233.2.2.2.2.2.2)))))))) t215 t216 t217 t218 t219 t220 t221 t224 t225 t226 t227 t228 t229 t230)) else (timesynclaw05_CivilNext.j1 kj1 a0 true t215 t216 t217 t218 t219 t220 t221 t224 t225 t226 t227 t228 t229 t230)) else (timesynclaw05_CivilNext.j1 kj1 a0 true t215 t216 t217 t218 t219 t220 t221 t224 t225 t226 t227 t228 t229 t230)) = some r := H
        have A8 := Aside0.mk A80
        clear A80
        have HC9 := Aside0.mk H
        clear H
        go_upto_region 5 with (first | ((with_reducible refine gate_callee (f := 11) rfl ?_); refine goesL_ (some 17) rfl rfl Try.func11 (by kernel_rfl) rfl #[.int .i64 a0] rfl (by (try simp only [List.map_toArray, List.map_cons, List.map_nil]); first | done | rfl | (simp only [List.length_drop, List.length_take]; rfl)) ?_; (with_reducible refine (civil_Of.calls a0 t215 t216 t217 t218 t219 t220 t221 t222 _ A7.out).mono ?_); rintro e w10 ⟨rfl, hb⟩; refine ⟨_, rfl, ?_⟩; have n0_ := Aside0.mk (below_step (by repeat (first | (with_reducible first | exact HB.out | apply below_alloc | apply pw_below_drewN | apply below_drew1) | exact HB.out)) hb); clear HB; have HB := n0_; clear n0_; (try clear hb); (try clear hb2); (try clear hk); (try clear hi)) | ((with_reducible refine gate_dst (N := 3) rfl ?_); refine box_event ?hg (N := 3) ?hd (cs := #[.int .i64 0, .int .i64 0, .int .i64 0, .int .i64 0, .int .i64 0, .int .i64 0, .int .i64 0]) (t := 23) ?hr ?_; (case hd => rfl); (case hg => rfl); (case hr => first | (go_simp; done) | (go_simp; rfl)); intro gb223 hg w11 hbox hb; have n0_ := Aside0.mk (below_step (by repeat (first | (with_reducible first | exact HB.out | apply below_alloc | apply pw_below_drewN | apply below_drew1) | exact HB.out)) hb); have n1_ := Aside0.mk (hbox); have n2_ := Aside0.mk ((by rw [hg]; exact (below_size (by repeat (first | (with_reducible first | exact HB.out | apply below_alloc | apply pw_below_drewN | apply below_drew1) | exact HB.out))) : w.heap.size ≤ gb223)); have n3_ := Aside0.mk ((by rw [hg]; exact (below_size (by repeat (first | (with_reducible first | exact HB.out | apply below_alloc | apply pw_below_drewN | apply below_drew1) | exact HB.out))) : w.heap.size ≤ gb223)); clear HB; have HB := n0_; have BK223 := n1_; have GW223 := n2_; have GE223 := n3_; clear n0_ n1_ n2_ n3_; clear hb hbox hg; have hcz12_0 : w11.cell? ⟨gb223, 0, none⟩ = some (.int .i64 0) := (blk_cell BK223.out 0).trans rfl; have hcz12_1 : w11.cell? ⟨gb223, 1, none⟩ = some (.int .i64 0) := (blk_cell BK223.out 1).trans rfl; have hcz12_2 : w11.cell? ⟨gb223, 2, none⟩ = some (.int .i64 0) := (blk_cell BK223.out 2).trans rfl; have hcz12_3 : w11.cell? ⟨gb223, 3, none⟩ = some (.int .i64 0) := (blk_cell BK223.out 3).trans rfl; have hcz12_4 : w11.cell? ⟨gb223, 4, none⟩ = some (.int .i64 0) := (blk_cell BK223.out 4).trans rfl; have hcz12_5 : w11.cell? ⟨gb223, 5, none⟩ = some (.int .i64 0) := (blk_cell BK223.out 5).trans rfl; have hcz12_6 : w11.cell? ⟨gb223, 6, none⟩ = some (.int .i64 0) := (blk_cell BK223.out 6).trans rfl; have hfz12_0 := blk_frozen BK223.out 0; have hfz12_1 := blk_frozen BK223.out 1; have hfz12_2 := blk_frozen BK223.out 2; have hfz12_3 := blk_frozen BK223.out 3; have hfz12_4 := blk_frozen BK223.out 4; have hfz12_5 := blk_frozen BK223.out 5; have hfz12_6 := blk_frozen BK223.out 6) | ((with_reducible refine gate_callee (f := 11) rfl ?_); refine goesL_ (some 23) rfl rfl Try.func11 (by kernel_rfl) rfl #[.int .i64 (wrap64 (a0 + 1))] rfl (by (try simp only [List.map_toArray, List.map_cons, List.map_nil]); first | done | rfl | (simp only [List.length_drop, List.length_take]; rfl)) ?_; (with_reducible refine (civil_Of.calls (wrap64 (a0 + 1)) t224 t225 t226 t227 t228 t229 t230 t231 _ A8.out).mono ?_); rintro e w13 ⟨rfl, hb⟩; refine ⟨_, rfl, ?_⟩; have n0_ := Aside0.mk (blk_below (g := gb223) (o := .cells #[.int .i64 t215, .int .i64 t216, .int .i64 t217, .int .i64 t218, .int .i64 t219, .int .i64 t220, .int .i64 t221] 23 (0, 0)) (by (with_reducible repeat (first | refine blk_drewN ?_ _ | refine blk_drew ?_ | refine blk_alloc ?_ _)); refine blk_put (cs := #[.int .i64 t215, .int .i64 t216, .int .i64 t217, .int .i64 t218, .int .i64 t219, .int .i64 t220, .int .i64 0]) ?_ 6 _ rfl; (with_reducible repeat (first | refine blk_drewN ?_ _ | refine blk_drew ?_ | refine blk_alloc ?_ _)); refine blk_put (cs := #[.int .i64 t215, .int .i64 t216, .int .i64 t217, .int .i64 t218, .int .i64 t219, .int .i64 0, .int .i64 0]) ?_ 5 _ rfl; (with_reducible repeat (first | refine blk_drewN ?_ _ | refine blk_drew ?_ | refine blk_alloc ?_ _)); refine blk_put (cs := #[.int .i64 t215, .int .i64 t216, .int .i64 t217, .int .i64 t218, .int .i64 0, .int .i64 0, .int .i64 0]) ?_ 4 _ rfl; (with_reducible repeat (first | refine blk_drewN ?_ _ | refine blk_drew ?_ | refine blk_alloc ?_ _)); refine blk_put (cs := #[.int .i64 t215, .int .i64 t216, .int .i64 t217, .int .i64 0, .int .i64 0, .int .i64 0, .int .i64 0]) ?_ 3 _ rfl; (with_reducible repeat (first | refine blk_drewN ?_ _ | refine blk_drew ?_ | refine blk_alloc ?_ _)); refine blk_put (cs := #[.int .i64 t215, .int .i64 t216, .int .i64 0, .int .i64 0, .int .i64 0, .int .i64 0, .int .i64 0]) ?_ 2 _ rfl; (with_reducible repeat (first | refine blk_drewN ?_ _ | refine blk_drew ?_ | refine blk_alloc ?_ _)); refine blk_put (cs := #[.int .i64 t215, .int .i64 0, .int .i64 0, .int .i64 0, .int .i64 0, .int .i64 0, .int .i64 0]) ?_ 1 _ rfl; (with_reducible repeat (first | refine blk_drewN ?_ _ | refine blk_drew ?_ | refine blk_alloc ?_ _)); refine blk_put (cs := #[.int .i64 0, .int .i64 0, .int .i64 0, .int .i64 0, .int .i64 0, .int .i64 0, .int .i64 0]) ?_ 0 _ rfl; (with_reducible repeat (first | refine blk_drewN ?_ _ | refine blk_drew ?_ | refine blk_alloc ?_ _)); exact BK223.out) hb); have n1_ := Aside0.mk (below_step (by repeat (first | (with_reducible first | exact HB.out | apply below_alloc | apply pw_below_drewN | apply below_drew1 | refine below_set ?_ GE223.out) | exact HB.out)) hb); clear BK223; clear HB; have BK223 := n0_; have HB := n1_; clear n0_ n1_; (try clear hb); (try clear hb2); (try clear hk); (try clear hi)) | ((with_reducible refine gate_dst (N := 5) rfl ?_); refine box_event ?hg (N := 5) ?hd (cs := #[.int .i64 0, .int .i64 0, .int .i64 0, .int .i64 0, .int .i64 0, .int .i64 0, .int .i64 0]) (t := 23) ?hr ?_; (case hd => rfl); (case hg => rfl); (case hr => first | (go_simp; done) | (go_simp; rfl)); intro gb232 hg w14 hbox hb; have n0_ := Aside0.mk (blk_below (g := gb223) (o := .cells #[.int .i64 t215, .int .i64 t216, .int .i64 t217, .int .i64 t218, .int .i64 t219, .int .i64 t220, .int .i64 t221] 23 (0, 0)) (by (with_reducible repeat (first | refine blk_drewN ?_ _ | refine blk_drew ?_ | refine blk_alloc ?_ _)); exact BK223.out) hb); have n1_ := Aside0.mk (below_step (by repeat (first | (with_reducible first | exact HB.out | apply below_alloc | apply pw_below_drewN | apply below_drew1 | refine below_set ?_ GE223.out) | exact HB.out)) hb); have n2_ := Aside0.mk (hbox); have n3_ := Aside0.mk ((by rw [hg]; exact (below_size (by repeat (first | (with_reducible first | exact HB.out | apply below_alloc | apply pw_below_drewN | apply below_drew1 | refine below_set ?_ GE223.out) | exact HB.out))) : w.heap.size ≤ gb232)); have n4_ := Aside0.mk ((by rw [hg]; exact (below_size (by repeat (first | (with_reducible first | exact HB.out | apply below_alloc | apply pw_below_drewN | apply below_drew1 | refine below_set ?_ GE223.out) | exact HB.out))) : w.heap.size ≤ gb232)); have n5_ := Aside0.mk ((by rw [hg]; exact Nat.ne_of_lt (blk_lt (g := gb223) (o := .cells #[.int .i64 t215, .int .i64 t216, .int .i64 t217, .int .i64 t218, .int .i64 t219, .int .i64 t220, .int .i64 t221] 23 (0, 0)) (by (with_reducible repeat (first | refine blk_drewN ?_ _ | refine blk_drew ?_ | refine blk_alloc ?_ _)); exact BK223.out)) : gb223 ≠ gb232)); have n6_ := Aside0.mk ((by rw [hg]; exact Nat.ne_of_gt (blk_lt (g := gb223) (o := .cells #[.int .i64 t215, .int .i64 t216, .int .i64 t217, .int .i64 t218, .int .i64 t219, .int .i64 t220, .int .i64 t221] 23 (0, 0)) (by (with_reducible repeat (first | refine blk_drewN ?_ _ | refine blk_drew ?_ | refine blk_alloc ?_ _)); exact BK223.out)) : gb232 ≠ gb223)); clear BK223; clear HB; have BK223 := n0_; have HB := n1_; have BK232 := n2_; have GW232 := n3_; have GE232 := n4_; have NB223_232 := n5_; have NB232_223 := n6_; clear n0_ n1_ n2_ n3_ n4_ n5_ n6_; clear hb hbox hg; have hnb15 := NB232_223.out; have hnc15 := NB223_232.out; have hcz16_0 : w14.cell? ⟨gb232, 0, none⟩ = some (.int .i64 0) := (blk_cell BK232.out 0).trans rfl; have hcz16_1 : w14.cell? ⟨gb232, 1, none⟩ = some (.int .i64 0) := (blk_cell BK232.out 1).trans rfl; have hcz16_2 : w14.cell? ⟨gb232, 2, none⟩ = some (.int .i64 0) := (blk_cell BK232.out 2).trans rfl; have hcz16_3 : w14.cell? ⟨gb232, 3, none⟩ = some (.int .i64 0) := (blk_cell BK232.out 3).trans rfl; have hcz16_4 : w14.cell? ⟨gb232, 4, none⟩ = some (.int .i64 0) := (blk_cell BK232.out 4).trans rfl; have hcz16_5 : w14.cell? ⟨gb232, 5, none⟩ = some (.int .i64 0) := (blk_cell BK232.out 5).trans rfl; have hcz16_6 : w14.cell? ⟨gb232, 6, none⟩ = some (.int .i64 0) := (blk_cell BK232.out 6).trans rfl; have hfz16_0 := blk_frozen BK232.out 0; have hfz16_1 := blk_frozen BK232.out 1; have hfz16_2 := blk_frozen BK232.out 2; have hfz16_3 := blk_frozen BK232.out 3; have hfz16_4 := blk_frozen BK232.out 4; have hfz16_5 := blk_frozen BK232.out 5; have hfz16_6 := blk_frozen BK232.out 6))
        (try simp only [Act.put, List.setIfInBounds_toArray, List.set_cons_zero, List.set_cons_succ])
        go_cut [37] (fun v37 wc => ∃ (kq : Nat) (x37_8 : Bool), v37 = .bool x37_8 ∧ Aside0 (timesynclaw05_CivilNext.j1 kq a0 x37_8 t215 t216 t217 t218 t219 t220 t221 t224 t225 t226 t227 t228 t229 t230 = some r) ∧ Aside0 (kq ≤ kj1) ∧ Aside0 (wc.heap[gb223]? = some (.cells #[.int .i64 t215, .int .i64 t216, .int .i64 t217, .int .i64 t218, .int .i64 t219, .int .i64 t220, .int .i64 t221] 23 (0, 0))) ∧ Aside0 (wc.heap[gb232]? = some (.cells #[.int .i64 t224, .int .i64 t225, .int .i64 t226, .int .i64 t227, .int .i64 t228, .int .i64 t229, .int .i64 t230] 23 (0, 0))) ∧ Aside0 (Below w.heap.size w wc))
        case first =>
          have H := HC9.out
          clear HC9
          by_cases c17 : t222 = 0
          · rw [if_pos c17] at H
            have c17b0 : (t222 == 0) = true := beq_iff_eq.mpr c17
            have c17b1 : (t222 != 0) = false := bne_eq_false_iff_eq.mpr c17
            clear c17
            (first | rw [c17b0] | (simp only [i64_w, i32_w]; rw [c17b0]) | skip)
            by_cases c18 : t231 = 0
            · rw [if_pos c18] at H
              have c18b0 : (t231 == 0) = true := beq_iff_eq.mpr c18
              have c18b1 : (t231 != 0) = false := bne_eq_false_iff_eq.mpr c18
              clear c18
              replace H := Option.bind_eq_some_iff.mp H
              obtain ⟨⟨t233, t234, t235, t236, t237, t238, t239⟩, A190, H⟩ := H
              replace H : (timesynclaw05_CivilNext.j1 kj1 a0 (!(t224 == t233) || (!(t225 == t234) || (!(t226 == t235) || (!(t227 == t236) || (!(t228 == t237) || (!(t229 == t238) || (!(t230 == t239)))))))) t215 t216 t217 t218 t219 t220 t221 t224 t225 t226 t227 t228 t229 t230) = some r := H
              have A19 := Aside0.mk A190
              clear A190
              have H' := Aside0.mk H
              clear H
              try go_wp2
              have n0_ : Aside0 ((((((((w14.setCell ⟨gb232, 0, none⟩ (.int .i64 t224)).setCell ⟨gb232, 1, none⟩ (.int .i64 t225)).setCell ⟨gb232, 2, none⟩ (.int .i64 t226)).setCell ⟨gb232, 3, none⟩ (.int .i64 t227)).setCell ⟨gb232, 4, none⟩ (.int .i64 t228)).setCell ⟨gb232, 5, none⟩ (.int .i64 t229)).setCell ⟨gb232, 6, none⟩ (.int .i64 t230)).heap[gb223]? = some (.cells #[.int .i64 t215, .int .i64 t216, .int .i64 t217, .int .i64 t218, .int .i64 t219, .int .i64 t220, .int .i64 t221] 23 (0, 0))) := ⟨by (with_reducible repeat (first | refine blk_drewN ?_ _ | refine blk_drew ?_ | refine blk_alloc ?_ _)); refine blk_far ?_ NB223_232.out _; (with_reducible repeat (first | refine blk_drewN ?_ _ | refine blk_drew ?_ | refine blk_alloc ?_ _)); refine blk_far ?_ NB223_232.out _; (with_reducible repeat (first | refine blk_drewN ?_ _ | refine blk_drew ?_ | refine blk_alloc ?_ _)); refine blk_far ?_ NB223_232.out _; (with_reducible repeat (first | refine blk_drewN ?_ _ | refine blk_drew ?_ | refine blk_alloc ?_ _)); refine blk_far ?_ NB223_232.out _; (with_reducible repeat (first | refine blk_drewN ?_ _ | refine blk_drew ?_ | refine blk_alloc ?_ _)); refine blk_far ?_ NB223_232.out _; (with_reducible repeat (first | refine blk_drewN ?_ _ | refine blk_drew ?_ | refine blk_alloc ?_ _)); refine blk_far ?_ NB223_232.out _; (with_reducible repeat (first | refine blk_drewN ?_ _ | refine blk_drew ?_ | refine blk_alloc ?_ _)); refine blk_far ?_ NB223_232.out _; (with_reducible repeat (first | refine blk_drewN ?_ _ | refine blk_drew ?_ | refine blk_alloc ?_ _)); exact BK223.out⟩
              have n1_ : Aside0 ((((((((w14.setCell ⟨gb232, 0, none⟩ (.int .i64 t224)).setCell ⟨gb232, 1, none⟩ (.int .i64 t225)).setCell ⟨gb232, 2, none⟩ (.int .i64 t226)).setCell ⟨gb232, 3, none⟩ (.int .i64 t227)).setCell ⟨gb232, 4, none⟩ (.int .i64 t228)).setCell ⟨gb232, 5, none⟩ (.int .i64 t229)).setCell ⟨gb232, 6, none⟩ (.int .i64 t230)).heap[gb232]? = some (.cells #[.int .i64 t224, .int .i64 t225, .int .i64 t226, .int .i64 t227, .int .i64 t228, .int .i64 t229, .int .i64 t230] 23 (0, 0))) := ⟨by (with_reducible repeat (first | refine blk_drewN ?_ _ | refine blk_drew ?_ | refine blk_alloc ?_ _)); refine blk_put (cs := #[.int .i64 t224, .int .i64 t225, .int .i64 t226, .int .i64 t227, .int .i64 t228, .int .i64 t229, .int .i64 0]) ?_ 6 _ rfl; (with_reducible repeat (first | refine blk_drewN ?_ _ | refine blk_drew ?_ | refine blk_alloc ?_ _)); refine blk_put (cs := #[.int .i64 t224, .int .i64 t225, .int .i64 t226, .int .i64 t227, .int .i64 t228, .int .i64 0, .int .i64 0]) ?_ 5 _ rfl; (with_reducible repeat (first | refine blk_drewN ?_ _ | refine blk_drew ?_ | refine blk_alloc ?_ _)); refine blk_put (cs := #[.int .i64 t224, .int .i64 t225, .int .i64 t226, .int .i64 t227, .int .i64 0, .int .i64 0, .int .i64 0]) ?_ 4 _ rfl; (with_reducible repeat (first | refine blk_drewN ?_ _ | refine blk_drew ?_ | refine blk_alloc ?_ _)); refine blk_put (cs := #[.int .i64 t224, .int .i64 t225, .int .i64 t226, .int .i64 0, .int .i64 0, .int .i64 0, .int .i64 0]) ?_ 3 _ rfl; (with_reducible repeat (first | refine blk_drewN ?_ _ | refine blk_drew ?_ | refine blk_alloc ?_ _)); refine blk_put (cs := #[.int .i64 t224, .int .i64 t225, .int .i64 0, .int .i64 0, .int .i64 0, .int .i64 0, .int .i64 0]) ?_ 2 _ rfl; (with_reducible repeat (first | refine blk_drewN ?_ _ | refine blk_drew ?_ | refine blk_alloc ?_ _)); refine blk_put (cs := #[.int .i64 t224, .int .i64 0, .int .i64 0, .int .i64 0, .int .i64 0, .int .i64 0, .int .i64 0]) ?_ 1 _ rfl; (with_reducible repeat (first | refine blk_drewN ?_ _ | refine blk_drew ?_ | refine blk_alloc ?_ _)); refine blk_put (cs := #[.int .i64 0, .int .i64 0, .int .i64 0, .int .i64 0, .int .i64 0, .int .i64 0, .int .i64 0]) ?_ 0 _ rfl; (with_reducible repeat (first | refine blk_drewN ?_ _ | refine blk_drew ?_ | refine blk_alloc ?_ _)); exact BK232.out⟩
              have n2_ : Aside0 (Below w.heap.size w (((((((w14.setCell ⟨gb232, 0, none⟩ (.int .i64 t224)).setCell ⟨gb232, 1, none⟩ (.int .i64 t225)).setCell ⟨gb232, 2, none⟩ (.int .i64 t226)).setCell ⟨gb232, 3, none⟩ (.int .i64 t227)).setCell ⟨gb232, 4, none⟩ (.int .i64 t228)).setCell ⟨gb232, 5, none⟩ (.int .i64 t229)).setCell ⟨gb232, 6, none⟩ (.int .i64 t230))) := ⟨by repeat (first | (with_reducible first | exact HB.out | apply below_alloc | apply pw_below_drewN | apply below_drew1 | refine below_set ?_ GE223.out | refine below_set ?_ GE232.out) | exact HB.out)⟩
              (try clear BK223)
              (try clear BK232)
              (try clear HB)
              generalize (((((((w14.setCell ⟨gb232, 0, none⟩ (.int .i64 t224)).setCell ⟨gb232, 1, none⟩ (.int .i64 t225)).setCell ⟨gb232, 2, none⟩ (.int .i64 t226)).setCell ⟨gb232, 3, none⟩ (.int .i64 t227)).setCell ⟨gb232, 4, none⟩ (.int .i64 t228)).setCell ⟨gb232, 5, none⟩ (.int .i64 t229)).setCell ⟨gb232, 6, none⟩ (.int .i64 t230)) = w20 at n0_ n1_ n2_ ⊢
              have BK223 := n0_
              have BK232 := n1_
              have HB := n2_
              clear n0_ n1_ n2_
              have n0_ := Aside0.mk (blk_drew BK223.out)
              have n1_ := Aside0.mk (blk_drew BK232.out)
              have n2_ := Aside0.mk (below_drew1 HB.out)
              clear BK223
              clear BK232
              clear HB
              have BK223 := n0_
              have BK232 := n1_
              have HB := n2_
              clear n0_ n1_ n2_
              refine start_ (n := 12) (S := fun w' => w'.cell? ⟨gb232, 0, none⟩ = some (.int .i64 t224) ∧ w'.cell? ⟨gb232, 1, none⟩ = some (.int .i64 t225) ∧ w'.cell? ⟨gb232, 2, none⟩ = some (.int .i64 t226) ∧ w'.cell? ⟨gb232, 3, none⟩ = some (.int .i64 t227) ∧ w'.cell? ⟨gb232, 4, none⟩ = some (.int .i64 t228) ∧ w'.cell? ⟨gb232, 5, none⟩ = some (.int .i64 t229) ∧ w'.cell? ⟨gb232, 6, none⟩ = some (.int .i64 t230) ∧ w'.cell? ⟨gb223, 0, none⟩ = some (.int .i64 t215) ∧ w'.cell? ⟨gb223, 1, none⟩ = some (.int .i64 t216) ∧ w'.cell? ⟨gb223, 2, none⟩ = some (.int .i64 t217) ∧ w'.cell? ⟨gb223, 3, none⟩ = some (.int .i64 t218) ∧ w'.cell? ⟨gb223, 4, none⟩ = some (.int .i64 t219) ∧ w'.cell? ⟨gb223, 5, none⟩ = some (.int .i64 t220) ∧ w'.cell? ⟨gb223, 6, none⟩ = some (.int .i64 t221)) (ds := []) #[false, false, false, false, false, false, false, false, false, false, false, false] (by kernel_rfl) rfl rfl ⟨(blk_cell BK232.out 0).trans rfl, (blk_cell BK232.out 1).trans rfl, (blk_cell BK232.out 2).trans rfl, (blk_cell BK232.out 3).trans rfl, (blk_cell BK232.out 4).trans rfl, (blk_cell BK232.out 5).trans rfl, (blk_cell BK232.out 6).trans rfl, (blk_cell BK223.out 0).trans rfl, (blk_cell BK223.out 1).trans rfl, (blk_cell BK223.out 2).trans rfl, (blk_cell BK223.out 3).trans rfl, (blk_cell BK223.out 4).trans rfl, (blk_cell BK223.out 5).trans rfl, (blk_cell BK223.out 6).trans rfl⟩ (fun hHeld => ?_); refine with_tabW timesynclaw05_CivilNext.tab5 timesynclaw05_CivilNext.bits5 (fun HT_ HW_ => ?_)
              generalize w20.drew = w21 at BK223 BK232 HB hHeld ⊢
              refine pure_ (i := 0) (N := some 26) (v := ?_) (a' := ?_) #[true, false, false, false, false, false, false, false, false, false, false, false] rfl rfl (any_of HT_.out (by kernel_rfl)) (fun _ _ _ h => h) (Or.inl ⟨by rfl, ?_⟩) ?_ ?_
              rotate_left
              · intro w'
                go_simp
                with_reducible rfl
              rotate_left
              · simp only [Act.put, List.setIfInBounds_toArray, List.set_cons_zero, List.set_cons_succ, i64_w, i32_w]
                rfl
              refine pure_ (i := 1) (N := some 27) (v := ?_) (a' := ?_) #[true, true, false, false, false, false, false, false, false, false, false, false] rfl rfl (any_of HT_.out (by kernel_rfl)) (fun _ _ _ h => h) (Or.inl ⟨by rfl, ?_⟩) ?_ ?_
              rotate_left
              · intro w'
                go_simp
                with_reducible rfl
              rotate_left
              · simp only [Act.put, List.setIfInBounds_toArray, List.set_cons_zero, List.set_cons_succ, i64_w, i32_w]
                rfl
              refine pure_ (i := 2) (N := some 28) (v := ?_) (a' := ?_) #[true, true, true, false, false, false, false, false, false, false, false, false] rfl rfl (any_of HT_.out (by kernel_rfl)) (fun _ _ _ h => h) (Or.inl ⟨by rfl, ?_⟩) ?_ ?_
              rotate_left
              · intro w'
                go_simp
                with_reducible rfl
              rotate_left
              · simp only [Act.put, List.setIfInBounds_toArray, List.set_cons_zero, List.set_cons_succ, i64_w, i32_w]
                rfl
              refine pure_ (i := 3) (N := some 29) (v := ?_) (a' := ?_) #[true, true, true, true, false, false, false, false, false, false, false, false] rfl rfl (any_of HT_.out (by kernel_rfl)) (fun _ _ _ h => h) (Or.inl ⟨by rfl, ?_⟩) ?_ ?_
              rotate_left
              · intro w'
                go_simp
                with_reducible rfl
              rotate_left
              · simp only [Act.put, List.setIfInBounds_toArray, List.set_cons_zero, List.set_cons_succ, i64_w, i32_w]
                rfl
              refine pure_ (i := 4) (N := some 30) (v := ?_) (a' := ?_) #[true, true, true, true, true, false, false, false, false, false, false, false] rfl rfl (any_of HT_.out (by kernel_rfl)) (fun _ _ _ h => h) (Or.inl ⟨by rfl, ?_⟩) ?_ ?_
              rotate_left
              · intro w'
                go_simp
                with_reducible rfl
              rotate_left
              · simp only [Act.put, List.setIfInBounds_toArray, List.set_cons_zero, List.set_cons_succ, i64_w, i32_w]
                rfl
              refine pure_ (i := 5) (N := some 31) (v := ?_) (a' := ?_) #[true, true, true, true, true, true, false, false, false, false, false, false] rfl rfl (any_of HT_.out (by kernel_rfl)) (fun _ _ _ h => h) (Or.inl ⟨by rfl, ?_⟩) ?_ ?_
              rotate_left
              · intro w'
                go_simp
                with_reducible rfl
              rotate_left
              · simp only [Act.put, List.setIfInBounds_toArray, List.set_cons_zero, List.set_cons_succ, i64_w, i32_w]
                rfl
              refine pure_ (i := 6) (N := some 32) (v := ?_) (a' := ?_) #[true, true, true, true, true, true, true, false, false, false, false, false] rfl rfl (any_of HT_.out (by kernel_rfl)) (fun _ _ _ h => h) (Or.inl ⟨by rfl, ?_⟩) ?_ ?_
              rotate_left
              · intro w'
                go_simp
                with_reducible rfl
              rotate_left
              · simp only [Act.put, List.setIfInBounds_toArray, List.set_cons_zero, List.set_cons_succ, i64_w, i32_w]
                rfl
              refine take_ (i := 7) (N := some 33) (v := ?_) (a' := ?_) #[true, true, true, true, true, true, true, true, false, false, false, false] rfl rfl (take_ofW HT_.out HW_.out (by kernel_rfl)) (fun _ _ _ h => h) (Or.inl ⟨by rfl, ?_⟩) hHeld ?_ ?_
              rotate_left
              · rintro w' ⟨s0, s1, s2, s3, s4, s5, s6, s7, s8, s9, s10, s11, s12, s13⟩
                go_simp
                with_reducible rfl
              rotate_left
              · simp only [Act.put, List.setIfInBounds_toArray, List.set_cons_zero, List.set_cons_succ, i64_w, i32_w]
                rfl
              refine take_ (i := 8) (N := some 34) (v := ?_) (a' := ?_) #[true, true, true, true, true, true, true, true, true, false, false, false] rfl rfl (take_ofW HT_.out HW_.out (by kernel_rfl)) (fun _ _ _ h => h) (Or.inl ⟨by rfl, ?_⟩) hHeld ?_ ?_
              rotate_left
              · rintro w' ⟨s0, s1, s2, s3, s4, s5, s6, s7, s8, s9, s10, s11, s12, s13⟩
                go_simp
                with_reducible rfl
              rotate_left
              · simp only [Act.put, List.setIfInBounds_toArray, List.set_cons_zero, List.set_cons_succ, i64_w, i32_w]
                rfl
              refine one_ (i := 9) (N := some 35) #[true, true, true, true, true, true, true, true, true, true, false, false] rfl rfl (one_of HT_.out (by kernel_rfl)) (by decide) (fun K hK => ?_)
              refine goes_ Try.func24 (by kernel_rfl) rfl #[.agg #[.int .i64 t215, .int .i64 t216, .int .i64 t217, .int .i64 t218, .int .i64 t219, .int .i64 t220, .int .i64 t221]] (by rfl) rfl rfl (by (try simp only [List.map_toArray, List.map_cons, List.map_nil]); first | done | rfl | (simp only [List.length_drop, List.length_take]; rfl)) ?_
              with_reducible refine (timesynclaw05_after.calls t215 t216 t217 t218 t219 t220 t221 t233 t234 t235 t236 t237 t238 t239 _ A19.out).mono ?_
              rintro e w22 ⟨rfl, hb⟩
              refine ⟨_, rfl, ?_⟩
              have n0_ := Aside0.mk (blk_below (g := gb223) (o := .cells #[.int .i64 t215, .int .i64 t216, .int .i64 t217, .int .i64 t218, .int .i64 t219, .int .i64 t220, .int .i64 t221] 23 (0, 0)) (by (with_reducible repeat (first | refine blk_drewN ?_ _ | refine blk_drew ?_ | refine blk_alloc ?_ _)); exact BK223.out) hb)
              have n1_ := Aside0.mk (blk_below (g := gb232) (o := .cells #[.int .i64 t224, .int .i64 t225, .int .i64 t226, .int .i64 t227, .int .i64 t228, .int .i64 t229, .int .i64 t230] 23 (0, 0)) (by (with_reducible repeat (first | refine blk_drewN ?_ _ | refine blk_drew ?_ | refine blk_alloc ?_ _)); exact BK232.out) hb)
              have n2_ := Aside0.mk (below_step (by repeat (first | (with_reducible first | exact HB.out | apply below_alloc | apply pw_below_drewN | apply below_drew1 | refine below_set ?_ GE223.out | refine below_set ?_ GE232.out) | exact HB.out)) hb)
              clear BK223
              clear BK232
              clear HB
              have BK223 := n0_
              have BK232 := n1_
              have HB := n2_
              clear n0_ n1_ n2_
              (try clear hb)
              (try clear hb2)
              (try clear hk)
              (try clear hi)
              refine hK.out _ _ ⟨(blk_cell BK232.out 0).trans rfl, (blk_cell BK232.out 1).trans rfl, (blk_cell BK232.out 2).trans rfl, (blk_cell BK232.out 3).trans rfl, (blk_cell BK232.out 4).trans rfl, (blk_cell BK232.out 5).trans rfl, (blk_cell BK232.out 6).trans rfl, (blk_cell BK223.out 0).trans rfl, (blk_cell BK223.out 1).trans rfl, (blk_cell BK223.out 2).trans rfl, (blk_cell BK223.out 3).trans rfl, (blk_cell BK223.out 4).trans rfl, (blk_cell BK223.out 5).trans rfl, (blk_cell BK223.out 6).trans rfl⟩ (fun hHeld => ?_)
              clear hK K
              refine norm_ (a' := ?_) ?_ ?_
              rotate_left
              · show Act.put _ (some 35) _ = _
                simp only [Act.put, List.setIfInBounds_toArray, List.set_cons_zero, List.set_cons_succ, i64_w, i32_w]
                rfl
              refine pure_ (i := 10) (N := some 36) (v := ?_) (a' := ?_) #[true, true, true, true, true, true, true, true, true, true, true, false] rfl rfl (any_of HT_.out (by kernel_rfl)) (fun _ _ _ h => h) (Or.inl ⟨by rfl, ?_⟩) ?_ ?_
              rotate_left
              · intro w'
                go_simp
                with_reducible rfl
              rotate_left
              · simp only [Act.put, List.setIfInBounds_toArray, List.set_cons_zero, List.set_cons_succ, i64_w, i32_w]
                rfl
              refine pure_ (i := 11) (N := some 37) (v := ?_) (a' := ?_) #[true, true, true, true, true, true, true, true, true, true, true, true] rfl rfl (any_of HT_.out (by kernel_rfl)) (fun _ _ _ h => h) (Or.inl ⟨by rfl, ?_⟩) ?_ ?_
              rotate_left
              · intro w'
                go_simp
                with_reducible rfl
              rotate_left
              · simp only [Act.put, List.setIfInBounds_toArray, List.set_cons_zero, List.set_cons_succ, i64_w, i32_w]
                rfl
              refine done_ (done_of HT_.out (by kernel_rfl)) ?_
              try go_wp2
              go_meet
              case rel => exact ⟨_, ((!(t224 == t233) || (!(t225 == t234) || (!(t226 == t235) || (!(t227 == t236) || (!(t228 == t237) || (!(t229 == t238) || (!(t230 == t239))))))))), (by first | rfl | (simp; done) | (simp [*]; done)), H', ⟨by have := HJ1.out; first | omega | exact Nat.le_refl _⟩, ⟨by (with_reducible repeat (first | refine blk_drewN ?_ _ | refine blk_drew ?_ | refine blk_alloc ?_ _)); exact BK223.out⟩, ⟨by (with_reducible repeat (first | refine blk_drewN ?_ _ | refine blk_drew ?_ | refine blk_alloc ?_ _)); exact BK232.out⟩, ⟨by repeat (first | (with_reducible first | exact HB.out | apply below_alloc | apply pw_below_drewN | apply below_drew1 | refine below_set ?_ GE223.out | refine below_set ?_ GE232.out) | exact HB.out)⟩⟩
            · rw [if_neg c18] at H
              have c18b0 : (t231 == 0) = false := beq_eq_false_iff_ne.mpr c18
              have c18b1 : (t231 != 0) = true := bne_iff_ne.mpr c18
              have H' := Aside0.mk H
              clear H
              try go_wp2
              have n0_ : Aside0 ((((((((w14.setCell ⟨gb232, 0, none⟩ (.int .i64 t224)).setCell ⟨gb232, 1, none⟩ (.int .i64 t225)).setCell ⟨gb232, 2, none⟩ (.int .i64 t226)).setCell ⟨gb232, 3, none⟩ (.int .i64 t227)).setCell ⟨gb232, 4, none⟩ (.int .i64 t228)).setCell ⟨gb232, 5, none⟩ (.int .i64 t229)).setCell ⟨gb232, 6, none⟩ (.int .i64 t230)).heap[gb223]? = some (.cells #[.int .i64 t215, .int .i64 t216, .int .i64 t217, .int .i64 t218, .int .i64 t219, .int .i64 t220, .int .i64 t221] 23 (0, 0))) := ⟨by (with_reducible repeat (first | refine blk_drewN ?_ _ | refine blk_drew ?_ | refine blk_alloc ?_ _)); refine blk_far ?_ NB223_232.out _; (with_reducible repeat (first | refine blk_drewN ?_ _ | refine blk_drew ?_ | refine blk_alloc ?_ _)); refine blk_far ?_ NB223_232.out _; (with_reducible repeat (first | refine blk_drewN ?_ _ | refine blk_drew ?_ | refine blk_alloc ?_ _)); refine blk_far ?_ NB223_232.out _; (with_reducible repeat (first | refine blk_drewN ?_ _ | refine blk_drew ?_ | refine blk_alloc ?_ _)); refine blk_far ?_ NB223_232.out _; (with_reducible repeat (first | refine blk_drewN ?_ _ | refine blk_drew ?_ | refine blk_alloc ?_ _)); refine blk_far ?_ NB223_232.out _; (with_reducible repeat (first | refine blk_drewN ?_ _ | refine blk_drew ?_ | refine blk_alloc ?_ _)); refine blk_far ?_ NB223_232.out _; (with_reducible repeat (first | refine blk_drewN ?_ _ | refine blk_drew ?_ | refine blk_alloc ?_ _)); refine blk_far ?_ NB223_232.out _; (with_reducible repeat (first | refine blk_drewN ?_ _ | refine blk_drew ?_ | refine blk_alloc ?_ _)); exact BK223.out⟩
              have n1_ : Aside0 ((((((((w14.setCell ⟨gb232, 0, none⟩ (.int .i64 t224)).setCell ⟨gb232, 1, none⟩ (.int .i64 t225)).setCell ⟨gb232, 2, none⟩ (.int .i64 t226)).setCell ⟨gb232, 3, none⟩ (.int .i64 t227)).setCell ⟨gb232, 4, none⟩ (.int .i64 t228)).setCell ⟨gb232, 5, none⟩ (.int .i64 t229)).setCell ⟨gb232, 6, none⟩ (.int .i64 t230)).heap[gb232]? = some (.cells #[.int .i64 t224, .int .i64 t225, .int .i64 t226, .int .i64 t227, .int .i64 t228, .int .i64 t229, .int .i64 t230] 23 (0, 0))) := ⟨by (with_reducible repeat (first | refine blk_drewN ?_ _ | refine blk_drew ?_ | refine blk_alloc ?_ _)); refine blk_put (cs := #[.int .i64 t224, .int .i64 t225, .int .i64 t226, .int .i64 t227, .int .i64 t228, .int .i64 t229, .int .i64 0]) ?_ 6 _ rfl; (with_reducible repeat (first | refine blk_drewN ?_ _ | refine blk_drew ?_ | refine blk_alloc ?_ _)); refine blk_put (cs := #[.int .i64 t224, .int .i64 t225, .int .i64 t226, .int .i64 t227, .int .i64 t228, .int .i64 0, .int .i64 0]) ?_ 5 _ rfl; (with_reducible repeat (first | refine blk_drewN ?_ _ | refine blk_drew ?_ | refine blk_alloc ?_ _)); refine blk_put (cs := #[.int .i64 t224, .int .i64 t225, .int .i64 t226, .int .i64 t227, .int .i64 0, .int .i64 0, .int .i64 0]) ?_ 4 _ rfl; (with_reducible repeat (first | refine blk_drewN ?_ _ | refine blk_drew ?_ | refine blk_alloc ?_ _)); refine blk_put (cs := #[.int .i64 t224, .int .i64 t225, .int .i64 t226, .int .i64 0, .int .i64 0, .int .i64 0, .int .i64 0]) ?_ 3 _ rfl; (with_reducible repeat (first | refine blk_drewN ?_ _ | refine blk_drew ?_ | refine blk_alloc ?_ _)); refine blk_put (cs := #[.int .i64 t224, .int .i64 t225, .int .i64 0, .int .i64 0, .int .i64 0, .int .i64 0, .int .i64 0]) ?_ 2 _ rfl; (with_reducible repeat (first | refine blk_drewN ?_ _ | refine blk_drew ?_ | refine blk_alloc ?_ _)); refine blk_put (cs := #[.int .i64 t224, .int .i64 0, .int .i64 0, .int .i64 0, .int .i64 0, .int .i64 0, .int .i64 0]) ?_ 1 _ rfl; (with_reducible repeat (first | refine blk_drewN ?_ _ | refine blk_drew ?_ | refine blk_alloc ?_ _)); refine blk_put (cs := #[.int .i64 0, .int .i64 0, .int .i64 0, .int .i64 0, .int .i64 0, .int .i64 0, .int .i64 0]) ?_ 0 _ rfl; (with_reducible repeat (first | refine blk_drewN ?_ _ | refine blk_drew ?_ | refine blk_alloc ?_ _)); exact BK232.out⟩
              have n2_ : Aside0 (Below w.heap.size w (((((((w14.setCell ⟨gb232, 0, none⟩ (.int .i64 t224)).setCell ⟨gb232, 1, none⟩ (.int .i64 t225)).setCell ⟨gb232, 2, none⟩ (.int .i64 t226)).setCell ⟨gb232, 3, none⟩ (.int .i64 t227)).setCell ⟨gb232, 4, none⟩ (.int .i64 t228)).setCell ⟨gb232, 5, none⟩ (.int .i64 t229)).setCell ⟨gb232, 6, none⟩ (.int .i64 t230))) := ⟨by repeat (first | (with_reducible first | exact HB.out | apply below_alloc | apply pw_below_drewN | apply below_drew1 | refine below_set ?_ GE223.out | refine below_set ?_ GE232.out) | exact HB.out)⟩
              (try clear BK223)
              (try clear BK232)
              (try clear HB)
              generalize (((((((w14.setCell ⟨gb232, 0, none⟩ (.int .i64 t224)).setCell ⟨gb232, 1, none⟩ (.int .i64 t225)).setCell ⟨gb232, 2, none⟩ (.int .i64 t226)).setCell ⟨gb232, 3, none⟩ (.int .i64 t227)).setCell ⟨gb232, 4, none⟩ (.int .i64 t228)).setCell ⟨gb232, 5, none⟩ (.int .i64 t229)).setCell ⟨gb232, 6, none⟩ (.int .i64 t230)) = w23 at n0_ n1_ n2_ ⊢
              have BK223 := n0_
              have BK232 := n1_
              have HB := n2_
              clear n0_ n1_ n2_
              have n0_ := Aside0.mk (blk_drew BK223.out)
              have n1_ := Aside0.mk (blk_drew BK232.out)
              have n2_ := Aside0.mk (below_drew1 HB.out)
              clear BK223
              clear BK232
              clear HB
              have BK223 := n0_
              have BK232 := n1_
              have HB := n2_
              clear n0_ n1_ n2_
              refine start_ (n := 12) (S := fun w' => True) (ds := []) #[false, false, false, false, false, false, false, false, false, false, false, false] (by kernel_rfl) rfl rfl trivial (fun hHeld => ?_); refine with_tabW timesynclaw05_CivilNext.tab5 timesynclaw05_CivilNext.bits5 (fun HT_ HW_ => ?_)
              generalize w23.drew = w24 at BK223 BK232 HB hHeld ⊢
              refine pure_ (i := 0) (N := some 26) (v := ?_) (a' := ?_) #[true, false, false, false, false, false, false, false, false, false, false, false] rfl rfl (any_of HT_.out (by kernel_rfl)) (fun _ _ _ h => h) (Or.inl ⟨by rfl, ?_⟩) ?_ ?_
              rotate_left
              · intro w'
                go_simp
                with_reducible rfl
              rotate_left
              · simp only [Act.put, List.setIfInBounds_toArray, List.set_cons_zero, List.set_cons_succ, i64_w, i32_w]
                rfl
              refine pure_ (i := 1) (N := some 27) (v := ?_) (a' := ?_) #[true, true, false, false, false, false, false, false, false, false, false, false] rfl rfl (any_of HT_.out (by kernel_rfl)) (fun _ _ _ h => h) (Or.inl ⟨by rfl, ?_⟩) ?_ ?_
              rotate_left
              · intro w'
                go_simp
                with_reducible rfl
              rotate_left
              · simp only [Act.put, List.setIfInBounds_toArray, List.set_cons_zero, List.set_cons_succ, i64_w, i32_w]
                rfl
              refine pure_ (i := 2) (N := some 28) (v := ?_) (a' := ?_) #[true, true, true, false, false, false, false, false, false, false, false, false] rfl rfl (any_of HT_.out (by kernel_rfl)) (fun _ _ _ h => h) (Or.inl ⟨by rfl, ?_⟩) ?_ ?_
              rotate_left
              · intro w'
                go_simp
                with_reducible rfl
              rotate_left
              · simp only [Act.put, List.setIfInBounds_toArray, List.set_cons_zero, List.set_cons_succ, i64_w, i32_w]
                rfl
              refine pure_ (i := 3) (N := some 29) (v := ?_) (a' := ?_) #[true, true, true, true, false, false, false, false, false, false, false, false] rfl rfl (any_of HT_.out (by kernel_rfl)) (fun _ _ _ h => h) (Or.inl ⟨by rfl, ?_⟩) ?_ ?_
              rotate_left
              · intro w'
                go_simp
                with_reducible rfl
              rotate_left
              · simp only [Act.put, List.setIfInBounds_toArray, List.set_cons_zero, List.set_cons_succ, i64_w, i32_w]
                rfl
              refine pure_ (i := 4) (N := some 30) (v := ?_) (a' := ?_) #[true, true, true, true, true, false, false, false, false, false, false, false] rfl rfl (any_of HT_.out (by kernel_rfl)) (fun _ _ _ h => h) (Or.inl ⟨by rfl, ?_⟩) ?_ ?_
              rotate_left
              · intro w'
                go_simp
                with_reducible rfl
              rotate_left
              · simp only [Act.put, List.setIfInBounds_toArray, List.set_cons_zero, List.set_cons_succ, i64_w, i32_w]
                rfl
              refine pure_ (i := 5) (N := some 31) (v := ?_) (a' := ?_) #[true, true, true, true, true, true, false, false, false, false, false, false] rfl rfl (any_of HT_.out (by kernel_rfl)) (fun _ _ _ h => h) (Or.inl ⟨by rfl, ?_⟩) ?_ ?_
              rotate_left
              · intro w'
                go_simp
                with_reducible rfl
              rotate_left
              · simp only [Act.put, List.setIfInBounds_toArray, List.set_cons_zero, List.set_cons_succ, i64_w, i32_w]
                rfl
              refine pure_ (i := 6) (N := some 32) (v := ?_) (a' := ?_) #[true, true, true, true, true, true, true, false, false, false, false, false] rfl rfl (any_of HT_.out (by kernel_rfl)) (fun _ _ _ h => h) (Or.inl ⟨by rfl, ?_⟩) ?_ ?_
              rotate_left
              · intro w'
                go_simp
                with_reducible rfl
              rotate_left
              · simp only [Act.put, List.setIfInBounds_toArray, List.set_cons_zero, List.set_cons_succ, i64_w, i32_w]
                rfl
              refine pure_ (i := 7) (N := some 33) (v := undef) (a' := ?_) #[true, true, true, true, true, true, true, true, false, false, false, false] rfl rfl (any_of HT_.out (by kernel_rfl)) (fun _ _ _ h => h) (Or.inr ⟨by rfl, rfl⟩) ?_ ?_
              rotate_left
              · simp only [Act.put, List.setIfInBounds_toArray, List.set_cons_zero, List.set_cons_succ, i64_w, i32_w]
                rfl
              refine pure_ (i := 8) (N := some 34) (v := undef) (a' := ?_) #[true, true, true, true, true, true, true, true, true, false, false, false] rfl rfl (any_of HT_.out (by kernel_rfl)) (fun _ _ _ h => h) (Or.inr ⟨by rfl, rfl⟩) ?_ ?_
              rotate_left
              · simp only [Act.put, List.setIfInBounds_toArray, List.set_cons_zero, List.set_cons_succ, i64_w, i32_w]
                rfl
              refine pure_ (i := 9) (N := some 35) (v := undef) (a' := ?_) #[true, true, true, true, true, true, true, true, true, true, false, false] rfl rfl (any_of HT_.out (by kernel_rfl)) (fun _ _ _ h => h) (Or.inr ⟨by rfl, rfl⟩) ?_ ?_
              rotate_left
              · simp only [Act.put, List.setIfInBounds_toArray, List.set_cons_zero, List.set_cons_succ, i64_w, i32_w]
                rfl
              refine pure_ (i := 10) (N := some 36) (v := undef) (a' := ?_) #[true, true, true, true, true, true, true, true, true, true, true, false] rfl rfl (any_of HT_.out (by kernel_rfl)) (fun _ _ _ h => h) (Or.inr ⟨by rfl, rfl⟩) ?_ ?_
              rotate_left
              · simp only [Act.put, List.setIfInBounds_toArray, List.set_cons_zero, List.set_cons_succ, i64_w, i32_w]
                rfl
              refine pure_ (i := 11) (N := some 37) (v := ?_) (a' := ?_) #[true, true, true, true, true, true, true, true, true, true, true, true] rfl rfl (any_of HT_.out (by kernel_rfl)) (fun _ _ _ h => h) (Or.inl ⟨by rfl, ?_⟩) ?_ ?_
              rotate_left
              · intro w'
                go_simp
                with_reducible rfl
              rotate_left
              · simp only [Act.put, List.setIfInBounds_toArray, List.set_cons_zero, List.set_cons_succ, i64_w, i32_w]
                rfl
              refine done_ (done_of HT_.out (by kernel_rfl)) ?_
              try go_wp2
              go_meet
              case rel => exact ⟨_, (true), (by first | rfl | (simp; done) | (simp [*]; done)), H', ⟨by have := HJ1.out; first | omega | exact Nat.le_refl _⟩, ⟨by (with_reducible repeat (first | refine blk_drewN ?_ _ | refine blk_drew ?_ | refine blk_alloc ?_ _)); exact BK223.out⟩, ⟨by (with_reducible repeat (first | refine blk_drewN ?_ _ | refine blk_drew ?_ | refine blk_alloc ?_ _)); exact BK232.out⟩, ⟨by repeat (first | (with_reducible first | exact HB.out | apply below_alloc | apply pw_below_drewN | apply below_drew1 | refine below_set ?_ GE223.out | refine below_set ?_ GE232.out) | exact HB.out)⟩⟩
          · rw [if_neg c17] at H
            have c17b0 : (t222 == 0) = false := beq_eq_false_iff_ne.mpr c17
            have c17b1 : (t222 != 0) = true := bne_iff_ne.mpr c17
            (first | rw [c17b0] | (simp only [i64_w, i32_w]; rw [c17b0]) | skip)
            have H' := Aside0.mk H
            clear H
            try go_wp2
            have n0_ : Aside0 ((((((((w14.setCell ⟨gb232, 0, none⟩ (.int .i64 t224)).setCell ⟨gb232, 1, none⟩ (.int .i64 t225)).setCell ⟨gb232, 2, none⟩ (.int .i64 t226)).setCell ⟨gb232, 3, none⟩ (.int .i64 t227)).setCell ⟨gb232, 4, none⟩ (.int .i64 t228)).setCell ⟨gb232, 5, none⟩ (.int .i64 t229)).setCell ⟨gb232, 6, none⟩ (.int .i64 t230)).heap[gb223]? = some (.cells #[.int .i64 t215, .int .i64 t216, .int .i64 t217, .int .i64 t218, .int .i64 t219, .int .i64 t220, .int .i64 t221] 23 (0, 0))) := ⟨by (with_reducible repeat (first | refine blk_drewN ?_ _ | refine blk_drew ?_ | refine blk_alloc ?_ _)); refine blk_far ?_ NB223_232.out _; (with_reducible repeat (first | refine blk_drewN ?_ _ | refine blk_drew ?_ | refine blk_alloc ?_ _)); refine blk_far ?_ NB223_232.out _; (with_reducible repeat (first | refine blk_drewN ?_ _ | refine blk_drew ?_ | refine blk_alloc ?_ _)); refine blk_far ?_ NB223_232.out _; (with_reducible repeat (first | refine blk_drewN ?_ _ | refine blk_drew ?_ | refine blk_alloc ?_ _)); refine blk_far ?_ NB223_232.out _; (with_reducible repeat (first | refine blk_drewN ?_ _ | refine blk_drew ?_ | refine blk_alloc ?_ _)); refine blk_far ?_ NB223_232.out _; (with_reducible repeat (first | refine blk_drewN ?_ _ | refine blk_drew ?_ | refine blk_alloc ?_ _)); refine blk_far ?_ NB223_232.out _; (with_reducible repeat (first | refine blk_drewN ?_ _ | refine blk_drew ?_ | refine blk_alloc ?_ _)); refine blk_far ?_ NB223_232.out _; (with_reducible repeat (first | refine blk_drewN ?_ _ | refine blk_drew ?_ | refine blk_alloc ?_ _)); exact BK223.out⟩
            have n1_ : Aside0 ((((((((w14.setCell ⟨gb232, 0, none⟩ (.int .i64 t224)).setCell ⟨gb232, 1, none⟩ (.int .i64 t225)).setCell ⟨gb232, 2, none⟩ (.int .i64 t226)).setCell ⟨gb232, 3, none⟩ (.int .i64 t227)).setCell ⟨gb232, 4, none⟩ (.int .i64 t228)).setCell ⟨gb232, 5, none⟩ (.int .i64 t229)).setCell ⟨gb232, 6, none⟩ (.int .i64 t230)).heap[gb232]? = some (.cells #[.int .i64 t224, .int .i64 t225, .int .i64 t226, .int .i64 t227, .int .i64 t228, .int .i64 t229, .int .i64 t230] 23 (0, 0))) := ⟨by (with_reducible repeat (first | refine blk_drewN ?_ _ | refine blk_drew ?_ | refine blk_alloc ?_ _)); refine blk_put (cs := #[.int .i64 t224, .int .i64 t225, .int .i64 t226, .int .i64 t227, .int .i64 t228, .int .i64 t229, .int .i64 0]) ?_ 6 _ rfl; (with_reducible repeat (first | refine blk_drewN ?_ _ | refine blk_drew ?_ | refine blk_alloc ?_ _)); refine blk_put (cs := #[.int .i64 t224, .int .i64 t225, .int .i64 t226, .int .i64 t227, .int .i64 t228, .int .i64 0, .int .i64 0]) ?_ 5 _ rfl; (with_reducible repeat (first | refine blk_drewN ?_ _ | refine blk_drew ?_ | refine blk_alloc ?_ _)); refine blk_put (cs := #[.int .i64 t224, .int .i64 t225, .int .i64 t226, .int .i64 t227, .int .i64 0, .int .i64 0, .int .i64 0]) ?_ 4 _ rfl; (with_reducible repeat (first | refine blk_drewN ?_ _ | refine blk_drew ?_ | refine blk_alloc ?_ _)); refine blk_put (cs := #[.int .i64 t224, .int .i64 t225, .int .i64 t226, .int .i64 0, .int .i64 0, .int .i64 0, .int .i64 0]) ?_ 3 _ rfl; (with_reducible repeat (first | refine blk_drewN ?_ _ | refine blk_drew ?_ | refine blk_alloc ?_ _)); refine blk_put (cs := #[.int .i64 t224, .int .i64 t225, .int .i64 0, .int .i64 0, .int .i64 0, .int .i64 0, .int .i64 0]) ?_ 2 _ rfl; (with_reducible repeat (first | refine blk_drewN ?_ _ | refine blk_drew ?_ | refine blk_alloc ?_ _)); refine blk_put (cs := #[.int .i64 t224, .int .i64 0, .int .i64 0, .int .i64 0, .int .i64 0, .int .i64 0, .int .i64 0]) ?_ 1 _ rfl; (with_reducible repeat (first | refine blk_drewN ?_ _ | refine blk_drew ?_ | refine blk_alloc ?_ _)); refine blk_put (cs := #[.int .i64 0, .int .i64 0, .int .i64 0, .int .i64 0, .int .i64 0, .int .i64 0, .int .i64 0]) ?_ 0 _ rfl; (with_reducible repeat (first | refine blk_drewN ?_ _ | refine blk_drew ?_ | refine blk_alloc ?_ _)); exact BK232.out⟩
            have n2_ : Aside0 (Below w.heap.size w (((((((w14.setCell ⟨gb232, 0, none⟩ (.int .i64 t224)).setCell ⟨gb232, 1, none⟩ (.int .i64 t225)).setCell ⟨gb232, 2, none⟩ (.int .i64 t226)).setCell ⟨gb232, 3, none⟩ (.int .i64 t227)).setCell ⟨gb232, 4, none⟩ (.int .i64 t228)).setCell ⟨gb232, 5, none⟩ (.int .i64 t229)).setCell ⟨gb232, 6, none⟩ (.int .i64 t230))) := ⟨by repeat (first | (with_reducible first | exact HB.out | apply below_alloc | apply pw_below_drewN | apply below_drew1 | refine below_set ?_ GE223.out | refine below_set ?_ GE232.out) | exact HB.out)⟩
            (try clear BK223)
            (try clear BK232)
            (try clear HB)
            generalize (((((((w14.setCell ⟨gb232, 0, none⟩ (.int .i64 t224)).setCell ⟨gb232, 1, none⟩ (.int .i64 t225)).setCell ⟨gb232, 2, none⟩ (.int .i64 t226)).setCell ⟨gb232, 3, none⟩ (.int .i64 t227)).setCell ⟨gb232, 4, none⟩ (.int .i64 t228)).setCell ⟨gb232, 5, none⟩ (.int .i64 t229)).setCell ⟨gb232, 6, none⟩ (.int .i64 t230)) = w25 at n0_ n1_ n2_ ⊢
            have BK223 := n0_
            have BK232 := n1_
            have HB := n2_
            clear n0_ n1_ n2_
            have n0_ := Aside0.mk (blk_drew BK223.out)
            have n1_ := Aside0.mk (blk_drew BK232.out)
            have n2_ := Aside0.mk (below_drew1 HB.out)
            clear BK223
            clear BK232
            clear HB
            have BK223 := n0_
            have BK232 := n1_
            have HB := n2_
            clear n0_ n1_ n2_
            refine start_ (n := 12) (S := fun w' => True) (ds := []) #[false, false, false, false, false, false, false, false, false, false, false, false] (by kernel_rfl) rfl rfl trivial (fun hHeld => ?_); refine with_tabW timesynclaw05_CivilNext.tab5 timesynclaw05_CivilNext.bits5 (fun HT_ HW_ => ?_)
            generalize w25.drew = w26 at BK223 BK232 HB hHeld ⊢
            refine pure_ (i := 0) (N := some 26) (v := ?_) (a' := ?_) #[true, false, false, false, false, false, false, false, false, false, false, false] rfl rfl (any_of HT_.out (by kernel_rfl)) (fun _ _ _ h => h) (Or.inl ⟨by rfl, ?_⟩) ?_ ?_
            rotate_left
            · intro w'
              go_simp
              with_reducible rfl
            rotate_left
            · simp only [Act.put, List.setIfInBounds_toArray, List.set_cons_zero, List.set_cons_succ, i64_w, i32_w]
              rfl
            refine pure_ (i := 1) (N := some 27) (v := ?_) (a' := ?_) #[true, true, false, false, false, false, false, false, false, false, false, false] rfl rfl (any_of HT_.out (by kernel_rfl)) (fun _ _ _ h => h) (Or.inl ⟨by rfl, ?_⟩) ?_ ?_
            rotate_left
            · intro w'
              go_simp
              with_reducible rfl
            rotate_left
            · simp only [Act.put, List.setIfInBounds_toArray, List.set_cons_zero, List.set_cons_succ, i64_w, i32_w]
              rfl
            refine pure_ (i := 2) (N := some 28) (v := ?_) (a' := ?_) #[true, true, true, false, false, false, false, false, false, false, false, false] rfl rfl (any_of HT_.out (by kernel_rfl)) (fun _ _ _ h => h) (Or.inl ⟨by rfl, ?_⟩) ?_ ?_
            rotate_left
            · intro w'
              go_simp
              with_reducible rfl
            rotate_left
            · simp only [Act.put, List.setIfInBounds_toArray, List.set_cons_zero, List.set_cons_succ, i64_w, i32_w]
              rfl
            refine pure_ (i := 3) (N := some 29) (v := undef) (a' := ?_) #[true, true, true, true, false, false, false, false, false, false, false, false] rfl rfl (any_of HT_.out (by kernel_rfl)) (fun _ _ _ h => h) (Or.inr ⟨by rfl, rfl⟩) ?_ ?_
            rotate_left
            · simp only [Act.put, List.setIfInBounds_toArray, List.set_cons_zero, List.set_cons_succ, i64_w, i32_w]
              rfl
            refine pure_ (i := 4) (N := some 30) (v := undef) (a' := ?_) #[true, true, true, true, true, false, false, false, false, false, false, false] rfl rfl (any_of HT_.out (by kernel_rfl)) (fun _ _ _ h => h) (Or.inr ⟨by rfl, rfl⟩) ?_ ?_
            rotate_left
            · simp only [Act.put, List.setIfInBounds_toArray, List.set_cons_zero, List.set_cons_succ, i64_w, i32_w]
              rfl
            refine pure_ (i := 5) (N := some 31) (v := ?_) (a' := ?_) #[true, true, true, true, true, true, false, false, false, false, false, false] rfl rfl (any_of HT_.out (by kernel_rfl)) (fun _ _ _ h => h) (Or.inl ⟨by rfl, ?_⟩) ?_ ?_
            rotate_left
            · intro w'
              go_simp
              with_reducible rfl
            rotate_left
            · simp only [Act.put, List.setIfInBounds_toArray, List.set_cons_zero, List.set_cons_succ, i64_w, i32_w]
              rfl
            refine pure_ (i := 6) (N := some 32) (v := ?_) (a' := ?_) #[true, true, true, true, true, true, true, false, false, false, false, false] rfl rfl (any_of HT_.out (by kernel_rfl)) (fun _ _ _ h => h) (Or.inl ⟨by rfl, ?_⟩) ?_ ?_
            rotate_left
            · intro w'
              go_simp
              with_reducible rfl
            rotate_left
            · simp only [Act.put, List.setIfInBounds_toArray, List.set_cons_zero, List.set_cons_succ, i64_w, i32_w]
              rfl
            refine pure_ (i := 7) (N := some 33) (v := undef) (a' := ?_) #[true, true, true, true, true, true, true, true, false, false, false, false] rfl rfl (any_of HT_.out (by kernel_rfl)) (fun _ _ _ h => h) (Or.inr ⟨by rfl, rfl⟩) ?_ ?_
            rotate_left
            · simp only [Act.put, List.setIfInBounds_toArray, List.set_cons_zero, List.set_cons_succ, i64_w, i32_w]
              rfl
            refine pure_ (i := 8) (N := some 34) (v := undef) (a' := ?_) #[true, true, true, true, true, true, true, true, true, false, false, false] rfl rfl (any_of HT_.out (by kernel_rfl)) (fun _ _ _ h => h) (Or.inr ⟨by rfl, rfl⟩) ?_ ?_
            rotate_left
            · simp only [Act.put, List.setIfInBounds_toArray, List.set_cons_zero, List.set_cons_succ, i64_w, i32_w]
              rfl
            refine pure_ (i := 9) (N := some 35) (v := undef) (a' := ?_) #[true, true, true, true, true, true, true, true, true, true, false, false] rfl rfl (any_of HT_.out (by kernel_rfl)) (fun _ _ _ h => h) (Or.inr ⟨by rfl, rfl⟩) ?_ ?_
            rotate_left
            · simp only [Act.put, List.setIfInBounds_toArray, List.set_cons_zero, List.set_cons_succ, i64_w, i32_w]
              rfl
            refine pure_ (i := 10) (N := some 36) (v := undef) (a' := ?_) #[true, true, true, true, true, true, true, true, true, true, true, false] rfl rfl (any_of HT_.out (by kernel_rfl)) (fun _ _ _ h => h) (Or.inr ⟨by rfl, rfl⟩) ?_ ?_
            rotate_left
            · simp only [Act.put, List.setIfInBounds_toArray, List.set_cons_zero, List.set_cons_succ, i64_w, i32_w]
              rfl
            refine pure_ (i := 11) (N := some 37) (v := ?_) (a' := ?_) #[true, true, true, true, true, true, true, true, true, true, true, true] rfl rfl (any_of HT_.out (by kernel_rfl)) (fun _ _ _ h => h) (Or.inl ⟨by rfl, ?_⟩) ?_ ?_
            rotate_left
            · intro w'
              go_simp
              with_reducible rfl
            rotate_left
            · simp only [Act.put, List.setIfInBounds_toArray, List.set_cons_zero, List.set_cons_succ, i64_w, i32_w]
              rfl
            refine done_ (done_of HT_.out (by kernel_rfl)) ?_
            try go_wp2
            go_meet
            case rel => exact ⟨_, (true), (by first | rfl | (simp; done) | (simp [*]; done)), H', ⟨by have := HJ1.out; first | omega | exact Nat.le_refl _⟩, ⟨by (with_reducible repeat (first | refine blk_drewN ?_ _ | refine blk_drew ?_ | refine blk_alloc ?_ _)); exact BK223.out⟩, ⟨by (with_reducible repeat (first | refine blk_drewN ?_ _ | refine blk_drew ?_ | refine blk_alloc ?_ _)); exact BK232.out⟩, ⟨by repeat (first | (with_reducible first | exact HB.out | apply below_alloc | apply pw_below_drewN | apply below_drew1 | refine below_set ?_ GE223.out | refine below_set ?_ GE232.out) | exact HB.out)⟩⟩
        case rest =>
          clear HC9
          try clear c1
          try clear c2
          try clear p2
          try clear c3
          try clear c3b0
          try clear c4
          try clear p6
          try clear c7
          try clear c11
          try clear c13
          try clear c15
          try clear c17
          try clear c17b0
          try clear c17b1
          try clear c18
          try clear c18b0
          try clear c18b1
          try clear c24
          try clear hcz12_0
          try clear hcz12_1
          try clear hcz12_2
          try clear hcz12_3
          try clear hcz12_4
          try clear hcz12_5
          try clear hcz12_6
          try clear hcz16_0
          try clear hcz16_1
          try clear hcz16_2
          try clear hcz16_3
          try clear hcz16_4
          try clear hcz16_5
          try clear hcz16_6
          try clear hfz12_0
          try clear hfz12_1
          try clear hfz12_2
          try clear hfz12_3
          try clear hfz12_4
          try clear hfz12_5
          try clear hfz12_6
          try clear hfz16_0
          try clear hfz16_1
          try clear hfz16_2
          try clear hfz16_3
          try clear hfz16_4
          try clear hfz16_5
          try clear hfz16_6
          try clear p2
          obtain ⟨kq, x37_8, rfl, HA, HJ8, BK223, BK232, HB⟩ := hcut
          cases kq with
          | zero => exact absurd HA.out (by simp [timesynclaw05_CivilNext.j1])
          | succ kj8 =>
            have H := HA.out
            clear HA
            simp only [timesynclaw05_CivilNext.j1] at H
            by_cases c27 : x37_8 = true
            · subst c27
              have H1 : (some false) = some r := by rw [if_pos rfl] at H; exact H
              clear H
              have H := H1
              clear H1
              obtain rfl := Option.some.inj H
              go_wp2
              go_ret
              exact ⟨by first | rfl | (simp [errW_none, errW_some] <;> rfl) | (simp [*, errW_none, errW_some] <;> rfl), by repeat (first | (with_reducible first | exact HB.out | apply below_alloc | apply pw_below_drewN | apply below_drew1 | refine below_set ?_ GE223.out | refine below_set ?_ GE232.out) | exact HB.out)⟩
            · replace c27 := Bool.eq_false_iff.mpr c27
              subst c27
              have H1 : (if t226 = t217 then (timesynclaw05_CivilNext.j2 kj8 a0 0) else (timesynclaw05_CivilNext.j2 kj8 a0 1)) = some r := by rw [if_neg (show ¬ (false = true) by decide)] at H; exact H
              clear H
              have H := H1
              clear H1
              have HC28 := Aside0.mk H
              clear H
              have hnb29 := NB232_223.out
              have hnc29 := NB223_232.out
              have hcz30_0 : wc.cell? ⟨gb232, 0, none⟩ = some (.int .i64 t224) := (blk_cell BK232.out 0).trans rfl
              have hcz30_1 : wc.cell? ⟨gb232, 1, none⟩ = some (.int .i64 t225) := (blk_cell BK232.out 1).trans rfl
              have hcz30_2 : wc.cell? ⟨gb232, 2, none⟩ = some (.int .i64 t226) := (blk_cell BK232.out 2).trans rfl
              have hcz30_3 : wc.cell? ⟨gb232, 3, none⟩ = some (.int .i64 t227) := (blk_cell BK232.out 3).trans rfl
              have hcz30_4 : wc.cell? ⟨gb232, 4, none⟩ = some (.int .i64 t228) := (blk_cell BK232.out 4).trans rfl
              have hcz30_5 : wc.cell? ⟨gb232, 5, none⟩ = some (.int .i64 t229) := (blk_cell BK232.out 5).trans rfl
              have hcz30_6 : wc.cell? ⟨gb232, 6, none⟩ = some (.int .i64 t230) := (blk_cell BK232.out 6).trans rfl
              have hfz30_0 := blk_frozen BK232.out 0
              have hfz30_1 := blk_frozen BK232.out 1
              have hfz30_2 := blk_frozen BK232.out 2
              have hfz30_3 := blk_frozen BK232.out 3
              have hfz30_4 := blk_frozen BK232.out 4
              have hfz30_5 := blk_frozen BK232.out 5
              have hfz30_6 := blk_frozen BK232.out 6
              have hcz31_0 : wc.cell? ⟨gb223, 0, none⟩ = some (.int .i64 t215) := (blk_cell BK223.out 0).trans rfl
              have hcz31_1 : wc.cell? ⟨gb223, 1, none⟩ = some (.int .i64 t216) := (blk_cell BK223.out 1).trans rfl
              have hcz31_2 : wc.cell? ⟨gb223, 2, none⟩ = some (.int .i64 t217) := (blk_cell BK223.out 2).trans rfl
              have hcz31_3 : wc.cell? ⟨gb223, 3, none⟩ = some (.int .i64 t218) := (blk_cell BK223.out 3).trans rfl
              have hcz31_4 : wc.cell? ⟨gb223, 4, none⟩ = some (.int .i64 t219) := (blk_cell BK223.out 4).trans rfl
              have hcz31_5 : wc.cell? ⟨gb223, 5, none⟩ = some (.int .i64 t220) := (blk_cell BK223.out 5).trans rfl
              have hcz31_6 : wc.cell? ⟨gb223, 6, none⟩ = some (.int .i64 t221) := (blk_cell BK223.out 6).trans rfl
              have hfz31_0 := blk_frozen BK223.out 0
              have hfz31_1 := blk_frozen BK223.out 1
              have hfz31_2 := blk_frozen BK223.out 2
              have hfz31_3 := blk_frozen BK223.out 3
              have hfz31_4 := blk_frozen BK223.out 4
              have hfz31_5 := blk_frozen BK223.out 5
              have hfz31_6 := blk_frozen BK223.out 6
              go_upto_if 42 with (fail)
              go_cut [7] (fun v7 wc => ∃ (kq : Nat) (x7_27 : Int), v7 = .int .i64 x7_27 ∧ Aside0 (timesynclaw05_CivilNext.j2 kq a0 x7_27 = some r) ∧ Aside0 (kq ≤ kj8) ∧ Aside0 (wc.heap[gb223]? = some (.cells #[.int .i64 t215, .int .i64 t216, .int .i64 t217, .int .i64 t218, .int .i64 t219, .int .i64 t220, .int .i64 t221] 23 (0, 0))) ∧ Aside0 (wc.heap[gb232]? = some (.cells #[.int .i64 t224, .int .i64 t225, .int .i64 t226, .int .i64 t227, .int .i64 t228, .int .i64 t229, .int .i64 t230] 23 (0, 0))) ∧ Aside0 (Below w.heap.size w wc))
              case first =>
                have H := HC28.out
                clear HC28
                by_cases c32 : t226 = t217
                · rw [if_pos c32] at H
                  have c32b0 : (t226 == t217) = true := beq_iff_eq.mpr c32
                  have c32b1 : (t226 != t217) = false := bne_eq_false_iff_eq.mpr c32
                  clear c32
                  (first | rw [c32b0] | (simp only [i64_w, i32_w]; rw [c32b0]) | skip)
                  have H' := Aside0.mk H
                  clear H
                  go_wp2
                  go_meet
                  case rel => exact ⟨_, (0), (by first | rfl | (simp; done) | (simp [*]; done)), H', ⟨by have := HJ1.out; have := HJ8.out; first | omega | exact Nat.le_refl _⟩, ⟨by (with_reducible repeat (first | refine blk_drewN ?_ _ | refine blk_drew ?_ | refine blk_alloc ?_ _)); exact BK223.out⟩, ⟨by (with_reducible repeat (first | refine blk_drewN ?_ _ | refine blk_drew ?_ | refine blk_alloc ?_ _)); exact BK232.out⟩, ⟨by repeat (first | (with_reducible first | exact HB.out | apply below_alloc | apply pw_below_drewN | apply below_drew1 | refine below_set ?_ GE223.out | refine below_set ?_ GE232.out) | exact HB.out)⟩⟩
                · rw [if_neg c32] at H
                  have c32b0 : (t226 == t217) = false := beq_eq_false_iff_ne.mpr c32
                  have c32b1 : (t226 != t217) = true := bne_iff_ne.mpr c32
                  (first | rw [c32b0] | (simp only [i64_w, i32_w]; rw [c32b0]) | skip)
                  have H' := Aside0.mk H
                  clear H
                  go_wp2
                  go_meet
                  case rel => exact ⟨_, (1), (by first | rfl | (simp; done) | (simp [*]; done)), H', ⟨by have := HJ1.out; have := HJ8.out; first | omega | exact Nat.le_refl _⟩, ⟨by (with_reducible repeat (first | refine blk_drewN ?_ _ | refine blk_drew ?_ | refine blk_alloc ?_ _)); exact BK223.out⟩, ⟨by (with_reducible repeat (first | refine blk_drewN ?_ _ | refine blk_drew ?_ | refine blk_alloc ?_ _)); exact BK232.out⟩, ⟨by repeat (first | (with_reducible first | exact HB.out | apply below_alloc | apply pw_below_drewN | apply below_drew1 | refine below_set ?_ GE223.out | refine below_set ?_ GE232.out) | exact HB.out)⟩⟩
              case rest =>
                clear HC28
                try clear c1
                try clear c2
                try clear p2
                try clear c3
                try clear c3b0
                try clear c4
                try clear p6
                try clear c7
                try clear c11
                try clear c13
                try clear c15
                try clear c17
                try clear c17b0
                try clear c17b1
                try clear c18
                try clear c18b0
                try clear c18b1
                try clear c24
                try clear c27
                try clear c29
                try clear c32
                try clear c32b0
                try clear c32b1
                try clear hcz12_0
                try clear hcz12_1
                try clear hcz12_2
                try clear hcz12_3
                try clear hcz12_4
                try clear hcz12_5
                try clear hcz12_6
                try clear hcz16_0
                try clear hcz16_1
                try clear hcz16_2
                try clear hcz16_3
                try clear hcz16_4
                try clear hcz16_5
                try clear hcz16_6
                try clear hcz30_0
                try clear hcz30_1
                try clear hcz30_2
                try clear hcz30_3
                try clear hcz30_4
                try clear hcz30_5
                try clear hcz30_6
                try clear hcz31_0
                try clear hcz31_1
                try clear hcz31_2
                try clear hcz31_3
                try clear hcz31_4
                try clear hcz31_5
                try clear hcz31_6
                try clear hfz12_0
                try clear hfz12_1
                try clear hfz12_2
                try clear hfz12_3
                try clear hfz12_4
                try clear hfz12_5
                try clear hfz12_6
                try clear hfz16_0
                try clear hfz16_1
                try clear hfz16_2
                try clear hfz16_3
                try clear hfz16_4
                try clear hfz16_5
                try clear hfz16_6
                try clear hfz30_0
                try clear hfz30_1
                try clear hfz30_2
                try clear hfz30_3
                try clear hfz30_4
                try clear hfz30_5
                try clear hfz30_6
                try clear hfz31_0
                try clear hfz31_1
                try clear hfz31_2
                try clear hfz31_3
                try clear hfz31_4
                try clear hfz31_5
                try clear hfz31_6
                try clear p2
                try clear p6
                obtain ⟨kq, x7_27, rfl, HA, HJ27, BK223, BK232, HB⟩ := hcut
                cases kq with
                | zero => exact absurd HA.out (by simp [timesynclaw05_CivilNext.j2])
                | succ kj27 =>
                  have H := HA.out
                  clear HA
                  simp only [timesynclaw05_CivilNext.j2] at H
                  replace H := Option.bind_eq_some_iff.mp H
                  obtain ⟨t240, A330, H⟩ := H
                  replace H : ((civil_MJD.f a0).bind fun t241 => (if (wrap64 (t240 - t241)) = x7_27 then ((civil_Weekday.f (wrap64 (a0 + 1))).bind fun t242 => ((civil_Weekday.f a0).bind fun t243 => (if t242 = (Int.tmod (wrap64 (t243 + x7_27)) 7) then ((civil_Weekday.f a0).bind fun t244 => (if t244 ≥ 0 then ((timesynclaw05_awake.f).bind fun t245 => (some t245)) else (some false))) else (some false)))) else (some false))) = some r := H
                  have A33 := Aside0.mk A330
                  clear A330
                  replace H := Option.bind_eq_some_iff.mp H
                  obtain ⟨t241, A340, H⟩ := H
                  replace H : (if (wrap64 (t240 - t241)) = x7_27 then ((civil_Weekday.f (wrap64 (a0 + 1))).bind fun t242 => ((civil_Weekday.f a0).bind fun t243 => (if t242 = (Int.tmod (wrap64 (t243 + x7_27)) 7) then ((civil_Weekday.f a0).bind fun t244 => (if t244 ≥ 0 then ((timesynclaw05_awake.f).bind fun t245 => (some t245)) else (some false))) else (some false)))) else (some false)) = some r := H
                  have A34 := Aside0.mk A340
                  clear A340
                  by_cases c35 : (wrap64 (t240 - t241)) = x7_27
                  · rw [if_pos c35] at H
                    have c35b0 : ((wrap64 (t240 - t241)) == x7_27) = true := beq_iff_eq.mpr c35
                    have c35b1 : ((wrap64 (t240 - t241)) != x7_27) = false := bne_eq_false_iff_eq.mpr c35
                    clear c35
                    replace H := Option.bind_eq_some_iff.mp H
                    obtain ⟨t242, A360, H⟩ := H
                    replace H : ((civil_Weekday.f a0).bind fun t243 => (if t242 = (Int.tmod (wrap64 (t243 + x7_27)) 7) then ((civil_Weekday.f a0).bind fun t244 => (if t244 ≥ 0 then ((timesynclaw05_awake.f).bind fun t245 => (some t245)) else (some false))) else (some false))) = some r := H
                    have A36 := Aside0.mk A360
                    clear A360
                    replace H := Option.bind_eq_some_iff.mp H
                    obtain ⟨t243, A370, H⟩ := H
                    replace H : (if t242 = (Int.tmod (wrap64 (t243 + x7_27)) 7) then ((civil_Weekday.f a0).bind fun t244 => (if t244 ≥ 0 then ((timesynclaw05_awake.f).bind fun t245 => (some t245)) else (some false))) else (some false)) = some r := H
                    have A37 := Aside0.mk A370
                    clear A370
                    by_cases c38 : t242 = (Int.tmod (wrap64 (t243 + x7_27)) 7)
                    · rw [if_pos c38] at H
                      have c38b0 : (t242 == (Int.tmod (wrap64 (t243 + x7_27)) 7)) = true := beq_iff_eq.mpr c38
                      have c38b1 : (t242 != (Int.tmod (wrap64 (t243 + x7_27)) 7)) = false := bne_eq_false_iff_eq.mpr c38
                      clear c38
                      replace H := Option.bind_eq_some_iff.mp H
                      obtain ⟨t244, A390, H⟩ := H; obtain rfl := Option.some.inj (A390.symm.trans A37.out)
                      replace H : (if t244 ≥ 0 then ((timesynclaw05_awake.f).bind fun t245 => (some t245)) else (some false)) = some r := H
                      have A39 := Aside0.mk A390
                      clear A390
                      by_cases c40 : t244 ≥ 0
                      · rw [if_pos c40] at H
                        have c40b0 : decide (0 ≤ t244) = true := decide_eq_true c40
                        clear c40
                        replace H := Option.bind_eq_some_iff.mp H
                        obtain ⟨t245, A410, H⟩ := H
                        replace H : (some t245) = some r := H
                        have A41 := Aside0.mk A410
                        clear A410
                        obtain rfl := Option.some.inj H
                        go_wp2_with (first | ((with_reducible refine gate_callee (f := 20) rfl ?_); refine goesL_ (some 45) rfl rfl Try.func20 (by kernel_rfl) rfl #[.int .i64 (wrap64 (a0 + 1))] rfl (by (try simp only [List.map_toArray, List.map_cons, List.map_nil]); first | done | rfl | (simp only [List.length_drop, List.length_take]; rfl)) ?_; (with_reducible refine (civil_MJD.calls (wrap64 (a0 + 1)) t240 _ A33.out).mono ?_); rintro e w' ⟨rfl, ⟨nd, rfl⟩⟩; refine ⟨_, rfl, ?_⟩) | ((with_reducible refine gate_callee (f := 20) rfl ?_); refine goesL_ (some 47) rfl rfl Try.func20 (by kernel_rfl) rfl #[.int .i64 a0] rfl (by (try simp only [List.map_toArray, List.map_cons, List.map_nil]); first | done | rfl | (simp only [List.length_drop, List.length_take]; rfl)) ?_; (with_reducible refine (civil_MJD.calls a0 t241 _ A34.out).mono ?_); rintro e w' ⟨rfl, ⟨nd, rfl⟩⟩; refine ⟨_, rfl, ?_⟩) | (go_at_call 18; (with_reducible refine (civil_Weekday.calls (wrap64 (a0 + 1)) t242 _ A36.out).mono ?_); rintro e w' ⟨rfl, ⟨nd, rfl⟩⟩) | (go_at_call 18; (with_reducible refine (civil_Weekday.calls a0 t243 _ A37.out).mono ?_); rintro e w' ⟨rfl, ⟨nd, rfl⟩⟩) | (go_at_call 18; (with_reducible refine (civil_Weekday.calls a0 t244 _ A39.out).mono ?_); rintro e w' ⟨rfl, ⟨nd, rfl⟩⟩) | (go_at_call 13; (with_reducible refine (timesynclaw05_awake.calls  t245 _ A41.out).mono ?_); rintro e w42 ⟨rfl, hb⟩; have n0_ := Aside0.mk (blk_below (g := gb223) (o := .cells #[.int .i64 t215, .int .i64 t216, .int .i64 t217, .int .i64 t218, .int .i64 t219, .int .i64 t220, .int .i64 t221] 23 (0, 0)) (by (with_reducible repeat (first | refine blk_drewN ?_ _ | refine blk_drew ?_ | refine blk_alloc ?_ _)); exact BK223.out) hb); have n1_ := Aside0.mk (blk_below (g := gb232) (o := .cells #[.int .i64 t224, .int .i64 t225, .int .i64 t226, .int .i64 t227, .int .i64 t228, .int .i64 t229, .int .i64 t230] 23 (0, 0)) (by (with_reducible repeat (first | refine blk_drewN ?_ _ | refine blk_drew ?_ | refine blk_alloc ?_ _)); exact BK232.out) hb); have n2_ := Aside0.mk (below_step (by repeat (first | (with_reducible first | exact HB.out | apply below_alloc | apply pw_below_drewN | apply below_drew1 | refine below_set ?_ GE223.out | refine below_set ?_ GE232.out) | exact HB.out)) hb); clear BK223; clear BK232; clear HB; have BK223 := n0_; have BK232 := n1_; have HB := n2_; clear n0_ n1_ n2_; (try clear hb); (try clear hb2); (try clear hk); (try clear hi)))
                        go_ret
                        exact ⟨by first | rfl | (simp [errW_none, errW_some] <;> rfl) | (simp [*, errW_none, errW_some] <;> rfl), by repeat (first | (with_reducible first | exact HB.out | apply below_alloc | apply pw_below_drewN | apply below_drew1 | refine below_set ?_ GE223.out | refine below_set ?_ GE232.out) | exact HB.out)⟩
                      · rw [if_neg c40] at H
                        have c40b0 : decide (0 ≤ t244) = false := decide_eq_false c40
                        clear c40
                        obtain rfl := Option.some.inj H
                        go_wp2_with (first | ((with_reducible refine gate_callee (f := 20) rfl ?_); refine goesL_ (some 45) rfl rfl Try.func20 (by kernel_rfl) rfl #[.int .i64 (wrap64 (a0 + 1))] rfl (by (try simp only [List.map_toArray, List.map_cons, List.map_nil]); first | done | rfl | (simp only [List.length_drop, List.length_take]; rfl)) ?_; (with_reducible refine (civil_MJD.calls (wrap64 (a0 + 1)) t240 _ A33.out).mono ?_); rintro e w' ⟨rfl, ⟨nd, rfl⟩⟩; refine ⟨_, rfl, ?_⟩) | ((with_reducible refine gate_callee (f := 20) rfl ?_); refine goesL_ (some 47) rfl rfl Try.func20 (by kernel_rfl) rfl #[.int .i64 a0] rfl (by (try simp only [List.map_toArray, List.map_cons, List.map_nil]); first | done | rfl | (simp only [List.length_drop, List.length_take]; rfl)) ?_; (with_reducible refine (civil_MJD.calls a0 t241 _ A34.out).mono ?_); rintro e w' ⟨rfl, ⟨nd, rfl⟩⟩; refine ⟨_, rfl, ?_⟩) | (go_at_call 18; (with_reducible refine (civil_Weekday.calls (wrap64 (a0 + 1)) t242 _ A36.out).mono ?_); rintro e w' ⟨rfl, ⟨nd, rfl⟩⟩) | (go_at_call 18; (with_reducible refine (civil_Weekday.calls a0 t243 _ A37.out).mono ?_); rintro e w' ⟨rfl, ⟨nd, rfl⟩⟩) | (go_at_call 18; (with_reducible refine (civil_Weekday.calls a0 t244 _ A39.out).mono ?_); rintro e w' ⟨rfl, ⟨nd, rfl⟩⟩))
                        go_ret
                        exact ⟨by first | rfl | (simp [errW_none, errW_some] <;> rfl) | (simp [*, errW_none, errW_some] <;> rfl), by repeat (first | (with_reducible first | exact HB.out | apply below_alloc | apply pw_below_drewN | apply below_drew1 | refine below_set ?_ GE223.out | refine below_set ?_ GE232.out) | exact HB.out)⟩
                    · rw [if_neg c38] at H
                      have c38b0 : (t242 == (Int.tmod (wrap64 (t243 + x7_27)) 7)) = false := beq_eq_false_iff_ne.mpr c38
                      have c38b1 : (t242 != (Int.tmod (wrap64 (t243 + x7_27)) 7)) = true := bne_iff_ne.mpr c38
                      obtain rfl := Option.some.inj H
                      go_wp2_with (first | ((with_reducible refine gate_callee (f := 20) rfl ?_); refine goesL_ (some 45) rfl rfl Try.func20 (by kernel_rfl) rfl #[.int .i64 (wrap64 (a0 + 1))] rfl (by (try simp only [List.map_toArray, List.map_cons, List.map_nil]); first | done | rfl | (simp only [List.length_drop, List.length_take]; rfl)) ?_; (with_reducible refine (civil_MJD.calls (wrap64 (a0 + 1)) t240 _ A33.out).mono ?_); rintro e w' ⟨rfl, ⟨nd, rfl⟩⟩; refine ⟨_, rfl, ?_⟩) | ((with_reducible refine gate_callee (f := 20) rfl ?_); refine goesL_ (some 47) rfl rfl Try.func20 (by kernel_rfl) rfl #[.int .i64 a0] rfl (by (try simp only [List.map_toArray, List.map_cons, List.map_nil]); first | done | rfl | (simp only [List.length_drop, List.length_take]; rfl)) ?_; (with_reducible refine (civil_MJD.calls a0 t241 _ A34.out).mono ?_); rintro e w' ⟨rfl, ⟨nd, rfl⟩⟩; refine ⟨_, rfl, ?_⟩) | (go_at_call 18; (with_reducible refine (civil_Weekday.calls (wrap64 (a0 + 1)) t242 _ A36.out).mono ?_); rintro e w' ⟨rfl, ⟨nd, rfl⟩⟩) | (go_at_call 18; (with_reducible refine (civil_Weekday.calls a0 t243 _ A37.out).mono ?_); rintro e w' ⟨rfl, ⟨nd, rfl⟩⟩))
                      go_ret
                      exact ⟨by first | rfl | (simp [errW_none, errW_some] <;> rfl) | (simp [*, errW_none, errW_some] <;> rfl), by repeat (first | (with_reducible first | exact HB.out | apply below_alloc | apply pw_below_drewN | apply below_drew1 | refine below_set ?_ GE223.out | refine below_set ?_ GE232.out) | exact HB.out)⟩
                  · rw [if_neg c35] at H
                    have c35b0 : ((wrap64 (t240 - t241)) == x7_27) = false := beq_eq_false_iff_ne.mpr c35
                    have c35b1 : ((wrap64 (t240 - t241)) != x7_27) = true := bne_iff_ne.mpr c35
                    obtain rfl := Option.some.inj H
                    go_wp2_with (first | ((with_reducible refine gate_callee (f := 20) rfl ?_); refine goesL_ (some 45) rfl rfl Try.func20 (by kernel_rfl) rfl #[.int .i64 (wrap64 (a0 + 1))] rfl (by (try simp only [List.map_toArray, List.map_cons, List.map_nil]); first | done | rfl | (simp only [List.length_drop, List.length_take]; rfl)) ?_; (with_reducible refine (civil_MJD.calls (wrap64 (a0 + 1)) t240 _ A33.out).mono ?_); rintro e w' ⟨rfl, ⟨nd, rfl⟩⟩; refine ⟨_, rfl, ?_⟩) | ((with_reducible refine gate_callee (f := 20) rfl ?_); refine goesL_ (some 47) rfl rfl Try.func20 (by kernel_rfl) rfl #[.int .i64 a0] rfl (by (try simp only [List.map_toArray, List.map_cons, List.map_nil]); first | done | rfl | (simp only [List.length_drop, List.length_take]; rfl)) ?_; (with_reducible refine (civil_MJD.calls a0 t241 _ A34.out).mono ?_); rintro e w' ⟨rfl, ⟨nd, rfl⟩⟩; refine ⟨_, rfl, ?_⟩))
                    go_ret
                    exact ⟨by first | rfl | (simp [errW_none, errW_some] <;> rfl) | (simp [*, errW_none, errW_some] <;> rfl), by repeat (first | (with_reducible first | exact HB.out | apply below_alloc | apply pw_below_drewN | apply below_drew1 | refine below_set ?_ GE223.out | refine below_set ?_ GE232.out) | exact HB.out)⟩

/-- THE ONE PURE STATEMENT of timesynclaw05_CivilNext: yours. -/
def timesynclaw05_CivilNext.Pure : Prop := ∀ (a0 : Int), (Lit.int .i64 a0).wf = true → ∃ k, timesynclaw05_CivilNext.f k a0 = some true
theorem timesynclaw05_CivilNext.walk (P : timesynclaw05_CivilNext.Pure) (a0 : Int) (w : World) (w0 : (Lit.int .i64 a0).wf = true) :
    Calls Try.prog 7 #[.int .i64 a0] w fun e w' => e = .returned (.bool true) ∧ Below w.heap.size w w' := by
  obtain ⟨k, h⟩ := P a0 w0
  refine (timesynclaw05_CivilNext.calls k a0 true w h).mono ?_
  rintro e w' ⟨rfl, hd⟩
  exact ⟨rfl, hd⟩

/-! ### timesynclaw05_CivilCycle: function 8 (typed by hand) -/
attribute [local go_sem high] eqA23
def timesynclaw05_CivilCycle.sm (y : Int) : Nat → Int
  | 0 => 0
  | k + 1 => timesynclaw05_CivilCycle.sm y k + civil_MonthDays.v y k
theorem timesynclaw05_CivilCycle.vbd (y m : Int) : 0 ≤ civil_MonthDays.v y m ∧ civil_MonthDays.v y m ≤ 31 := by
  unfold civil_MonthDays.v
  repeat' split
  all_goals omega
theorem timesynclaw05_CivilCycle.bd (y : Int) : ∀ k : Nat, 0 ≤ timesynclaw05_CivilCycle.sm y k ∧ timesynclaw05_CivilCycle.sm y k ≤ 31 * k
  | 0 => by simp [timesynclaw05_CivilCycle.sm]
  | k + 1 => by
    have h := timesynclaw05_CivilCycle.bd y k
    have e : timesynclaw05_CivilCycle.sm y (k + 1) = timesynclaw05_CivilCycle.sm y k + civil_MonthDays.v y k := rfl
    have b := timesynclaw05_CivilCycle.vbd y k
    rw [e]
    omega
theorem timesynclaw05_CivilCycle.tm (y n : Int) (hn : n ∣ 400) : Int.tmod (y + 400) n = 0 ↔ Int.tmod y n = 0 := by
  refine ⟨fun h => Int.tmod_eq_zero_of_dvd ?_, fun h => Int.tmod_eq_zero_of_dvd ?_⟩
  · have h1 := Int.dvd_sub (Int.dvd_of_tmod_eq_zero h) hn
    rwa [Int.add_sub_cancel] at h1
  · exact Int.dvd_add (Int.dvd_of_tmod_eq_zero h) hn
theorem timesynclaw05_CivilCycle.lp (y : Int) : civil_MonthDays.lp (y + 400) = civil_MonthDays.lp y := by
  have h4 := timesynclaw05_CivilCycle.tm y 4 (by decide)
  have h1 := timesynclaw05_CivilCycle.tm y 100 (by decide)
  have h2 := timesynclaw05_CivilCycle.tm y 400 (by decide)
  unfold civil_MonthDays.lp
  rw [show (Int.tmod (y + 400) 4 == 0) = (Int.tmod y 4 == 0) from by rw [Bool.eq_iff_iff]; simpa using h4,
    show (Int.tmod (y + 400) 100 == 0) = (Int.tmod y 100 == 0) from by rw [Bool.eq_iff_iff]; simpa using h1,
    show (Int.tmod (y + 400) 400 == 0) = (Int.tmod y 400 == 0) from by rw [Bool.eq_iff_iff]; simpa using h2]
theorem timesynclaw05_CivilCycle.v400 (y m : Int) : civil_MonthDays.v (y + 400) m = civil_MonthDays.v y m := by
  unfold civil_MonthDays.v
  rw [timesynclaw05_CivilCycle.lp]
theorem timesynclaw05_CivilCycle.total (y : Int) : timesynclaw05_CivilCycle.sm y 14 = if civil_MonthDays.lp y = true then 366 else 365 := by
  by_cases h : civil_MonthDays.lp y = true <;> simp [timesynclaw05_CivilCycle.sm, civil_MonthDays.v, h]
theorem timesynclaw05_CivilCycle.cyc (n : Int) : Civ.oy (n + 146097) = Civ.oy n + 400 ∧ Civ.om (n + 146097) = Civ.om n ∧ Civ.od (n + 146097) = Civ.od n := by
  have e1 : Civ.cd (n + 146097) = Civ.cd n := by unfold Civ.cd; omega
  have e2 : Civ.cC (n + 146097) = Civ.cC n + 1 := by unfold Civ.cC; omega
  have e3 : Civ.cY (n + 146097) = Civ.cY n := by unfold Civ.cY; rw [e1]
  have e4 : Civ.ce (n + 146097) = Civ.ce n := by unfold Civ.ce; rw [e1, e3]
  have e5 : Civ.cM (n + 146097) = Civ.cM n := by unfold Civ.cM; rw [e4]
  refine ⟨?_, by unfold Civ.om; rw [e5], by unfold Civ.od; rw [e4, e5]⟩
  unfold Civ.oy
  rw [e5, e2, e3]
  by_cases h : 12 < Civ.cM n + 3
  · rw [if_pos h, if_pos h]
    omega
  · rw [if_neg h, if_neg h]
    omega
theorem timesynclaw05_CivilCycle.week (t : Int) (h : -1000000 ≤ t ∧ t ≤ 1000000) : (if (Int.tmod t 7) < 0 then (some (wrap64 ((Int.tmod t 7) + 7))) else (some (Int.tmod t 7))) = some (t % 7) := by
  have e := Int.mul_tdiv_add_tmod t 7
  by_cases h0 : 0 ≤ t
  · rw [Int.tmod_eq_emod_of_nonneg h0, if_neg (by omega)]
  · have e3 : Int.tmod t 7 = -((-t) % 7) := by
      have e4 := Int.neg_tmod t 7
      rw [Int.tmod_eq_emod_of_nonneg (show 0 ≤ -t by omega)] at e4
      omega
    rw [e3]
    by_cases h1 : -(-t % 7) < 0
    · rw [if_pos h1]
      congr 1
      unfold wrap64
      omega
    · rw [if_neg h1]
      congr 1
      omega
/-- What the second and the one a cycle later have in common. -/
theorem timesynclaw05_CivilCycle.facts (S : Int) (h0 : -8000000000 ≤ S) (h1 : S ≤ -4622780800) : ∃ Y M D H I Z W J : Int, civil_Of.f S = some (Y, M, D, H, I, Z, 0, 0) ∧ civil_Of.f (S + 12622780800) = some (Y + 400, M, D, H, I, Z, 0, 0) ∧
    civil_Weekday.f S = some W ∧ civil_Weekday.f (S + 12622780800) = some W ∧ civil_MJD.f S = some J ∧ civil_MJD.f (S + 12622780800) = some (J + 146097) ∧ (0 ≤ Y ∧ Y ≤ 5000) ∧ (-200000 ≤ J ∧ J ≤ 200000) := by
  have e1 : (S + 12622780800) / 86400 = S / 86400 + 146097 := by omega
  have e2 : (S + 12622780800) % 86400 = S % 86400 := by omega
  obtain ⟨c1, c2, c3⟩ := timesynclaw05_CivilCycle.cyc (S / 86400)
  have hy := Civ.year_of (S / 86400)
  have y0 := hy.y0
  have y1 := hy.y1
  have d1 := civil_Of.day S ⟨h0, by omega⟩
  have d2 := civil_Of.day (S + 12622780800) ⟨by omega, by omega⟩
  refine ⟨Civ.oy (S / 86400), Civ.om (S / 86400), Civ.od (S / 86400), S % 86400 / 3600, S % 86400 / 60 % 60, S % 86400 % 60, S / 86400 % 7, S / 86400 + 15020, ?_, ?_, ?_, ?_, ?_, ?_, ?_, by omega⟩
  · unfold civil_Of.f civil_Of.res
    rw [if_neg (by omega)]
  · unfold civil_Of.f civil_Of.res
    rw [if_neg (by omega), e1, e2, c1, c2, c3]
  · unfold civil_Weekday.f
    rw [d1, Option.bind_some]
    exact timesynclaw05_CivilCycle.week _ (by omega)
  · unfold civil_Weekday.f
    rw [d2, Option.bind_some, e1]
    have e := timesynclaw05_CivilCycle.week (S / 86400 + 146097) (by omega)
    rw [show (S / 86400 + 146097) % 7 = S / 86400 % 7 from by omega] at e
    exact e
  · unfold civil_MJD.f wrap64
    rw [d1, Option.bind_some]
    congr 1
    omega
  · unfold civil_MJD.f wrap64
    rw [d2, Option.bind_some, e1]
    congr 1
    omega
  · have hc : 3 ≤ Civ.cC (S / 86400) ∧ Civ.cC (S / 86400) ≤ 6 := by unfold Civ.cC; omega
    unfold Civ.oy
    split <;> omega
def timesynclaw05_CivilCycle.f (a0 : Int) (a1 : Int) : Option (Bool) := some true
set_option maxHeartbeats 3200000 in
set_option maxRecDepth 100000 in
theorem timesynclaw05_CivilCycle.calls (a0 : Int) (a1 : Int) (r : Bool) (w : World) (h : timesynclaw05_CivilCycle.f a0 a1 = some r) :
    Calls Try.prog 8 #[.int .i64 a0, .int .i64 a1] w fun e w' => e = .returned (.bool r) ∧ Below w.heap.size w w' := by
  obtain rfl := Option.some.inj h
  clear h
  have hu := Try.underlying23
  have hY0 : -1099511627776 < a1.tmod 1099511627776 := by
    have e3 := Int.neg_tmod a1 1099511627776
    have e5 := Int.tmod_lt_of_pos (-a1) (show (0 : Int) < 1099511627776 by omega)
    omega
  have hY1 : a1.tmod 1099511627776 < 1099511627776 := Int.tmod_lt_of_pos a1 (by omega)
  go_enter Try.func8, Try.ntmps8
  go_wp2
  generalize a1.tmod 1099511627776 = y at *
  go_loopw [5, 15] (fun x q W => ∃ k : Nat, k ≤ 14 ∧ q = .int .i64 k ∧ x = .int .i64 (timesynclaw05_CivilCycle.sm y k) ∧ Aside0 (Below w.heap.size w W)) (fun _ q _ => 14 - (intOf q).toNat)
  case atStart => exact ⟨0, by omega, rfl, rfl, ⟨Below.refl _ _⟩⟩
  case round =>
    obtain ⟨k, hk, rfl, rfl, HB⟩ := hrel
    by_cases hk2 : k < 14
    · have hk3 : (k : Int) < 14 := by omega
      obtain ⟨s0, s1⟩ := timesynclaw05_CivilCycle.bd y k
      obtain ⟨v0, v1⟩ := timesynclaw05_CivilCycle.vbd y k
      have E1 := Aside0.mk (show civil_MonthDays.f y k = some (civil_MonthDays.v y k) from rfl)
      have E2 := Aside0.mk (show civil_MonthDays.f (y + 400) k = some (civil_MonthDays.v y k) from by unfold civil_MonthDays.f; rw [timesynclaw05_CivilCycle.v400])
      have E3 := Aside0.mk (show timesynclaw05_CivilCycle.sm y (k + 1) = timesynclaw05_CivilCycle.sm y k + civil_MonthDays.v y k from rfl)
      have E4 : k = 0 ∨ k = 13 → civil_MonthDays.v y k = 0 := by
        rintro (rfl | rfl)
        · simp [civil_MonthDays.v]
        · simp [civil_MonthDays.v]
      generalize timesynclaw05_CivilCycle.sm y k = x at *
      generalize civil_MonthDays.v y k = V at *
      have E5 : ((k : Int) == 0) = false ∧ ((k : Int) == 13) = false ∨ V = 0 := by
        by_cases h0 : k = 0 ∨ k = 13
        · exact .inr (E4 h0)
        · exact .inl ⟨by rw [beq_eq_false_iff_ne]; omega, by rw [beq_eq_false_iff_ne]; omega⟩
      clear E4
      go_wp2_with fail
      refine (civil_MonthDays.calls y k V _ E1.out).mono ?_
      rintro e w1 ⟨rfl, hb1⟩
      have HB1 := Aside0.mk (below_step HB.out hb1)
      clear hb1
      go_wp2_with fail
      refine (civil_MonthDays.calls (y + 400) k V _ E2.out).mono ?_
      rintro e w2 ⟨rfl, hb2⟩
      have HB2 := Aside0.mk (below_step HB1.out hb2)
      clear hb2
      rcases E5 with ⟨e0, e13⟩ | rfl
      · go_wp2
        go_roundw
        case rel => exact ⟨k + 1, by omega, by go_num, by rw [E3.out], HB2⟩
        case measure => simp [intOf]; omega
      · have b00 : ((0 : Int) != 0) = false := rfl
        cases e0 : ((k : Int) == 0) <;> cases e13 : ((k : Int) == 13)
        all_goals
          go_wp2
          go_roundw
          case rel => exact ⟨k + 1, by omega, by go_num, by rw [E3.out, Int.add_zero], HB2⟩
          case measure => simp [intOf]; omega
    · obtain rfl : k = 14 := by omega
      clear hk hk2
      have ht := timesynclaw05_CivilCycle.total y
      generalize timesynclaw05_CivilCycle.sm y 14 = x at *
      unfold civil_MonthDays.lp at ht
      have hx : ∀ p4 p100 p400 : Bool, (y.tmod 4 == 0) = p4 → (y.tmod 100 == 0) = p100 → (y.tmod 400 == 0) = p400 → x = if (p4 && (!p100 || p400)) = true then 366 else 365 := by
        rintro _ _ _ rfl rfl rfl
        exact ht
      clear ht
      cases h4 : (y.tmod 4 == 0) <;> cases h100 : (y.tmod 100 == 0) <;> cases h400 : (y.tmod 400 == 0)
      all_goals
        have ht := hx _ _ _ h4 h100 h400
        clear hx
        simp only [Bool.false_and, Bool.true_and, Bool.not_true, Bool.not_false, Bool.true_or, Bool.false_or, Bool.or_true, Bool.or_false, if_true, if_false, Bool.false_eq_true, reduceIte] at ht
        subst ht
        have n100 : (y.tmod 100 != 0) = !(y.tmod 100 == 0) := rfl
        rw [h100] at n100
        simp only [Bool.not_true, Bool.not_false] at n100
        by_cases c0 : a0 < -8000000000
        · go_wp2_with fail
          refine (timesynclaw05_awake.calls true _ rfl).mono ?_
          rintro e w1 ⟨rfl, hb1⟩
          go_wp2
          go_ret
          exact ⟨rfl, below_step HB.out hb1⟩
        by_cases c1 : -4622780800 < a0
        · go_wp2_with fail
          refine (timesynclaw05_awake.calls true _ rfl).mono ?_
          rintro e w1 ⟨rfl, hb1⟩
          go_wp2
          go_ret
          exact ⟨rfl, below_step HB.out hb1⟩
        obtain ⟨Y1, M, D, H, I, Z, W7, J, f1, f2, f3, f4, f5, f6, ⟨b1, b2⟩, b3, b4⟩ := timesynclaw05_CivilCycle.facts a0 (by omega) (by omega)
        have F1 := Aside0.mk f1
        have F2 := Aside0.mk f2
        have F3 := Aside0.mk f3
        have F4 := Aside0.mk f4
        have F5 := Aside0.mk f5
        have F6 := Aside0.mk f6
        clear f1 f2 f3 f4 f5 f6
        go_wp2_with fail
        refine (civil_Of.calls a0 _ _ _ _ _ _ _ _ _ F1.out).mono ?_
        rintro e w1 ⟨rfl, hb1⟩
        have HB1 := Aside0.mk (below_step HB.out hb1)
        clear hb1
        go_wp2_with fail
        refine (civil_Of.calls (a0 + 12622780800) _ _ _ _ _ _ _ _ _ F2.out).mono ?_
        rintro e w2 ⟨rfl, hb2⟩
        have HB2 := Aside0.mk (below_step (below_alloc HB1.out _) hb2)
        have A2 := Aside0.mk (blk_below (blk_new w1 (.cells #[.int .i64 Y1, .int .i64 M, .int .i64 D, .int .i64 H, .int .i64 I, .int .i64 Z, .int .i64 0] 23)) hb2)
        clear hb2
        have a2 := blk_lt A2.out
        have c0 := blk_cell A2.out 0
        have g0 := blk_frozen A2.out 0
        have c1 := blk_cell A2.out 1
        have g1 := blk_frozen A2.out 1
        have c2 := blk_cell A2.out 2
        have g2 := blk_frozen A2.out 2
        have c3 := blk_cell A2.out 3
        have g3 := blk_frozen A2.out 3
        have c4 := blk_cell A2.out 4
        have g4 := blk_frozen A2.out 4
        have c5 := blk_cell A2.out 5
        have g5 := blk_frozen A2.out 5
        have c6 := blk_cell A2.out 6
        have g6 := blk_frozen A2.out 6
        have HB3 := Aside0.mk (below_alloc (HB2.out.setCell HB1.out.size (.int .i64 (Y1 + 400)) (p := ⟨w1.heap.size, 0, none⟩)) (.cells #[.int .i64 (Y1 + 400), .int .i64 M, .int .i64 D, .int .i64 H, .int .i64 I, .int .i64 Z, .int .i64 0] 23))
        go_wp2_with fail
        refine (civil_Weekday.calls a0 W7 _ F3.out).mono ?_
        rintro e w3 ⟨rfl, hb3⟩
        have HB4 := Aside0.mk (below_step HB3.out hb3.below)
        clear hb3
        go_wp2_with fail
        refine (civil_Weekday.calls (a0 + 12622780800) W7 _ F4.out).mono ?_
        rintro e w4 ⟨rfl, hb4⟩
        have HB5 := Aside0.mk (below_step HB4.out hb4.below)
        clear hb4
        go_wp2_with fail
        refine (civil_MJD.calls (a0 + 12622780800) _ _ F6.out).mono ?_
        rintro e w5 ⟨rfl, hb5⟩
        have HB6 := Aside0.mk (below_step HB5.out hb5.below)
        clear hb5
        go_wp2_with fail
        refine (civil_MJD.calls a0 _ _ F5.out).mono ?_
        rintro e w6 ⟨rfl, hb6⟩
        have HB7 := Aside0.mk (below_step HB6.out hb6.below)
        clear hb6
        go_wp2_with fail
        refine (timesynclaw05_awake.calls true _ rfl).mono ?_
        rintro e w7 ⟨rfl, hb7⟩
        go_wp2
        go_ret
        exact ⟨rfl, below_step HB7.out hb7⟩

end Go.Proofs.Ytpchlfjfambgoaa.All
