/- What the Go functions named below answer, each as a plain Lean function, and that its call comes to just that answer. No condition. Written by a program of this session (wip/myprint.py), which runs the kit's print with changes of its own. -/
import Derived.Test.YtpchlfjfambgoaaAll0
import Derived.Test.YtpchlfjfambgoaaAll2
import Derived.Test.YtpchlfjfambgoaaAll3
import Derived.Test.YtpchlfjfambgoaaAll4
import Derived.Test.YtpchlfjfambgoaaAll5
namespace Go.Proofs.Ytpchlfjfambgoaa.All
open Go.RowKit Go.Proofs.YtpchlfjfambgoaaW.PrintWords Go.Proofs.YtpchlfjfambgoaaW.PrintLast Go.Proofs.YtpchlfjfambgoaaW.PrintMore
attribute [local go_sem] max2_int min2_int max_two min_two max_three min_three max_four min_four   -- for this text's walks alone
set_option linter.unusedVariables false
set_option linter.unusedSimpArgs false

/-! ### civil_Weekday: function 18 -/
def civil_Weekday.f (a0 : Int) : Option (Int) := (civil_dayOf.f a0).bind fun t204 => (if (Int.tmod t204 7) < 0 then (some (wrap64 ((Int.tmod t204 7) + 7))) else (some (Int.tmod t204 7)))
set_option maxHeartbeats 8000000 in
set_option maxRecDepth 100000 in
theorem civil_Weekday.calls (a0 : Int) (r : Int) (w : World) (h : civil_Weekday.f a0 = some r) :
  Calls Try.prog 18 #[.int .i64 a0] w fun e w' => e = .returned (.int .i64 r) ∧ Drawn0 w w' := by
 have H : ((civil_dayOf.f a0).bind fun t204 => (if (Int.tmod t204 7) < 0 then (some (wrap64 ((Int.tmod t204 7) + 7))) else (some (Int.tmod t204 7)))) = some r := h
 clear h
 replace H := Option.bind_eq_some_iff.mp H
 obtain ⟨t204, A20, H⟩ := H
 replace H : (if (Int.tmod t204 7) < 0 then (some (wrap64 ((Int.tmod t204 7) + 7))) else (some (Int.tmod t204 7))) = some r := H
 have A2 := Aside0.mk A20
 clear A20
 by_cases c3 : (Int.tmod t204 7) < 0
 ·rw [if_pos c3] at H
  have c3b0 : decide ((Int.tmod t204 7) < 0) = true := decide_eq_true c3
  clear c3
  obtain rfl := Option.some.inj H
  go_enter Try.func18, Try.ntmps18
  go_wp2_with (first | ((with_reducible refine gate_callee (f := 29) rfl ?_); refine goesL_ (some 5) rfl rfl Try.func29 (by kernel_rfl) rfl #[.int .i64 a0] rfl (by (try simp only [List.map_toArray, List.map_cons, List.map_nil]); first | done | rfl | (simp only [List.length_drop, List.length_take]; rfl)) ?_; (with_reducible refine (civil_dayOf.calls a0 t204 _ A2.out).mono ?_); rintro e w' ⟨rfl, ⟨nd, rfl⟩⟩; refine ⟨_, rfl, ?_⟩))
  go_ret
  exact ⟨by first | rfl | (simp; done) | (simp [*]; done), by repeat (first | exact Drawn0.refl _ | apply Drawn0.step)⟩
 ·rw [if_neg c3] at H
  have c3b0 : decide ((Int.tmod t204 7) < 0) = false := decide_eq_false c3
  clear c3
  obtain rfl := Option.some.inj H
  go_enter Try.func18, Try.ntmps18
  go_wp2_with (first | ((with_reducible refine gate_callee (f := 29) rfl ?_); refine goesL_ (some 5) rfl rfl Try.func29 (by kernel_rfl) rfl #[.int .i64 a0] rfl (by (try simp only [List.map_toArray, List.map_cons, List.map_nil]); first | done | rfl | (simp only [List.length_drop, List.length_take]; rfl)) ?_; (with_reducible refine (civil_dayOf.calls a0 t204 _ A2.out).mono ?_); rintro e w' ⟨rfl, ⟨nd, rfl⟩⟩; refine ⟨_, rfl, ?_⟩))
  go_ret
  exact ⟨by first | rfl | (simp; done) | (simp [*]; done), by repeat (first | exact Drawn0.refl _ | apply Drawn0.step)⟩

/-! ### timesyncref05_Weekday: function 19 -/
def timesyncref05_Weekday.f (a0 : Int) : Option (Int) := (timesyncref05_dayOf.f a0).bind fun t205 => (some (Int.tmod (wrap64 ((Int.tmod t205 7) + 7)) 7))
set_option maxHeartbeats 8000000 in
set_option maxRecDepth 100000 in
theorem timesyncref05_Weekday.calls (a0 : Int) (r : Int) (w : World) (h : timesyncref05_Weekday.f a0 = some r) :
  Calls Try.prog 19 #[.int .i64 a0] w fun e w' => e = .returned (.int .i64 r) ∧ Drawn0 w w' := by
 have H : ((timesyncref05_dayOf.f a0).bind fun t205 => (some (Int.tmod (wrap64 ((Int.tmod t205 7) + 7)) 7))) = some r := h
 clear h
 replace H := Option.bind_eq_some_iff.mp H
 obtain ⟨t205, A20, H⟩ := H
 replace H : (some (Int.tmod (wrap64 ((Int.tmod t205 7) + 7)) 7)) = some r := H
 have A2 := Aside0.mk A20
 clear A20
 obtain rfl := Option.some.inj H
 go_enter Try.func19, Try.ntmps19
 go_wp2_with (first | ((with_reducible refine gate_callee (f := 30) rfl ?_); refine goesL_ (some 4) rfl rfl Try.func30 (by kernel_rfl) rfl #[.int .i64 a0] rfl (by (try simp only [List.map_toArray, List.map_cons, List.map_nil]); first | done | rfl | (simp only [List.length_drop, List.length_take]; rfl)) ?_; (with_reducible refine (timesyncref05_dayOf.calls a0 t205 _ A2.out).mono ?_); rintro e w' ⟨rfl, ⟨nd, rfl⟩⟩; refine ⟨_, rfl, ?_⟩))
 go_ret
 exact ⟨by first | rfl | (simp; done) | (simp [*]; done), by repeat (first | exact Drawn0.refl _ | apply Drawn0.step)⟩

/-! ### timesyncref05_MJD: function 21 -/
def timesyncref05_MJD.f (a0 : Int) : Option (Int) := (timesyncref05_dayOf.f a0).bind fun t206 => (some (wrap64 (t206 + 15020)))
set_option maxHeartbeats 8000000 in
set_option maxRecDepth 100000 in
theorem timesyncref05_MJD.calls (a0 : Int) (r : Int) (w : World) (h : timesyncref05_MJD.f a0 = some r) :
  Calls Try.prog 21 #[.int .i64 a0] w fun e w' => e = .returned (.int .i64 r) ∧ Drawn0 w w' := by
 have H : ((timesyncref05_dayOf.f a0).bind fun t206 => (some (wrap64 (t206 + 15020)))) = some r := h
 clear h
 replace H := Option.bind_eq_some_iff.mp H
 obtain ⟨t206, A20, H⟩ := H
 replace H : (some (wrap64 (t206 + 15020))) = some r := H
 have A2 := Aside0.mk A20
 clear A20
 obtain rfl := Option.some.inj H
 go_enter Try.func21, Try.ntmps21
 go_wp2_with (first | ((with_reducible refine gate_callee (f := 30) rfl ?_); refine goesL_ (some 4) rfl rfl Try.func30 (by kernel_rfl) rfl #[.int .i64 a0] rfl (by (try simp only [List.map_toArray, List.map_cons, List.map_nil]); first | done | rfl | (simp only [List.length_drop, List.length_take]; rfl)) ?_; (with_reducible refine (timesyncref05_dayOf.calls a0 t206 _ A2.out).mono ?_); rintro e w' ⟨rfl, ⟨nd, rfl⟩⟩; refine ⟨_, rfl, ?_⟩))
 go_ret
 exact ⟨by first | rfl | (simp; done) | (simp [*]; done), by repeat (first | exact Drawn0.refl _ | apply Drawn0.step)⟩

/-! ### timesynclaw05_after: function 24 (typed by hand) -/
def timesynclaw05_after.carry (y m d h mi s n : Int) : Int × Int × Int × Int × Int × Int × Int :=
 if s < 59 then (y, m, d, h, mi, s + 1, n) else if mi < 59 then (y, m, d, h, mi + 1, 0, n) else if h < 23 then (y, m, d, h + 1, 0, 0, n)
 else if d < civil_MonthDays.v y m then (y, m, d + 1, 0, 0, 0, n) else if m < 12 then (y, m + 1, 1, 0, 0, 0, n) else (y + 1, 1, 1, 0, 0, 0, n)
def timesynclaw05_after.f (y m d h mi s n : Int) : Option (Int × Int × Int × Int × Int × Int × Int) := if (0 ≤ y ∧ y ≤ 5000) ∧ (1 ≤ m ∧ m ≤ 12) ∧ (1 ≤ d ∧ d ≤ civil_MonthDays.v y m) ∧ (0 ≤ h ∧ h ≤ 23) ∧ (0 ≤ mi ∧ mi ≤ 59) ∧ (0 ≤ s ∧ s ≤ 59) then some (timesynclaw05_after.carry y m d h mi s n) else none
def timesynclaw05_after.Post (w : World) (t : Int × Int × Int × Int × Int × Int × Int) (e : Ending) (w' : World) : Prop :=
 e = .returned (.agg #[.int .i64 t.1, .int .i64 t.2.1, .int .i64 t.2.2.1, .int .i64 t.2.2.2.1, .int .i64 t.2.2.2.2.1, .int .i64 t.2.2.2.2.2.1, .int .i64 t.2.2.2.2.2.2]) ∧ Below w.heap.size w w'
abbrev timesynclaw05_after.cells (y m d h mi s n : Int) : Array Value := #[.int .i64 y, .int .i64 m, .int .i64 d, .int .i64 h, .int .i64 mi, .int .i64 s, .int .i64 n]
theorem timesynclaw05_after.vb (y m : Int) : civil_MonthDays.v y m ≤ 31 := by
 unfold civil_MonthDays.v
 repeat' split
 all_goals omega
/-- The argument's cells and the result's. -/
structure timesynclaw05_after.At (w0 w : World) (y m d h mi s n : Int) : Prop where
 k0 : w.heap[w0.heap.size]? = some (.cells (timesynclaw05_after.cells y m d h mi s n) 23 (0, 0))
 k1 : w.heap[w0.heap.size + 1]? = some (.cells (timesynclaw05_after.cells 0 0 0 0 0 0 0) 23 (0, 0))
 hb : Below w0.heap.size w0 w
theorem timesynclaw05_after.At.start (w : World) (y m d h mi s n : Int) : timesynclaw05_after.At w ((w.alloc (.cells (timesynclaw05_after.cells y m d h mi s n) 23)).alloc (.cells (timesynclaw05_after.cells 0 0 0 0 0 0 0) 23)) y m d h mi s n :=
 ⟨blk_alloc (blk_new w _) _, by have := blk_new (w.alloc (.cells (timesynclaw05_after.cells y m d h mi s n) 23)) (.cells (timesynclaw05_after.cells 0 0 0 0 0 0 0) 23); simpa using this, below_alloc (below_alloc (Below.refl _ _) _) _⟩
theorem timesynclaw05_after.At.step {w0 w w' : World} {y m d h mi s n : Int} (k : timesynclaw05_after.At w0 w y m d h mi s n) (hb : Below w.heap.size w w') : timesynclaw05_after.At w0 w' y m d h mi s n := ⟨blk_below k.k0 hb, blk_below k.k1 hb, below_step k.hb hb⟩
theorem timesynclaw05_after.below7 {w W : World} (h : Below w.heap.size w W) (v0 v1 v2 v3 v4 v5 v6 : Value) : Below w.heap.size w (((((((W.setCell ⟨w.heap.size + 1, 0, none⟩ v0).setCell ⟨w.heap.size + 1, 1, none⟩ v1).setCell ⟨w.heap.size + 1, 2, none⟩ v2).setCell ⟨w.heap.size + 1, 3, none⟩ v3).setCell ⟨w.heap.size + 1, 4, none⟩ v4).setCell ⟨w.heap.size + 1, 5, none⟩ v5).setCell ⟨w.heap.size + 1, 6, none⟩ v6) :=
 ((((((h.setCell (Nat.le_succ _) v0).setCell (Nat.le_succ _) v1).setCell (Nat.le_succ _) v2).setCell (Nat.le_succ _) v3).setCell (Nat.le_succ _) v4).setCell (Nat.le_succ _) v5).setCell (Nat.le_succ _) v6
set_option maxHeartbeats 1600000 in
set_option maxRecDepth 100000 in
theorem timesynclaw05_after.walk_s (y m d h mi s n : Int) (w : World) (g : (0 ≤ y ∧ y ≤ 5000) ∧ (1 ≤ m ∧ m ≤ 12) ∧ (1 ≤ d ∧ d ≤ civil_MonthDays.v y m) ∧ (0 ≤ h ∧ h ≤ 23) ∧ (0 ≤ mi ∧ mi ≤ 59) ∧ (0 ≤ s ∧ s ≤ 59)) (hs : s < 59) : Calls Try.prog 24 #[.agg #[.int .i64 y, .int .i64 m, .int .i64 d, .int .i64 h, .int .i64 mi, .int .i64 s, .int .i64 n]] w (timesynclaw05_after.Post w (y, m, d, h, mi, s + 1, n)) := by
 have hu := Try.underlying23
 obtain ⟨⟨y0, y1⟩, ⟨m0, m1⟩, ⟨d0, d1⟩, ⟨h0, h1⟩, ⟨mi0, mi1⟩, s0, s1⟩ := g
 have vb := timesynclaw05_after.vb y m
 have HV := Aside0.mk (show civil_MonthDays.f y m = some (civil_MonthDays.v y m) from rfl)
 generalize civil_MonthDays.v y m = V at *
 go_enter Try.func24, Try.ntmps24
 go_wp2_with fail
 have HA := Aside0.mk (timesynclaw05_after.At.start w y m d h mi (s + 1) n)
 have c0 : ((w.alloc (.cells (timesynclaw05_after.cells y m d h mi (s + 1) n) 23)).alloc (.cells (timesynclaw05_after.cells 0 0 0 0 0 0 0) 23)).cell? ⟨w.heap.size, 0, none⟩ = some (.int .i64 y) := blk_cell HA.out.k0 0
 have c1 : ((w.alloc (.cells (timesynclaw05_after.cells y m d h mi (s + 1) n) 23)).alloc (.cells (timesynclaw05_after.cells 0 0 0 0 0 0 0) 23)).cell? ⟨w.heap.size, 1, none⟩ = some (.int .i64 m) := blk_cell HA.out.k0 1
 have c2 : ((w.alloc (.cells (timesynclaw05_after.cells y m d h mi (s + 1) n) 23)).alloc (.cells (timesynclaw05_after.cells 0 0 0 0 0 0 0) 23)).cell? ⟨w.heap.size, 2, none⟩ = some (.int .i64 d) := blk_cell HA.out.k0 2
 go_region_held3 (fun W => W.cell? ⟨w.heap.size, 0, none⟩ = some (.int .i64 y) ∧ W.cell? ⟨w.heap.size, 1, none⟩ = some (.int .i64 m) ∧ W.cell? ⟨w.heap.size, 2, none⟩ = some (.int .i64 d) ∧ Aside0 (timesynclaw05_after.At w W y m d h mi (s + 1) n))
  (first
   | exact ⟨c0, c1, c2, ⟨HA.out.step (below_drew (Below.refl _ _))⟩⟩
   | (go_split_ands; exact ⟨pw_cell_below hb (by assumption), pw_cell_below hb (by assumption), pw_cell_below hb (by assumption), ⟨timesynclaw05_after.At.step (by exact Aside0.out (by assumption)) hb⟩⟩))
  (first | (go_at_call 22; refine (civil_MonthDays.calls y m V _ HV.out).mono ?_; rintro e w' ⟨rfl, hb⟩))
 have K := ‹_ ∧ _ ∧ _ ∧ Aside0 (timesynclaw05_after.At w _ y m d h mi (s + 1) n)›.2.2.2
 clear HA c0 c1 c2
 have c0 := blk_cell K.out.k0 0
 have f0 := blk_frozen K.out.k0 0
 have z0 := blk_cell K.out.k1 0
 have g0 := blk_frozen K.out.k1 0
 have c1 := blk_cell K.out.k0 1
 have f1 := blk_frozen K.out.k0 1
 have z1 := blk_cell K.out.k1 1
 have g1 := blk_frozen K.out.k1 1
 have c2 := blk_cell K.out.k0 2
 have f2 := blk_frozen K.out.k0 2
 have z2 := blk_cell K.out.k1 2
 have g2 := blk_frozen K.out.k1 2
 have c3 := blk_cell K.out.k0 3
 have f3 := blk_frozen K.out.k0 3
 have z3 := blk_cell K.out.k1 3
 have g3 := blk_frozen K.out.k1 3
 have c4 := blk_cell K.out.k0 4
 have f4 := blk_frozen K.out.k0 4
 have z4 := blk_cell K.out.k1 4
 have g4 := blk_frozen K.out.k1 4
 have c5 := blk_cell K.out.k0 5
 have f5 := blk_frozen K.out.k0 5
 have z5 := blk_cell K.out.k1 5
 have g5 := blk_frozen K.out.k1 5
 have c6 := blk_cell K.out.k0 6
 have f6 := blk_frozen K.out.k0 6
 have z6 := blk_cell K.out.k1 6
 have g6 := blk_frozen K.out.k1 6
 go_wp2
 refine bodyPost_ret (v := .agg #[.int .i64 y, .int .i64 m, .int .i64 d, .int .i64 h, .int .i64 mi, .int .i64 (s + 1), .int .i64 n]) (by simp [results, Try.results24, go_sem, c0, c1, c2, c3, c4, c5, c6, z0, z1, z2, z3, z4, z5, z6]) rfl ?_
 exact ⟨rfl, timesynclaw05_after.below7 (K.out.hb) _ _ _ _ _ _ _⟩
set_option maxHeartbeats 1600000 in
set_option maxRecDepth 100000 in
theorem timesynclaw05_after.walk_m (y m d h mi s n : Int) (w : World) (g : (0 ≤ y ∧ y ≤ 5000) ∧ (1 ≤ m ∧ m ≤ 12) ∧ (1 ≤ d ∧ d ≤ civil_MonthDays.v y m) ∧ (0 ≤ h ∧ h ≤ 23) ∧ (0 ≤ mi ∧ mi ≤ 59) ∧ (0 ≤ s ∧ s ≤ 59)) (hs : ¬ s < 59) (hmi : mi < 59) : Calls Try.prog 24 #[.agg #[.int .i64 y, .int .i64 m, .int .i64 d, .int .i64 h, .int .i64 mi, .int .i64 s, .int .i64 n]] w (timesynclaw05_after.Post w (y, m, d, h, mi + 1, 0, n)) := by
 have hu := Try.underlying23
 obtain ⟨⟨y0, y1⟩, ⟨m0, m1⟩, ⟨d0, d1⟩, ⟨h0, h1⟩, ⟨mi0, mi1⟩, s0, s1⟩ := g
 have vb := timesynclaw05_after.vb y m
 obtain rfl : s = 59 := by omega
 have HV := Aside0.mk (show civil_MonthDays.f y m = some (civil_MonthDays.v y m) from rfl)
 generalize civil_MonthDays.v y m = V at *
 go_enter Try.func24, Try.ntmps24
 go_wp2_with fail
 have HA := Aside0.mk (timesynclaw05_after.At.start w y m d h (mi + 1) 0 n)
 have c0 : ((w.alloc (.cells (timesynclaw05_after.cells y m d h (mi + 1) 0 n) 23)).alloc (.cells (timesynclaw05_after.cells 0 0 0 0 0 0 0) 23)).cell? ⟨w.heap.size, 0, none⟩ = some (.int .i64 y) := blk_cell HA.out.k0 0
 have c1 : ((w.alloc (.cells (timesynclaw05_after.cells y m d h (mi + 1) 0 n) 23)).alloc (.cells (timesynclaw05_after.cells 0 0 0 0 0 0 0) 23)).cell? ⟨w.heap.size, 1, none⟩ = some (.int .i64 m) := blk_cell HA.out.k0 1
 have c2 : ((w.alloc (.cells (timesynclaw05_after.cells y m d h (mi + 1) 0 n) 23)).alloc (.cells (timesynclaw05_after.cells 0 0 0 0 0 0 0) 23)).cell? ⟨w.heap.size, 2, none⟩ = some (.int .i64 d) := blk_cell HA.out.k0 2
 go_region_held3 (fun W => W.cell? ⟨w.heap.size, 0, none⟩ = some (.int .i64 y) ∧ W.cell? ⟨w.heap.size, 1, none⟩ = some (.int .i64 m) ∧ W.cell? ⟨w.heap.size, 2, none⟩ = some (.int .i64 d) ∧ Aside0 (timesynclaw05_after.At w W y m d h (mi + 1) 0 n))
  (first
   | exact ⟨c0, c1, c2, ⟨HA.out.step (below_drew (Below.refl _ _))⟩⟩
   | (go_split_ands; exact ⟨pw_cell_below hb (by assumption), pw_cell_below hb (by assumption), pw_cell_below hb (by assumption), ⟨timesynclaw05_after.At.step (by exact Aside0.out (by assumption)) hb⟩⟩))
  (first | (go_at_call 22; refine (civil_MonthDays.calls y m V _ HV.out).mono ?_; rintro e w' ⟨rfl, hb⟩))
 have K := ‹_ ∧ _ ∧ _ ∧ Aside0 (timesynclaw05_after.At w _ y m d h (mi + 1) 0 n)›.2.2.2
 clear HA c0 c1 c2
 have c0 := blk_cell K.out.k0 0
 have f0 := blk_frozen K.out.k0 0
 have z0 := blk_cell K.out.k1 0
 have g0 := blk_frozen K.out.k1 0
 have c1 := blk_cell K.out.k0 1
 have f1 := blk_frozen K.out.k0 1
 have z1 := blk_cell K.out.k1 1
 have g1 := blk_frozen K.out.k1 1
 have c2 := blk_cell K.out.k0 2
 have f2 := blk_frozen K.out.k0 2
 have z2 := blk_cell K.out.k1 2
 have g2 := blk_frozen K.out.k1 2
 have c3 := blk_cell K.out.k0 3
 have f3 := blk_frozen K.out.k0 3
 have z3 := blk_cell K.out.k1 3
 have g3 := blk_frozen K.out.k1 3
 have c4 := blk_cell K.out.k0 4
 have f4 := blk_frozen K.out.k0 4
 have z4 := blk_cell K.out.k1 4
 have g4 := blk_frozen K.out.k1 4
 have c5 := blk_cell K.out.k0 5
 have f5 := blk_frozen K.out.k0 5
 have z5 := blk_cell K.out.k1 5
 have g5 := blk_frozen K.out.k1 5
 have c6 := blk_cell K.out.k0 6
 have f6 := blk_frozen K.out.k0 6
 have z6 := blk_cell K.out.k1 6
 have g6 := blk_frozen K.out.k1 6
 go_wp2
 refine bodyPost_ret (v := .agg #[.int .i64 y, .int .i64 m, .int .i64 d, .int .i64 h, .int .i64 (mi + 1), .int .i64 0, .int .i64 n]) (by simp [results, Try.results24, go_sem, c0, c1, c2, c3, c4, c5, c6, z0, z1, z2, z3, z4, z5, z6]) rfl ?_
 exact ⟨rfl, timesynclaw05_after.below7 (K.out.hb) _ _ _ _ _ _ _⟩
set_option maxHeartbeats 1600000 in
set_option maxRecDepth 100000 in
theorem timesynclaw05_after.walk_h (y m d h mi s n : Int) (w : World) (g : (0 ≤ y ∧ y ≤ 5000) ∧ (1 ≤ m ∧ m ≤ 12) ∧ (1 ≤ d ∧ d ≤ civil_MonthDays.v y m) ∧ (0 ≤ h ∧ h ≤ 23) ∧ (0 ≤ mi ∧ mi ≤ 59) ∧ (0 ≤ s ∧ s ≤ 59)) (hs : ¬ s < 59) (hmi : ¬ mi < 59) (hh : h < 23) : Calls Try.prog 24 #[.agg #[.int .i64 y, .int .i64 m, .int .i64 d, .int .i64 h, .int .i64 mi, .int .i64 s, .int .i64 n]] w (timesynclaw05_after.Post w (y, m, d, h + 1, 0, 0, n)) := by
 have hu := Try.underlying23
 obtain ⟨⟨y0, y1⟩, ⟨m0, m1⟩, ⟨d0, d1⟩, ⟨h0, h1⟩, ⟨mi0, mi1⟩, s0, s1⟩ := g
 have vb := timesynclaw05_after.vb y m
 obtain rfl : s = 59 := by omega
 obtain rfl : mi = 59 := by omega
 have HV := Aside0.mk (show civil_MonthDays.f y m = some (civil_MonthDays.v y m) from rfl)
 generalize civil_MonthDays.v y m = V at *
 go_enter Try.func24, Try.ntmps24
 go_wp2_with fail
 have HA := Aside0.mk (timesynclaw05_after.At.start w y m d (h + 1) 0 0 n)
 have c0 : ((w.alloc (.cells (timesynclaw05_after.cells y m d (h + 1) 0 0 n) 23)).alloc (.cells (timesynclaw05_after.cells 0 0 0 0 0 0 0) 23)).cell? ⟨w.heap.size, 0, none⟩ = some (.int .i64 y) := blk_cell HA.out.k0 0
 have c1 : ((w.alloc (.cells (timesynclaw05_after.cells y m d (h + 1) 0 0 n) 23)).alloc (.cells (timesynclaw05_after.cells 0 0 0 0 0 0 0) 23)).cell? ⟨w.heap.size, 1, none⟩ = some (.int .i64 m) := blk_cell HA.out.k0 1
 have c2 : ((w.alloc (.cells (timesynclaw05_after.cells y m d (h + 1) 0 0 n) 23)).alloc (.cells (timesynclaw05_after.cells 0 0 0 0 0 0 0) 23)).cell? ⟨w.heap.size, 2, none⟩ = some (.int .i64 d) := blk_cell HA.out.k0 2
 go_region_held3 (fun W => W.cell? ⟨w.heap.size, 0, none⟩ = some (.int .i64 y) ∧ W.cell? ⟨w.heap.size, 1, none⟩ = some (.int .i64 m) ∧ W.cell? ⟨w.heap.size, 2, none⟩ = some (.int .i64 d) ∧ Aside0 (timesynclaw05_after.At w W y m d (h + 1) 0 0 n))
  (first
   | exact ⟨c0, c1, c2, ⟨HA.out.step (below_drew (Below.refl _ _))⟩⟩
   | (go_split_ands; exact ⟨pw_cell_below hb (by assumption), pw_cell_below hb (by assumption), pw_cell_below hb (by assumption), ⟨timesynclaw05_after.At.step (by exact Aside0.out (by assumption)) hb⟩⟩))
  (first | (go_at_call 22; refine (civil_MonthDays.calls y m V _ HV.out).mono ?_; rintro e w' ⟨rfl, hb⟩))
 have K := ‹_ ∧ _ ∧ _ ∧ Aside0 (timesynclaw05_after.At w _ y m d (h + 1) 0 0 n)›.2.2.2
 clear HA c0 c1 c2
 have c0 := blk_cell K.out.k0 0
 have f0 := blk_frozen K.out.k0 0
 have z0 := blk_cell K.out.k1 0
 have g0 := blk_frozen K.out.k1 0
 have c1 := blk_cell K.out.k0 1
 have f1 := blk_frozen K.out.k0 1
 have z1 := blk_cell K.out.k1 1
 have g1 := blk_frozen K.out.k1 1
 have c2 := blk_cell K.out.k0 2
 have f2 := blk_frozen K.out.k0 2
 have z2 := blk_cell K.out.k1 2
 have g2 := blk_frozen K.out.k1 2
 have c3 := blk_cell K.out.k0 3
 have f3 := blk_frozen K.out.k0 3
 have z3 := blk_cell K.out.k1 3
 have g3 := blk_frozen K.out.k1 3
 have c4 := blk_cell K.out.k0 4
 have f4 := blk_frozen K.out.k0 4
 have z4 := blk_cell K.out.k1 4
 have g4 := blk_frozen K.out.k1 4
 have c5 := blk_cell K.out.k0 5
 have f5 := blk_frozen K.out.k0 5
 have z5 := blk_cell K.out.k1 5
 have g5 := blk_frozen K.out.k1 5
 have c6 := blk_cell K.out.k0 6
 have f6 := blk_frozen K.out.k0 6
 have z6 := blk_cell K.out.k1 6
 have g6 := blk_frozen K.out.k1 6
 go_wp2
 refine bodyPost_ret (v := .agg #[.int .i64 y, .int .i64 m, .int .i64 d, .int .i64 (h + 1), .int .i64 0, .int .i64 0, .int .i64 n]) (by simp [results, Try.results24, go_sem, c0, c1, c2, c3, c4, c5, c6, z0, z1, z2, z3, z4, z5, z6]) rfl ?_
 exact ⟨rfl, timesynclaw05_after.below7 (K.out.hb) _ _ _ _ _ _ _⟩
set_option maxHeartbeats 1600000 in
set_option maxRecDepth 100000 in
theorem timesynclaw05_after.walk_d (y m d h mi s n : Int) (w : World) (g : (0 ≤ y ∧ y ≤ 5000) ∧ (1 ≤ m ∧ m ≤ 12) ∧ (1 ≤ d ∧ d ≤ civil_MonthDays.v y m) ∧ (0 ≤ h ∧ h ≤ 23) ∧ (0 ≤ mi ∧ mi ≤ 59) ∧ (0 ≤ s ∧ s ≤ 59)) (hs : ¬ s < 59) (hmi : ¬ mi < 59) (hh : ¬ h < 23) (hd : d < civil_MonthDays.v y m) : Calls Try.prog 24 #[.agg #[.int .i64 y, .int .i64 m, .int .i64 d, .int .i64 h, .int .i64 mi, .int .i64 s, .int .i64 n]] w (timesynclaw05_after.Post w (y, m, d + 1, 0, 0, 0, n)) := by
 have hu := Try.underlying23
 obtain ⟨⟨y0, y1⟩, ⟨m0, m1⟩, ⟨d0, d1⟩, ⟨h0, h1⟩, ⟨mi0, mi1⟩, s0, s1⟩ := g
 have vb := timesynclaw05_after.vb y m
 obtain rfl : s = 59 := by omega
 obtain rfl : mi = 59 := by omega
 obtain rfl : h = 23 := by omega
 have HV := Aside0.mk (show civil_MonthDays.f y m = some (civil_MonthDays.v y m) from rfl)
 generalize civil_MonthDays.v y m = V at *
 go_enter Try.func24, Try.ntmps24
 go_wp2_with fail
 have HA := Aside0.mk (timesynclaw05_after.At.start w y m (d + 1) 0 0 0 n)
 have c0 : ((w.alloc (.cells (timesynclaw05_after.cells y m (d + 1) 0 0 0 n) 23)).alloc (.cells (timesynclaw05_after.cells 0 0 0 0 0 0 0) 23)).cell? ⟨w.heap.size, 0, none⟩ = some (.int .i64 y) := blk_cell HA.out.k0 0
 have c1 : ((w.alloc (.cells (timesynclaw05_after.cells y m (d + 1) 0 0 0 n) 23)).alloc (.cells (timesynclaw05_after.cells 0 0 0 0 0 0 0) 23)).cell? ⟨w.heap.size, 1, none⟩ = some (.int .i64 m) := blk_cell HA.out.k0 1
 have c2 : ((w.alloc (.cells (timesynclaw05_after.cells y m (d + 1) 0 0 0 n) 23)).alloc (.cells (timesynclaw05_after.cells 0 0 0 0 0 0 0) 23)).cell? ⟨w.heap.size, 2, none⟩ = some (.int .i64 (d + 1)) := blk_cell HA.out.k0 2
 go_region_held3 (fun W => W.cell? ⟨w.heap.size, 0, none⟩ = some (.int .i64 y) ∧ W.cell? ⟨w.heap.size, 1, none⟩ = some (.int .i64 m) ∧ W.cell? ⟨w.heap.size, 2, none⟩ = some (.int .i64 (d + 1)) ∧ Aside0 (timesynclaw05_after.At w W y m (d + 1) 0 0 0 n))
  (first
   | exact ⟨c0, c1, c2, ⟨HA.out.step (below_drew (Below.refl _ _))⟩⟩
   | (go_split_ands; exact ⟨pw_cell_below hb (by assumption), pw_cell_below hb (by assumption), pw_cell_below hb (by assumption), ⟨timesynclaw05_after.At.step (by exact Aside0.out (by assumption)) hb⟩⟩))
  (first | (go_at_call 22; refine (civil_MonthDays.calls y m V _ HV.out).mono ?_; rintro e w' ⟨rfl, hb⟩))
 have K := ‹_ ∧ _ ∧ _ ∧ Aside0 (timesynclaw05_after.At w _ y m (d + 1) 0 0 0 n)›.2.2.2
 clear HA c0 c1 c2
 have c0 := blk_cell K.out.k0 0
 have f0 := blk_frozen K.out.k0 0
 have z0 := blk_cell K.out.k1 0
 have g0 := blk_frozen K.out.k1 0
 have c1 := blk_cell K.out.k0 1
 have f1 := blk_frozen K.out.k0 1
 have z1 := blk_cell K.out.k1 1
 have g1 := blk_frozen K.out.k1 1
 have c2 := blk_cell K.out.k0 2
 have f2 := blk_frozen K.out.k0 2
 have z2 := blk_cell K.out.k1 2
 have g2 := blk_frozen K.out.k1 2
 have c3 := blk_cell K.out.k0 3
 have f3 := blk_frozen K.out.k0 3
 have z3 := blk_cell K.out.k1 3
 have g3 := blk_frozen K.out.k1 3
 have c4 := blk_cell K.out.k0 4
 have f4 := blk_frozen K.out.k0 4
 have z4 := blk_cell K.out.k1 4
 have g4 := blk_frozen K.out.k1 4
 have c5 := blk_cell K.out.k0 5
 have f5 := blk_frozen K.out.k0 5
 have z5 := blk_cell K.out.k1 5
 have g5 := blk_frozen K.out.k1 5
 have c6 := blk_cell K.out.k0 6
 have f6 := blk_frozen K.out.k0 6
 have z6 := blk_cell K.out.k1 6
 have g6 := blk_frozen K.out.k1 6
 go_wp2
 refine bodyPost_ret (v := .agg #[.int .i64 y, .int .i64 m, .int .i64 (d + 1), .int .i64 0, .int .i64 0, .int .i64 0, .int .i64 n]) (by simp [results, Try.results24, go_sem, c0, c1, c2, c3, c4, c5, c6, z0, z1, z2, z3, z4, z5, z6]) rfl ?_
 exact ⟨rfl, timesynclaw05_after.below7 (K.out.hb) _ _ _ _ _ _ _⟩
set_option maxHeartbeats 1600000 in
set_option maxRecDepth 100000 in
theorem timesynclaw05_after.walk_mo (y m d h mi s n : Int) (w : World) (g : (0 ≤ y ∧ y ≤ 5000) ∧ (1 ≤ m ∧ m ≤ 12) ∧ (1 ≤ d ∧ d ≤ civil_MonthDays.v y m) ∧ (0 ≤ h ∧ h ≤ 23) ∧ (0 ≤ mi ∧ mi ≤ 59) ∧ (0 ≤ s ∧ s ≤ 59)) (hs : ¬ s < 59) (hmi : ¬ mi < 59) (hh : ¬ h < 23) (hd : ¬ d < civil_MonthDays.v y m) (hm : m < 12) : Calls Try.prog 24 #[.agg #[.int .i64 y, .int .i64 m, .int .i64 d, .int .i64 h, .int .i64 mi, .int .i64 s, .int .i64 n]] w (timesynclaw05_after.Post w (y, m + 1, 1, 0, 0, 0, n)) := by
 have hu := Try.underlying23
 obtain ⟨⟨y0, y1⟩, ⟨m0, m1⟩, ⟨d0, d1⟩, ⟨h0, h1⟩, ⟨mi0, mi1⟩, s0, s1⟩ := g
 have vb := timesynclaw05_after.vb y m
 obtain rfl : s = 59 := by omega
 obtain rfl : mi = 59 := by omega
 obtain rfl : h = 23 := by omega
 have HV := Aside0.mk (show civil_MonthDays.f y m = some (civil_MonthDays.v y m) from rfl)
 generalize civil_MonthDays.v y m = V at *
 go_enter Try.func24, Try.ntmps24
 go_wp2_with fail
 have HA := Aside0.mk (timesynclaw05_after.At.start w y m (d + 1) 0 0 0 n)
 have c0 : ((w.alloc (.cells (timesynclaw05_after.cells y m (d + 1) 0 0 0 n) 23)).alloc (.cells (timesynclaw05_after.cells 0 0 0 0 0 0 0) 23)).cell? ⟨w.heap.size, 0, none⟩ = some (.int .i64 y) := blk_cell HA.out.k0 0
 have c1 : ((w.alloc (.cells (timesynclaw05_after.cells y m (d + 1) 0 0 0 n) 23)).alloc (.cells (timesynclaw05_after.cells 0 0 0 0 0 0 0) 23)).cell? ⟨w.heap.size, 1, none⟩ = some (.int .i64 m) := blk_cell HA.out.k0 1
 have c2 : ((w.alloc (.cells (timesynclaw05_after.cells y m (d + 1) 0 0 0 n) 23)).alloc (.cells (timesynclaw05_after.cells 0 0 0 0 0 0 0) 23)).cell? ⟨w.heap.size, 2, none⟩ = some (.int .i64 (d + 1)) := blk_cell HA.out.k0 2
 go_region_held3 (fun W => W.cell? ⟨w.heap.size, 0, none⟩ = some (.int .i64 y) ∧ W.cell? ⟨w.heap.size, 1, none⟩ = some (.int .i64 m) ∧ W.cell? ⟨w.heap.size, 2, none⟩ = some (.int .i64 (d + 1)) ∧ Aside0 (timesynclaw05_after.At w W y m (d + 1) 0 0 0 n))
  (first
   | exact ⟨c0, c1, c2, ⟨HA.out.step (below_drew (Below.refl _ _))⟩⟩
   | (go_split_ands; exact ⟨pw_cell_below hb (by assumption), pw_cell_below hb (by assumption), pw_cell_below hb (by assumption), ⟨timesynclaw05_after.At.step (by exact Aside0.out (by assumption)) hb⟩⟩))
  (first | (go_at_call 22; refine (civil_MonthDays.calls y m V _ HV.out).mono ?_; rintro e w' ⟨rfl, hb⟩))
 have K := ‹_ ∧ _ ∧ _ ∧ Aside0 (timesynclaw05_after.At w _ y m (d + 1) 0 0 0 n)›.2.2.2
 clear HA c0 c1 c2
 have c0 := blk_cell K.out.k0 0
 have f0 := blk_frozen K.out.k0 0
 have z0 := blk_cell K.out.k1 0
 have g0 := blk_frozen K.out.k1 0
 have c1 := blk_cell K.out.k0 1
 have f1 := blk_frozen K.out.k0 1
 have z1 := blk_cell K.out.k1 1
 have g1 := blk_frozen K.out.k1 1
 have c2 := blk_cell K.out.k0 2
 have f2 := blk_frozen K.out.k0 2
 have z2 := blk_cell K.out.k1 2
 have g2 := blk_frozen K.out.k1 2
 have c3 := blk_cell K.out.k0 3
 have f3 := blk_frozen K.out.k0 3
 have z3 := blk_cell K.out.k1 3
 have g3 := blk_frozen K.out.k1 3
 have c4 := blk_cell K.out.k0 4
 have f4 := blk_frozen K.out.k0 4
 have z4 := blk_cell K.out.k1 4
 have g4 := blk_frozen K.out.k1 4
 have c5 := blk_cell K.out.k0 5
 have f5 := blk_frozen K.out.k0 5
 have z5 := blk_cell K.out.k1 5
 have g5 := blk_frozen K.out.k1 5
 have c6 := blk_cell K.out.k0 6
 have f6 := blk_frozen K.out.k0 6
 have z6 := blk_cell K.out.k1 6
 have g6 := blk_frozen K.out.k1 6
 go_wp2
 refine bodyPost_ret (v := .agg #[.int .i64 y, .int .i64 (m + 1), .int .i64 1, .int .i64 0, .int .i64 0, .int .i64 0, .int .i64 n]) (by simp [results, Try.results24, go_sem, c0, c1, c2, c3, c4, c5, c6, z0, z1, z2, z3, z4, z5, z6]) rfl ?_
 exact ⟨rfl, timesynclaw05_after.below7 (((K.out.hb).setCell (Nat.le_refl _) _).setCell (Nat.le_refl _) _) _ _ _ _ _ _ _⟩
set_option maxHeartbeats 1600000 in
set_option maxRecDepth 100000 in
theorem timesynclaw05_after.walk_y (y m d h mi s n : Int) (w : World) (g : (0 ≤ y ∧ y ≤ 5000) ∧ (1 ≤ m ∧ m ≤ 12) ∧ (1 ≤ d ∧ d ≤ civil_MonthDays.v y m) ∧ (0 ≤ h ∧ h ≤ 23) ∧ (0 ≤ mi ∧ mi ≤ 59) ∧ (0 ≤ s ∧ s ≤ 59)) (hs : ¬ s < 59) (hmi : ¬ mi < 59) (hh : ¬ h < 23) (hd : ¬ d < civil_MonthDays.v y m) (hm : ¬ m < 12) : Calls Try.prog 24 #[.agg #[.int .i64 y, .int .i64 m, .int .i64 d, .int .i64 h, .int .i64 mi, .int .i64 s, .int .i64 n]] w (timesynclaw05_after.Post w (y + 1, 1, 1, 0, 0, 0, n)) := by
 have hu := Try.underlying23
 obtain ⟨⟨y0, y1⟩, ⟨m0, m1⟩, ⟨d0, d1⟩, ⟨h0, h1⟩, ⟨mi0, mi1⟩, s0, s1⟩ := g
 have vb := timesynclaw05_after.vb y m
 obtain rfl : s = 59 := by omega
 obtain rfl : mi = 59 := by omega
 obtain rfl : h = 23 := by omega
 obtain rfl : m = 12 := by omega
 have HV := Aside0.mk (show civil_MonthDays.f y 12 = some (civil_MonthDays.v y 12) from rfl)
 generalize civil_MonthDays.v y 12 = V at *
 go_enter Try.func24, Try.ntmps24
 go_wp2_with fail
 have HA := Aside0.mk (timesynclaw05_after.At.start w y 12 (d + 1) 0 0 0 n)
 have c0 : ((w.alloc (.cells (timesynclaw05_after.cells y 12 (d + 1) 0 0 0 n) 23)).alloc (.cells (timesynclaw05_after.cells 0 0 0 0 0 0 0) 23)).cell? ⟨w.heap.size, 0, none⟩ = some (.int .i64 y) := blk_cell HA.out.k0 0
 have c1 : ((w.alloc (.cells (timesynclaw05_after.cells y 12 (d + 1) 0 0 0 n) 23)).alloc (.cells (timesynclaw05_after.cells 0 0 0 0 0 0 0) 23)).cell? ⟨w.heap.size, 1, none⟩ = some (.int .i64 12) := blk_cell HA.out.k0 1
 have c2 : ((w.alloc (.cells (timesynclaw05_after.cells y 12 (d + 1) 0 0 0 n) 23)).alloc (.cells (timesynclaw05_after.cells 0 0 0 0 0 0 0) 23)).cell? ⟨w.heap.size, 2, none⟩ = some (.int .i64 (d + 1)) := blk_cell HA.out.k0 2
 go_region_held3 (fun W => W.cell? ⟨w.heap.size, 0, none⟩ = some (.int .i64 y) ∧ W.cell? ⟨w.heap.size, 1, none⟩ = some (.int .i64 12) ∧ W.cell? ⟨w.heap.size, 2, none⟩ = some (.int .i64 (d + 1)) ∧ Aside0 (timesynclaw05_after.At w W y 12 (d + 1) 0 0 0 n))
  (first
   | exact ⟨c0, c1, c2, ⟨HA.out.step (below_drew (Below.refl _ _))⟩⟩
   | (go_split_ands; exact ⟨pw_cell_below hb (by assumption), pw_cell_below hb (by assumption), pw_cell_below hb (by assumption), ⟨timesynclaw05_after.At.step (by exact Aside0.out (by assumption)) hb⟩⟩))
  (first | (go_at_call 22; refine (civil_MonthDays.calls y 12 V _ HV.out).mono ?_; rintro e w' ⟨rfl, hb⟩))
 have K := ‹_ ∧ _ ∧ _ ∧ Aside0 (timesynclaw05_after.At w _ y 12 (d + 1) 0 0 0 n)›.2.2.2
 clear HA c0 c1 c2
 have c0 := blk_cell K.out.k0 0
 have f0 := blk_frozen K.out.k0 0
 have z0 := blk_cell K.out.k1 0
 have g0 := blk_frozen K.out.k1 0
 have c1 := blk_cell K.out.k0 1
 have f1 := blk_frozen K.out.k0 1
 have z1 := blk_cell K.out.k1 1
 have g1 := blk_frozen K.out.k1 1
 have c2 := blk_cell K.out.k0 2
 have f2 := blk_frozen K.out.k0 2
 have z2 := blk_cell K.out.k1 2
 have g2 := blk_frozen K.out.k1 2
 have c3 := blk_cell K.out.k0 3
 have f3 := blk_frozen K.out.k0 3
 have z3 := blk_cell K.out.k1 3
 have g3 := blk_frozen K.out.k1 3
 have c4 := blk_cell K.out.k0 4
 have f4 := blk_frozen K.out.k0 4
 have z4 := blk_cell K.out.k1 4
 have g4 := blk_frozen K.out.k1 4
 have c5 := blk_cell K.out.k0 5
 have f5 := blk_frozen K.out.k0 5
 have z5 := blk_cell K.out.k1 5
 have g5 := blk_frozen K.out.k1 5
 have c6 := blk_cell K.out.k0 6
 have f6 := blk_frozen K.out.k0 6
 have z6 := blk_cell K.out.k1 6
 have g6 := blk_frozen K.out.k1 6
 have B1 := blk_put K.out.k0 2 (.int .i64 1) rfl
 have B2 := blk_put B1 1 (.int .i64 13) rfl
 have B3 := blk_put B2 1 (.int .i64 1) rfl
 have B4 := blk_put B3 0 (.int .i64 (y + 1)) rfl
 have e0 := blk_cell B4 0
 have e1 := blk_cell B4 1
 have e2 := blk_cell B4 2
 have e3 := blk_cell B4 3
 have e4 := blk_cell B4 4
 have e5 := blk_cell B4 5
 have e6 := blk_cell B4 6
 clear B1 B2 B3 B4
 go_wp2
 refine bodyPost_ret (v := .agg #[.int .i64 (y + 1), .int .i64 1, .int .i64 1, .int .i64 0, .int .i64 0, .int .i64 0, .int .i64 n]) (by simp [results, Try.results24, go_sem, c0, c1, c2, c3, c4, c5, c6, z0, z1, z2, z3, z4, z5, z6]) rfl ?_
 exact ⟨rfl, timesynclaw05_after.below7 (((((K.out.hb).setCell (Nat.le_refl _) _).setCell (Nat.le_refl _) _).setCell (Nat.le_refl _) _).setCell (Nat.le_refl _) _) _ _ _ _ _ _ _⟩
theorem timesynclaw05_after.calls (a0_0 a0_1 a0_2 a0_3 a0_4 a0_5 a0_6 r1 r2 r3 r4 r5 r6 r7 : Int) (w : World) (h : timesynclaw05_after.f a0_0 a0_1 a0_2 a0_3 a0_4 a0_5 a0_6 = some (r1, r2, r3, r4, r5, r6, r7)) :
  Calls Try.prog 24 #[.agg #[.int .i64 a0_0, .int .i64 a0_1, .int .i64 a0_2, .int .i64 a0_3, .int .i64 a0_4, .int .i64 a0_5, .int .i64 a0_6]] w fun e w' => e = .returned (.agg #[.int .i64 r1, .int .i64 r2, .int .i64 r3, .int .i64 r4, .int .i64 r5, .int .i64 r6, .int .i64 r7]) ∧ Below w.heap.size w w' := by
 unfold timesynclaw05_after.f at h
 by_cases g : (0 ≤ a0_0 ∧ a0_0 ≤ 5000) ∧ (1 ≤ a0_1 ∧ a0_1 ≤ 12) ∧ (1 ≤ a0_2 ∧ a0_2 ≤ civil_MonthDays.v a0_0 a0_1) ∧ (0 ≤ a0_3 ∧ a0_3 ≤ 23) ∧ (0 ≤ a0_4 ∧ a0_4 ≤ 59) ∧ (0 ≤ a0_5 ∧ a0_5 ≤ 59)
 ·rw [if_pos g] at h
  have e := Option.some.inj h
  suffices hs : Calls Try.prog 24 #[.agg #[.int .i64 a0_0, .int .i64 a0_1, .int .i64 a0_2, .int .i64 a0_3, .int .i64 a0_4, .int .i64 a0_5, .int .i64 a0_6]] w (timesynclaw05_after.Post w (timesynclaw05_after.carry a0_0 a0_1 a0_2 a0_3 a0_4 a0_5 a0_6)) by
   rw [e] at hs
   exact hs
  clear e h
  unfold timesynclaw05_after.carry
  by_cases h1 : a0_5 < 59
  ·rw [if_pos h1]; exact timesynclaw05_after.walk_s _ _ _ _ _ _ _ w g h1
  ·rw [if_neg h1]
   by_cases h2 : a0_4 < 59
   ·rw [if_pos h2]; exact timesynclaw05_after.walk_m _ _ _ _ _ _ _ w g h1 h2
   ·rw [if_neg h2]
    by_cases h3 : a0_3 < 23
    ·rw [if_pos h3]; exact timesynclaw05_after.walk_h _ _ _ _ _ _ _ w g h1 h2 h3
    ·rw [if_neg h3]
     by_cases h4 : a0_2 < civil_MonthDays.v a0_0 a0_1
     ·rw [if_pos h4]; exact timesynclaw05_after.walk_d _ _ _ _ _ _ _ w g h1 h2 h3 h4
     ·rw [if_neg h4]
      by_cases h5 : a0_1 < 12
      ·rw [if_pos h5]; exact timesynclaw05_after.walk_mo _ _ _ _ _ _ _ w g h1 h2 h3 h4 h5
      ·rw [if_neg h5]; exact timesynclaw05_after.walk_y _ _ _ _ _ _ _ w g h1 h2 h3 h4 h5
 ·rw [if_neg g] at h
  cases h

end Go.Proofs.Ytpchlfjfambgoaa.All
