/- What the Go functions named below answer, each as a plain Lean function, and that its call comes to just that answer. No condition. Written by a program of this session (wip/myprint.py), which runs the kit's print with changes of its own. -/
import Derived.Test.YtgklbjglmopjhaaAll0
import Derived.Test.YtgklbjglmopjhaaAll3
import Derived.Test.YtgklbjglmopjhaaAll7
import Derived.Test.YtgklbjglmopjhaaAll8
namespace Go.Proofs.Ytgklbjglmopjhaa.All
open Go.RowKit Go.Proofs.YtgklbjglmopjhaaW.PrintWords Go.Proofs.YtgklbjglmopjhaaW.PrintLast Go.Proofs.YtgklbjglmopjhaaW.PrintMore
attribute [local go_sem] max2_int min2_int max_two min_two max_three min_three max_four min_four   -- for this text's walks alone
set_option linter.unusedVariables false
set_option linter.unusedSimpArgs false

/-! ### smear_stepped: function 33 (typed by hand) -/
/-- The first pass alone: the instant with this very reading. -/
def smear_stepped.lp (ps : List (S46)) (u : Int) : Nat → Int → Int → Int → Option (Int × Int)
 | 0, _, _, _ => none
 | k + 1, g, o, i =>
  if i < (ps.length : Int) then
   (if (wrap64 (u + wrap64 (o * 1000000000))) ≥ g then (if (wrap64 (u + wrap64 (o * 1000000000))) < mn ((rd_T46 ps i).f0) 8000000000000000001 then
    ((smear_isTime.f (wrap64 ((wrap64 (u + wrap64 (o * 1000000000))) - wrap64 (o * 1000000000)))).bind fun t => if t = true then some (wrap64 (u + wrap64 (o * 1000000000)), 0) else smear_stepped.lp ps u k (mx g (mn ((rd_T46 ps i).f0) 8000000000000000001)) ((rd_T46 ps i).f3) (wrap64 (i + 1)))
    else smear_stepped.lp ps u k (mx g (mn ((rd_T46 ps i).f0) 8000000000000000001)) ((rd_T46 ps i).f3) (wrap64 (i + 1)))
    else smear_stepped.lp ps u k (mx g (mn ((rd_T46 ps i).f0) 8000000000000000001)) ((rd_T46 ps i).f3) (wrap64 (i + 1)))
  else if i = (ps.length : Int) then
   (if (wrap64 (u + wrap64 (o * 1000000000))) ≥ g then (if (wrap64 (u + wrap64 (o * 1000000000))) < 8000000000000000001 then
    ((smear_isTime.f (wrap64 ((wrap64 (u + wrap64 (o * 1000000000))) - wrap64 (o * 1000000000)))).bind fun t => if t = true then some (wrap64 (u + wrap64 (o * 1000000000)), 0) else none)
    else none) else none)
  else none
def smear_stepped.f (k : Nat) (a0_0 : Int) (a0_1 : Int) (l0_2 : List (S40)) (l1 : List (S46)) (a2 : Int) : Option (Int × Int) := smear_stepped.lp l1 a2 k (-8000000000000000000) a0_0 0
theorem smear_stepped.mono_l (ps : List (S46)) (u : Int) : ∀ k g o i, LeO (smear_stepped.lp ps u k g o i) (smear_stepped.lp ps u (k + 1) g o i)
 | 0 => fun _ _ _ r h => by simp [smear_stepped.lp] at h
 | k + 1 => by
  have ih := smear_stepped.mono_l ps u k
  intro g o i
  rw [smear_stepped.lp, smear_stepped.lp]
  repeat' first
   | (with_reducible exact ih _ _ _)
   | (with_reducible exact LeO.refl _)
   | (with_reducible refine LeO.ite ?_ ?_)
   | (with_reducible refine LeO.bind ?_ (fun _ => ?_))
theorem smear_stepped.mono : ∀ a0 a1 a2 a3 a4 k, LeO (smear_stepped.f k a0 a1 a2 a3 a4) (smear_stepped.f (k + 1) a0 a1 a2 a3 a4) := fun a0 _ _ a3 a4 k => smear_stepped.mono_l a3 a4 k _ a0 0
set_option maxHeartbeats 3200000 in
set_option maxRecDepth 100000 in
theorem smear_stepped.calls (k : Nat) (a0_0 : Int) (a0_1 : Int) (A0_2 : Option Addr) (c0_2 : Nat) (l0_2 : List (S40)) (A1 : Option Addr) (c1 : Nat) (l1 : List (S46)) (a2 : Int) (r1 : Int) (r2 : Int) (w : World) (hr0_2 : Kd.C k40 w A0_2 l0_2.length l0_2) (hc0_2 : l0_2.length ≤ c0_2) (hr1 : Kd.C k46 w A1 l1.length l1) (hc1 : l1.length ≤ c1) (h : smear_stepped.f k a0_0 a0_1 l0_2 l1 a2 = some (r1, r2)) :
  Calls Try.prog 33 #[.agg #[.int .i64 a0_0, .int .i64 a0_1, .slice A0_2 l0_2.length c0_2], .slice A1 l1.length c1, .int .i64 a2] w fun e w' => e = .returned (.tuple #[.int .i64 r1, .int .i64 r2]) ∧ Below w.heap.size w w' := by
 have hu := Try.underlying24
 have hu2 := Try.underlying46
 have HR := Aside0.mk hr1
 have HH := Aside0.mk h
 have hlen : l1.length ≤ 9223372036854775807 := hr1.2.1
 clear hr0_2 hr1 h
 go_enter Try.func33, Try.ntmps33
 go_wp2
 have HB0 : Aside0 (Below w.heap.size w ((w.alloc (.cells #[.int .i64 a0_0, .int .i64 a0_1, .slice A0_2 l0_2.length c0_2] 24)).alloc (.cells #[.bool true, .bool false] 4))) := ⟨below_alloc (below_alloc (Below.refl _ _) _) _⟩
 go_loopw [18] (fun q W => q = .int .i64 0 ∧ W = (w.alloc (.cells #[.int .i64 a0_0, .int .i64 a0_1, .slice A0_2 l0_2.length c0_2] 24)).alloc (.cells #[.bool true, .bool false] 4)) (fun _ _ => 0)
 case atStart => exact ⟨rfl, rfl⟩
 case round =>
  obtain ⟨rfl, rfl⟩ := hrel
  go_wp2_with fail
  go_quiet (fail)
  go_wp2
  go_loopg [10, 11, 12] k (fun kq v1 v2 v3 W => ∃ (g o j : Int), v1 = .int .i64 g ∧ v2 = .int .i64 o ∧ v3 = .int .i64 j ∧ Aside0 (smear_stepped.lp l1 a2 kq g o j = some (r1, r2)) ∧ Aside0 (kq ≤ k) ∧ Aside0 (0 ≤ j ∧ j ≤ (l1.length : Int)) ∧ Aside0 (Below w.heap.size w W))
  case atStart => exact ⟨_, _, 0, rfl, rfl, rfl, HH, ⟨Nat.le_refl _⟩, ⟨by omega⟩, ⟨pw_below_drewN HB0.out _⟩⟩
  case round =>
   clear HH HB0
   obtain ⟨g, o, j, rfl, rfl, rfl, HA, HK, ⟨⟨c20, c2n⟩⟩, HB⟩ := hrel
   cases gk with
   | zero => exact absurd HA.out (by simp [smear_stepped.lp])
   | succ k1 =>
    have H := HA.out
    clear HA
    rw [smear_stepped.lp] at H
    obtain ⟨n, hn⟩ : ∃ n : Int, wrap64 (a2 + wrap64 (o * 1000000000)) = n := ⟨_, rfl⟩
    rw [hn] at H
    have c2nb : decide (j ≤ (l1.length : Int)) = true := decide_eq_true c2n
    by_cases c2b : j < (l1.length : Int)
    ·have c2bb : decide (j < (l1.length : Int)) = true := decide_eq_true c2b
     have EJ := Aside0.mk (show 0 ≤ wrap64 (j + 1) ∧ wrap64 (j + 1) ≤ (l1.length : Int) by unfold wrap64; omega)
     rw [if_pos c2b] at H
     obtain ⟨ad, rfl, d0, d1, d2, d3⟩ := at_T46 (Kd.C_below HR.out HB.out) j c20 c2b
     generalize (rd_T46 l1 j).f0 = F0 at *
     generalize (rd_T46 l1 j).f3 = F3 at *
     replace c20 := eq_true c20
     replace c2b := eq_true c2b
     clear c2n
     obtain ⟨E, hE⟩ : ∃ E : Int, mn F0 8000000000000000001 = E := ⟨_, rfl⟩
     rw [hE] at H
     obtain ⟨M, hM⟩ : ∃ M : Int, mx g E = M := ⟨_, rfl⟩
     rw [hM] at H
     have hE_ : (if 8000000000000000001 < F0 then 8000000000000000001 else F0) = E := hE
     have hM_ : (if g < E then E else g) = M := hM
     clear hE hM
     by_cases c1 : n ≥ g
     ·rw [if_pos c1] at H
      have c1b : decide (g ≤ n) = true := decide_eq_true c1
      clear c1
      by_cases c3 : n < E
      ·rw [if_pos c3] at H
       have c3b : decide (n < E) = true := decide_eq_true c3
       clear c3
       obtain ⟨t, A0, H0⟩ := Option.bind_eq_some_iff.mp H
       clear H
       have HT := Aside0.mk A0
       clear A0
       cases t
       ·rw [if_neg (show ¬ false = true by decide)] at H0
        have HN := Aside0.mk H0
        clear H0
        go_wp2_with (first | (go_at_call 22; (with_reducible refine (smear_isTime.calls (wrap64 (n - wrap64 (o * 1000000000))) false _ HT.out).mono ?_); rintro e w' ⟨rfl, ⟨nd, rfl⟩⟩; (try first | exact ⟨rfl, _, World.drewN_drewN _ _ _⟩ | exact ⟨rfl, _, rfl⟩)))
        repeat (go_quiet (first | (go_at_call 22; (with_reducible refine (smear_isTime.calls (wrap64 (n - wrap64 (o * 1000000000))) false _ HT.out).mono ?_); rintro e w' ⟨rfl, ⟨nd, rfl⟩⟩; (try first | exact ⟨rfl, _, World.drewN_drewN _ _ _⟩ | exact ⟨rfl, _, rfl⟩))); go_wp2_with (first | (go_at_call 22; (with_reducible refine (smear_isTime.calls (wrap64 (n - wrap64 (o * 1000000000))) false _ HT.out).mono ?_); rintro e w' ⟨rfl, ⟨nd, rfl⟩⟩; (try first | exact ⟨rfl, _, World.drewN_drewN _ _ _⟩ | exact ⟨rfl, _, rfl⟩))))
        go_roundg k1
        case measure => have := HK.out; omega
        case rel => exact ⟨M, F3, wrap64 (j + 1), (by first | rfl | (simp [*]; done)), (by first | rfl | (simp [*]; done)), (by first | rfl | (simp [*]; done)), HN, ⟨by have := HK.out; omega⟩, EJ, ⟨pw_below_drewN HB.out _⟩⟩
       ·rw [if_pos rfl] at H0
        simp only [Option.some.injEq, Prod.mk.injEq] at H0
        obtain ⟨rfl, rfl⟩ := H0
        go_wp2_with (first | (go_at_call 22; (with_reducible refine (smear_isTime.calls (wrap64 (n - wrap64 (o * 1000000000))) true _ HT.out).mono ?_); rintro e w' ⟨rfl, ⟨nd, rfl⟩⟩; (try first | exact ⟨rfl, _, World.drewN_drewN _ _ _⟩ | exact ⟨rfl, _, rfl⟩)))
        repeat (go_quiet (first | (go_at_call 22; (with_reducible refine (smear_isTime.calls (wrap64 (n - wrap64 (o * 1000000000))) true _ HT.out).mono ?_); rintro e w' ⟨rfl, ⟨nd, rfl⟩⟩; (try first | exact ⟨rfl, _, World.drewN_drewN _ _ _⟩ | exact ⟨rfl, _, rfl⟩))); go_wp2_with (first | (go_at_call 22; (with_reducible refine (smear_isTime.calls (wrap64 (n - wrap64 (o * 1000000000))) true _ HT.out).mono ?_); rintro e w' ⟨rfl, ⟨nd, rfl⟩⟩; (try first | exact ⟨rfl, _, World.drewN_drewN _ _ _⟩ | exact ⟨rfl, _, rfl⟩))))
        go_ret2
        exact ⟨rfl, pw_below_drewN HB.out _⟩
      ·rw [if_neg c3] at H
       have c3b : decide (n < E) = false := decide_eq_false c3
       clear c3
       have HN := Aside0.mk H
       clear H
       go_wp2_with fail
       repeat (go_quiet (fail); go_wp2_with fail)
       go_roundg k1
       case measure => have := HK.out; omega
       case rel => exact ⟨M, F3, wrap64 (j + 1), (by first | rfl | (simp [*]; done)), (by first | rfl | (simp [*]; done)), (by first | rfl | (simp [*]; done)), HN, ⟨by have := HK.out; omega⟩, EJ, ⟨pw_below_drewN HB.out _⟩⟩
     ·rw [if_neg c1] at H
      have c1b : decide (g ≤ n) = false := decide_eq_false c1
      clear c1
      have HN := Aside0.mk H
      clear H
      go_wp2_with fail
      repeat (go_quiet (fail); go_wp2_with fail)
      go_roundg k1
      case measure => have := HK.out; omega
      case rel => exact ⟨M, F3, wrap64 (j + 1), (by first | rfl | (simp [*]; done)), (by first | rfl | (simp [*]; done)), (by first | rfl | (simp [*]; done)), HN, ⟨by have := HK.out; omega⟩, EJ, ⟨pw_below_drewN HB.out _⟩⟩
    ·have c2bb : decide (j < (l1.length : Int)) = false := decide_eq_false c2b
     rw [if_neg c2b, if_pos (show j = (l1.length : Int) by omega)] at H
     clear c2n c20
     by_cases c1 : n ≥ g
     ·rw [if_pos c1] at H
      have c1b : decide (g ≤ n) = true := decide_eq_true c1
      clear c1
      by_cases c3 : n < 8000000000000000001
      ·rw [if_pos c3] at H
       have c3b : decide (n < 8000000000000000001) = true := decide_eq_true c3
       clear c3
       obtain ⟨t, A0, H0⟩ := Option.bind_eq_some_iff.mp H
       clear H
       have HT := Aside0.mk A0
       clear A0
       cases t
       ·rw [if_neg (show ¬ false = true by decide)] at H0
        cases H0
       ·rw [if_pos rfl] at H0
        simp only [Option.some.injEq, Prod.mk.injEq] at H0
        obtain ⟨rfl, rfl⟩ := H0
        go_wp2_with (first | (go_at_call 22; (with_reducible refine (smear_isTime.calls (wrap64 (n - wrap64 (o * 1000000000))) true _ HT.out).mono ?_); rintro e w' ⟨rfl, ⟨nd, rfl⟩⟩; (try first | exact ⟨rfl, _, World.drewN_drewN _ _ _⟩ | exact ⟨rfl, _, rfl⟩)))
        repeat (go_quiet (first | (go_at_call 22; (with_reducible refine (smear_isTime.calls (wrap64 (n - wrap64 (o * 1000000000))) true _ HT.out).mono ?_); rintro e w' ⟨rfl, ⟨nd, rfl⟩⟩; (try first | exact ⟨rfl, _, World.drewN_drewN _ _ _⟩ | exact ⟨rfl, _, rfl⟩))); go_wp2_with (first | (go_at_call 22; (with_reducible refine (smear_isTime.calls (wrap64 (n - wrap64 (o * 1000000000))) true _ HT.out).mono ?_); rintro e w' ⟨rfl, ⟨nd, rfl⟩⟩; (try first | exact ⟨rfl, _, World.drewN_drewN _ _ _⟩ | exact ⟨rfl, _, rfl⟩))))
        go_ret2
        exact ⟨rfl, pw_below_drewN HB.out _⟩
      ·rw [if_neg c3] at H
       cases H
     ·rw [if_neg c1] at H
      cases H

-- NOT PRINTED: function 34 (smear_least)

/-! ### smear_Tai: function 19 (typed by hand) -/
def smear_Tai.s0 : Nat → Int → Int → List (S40) → Int → Int → List (S46) → Int → Int → Int → Option (Int)
  | 0, _, _, _, _, _, _, _, _, _ => none
  | k + 1, b, x, l, K, W, ps, u, i, j => if i < j then ((smear_reading.f k b x l K W ps (i + (j - i) / 2)).bind fun t => (if t ≥ u then (smear_Tai.s0 k b x l K W ps u i (i + (j - i) / 2)) else (smear_Tai.s0 k b x l K W ps u (i + (j - i) / 2 + 1) j))) else (some i)
theorem smear_Tai.s0_mono : ∀ k (b x : Int) (l : List (S40)) (K W : Int) (ps : List (S46)) (u i j : Int), LeO (smear_Tai.s0 k b x l K W ps u i j) (smear_Tai.s0 (k + 1) b x l K W ps u i j)
  | 0 => fun _ _ _ _ _ _ _ _ _ _ h => by simp [smear_Tai.s0] at h
  | k + 1 => by
    have ih := smear_Tai.s0_mono k
    intro b x l K W ps u i j
    unfold smear_Tai.s0
    exact LeO.ite (LeO.bind (smear_reading.mono b x l K W ps (i + (j - i) / 2) k) (fun _ => LeO.ite (ih _ _ _ _ _ _ _ _ _) (ih _ _ _ _ _ _ _ _ _))) (LeO.refl _)
def smear_Tai.f (k : Nat) (a0_0 : Int) (a0_1 : Int) (l0_2 : List (S40)) (a1_0 : Int) (a1_1 : Int) (a2 : Int) : Option (Int × Int) :=
  (smear_Check.f k a0_0 a0_1 l0_2 a1_0 a1_1).bind fun e => if e = 0 then ((smear_isTime.f a2).bind fun b => if b = true then ((smear_parts.f k a0_0 a0_1 l0_2 a1_0 a1_1).bind fun l => if a1_0 = 1 then smear_stepped.f k a0_0 a0_1 l0_2 l a2 else
    ((smear_Tai.s0 k a0_0 a0_1 l0_2 a1_0 a1_1 l a2 (-8000000000000000000) 8000000000000000001).bind fun n => (smear_isTime.f n).bind fun b1 => if b1 = true then ((smear_reading.f k a0_0 a0_1 l0_2 a1_0 a1_1 l n).bind fun t => (smear_isTime.f t).bind fun b2 => if b2 = true then some (n, 0) else some (0, 3)) else some (0, 3))) else some (0, 3)) else some (0, e)
theorem smear_Tai.mono : ∀ a0 a1 a2 a3 a4 a5 k, LeO (smear_Tai.f k a0 a1 a2 a3 a4 a5) (smear_Tai.f (k + 1) a0 a1 a2 a3 a4 a5) := by
  intro a0 a1 a2 a3 a4 a5 k
  unfold smear_Tai.f
  exact LeO.bind (smear_Check.mono a0 a1 a2 a3 a4 k) (fun _ => LeO.ite (LeO.bind (LeO.refl _) (fun _ => LeO.ite (LeO.bind (smear_parts.mono a0 a1 a2 a3 a4 k) (fun l => LeO.ite (smear_stepped.mono a0 a1 a2 l a5 k) (LeO.bind (smear_Tai.s0_mono k _ _ _ _ _ _ _ _ _) (fun n => LeO.bind (LeO.refl _) (fun _ => LeO.ite (LeO.bind (smear_reading.mono a0 a1 a2 a3 a4 l n k) (fun _ => LeO.refl _)) (LeO.refl _)))))) (LeO.refl _))) (LeO.refl _))
/-- What the closure has at hand. -/
structure smear_Tai.Cl (w0 w : World) (b x K W u : Int) (A A3 : Option Addr) (c c3 g0 g1 g2 g3 : Nat) (l : List S40) (ps : List S46) : Prop where
  k0 : w.cell? ⟨g0, 0, none⟩ = some (.int .i64 b)
  k1 : w.cell? ⟨g0, 1, none⟩ = some (.int .i64 x)
  k2 : w.cell? ⟨g0, 2, none⟩ = some (.slice A l.length c)
  k3 : w.cell? ⟨g1, 0, none⟩ = some (.int .i64 K)
  k4 : w.cell? ⟨g1, 1, none⟩ = some (.int .i64 W)
  k5 : w.cell? ⟨g3, 0, none⟩ = some (.slice A3 ps.length c3)
  k6 : w.cell? ⟨g2, 0, none⟩ = some (.int .i64 u)
  hr : Kd.C k40 w A l.length l
  hr1 : Kd.C k46 w A3 ps.length ps
  hb : Below w0.heap.size w0 w
theorem smear_Tai.Cl.step {w0 w w' : World} {b x K W u : Int} {A A3 : Option Addr} {c c3 g0 g1 g2 g3 : Nat} {l : List S40} {ps : List S46} (h : smear_Tai.Cl w0 w b x K W u A A3 c c3 g0 g1 g2 g3 l ps) (hb : Below w.heap.size w w') : smear_Tai.Cl w0 w' b x K W u A A3 c c3 g0 g1 g2 g3 l ps :=
  ⟨pw_cell_below hb h.k0, pw_cell_below hb h.k1, pw_cell_below hb h.k2, pw_cell_below hb h.k3, pw_cell_below hb h.k4, pw_cell_below hb h.k5, pw_cell_below hb h.k6, Kd.C_below h.hr hb, Kd.C_below h.hr1 hb, below_step h.hb hb⟩
theorem smear_Tai.Cl.self {w0 w : World} {b x K W u : Int} {A A3 : Option Addr} {c c3 g0 g1 g2 g3 : Nat} {l : List S40} {ps : List S46} (h : smear_Tai.Cl w0 w b x K W u A A3 c c3 g0 g1 g2 g3 l ps) : smear_Tai.Cl w w b x K W u A A3 c c3 g0 g1 g2 g3 l ps :=
  ⟨h.k0, h.k1, h.k2, h.k3, h.k4, h.k5, h.k6, h.hr, h.hr1, Below.refl _ _⟩
theorem smear_Tai.mid (i j : Int) (hi : -8000000000000000000 ≤ i) (hij : i < j) (hj : j ≤ 8000000000000000001) : wrap64 (i + wrap64 (IntKind.u64.wrap (IntKind.u64.wrap j - IntKind.u64.wrap i) / 2)) = i + (j - i) / 2 := by
  have h1 : IntKind.u64.wrap (IntKind.u64.wrap j - IntKind.u64.wrap i) = j - i := by
    rw [IntKind.wrap_u64, IntKind.wrap_u64, IntKind.wrap_u64]
    omega
  rw [h1]
  have h2 : wrap64 ((j - i) / 2) = (j - i) / 2 := by
    unfold wrap64
    omega
  rw [h2]
  unfold wrap64
  omega
set_option maxHeartbeats 1600000 in
set_option maxRecDepth 100000 in
theorem smear_Tai.cl (k : Nat) (i t : Int) (b x K W u : Int) (A A3 : Option Addr) (c c3 g0 g1 g2 g3 : Nat) (l : List S40) (ps : List S46) (w : World) (h0 : smear_Tai.Cl w w b x K W u A A3 c c3 g0 g1 g2 g3 l ps) (hc : l.length ≤ c) (hc1 : ps.length ≤ c3) (h : smear_reading.f k b x l K W ps i = some t) :
    Calls Try.prog 35 #[.int .i64 i, .pointer (some ⟨g0, 0, none⟩), .pointer (some ⟨g1, 0, none⟩), .pointer (some ⟨g3, 0, none⟩), .pointer (some ⟨g2, 0, none⟩)] w fun e w' => e = .returned (.bool (decide (t ≥ u))) ∧ Below w.heap.size w w' := by
  have hu := Try.underlying24
  have hu2 := Try.underlying26
  have hu3 := Try.underlying40
  obtain ⟨k0, k1, k2, k3, k4, k5, k6, hr, hr1, _⟩ := h0
  have HR := Aside0.mk hr
  have HC := Aside0.mk hc
  have HR1 := Aside0.mk hr1
  have HC1 := Aside0.mk hc1
  have H := Aside0.mk h
  have HB := Aside0.mk (Below.refl w.heap.size w)
  clear hr hc hr1 hc1 h
  go_enter Try.func35, Try.ntmps35
  go_wp2_with fail
  go_region_held3 (fun w' => w'.cell? ⟨g0, 0, none⟩ = some (.int .i64 b) ∧ w'.cell? ⟨g0, 1, none⟩ = some (.int .i64 x) ∧ w'.cell? ⟨g0, 2, none⟩ = some (.slice A l.length c) ∧ w'.cell? ⟨g1, 0, none⟩ = some (.int .i64 K) ∧ w'.cell? ⟨g1, 1, none⟩ = some (.int .i64 W) ∧ w'.cell? ⟨g3, 0, none⟩ = some (.slice A3 ps.length c3) ∧ w'.cell? ⟨g2, 0, none⟩ = some (.int .i64 u) ∧ Aside0 (Kd.C k40 w' A l.length l) ∧ Aside0 (Kd.C k46 w' A3 ps.length ps) ∧ Aside0 (Below w.heap.size w w'))
    (first
      | exact ⟨k0, k1, k2, k3, k4, k5, k6, ⟨Kd.C_drew HR.out⟩, ⟨Kd.C_drew HR1.out⟩, ⟨below_drew HB.out⟩⟩
      | (go_split_ands; exact ⟨pw_cell_below hb (by assumption), pw_cell_below hb (by assumption), pw_cell_below hb (by assumption), pw_cell_below hb (by assumption), pw_cell_below hb (by assumption), pw_cell_below hb (by assumption), pw_cell_below hb (by assumption), ⟨Kd.C_below (by exact Aside0.out (by assumption)) hb⟩, ⟨Kd.C_below (by exact Aside0.out (by assumption)) hb⟩, ⟨below_step (by exact Aside0.out (by assumption)) hb⟩⟩))
    (first | (go_at_call 23; refine (smear_reading.calls k b x A c l K W A3 c3 ps i t _ (by exact Aside0.out (by assumption)) HC.out (by exact Aside0.out (by assumption)) HC1.out H.out).mono ?_; rintro e w' ⟨rfl, hb⟩))
  go_wp2
  go_ret
  have hH := ‹w'.cell? ⟨g0, 0, none⟩ = some (.int .i64 b) ∧ _›
  exact ⟨rfl, hH.2.2.2.2.2.2.2.2.2.out⟩
set_option maxHeartbeats 1600000 in
set_option maxRecDepth 100000 in
theorem smear_Tai.search (k : Nat) (t : Int) (b x K W u : Int) (A A3 : Option Addr) (c c3 g0 g1 g2 g3 : Nat) (l : List S40) (ps : List S46) (w : World) (h0 : smear_Tai.Cl w w b x K W u A A3 c c3 g0 g1 g2 g3 l ps) (hc : l.length ≤ c) (hc1 : ps.length ≤ c3) (h : smear_Tai.s0 k b x l K W ps u (-8000000000000000000) 8000000000000000001 = some t) :
    Calls Try.prog 34 #[.func (.func 35) #[] #[.pointer (some ⟨g0, 0, none⟩), .pointer (some ⟨g1, 0, none⟩), .pointer (some ⟨g3, 0, none⟩), .pointer (some ⟨g2, 0, none⟩)]] w fun e w' => e = .returned (.int .i64 t) ∧ Below w.heap.size w w' := by
  have H0 := Aside0.mk h0
  have HC := Aside0.mk hc
  have HC1 := Aside0.mk hc1
  have H := Aside0.mk h
  clear h0 hc hc1 h
  go_enter Try.func34, Try.ntmps34
  go_wp2
  go_loopg [3, 4] k (fun kq s5 s6 wr => ∃ (i j : Int), s5 = .int .i64 i ∧ s6 = .int .i64 j ∧ -8000000000000000000 ≤ i ∧ i ≤ j ∧ j ≤ 8000000000000000001 ∧ Aside0 (smear_Tai.s0 kq b x l K W ps u i j = some t) ∧ Aside0 (kq ≤ k) ∧ Aside0 (smear_Tai.Cl w wr b x K W u A A3 c c3 g0 g1 g2 g3 l ps))
  case atStart => exact ⟨-8000000000000000000, 8000000000000000001, rfl, rfl, by omega, by omega, by omega, H, ⟨Nat.le_refl _⟩, H0⟩
  case round =>
    obtain ⟨i, j, rfl, rfl, hi, hij, hj, H1, HK, HA⟩ := hrel
    clear H H0
    cases gk with
    | zero => exact absurd H1.out (by simp [smear_Tai.s0])
    | succ k1 =>
      have H2 := H1.out
      clear H1
      simp only [smear_Tai.s0] at H2
      by_cases hlt : i < j
      · rw [if_pos hlt] at H2
        obtain ⟨v, A1, H3⟩ := Option.bind_eq_some_iff.1 H2
        clear H2
        have HU := Aside0.mk A1
        clear A1
        have hme := smear_Tai.mid i j hi hlt hj
        obtain ⟨mid, hmid⟩ : ∃ mid : Int, i + (j - i) / 2 = mid := ⟨_, rfl⟩
        rw [hmid] at HU H3 hme
        have hm1 : i ≤ mid := by omega
        have hm2 : mid < j := by omega
        have HME := Aside0.mk hme
        clear hme hmid
        by_cases hv : v ≥ u
        · rw [if_pos hv] at H3
          have hvb : decide (v ≥ u) = true := decide_eq_true hv
          have H4 := Aside0.mk H3
          have Hvb := Aside0.mk hvb
          clear H3 hv hvb
          go_wp2_with fail
          rw [HME.out]
          refine (smear_Tai.cl k1 mid v b x K W u A A3 c c3 g0 g1 g2 g3 l ps _ HA.out.self HC.out HC1.out HU.out).mono ?_
          rw [Hvb.out]
          rintro e w1 ⟨rfl, hb⟩
          have HA1 := Aside0.mk (HA.out.step hb)
          clear hb
          go_wp2
          go_roundg k1
          case measure => omega
          case rel => exact ⟨i, mid, rfl, rfl, hi, by omega, by omega, H4, ⟨by have := HK.out; omega⟩, HA1⟩
        · rw [if_neg hv] at H3
          have hvb : decide (v ≥ u) = false := decide_eq_false hv
          have H4 := Aside0.mk H3
          have Hvb := Aside0.mk hvb
          clear H3 hv hvb
          go_wp2_with fail
          rw [HME.out]
          refine (smear_Tai.cl k1 mid v b x K W u A A3 c c3 g0 g1 g2 g3 l ps _ HA.out.self HC.out HC1.out HU.out).mono ?_
          rw [Hvb.out]
          rintro e w1 ⟨rfl, hb⟩
          have HA1 := Aside0.mk (HA.out.step hb)
          clear hb
          go_wp2
          go_roundg k1
          case measure => omega
          case rel => exact ⟨mid + 1, j, rfl, rfl, by omega, by omega, hj, H4, ⟨by have := HK.out; omega⟩, HA1⟩
      · rw [if_neg hlt] at H2
        have e : i = t := Option.some.inj H2
        clear H2
        subst e
        go_wp2
        go_ret
        exact ⟨rfl, HA.out.hb⟩
/-- The boxes of the three parameters. -/
structure smear_Tai.At (w0 w : World) (x y z : Array Value) : Prop where
  k0 : w.heap[w0.heap.size]? = some (.cells x 24 (0, 0))
  k1 : w.heap[w0.heap.size + 1]? = some (.cells y 26 (0, 0))
  k2 : w.heap[w0.heap.size + 1 + 1]? = some (.cells z 3 (0, 0))
  hb : Below w0.heap.size w0 w
theorem smear_Tai.At.start (w : World) (x y z : Array Value) : smear_Tai.At w (((w.alloc (.cells x 24)).alloc (.cells y 26)).alloc (.cells z 3)) x y z :=
  ⟨blk_alloc (blk_alloc (blk_new w _) _) _, by
    have h := blk_alloc (blk_new (w.alloc (.cells x 24)) (.cells y 26)) (.cells z 3)
    simpa using h, by
    have h := blk_new ((w.alloc (.cells x 24)).alloc (.cells y 26)) (.cells z 3)
    simpa using h, below_alloc (below_alloc (below_alloc (Below.refl _ _) _) _) _⟩
theorem smear_Tai.At.step {w0 w w' : World} {x y z : Array Value} (h : smear_Tai.At w0 w x y z) (hb : Below w.heap.size w w') : smear_Tai.At w0 w' x y z :=
  ⟨blk_below h.k0 hb, blk_below h.k1 hb, blk_below h.k2 hb, below_step h.hb hb⟩
set_option maxHeartbeats 3200000 in
set_option maxRecDepth 100000 in
theorem smear_Tai.calls (k : Nat) (a0_0 : Int) (a0_1 : Int) (A0_2 : Option Addr) (c0_2 : Nat) (l0_2 : List (S40)) (a1_0 : Int) (a1_1 : Int) (a2 : Int) (r1 : Int) (r2 : Int) (w : World) (hr0_2 : Kd.C k40 w A0_2 l0_2.length l0_2) (hc0_2 : l0_2.length ≤ c0_2) (h : smear_Tai.f k a0_0 a0_1 l0_2 a1_0 a1_1 a2 = some (r1, r2)) :
    Calls Try.prog 19 #[.agg #[.int .i64 a0_0, .int .i64 a0_1, .slice A0_2 l0_2.length c0_2], .agg #[.int .i64 a1_0, .int .i64 a1_1], .int .i64 a2] w fun e w' => e = .returned (.tuple #[.int .i64 r1, .int .i64 r2]) ∧ Below w.heap.size w w' := by
  have hu := Try.underlying24
  have hu2 := Try.underlying26
  have HR := Aside0.mk hr0_2
  clear hr0_2
  unfold smear_Tai.f at h
  obtain ⟨e0, A10, H⟩ := Option.bind_eq_some_iff.mp h
  clear h
  have A1 := Aside0.mk A10
  clear A10
  have HS := Aside0.mk (smear_Tai.At.start w #[.int .i64 a0_0, .int .i64 a0_1, .slice A0_2 l0_2.length c0_2] #[.int .i64 a1_0, .int .i64 a1_1] #[.int .i64 a2])
  by_cases c0 : e0 = 0
  · rw [if_pos c0] at H
    subst c0
    obtain ⟨b, A20, H0⟩ := Option.bind_eq_some_iff.mp H
    clear H
    have H := H0
    clear H0
    have A2 := Aside0.mk A20
    clear A20
    cases b
    · rw [if_neg (by decide)] at H
      simp only [Option.some.injEq, Prod.mk.injEq] at H
      obtain ⟨rfl, rfl⟩ := H
      go_enter Try.func19, Try.ntmps19
      go_wp2_with fail
      refine (smear_Check.calls k a0_0 a0_1 A0_2 c0_2 l0_2 a1_0 a1_1 0 _ (Kd.C_below HR.out HS.out.hb) hc0_2 A1.out).mono ?_
      rintro e w1 ⟨rfl, hb1⟩
      have H1 := Aside0.mk (HS.out.step hb1)
      clear hb1 HS
      have c00 := blk_cell H1.out.k0 0
      have c01 := blk_cell H1.out.k0 1
      have c02 := blk_cell H1.out.k0 2
      have c10 := blk_cell H1.out.k1 0
      have c11 := blk_cell H1.out.k1 1
      have c20 := blk_cell H1.out.k2 0
      go_wp2_with fail
      refine (smear_isTime.calls a2 false _ A2.out).mono ?_
      rintro e w2 ⟨rfl, hb2⟩
      have H2 := Aside0.mk (H1.out.step hb2.below)
      clear hb2 H1
      go_wp2
      go_ret2
      exact ⟨rfl, H2.out.hb⟩
    · rw [if_pos rfl] at H
      obtain ⟨l, A30, H0⟩ := Option.bind_eq_some_iff.mp H
      clear H
      have H := H0
      clear H0
      have A3 := Aside0.mk A30
      clear A30
      by_cases c1 : a1_0 = 1
      · rw [if_pos c1] at H
        subst c1
        have A4 := Aside0.mk H
        clear H
        replace HS : Aside0 (smear_Tai.At w (((w.alloc (.cells #[.int .i64 a0_0, .int .i64 a0_1, .slice A0_2 l0_2.length c0_2] 24)).alloc (.cells #[.int .i64 1, .int .i64 a1_1] 26)).alloc (.cells #[.int .i64 a2] 3)) #[.int .i64 a0_0, .int .i64 a0_1, .slice A0_2 l0_2.length c0_2] #[.int .i64 1, .int .i64 a1_1] #[.int .i64 a2]) := HS
        go_enter Try.func19, Try.ntmps19
        go_wp2_with fail
        refine (smear_Check.calls k a0_0 a0_1 A0_2 c0_2 l0_2 1 a1_1 0 _ (Kd.C_below HR.out HS.out.hb) hc0_2 A1.out).mono ?_
        rintro e w1 ⟨rfl, hb1⟩
        have H1 := Aside0.mk (HS.out.step hb1)
        clear hb1 HS
        have c00 := blk_cell H1.out.k0 0
        have c01 := blk_cell H1.out.k0 1
        have c02 := blk_cell H1.out.k0 2
        have c10 := blk_cell H1.out.k1 0
        have c11 := blk_cell H1.out.k1 1
        have c20 := blk_cell H1.out.k2 0
        go_wp2_with fail
        refine (smear_isTime.calls a2 true _ A2.out).mono ?_
        rintro e w2 ⟨rfl, hb2⟩
        have H2 := Aside0.mk (H1.out.step hb2.below)
        clear c00 c01 c02 c10 c11 c20 hb2 H1
        have c00 := blk_cell H2.out.k0 0
        have c01 := blk_cell H2.out.k0 1
        have c02 := blk_cell H2.out.k0 2
        have c10 := blk_cell H2.out.k1 0
        have c11 := blk_cell H2.out.k1 1
        have c20 := blk_cell H2.out.k2 0
        go_wp2_with fail
        refine (smear_parts.calls k a0_0 a0_1 A0_2 c0_2 l0_2 1 a1_1 l _ (Kd.C_below HR.out H2.out.hb) hc0_2 A3.out).mono ?_
        rintro e w3 ⟨v0, rfl, hR, hb3⟩
        obtain ⟨B, cB, rfl, hcB, hCB⟩ := Kd.R_reads hR
        have HC := Aside0.mk hCB
        have H3 := Aside0.mk (H2.out.step hb3)
        clear c00 c01 c02 c10 c11 c20 hb3 hR hCB H2
        have c00 := blk_cell H3.out.k0 0
        have c01 := blk_cell H3.out.k0 1
        have c02 := blk_cell H3.out.k0 2
        have c10 := blk_cell H3.out.k1 0
        have c11 := blk_cell H3.out.k1 1
        have c20 := blk_cell H3.out.k2 0
        have l0 := blk_lt H3.out.k0
        have l1 := blk_lt H3.out.k1
        have l2 := blk_lt H3.out.k2
        go_wp2_with fail
        refine (smear_stepped.calls k a0_0 a0_1 A0_2 c0_2 l0_2 B cB l a2 r1 r2 _ (Kd.C_below HR.out (below_alloc H3.out.hb _)) hc0_2 (Kd.C_below HC.out (below_alloc (Below.refl _ _) _)) hcB A4.out).mono ?_
        rintro e w4 ⟨rfl, hb4⟩
        have HB := Aside0.mk (below_step (below_alloc H3.out.hb _) hb4)
        clear hb4
        go_wp2
        go_ret2
        exact ⟨rfl, HB.out⟩
      · rw [if_neg c1] at H
        have hk1 : (a1_0 == 1) = false := by simpa using c1
        clear c1
        obtain ⟨n, A40, H4⟩ := Option.bind_eq_some_iff.mp H
        obtain ⟨b1, A50, H5⟩ := Option.bind_eq_some_iff.mp H4
        have A4 := Aside0.mk A40
        have A5 := Aside0.mk A50
        have HF := Aside0.mk H5
        clear A40 A50 H4 H H5
        go_enter Try.func19, Try.ntmps19
        go_wp2_with fail
        refine (smear_Check.calls k a0_0 a0_1 A0_2 c0_2 l0_2 a1_0 a1_1 0 _ (Kd.C_below HR.out HS.out.hb) hc0_2 A1.out).mono ?_
        rintro e w1 ⟨rfl, hb1⟩
        have H1 := Aside0.mk (HS.out.step hb1)
        clear hb1 HS
        have c00 := blk_cell H1.out.k0 0
        have c01 := blk_cell H1.out.k0 1
        have c02 := blk_cell H1.out.k0 2
        have c10 := blk_cell H1.out.k1 0
        have c11 := blk_cell H1.out.k1 1
        have c20 := blk_cell H1.out.k2 0
        go_wp2_with fail
        refine (smear_isTime.calls a2 true _ A2.out).mono ?_
        rintro e w2 ⟨rfl, hb2⟩
        have H2 := Aside0.mk (H1.out.step hb2.below)
        clear c00 c01 c02 c10 c11 c20 hb2 H1
        have c00 := blk_cell H2.out.k0 0
        have c01 := blk_cell H2.out.k0 1
        have c02 := blk_cell H2.out.k0 2
        have c10 := blk_cell H2.out.k1 0
        have c11 := blk_cell H2.out.k1 1
        have c20 := blk_cell H2.out.k2 0
        go_wp2_with fail
        refine (smear_parts.calls k a0_0 a0_1 A0_2 c0_2 l0_2 a1_0 a1_1 l _ (Kd.C_below HR.out H2.out.hb) hc0_2 A3.out).mono ?_
        rintro e w3 ⟨v0, rfl, hR, hb3⟩
        obtain ⟨B, cB, rfl, hcB, hCB⟩ := Kd.R_reads hR
        have H3 := Aside0.mk (H2.out.step hb3)
        clear c00 c01 c02 c10 c11 c20 hb3 hR H2
        have c00 := blk_cell H3.out.k0 0
        have c01 := blk_cell H3.out.k0 1
        have c02 := blk_cell H3.out.k0 2
        have c10 := blk_cell H3.out.k1 0
        have c11 := blk_cell H3.out.k1 1
        have c20 := blk_cell H3.out.k2 0
        have l0 := blk_lt H3.out.k0
        have l1 := blk_lt H3.out.k1
        have l2 := blk_lt H3.out.k2
        have HCl : Aside0 (smear_Tai.Cl (w3.alloc (.cells #[.slice B l.length cB] 43)) (w3.alloc (.cells #[.slice B l.length cB] 43)) a0_0 a0_1 a1_0 a1_1 a2 A0_2 B c0_2 cB w.heap.size (w.heap.size + 1) (w.heap.size + 1 + 1) w3.heap.size l0_2 l) :=
          ⟨⟨blk_cell (blk_alloc H3.out.k0 _) 0, blk_cell (blk_alloc H3.out.k0 _) 1, blk_cell (blk_alloc H3.out.k0 _) 2, blk_cell (blk_alloc H3.out.k1 _) 0, blk_cell (blk_alloc H3.out.k1 _) 1, blk_cell (blk_new w3 _) 0, blk_cell (blk_alloc H3.out.k2 _) 0, Kd.C_below HR.out (below_alloc H3.out.hb _), Kd.C_below hCB (below_alloc (Below.refl _ _) _), Below.refl _ _⟩⟩
        have BL := Aside0.mk (blk_new w3 (.cells #[.slice B l.length cB] 43))
        have H3a := Aside0.mk (H3.out.step (below_alloc (Below.refl _ _) (.cells #[.slice B l.length cB] 43)))
        have HC := Aside0.mk (Kd.C_below hCB (below_alloc (Below.refl _ _) (.cells #[.slice B l.length cB] 43)))
        clear hCB
        go_wp2_with fail
        refine (smear_Tai.search k n a0_0 a0_1 a1_0 a1_1 a2 A0_2 B c0_2 cB w.heap.size (w.heap.size + 1) (w.heap.size + 1 + 1) w3.heap.size l0_2 l _ HCl.out hc0_2 hcB A4.out).mono ?_
        rintro e w4 ⟨rfl, hb4⟩
        have H4 := Aside0.mk (H3a.out.step hb4)
        have BL4 := Aside0.mk (blk_below BL.out hb4)
        have HC4 := Aside0.mk (Kd.C_below HC.out hb4)
        clear c00 c01 c02 c10 c11 c20 l0 l1 l2 hb4 HCl BL H3a HC H3
        cases b1
        · have hf := HF.out
          rw [if_neg (by decide)] at hf
          simp only [Option.some.injEq, Prod.mk.injEq] at hf
          obtain ⟨rfl, rfl⟩ := hf
          go_wp2_with fail
          refine (smear_isTime.calls n false _ A5.out).mono ?_
          rintro e w5 ⟨rfl, hb5⟩
          have H5 := Aside0.mk (H4.out.step hb5.below)
          clear hb5
          go_wp2
          go_ret2
          exact ⟨rfl, H5.out.hb⟩
        · have hf := HF.out
          rw [if_pos rfl] at hf
          obtain ⟨r, A60, hf2⟩ := Option.bind_eq_some_iff.mp hf
          obtain ⟨b2, A70, hf3⟩ := Option.bind_eq_some_iff.mp hf2
          have A6 := Aside0.mk A60
          have A7 := Aside0.mk A70
          have HG := Aside0.mk hf3
          clear A60 A70 hf hf2 hf3 HF
          go_wp2_with fail
          refine (smear_isTime.calls n true _ A5.out).mono ?_
          rintro e w5 ⟨rfl, hb5⟩
          have H5 := Aside0.mk (H4.out.step hb5.below)
          have BL5 := Aside0.mk (blk_below BL4.out hb5.below)
          have HC5 := Aside0.mk (Kd.C_below HC4.out hb5.below)
          clear hb5 H4 BL4 HC4
          have c00 := blk_cell H5.out.k0 0
          have c01 := blk_cell H5.out.k0 1
          have c02 := blk_cell H5.out.k0 2
          have c10 := blk_cell H5.out.k1 0
          have c11 := blk_cell H5.out.k1 1
          have c20 := blk_cell H5.out.k2 0
          have c30 := blk_cell BL5.out 0
          go_wp2_with fail
          refine (smear_reading.calls k a0_0 a0_1 A0_2 c0_2 l0_2 a1_0 a1_1 B cB l n r _ (Kd.C_below HR.out H5.out.hb) hc0_2 HC5.out hcB A6.out).mono ?_
          rintro e w6 ⟨rfl, hb6⟩
          have H6 := Aside0.mk (H5.out.step hb6)
          clear c00 c01 c02 c10 c11 c20 c30 hb6 H5 BL5 HC5
          go_wp2_with fail
          refine (smear_isTime.calls r b2 _ A7.out).mono ?_
          rintro e w7 ⟨rfl, hb7⟩
          have H7 := Aside0.mk (H6.out.step hb7.below)
          clear hb7 H6
          have hg := HG.out
          clear HG
          cases b2
          · rw [if_neg (by decide)] at hg
            simp only [Option.some.injEq, Prod.mk.injEq] at hg
            obtain ⟨rfl, rfl⟩ := hg
            go_wp2
            go_ret2
            exact ⟨rfl, H7.out.hb⟩
          · rw [if_pos rfl] at hg
            simp only [Option.some.injEq, Prod.mk.injEq] at hg
            obtain ⟨rfl, rfl⟩ := hg
            go_wp2
            go_ret2
            exact ⟨rfl, H7.out.hb⟩
  · rw [if_neg c0] at H
    simp only [Option.some.injEq, Prod.mk.injEq] at H
    obtain ⟨rfl, rfl⟩ := H
    have hq : (e0 != 0) = true := by simpa using c0
    go_enter Try.func19, Try.ntmps19
    go_wp2_with fail
    refine (smear_Check.calls k a0_0 a0_1 A0_2 c0_2 l0_2 a1_0 a1_1 e0 _ (Kd.C_below HR.out HS.out.hb) hc0_2 A1.out).mono ?_
    rintro e w1 ⟨rfl, hb1⟩
    have H1 := Aside0.mk (HS.out.step hb1)
    clear hb1 HS
    go_wp2
    go_ret2
    exact ⟨rfl, H1.out.hb⟩

/-! ### timesynclaw07_awake: function 12 (typed by hand) -/
def timesynclaw07_awake.f  : Option (Bool) := some true
abbrev timesynclaw07_awake.l : List (S40) := [⟨2287785600, 11⟩]
theorem timesynclaw07_awake.read1 : smear_Read.f 100 10 0 timesynclaw07_awake.l 1 0 2287785610999999999 = some (2287785600999999999, 0) := by kernel_rfl
theorem timesynclaw07_awake.read2 : smear_Read.f 100 10 0 timesynclaw07_awake.l 1 0 2287785611000000000 = some (2287785600000000000, 0) := by kernel_rfl
theorem timesynclaw07_awake.tai : smear_Tai.f 100 10 0 timesynclaw07_awake.l 1 0 2287785600000000000 = some (2287785610000000000, 0) := by kernel_rfl
theorem timesynclaw07_awake.read3 : smear_Read.f 100 10 0 timesynclaw07_awake.l 4 1000 2287785611000000000 = some (2287785601000000000, 0) := by kernel_rfl
theorem timesynclaw07_awake.read4 : smear_Read.f 100 10 0 timesynclaw07_awake.l 4 1000 2287786111000000000 = some (2287786100500000000, 0) := by kernel_rfl
theorem timesynclaw07_awake.read5 : smear_Read.f 100 10 0 timesynclaw07_awake.l 3 1000 2287785611000000000 = some (2287785600000000000, 0) := by kernel_rfl
theorem timesynclaw07_awake.rate : smear_Rate.f 100 10 0 timesynclaw07_awake.l 4 1000 2287785611000000000 = some (-1000000) := by kernel_rfl
theorem timesynclaw07_awake.active : smear_Active.f 100 10 0 timesynclaw07_awake.l 4 1000 2287785610999999999 = some false := by kernel_rfl
structure timesynclaw07_awake.At (w0 w : World) : Prop where
 k0 : w.heap[w0.heap.size]? = some (.cells #[.int .i64 2287785600, .int .i64 11] 40 (0, 0))
 k1 : w.heap[w0.heap.size + 1]? = some (.cells #[.int .i64 10, .int .i64 0, .slice (some ⟨w0.heap.size, 0, none⟩) 1 1] 24 (0, 0))
 k2 : w.heap[w0.heap.size + 1 + 1]? = some (.cells #[.int .i64 1, .int .i64 0] 26 (0, 0))
 k3 : w.heap[w0.heap.size + 1 + 1 + 1]? = some (.cells #[.int .i64 4, .int .i64 1000] 26 (0, 0))
 k4 : w.heap[w0.heap.size + 1 + 1 + 1 + 1]? = some (.cells #[.int .i64 3, .int .i64 1000] 26 (0, 0))
 hb : Below w0.heap.size w0 w
theorem timesynclaw07_awake.At.step {w0 w w' : World} (h : timesynclaw07_awake.At w0 w) (hb : Below w.heap.size w w') : timesynclaw07_awake.At w0 w' :=
 ⟨blk_below h.k0 hb, blk_below h.k1 hb, blk_below h.k2 hb, blk_below h.k3 hb, blk_below h.k4 hb, below_step h.hb hb⟩
theorem timesynclaw07_awake.At.start (w : World) : timesynclaw07_awake.At w (((((w.alloc (.cells #[.int .i64 2287785600, .int .i64 11] 40)).alloc (.cells #[.int .i64 10, .int .i64 0, .slice (some ⟨w.heap.size, 0, none⟩) 1 1] 24)).alloc (.cells #[.int .i64 1, .int .i64 0] 26)).alloc (.cells #[.int .i64 4, .int .i64 1000] 26)).alloc (.cells #[.int .i64 3, .int .i64 1000] 26)) := by
 have b0 := blk_new w (.cells #[.int .i64 2287785600, .int .i64 11] 40)
 have b1 := blk_new (w.alloc (.cells #[.int .i64 2287785600, .int .i64 11] 40)) (.cells #[.int .i64 10, .int .i64 0, .slice (some ⟨w.heap.size, 0, none⟩) 1 1] 24)
 have b2 := blk_new ((w.alloc (.cells #[.int .i64 2287785600, .int .i64 11] 40)).alloc (.cells #[.int .i64 10, .int .i64 0, .slice (some ⟨w.heap.size, 0, none⟩) 1 1] 24)) (.cells #[.int .i64 1, .int .i64 0] 26)
 have b3 := blk_new (((w.alloc (.cells #[.int .i64 2287785600, .int .i64 11] 40)).alloc (.cells #[.int .i64 10, .int .i64 0, .slice (some ⟨w.heap.size, 0, none⟩) 1 1] 24)).alloc (.cells #[.int .i64 1, .int .i64 0] 26)) (.cells #[.int .i64 4, .int .i64 1000] 26)
 have b4 := blk_new ((((w.alloc (.cells #[.int .i64 2287785600, .int .i64 11] 40)).alloc (.cells #[.int .i64 10, .int .i64 0, .slice (some ⟨w.heap.size, 0, none⟩) 1 1] 24)).alloc (.cells #[.int .i64 1, .int .i64 0] 26)).alloc (.cells #[.int .i64 4, .int .i64 1000] 26)) (.cells #[.int .i64 3, .int .i64 1000] 26)
 refine ⟨blk_alloc (blk_alloc (blk_alloc (blk_alloc b0 _) _) _) _, ?_, ?_, ?_, ?_, below_alloc (below_alloc (below_alloc (below_alloc (below_alloc (Below.refl _ _) _) _) _) _) _⟩
 ·have h := blk_alloc (blk_alloc (blk_alloc b1 (.cells #[.int .i64 1, .int .i64 0] 26)) (.cells #[.int .i64 4, .int .i64 1000] 26)) (.cells #[.int .i64 3, .int .i64 1000] 26)
  simpa using h
 ·have h := blk_alloc (blk_alloc b2 (.cells #[.int .i64 4, .int .i64 1000] 26)) (.cells #[.int .i64 3, .int .i64 1000] 26)
  simpa using h
 ·have h := blk_alloc b3 (.cells #[.int .i64 3, .int .i64 1000] 26)
  simpa using h
 ·simpa using b4
theorem timesynclaw07_awake.At.row {w0 w : World} (h : timesynclaw07_awake.At w0 w) : Kd.C k40 w (some ⟨w0.heap.size, 0, none⟩) 1 timesynclaw07_awake.l := by
 refine ⟨rfl, by omega, fun _ => ⟨_, rfl, fun j p hj => ?_⟩⟩
 obtain rfl : j = 0 := by
  have := (List.getElem?_eq_some_iff.1 hj).1
  simp at this
  omega
 obtain rfl : (⟨2287785600, 11⟩ : S40) = p := by simpa using hj
 refine ⟨[.int .i64 2287785600, .int .i64 11], rfl, k40_mk w _, fun i u hi => ?_⟩
 have hc := blk_cell h.k0 i
 have e : (#[Value.int .i64 2287785600, Value.int .i64 11] : Array Value)[i]? = some u := by simpa using hi
 rw [e] at hc
 have e2 : (⟨w0.heap.size, 0, none⟩ : Addr).add (0 * k40.sz + i) = ⟨w0.heap.size, i, none⟩ := by
  by_cases g : i = 0 <;> simp [Addr.add, g]
 rw [e2]
 exact hc
set_option maxHeartbeats 3200000 in
set_option maxRecDepth 100000 in
theorem timesynclaw07_awake.calls (r : Bool) (w : World) (h : timesynclaw07_awake.f = some r) :
  Calls Try.prog 12 #[] w fun e w' => e = .returned (.bool r) ∧ Below w.heap.size w w' := by
 obtain rfl := Option.some.inj h
 clear h
 have hu := Try.underlying24
 have hu2 := Try.underlying26
 have H0 := Aside0.mk (timesynclaw07_awake.At.start w)
 go_enter Try.func12, Try.ntmps12
 go_wp2_with fail
 refine (smear_Read.calls 100 10 0 (some ⟨w.heap.size, 0, none⟩) 1 timesynclaw07_awake.l 1 0 2287785610999999999 _ _ _ H0.out.row (Nat.le_refl _) timesynclaw07_awake.read1).mono ?_
 rintro e w1 ⟨rfl, hb1⟩
 have H1 := Aside0.mk (H0.out.step hb1)
 clear hb1 H0
 have c10 := blk_cell H1.out.k1 0
 have c11 := blk_cell H1.out.k1 1
 have c12 := blk_cell H1.out.k1 2
 have c20 := blk_cell H1.out.k2 0
 have c21 := blk_cell H1.out.k2 1
 have c30 := blk_cell H1.out.k3 0
 have c31 := blk_cell H1.out.k3 1
 have c40 := blk_cell H1.out.k4 0
 have c41 := blk_cell H1.out.k4 1
 go_wp2_with fail
 refine (smear_Read.calls 100 10 0 (some ⟨w.heap.size, 0, none⟩) 1 timesynclaw07_awake.l 1 0 2287785611000000000 _ _ _ H1.out.row (Nat.le_refl _) timesynclaw07_awake.read2).mono ?_
 rintro e w2 ⟨rfl, hb2⟩
 have H2 := Aside0.mk (H1.out.step hb2)
 clear hb2 H1 c10 c11 c12 c20 c21 c30 c31 c40 c41
 have c10 := blk_cell H2.out.k1 0
 have c11 := blk_cell H2.out.k1 1
 have c12 := blk_cell H2.out.k1 2
 have c20 := blk_cell H2.out.k2 0
 have c21 := blk_cell H2.out.k2 1
 have c30 := blk_cell H2.out.k3 0
 have c31 := blk_cell H2.out.k3 1
 have c40 := blk_cell H2.out.k4 0
 have c41 := blk_cell H2.out.k4 1
 go_wp2_with fail
 refine (smear_Tai.calls 100 10 0 (some ⟨w.heap.size, 0, none⟩) 1 timesynclaw07_awake.l 1 0 2287785600000000000 _ _ _ H2.out.row (Nat.le_refl _) timesynclaw07_awake.tai).mono ?_
 rintro e w3 ⟨rfl, hb3⟩
 have H3 := Aside0.mk (H2.out.step hb3)
 clear hb3 H2 c10 c11 c12 c20 c21 c30 c31 c40 c41
 have c10 := blk_cell H3.out.k1 0
 have c11 := blk_cell H3.out.k1 1
 have c12 := blk_cell H3.out.k1 2
 have c20 := blk_cell H3.out.k2 0
 have c21 := blk_cell H3.out.k2 1
 have c30 := blk_cell H3.out.k3 0
 have c31 := blk_cell H3.out.k3 1
 have c40 := blk_cell H3.out.k4 0
 have c41 := blk_cell H3.out.k4 1
 go_wp2_with fail
 refine (smear_Read.calls 100 10 0 (some ⟨w.heap.size, 0, none⟩) 1 timesynclaw07_awake.l 4 1000 2287785611000000000 _ _ _ H3.out.row (Nat.le_refl _) timesynclaw07_awake.read3).mono ?_
 rintro e w4 ⟨rfl, hb4⟩
 have H4 := Aside0.mk (H3.out.step hb4)
 clear hb4 H3 c10 c11 c12 c20 c21 c30 c31 c40 c41
 have c10 := blk_cell H4.out.k1 0
 have c11 := blk_cell H4.out.k1 1
 have c12 := blk_cell H4.out.k1 2
 have c20 := blk_cell H4.out.k2 0
 have c21 := blk_cell H4.out.k2 1
 have c30 := blk_cell H4.out.k3 0
 have c31 := blk_cell H4.out.k3 1
 have c40 := blk_cell H4.out.k4 0
 have c41 := blk_cell H4.out.k4 1
 go_wp2_with fail
 refine (smear_Read.calls 100 10 0 (some ⟨w.heap.size, 0, none⟩) 1 timesynclaw07_awake.l 4 1000 2287786111000000000 _ _ _ H4.out.row (Nat.le_refl _) timesynclaw07_awake.read4).mono ?_
 rintro e w5 ⟨rfl, hb5⟩
 have H5 := Aside0.mk (H4.out.step hb5)
 clear hb5 H4 c10 c11 c12 c20 c21 c30 c31 c40 c41
 have c10 := blk_cell H5.out.k1 0
 have c11 := blk_cell H5.out.k1 1
 have c12 := blk_cell H5.out.k1 2
 have c20 := blk_cell H5.out.k2 0
 have c21 := blk_cell H5.out.k2 1
 have c30 := blk_cell H5.out.k3 0
 have c31 := blk_cell H5.out.k3 1
 have c40 := blk_cell H5.out.k4 0
 have c41 := blk_cell H5.out.k4 1
 go_wp2_with fail
 refine (smear_Read.calls 100 10 0 (some ⟨w.heap.size, 0, none⟩) 1 timesynclaw07_awake.l 3 1000 2287785611000000000 _ _ _ H5.out.row (Nat.le_refl _) timesynclaw07_awake.read5).mono ?_
 rintro e w6 ⟨rfl, hb6⟩
 have H6 := Aside0.mk (H5.out.step hb6)
 clear hb6 H5 c10 c11 c12 c20 c21 c30 c31 c40 c41
 have c10 := blk_cell H6.out.k1 0
 have c11 := blk_cell H6.out.k1 1
 have c12 := blk_cell H6.out.k1 2
 have c20 := blk_cell H6.out.k2 0
 have c21 := blk_cell H6.out.k2 1
 have c30 := blk_cell H6.out.k3 0
 have c31 := blk_cell H6.out.k3 1
 have c40 := blk_cell H6.out.k4 0
 have c41 := blk_cell H6.out.k4 1
 go_wp2_with fail
 refine (smear_Rate.calls 100 10 0 (some ⟨w.heap.size, 0, none⟩) 1 timesynclaw07_awake.l 4 1000 2287785611000000000 _ _ H6.out.row (Nat.le_refl _) timesynclaw07_awake.rate).mono ?_
 rintro e w7 ⟨rfl, hb7⟩
 have H7 := Aside0.mk (H6.out.step hb7)
 clear hb7 H6 c10 c11 c12 c20 c21 c30 c31 c40 c41
 have c10 := blk_cell H7.out.k1 0
 have c11 := blk_cell H7.out.k1 1
 have c12 := blk_cell H7.out.k1 2
 have c20 := blk_cell H7.out.k2 0
 have c21 := blk_cell H7.out.k2 1
 have c30 := blk_cell H7.out.k3 0
 have c31 := blk_cell H7.out.k3 1
 have c40 := blk_cell H7.out.k4 0
 have c41 := blk_cell H7.out.k4 1
 go_wp2_with fail
 refine (smear_Active.calls 100 10 0 (some ⟨w.heap.size, 0, none⟩) 1 timesynclaw07_awake.l 4 1000 2287785610999999999 _ _ H7.out.row (Nat.le_refl _) timesynclaw07_awake.active).mono ?_
 rintro e w8 ⟨rfl, hb8⟩
 have H8 := Aside0.mk (H7.out.step hb8)
 clear hb8 H7 c10 c11 c12 c20 c21 c30 c31 c40 c41
 go_wp2
 go_ret
 exact ⟨rfl, H8.out.hb⟩

end Go.Proofs.Ytgklbjglmopjhaa.All
