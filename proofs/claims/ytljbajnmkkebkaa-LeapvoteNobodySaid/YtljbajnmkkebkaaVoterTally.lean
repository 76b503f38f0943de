/- tally of leapvote: how many votes there are for each indicator. No condition but what is said. -/
import Derived.Test.YtljbajnmkkebkaaVoterVote
namespace Go.Proofs.Ytljbajnmkkebkaa.Vo
open Go.RowKit Go.Proofs.Ytljbajnmkkebkaa.All Go.Proofs.YtljbajnmkkebkaaW.PrintWords Go.Proofs.YtljbajnmkkebkaaW.PrintLast Go.Proofs.YtljbajnmkkebkaaW.PrintMore
set_option linter.unusedSimpArgs false
set_option linter.unusedVariables false

/-- How many of the first k votes are for c and not old. -/
def cnt (fi fa : Nat → Int) (u c : Int) : Nat → Int
  | 0 => 0
  | k + 1 => cnt fi fa u c k + (if u - fa k < 86400 ∧ fi k = c then 1 else 0)
theorem cnt_bd (fi fa : Nat → Int) (u c : Int) : ∀ k, 0 ≤ cnt fi fa u c k ∧ cnt fi fa u c k ≤ k
  | 0 => by simp [cnt]
  | k + 1 => by
    have h := cnt_bd fi fa u c k
    rw [cnt]
    split <;> omega
/-- What is true of every vote. -/
def Good (fi fa : Nat → Int) : Prop := ∀ j, j < 12 → (0 ≤ fi j ∧ fi j ≤ 3) ∧ (-8000000000 ≤ fa j ∧ fa j ≤ 8000000000)
abbrev four (a b c d : Int) : Array Value := #[.int .i64 a, .int .i64 b, .int .i64 c, .int .i64 d]
theorem cnt_next (fi fa : Nat → Int) (u c : Int) (k : Nat) : cnt fi fa u c (k + 1) = cnt fi fa u c k + (if u - fa k < 86400 ∧ fi k = c then 1 else 0) := rfl
/-- What the loop of tally holds. -/
structure TA (w0 w : World) (g : Nat) (n : Int) (fi fa : Nat → Int) (last a b c d : Int) : Prop where
  kv : VB w g n fi fa last
  k0 : w.heap[w0.heap.size]? = some (.cells (four 0 0 0 0) 85 (0, 0))
  k1 : w.heap[w0.heap.size + 1]? = some (.cells (four a b c d) 85 (0, 0))
  hb : Below w0.heap.size w0 w
theorem TA.drewN {w0 w : World} {g : Nat} {n : Int} {fi fa : Nat → Int} {last a b c d : Int} (h : TA w0 w g n fi fa last a b c d) (q : Nat) : TA w0 (w.drewN q) g n fi fa last a b c d := ⟨h.kv, h.k0, h.k1, pw_below_drewN h.hb q⟩
theorem TA.alloc {w0 w : World} {g : Nat} {n : Int} {fi fa : Nat → Int} {last a b c d : Int} (h : TA w0 w g n fi fa last a b c d) (o : Obj) : TA w0 (w.alloc o) g n fi fa last a b c d := ⟨blk_alloc h.kv o, blk_alloc h.k0 o, blk_alloc h.k1 o, below_alloc h.hb o⟩
theorem TA.put {w0 w : World} {g : Nat} {n : Int} {fi fa : Nat → Int} {last a b c d a' b' c' d' : Int} (h : TA w0 w g n fi fa last a b c d) (hg : g < w0.heap.size) (i : Nat) (v : Value) (e : (four a b c d).setIfInBounds i v = four a' b' c' d') : TA w0 (w.setCell ⟨w0.heap.size + 1, i, none⟩ v) g n fi fa last a' b' c' d' :=
  ⟨blk_far h.kv (p := ⟨w0.heap.size + 1, i, none⟩) (by show g ≠ w0.heap.size + 1; omega) v, blk_far h.k0 (p := ⟨w0.heap.size + 1, i, none⟩) (by show w0.heap.size ≠ w0.heap.size + 1; omega) v, blk_put h.k1 i v e, h.hb.setCell (Nat.le_succ _) v⟩
theorem TA.start (w : World) (g : Nat) (n : Int) (fi fa : Nat → Int) (last : Int) (hv : VB w g n fi fa last) : TA w ((w.alloc (.cells (four 0 0 0 0) 85)).alloc (.cells (four 0 0 0 0) 85)) g n fi fa last 0 0 0 0 :=
  ⟨blk_alloc (blk_alloc hv _) _, blk_alloc (blk_new w _) _, by
    have h := blk_new (w.alloc (.cells (four 0 0 0 0) 85)) (.cells (four 0 0 0 0) 85)
    simpa using h, below_alloc (below_alloc (Below.refl _ _) _) _⟩
set_option maxHeartbeats 1600000 in
set_option maxRecDepth 100000 in
theorem tally_ok (g m : Nat) (fi fa : Nat → Int) (last u : Int) (w : World) (hn : 1 ≤ m ∧ m ≤ 12) (hv : VB w g (m : Int) fi fa last) (hg : Good fi fa) (hu : -8000000000 ≤ u ∧ u ≤ 8000000000) :
    Calls Try.prog 45 #[.pointer (some ⟨g, 0, none⟩), .int .i64 u] w fun e w' => e = .returned (.agg (four (cnt fi fa u 0 m) (cnt fi fa u 1 m) (cnt fi fa u 2 m) (cnt fi fa u 3 m))) ∧ Below w.heap.size w w' := by
  have hu1 := Try.underlying84
  have hu2 := Try.underlying81
  have hu3 := Try.underlying85
  have HV := Aside0.mk hv
  have HG := Aside0.mk hg
  have HS := Aside0.mk (fun W => second_ok u W)
  rw [decide_eq_true hu] at HS
  have c0 : w.cell? ⟨g, 0, none⟩ = some (.int .i64 (m : Int)) := (blk_cell hv 0).trans (VC_n ..)
  have hlt := blk_lt hv
  obtain ⟨hn0, hn1⟩ := hn
  obtain ⟨hua, hub⟩ := hu
  have HT := Aside0.mk (TA.start w g (m : Int) fi fa last hv)
  clear hv hg
  go_enter Try.func45, Try.ntmps45
  go_wp2_with fail
  refine (HS.out _).mono ?_
  rintro e w1 ⟨rfl, hb⟩
  obtain ⟨d, rfl⟩ := hb.out
  clear hb
  have q1 : (0 : Int) ≤ (m : Int) := Int.natCast_nonneg m
  have q2 : (m : Int) ≤ 12 := by omega
  go_wp2_with fail
  go_quiet (fail)
  go_wp2
  go_loopw [25] (fun q W => ∃ k : Nat, k ≤ m ∧ q = .int .i64 (k : Int) ∧ Aside0 (TA w W g (m : Int) fi fa last (cnt fi fa u 0 k) (cnt fi fa u 1 k) (cnt fi fa u 2 k) (cnt fi fa u 3 k))) (fun q _ => m - (intOf q).toNat)
  case atStart => exact ⟨0, by omega, rfl, ⟨(HT.out.drewN d).drewN _⟩⟩
  case round =>
    clear HT c0 q1 q2
    obtain ⟨k, hk, rfl, HA⟩ := hrel
    have l1 := blk_lt HA.out.k1
    have z0 := blk_cell HA.out.k1 0
    have z1 := blk_cell HA.out.k1 1
    have z2 := blk_cell HA.out.k1 2
    have z3 := blk_cell HA.out.k1 3
    have y0 := blk_frozen HA.out.k1 0
    have y1 := blk_frozen HA.out.k1 1
    have y2 := blk_frozen HA.out.k1 2
    have y3 := blk_frozen HA.out.k1 3
    by_cases hk2 : k < m
    · have hk3 : (k : Int) < (m : Int) := by omega
      have hk4 : k < 12 := by omega
      have ci : wr.cell? ⟨g, 1 + k * 2, none⟩ = some (.int .i64 (fi k)) := by
        rw [show 1 + k * 2 = 2 * k + 1 by omega]
        exact (blk_cell HA.out.kv (2 * k + 1)).trans (VC_ind _ _ _ _ k hk4)
      have ca : wr.cell? ⟨g, 1 + k * 2 + 1, none⟩ = some (.int .i64 (fa k)) := by
        rw [show 1 + k * 2 + 1 = 2 * k + 2 by omega]
        exact (blk_cell HA.out.kv (2 * k + 2)).trans (VC_at _ _ _ _ k hk4)
      obtain ⟨⟨gi0, gi1⟩, ga0, ga1⟩ := HG.out k hk4
      have N0 := Aside0.mk (cnt_next fi fa u 0 k)
      obtain ⟨b00, b01⟩ := cnt_bd fi fa u 0 k
      have N1 := Aside0.mk (cnt_next fi fa u 1 k)
      obtain ⟨b10, b11⟩ := cnt_bd fi fa u 1 k
      have N2 := Aside0.mk (cnt_next fi fa u 2 k)
      obtain ⟨b20, b21⟩ := cnt_bd fi fa u 2 k
      have N3 := Aside0.mk (cnt_next fi fa u 3 k)
      obtain ⟨b30, b31⟩ := cnt_bd fi fa u 3 k
      generalize fi k = I at *
      generalize fa k = A at *
      generalize cnt fi fa u 0 k = C0 at *
      generalize cnt fi fa u 1 k = C1 at *
      generalize cnt fi fa u 2 k = C2 at *
      generalize cnt fi fa u 3 k = C3 at *
      by_cases c : u - A < 86400
      · have cb : decide (u - A < 86400) = true := decide_eq_true c
        obtain rfl | rfl | rfl | rfl : I = 0 ∨ I = 1 ∨ I = 2 ∨ I = 3 := by omega
        · go_wp2

          go_roundw
          case rel =>
            refine ⟨k + 1, by omega, by go_num, ⟨?_⟩⟩
            rw [N0.out, N1.out, N2.out, N3.out]
            simp only [c, true_and, if_true, reduceIte, Int.add_zero, Int.reduceEq, if_false, and_true, and_false]
            exact (HA.out.put hlt 0 (.int .i64 (C0 + 1)) rfl).alloc _
          case measure => simp [intOf]; omega
        · go_wp2

          go_roundw
          case rel =>
            refine ⟨k + 1, by omega, by go_num, ⟨?_⟩⟩
            rw [N0.out, N1.out, N2.out, N3.out]
            simp only [c, true_and, if_true, reduceIte, Int.add_zero, Int.reduceEq, if_false, and_true, and_false]
            exact (HA.out.put hlt 1 (.int .i64 (C1 + 1)) rfl).alloc _
          case measure => simp [intOf]; omega
        · go_wp2

          go_roundw
          case rel =>
            refine ⟨k + 1, by omega, by go_num, ⟨?_⟩⟩
            rw [N0.out, N1.out, N2.out, N3.out]
            simp only [c, true_and, if_true, reduceIte, Int.add_zero, Int.reduceEq, if_false, and_true, and_false]
            exact (HA.out.put hlt 2 (.int .i64 (C2 + 1)) rfl).alloc _
          case measure => simp [intOf]; omega
        · go_wp2

          go_roundw
          case rel =>
            refine ⟨k + 1, by omega, by go_num, ⟨?_⟩⟩
            rw [N0.out, N1.out, N2.out, N3.out]
            simp only [c, true_and, if_true, reduceIte, Int.add_zero, Int.reduceEq, if_false, and_true, and_false]
            exact (HA.out.put hlt 3 (.int .i64 (C3 + 1)) rfl).alloc _
          case measure => simp [intOf]; omega
      · have cb : decide (u - A < 86400) = false := decide_eq_false c
        go_wp2
        go_roundw
        case rel =>
          refine ⟨k + 1, by omega, by go_num, ⟨?_⟩⟩
          rw [N0.out, N1.out, N2.out, N3.out]
          simp only [c, false_and, if_false, reduceIte, Int.add_zero]
          exact HA.out.alloc _
        case measure => simp [intOf]; omega
    · obtain rfl : k = m := by omega
      have x0 := blk_cell HA.out.k0 0
      have x1 := blk_cell HA.out.k0 1
      have x2 := blk_cell HA.out.k0 2
      have x3 := blk_cell HA.out.k0 3
      have v0 := blk_frozen HA.out.k0 0
      have v1 := blk_frozen HA.out.k0 1
      have v2 := blk_frozen HA.out.k0 2
      have v3 := blk_frozen HA.out.k0 3
      go_wp2
      refine bodyPost_ret (v := .agg (four (cnt fi fa u 0 k) (cnt fi fa u 1 k) (cnt fi fa u 2 k) (cnt fi fa u 3 k))) (by simp [results, Try.results45, go_sem, x0, x1, x2, x3, z0, z1, z2, z3]) rfl ?_
      exact ⟨rfl, (((HA.out.hb.setCell (Nat.le_refl _) _).setCell (Nat.le_refl _) _).setCell (Nat.le_refl _) _).setCell (Nat.le_refl _) _⟩
end Go.Proofs.Ytljbajnmkkebkaa.Vo
