import Derived.Test.YtljbajnmkkebkaaAll3
/- Arm of leapvote at any second, of a voter and of none. No condition but what is said. -/
import Derived.Test.YtljbajnmkkebkaaVoterAsk
namespace Go.Proofs.Ytljbajnmkkebkaa.Vo
open Go.RowKit Go.Proofs.Ytljbajnmkkebkaa.All Go.Proofs.YtljbajnmkkebkaaW.PrintWords Go.Proofs.YtljbajnmkkebkaaW.PrintLast Go.Proofs.YtljbajnmkkebkaaW.PrintMore
set_option linter.unusedSimpArgs false
set_option linter.unusedVariables false

/-- What is armed: the second, the change, and whether there is one; D is the decision, t and ok the next month. -/
def armR (D t : Int) (ok : Bool) : Int × Int × Bool := if D = 1 ∨ D = 2 then (if ok = true then (t, 3 - 2 * D, true) else (0, 0, false)) else (0, 0, false)
/-- The block of the answer. -/
structure AR (w0 w : World) : Prop where
  k0 : w.heap[w0.heap.size]? = some (.cells #[.int .i64 0, .int .i64 0] 44 (0, 0))
  hb : Below w0.heap.size w0 w
theorem AR.step {w0 w w' : World} (h : AR w0 w) (hb : Below w.heap.size w w') : AR w0 w' := ⟨blk_below h.k0 hb, below_step h.hb hb⟩
theorem AR.alloc {w0 w : World} (h : AR w0 w) (o : Obj) : AR w0 (w.alloc o) := ⟨blk_alloc h.k0 o, below_alloc h.hb o⟩
theorem AR.start (w : World) : AR w (w.alloc (.cells #[.int .i64 0, .int .i64 0] 44)) := ⟨blk_new w _, below_alloc (Below.refl _ _) _⟩
set_option maxHeartbeats 6400000 in
set_option maxRecDepth 100000 in
theorem arm_of (p : Value) (D u t : Int) (ok : Bool) (w : World) (hm : leap_month.f u 1 = some (t, ok))
    (hd : ∀ W, Below w.heap.size w W → Calls Try.prog 19 #[p, .int .i64 u] W fun e w' => e = .returned (.int .i64 D) ∧ Below W.heap.size W w') :
    Calls Try.prog 20 #[p, .int .i64 u] w fun e w' => e = .returned (.tuple #[.agg #[.int .i64 (armR D t ok).1, .int .i64 (armR D t ok).2.1], .bool (armR D t ok).2.2]) ∧ Below w.heap.size w w' := by
  have hu := Try.underlying51
  have hu2 := Try.underlying44
  have HD := Aside0.mk hd
  clear hd
  have HA := Aside0.mk (AR.start w)
  by_cases d : D = 1 ∨ D = 2
  · have HR := Aside0.mk (show armR D t ok = if ok = true then (t, 3 - 2 * D, true) else (0, 0, false) from by unfold armR; rw [if_pos d])
    rw [HR.out]
    clear HR
    unfold leap_month.f at hm
    obtain ⟨⟨y, m, dd, hh, mi, s, n, q⟩, A30, H⟩ := Option.bind_eq_some_iff.mp hm
    clear hm
    replace H : (if q = 0 then (if (wrap64 (m + 1)) > 12 then ((civil_Seconds.f (wrap64 (y + 1)) 1 1 0 0 0 0).bind fun bt116 => (some (bt116.1, (bt116.2 == 0)))) else ((civil_Seconds.f y (wrap64 (m + 1)) 1 0 0 0 0).bind fun bt118 => (some (bt118.1, (bt118.2 == 0))))) else (some (0, false))) = some (t, ok) := H
    have A3 := Aside0.mk A30
    clear A30
    by_cases c4 : q = 0
    · rw [if_pos c4] at H
      subst c4
      by_cases c5 : (wrap64 (m + 1)) > 12
      · rw [if_pos c5] at H
        obtain ⟨⟨T, v⟩, A60, H⟩ := Option.bind_eq_some_iff.mp H
        replace H : (some (T, (v == 0))) = some (t, ok) := H
        have A6 := Aside0.mk A60
        clear A60
        simp only [Option.some.injEq, Prod.mk.injEq] at H
        obtain ⟨rfl, rfl⟩ := H
        have hm : decide (12 < wrap64 (m + 1)) = true := decide_eq_true c5
        clear c5
        by_cases c6 : v = 0
        · subst c6
          rw [if_pos (show ((0 : Int) == 0) = true from rfl)]
          rcases d with rfl | rfl
          · skip
            go_enter Try.func20, Try.ntmps20
            go_wp2_with fail
            refine (HD.out _ HA.out.hb).mono ?_
            rintro e w0 ⟨rfl, hb0⟩
            replace HA := Aside0.mk (HA.out.step hb0)
            clear hb0 HD
            have c0 := blk_cell HA.out.k0 0
            have c1 := blk_cell HA.out.k0 1
            have f0 := blk_frozen HA.out.k0 0
            have f1 := blk_frozen HA.out.k0 1
            have l0 := blk_lt HA.out.k0
            go_wp2_with fail
            refine (civil_Of.calls u y m dd hh mi s n 0 _ A3.out).mono ?_
            rintro e w1 ⟨rfl, hb1⟩
            replace HA := Aside0.mk (HA.out.step hb1)
            clear hb1 A3 c0 c1 f0 f1 l0
            have c0 := blk_cell HA.out.k0 0
            have c1 := blk_cell HA.out.k0 1
            have f0 := blk_frozen HA.out.k0 0
            have f1 := blk_frozen HA.out.k0 1
            have l0 := blk_lt HA.out.k0
            go_wp2_with fail
            refine (civil_Seconds.calls (wrap64 (y + 1)) 1 1 0 0 0 0 T 0 _ A6.out).mono ?_
            rintro e w2 ⟨rfl, hb2⟩
            replace HA := Aside0.mk (((HA.out.alloc _).alloc _).step hb2)
            clear hb2 A6 c0 c1 f0 f1 l0
            have c0 := blk_cell HA.out.k0 0
            have c1 := blk_cell HA.out.k0 1
            have f0 := blk_frozen HA.out.k0 0
            have f1 := blk_frozen HA.out.k0 1
            have l0 := blk_lt HA.out.k0
            go_wp2
            refine bodyPost_ret (v := .tuple #[.agg #[.int .i64 T, .int .i64 (1)], .bool true]) (by simp [results, Try.results20, go_sem, c0, c1, l0, f0, f1]) rfl ?_
            exact ⟨rfl, by repeat (first | exact HA.out.hb | apply below_alloc | apply pw_below_drewN | refine Below.setCell ?_ (by simp) _)⟩
          · skip
            go_enter Try.func20, Try.ntmps20
            go_wp2_with fail
            refine (HD.out _ HA.out.hb).mono ?_
            rintro e w0 ⟨rfl, hb0⟩
            replace HA := Aside0.mk (HA.out.step hb0)
            clear hb0 HD
            have c0 := blk_cell HA.out.k0 0
            have c1 := blk_cell HA.out.k0 1
            have f0 := blk_frozen HA.out.k0 0
            have f1 := blk_frozen HA.out.k0 1
            have l0 := blk_lt HA.out.k0
            go_wp2_with fail
            refine (civil_Of.calls u y m dd hh mi s n 0 _ A3.out).mono ?_
            rintro e w1 ⟨rfl, hb1⟩
            replace HA := Aside0.mk (HA.out.step hb1)
            clear hb1 A3 c0 c1 f0 f1 l0
            have c0 := blk_cell HA.out.k0 0
            have c1 := blk_cell HA.out.k0 1
            have f0 := blk_frozen HA.out.k0 0
            have f1 := blk_frozen HA.out.k0 1
            have l0 := blk_lt HA.out.k0
            go_wp2_with fail
            refine (civil_Seconds.calls (wrap64 (y + 1)) 1 1 0 0 0 0 T 0 _ A6.out).mono ?_
            rintro e w2 ⟨rfl, hb2⟩
            replace HA := Aside0.mk (((HA.out.alloc _).alloc _).step hb2)
            clear hb2 A6 c0 c1 f0 f1 l0
            have c0 := blk_cell HA.out.k0 0
            have c1 := blk_cell HA.out.k0 1
            have f0 := blk_frozen HA.out.k0 0
            have f1 := blk_frozen HA.out.k0 1
            have l0 := blk_lt HA.out.k0
            go_wp2
            refine bodyPost_ret (v := .tuple #[.agg #[.int .i64 T, .int .i64 (-1)], .bool true]) (by simp [results, Try.results20, go_sem, c0, c1, l0, f0, f1]) rfl ?_
            exact ⟨rfl, by repeat (first | exact HA.out.hb | apply below_alloc | apply pw_below_drewN | refine Below.setCell ?_ (by simp) _)⟩
        · rw [if_neg (show ¬ (v == 0) = true from by simpa using c6)]
          have hv : (v != 0) = true := by simpa using c6
          have hv2 : (v == 0) = false := by simpa using c6
          rcases d with rfl | rfl
          · skip
            go_enter Try.func20, Try.ntmps20
            go_wp2_with fail
            refine (HD.out _ HA.out.hb).mono ?_
            rintro e w0 ⟨rfl, hb0⟩
            replace HA := Aside0.mk (HA.out.step hb0)
            clear hb0 HD
            have c0 := blk_cell HA.out.k0 0
            have c1 := blk_cell HA.out.k0 1
            have f0 := blk_frozen HA.out.k0 0
            have f1 := blk_frozen HA.out.k0 1
            have l0 := blk_lt HA.out.k0
            go_wp2_with fail
            refine (civil_Of.calls u y m dd hh mi s n 0 _ A3.out).mono ?_
            rintro e w1 ⟨rfl, hb1⟩
            replace HA := Aside0.mk (HA.out.step hb1)
            clear hb1 A3 c0 c1 f0 f1 l0
            have c0 := blk_cell HA.out.k0 0
            have c1 := blk_cell HA.out.k0 1
            have f0 := blk_frozen HA.out.k0 0
            have f1 := blk_frozen HA.out.k0 1
            have l0 := blk_lt HA.out.k0
            go_wp2_with fail
            refine (civil_Seconds.calls (wrap64 (y + 1)) 1 1 0 0 0 0 T v _ A6.out).mono ?_
            rintro e w2 ⟨rfl, hb2⟩
            replace HA := Aside0.mk (((HA.out.alloc _).alloc _).step hb2)
            clear hb2 A6 c0 c1 f0 f1 l0
            have c0 := blk_cell HA.out.k0 0
            have c1 := blk_cell HA.out.k0 1
            have f0 := blk_frozen HA.out.k0 0
            have f1 := blk_frozen HA.out.k0 1
            have l0 := blk_lt HA.out.k0
            go_wp2
            refine bodyPost_ret (v := .tuple #[.agg #[.int .i64 0, .int .i64 0], .bool false]) (by simp [results, Try.results20, go_sem, c0, c1, l0, f0, f1]) rfl ?_
            exact ⟨rfl, by repeat (first | exact HA.out.hb | apply below_alloc | apply pw_below_drewN | refine Below.setCell ?_ (by simp) _)⟩
          · skip
            go_enter Try.func20, Try.ntmps20
            go_wp2_with fail
            refine (HD.out _ HA.out.hb).mono ?_
            rintro e w0 ⟨rfl, hb0⟩
            replace HA := Aside0.mk (HA.out.step hb0)
            clear hb0 HD
            have c0 := blk_cell HA.out.k0 0
            have c1 := blk_cell HA.out.k0 1
            have f0 := blk_frozen HA.out.k0 0
            have f1 := blk_frozen HA.out.k0 1
            have l0 := blk_lt HA.out.k0
            go_wp2_with fail
            refine (civil_Of.calls u y m dd hh mi s n 0 _ A3.out).mono ?_
            rintro e w1 ⟨rfl, hb1⟩
            replace HA := Aside0.mk (HA.out.step hb1)
            clear hb1 A3 c0 c1 f0 f1 l0
            have c0 := blk_cell HA.out.k0 0
            have c1 := blk_cell HA.out.k0 1
            have f0 := blk_frozen HA.out.k0 0
            have f1 := blk_frozen HA.out.k0 1
            have l0 := blk_lt HA.out.k0
            go_wp2_with fail
            refine (civil_Seconds.calls (wrap64 (y + 1)) 1 1 0 0 0 0 T v _ A6.out).mono ?_
            rintro e w2 ⟨rfl, hb2⟩
            replace HA := Aside0.mk (((HA.out.alloc _).alloc _).step hb2)
            clear hb2 A6 c0 c1 f0 f1 l0
            have c0 := blk_cell HA.out.k0 0
            have c1 := blk_cell HA.out.k0 1
            have f0 := blk_frozen HA.out.k0 0
            have f1 := blk_frozen HA.out.k0 1
            have l0 := blk_lt HA.out.k0
            go_wp2
            refine bodyPost_ret (v := .tuple #[.agg #[.int .i64 0, .int .i64 0], .bool false]) (by simp [results, Try.results20, go_sem, c0, c1, l0, f0, f1]) rfl ?_
            exact ⟨rfl, by repeat (first | exact HA.out.hb | apply below_alloc | apply pw_below_drewN | refine Below.setCell ?_ (by simp) _)⟩
      · rw [if_neg c5] at H
        obtain ⟨⟨T, v⟩, A60, H⟩ := Option.bind_eq_some_iff.mp H
        replace H : (some (T, (v == 0))) = some (t, ok) := H
        have A6 := Aside0.mk A60
        clear A60
        simp only [Option.some.injEq, Prod.mk.injEq] at H
        obtain ⟨rfl, rfl⟩ := H
        have hm : decide (12 < wrap64 (m + 1)) = false := decide_eq_false c5
        clear c5
        by_cases c6 : v = 0
        · subst c6
          rw [if_pos (show ((0 : Int) == 0) = true from rfl)]
          rcases d with rfl | rfl
          · skip
            go_enter Try.func20, Try.ntmps20
            go_wp2_with fail
            refine (HD.out _ HA.out.hb).mono ?_
            rintro e w0 ⟨rfl, hb0⟩
            replace HA := Aside0.mk (HA.out.step hb0)
            clear hb0 HD
            have c0 := blk_cell HA.out.k0 0
            have c1 := blk_cell HA.out.k0 1
            have f0 := blk_frozen HA.out.k0 0
            have f1 := blk_frozen HA.out.k0 1
            have l0 := blk_lt HA.out.k0
            go_wp2_with fail
            refine (civil_Of.calls u y m dd hh mi s n 0 _ A3.out).mono ?_
            rintro e w1 ⟨rfl, hb1⟩
            replace HA := Aside0.mk (HA.out.step hb1)
            clear hb1 A3 c0 c1 f0 f1 l0
            have c0 := blk_cell HA.out.k0 0
            have c1 := blk_cell HA.out.k0 1
            have f0 := blk_frozen HA.out.k0 0
            have f1 := blk_frozen HA.out.k0 1
            have l0 := blk_lt HA.out.k0
            go_wp2_with fail
            refine (civil_Seconds.calls y (wrap64 (m + 1)) 1 0 0 0 0 T 0 _ A6.out).mono ?_
            rintro e w2 ⟨rfl, hb2⟩
            replace HA := Aside0.mk (((HA.out.alloc _).alloc _).step hb2)
            clear hb2 A6 c0 c1 f0 f1 l0
            have c0 := blk_cell HA.out.k0 0
            have c1 := blk_cell HA.out.k0 1
            have f0 := blk_frozen HA.out.k0 0
            have f1 := blk_frozen HA.out.k0 1
            have l0 := blk_lt HA.out.k0
            go_wp2
            refine bodyPost_ret (v := .tuple #[.agg #[.int .i64 T, .int .i64 (1)], .bool true]) (by simp [results, Try.results20, go_sem, c0, c1, l0, f0, f1]) rfl ?_
            exact ⟨rfl, by repeat (first | exact HA.out.hb | apply below_alloc | apply pw_below_drewN | refine Below.setCell ?_ (by simp) _)⟩
          · skip
            go_enter Try.func20, Try.ntmps20
            go_wp2_with fail
            refine (HD.out _ HA.out.hb).mono ?_
            rintro e w0 ⟨rfl, hb0⟩
            replace HA := Aside0.mk (HA.out.step hb0)
            clear hb0 HD
            have c0 := blk_cell HA.out.k0 0
            have c1 := blk_cell HA.out.k0 1
            have f0 := blk_frozen HA.out.k0 0
            have f1 := blk_frozen HA.out.k0 1
            have l0 := blk_lt HA.out.k0
            go_wp2_with fail
            refine (civil_Of.calls u y m dd hh mi s n 0 _ A3.out).mono ?_
            rintro e w1 ⟨rfl, hb1⟩
            replace HA := Aside0.mk (HA.out.step hb1)
            clear hb1 A3 c0 c1 f0 f1 l0
            have c0 := blk_cell HA.out.k0 0
            have c1 := blk_cell HA.out.k0 1
            have f0 := blk_frozen HA.out.k0 0
            have f1 := blk_frozen HA.out.k0 1
            have l0 := blk_lt HA.out.k0
            go_wp2_with fail
            refine (civil_Seconds.calls y (wrap64 (m + 1)) 1 0 0 0 0 T 0 _ A6.out).mono ?_
            rintro e w2 ⟨rfl, hb2⟩
            replace HA := Aside0.mk (((HA.out.alloc _).alloc _).step hb2)
            clear hb2 A6 c0 c1 f0 f1 l0
            have c0 := blk_cell HA.out.k0 0
            have c1 := blk_cell HA.out.k0 1
            have f0 := blk_frozen HA.out.k0 0
            have f1 := blk_frozen HA.out.k0 1
            have l0 := blk_lt HA.out.k0
            go_wp2
            refine bodyPost_ret (v := .tuple #[.agg #[.int .i64 T, .int .i64 (-1)], .bool true]) (by simp [results, Try.results20, go_sem, c0, c1, l0, f0, f1]) rfl ?_
            exact ⟨rfl, by repeat (first | exact HA.out.hb | apply below_alloc | apply pw_below_drewN | refine Below.setCell ?_ (by simp) _)⟩
        · rw [if_neg (show ¬ (v == 0) = true from by simpa using c6)]
          have hv : (v != 0) = true := by simpa using c6
          have hv2 : (v == 0) = false := by simpa using c6
          rcases d with rfl | rfl
          · skip
            go_enter Try.func20, Try.ntmps20
            go_wp2_with fail
            refine (HD.out _ HA.out.hb).mono ?_
            rintro e w0 ⟨rfl, hb0⟩
            replace HA := Aside0.mk (HA.out.step hb0)
            clear hb0 HD
            have c0 := blk_cell HA.out.k0 0
            have c1 := blk_cell HA.out.k0 1
            have f0 := blk_frozen HA.out.k0 0
            have f1 := blk_frozen HA.out.k0 1
            have l0 := blk_lt HA.out.k0
            go_wp2_with fail
            refine (civil_Of.calls u y m dd hh mi s n 0 _ A3.out).mono ?_
            rintro e w1 ⟨rfl, hb1⟩
            replace HA := Aside0.mk (HA.out.step hb1)
            clear hb1 A3 c0 c1 f0 f1 l0
            have c0 := blk_cell HA.out.k0 0
            have c1 := blk_cell HA.out.k0 1
            have f0 := blk_frozen HA.out.k0 0
            have f1 := blk_frozen HA.out.k0 1
            have l0 := blk_lt HA.out.k0
            go_wp2_with fail
            refine (civil_Seconds.calls y (wrap64 (m + 1)) 1 0 0 0 0 T v _ A6.out).mono ?_
            rintro e w2 ⟨rfl, hb2⟩
            replace HA := Aside0.mk (((HA.out.alloc _).alloc _).step hb2)
            clear hb2 A6 c0 c1 f0 f1 l0
            have c0 := blk_cell HA.out.k0 0
            have c1 := blk_cell HA.out.k0 1
            have f0 := blk_frozen HA.out.k0 0
            have f1 := blk_frozen HA.out.k0 1
            have l0 := blk_lt HA.out.k0
            go_wp2
            refine bodyPost_ret (v := .tuple #[.agg #[.int .i64 0, .int .i64 0], .bool false]) (by simp [results, Try.results20, go_sem, c0, c1, l0, f0, f1]) rfl ?_
            exact ⟨rfl, by repeat (first | exact HA.out.hb | apply below_alloc | apply pw_below_drewN | refine Below.setCell ?_ (by simp) _)⟩
          · skip
            go_enter Try.func20, Try.ntmps20
            go_wp2_with fail
            refine (HD.out _ HA.out.hb).mono ?_
            rintro e w0 ⟨rfl, hb0⟩
            replace HA := Aside0.mk (HA.out.step hb0)
            clear hb0 HD
            have c0 := blk_cell HA.out.k0 0
            have c1 := blk_cell HA.out.k0 1
            have f0 := blk_frozen HA.out.k0 0
            have f1 := blk_frozen HA.out.k0 1
            have l0 := blk_lt HA.out.k0
            go_wp2_with fail
            refine (civil_Of.calls u y m dd hh mi s n 0 _ A3.out).mono ?_
            rintro e w1 ⟨rfl, hb1⟩
            replace HA := Aside0.mk (HA.out.step hb1)
            clear hb1 A3 c0 c1 f0 f1 l0
            have c0 := blk_cell HA.out.k0 0
            have c1 := blk_cell HA.out.k0 1
            have f0 := blk_frozen HA.out.k0 0
            have f1 := blk_frozen HA.out.k0 1
            have l0 := blk_lt HA.out.k0
            go_wp2_with fail
            refine (civil_Seconds.calls y (wrap64 (m + 1)) 1 0 0 0 0 T v _ A6.out).mono ?_
            rintro e w2 ⟨rfl, hb2⟩
            replace HA := Aside0.mk (((HA.out.alloc _).alloc _).step hb2)
            clear hb2 A6 c0 c1 f0 f1 l0
            have c0 := blk_cell HA.out.k0 0
            have c1 := blk_cell HA.out.k0 1
            have f0 := blk_frozen HA.out.k0 0
            have f1 := blk_frozen HA.out.k0 1
            have l0 := blk_lt HA.out.k0
            go_wp2
            refine bodyPost_ret (v := .tuple #[.agg #[.int .i64 0, .int .i64 0], .bool false]) (by simp [results, Try.results20, go_sem, c0, c1, l0, f0, f1]) rfl ?_
            exact ⟨rfl, by repeat (first | exact HA.out.hb | apply below_alloc | apply pw_below_drewN | refine Below.setCell ?_ (by simp) _)⟩
    · rw [if_neg c4] at H
      simp only [Option.some.injEq, Prod.mk.injEq] at H
      obtain ⟨rfl, rfl⟩ := H
      rw [if_neg (by decide)]
      have hq : (q != 0) = true := by simpa using c4
      rcases d with rfl | rfl
      · skip
        go_enter Try.func20, Try.ntmps20
        go_wp2_with fail
        refine (HD.out _ HA.out.hb).mono ?_
        rintro e w0 ⟨rfl, hb0⟩
        replace HA := Aside0.mk (HA.out.step hb0)
        clear hb0 HD
        have c0 := blk_cell HA.out.k0 0
        have c1 := blk_cell HA.out.k0 1
        have f0 := blk_frozen HA.out.k0 0
        have f1 := blk_frozen HA.out.k0 1
        have l0 := blk_lt HA.out.k0
        go_wp2_with fail
        refine (civil_Of.calls u y m dd hh mi s n q _ A3.out).mono ?_
        rintro e w1 ⟨rfl, hb1⟩
        replace HA := Aside0.mk (HA.out.step hb1)
        clear hb1 A3 c0 c1 f0 f1 l0
        have c0 := blk_cell HA.out.k0 0
        have c1 := blk_cell HA.out.k0 1
        have f0 := blk_frozen HA.out.k0 0
        have f1 := blk_frozen HA.out.k0 1
        have l0 := blk_lt HA.out.k0
        go_wp2
        refine bodyPost_ret (v := .tuple #[.agg #[.int .i64 0, .int .i64 0], .bool false]) (by simp [results, Try.results20, go_sem, c0, c1, l0, f0, f1]) rfl ?_
        exact ⟨rfl, by repeat (first | exact HA.out.hb | apply below_alloc | apply pw_below_drewN | refine Below.setCell ?_ (by simp) _)⟩
      · skip
        go_enter Try.func20, Try.ntmps20
        go_wp2_with fail
        refine (HD.out _ HA.out.hb).mono ?_
        rintro e w0 ⟨rfl, hb0⟩
        replace HA := Aside0.mk (HA.out.step hb0)
        clear hb0 HD
        have c0 := blk_cell HA.out.k0 0
        have c1 := blk_cell HA.out.k0 1
        have f0 := blk_frozen HA.out.k0 0
        have f1 := blk_frozen HA.out.k0 1
        have l0 := blk_lt HA.out.k0
        go_wp2_with fail
        refine (civil_Of.calls u y m dd hh mi s n q _ A3.out).mono ?_
        rintro e w1 ⟨rfl, hb1⟩
        replace HA := Aside0.mk (HA.out.step hb1)
        clear hb1 A3 c0 c1 f0 f1 l0
        have c0 := blk_cell HA.out.k0 0
        have c1 := blk_cell HA.out.k0 1
        have f0 := blk_frozen HA.out.k0 0
        have f1 := blk_frozen HA.out.k0 1
        have l0 := blk_lt HA.out.k0
        go_wp2
        refine bodyPost_ret (v := .tuple #[.agg #[.int .i64 0, .int .i64 0], .bool false]) (by simp [results, Try.results20, go_sem, c0, c1, l0, f0, f1]) rfl ?_
        exact ⟨rfl, by repeat (first | exact HA.out.hb | apply below_alloc | apply pw_below_drewN | refine Below.setCell ?_ (by simp) _)⟩
  · have d1 : decide (D = 1) = false := decide_eq_false (fun g => d (.inl g))
    have d2 : decide (D = 2) = false := decide_eq_false (fun g => d (.inr g))
    have dn1 : (D != 1) = true := by simpa using fun g => d (.inl g)
    have dn2 : (D != 2) = true := by simpa using fun g => d (.inr g)
    have HR := Aside0.mk (show armR D t ok = (0, 0, false) from by unfold armR; rw [if_neg d])
    rw [HR.out]
    clear HR d
    go_enter Try.func20, Try.ntmps20
    go_wp2_with fail
    refine (HD.out _ HA.out.hb).mono ?_
    rintro e w0 ⟨rfl, hb0⟩
    replace HA := Aside0.mk (HA.out.step hb0)
    clear hb0 HD
    have c0 := blk_cell HA.out.k0 0
    have c1 := blk_cell HA.out.k0 1
    have f0 := blk_frozen HA.out.k0 0
    have f1 := blk_frozen HA.out.k0 1
    have l0 := blk_lt HA.out.k0
    go_wp2
    refine bodyPost_ret (v := .tuple #[.agg #[.int .i64 0, .int .i64 0], .bool false]) (by simp [results, Try.results20, go_sem, c0, c1, l0, f0, f1]) rfl ?_
    exact ⟨rfl, by repeat (first | exact HA.out.hb | apply below_alloc | apply pw_below_drewN | refine Below.setCell ?_ (by simp) _)⟩
theorem arm_ok (g m : Nat) (fi fa : Nat → Int) (last u t : Int) (ok : Bool) (w : World) (hm : leap_month.f u 1 = some (t, ok)) (hn : 1 ≤ m ∧ m ≤ 12) (hv : VB w g (m : Int) fi fa last) (hg : Good fi fa) :
    Calls Try.prog 20 #[.pointer (some ⟨g, 0, none⟩), .int .i64 u] w fun e w' => e = .returned (.tuple #[.agg #[.int .i64 (armR (decV fi fa u m) t ok).1, .int .i64 (armR (decV fi fa u m) t ok).2.1], .bool (armR (decV fi fa u m) t ok).2.2]) ∧ Below w.heap.size w w' :=
  arm_of _ _ u t ok w hm (fun W hW => decision_ok g m fi fa last u W hn (blk_below hv hW) hg)
theorem arm_nil (u t : Int) (ok : Bool) (w : World) (hm : leap_month.f u 1 = some (t, ok)) :
    Calls Try.prog 20 #[.pointer none, .int .i64 u] w fun e w' => e = .returned (.tuple #[.agg #[.int .i64 0, .int .i64 0], .bool false]) ∧ Below w.heap.size w w' :=
  arm_of _ 3 u t ok w hm (fun W _ => decision_nil u W)
end Go.Proofs.Ytljbajnmkkebkaa.Vo
