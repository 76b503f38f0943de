/- LeapvoteNobody: what the function does. -/
import Derived.Test.YtljbajnmkkebkaaAwake
import Derived.Test.YtljbajnmkkebkaaCal
namespace Go.Proofs.Ytljbajnmkkebkaa.All
open Go.RowKit Go.Proofs.Ytljbajnmkkebkaa.Vo Go.Proofs.YtljbajnmkkebkaaW.PrintWords Go.Proofs.YtljbajnmkkebkaaW.PrintLast Go.Proofs.YtljbajnmkkebkaaW.PrintMore
set_option linter.unusedSimpArgs false
set_option linter.unusedVariables false

theorem leap_month.total (u n : Int) : ∃ t ok, leap_month.f u n = some (t, ok) := by
  unfold leap_month.f
  rw [Go.Proofs.Ytljbajnmkkebkaa.CivB.of_f, Option.bind_some]
  split
  · split
    · rw [Go.Proofs.Ytljbajnmkkebkaa.CivB.seconds_f]
      exact ⟨_, _, rfl⟩
    · rw [Go.Proofs.Ytljbajnmkkebkaa.CivB.seconds_f]
      exact ⟨_, _, rfl⟩
  · exact ⟨_, _, rfl⟩
def timesynclaw54_LeapvoteNobody.f (_ _ _ : Int) : Option Bool := some true
set_option maxHeartbeats 3200000 in
set_option maxRecDepth 100000 in
theorem timesynclaw54_LeapvoteNobody.calls (a0 : Int) (a1 : Int) (a2 : Int) (r : Bool) (w : World) (h : timesynclaw54_LeapvoteNobody.f a0 a1 a2 = some r) :
    Calls Try.prog 8 #[.int .i64 a0, .int .i64 a1, .int .i64 a2] w fun e w' => e = .returned (.bool r) ∧ Below w.heap.size w w' := by
  obtain rfl := Option.some.inj h
  clear h
  obtain ⟨t, ok, hm⟩ := leap_month.total a2 1
  have HM := Aside0.mk hm
  clear hm
  have hu2 := Try.underlying44
  go_enter Try.func8, Try.ntmps8
  go_wp2_with fail
  refine (counts_nil a2 _).mono ?_
  rintro e w1 ⟨rfl, hb1⟩
  have HB := Aside0.mk hb1
  clear hb1
  go_wp2_with fail
  refine (arm_nil a2 t ok _ HM.out).mono ?_
  rintro e w2 ⟨rfl, hb2⟩
  have HE : Aside0 ((w2.alloc (.cells #[.int .i64 0, .int .i64 0] 44 (0, 0))).heap[w2.heap.size]? = some (.cells #[.int .i64 0, .int .i64 0] 44 (0, 0))) := ⟨blk_new w2 _⟩
  replace HB := Aside0.mk (below_alloc (below_step HB.out hb2) (.cells #[.int .i64 0, .int .i64 0] 44 (0, 0)))
  clear hb2
  go_wp2_with fail
  refine (vote_nil a0 a1 a2 _).mono ?_
  rintro e w3 ⟨rfl, rfl⟩
  go_wp2_with fail
  refine (decision_nil a2 _).mono ?_
  rintro e w4 ⟨rfl, hb4⟩
  replace HE := Aside0.mk (blk_below HE.out hb4)
  replace HB := Aside0.mk (below_step HB.out hb4)
  clear hb4
  have e0 := blk_cell HE.out 0
  have e1 := blk_cell HE.out 1
  go_wp2_with fail
  refine (awake_ok _).mono ?_
  rintro e w5 ⟨rfl, hb5⟩
  replace HB := Aside0.mk (below_step HB.out hb5)
  clear hb5
  go_wp2
  go_ret
  exact ⟨rfl, HB.out⟩
end Go.Proofs.Ytljbajnmkkebkaa.All
