/- The row of the law CivilRoundTrip: for every input the call returns true and the arguments read as before. Out of the walk 'timesynclaw05_CivilRoundTrip.calls' and the plain theorem Pure.CivilRoundTrip. No condition. -/
import Derived.Test.YtjkcfkfajipfiaaRows
import Derived.Test.YtjkcfkfajipfiaaAll15
import Derived.Test.YtjkcfkfajipfiaaPureCivilRoundTrip
import Derived.Test.YtjkcfkfajipfiaaRow
import Derived.WalkKit
import Derived.ProofKit
import Derived.OpenShut
import Derived.ShutString
import Derived.ChangeOld
import Derived.Below
import Derived.SizedLaws
import Derived.Test.YtjkcfkfajipfiaaWSized
namespace Go.Proofs.Ytjkcfkfajipfiaa.civilRoundTrip
open Go.ChangeShapes Go.WideShapes Go.ChangeAt Go.RowKit
open Go.ChangeMaps (open_string shut_string)
open Go.Proofs.YtjkcfkfajipfiaaW
set_option linter.unusedVariables false
theorem own : ownKnob Try.prog.godebug = none := by kernel_rfl
theorem laidOut : laidOutB Try.prog = true := by kernel_rfl
def IsRow (k : IntKind) (w : World) (a : Option Addr) (len cap : Nat) (zs : List Int) : Prop :=
  (a = none ∧ len = 0 ∧ cap = 0 ∧ zs = []) ∨
  ∃ x, a = some x ∧ len ≤ cap ∧ cap ≤ maxLen ∧ zs.length = cap ∧ (∀ i, i < zs.length → w.cell? (x.add i) = some (.int k (zs.getD i 0))) ∧ ∀ n ∈ zs, (Lit.int k n).wf = true
set_option maxRecDepth 100000 in
theorem lifted (os : Os) (started : os.Started) (H : Type) (enc : TypeId × Value → H) :
    ReturnsInHanded {} Try.checked os 10 .any (Rows.civilRoundTripSpec.pre6 enc Try.prog Try.f10 Rows.civilRoundTripRow.domain false) (Rows.civilRoundTripSpec.post enc Try.prog Try.f10 false true false false) := by
  refine returnsInHanded_of_change_sized (C := Try.checked) own started (by kernel_rfl) Try.func10
    (ChangeSpec.witness6 (enc := enc) (C := Try.checked) false ⟨#[], #[.int .i64 0, .agg #[.int .i64 0, .int .i64 0, .int .i64 0, .int .i64 0, .int .i64 0, .int .i64 0, .int .i64 0]], []⟩ 8 (by kernel_rfl) (by kernel_rfl) (by kernel_rfl) (by kernel_rfl)) ?_
  intro W base args ds gs before hval0 hW hcnd hsz0 _
  have hsz : (DataW.weightsEach Try.prog (Try.f10.params.toList ++ Rows.civilRoundTripSpec.plain.varTypes Try.prog) (ds ++ gs)).all (· ≤ reachBytes) = true := hsz0
  have hval : ∀ (j : Nat) t v, Try.f10.params[j]? = some t → args[j]? = some v → Value.okWide Try.prog W .any base t v := hval0
  have hW' := hW
  obtain ⟨p, q, hA0, hV, rfl, hfz, hnd⟩ := hW
  have hA : DataW.TrodAll enc Try.prog W 0 (fun _ => true) true Try.f10.params.toList args.toList ds p := hA0
  rw [Try.params10] at hA hval hsz
  obtain ⟨v0, vs0, d0, ds0, p0, q0, hargs, rfl, rfl, h0, r0⟩ := trodAll_cons hA
  obtain ⟨v1, vs1, d1, ds1, p1, q1, rfl, rfl, rfl, h1, r1⟩ := trodAll_cons r0
  obtain ⟨rfl, rfl, rfl⟩ := trodAll_nil r1
  obtain rfl : args = #[v0, v1] := by cases args; simp_all
  obtain ⟨rfl, rfl⟩ := trodVars_none hV
  obtain ⟨a0, rfl, rfl, rfl, w0⟩ := open_int Try.underlying3 (hval 0 3 v0 rfl rfl) h0
  have k1 := h1
  have lt1 : ∀ x ∈ p1, x.block < W.heap.size := by obtain ⟨m, hm⟩ := k1; exact DataW.trod_lt m _ _ _ hm
  obtain ⟨r1, n1, rfl, hl1, hf1⟩ := Row.open_fields Try.underlying23 (by kernel_rfl) (by kernel_rfl) (hval 1 23 v1 rfl rfl) h1
  obtain ⟨u1_0, u1_1, u1_2, u1_3, u1_4, u1_5, u1_6, rfl⟩ := Row.list7 hl1
  obtain ⟨q1_0, y1_0, e1_0, t1_0⟩ := hf1 0 _ rfl
  obtain rfl : u1_0 = q1_0 := by simpa using e1_0
  obtain ⟨a1_0, rfl, w1_0⟩ := Row.int_field Try.underlying3 t1_0
  obtain ⟨q1_1, y1_1, e1_1, t1_1⟩ := hf1 1 _ rfl
  obtain rfl : u1_1 = q1_1 := by simpa using e1_1
  obtain ⟨a1_1, rfl, w1_1⟩ := Row.int_field Try.underlying3 t1_1
  obtain ⟨q1_2, y1_2, e1_2, t1_2⟩ := hf1 2 _ rfl
  obtain rfl : u1_2 = q1_2 := by simpa using e1_2
  obtain ⟨a1_2, rfl, w1_2⟩ := Row.int_field Try.underlying3 t1_2
  obtain ⟨q1_3, y1_3, e1_3, t1_3⟩ := hf1 3 _ rfl
  obtain rfl : u1_3 = q1_3 := by simpa using e1_3
  obtain ⟨a1_3, rfl, w1_3⟩ := Row.int_field Try.underlying3 t1_3
  obtain ⟨q1_4, y1_4, e1_4, t1_4⟩ := hf1 4 _ rfl
  obtain rfl : u1_4 = q1_4 := by simpa using e1_4
  obtain ⟨a1_4, rfl, w1_4⟩ := Row.int_field Try.underlying3 t1_4
  obtain ⟨q1_5, y1_5, e1_5, t1_5⟩ := hf1 5 _ rfl
  obtain rfl : u1_5 = q1_5 := by simpa using e1_5
  obtain ⟨a1_5, rfl, w1_5⟩ := Row.int_field Try.underlying3 t1_5
  obtain ⟨q1_6, y1_6, e1_6, t1_6⟩ := hf1 6 _ rfl
  obtain rfl : u1_6 = q1_6 := by simpa using e1_6
  obtain ⟨a1_6, rfl, w1_6⟩ := Row.int_field Try.underlying3 t1_6
  clear hA0 hval0 hsz0 hsz
  obtain ⟨k, hk⟩ := Pure.CivilRoundTrip a0 a1_0 a1_1 a1_2 a1_3 a1_4 a1_5 a1_6 (Row.i64_of_wf w0) (Row.i64_of_wf w1_0) (Row.i64_of_wf w1_1) (Row.i64_of_wf w1_2) (Row.i64_of_wf w1_3) (Row.i64_of_wf w1_4) (Row.i64_of_wf w1_5) (Row.i64_of_wf w1_6)
  refine (All.timesynclaw05_CivilRoundTrip.calls k a0 a1_0 a1_1 a1_2 a1_3 a1_4 a1_5 a1_6 true W  hk).mono fun e W' ⟨he, bel0⟩ => ?_
  have bel : Below W.heap.size W W' := bel0
  subst he
  exact ⟨_, rfl, _, _, _, [], _, [], hW', trodAll_mk1 (shut_bool Try.underlying4 _), (trodAll_cons_mk (shut_int Try.underlying3 w0) (trodAll_cons_mk (Below.trod laidOut (by kernel_rfl) (of_decide_eq_true (by kernel_rfl)) k1 bel lt1) trodAll_mk0)), rfl, bel.frame _, fun h => by cases h⟩
theorem over : Rows.civilRoundTripRow.holds Try.pinned (OpenSpec.ofChange Rows.civilRoundTripSpec) :=
  OpenClaim.holds_of_wide 10 Try.f10 rfl rfl rfl rfl rfl rfl rfl ⟨rfl, rfl, rfl, rfl, rfl⟩ rfl rfl rfl rfl rfl (by kernel_rfl) Try.func10 (by kernel_rfl)
    (of_decide_eq_true (by kernel_rfl)) (by unfold Func.isWrapper; first | (rw [if_pos (by decide +kernel)]; kernel_rfl) | (rw [if_neg (by decide +kernel)]; exact ⟨rfl, rfl⟩))
    (fun os started H enc _ => lifted os started H enc)
theorem proved : Rows.CivilRoundTripSaid := over
#print axioms proved
end Go.Proofs.Ytjkcfkfajipfiaa.civilRoundTrip
namespace Go.Proofs.Ytjkcfkfajipfiaa
/-- The row, under a short name, for the claim. -/
theorem civilRoundTrip_holds : Rows.CivilRoundTripSaid := civilRoundTrip.proved
end Go.Proofs.Ytjkcfkfajipfiaa
