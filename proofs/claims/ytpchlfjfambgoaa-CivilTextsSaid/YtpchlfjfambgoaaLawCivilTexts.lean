/- The row of the law CivilTexts: for every input the call returns true and the arguments read as before. Out of the walk 'timesynclaw05_CivilTexts.calls' and the plain theorem Pure.CivilTexts. No condition. -/
import Derived.Test.YtpchlfjfambgoaaRows
import Derived.Test.YtpchlfjfambgoaaAll10
import Derived.Test.YtpchlfjfambgoaaPureCivilTexts
import Derived.Test.YtpchlfjfambgoaaRow
import Derived.WalkKit
import Derived.ProofKit
import Derived.OpenShut
import Derived.ShutString
import Derived.ChangeOld
import Derived.Below
import Derived.SizedLaws
import Derived.Test.YtpchlfjfambgoaaWSized
namespace Go.Proofs.Ytpchlfjfambgoaa.civilTexts
open Go.ChangeShapes Go.WideShapes Go.ChangeAt Go.RowKit
open Go.ChangeMaps (open_string shut_string)
open Go.Proofs.YtpchlfjfambgoaaW
set_option linter.unusedVariables false
theorem own : ownKnob Try.prog.godebug = none := by kernel_rfl
theorem laidOut : laidOutB Try.prog = true := by kernel_rfl
def IsRow (k : IntKind) (w : World) (a : Option Addr) (len cap : Nat) (zs : List Int) : Prop :=
  (a = none ∧ len = 0 ∧ cap = 0 ∧ zs = []) ∨
  ∃ x, a = some x ∧ len ≤ cap ∧ cap ≤ maxLen ∧ zs.length = cap ∧ (∀ i, i < zs.length → w.cell? (x.add i) = some (.int k (zs.getD i 0))) ∧ ∀ n ∈ zs, (Lit.int k n).wf = true
set_option maxRecDepth 100000 in
theorem lifted (os : Os) (started : os.Started) (H : Type) (enc : TypeId × Value → H) :
    ReturnsInHanded {} Try.checked os 4 .any (Rows.civilTextsSpec.pre6 enc Try.prog Try.f4 Rows.civilTextsRow.domain false) (Rows.civilTextsSpec.post enc Try.prog Try.f4 false true false false) := by
  refine returnsInHanded_of_change_sized (C := Try.checked) own started (by kernel_rfl) Try.func4
    (ChangeSpec.witness6 (enc := enc) (C := Try.checked) false ⟨#[], #[.agg #[.int .i64 0, .int .i64 0, .int .i64 0, .int .i64 0, .int .i64 0, .int .i64 0, .int .i64 0], .string ByteArray.empty], []⟩ 8 (by kernel_rfl) (by kernel_rfl) (by kernel_rfl) (by kernel_rfl)) ?_
  intro W base args ds gs before hval0 hW hcnd hsz0 _
  have hsz : (DataW.weightsEach Try.prog (Try.f4.params.toList ++ Rows.civilTextsSpec.plain.varTypes Try.prog) (ds ++ gs)).all (· ≤ reachBytes) = true := hsz0
  have hval : ∀ (j : Nat) t v, Try.f4.params[j]? = some t → args[j]? = some v → Value.okWide Try.prog W .any base t v := hval0
  have hW' := hW
  obtain ⟨p, q, hA0, hV, rfl, hfz, hnd⟩ := hW
  have hA : DataW.TrodAll enc Try.prog W 0 (fun _ => true) true Try.f4.params.toList args.toList ds p := hA0
  rw [Try.params4] at hA hval hsz
  obtain ⟨v0, vs0, d0, ds0, p0, q0, hargs, rfl, rfl, h0, r0⟩ := trodAll_cons hA
  obtain ⟨v1, vs1, d1, ds1, p1, q1, rfl, rfl, rfl, h1, r1⟩ := trodAll_cons r0
  obtain ⟨rfl, rfl, rfl⟩ := trodAll_nil r1
  obtain rfl : args = #[v0, v1] := by cases args; simp_all
  obtain ⟨rfl, rfl⟩ := trodVars_none hV
  have k0 := h0
  have lt0 : ∀ x ∈ p0, x.block < W.heap.size := by obtain ⟨m, hm⟩ := k0; exact DataW.trod_lt m _ _ _ hm
  obtain ⟨r0, n0, rfl, hl0, hf0⟩ := Row.open_fields Try.underlying23 (by kernel_rfl) (by kernel_rfl) (hval 0 23 v0 rfl rfl) h0
  obtain ⟨u0_0, u0_1, u0_2, u0_3, u0_4, u0_5, u0_6, rfl⟩ := Row.list7 hl0
  obtain ⟨q0_0, y0_0, e0_0, t0_0⟩ := hf0 0 _ rfl
  obtain rfl : u0_0 = q0_0 := by simpa using e0_0
  obtain ⟨a0_0, rfl, w0_0⟩ := Row.int_field Try.underlying3 t0_0
  obtain ⟨q0_1, y0_1, e0_1, t0_1⟩ := hf0 1 _ rfl
  obtain rfl : u0_1 = q0_1 := by simpa using e0_1
  obtain ⟨a0_1, rfl, w0_1⟩ := Row.int_field Try.underlying3 t0_1
  obtain ⟨q0_2, y0_2, e0_2, t0_2⟩ := hf0 2 _ rfl
  obtain rfl : u0_2 = q0_2 := by simpa using e0_2
  obtain ⟨a0_2, rfl, w0_2⟩ := Row.int_field Try.underlying3 t0_2
  obtain ⟨q0_3, y0_3, e0_3, t0_3⟩ := hf0 3 _ rfl
  obtain rfl : u0_3 = q0_3 := by simpa using e0_3
  obtain ⟨a0_3, rfl, w0_3⟩ := Row.int_field Try.underlying3 t0_3
  obtain ⟨q0_4, y0_4, e0_4, t0_4⟩ := hf0 4 _ rfl
  obtain rfl : u0_4 = q0_4 := by simpa using e0_4
  obtain ⟨a0_4, rfl, w0_4⟩ := Row.int_field Try.underlying3 t0_4
  obtain ⟨q0_5, y0_5, e0_5, t0_5⟩ := hf0 5 _ rfl
  obtain rfl : u0_5 = q0_5 := by simpa using e0_5
  obtain ⟨a0_5, rfl, w0_5⟩ := Row.int_field Try.underlying3 t0_5
  obtain ⟨q0_6, y0_6, e0_6, t0_6⟩ := hf0 6 _ rfl
  obtain rfl : u0_6 = q0_6 := by simpa using e0_6
  obtain ⟨a0_6, rfl, w0_6⟩ := Row.int_field Try.underlying3 t0_6
  obtain ⟨a1, rfl, rfl, rfl, y1⟩ := open_string Try.underlying9 (hval 1 9 v1 rfl rfl) h1
  have w1 : a1.size ≤ 140737488351232 := by
    have z := sized_string hsz (j := 1) (t := 9) rfl rfl
    rw [Array.length_toList] at z
    exact z
  clear hA0 hval0 hsz0 hsz
  obtain ⟨k, hk⟩ := Pure.CivilTexts a0_0 a0_1 a0_2 a0_3 a0_4 a0_5 a0_6 a1 (Row.i64_of_wf w0_0) (Row.i64_of_wf w0_1) (Row.i64_of_wf w0_2) (Row.i64_of_wf w0_3) (Row.i64_of_wf w0_4) (Row.i64_of_wf w0_5) (Row.i64_of_wf w0_6) w1
  refine (All.timesynclaw05_CivilTexts.calls k a0_0 a0_1 a0_2 a0_3 a0_4 a0_5 a0_6 a1 true W  hk).mono fun e W' ⟨he, bel0⟩ => ?_
  have bel : Below W.heap.size W W' := bel0
  subst he
  exact ⟨_, rfl, _, _, _, [], _, [], hW', trodAll_mk1 (shut_bool Try.underlying4 _), (trodAll_cons_mk (Below.trod laidOut (by kernel_rfl) (of_decide_eq_true (by kernel_rfl)) k0 bel lt0) (trodAll_cons_mk (shut_string Try.underlying9 y1) trodAll_mk0)), rfl, bel.frame _, fun h => by cases h⟩
theorem over : Rows.civilTextsRow.holds Try.pinned (OpenSpec.ofChange Rows.civilTextsSpec) :=
  OpenClaim.holds_of_wide 4 Try.f4 rfl rfl rfl rfl rfl rfl rfl ⟨rfl, rfl, rfl, rfl, rfl⟩ rfl rfl rfl rfl rfl (by kernel_rfl) Try.func4 (by kernel_rfl)
    (of_decide_eq_true (by kernel_rfl)) (by unfold Func.isWrapper; first | (rw [if_pos (by decide +kernel)]; kernel_rfl) | (rw [if_neg (by decide +kernel)]; exact ⟨rfl, rfl⟩))
    (fun os started H enc _ => lifted os started H enc)
theorem proved : Rows.CivilTextsSaid := over
#print axioms proved
end Go.Proofs.Ytpchlfjfambgoaa.civilTexts
namespace Go.Proofs.Ytpchlfjfambgoaa
/-- The row, under a short name, for the claim. -/
theorem civilTexts_holds : Rows.CivilTextsSaid := civilTexts.proved
end Go.Proofs.Ytpchlfjfambgoaa
