/- The row of the law OscRises: for every input the call returns true and the arguments read as before. Out of the walk 'timesynclaw09_OscRises.calls' and the plain theorem Pure.OscRises. No condition. -/
import Derived.Test.YtimbfocogklmhaaRows
import Derived.Test.YtimbfocogklmhaaAll9
import Derived.Test.YtimbfocogklmhaaPureOscRises
import Derived.Test.YtimbfocogklmhaaRow
import Derived.WalkKit
import Derived.ProofKit
import Derived.OpenShut
import Derived.ShutString
import Derived.ChangeOld
import Derived.Below
import Derived.SizedLaws
import Derived.Test.YtimbfocogklmhaaWSized
namespace Go.Proofs.Ytimbfocogklmhaa.oscRises
open Go.ChangeShapes Go.WideShapes Go.ChangeAt Go.RowKit
open Go.ChangeMaps (open_string shut_string)
open Go.Proofs.YtimbfocogklmhaaW
set_option linter.unusedVariables false
theorem own : ownKnob Try.prog.godebug = none := by kernel_rfl
theorem laidOut : laidOutB Try.prog = true := by kernel_rfl
def IsRow (k : IntKind) (w : World) (a : Option Addr) (len cap : Nat) (zs : List Int) : Prop :=
  (a = none ∧ len = 0 ∧ cap = 0 ∧ zs = []) ∨
  ∃ x, a = some x ∧ len ≤ cap ∧ cap ≤ maxLen ∧ zs.length = cap ∧ (∀ i, i < zs.length → w.cell? (x.add i) = some (.int k (zs.getD i 0))) ∧ ∀ n ∈ zs, (Lit.int k n).wf = true
set_option maxRecDepth 100000 in
theorem lifted (os : Os) (started : os.Started) (H : Type) (enc : TypeId × Value → H) :
    ReturnsInHanded {} Try.checked os 8 .any (Rows.oscRisesSpec.pre6 enc Try.prog Try.f8 Rows.oscRisesRow.domain false) (Rows.oscRisesSpec.post enc Try.prog Try.f8 false true false false) := by
  refine returnsInHanded_of_change_sized (C := Try.checked) own started (by kernel_rfl) Try.func8
    (ChangeSpec.witness6 (enc := enc) (C := Try.checked) false ⟨#[], #[.agg #[.int .i64 0, .slice none 0 0], .int .i64 0, .int .i64 0], []⟩ 8 (by kernel_rfl) (by kernel_rfl) (by kernel_rfl) (by kernel_rfl)) ?_
  intro W base args ds gs before hval0 hW hcnd hsz0 _
  have hsz : (DataW.weightsEach Try.prog (Try.f8.params.toList ++ Rows.oscRisesSpec.plain.varTypes Try.prog) (ds ++ gs)).all (· ≤ reachBytes) = true := hsz0
  have hval : ∀ (j : Nat) t v, Try.f8.params[j]? = some t → args[j]? = some v → Value.okWide Try.prog W .any base t v := hval0
  have hW' := hW
  obtain ⟨p, q, hA0, hV, rfl, hfz, hnd⟩ := hW
  have hA : DataW.TrodAll enc Try.prog W 0 (fun _ => true) true Try.f8.params.toList args.toList ds p := hA0
  rw [Try.params8] at hA hval hsz
  obtain ⟨v0, vs0, d0, ds0, p0, q0, hargs, rfl, rfl, h0, r0⟩ := trodAll_cons hA
  obtain ⟨v1, vs1, d1, ds1, p1, q1, rfl, rfl, rfl, h1, r1⟩ := trodAll_cons r0
  obtain ⟨v2, vs2, d2, ds2, p2, q2, rfl, rfl, rfl, h2, r2⟩ := trodAll_cons r1
  obtain ⟨rfl, rfl, rfl⟩ := trodAll_nil r2
  obtain rfl : args = #[v0, v1, v2] := by cases args; simp_all
  obtain ⟨rfl, rfl⟩ := trodVars_none hV
  have k0 := h0
  have lt0 : ∀ x ∈ p0, x.block < W.heap.size := by obtain ⟨m, hm⟩ := k0; exact DataW.trod_lt m _ _ _ hm
  obtain ⟨r0, n0, rfl, hl0, hf0⟩ := Row.open_fields Try.underlying24 (by kernel_rfl) (by kernel_rfl) (hval 0 24 v0 rfl rfl) h0
  obtain ⟨u0_0, u0_1, rfl⟩ := Row.list2 hl0
  obtain ⟨q0_0, y0_0, e0_0, t0_0⟩ := hf0 0 _ rfl
  obtain rfl : u0_0 = q0_0 := by simpa using e0_0
  obtain ⟨a0_0, rfl, w0_0⟩ := Row.int_field Try.underlying3 t0_0
  obtain ⟨q0_1, y0_1, e0_1, t0_1⟩ := hf0 1 _ rfl
  obtain rfl : u0_1 = q0_1 := by simpa using e0_1
  obtain ⟨A0_1, n0_1, c0_1, l0_1, rfl, hn0_1, hC0_1, hc0_1, hm0_1, he0_1⟩ := Row.rows2 All.k32 (fun x0 x1 => ⟨x0, x1⟩) rfl (fun w x0 x1 => All.k32_mk w ⟨x0, x1⟩) Try.underlying22 Try.underlying32 (by kernel_rfl) (by kernel_rfl) rfl rfl Try.underlying3 t0_1
  obtain rfl := hn0_1
  obtain ⟨a1, rfl, rfl, rfl, w1⟩ := open_int Try.underlying3 (hval 1 3 v1 rfl rfl) h1
  obtain ⟨a2, rfl, rfl, rfl, w2⟩ := open_int Try.underlying3 (hval 2 3 v2 rfl rfl) h2
  clear hA0 hval0 hsz0 hsz
  obtain ⟨k, hk⟩ := Pure.OscRises a0_0 l0_1 a1 a2 (Row.i64_of_wf w0_0) hm0_1 (fun z hz => by obtain ⟨x0, x1, rfl, w0, w1⟩ := he0_1 z hz; exact ⟨w0, w1⟩) (Row.i64_of_wf w1) (Row.i64_of_wf w2)
  refine (All.timesynclaw09_OscRises.calls k a0_0 A0_1 c0_1 l0_1 a1 a2 true W hC0_1 hc0_1 hk).mono fun e W' ⟨he, bel0⟩ => ?_
  have bel : Below W.heap.size W W' := bel0
  subst he
  exact ⟨_, rfl, _, _, _, [], _, [], hW', trodAll_mk1 (shut_bool Try.underlying4 _), (trodAll_cons_mk (Below.trod laidOut (by kernel_rfl) (of_decide_eq_true (by kernel_rfl)) k0 bel lt0) (trodAll_cons_mk (shut_int Try.underlying3 w1) (trodAll_cons_mk (shut_int Try.underlying3 w2) trodAll_mk0))), rfl, bel.frame _, fun h => by cases h⟩
theorem over : Rows.oscRisesRow.holds Try.pinned (OpenSpec.ofChange Rows.oscRisesSpec) :=
  OpenClaim.holds_of_wide 8 Try.f8 rfl rfl rfl rfl rfl rfl rfl ⟨rfl, rfl, rfl, rfl, rfl⟩ rfl rfl rfl rfl rfl (by kernel_rfl) Try.func8 (by kernel_rfl)
    (of_decide_eq_true (by kernel_rfl)) (by unfold Func.isWrapper; first | (rw [if_pos (by decide +kernel)]; kernel_rfl) | (rw [if_neg (by decide +kernel)]; exact ⟨rfl, rfl⟩))
    (fun os started H enc _ => lifted os started H enc)
theorem proved : Rows.OscRisesSaid := over
#print axioms proved
end Go.Proofs.Ytimbfocogklmhaa.oscRises
namespace Go.Proofs.Ytimbfocogklmhaa
/-- The row, under a short name, for the claim. -/
theorem oscRises_holds : Rows.OscRisesSaid := oscRises.proved
end Go.Proofs.Ytimbfocogklmhaa
