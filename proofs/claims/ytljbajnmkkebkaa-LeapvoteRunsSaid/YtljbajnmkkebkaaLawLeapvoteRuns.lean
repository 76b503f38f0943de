/- The row of the law LeapvoteRuns: for every input the call returns true and the arguments read as before. Out of the walk 'timesynclaw54_LeapvoteRuns.calls' and the plain theorem Pure.LeapvoteRuns. No condition. -/
import Derived.Test.YtljbajnmkkebkaaRows
import Derived.Test.YtljbajnmkkebkaaFRuns
import Derived.Test.YtljbajnmkkebkaaPureLeapvoteRuns
import Derived.Test.YtljbajnmkkebkaaRow
import Derived.WalkKit
import Derived.ProofKit
import Derived.OpenShut
import Derived.ShutString
import Derived.ChangeOld
import Derived.Below
import Derived.SizedLaws
import Derived.Test.YtljbajnmkkebkaaWSized
namespace Go.Proofs.Ytljbajnmkkebkaa.leapvoteRuns
open Go.ChangeShapes Go.WideShapes Go.ChangeAt Go.RowKit
open Go.ChangeMaps (open_string shut_string)
open Go.Proofs.YtljbajnmkkebkaaW
set_option linter.unusedVariables false
theorem own : ownKnob Try.prog.godebug = none := by kernel_rfl
theorem laidOut : laidOutB Try.prog = true := by kernel_rfl
def IsRow (k : IntKind) (w : World) (a : Option Addr) (len cap : Nat) (zs : List Int) : Prop :=
  (a = none ∧ len = 0 ∧ cap = 0 ∧ zs = []) ∨
  ∃ x, a = some x ∧ len ≤ cap ∧ cap ≤ maxLen ∧ zs.length = cap ∧ (∀ i, i < zs.length → w.cell? (x.add i) = some (.int k (zs.getD i 0))) ∧ ∀ n ∈ zs, (Lit.int k n).wf = true
set_option maxRecDepth 100000 in
theorem lifted (os : Os) (started : os.Started) (H : Type) (enc : TypeId × Value → H) :
    ReturnsInHanded {} Try.checked os 5 .any (Rows.leapvoteRunsSpec.pre6 enc Try.prog Try.f5 Rows.leapvoteRunsRow.domain false) (Rows.leapvoteRunsSpec.post enc Try.prog Try.f5 false true false false) := by
  refine returnsInHanded_of_change_sized (C := Try.checked) own started (by kernel_rfl) Try.func5
    (ChangeSpec.witness6 (enc := enc) (C := Try.checked) false ⟨#[], #[.int .i64 0, .slice none 0 0, .int .i64 0], []⟩ 8 (by kernel_rfl) (by kernel_rfl) (by kernel_rfl) (by kernel_rfl)) ?_
  intro W base args ds gs before hval0 hW hcnd hsz0 _
  have hsz : (DataW.weightsEach Try.prog (Try.f5.params.toList ++ Rows.leapvoteRunsSpec.plain.varTypes Try.prog) (ds ++ gs)).all (· ≤ reachBytes) = true := hsz0
  have hval : ∀ (j : Nat) t v, Try.f5.params[j]? = some t → args[j]? = some v → Value.okWide Try.prog W .any base t v := hval0
  have hW' := hW
  obtain ⟨p, q, hA0, hV, rfl, hfz, hnd⟩ := hW
  have hA : DataW.TrodAll enc Try.prog W 0 (fun _ => true) true Try.f5.params.toList args.toList ds p := hA0
  rw [Try.params5] at hA hval hsz
  obtain ⟨v0, vs0, d0, ds0, p0, q0, hargs, rfl, rfl, h0, r0⟩ := trodAll_cons hA
  obtain ⟨v1, vs1, d1, ds1, p1, q1, rfl, rfl, rfl, h1, r1⟩ := trodAll_cons r0
  obtain ⟨v2, vs2, d2, ds2, p2, q2, rfl, rfl, rfl, h2, r2⟩ := trodAll_cons r1
  obtain ⟨rfl, rfl, rfl⟩ := trodAll_nil r2
  obtain rfl : args = #[v0, v1, v2] := by cases args; simp_all
  obtain ⟨rfl, rfl⟩ := trodVars_none hV
  obtain ⟨a0, rfl, rfl, rfl, w0⟩ := open_int Try.underlying3 (hval 0 3 v0 rfl rfl) h0
  have k1 := h1
  have lt1 : ∀ x ∈ p1, x.block < W.heap.size := by obtain ⟨m, hm⟩ := k1; exact DataW.trod_lt m _ _ _ hm
  obtain ⟨b1, len1, cap1, rfl⟩ := okWide_slice Try.underlying56 (hval 1 56 v1 rfl rfl)
  obtain ⟨f1, hf1⟩ := h1
  obtain ⟨A1, n1, c1, l1, ev1, hn1, hC1, hc1, hm1, he1⟩ := Row.rows3 All.k60 (fun x0 x1 x2 => ⟨x0, x1, x2⟩) rfl (fun w x0 x1 x2 => All.k60_mk w ⟨x0, x1, x2⟩) Try.underlying56 Try.underlying60 (by kernel_rfl) (by kernel_rfl) rfl rfl rfl Try.underlying3 (by simpa [Value.cells] using hf1)
  obtain ⟨rfl, rfl, rfl⟩ : A1 = b1 ∧ n1 = len1 ∧ c1 = cap1 := by injection ev1 with h1 h2 h3; exact ⟨h1.symm, h2.symm, h3.symm⟩
  obtain rfl := hn1
  obtain ⟨a2, rfl, rfl, rfl, w2⟩ := open_int Try.underlying3 (hval 2 3 v2 rfl rfl) h2
  clear hA0 hval0 hsz0 hsz
  have hk := Pure.LeapvoteRuns a0 l1 a2 (Row.i64_of_wf w0) hm1 (fun z hz => by obtain ⟨x0, x1, x2, rfl, w0, w1, w2⟩ := he1 z hz; exact ⟨w0, w1, w2⟩) (Row.i64_of_wf w2)
  refine (All.timesynclaw54_LeapvoteRuns.calls a0 A1 c1 l1 a2 true W hC1 hc1 hk).mono fun e W' ⟨he, bel0⟩ => ?_
  have bel : Below W.heap.size W W' := bel0
  subst he
  exact ⟨_, rfl, _, _, _, [], _, [], hW', trodAll_mk1 (shut_bool Try.underlying4 _), (trodAll_cons_mk (shut_int Try.underlying3 w0) (trodAll_cons_mk (Below.trod laidOut (by kernel_rfl) (of_decide_eq_true (by kernel_rfl)) k1 bel lt1) (trodAll_cons_mk (shut_int Try.underlying3 w2) trodAll_mk0))), rfl, bel.frame _, fun h => by cases h⟩
theorem over : Rows.leapvoteRunsRow.holds Try.pinned (OpenSpec.ofChange Rows.leapvoteRunsSpec) :=
  OpenClaim.holds_of_wide 5 Try.f5 rfl rfl rfl rfl rfl rfl rfl ⟨rfl, rfl, rfl, rfl, rfl⟩ rfl rfl rfl rfl rfl (by kernel_rfl) Try.func5 (by kernel_rfl)
    (of_decide_eq_true (by kernel_rfl)) (by unfold Func.isWrapper; first | (rw [if_pos (by decide +kernel)]; kernel_rfl) | (rw [if_neg (by decide +kernel)]; exact ⟨rfl, rfl⟩))
    (fun os started H enc _ => lifted os started H enc)
theorem proved : Rows.LeapvoteRunsSaid := over
#print axioms proved
end Go.Proofs.Ytljbajnmkkebkaa.leapvoteRuns
namespace Go.Proofs.Ytljbajnmkkebkaa
/-- The row, under a short name, for the claim. -/
theorem leapvoteRuns_holds : Rows.LeapvoteRunsSaid := leapvoteRuns.proved
end Go.Proofs.Ytljbajnmkkebkaa
