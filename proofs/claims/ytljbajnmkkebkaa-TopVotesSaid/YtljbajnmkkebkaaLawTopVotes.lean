/- The row of the law TopVotes: for every input the call returns true and the arguments read as before. Out of the walk 'timesynctop_TopVotes.calls' and the plain theorem Pure.TopVotes. No condition. -/
import Derived.Test.YtljbajnmkkebkaaRows
import Derived.Test.YtljbajnmkkebkaaFTop
import Derived.Test.YtljbajnmkkebkaaPureTopVotes
import Derived.Test.YtljbajnmkkebkaaRow
import Derived.WalkKit
import Derived.ProofKit
import Derived.OpenShut
import Derived.ShutString
import Derived.ChangeOld
import Derived.Below
import Derived.SizedLaws
import Derived.Test.YtljbajnmkkebkaaWSized
namespace Go.Proofs.Ytljbajnmkkebkaa.topVotes
open Go.ChangeShapes Go.WideShapes Go.ChangeAt Go.RowKit
open Go.ChangeMaps (open_string shut_string)
open Go.Proofs.YtljbajnmkkebkaaW
set_option linter.unusedVariables false
theorem own : ownKnob Try.prog.godebug = none := by kernel_rfl
theorem laidOut : laidOutB Try.prog = true := by kernel_rfl
def IsRow (k : IntKind) (w : World) (a : Option Addr) (len cap : Nat) (zs : List Int) : Prop :=
  (a = none ∧ len = 0 ∧ cap = 0 ∧ zs = []) ∨
  ∃ x, a = some x ∧ len ≤ cap ∧ cap ≤ maxLen ∧ zs.length = cap ∧ (∀ i, i < zs.length → w.cell? (x.add i) = some (.int k (zs.getD i 0))) ∧ ∀ n ∈ zs, (Lit.int k n).wf = true
set_option maxRecDepth 100000 in
theorem lifted (os : Os) (started : os.Started) (H : Type) (enc : TypeId × Value → H) :
    ReturnsInHanded {} Try.checked os 4 .any (Rows.topVotesSpec.pre6 enc Try.prog Try.f4 Rows.topVotesRow.domain false) (Rows.topVotesSpec.post enc Try.prog Try.f4 false true false false) := by
  refine returnsInHanded_of_change_sized (C := Try.checked) own started (by kernel_rfl) Try.func4
    (ChangeSpec.witness6 (enc := enc) (C := Try.checked) false ⟨#[], #[.agg #[.int .i64 0, .int .i64 0, .slice none 0 0], .slice none 0 0, .int .i64 0], []⟩ 8 (by kernel_rfl) (by kernel_rfl) (by kernel_rfl) (by kernel_rfl)) ?_
  intro W base args ds gs before hval0 hW hcnd hsz0 _
  have hsz : (DataW.weightsEach Try.prog (Try.f4.params.toList ++ Rows.topVotesSpec.plain.varTypes Try.prog) (ds ++ gs)).all (· ≤ reachBytes) = true := hsz0
  have hval : ∀ (j : Nat) t v, Try.f4.params[j]? = some t → args[j]? = some v → Value.okWide Try.prog W .any base t v := hval0
  have hW' := hW
  obtain ⟨p, q, hA0, hV, rfl, hfz, hnd⟩ := hW
  have hA : DataW.TrodAll enc Try.prog W 0 (fun _ => true) true Try.f4.params.toList args.toList ds p := hA0
  rw [Try.params4] at hA hval hsz
  obtain ⟨v0, vs0, d0, ds0, p0, q0, hargs, rfl, rfl, h0, r0⟩ := trodAll_cons hA
  obtain ⟨v1, vs1, d1, ds1, p1, q1, rfl, rfl, rfl, h1, r1⟩ := trodAll_cons r0
  obtain ⟨v2, vs2, d2, ds2, p2, q2, rfl, rfl, rfl, h2, r2⟩ := trodAll_cons r1
  obtain ⟨rfl, rfl, rfl⟩ := trodAll_nil r2
  obtain rfl : args = #[v0, v1, v2] := by cases args; simp_all
  obtain ⟨rfl, rfl⟩ := trodVars_none hV
  have k0 := h0
  have lt0 : ∀ x ∈ p0, x.block < W.heap.size := by obtain ⟨m, hm⟩ := k0; exact DataW.trod_lt m _ _ _ hm
  obtain ⟨r0, n0, rfl, hl0, hf0⟩ := Row.open_fields Try.underlying24 (by kernel_rfl) (by kernel_rfl) (hval 0 24 v0 rfl rfl) h0
  obtain ⟨u0_0, u0_1, u0_2, rfl⟩ := Row.list3 hl0
  obtain ⟨q0_0, y0_0, e0_0, t0_0⟩ := hf0 0 _ rfl
  obtain rfl : u0_0 = q0_0 := by simpa using e0_0
  obtain ⟨a0_0, rfl, w0_0⟩ := Row.int_field Try.underlying3 t0_0
  obtain ⟨q0_1, y0_1, e0_1, t0_1⟩ := hf0 1 _ rfl
  obtain rfl : u0_1 = q0_1 := by simpa using e0_1
  obtain ⟨a0_1, rfl, w0_1⟩ := Row.int_field Try.underlying3 t0_1
  obtain ⟨q0_2, y0_2, e0_2, t0_2⟩ := hf0 2 _ rfl
  obtain rfl : u0_2 = q0_2 := by simpa using e0_2
  obtain ⟨A0_2, n0_2, c0_2, l0_2, rfl, hn0_2, hC0_2, hc0_2, hm0_2, he0_2⟩ := Row.rows2 All.k44 (fun x0 x1 => ⟨x0, x1⟩) rfl (fun w x0 x1 => All.k44_mk w ⟨x0, x1⟩) Try.underlying22 Try.underlying44 (by kernel_rfl) (by kernel_rfl) rfl rfl Try.underlying3 t0_2
  obtain rfl := hn0_2
  have k1 := h1
  have lt1 : ∀ x ∈ p1, x.block < W.heap.size := by obtain ⟨m, hm⟩ := k1; exact DataW.trod_lt m _ _ _ hm
  obtain ⟨b1, len1, cap1, rfl⟩ := okWide_slice Try.underlying37 (hval 1 37 v1 rfl rfl)
  obtain ⟨z1, w1⟩ : ∃ zs, IsRow .i64 W b1 len1 cap1 zs := by
    obtain ⟨fuel, hf⟩ := h1
    rcases open_ints Try.underlying37 Try.underlying3 (by kernel_rfl) hf with ⟨hcs, _⟩ | ⟨x, l, c, zs, hcs, _, hl, hm, hz, _, hcell, hwz⟩
    · simp [Value.cells] at hcs
      obtain ⟨rfl, rfl, rfl⟩ := hcs
      exact ⟨[], .inl ⟨rfl, rfl, rfl, rfl⟩⟩
    · simp [Value.cells] at hcs
      obtain ⟨rfl, rfl, rfl⟩ := hcs
      exact ⟨zs, .inr ⟨_, rfl, hl, hm, by simpa using hz, hcell, hwz⟩⟩
  obtain ⟨l1, rfl, hr1, hm1, hw1, hc1⟩ := PrintWords.ReadsInt.ofRowC w1
  obtain ⟨a2, rfl, rfl, rfl, w2⟩ := open_int Try.underlying3 (hval 2 3 v2 rfl rfl) h2
  clear hA0 hval0 hsz0 hsz
  have hk := Pure.TopVotes a0_0 a0_1 l0_2 l1 a2 (Row.i64_of_wf w0_0) (Row.i64_of_wf w0_1) hm0_2 (fun z hz => by obtain ⟨x0, x1, rfl, w0, w1⟩ := he0_2 z hz; exact ⟨w0, w1⟩) (by simpa [maxLen] using hm1) (fun z hz => Row.i64_of_wf (hw1 z hz)) (Row.i64_of_wf w2)
  refine (All.timesynctop_TopVotes.calls a0_0 a0_1 A0_2 c0_2 l0_2 _ _ l1 a2 true W hC0_2 hc0_2 (PrintWords.Kd.C_of_reads (d := (0 : Int)) (h1 := fun _ => rfl) hr1) hc1 hk).mono fun e W' ⟨he, bel0⟩ => ?_
  have bel : Below W.heap.size W W' := bel0
  subst he
  exact ⟨_, rfl, _, _, _, [], _, [], hW', trodAll_mk1 (shut_bool Try.underlying4 _), (trodAll_cons_mk (Below.trod laidOut (by kernel_rfl) (of_decide_eq_true (by kernel_rfl)) k0 bel lt0) (trodAll_cons_mk (Below.trod laidOut (by kernel_rfl) (of_decide_eq_true (by kernel_rfl)) k1 bel lt1) (trodAll_cons_mk (shut_int Try.underlying3 w2) trodAll_mk0))), rfl, bel.frame _, fun h => by cases h⟩
theorem over : Rows.topVotesRow.holds Try.pinned (OpenSpec.ofChange Rows.topVotesSpec) :=
  OpenClaim.holds_of_wide 4 Try.f4 rfl rfl rfl rfl rfl rfl rfl ⟨rfl, rfl, rfl, rfl, rfl⟩ rfl rfl rfl rfl rfl (by kernel_rfl) Try.func4 (by kernel_rfl)
    (of_decide_eq_true (by kernel_rfl)) (by unfold Func.isWrapper; first | (rw [if_pos (by decide +kernel)]; kernel_rfl) | (rw [if_neg (by decide +kernel)]; exact ⟨rfl, rfl⟩))
    (fun os started H enc _ => lifted os started H enc)
theorem proved : Rows.TopVotesSaid := over
#print axioms proved
end Go.Proofs.Ytljbajnmkkebkaa.topVotes
namespace Go.Proofs.Ytljbajnmkkebkaa
/-- The row, under a short name, for the claim. -/
theorem topVotes_holds : Rows.TopVotesSaid := topVotes.proved
end Go.Proofs.Ytljbajnmkkebkaa
