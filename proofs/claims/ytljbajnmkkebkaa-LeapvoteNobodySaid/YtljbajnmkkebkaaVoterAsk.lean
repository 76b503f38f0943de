/- Decision and Counts of leapvote at any second, of a voter and of none. No condition but what is said. -/
import Derived.Test.YtljbajnmkkebkaaVoterDec
namespace Go.Proofs.Ytljbajnmkkebkaa.Vo
open Go.RowKit Go.Proofs.Ytljbajnmkkebkaa.All Go.Proofs.YtljbajnmkkebkaaW.PrintWords Go.Proofs.YtljbajnmkkebkaaW.PrintLast Go.Proofs.YtljbajnmkkebkaaW.PrintMore
set_option linter.unusedSimpArgs false
set_option linter.unusedVariables false

/-- How many votes there are for c at a second. -/
def tc (fi fa : Nat → Int) (u c : Int) (m : Nat) : Int := if -8000000000 ≤ u ∧ u ≤ 8000000000 then cnt fi fa u c m else 0
theorem tc_bd (fi fa : Nat → Int) (u c : Int) (m : Nat) : 0 ≤ tc fi fa u c m ∧ tc fi fa u c m ≤ m := by
  have h := cnt_bd fi fa u c m
  unfold tc
  split
  · exact h
  · omega
theorem tally_any (g m : Nat) (fi fa : Nat → Int) (last u : Int) (w : World) (hn : 1 ≤ m ∧ m ≤ 12) (hv : VB w g (m : Int) fi fa last) (hg : Good fi fa) :
    Calls Try.prog 45 #[.pointer (some ⟨g, 0, none⟩), .int .i64 u] w fun e w' => e = .returned (.agg #[.int .i64 (tc fi fa u 0 m), .int .i64 (tc fi fa u 1 m), .int .i64 (tc fi fa u 2 m), .int .i64 (tc fi fa u 3 m)]) ∧ Below w.heap.size w w' := by
  by_cases hu : -8000000000 ≤ u ∧ u ≤ 8000000000
  · have h := tally_ok g m fi fa last u w hn hv hg hu
    have e : ∀ c, tc fi fa u c m = cnt fi fa u c m := fun c => by unfold tc; rw [if_pos hu]
    rw [e, e, e, e]
    exact h
  · have h := tally_out g u w hu
    have e : ∀ c, tc fi fa u c m = 0 := fun c => by unfold tc; rw [if_neg hu]
    rw [e, e, e, e]
    exact h
/-- What is decided at a second. -/
def decV (fi fa : Nat → Int) (u : Int) (m : Nat) : Int := dec m (tc fi fa u 0 m) (tc fi fa u 1 m) (tc fi fa u 2 m)
theorem decision_ok (g m : Nat) (fi fa : Nat → Int) (last u : Int) (w : World) (hn : 1 ≤ m ∧ m ≤ 12) (hv : VB w g (m : Int) fi fa last) (hg : Good fi fa) :
    Calls Try.prog 19 #[.pointer (some ⟨g, 0, none⟩), .int .i64 u] w fun e w' => e = .returned (.int .i64 (decV fi fa u m)) ∧ Below w.heap.size w w' := by
  have b0 := tc_bd fi fa u 0 m
  have b1 := tc_bd fi fa u 1 m
  have b2 := tc_bd fi fa u 2 m
  have b3 := tc_bd fi fa u 3 m
  exact dec_ok g m _ _ _ (tc fi fa u 3 m) u w (by omega) (by omega) (by omega) (by omega) (by omega) ((blk_cell hv 0).trans (VC_n ..)) (fun W hW => tally_any g m fi fa last u W hn (blk_below hv hW) hg)
set_option maxHeartbeats 1600000 in
set_option maxRecDepth 100000 in
theorem decision_nil (u : Int) (w : World) :
    Calls Try.prog 19 #[.pointer none, .int .i64 u] w fun e w' => e = .returned (.int .i64 3) ∧ Below w.heap.size w w' := by
  have hu1 := Try.underlying84
  have hu3 := Try.underlying85
  have HT := Aside0.mk (fun W => tally_nil u W)
  have i0 : ∀ W, (Instr.index 85 (.agg #[.int .i64 0, .int .i64 0, .int .i64 0, .int .i64 0]) (.int .i64 0)).run Try.prog W = .ok (.int .i64 0) W := fun _ => by kernel_rfl
  have i1 : ∀ W, (Instr.index 85 (.agg #[.int .i64 0, .int .i64 0, .int .i64 0, .int .i64 0]) (.int .i64 1)).run Try.prog W = .ok (.int .i64 0) W := fun _ => by kernel_rfl
  have i2 : ∀ W, (Instr.index 85 (.agg #[.int .i64 0, .int .i64 0, .int .i64 0, .int .i64 0]) (.int .i64 2)).run Try.prog W = .ok (.int .i64 0) W := fun _ => by kernel_rfl
  have i3 : ∀ W, (Instr.index 85 (.agg #[.int .i64 0, .int .i64 0, .int .i64 0, .int .i64 0]) (.int .i64 3)).run Try.prog W = .ok (.int .i64 0) W := fun _ => by kernel_rfl
  go_enter Try.func19, Try.ntmps19
  go_wp2_with fail
  refine (HT.out _).mono ?_
  rintro e w1 ⟨rfl, hb1⟩
  have HB := Aside0.mk hb1
  clear hb1 HT
  go_wp2
  go_loop [10] (fun q => q = .int .i64 0 ∨ q = .int .i64 1 ∨ q = .int .i64 2 ∨ q = .int .i64 3 ∨ q = .int .i64 4) (fun q => 4 - (intOf q).toNat)
  case atStart => exact .inl rfl
  case round =>
    rcases hrel with rfl | rfl | rfl | rfl | rfl
    · go_wp2
      go_round
      case rel => exact .inr (.inl rfl)
      case measure => simp [intOf]
    · go_wp2
      go_round
      case rel => exact .inr (.inr (.inl rfl))
      case measure => simp [intOf]
    · go_wp2
      go_round
      case rel => exact .inr (.inr (.inr (.inl rfl)))
      case measure => simp [intOf]
    · go_wp2
      go_round
      case rel => exact .inr (.inr (.inr (.inr rfl)))
      case measure => simp [intOf]
    · go_wp2
      go_ret
      exact ⟨rfl, HB.out⟩
set_option maxHeartbeats 1600000 in
set_option maxRecDepth 100000 in
theorem counts_of (p : Value) (a b c d u : Int) (w : World)
    (ht : ∀ W, Below w.heap.size w W → Calls Try.prog 45 #[p, .int .i64 u] W fun e w' => e = .returned (.agg #[.int .i64 a, .int .i64 b, .int .i64 c, .int .i64 d]) ∧ Below W.heap.size W w') :
    Calls Try.prog 29 #[p, .int .i64 u] w fun e w' => e = .returned (.tuple #[.int .i64 a, .int .i64 b, .int .i64 c]) ∧ Below w.heap.size w w' := by
  have hu3 := Try.underlying85
  have HT := Aside0.mk ht
  clear ht
  go_enter Try.func29, Try.ntmps29
  go_wp2_with fail
  refine (HT.out _ (Below.refl _ _)).mono ?_
  rintro e w1 ⟨rfl, hb1⟩
  have HB := Aside0.mk hb1
  clear hb1 HT
  go_wp2
  go_quiet (fail)
  go_wp2
  refine bodyPost_ret (v := .tuple #[.int .i64 a, .int .i64 b, .int .i64 c]) (by simp [results, Try.results29, go_sem]) rfl ?_
  exact ⟨rfl, by repeat (first | exact HB.out | apply below_alloc | apply pw_below_drewN)⟩
theorem counts_ok (g m : Nat) (fi fa : Nat → Int) (last u : Int) (w : World) (hn : 1 ≤ m ∧ m ≤ 12) (hv : VB w g (m : Int) fi fa last) (hg : Good fi fa) :
    Calls Try.prog 29 #[.pointer (some ⟨g, 0, none⟩), .int .i64 u] w fun e w' => e = .returned (.tuple #[.int .i64 (tc fi fa u 0 m), .int .i64 (tc fi fa u 1 m), .int .i64 (tc fi fa u 2 m)]) ∧ Below w.heap.size w w' :=
  counts_of _ _ _ _ (tc fi fa u 3 m) u w (fun W hW => tally_any g m fi fa last u W hn (blk_below hv hW) hg)
theorem counts_nil (u : Int) (w : World) :
    Calls Try.prog 29 #[.pointer none, .int .i64 u] w fun e w' => e = .returned (.tuple #[.int .i64 0, .int .i64 0, .int .i64 0]) ∧ Below w.heap.size w w' :=
  counts_of _ _ _ _ 0 u w (fun W _ => tally_nil u W)
end Go.Proofs.Ytljbajnmkkebkaa.Vo
