/- leapvote.New: a new voter, or nil. No condition but what is said. -/
import Derived.Test.YtljbajnmkkebkaaVoter
namespace Go.Proofs.Ytljbajnmkkebkaa.Vo
open Go.RowKit Go.Proofs.Ytljbajnmkkebkaa.All Go.Proofs.YtljbajnmkkebkaaW.PrintWords Go.Proofs.YtljbajnmkkebkaaW.PrintLast Go.Proofs.YtljbajnmkkebkaaW.PrintMore
set_option linter.unusedSimpArgs false
set_option linter.unusedVariables false

def fresh (k : Nat) : Nat → Int := fun j => if j < k then 3 else 0
theorem fresh_next (k : Nat) : upd (fresh k) k 3 = fresh (k + 1) := by
  funext j
  unfold upd fresh
  by_cases h : j = k
  · rw [if_pos h, if_pos (by omega)]
  · rw [if_neg h]
    by_cases h2 : j < k
    · rw [if_pos h2, if_pos (by omega)]
    · rw [if_neg h2, if_neg (by omega)]
theorem fresh_0 : fresh 0 = fun _ => 0 := by
  funext j
  unfold fresh
  rw [if_neg (by omega)]
set_option maxHeartbeats 1600000 in
set_option maxRecDepth 100000 in
theorem new_ok (n : Int) (w : World) (h0 : 1 ≤ n) (h1 : n ≤ 12) : Calls Try.prog 17 #[.int .i64 n] w fun e w' => e = .returned (.pointer (some ⟨w.heap.size, 0, none⟩)) ∧ VB w' w.heap.size n (fresh 12) (fun _ => 0) (-8000000000) ∧ Below w.heap.size w w' := by
  have hu := Try.underlying84
  have HB0 : Aside0 (VB (w.alloc (.cells (VC n (fun _ => 0) (fun _ => 0) (-8000000000)) 84)) w.heap.size n (fresh 0) (fun _ => 0) (-8000000000)) := ⟨by rw [fresh_0]; exact blk_new w _⟩
  have HB1 := Aside0.mk (below_alloc (Below.refl w.heap.size w) (.cells (VC n (fun _ => 0) (fun _ => 0) (-8000000000)) 84))
  go_enter Try.func17, Try.ntmps17
  go_wp2
  go_loopw [14] (fun q W => ∃ k : Nat, k ≤ 12 ∧ q = .int .i64 (k : Int) ∧ Aside0 (VB W w.heap.size n (fresh k) (fun _ => 0) (-8000000000)) ∧ Aside0 (Below w.heap.size w W)) (fun q _ => 12 - (intOf q).toNat)
  case atStart =>
    have b0 := HB0.out
    have b1 := HB1.out
    rw [VC_zero] at b0 b1
    exact ⟨0, by omega, rfl, ⟨b0⟩, ⟨b1⟩⟩
  case round =>
    clear HB0 HB1
    obtain ⟨k, hk, rfl, HV, HB⟩ := hrel
    by_cases hk2 : k < 12
    · have hk3 : (k : Int) < 12 := by omega
      have hc : wr.cell? ⟨w.heap.size, 1 + k * 2, none⟩ = some (.int .i64 (fresh k k)) := by
        rw [show 1 + k * 2 = 2 * k + 1 by omega]
        exact (blk_cell HV.out (2 * k + 1)).trans (VC_ind _ _ _ _ k hk2)
      have hf : wr.frozen? ⟨w.heap.size, 1 + k * 2, none⟩ = false := blk_frozen HV.out _
      have hlt := blk_lt HV.out
      go_wp2
      go_roundw
      case rel =>
        refine ⟨k + 1, by omega, by go_num, ⟨?_⟩, ⟨HB.out.setCell (Nat.le_refl _) _⟩⟩
        have h := blk_put HV.out (2 * k + 1) (.int .i64 3) (VC_set_ind _ _ _ _ k hk2 3)
        rw [fresh_next] at h
        rw [show 1 + k * 2 = 2 * k + 1 by omega]
        exact h
      case measure => simp [intOf]; omega
    · obtain rfl : k = 12 := by omega
      go_wp2
      go_ret
      exact ⟨rfl, HV.out, HB.out⟩
theorem new_bad (n : Int) (w : World) (h : ¬ (1 ≤ n ∧ n ≤ 12)) : Calls Try.prog 17 #[.int .i64 n] w fun e w' => e = .returned (.pointer none) ∧ w' = w := by
  have hu := Try.underlying84
  by_cases h0 : n < 1
  · go_enter Try.func17, Try.ntmps17
    go_wp2
    go_ret
    exact ⟨rfl, rfl⟩
  · have h1 : 12 < n := by omega
    go_enter Try.func17, Try.ntmps17
    go_wp2
    go_ret
    exact ⟨rfl, rfl⟩
end Go.Proofs.Ytljbajnmkkebkaa.Vo
