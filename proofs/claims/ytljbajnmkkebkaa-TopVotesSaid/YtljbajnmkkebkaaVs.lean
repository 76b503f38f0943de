/- A voter to whom the votes of all servers are given one after the other at one second. No condition but what is said. -/
import Derived.Test.YtljbajnmkkebkaaAwake
namespace Go.Proofs.Ytljbajnmkkebkaa.Vo
open Go.RowKit Go.Proofs.Ytljbajnmkkebkaa.All Go.Proofs.YtljbajnmkkebkaaW.PrintWords Go.Proofs.YtljbajnmkkebkaaW.PrintLast Go.Proofs.YtljbajnmkkebkaaW.PrintMore
set_option linter.unusedSimpArgs false
set_option linter.unusedVariables false

def vfi (X : Nat → Int) (i j : Nat) : Int := if j < i then X j else fresh 12 j
def vfa (u : Int) (i j : Nat) : Int := if j < i then u else 0
def vla (u : Int) (i : Nat) : Int := if i = 0 then -8000000000 else u
theorem vfi_0 (X : Nat → Int) : vfi X 0 = fresh 12 := by
  funext j
  unfold vfi
  rw [if_neg (by omega)]
theorem vfa_0 (u : Int) : vfa u 0 = fun _ => 0 := by
  funext j
  unfold vfa
  rw [if_neg (by omega)]
theorem vfi_next (X : Nat → Int) (i : Nat) : upd (vfi X i) i (X i) = vfi X (i + 1) := by
  funext j
  unfold upd vfi
  by_cases h : j = i
  · rw [if_pos h, if_pos (by omega), h]
  · rw [if_neg h]
    by_cases h2 : j < i
    · rw [if_pos h2, if_pos (by omega)]
    · rw [if_neg h2, if_neg (by omega)]
theorem vfa_next (u : Int) (i : Nat) : upd (vfa u i) i u = vfa u (i + 1) := by
  funext j
  unfold upd vfa
  by_cases h : j = i
  · rw [if_pos h, if_pos (by omega)]
  · rw [if_neg h]
    by_cases h2 : j < i
    · rw [if_pos h2, if_pos (by omega)]
    · rw [if_neg h2, if_neg (by omega)]
/-- The voter behind i votes. -/
structure VS (w0 w : World) (g m : Nat) (X : Nat → Int) (u : Int) (i : Nat) : Prop where
  kv : VB w g (m : Int) (vfi X i) (vfa u i) (vla u i)
  hg : w0.heap.size ≤ g
  hb : Below w0.heap.size w0 w
theorem VS.step {w0 w w' : World} {g m i : Nat} {X : Nat → Int} {u : Int} (h : VS w0 w g m X u i) (hb : Below w.heap.size w w') : VS w0 w' g m X u i := ⟨blk_below h.kv hb, h.hg, below_step h.hb hb⟩
theorem VS.alloc {w0 w : World} {g m i : Nat} {X : Nat → Int} {u : Int} (h : VS w0 w g m X u i) (o : Obj) : VS w0 (w.alloc o) g m X u i := h.step (below_alloc (Below.refl _ _) o)
theorem vsE {m i : Nat} {X : Nat → Int} {u : Int} (hi : i < m) (hX : 0 ≤ X i ∧ X i ≤ 3) (hu : -8000000000 ≤ u ∧ u ≤ 8000000000) : voteE (m : Int) (vla u i) (i : Int) (X i) u = 0 := by
  unfold voteE vla
  rw [if_neg (by omega), if_neg (by split <;> omega)]
theorem VS.calls {w0 w : World} {g m i : Nat} {X : Nat → Int} {u : Int} (h : VS w0 w g m X u i) (hm : m ≤ 12) (hi : i < m) (hX : 0 ≤ X i ∧ X i ≤ 3) (hu : -8000000000 ≤ u ∧ u ≤ 8000000000) :
    Calls Try.prog 18 #[.pointer (some ⟨g, 0, none⟩), .int .i64 (i : Int), .int .i64 (X i), .int .i64 u] w fun e w' => e = .returned (.int .i64 0) ∧ VS w0 w' g m X u (i + 1) ∧ VoteW w w' g 0 (i : Int) (X i) u := by
  refine (vote_ok g (m : Int) (vfi X i) (vfa u i) (vla u i) (i : Int) (X i) u w (by omega) h.kv).mono ?_
  rintro e w1 ⟨rfl, hw⟩
  have h1 := VB.vote (by omega) h.kv hw
  have e0 := vsE hi hX hu
  rw [e0] at hw
  rw [if_pos e0, if_pos e0, if_pos e0, Int.toNat_natCast, vfi_next, vfa_next] at h1
  refine ⟨by rw [e0], ⟨?_, h.hg, VoteW.below h.hb h.hg hw⟩, hw⟩
  unfold vla
  rw [if_neg (by omega)]
  exact h1
theorem vs_good {m : Nat} {X : Nat → Int} {u : Int} (hX : ∀ j, j < m → 0 ≤ X j ∧ X j ≤ 3) (hu : -8000000000 ≤ u ∧ u ≤ 8000000000) : Good (vfi X m) (vfa u m) := by
  intro j hj
  unfold vfi vfa fresh
  by_cases h : j < m
  · rw [if_pos h, if_pos h]
    exact ⟨hX j h, hu⟩
  · rw [if_neg h, if_neg h, if_pos hj]
    omega
/-- How many of the first k votes are c. -/
def num (X : Nat → Int) (c : Int) : Nat → Int
  | 0 => 0
  | k + 1 => num X c k + (if X k = c then 1 else 0)
theorem num_bd (X : Nat → Int) (c : Int) : ∀ k, 0 ≤ num X c k ∧ num X c k ≤ k
  | 0 => by simp [num]
  | k + 1 => by
    have h := num_bd X c k
    rw [num]
    split <;> omega
theorem num_sum (X : Nat → Int) : ∀ k, num X 0 k + num X 1 k + num X 2 k ≤ k
  | 0 => by simp [num]
  | k + 1 => by
    have h := num_sum X k
    rw [num, num, num]
    by_cases h0 : X k = 0
    · rw [if_pos h0, if_neg (by omega), if_neg (by omega)]
      omega
    · rw [if_neg h0]
      by_cases h1 : X k = 1
      · rw [if_pos h1, if_neg (by omega)]
        omega
      · rw [if_neg h1]
        split <;> omega
theorem num_all (X : Nat → Int) (c : Int) : ∀ k, (∀ j, j < k → X j = c) → num X c k = k
  | 0, _ => rfl
  | k + 1, h => by
    rw [num, num_all X c k (fun j hj => h j (by omega)), if_pos (h k (by omega))]
    rfl
theorem num_mono (X : Nat → Int) (c : Int) (i : Nat) : ∀ k, num X c i ≤ num X c (i + k)
  | 0 => Int.le_refl _
  | k + 1 => by
    have h := num_mono X c i k
    rw [← Nat.add_assoc, num]
    split <;> omega
theorem cnt_v (X : Nat → Int) (u v c : Int) (i : Nat) : ∀ k, k ≤ i → cnt (vfi X i) (vfa u i) v c k = if v - u < 86400 then num X c k else 0
  | 0, _ => by
    unfold cnt num
    split <;> rfl
  | k + 1, h => by
    rw [cnt, cnt_v X u v c i k (by omega), num]
    rw [show vfi X i k = X k from by unfold vfi; rw [if_pos (by omega)], show vfa u i k = u from by unfold vfa; rw [if_pos (by omega)]]
    by_cases h1 : v - u < 86400
    · rw [if_pos h1, if_pos h1]
      congr 1
      by_cases h2 : X k = c
      · rw [if_pos h2, if_pos ⟨h1, h2⟩]
      · rw [if_neg h2, if_neg (fun q => h2 q.2)]
    · rw [if_neg h1, if_neg h1, if_neg (fun q => h1 q.1)]
      rfl
theorem tc_v (X : Nat → Int) (u v c : Int) (m : Nat) (hv : -8000000000 ≤ v ∧ v ≤ 8000000000) : tc (vfi X m) (vfa u m) v c m = if v - u < 86400 then num X c m else 0 := by
  unfold tc
  rw [if_pos hv, cnt_v X u v c m m (Nat.le_refl _)]
theorem decV_new (X : Nat → Int) (u v : Int) (m : Nat) (hv : -8000000000 ≤ v ∧ v ≤ 8000000000) (h : v - u < 86400) : decV (vfi X m) (vfa u m) v m = dec m (num X 0 m) (num X 1 m) (num X 2 m) := by
  unfold decV
  rw [tc_v X u v 0 m hv, tc_v X u v 1 m hv, tc_v X u v 2 m hv, if_pos h, if_pos h, if_pos h]
theorem decV_old (X : Nat → Int) (u v : Int) (m : Nat) (hv : -8000000000 ≤ v ∧ v ≤ 8000000000) (h : ¬ v - u < 86400) : decV (vfi X m) (vfa u m) v m = 3 := by
  unfold decV
  rw [tc_v X u v 0 m hv, tc_v X u v 1 m hv, tc_v X u v 2 m hv, if_neg h, if_neg h, if_neg h]
  unfold dec
  rw [if_neg (by omega), if_neg (by omega), if_neg (by omega)]
/-- More than half decide. -/
theorem dec_most (X : Nat → Int) (c : Int) (m : Nat) (hc : c = 0 ∨ c = 1 ∨ c = 2) (h : (m : Int) < 2 * num X c m) : dec m (num X 0 m) (num X 1 m) (num X 2 m) = c := by
  have hs := num_sum X m
  have h0 := num_bd X 0 m
  have h1 := num_bd X 1 m
  have h2 := num_bd X 2 m
  unfold dec
  rcases hc with rfl | rfl | rfl
  · rw [if_pos (by omega)]
  · rw [if_neg (by omega), if_pos (by omega)]
  · rw [if_neg (by omega), if_neg (by omega), if_pos (by omega)]
theorem dec_none (a b c : Int) (m : Nat) (h0 : ¬ (m : Int) < 2 * a) (h1 : ¬ (m : Int) < 2 * b) (h2 : ¬ (m : Int) < 2 * c) : dec m a b c = 3 := by
  unfold dec
  rw [if_neg (by omega), if_neg (by omega), if_neg (by omega)]
theorem dec_is (n a b c : Int) : dec n a b c = 0 ∨ dec n a b c = 1 ∨ dec n a b c = 2 ∨ dec n a b c = 3 := by
  unfold dec
  split
  · exact .inl rfl
  · split
    · exact .inr (.inl rfl)
    · split
      · exact .inr (.inr (.inl rfl))
      · exact .inr (.inr (.inr rfl))
end Go.Proofs.Ytljbajnmkkebkaa.Vo
