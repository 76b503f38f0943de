import Derived.Test.YtljbajnmkkebkaaAll30
/- The voter of ref54: its block of cells, New, Vote, count, Decision, Counts, Arm. No condition but what is said. -/
import Derived.Test.YtljbajnmkkebkaaVoterArm
namespace Go.Proofs.Ytljbajnmkkebkaa.Vo
open Go.RowKit Go.Proofs.Ytljbajnmkkebkaa.All Go.Proofs.YtljbajnmkkebkaaW.PrintWords Go.Proofs.YtljbajnmkkebkaaW.PrintLast Go.Proofs.YtljbajnmkkebkaaW.PrintMore
set_option linter.unusedSimpArgs false
set_option linter.unusedVariables false

/-- Cell i of a voter of the reference: the number of servers, twelve indicators, twelve seconds, twelve marks, the last second, whether there was a vote. -/
def rcell (n : Int) (fs fa : Nat → Int) (fh : Nat → Bool) (last : Int) (cl : Bool) (i : Nat) : Value :=
  if i = 0 then .int .i64 n else if i < 13 then .int .i64 (fs (i - 1)) else if i < 25 then .int .i64 (fa (i - 13)) else if i < 37 then .bool (fh (i - 25)) else if i = 37 then .int .i64 last else .bool cl
def RC (n : Int) (fs fa : Nat → Int) (fh : Nat → Bool) (last : Int) (cl : Bool) : Array Value := Array.ofFn (n := 39) fun i => rcell n fs fa fh last cl i
def updb (f : Nat → Bool) (k : Nat) (x : Bool) : Nat → Bool := fun j => if j = k then x else f j
theorem RC_get (n : Int) (fs fa : Nat → Int) (fh : Nat → Bool) (last : Int) (cl : Bool) (i : Nat) (h : i < 39) : (RC n fs fa fh last cl)[i]? = some (rcell n fs fa fh last cl i) := by
  unfold RC
  rw [Array.getElem?_ofFn, dif_pos h]
theorem RC_n (n : Int) (fs fa : Nat → Int) (fh : Nat → Bool) (last : Int) (cl : Bool) : (RC n fs fa fh last cl)[0]? = some (.int .i64 n) := RC_get n fs fa fh last cl 0 (by omega)
theorem RC_last (n : Int) (fs fa : Nat → Int) (fh : Nat → Bool) (last : Int) (cl : Bool) : (RC n fs fa fh last cl)[37]? = some (.int .i64 last) := RC_get n fs fa fh last cl 37 (by omega)
theorem RC_cl (n : Int) (fs fa : Nat → Int) (fh : Nat → Bool) (last : Int) (cl : Bool) : (RC n fs fa fh last cl)[38]? = some (.bool cl) := RC_get n fs fa fh last cl 38 (by omega)
theorem RC_said (n : Int) (fs fa : Nat → Int) (fh : Nat → Bool) (last : Int) (cl : Bool) (k : Nat) (h : k < 12) : (RC n fs fa fh last cl)[1 + k]? = some (.int .i64 (fs k)) := by
  rw [RC_get _ _ _ _ _ _ _ (by omega)]
  unfold rcell
  rw [if_neg (by omega), if_pos (by omega), show 1 + k - 1 = k by omega]
theorem RC_at (n : Int) (fs fa : Nat → Int) (fh : Nat → Bool) (last : Int) (cl : Bool) (k : Nat) (h : k < 12) : (RC n fs fa fh last cl)[13 + k]? = some (.int .i64 (fa k)) := by
  rw [RC_get _ _ _ _ _ _ _ (by omega)]
  unfold rcell
  rw [if_neg (by omega), if_neg (by omega), if_pos (by omega), show 13 + k - 13 = k by omega]
theorem RC_has (n : Int) (fs fa : Nat → Int) (fh : Nat → Bool) (last : Int) (cl : Bool) (k : Nat) (h : k < 12) : (RC n fs fa fh last cl)[25 + k]? = some (.bool (fh k)) := by
  rw [RC_get _ _ _ _ _ _ _ (by omega)]
  unfold rcell
  rw [if_neg (by omega), if_neg (by omega), if_neg (by omega), if_pos (by omega), show 25 + k - 25 = k by omega]
theorem RC_size (n : Int) (fs fa : Nat → Int) (fh : Nat → Bool) (last : Int) (cl : Bool) : (RC n fs fa fh last cl).size = 39 := by simp [RC]
theorem RC_ext {a b : Array Value} (ha : a.size = 39) (hb : b.size = 39) (h : ∀ i, i < 39 → a[i]? = b[i]?) : a = b := by
  apply Array.ext (by omega)
  intro i h1 h2
  have h3 := h i (by omega)
  rw [Array.getElem?_eq_getElem h1, Array.getElem?_eq_getElem h2] at h3
  exact Option.some.inj h3

theorem RC_set_said (n : Int) (fs fa : Nat → Int) (fh : Nat → Bool) (last : Int) (cl : Bool) (k : Nat) (h : k < 12) (x : Int) : (RC n fs fa fh last cl).setIfInBounds (1 + k) (.int .i64 x) = RC n (upd fs k x) fa fh last cl := by
  refine RC_ext (by rw [Array.size_setIfInBounds, RC_size]) (RC_size ..) fun i hi => ?_
  rw [RC_get _ _ _ _ _ _ i hi, Array.getElem?_setIfInBounds, RC_size]
  by_cases e : 1 + k = i
  · rw [if_pos e, if_pos (by omega)]
    subst e
    unfold rcell upd
    rw [if_neg (by omega), if_pos (by omega), if_pos (by omega)]
  · rw [if_neg e, RC_get _ _ _ _ _ _ i hi]
    unfold rcell upd
    by_cases g1 : i = 0
    · rw [if_pos g1, if_pos g1]
    rw [if_neg g1, if_neg g1]
    by_cases g2 : i < 13
    · rw [if_pos g2, if_pos g2, if_neg (by omega)]
    · rw [if_neg g2, if_neg g2]
theorem RC_set_at (n : Int) (fs fa : Nat → Int) (fh : Nat → Bool) (last : Int) (cl : Bool) (k : Nat) (h : k < 12) (x : Int) : (RC n fs fa fh last cl).setIfInBounds (13 + k) (.int .i64 x) = RC n fs (upd fa k x) fh last cl := by
  refine RC_ext (by rw [Array.size_setIfInBounds, RC_size]) (RC_size ..) fun i hi => ?_
  rw [RC_get _ _ _ _ _ _ i hi, Array.getElem?_setIfInBounds, RC_size]
  by_cases e : 13 + k = i
  · rw [if_pos e, if_pos (by omega)]
    subst e
    unfold rcell upd
    rw [if_neg (by omega), if_neg (by omega), if_pos (by omega), if_pos (by omega)]
  · rw [if_neg e, RC_get _ _ _ _ _ _ i hi]
    unfold rcell upd
    by_cases g1 : i = 0
    · rw [if_pos g1, if_pos g1]
    rw [if_neg g1, if_neg g1]
    by_cases g2 : i < 13
    · rw [if_pos g2, if_pos g2]
    rw [if_neg g2, if_neg g2]
    by_cases g3 : i < 25
    · rw [if_pos g3, if_pos g3, if_neg (by omega)]
    · rw [if_neg g3, if_neg g3]
theorem RC_set_has (n : Int) (fs fa : Nat → Int) (fh : Nat → Bool) (last : Int) (cl : Bool) (k : Nat) (h : k < 12) (x : Bool) : (RC n fs fa fh last cl).setIfInBounds (25 + k) (.bool x) = RC n fs fa (updb fh k x) last cl := by
  refine RC_ext (by rw [Array.size_setIfInBounds, RC_size]) (RC_size ..) fun i hi => ?_
  rw [RC_get _ _ _ _ _ _ i hi, Array.getElem?_setIfInBounds, RC_size]
  by_cases e : 25 + k = i
  · rw [if_pos e, if_pos (by omega)]
    subst e
    unfold rcell updb
    rw [if_neg (by omega), if_neg (by omega), if_neg (by omega), if_pos (by omega), if_pos (by omega)]
  · rw [if_neg e, RC_get _ _ _ _ _ _ i hi]
    unfold rcell updb
    by_cases g1 : i = 0
    · rw [if_pos g1, if_pos g1]
    rw [if_neg g1, if_neg g1]
    by_cases g2 : i < 13
    · rw [if_pos g2, if_pos g2]
    rw [if_neg g2, if_neg g2]
    by_cases g3 : i < 25
    · rw [if_pos g3, if_pos g3]
    rw [if_neg g3, if_neg g3]
    by_cases g4 : i < 37
    · rw [if_pos g4, if_pos g4, if_neg (by omega)]
    · rw [if_neg g4, if_neg g4]
theorem RC_set_last (n : Int) (fs fa : Nat → Int) (fh : Nat → Bool) (last : Int) (cl : Bool) (x : Int) : (RC n fs fa fh last cl).setIfInBounds (37) (.int .i64 x) = RC n fs fa fh x cl := by
  refine RC_ext (by rw [Array.size_setIfInBounds, RC_size]) (RC_size ..) fun i hi => ?_
  rw [RC_get _ _ _ _ _ _ i hi, Array.getElem?_setIfInBounds, RC_size]
  by_cases e : 37 = i
  · rw [if_pos e, if_pos (by omega)]
    subst e
    unfold rcell
    rw [if_neg (by omega), if_neg (by omega), if_neg (by omega), if_neg (by omega), if_pos (by omega)]
  · rw [if_neg e, RC_get _ _ _ _ _ _ i hi]
    unfold rcell
    rw [if_neg (show ¬ i = 37 from fun g => e g.symm), if_neg (show ¬ i = 37 from fun g => e g.symm)]
theorem RC_set_cl (n : Int) (fs fa : Nat → Int) (fh : Nat → Bool) (last : Int) (cl : Bool) (x : Bool) : (RC n fs fa fh last cl).setIfInBounds (38) (.bool x) = RC n fs fa fh last x := by
  refine RC_ext (by rw [Array.size_setIfInBounds, RC_size]) (RC_size ..) fun i hi => ?_
  rw [RC_get _ _ _ _ _ _ i hi, Array.getElem?_setIfInBounds, RC_size]
  by_cases e : 38 = i
  · rw [if_pos e, if_pos (by omega)]
    subst e
    unfold rcell
    rw [if_neg (by omega), if_neg (by omega), if_neg (by omega), if_neg (by omega), if_neg (by omega)]
  · rw [if_neg e, RC_get _ _ _ _ _ _ i hi]
    unfold rcell
    by_cases g1 : i = 0
    · rw [if_pos g1, if_pos g1]
    rw [if_neg g1, if_neg g1]
    by_cases g2 : i < 13
    · rw [if_pos g2, if_pos g2]
    rw [if_neg g2, if_neg g2]
    by_cases g3 : i < 25
    · rw [if_pos g3, if_pos g3]
    rw [if_neg g3, if_neg g3]
    by_cases g4 : i < 37
    · rw [if_pos g4, if_pos g4]
    rw [if_neg g4, if_neg g4, if_pos (by omega), if_pos (by omega)]
theorem RC_zero (n : Int) : RC n (fun _ => 0) (fun _ => 0) (fun _ => false) 0 false = #[.int .i64 n, .int .i64 0, .int .i64 0, .int .i64 0, .int .i64 0, .int .i64 0, .int .i64 0, .int .i64 0, .int .i64 0, .int .i64 0, .int .i64 0, .int .i64 0, .int .i64 0, .int .i64 0, .int .i64 0, .int .i64 0, .int .i64 0, .int .i64 0, .int .i64 0, .int .i64 0, .int .i64 0, .int .i64 0, .int .i64 0, .int .i64 0, .int .i64 0, .bool false, .bool false, .bool false, .bool false, .bool false, .bool false, .bool false, .bool false, .bool false, .bool false, .bool false, .bool false, .int .i64 0, .bool false] :=
  RC_ext (RC_size ..) rfl fun i hi => by
    rw [RC_get _ _ _ _ _ _ i hi]
    match i, hi with
    | 0, _ => rfl
    | 1, _ => rfl
    | 2, _ => rfl
    | 3, _ => rfl
    | 4, _ => rfl
    | 5, _ => rfl
    | 6, _ => rfl
    | 7, _ => rfl
    | 8, _ => rfl
    | 9, _ => rfl
    | 10, _ => rfl
    | 11, _ => rfl
    | 12, _ => rfl
    | 13, _ => rfl
    | 14, _ => rfl
    | 15, _ => rfl
    | 16, _ => rfl
    | 17, _ => rfl
    | 18, _ => rfl
    | 19, _ => rfl
    | 20, _ => rfl
    | 21, _ => rfl
    | 22, _ => rfl
    | 23, _ => rfl
    | 24, _ => rfl
    | 25, _ => rfl
    | 26, _ => rfl
    | 27, _ => rfl
    | 28, _ => rfl
    | 29, _ => rfl
    | 30, _ => rfl
    | 31, _ => rfl
    | 32, _ => rfl
    | 33, _ => rfl
    | 34, _ => rfl
    | 35, _ => rfl
    | 36, _ => rfl
    | 37, _ => rfl
    | 38, _ => rfl
    | _ + 39, h => exact absurd h (by omega)
/-- A voter of the reference in memory. -/
def RB (w : World) (g : Nat) (n : Int) (fs fa : Nat → Int) (fh : Nat → Bool) (last : Int) (cl : Bool) : Prop := w.heap[g]? = some (.cells (RC n fs fa fh last cl) 91 (0, 0))
/-- How many of the first k votes are for c and not old. -/
def rcnt (fs fa : Nat → Int) (fh : Nat → Bool) (u c : Int) : Nat → Int
  | 0 => 0
  | k + 1 => rcnt fs fa fh u c k + (if fh k = true ∧ fs k = c ∧ u < fa k + 86400 then 1 else 0)
theorem rcnt_bd (fs fa : Nat → Int) (fh : Nat → Bool) (u c : Int) : ∀ k, 0 ≤ rcnt fs fa fh u c k ∧ rcnt fs fa fh u c k ≤ k
  | 0 => by simp [rcnt]
  | k + 1 => by
    have h := rcnt_bd fs fa fh u c k
    rw [rcnt]
    split <;> omega
/-- The error of a vote. -/
def rvoteE (n last : Int) (cl : Bool) (s i u : Int) : Int := if s < 0 ∨ n ≤ s ∨ i < 0 ∨ 3 < i ∨ ¬ (-8000000000 ≤ u ∧ u ≤ 8000000000) then 3 else if cl = true ∧ u < last then 12 else 0
def RVoteW (w w' : World) (g : Nat) (e s i u : Int) : Prop := ∃ d, w' = if e = 0 then ((((((w.drewN d).setCell ⟨g, 1 + s.toNat, none⟩ (.int .i64 i)).setCell ⟨g, 13 + s.toNat, none⟩ (.int .i64 u)).setCell ⟨g, 25 + s.toNat, none⟩ (.bool true)).setCell ⟨g, 37, none⟩ (.int .i64 u)).setCell ⟨g, 38, none⟩ (.bool true)) else w.drewN d
end Go.Proofs.Ytljbajnmkkebkaa.Vo
namespace Go.Proofs.Ytljbajnmkkebkaa.Vo
open Go.RowKit Go.Proofs.Ytljbajnmkkebkaa.All Go.Proofs.YtljbajnmkkebkaaW.PrintWords Go.Proofs.YtljbajnmkkebkaaW.PrintLast Go.Proofs.YtljbajnmkkebkaaW.PrintMore
set_option linter.unusedSimpArgs false
set_option linter.unusedVariables false

theorem rinside_ok (u : Int) (w : World) : Calls Try.prog 49 #[.int .i64 u] w fun e w' => e = .returned (.bool (decide (-8000000000 ≤ u ∧ u ≤ 8000000000))) ∧ Drawn0 w w' := by
  by_cases h1 : -8000000000 ≤ u
  · by_cases h2 : u ≤ 8000000000
    · rw [decide_eq_true (show -8000000000 ≤ u ∧ u ≤ 8000000000 from ⟨h1, h2⟩)]
      go_enter Try.func49, Try.ntmps49
      go_wp2
      go_ret
      exact ⟨by simp [h2], ⟨0, rfl⟩⟩
    · rw [decide_eq_false (show ¬ (-8000000000 ≤ u ∧ u ≤ 8000000000) from fun g => h2 g.2)]
      go_enter Try.func49, Try.ntmps49
      go_wp2
      go_ret
      exact ⟨by simp [h2], ⟨0, rfl⟩⟩
  · rw [decide_eq_false (show ¬ (-8000000000 ≤ u ∧ u ≤ 8000000000) from fun g => h1 g.1)]
    go_enter Try.func49, Try.ntmps49
    go_wp2
    go_ret
    exact ⟨rfl, ⟨0, rfl⟩⟩
set_option maxHeartbeats 1600000 in
set_option maxRecDepth 100000 in
theorem rnew_ok (n : Int) (w : World) (h0 : 1 ≤ n) (h1 : n ≤ 12) : Calls Try.prog 27 #[.int .i64 n] w fun e w' => e = .returned (.pointer (some ⟨w.heap.size, 0, none⟩)) ∧ RB w' w.heap.size n (fun _ => 0) (fun _ => 0) (fun _ => false) 0 false ∧ Below w.heap.size w w' := by
  have hu := Try.underlying91
  have HB0 : Aside0 (RB (w.alloc (.cells (RC n (fun _ => 0) (fun _ => 0) (fun _ => false) 0 false) 91)) w.heap.size n (fun _ => 0) (fun _ => 0) (fun _ => false) 0 false) := ⟨blk_new w _⟩
  have HB1 := Aside0.mk (below_alloc (Below.refl w.heap.size w) (.cells (RC n (fun _ => 0) (fun _ => 0) (fun _ => false) 0 false) 91))
  go_enter Try.func27, Try.ntmps27
  go_wp2
  go_ret
  have b0 := HB0.out
  have b1 := HB1.out
  rw [show RC n (fun _ => 0) (fun _ => 0) (fun _ => false) 0 false = _ from RC_zero n] at b1
  unfold RB at b0
  rw [show RC n (fun _ => 0) (fun _ => 0) (fun _ => false) 0 false = _ from RC_zero n] at b0
  refine ⟨rfl, ?_, b1⟩
  unfold RB
  rw [show RC n (fun _ => 0) (fun _ => 0) (fun _ => false) 0 false = _ from RC_zero n]
  exact b0
theorem rnew_bad (n : Int) (w : World) (h : ¬ (1 ≤ n ∧ n ≤ 12)) : Calls Try.prog 27 #[.int .i64 n] w fun e w' => e = .returned (.pointer none) ∧ w' = w := by
  have hu := Try.underlying91
  by_cases h0 : n < 1
  · go_enter Try.func27, Try.ntmps27
    go_wp2
    go_ret
    exact ⟨rfl, rfl⟩
  · have h1 : 12 < n := by omega
    go_enter Try.func27, Try.ntmps27
    go_wp2
    go_ret
    exact ⟨rfl, rfl⟩
set_option maxHeartbeats 1600000 in
set_option maxRecDepth 100000 in
theorem rvote_nil (s i u : Int) (w : World) : Calls Try.prog 28 #[.pointer none, .int .i64 s, .int .i64 i, .int .i64 u] w fun e w' => e = .returned (.int .i64 1) ∧ w' = w := by
  have hu := Try.underlying91
  go_enter Try.func28, Try.ntmps28
  go_wp2
  go_ret
  exact ⟨rfl, rfl⟩
set_option maxHeartbeats 3200000 in
set_option maxRecDepth 100000 in
theorem rvote_ok (g : Nat) (n : Int) (fs fa : Nat → Int) (fh : Nat → Bool) (last : Int) (cl : Bool) (s i u : Int) (w : World) (hn : n ≤ 12) (hv : RB w g n fs fa fh last cl) :
    Calls Try.prog 28 #[.pointer (some ⟨g, 0, none⟩), .int .i64 s, .int .i64 i, .int .i64 u] w fun e w' => e = .returned (.int .i64 (rvoteE n last cl s i u)) ∧ RVoteW w w' g (rvoteE n last cl s i u) s i u := by
  have hu := Try.underlying91
  have HV := Aside0.mk hv
  have c0 : w.cell? ⟨g, 0, none⟩ = some (.int .i64 n) := (blk_cell hv 0).trans (RC_n ..)
  have c37 : w.cell? ⟨g, 37, none⟩ = some (.int .i64 last) := (blk_cell hv 37).trans (RC_last ..)
  have f37 : w.frozen? ⟨g, 37, none⟩ = false := blk_frozen hv 37
  have c38 : w.cell? ⟨g, 38, none⟩ = some (.bool cl) := (blk_cell hv 38).trans (RC_cl ..)
  have f38 : w.frozen? ⟨g, 38, none⟩ = false := blk_frozen hv 38
  have hlt := blk_lt hv
  clear hv
  by_cases h1 : s < 0
  · have HE := Aside0.mk (show rvoteE n last cl s i u = 3 from by unfold rvoteE; rw [if_pos (.inl h1)])
    rw [HE.out]
    go_enter Try.func28, Try.ntmps28
    go_wp2
    go_ret
    exact ⟨rfl, 0, rfl⟩
  by_cases h2 : n ≤ s
  · have HE := Aside0.mk (show rvoteE n last cl s i u = 3 from by unfold rvoteE; rw [if_pos (.inr (.inl h2))])
    rw [HE.out]
    go_enter Try.func28, Try.ntmps28
    go_wp2
    go_ret
    exact ⟨rfl, 0, rfl⟩
  by_cases h3 : i < 0
  · have HE := Aside0.mk (show rvoteE n last cl s i u = 3 from by unfold rvoteE; rw [if_pos (.inr (.inr (.inl h3)))])
    rw [HE.out]
    go_enter Try.func28, Try.ntmps28
    go_wp2
    go_ret
    exact ⟨rfl, 0, rfl⟩
  by_cases h4 : 3 < i
  · have HE := Aside0.mk (show rvoteE n last cl s i u = 3 from by unfold rvoteE; rw [if_pos (.inr (.inr (.inr (.inl h4))))])
    rw [HE.out]
    go_enter Try.func28, Try.ntmps28
    go_wp2
    go_ret
    exact ⟨rfl, 0, rfl⟩
  have HS := Aside0.mk (fun W => rinside_ok u W)
  by_cases h5 : -8000000000 ≤ u ∧ u ≤ 8000000000
  · rw [decide_eq_true h5] at HS
    by_cases h6 : cl = true ∧ u < last
    · have HE := Aside0.mk (show rvoteE n last cl s i u = 12 from by unfold rvoteE; rw [if_neg (by omega), if_pos h6])
      rw [HE.out]
      clear h5
      obtain ⟨rfl, h6⟩ := h6
      go_enter Try.func28, Try.ntmps28
      go_wp2_with fail
      refine (HS.out _).mono ?_
      rintro e w1 ⟨rfl, hb⟩
      obtain ⟨d, rfl⟩ := hb.out
      go_wp2
      go_ret
      exact ⟨rfl, d, rfl⟩
    · have HE := Aside0.mk (show rvoteE n last cl s i u = 0 from by unfold rvoteE; rw [if_neg (by omega), if_neg h6])
      rw [HE.out]
      clear h5
      obtain ⟨k, rfl⟩ := Int.eq_ofNat_of_zero_le (show 0 ≤ s by omega)
      have hk : k < 12 := by omega
      have hk3 : (k : Int) < 12 := by omega
      have ci : w.cell? ⟨g, 1 + k, none⟩ = some (.int .i64 (fs k)) := (blk_cell HV.out (1 + k)).trans (RC_said _ _ _ _ _ _ k hk)
      have ca : w.cell? ⟨g, 13 + k, none⟩ = some (.int .i64 (fa k)) := (blk_cell HV.out (13 + k)).trans (RC_at _ _ _ _ _ _ k hk)
      have ch : w.cell? ⟨g, 25 + k, none⟩ = some (.bool (fh k)) := (blk_cell HV.out (25 + k)).trans (RC_has _ _ _ _ _ _ k hk)
      have fi' : w.frozen? ⟨g, 1 + k, none⟩ = false := blk_frozen HV.out _
      have fa' : w.frozen? ⟨g, 13 + k, none⟩ = false := blk_frozen HV.out _
      have fh' : w.frozen? ⟨g, 25 + k, none⟩ = false := blk_frozen HV.out _
      cases cl
      · clear h6
        go_enter Try.func28, Try.ntmps28
        go_wp2_with fail
        refine (HS.out _).mono ?_
        rintro e w1 ⟨rfl, hb⟩
        obtain ⟨d, rfl⟩ := hb.out
        go_wp2
        go_ret
        refine ⟨rfl, d, ?_⟩
        rw [if_pos rfl, Int.toNat_natCast]
      · have h7 : ¬ u < last := fun q => h6 ⟨rfl, q⟩
        clear h6
        go_enter Try.func28, Try.ntmps28
        go_wp2_with fail
        refine (HS.out _).mono ?_
        rintro e w1 ⟨rfl, hb⟩
        obtain ⟨d, rfl⟩ := hb.out
        go_wp2
        go_ret
        refine ⟨rfl, d, ?_⟩
        rw [if_pos rfl, Int.toNat_natCast]
  · rw [decide_eq_false h5] at HS
    have HE := Aside0.mk (show rvoteE n last cl s i u = 3 from by unfold rvoteE; rw [if_pos (.inr (.inr (.inr (.inr h5))))])
    rw [HE.out]
    go_enter Try.func28, Try.ntmps28
    go_wp2_with fail
    refine (HS.out _).mono ?_
    rintro e w1 ⟨rfl, hb⟩
    obtain ⟨d, rfl⟩ := hb.out
    go_wp2
    go_ret
    exact ⟨rfl, d, rfl⟩
end Go.Proofs.Ytljbajnmkkebkaa.Vo
namespace Go.Proofs.Ytljbajnmkkebkaa.Vo
open Go.RowKit Go.Proofs.Ytljbajnmkkebkaa.All Go.Proofs.YtljbajnmkkebkaaW.PrintWords Go.Proofs.YtljbajnmkkebkaaW.PrintLast Go.Proofs.YtljbajnmkkebkaaW.PrintMore
set_option linter.unusedSimpArgs false
set_option linter.unusedVariables false

theorem rcnt_next (fs fa : Nat → Int) (fh : Nat → Bool) (u c : Int) (k : Nat) : rcnt fs fa fh u c (k + 1) = rcnt fs fa fh u c k + (if fh k = true ∧ fs k = c ∧ u < fa k + 86400 then 1 else 0) := rfl
def rtc (fs fa : Nat → Int) (fh : Nat → Bool) (u c : Int) (m : Nat) : Int := if -8000000000 ≤ u ∧ u ≤ 8000000000 then rcnt fs fa fh u c m else 0
theorem rtc_bd (fs fa : Nat → Int) (fh : Nat → Bool) (u c : Int) (m : Nat) : 0 ≤ rtc fs fa fh u c m ∧ rtc fs fa fh u c m ≤ m := by
  have h := rcnt_bd fs fa fh u c m
  unfold rtc
  split
  · exact h
  · omega
set_option maxHeartbeats 3200000 in
set_option maxRecDepth 100000 in
theorem count_ok (g m : Nat) (fs fa : Nat → Int) (fh : Nat → Bool) (last : Int) (cl : Bool) (c u : Int) (w : World) (hn : 1 ≤ m ∧ m ≤ 12) (hv : RB w g (m : Int) fs fa fh last cl) (ha : ∀ j, j < 12 → -8000000000 ≤ fa j ∧ fa j ≤ 8000000000) :
    Calls Try.prog 50 #[.pointer (some ⟨g, 0, none⟩), .int .i64 c, .int .i64 u] w fun e w' => e = .returned (.int .i64 (rtc fs fa fh u c m)) ∧ Below w.heap.size w w' := by
  have hu1 := Try.underlying91
  have HV := Aside0.mk hv
  have HG := Aside0.mk ha
  have HS := Aside0.mk (fun W => rinside_ok u W)
  have c0 : w.cell? ⟨g, 0, none⟩ = some (.int .i64 (m : Int)) := (blk_cell hv 0).trans (RC_n ..)
  have hlt := blk_lt hv
  obtain ⟨hn0, hn1⟩ := hn
  clear hv ha
  by_cases hu : -8000000000 ≤ u ∧ u ≤ 8000000000
  · rw [decide_eq_true hu] at HS
    rw [show rtc fs fa fh u c m = rcnt fs fa fh u c m from by unfold rtc; rw [if_pos hu]]
    obtain ⟨hua, hub⟩ := hu
    have HB0 := Aside0.mk (Below.refl w.heap.size w)
    go_enter Try.func50, Try.ntmps50
    go_wp2
    go_loopw [7, 8] (fun vn vi W => ∃ k : Nat, k ≤ m ∧ vi = .int .i64 (k : Int) ∧ vn = .int .i64 (rcnt fs fa fh u c k) ∧ Aside0 (RB W g (m : Int) fs fa fh last cl) ∧ Aside0 (Below w.heap.size w W)) (fun _ q _ => m - (intOf q).toNat)
    case atStart => exact ⟨0, by omega, rfl, rfl, HV, HB0⟩
    case round =>
      clear HB0 HV c0 hlt
      obtain ⟨k, hk, rfl, rfl, HA, HB⟩ := hrel
      have c0 : wr.cell? ⟨g, 0, none⟩ = some (.int .i64 (m : Int)) := (blk_cell HA.out 0).trans (RC_n ..)
      have hlt := blk_lt HA.out
      by_cases hk2 : k < m
      · have hk3 : (k : Int) < (m : Int) := by omega
        have hk4 : k < 12 := by omega
        have hk5 : (k : Int) < 12 := by omega
        have ci : wr.cell? ⟨g, 1 + k, none⟩ = some (.int .i64 (fs k)) := (blk_cell HA.out (1 + k)).trans (RC_said _ _ _ _ _ _ k hk4)
        have ca : wr.cell? ⟨g, 13 + k, none⟩ = some (.int .i64 (fa k)) := (blk_cell HA.out (13 + k)).trans (RC_at _ _ _ _ _ _ k hk4)
        have ch : wr.cell? ⟨g, 25 + k, none⟩ = some (.bool (fh k)) := (blk_cell HA.out (25 + k)).trans (RC_has _ _ _ _ _ _ k hk4)
        obtain ⟨ga0, ga1⟩ := HG.out k hk4
        have N0 := Aside0.mk (rcnt_next fs fa fh u c k)
        obtain ⟨b00, b01⟩ := rcnt_bd fs fa fh u c k
        generalize fs k = I at *
        generalize fa k = A at *
        generalize fh k = H at *
        generalize rcnt fs fa fh u c k = C0 at *
        go_wp2_with fail
        refine (HS.out _).mono ?_
        rintro e w1 ⟨rfl, hb⟩
        obtain ⟨d, rfl⟩ := hb.out
        clear hb
        cases H
        · go_wp2
          go_roundw
          case rel => exact ⟨k + 1, by omega, by go_num, by rw [N0.out, if_neg (by simp), Int.add_zero], ⟨HA.out⟩, ⟨pw_below_drewN HB.out d⟩⟩
          case measure => simp [intOf]; omega
        · by_cases e1 : I = c
          · have e1b : (I == c) = true := by simpa using e1
            have e1d : decide (I = c) = true := decide_eq_true e1
            by_cases e2 : u < A + 86400
            · have e2b : decide (u < A + 86400) = true := decide_eq_true e2
              have N1 := Aside0.mk (N0.out.trans (by rw [if_pos ⟨rfl, e1, e2⟩]))
              clear N0 e1
              go_wp2
              go_roundw
              case rel => exact ⟨k + 1, by omega, by go_num, by rw [N1.out], ⟨HA.out⟩, ⟨pw_below_drewN HB.out d⟩⟩
              case measure => simp [intOf]; omega
            · have e2b : decide (u < A + 86400) = false := decide_eq_false e2
              have N1 := Aside0.mk (N0.out.trans (by rw [if_neg (fun q => e2 q.2.2), Int.add_zero]))
              clear N0 e1
              go_wp2
              go_roundw
              case rel => exact ⟨k + 1, by omega, by go_num, by rw [N1.out], ⟨HA.out⟩, ⟨pw_below_drewN HB.out d⟩⟩
              case measure => simp [intOf]; omega
          · have e1b : (I == c) = false := by simpa using e1
            have e1d : decide (I = c) = false := decide_eq_false e1
            have N1 := Aside0.mk (N0.out.trans (by rw [if_neg (fun q => e1 q.2.1), Int.add_zero]))
            clear N0
            go_wp2
            go_roundw
            case rel => exact ⟨k + 1, by omega, by go_num, by rw [N1.out], ⟨HA.out⟩, ⟨pw_below_drewN HB.out d⟩⟩
            case measure => simp [intOf]; omega
      · obtain rfl : k = m := by omega
        go_wp2
        go_ret
        exact ⟨rfl, HB.out⟩
  · rw [decide_eq_false hu] at HS
    rw [show rtc fs fa fh u c m = 0 from by unfold rtc; rw [if_neg hu]]
    have hn0' : (0 : Int) < (m : Int) := by omega
    go_enter Try.func50, Try.ntmps50
    go_wp2
    go_loopw [7, 8] (fun vn vi W => vi = .int .i64 0 ∧ vn = .int .i64 0 ∧ W = w) (fun _ _ _ => 0)
    case atStart => exact ⟨rfl, rfl, rfl⟩
    case round =>
      obtain ⟨rfl, rfl, rfl⟩ := hrel
      go_wp2_with fail
      refine (HS.out _).mono ?_
      rintro e w1 ⟨rfl, hb⟩
      obtain ⟨d, rfl⟩ := hb.out
      go_wp2
      go_ret
      exact ⟨rfl, pw_below_drewN (Below.refl _ _) d⟩
def rdec (n a b c : Int) : Int := if n < 2 * a then 0 else if n < 2 * b then 1 else if n < 2 * c then 2 else 3
theorem rdec_eq (n a b c : Int) (h : 0 ≤ n) : rdec n a b c = dec n a b c := by
  unfold rdec dec
  have e1 : (0 < a ∧ n < 2 * a) ↔ n < 2 * a := ⟨fun q => q.2, fun q => ⟨by omega, q⟩⟩
  have e2 : (0 < b ∧ n < 2 * b) ↔ n < 2 * b := ⟨fun q => q.2, fun q => ⟨by omega, q⟩⟩
  have e3 : (0 < c ∧ n < 2 * c) ↔ n < 2 * c := ⟨fun q => q.2, fun q => ⟨by omega, q⟩⟩
  simp only [e1, e2, e3]
set_option maxHeartbeats 3200000 in
set_option maxRecDepth 100000 in
theorem rdecision_ok (g m : Nat) (fs fa : Nat → Int) (fh : Nat → Bool) (last : Int) (cl : Bool) (u : Int) (w : World) (hn : 1 ≤ m ∧ m ≤ 12) (hv : RB w g (m : Int) fs fa fh last cl) (ha : ∀ j, j < 12 → -8000000000 ≤ fa j ∧ fa j ≤ 8000000000) :
    Calls Try.prog 32 #[.pointer (some ⟨g, 0, none⟩), .int .i64 u] w fun e w' => e = .returned (.int .i64 (dec m (rtc fs fa fh u 0 m) (rtc fs fa fh u 1 m) (rtc fs fa fh u 2 m))) ∧ Below w.heap.size w w' := by
  rw [← rdec_eq _ _ _ _ (by omega)]
  have hu1 := Try.underlying91
  have HV := Aside0.mk hv
  have c0 : w.cell? ⟨g, 0, none⟩ = some (.int .i64 (m : Int)) := (blk_cell hv 0).trans (RC_n ..)
  have hlt := blk_lt hv
  obtain ⟨hn0, hn1⟩ := hn
  have HC := Aside0.mk (fun (c : Int) W (hW : RB W g (m : Int) fs fa fh last cl) => count_ok g m fs fa fh last cl c u W ⟨hn0, hn1⟩ hW ha)
  have HB0 := Aside0.mk (Below.refl w.heap.size w)
  have HD : Aside0 (rdec m (rtc fs fa fh u 0 m) (rtc fs fa fh u 1 m) (rtc fs fa fh u 2 m) = rdec m (rtc fs fa fh u 0 m) (rtc fs fa fh u 1 m) (rtc fs fa fh u 2 m)) := ⟨rfl⟩
  obtain ⟨a0, a1⟩ := rtc_bd fs fa fh u 0 m
  obtain ⟨b0, b1⟩ := rtc_bd fs fa fh u 1 m
  obtain ⟨d0, d1⟩ := rtc_bd fs fa fh u 2 m
  clear hv ha
  generalize hR : rdec m (rtc fs fa fh u 0 m) (rtc fs fa fh u 1 m) (rtc fs fa fh u 2 m) = R
  have HR := Aside0.mk hR.symm
  clear hR HD
  have H0 := Aside0.mk (fun W hW => HC.out 0 W hW)
  have H1 := Aside0.mk (fun W hW => HC.out 1 W hW)
  have H2 := Aside0.mk (fun W hW => HC.out 2 W hW)
  clear HC
  generalize rtc fs fa fh u 0 m = A at *
  generalize rtc fs fa fh u 1 m = B at *
  generalize rtc fs fa fh u 2 m = C at *
  have q1 : (m : Int) ≤ 12 := by omega
  have q0 : (1 : Int) ≤ m := by omega
  go_enter Try.func32, Try.ntmps32
  go_wp2
  go_loopw [5] (fun q W => Aside0 (RB W g (m : Int) fs fa fh last cl) ∧ Aside0 (Below w.heap.size w W) ∧ ((q = .int .i64 0 ∧ Aside0 (R = (if (m : Int) < 2 * A then 0 else if (m : Int) < 2 * B then 1 else if (m : Int) < 2 * C then 2 else 3))) ∨ (q = .int .i64 1 ∧ Aside0 (R = (if (m : Int) < 2 * B then 1 else if (m : Int) < 2 * C then 2 else 3))) ∨ (q = .int .i64 2 ∧ Aside0 (R = (if (m : Int) < 2 * C then 2 else 3))) ∨ (q = .int .i64 3 ∧ Aside0 (R = 3)))) (fun q _ => 3 - (intOf q).toNat)
  case atStart => exact ⟨HV, HB0, .inl ⟨rfl, HR⟩⟩
  case round =>
    clear HV HB0 HR c0 hlt
    obtain ⟨HV, HB, hq⟩ := hrel
    have c0 : wr.cell? ⟨g, 0, none⟩ = some (.int .i64 (m : Int)) := (blk_cell HV.out 0).trans (RC_n ..)
    have hlt := blk_lt HV.out
    rcases hq with ⟨rfl, HD⟩ | ⟨rfl, HD⟩ | ⟨rfl, HD⟩ | ⟨rfl, HD⟩
    · have hw : IntKind.i64.wrap (2 * A) = 2 * A := (i64_w _).trans (by unfold wrap64; omega)
      go_wp2_with fail
      go_region_held3 (fun W => W.cell? ⟨g, 0, none⟩ = some (.int .i64 (m : Int)) ∧ Aside0 (RB W g (m : Int) fs fa fh last cl) ∧ Aside0 (Below w.heap.size w W))
        (first
          | exact ⟨c0, ⟨HV.out⟩, ⟨below_drew HB.out⟩⟩
          | (go_split_ands; exact ⟨pw_cell_below hb (by assumption), ⟨blk_below (by exact Aside0.out (by assumption)) hb⟩, ⟨below_step (by exact Aside0.out (by assumption)) hb⟩⟩))
        (first | (go_at_call 50; refine (H0.out _ (by exact Aside0.out (by assumption))).mono ?_; rintro e w' ⟨rfl, hb⟩))
      obtain ⟨c1, HV1, HB1⟩ := ‹_ ∧ Aside0 (RB _ g (m : Int) fs fa fh last cl) ∧ Aside0 _›
      clear c0 HV HB hlt
      by_cases h2 : (m : Int) < 2 * A
      · have h2b : decide ((m : Int) < IntKind.i64.wrap (2 * A)) = true := by rw [hw]; exact decide_eq_true h2
        have h2c : ((m : Int) < IntKind.i64.wrap (2 * A)) = True := by rw [hw]; exact eq_true h2
        clear hw
        have HN := Aside0.mk (HD.out.trans (if_pos h2))
        clear HD
        go_wp2
        go_ret
        exact ⟨by rw [HN.out]; rfl, HB1.out⟩
      · have h2b : decide ((m : Int) < IntKind.i64.wrap (2 * A)) = false := by rw [hw]; exact decide_eq_false h2
        have h2c : ((m : Int) < IntKind.i64.wrap (2 * A)) = False := by rw [hw]; exact eq_false h2
        clear hw
        have HN := Aside0.mk (HD.out.trans (if_neg h2))
        clear HD
        go_wp2
        go_roundw
        case rel => exact ⟨HV1, HB1, .inr (.inl ⟨rfl, HN⟩)⟩
        case measure => simp [intOf]
    · have hw : IntKind.i64.wrap (2 * B) = 2 * B := (i64_w _).trans (by unfold wrap64; omega)
      go_wp2_with fail
      go_region_held3 (fun W => W.cell? ⟨g, 0, none⟩ = some (.int .i64 (m : Int)) ∧ Aside0 (RB W g (m : Int) fs fa fh last cl) ∧ Aside0 (Below w.heap.size w W))
        (first
          | exact ⟨c0, ⟨HV.out⟩, ⟨below_drew HB.out⟩⟩
          | (go_split_ands; exact ⟨pw_cell_below hb (by assumption), ⟨blk_below (by exact Aside0.out (by assumption)) hb⟩, ⟨below_step (by exact Aside0.out (by assumption)) hb⟩⟩))
        (first | (go_at_call 50; refine (H1.out _ (by exact Aside0.out (by assumption))).mono ?_; rintro e w' ⟨rfl, hb⟩))
      obtain ⟨c1, HV1, HB1⟩ := ‹_ ∧ Aside0 (RB _ g (m : Int) fs fa fh last cl) ∧ Aside0 _›
      clear c0 HV HB hlt
      by_cases h2 : (m : Int) < 2 * B
      · have h2b : decide ((m : Int) < IntKind.i64.wrap (2 * B)) = true := by rw [hw]; exact decide_eq_true h2
        have h2c : ((m : Int) < IntKind.i64.wrap (2 * B)) = True := by rw [hw]; exact eq_true h2
        clear hw
        have HN := Aside0.mk (HD.out.trans (if_pos h2))
        clear HD
        go_wp2
        go_ret
        exact ⟨by rw [HN.out]; rfl, HB1.out⟩
      · have h2b : decide ((m : Int) < IntKind.i64.wrap (2 * B)) = false := by rw [hw]; exact decide_eq_false h2
        have h2c : ((m : Int) < IntKind.i64.wrap (2 * B)) = False := by rw [hw]; exact eq_false h2
        clear hw
        have HN := Aside0.mk (HD.out.trans (if_neg h2))
        clear HD
        go_wp2
        go_roundw
        case rel => exact ⟨HV1, HB1, .inr (.inr (.inl ⟨rfl, HN⟩))⟩
        case measure => simp [intOf]
    · have hw : IntKind.i64.wrap (2 * C) = 2 * C := (i64_w _).trans (by unfold wrap64; omega)
      go_wp2_with fail
      go_region_held3 (fun W => W.cell? ⟨g, 0, none⟩ = some (.int .i64 (m : Int)) ∧ Aside0 (RB W g (m : Int) fs fa fh last cl) ∧ Aside0 (Below w.heap.size w W))
        (first
          | exact ⟨c0, ⟨HV.out⟩, ⟨below_drew HB.out⟩⟩
          | (go_split_ands; exact ⟨pw_cell_below hb (by assumption), ⟨blk_below (by exact Aside0.out (by assumption)) hb⟩, ⟨below_step (by exact Aside0.out (by assumption)) hb⟩⟩))
        (first | (go_at_call 50; refine (H2.out _ (by exact Aside0.out (by assumption))).mono ?_; rintro e w' ⟨rfl, hb⟩))
      obtain ⟨c1, HV1, HB1⟩ := ‹_ ∧ Aside0 (RB _ g (m : Int) fs fa fh last cl) ∧ Aside0 _›
      clear c0 HV HB hlt
      by_cases h2 : (m : Int) < 2 * C
      · have h2b : decide ((m : Int) < IntKind.i64.wrap (2 * C)) = true := by rw [hw]; exact decide_eq_true h2
        have h2c : ((m : Int) < IntKind.i64.wrap (2 * C)) = True := by rw [hw]; exact eq_true h2
        clear hw
        have HN := Aside0.mk (HD.out.trans (if_pos h2))
        clear HD
        go_wp2
        go_ret
        exact ⟨by rw [HN.out]; rfl, HB1.out⟩
      · have h2b : decide ((m : Int) < IntKind.i64.wrap (2 * C)) = false := by rw [hw]; exact decide_eq_false h2
        have h2c : ((m : Int) < IntKind.i64.wrap (2 * C)) = False := by rw [hw]; exact eq_false h2
        clear hw
        have HN := Aside0.mk (HD.out.trans (if_neg h2))
        clear HD
        go_wp2
        go_roundw
        case rel => exact ⟨HV1, HB1, .inr (.inr (.inr ⟨rfl, HN⟩))⟩
        case measure => simp [intOf]
    · go_wp2
      go_ret
      exact ⟨by rw [HD.out]; rfl, HB.out⟩
set_option maxHeartbeats 1600000 in
set_option maxRecDepth 100000 in
theorem rdecision_nil (u : Int) (w : World) : Calls Try.prog 32 #[.pointer none, .int .i64 u] w fun e w' => e = .returned (.int .i64 3) ∧ Below w.heap.size w w' := by
  have hu1 := Try.underlying91
  go_enter Try.func32, Try.ntmps32
  go_wp2
  go_ret
  exact ⟨rfl, Below.refl _ _⟩
set_option maxHeartbeats 1600000 in
set_option maxRecDepth 100000 in
theorem rcounts_nil (u : Int) (w : World) : Calls Try.prog 30 #[.pointer none, .int .i64 u] w fun e w' => e = .returned (.tuple #[.int .i64 0, .int .i64 0, .int .i64 0]) ∧ Below w.heap.size w w' := by
  have hu1 := Try.underlying91
  go_enter Try.func30, Try.ntmps30
  go_wp2
  refine bodyPost_ret (v := .tuple #[.int .i64 0, .int .i64 0, .int .i64 0]) (by simp [results, Try.results30, go_sem]) rfl ?_
  exact ⟨rfl, by repeat (first | exact Below.refl _ _ | apply below_alloc | apply pw_below_drewN)⟩
set_option maxHeartbeats 1600000 in
set_option maxRecDepth 100000 in
theorem rcounts_ok (g m : Nat) (fs fa : Nat → Int) (fh : Nat → Bool) (last : Int) (cl : Bool) (u : Int) (w : World) (hn : 1 ≤ m ∧ m ≤ 12) (hv : RB w g (m : Int) fs fa fh last cl) (ha : ∀ j, j < 12 → -8000000000 ≤ fa j ∧ fa j ≤ 8000000000) :
    Calls Try.prog 30 #[.pointer (some ⟨g, 0, none⟩), .int .i64 u] w fun e w' => e = .returned (.tuple #[.int .i64 (rtc fs fa fh u 0 m), .int .i64 (rtc fs fa fh u 1 m), .int .i64 (rtc fs fa fh u 2 m)]) ∧ Below w.heap.size w w' := by
  have hu1 := Try.underlying91
  have HV := Aside0.mk hv
  have HC := Aside0.mk (fun (c : Int) W (hW : RB W g (m : Int) fs fa fh last cl) => count_ok g m fs fa fh last cl c u W hn hW ha)
  have hlt := blk_lt hv
  clear hv ha
  go_enter Try.func30, Try.ntmps30
  go_wp2_with fail
  refine (HC.out 0 _ HV.out).mono ?_
  rintro e w1 ⟨rfl, hb1⟩
  have HV1 := Aside0.mk (show RB w1 g (m : Int) fs fa fh last cl from blk_below HV.out hb1)
  have HB1 := Aside0.mk hb1
  clear hb1 HV
  go_wp2_with fail
  refine (HC.out 1 _ HV1.out).mono ?_
  rintro e w2 ⟨rfl, hb2⟩
  have HV2 := Aside0.mk (show RB w2 g (m : Int) fs fa fh last cl from blk_below HV1.out hb2)
  have HB2 := Aside0.mk (below_step HB1.out hb2)
  clear hb2 HV1 HB1
  go_wp2_with fail
  refine (HC.out 2 _ HV2.out).mono ?_
  rintro e w3 ⟨rfl, hb3⟩
  have HB3 := Aside0.mk (below_step HB2.out hb3)
  clear hb3 HV2 HB2
  go_wp2
  refine bodyPost_ret (v := .tuple #[.int .i64 (rtc fs fa fh u 0 m), .int .i64 (rtc fs fa fh u 1 m), .int .i64 (rtc fs fa fh u 2 m)]) (by simp [results, Try.results30, go_sem]) rfl ?_
  exact ⟨rfl, by repeat (first | exact HB3.out | apply below_alloc | apply pw_below_drewN)⟩
end Go.Proofs.Ytljbajnmkkebkaa.Vo
namespace Go.Proofs.Ytljbajnmkkebkaa.Vo
open Go.RowKit Go.Proofs.Ytljbajnmkkebkaa.All Go.Proofs.YtljbajnmkkebkaaW.PrintWords Go.Proofs.YtljbajnmkkebkaaW.PrintLast Go.Proofs.YtljbajnmkkebkaaW.PrintMore
set_option linter.unusedSimpArgs false
set_option linter.unusedVariables false

set_option maxHeartbeats 6400000 in
set_option maxRecDepth 100000 in
theorem rarm_of (p : Value) (D u t : Int) (ok : Bool) (w : World) (hm : timesyncref54_next.f 2000 u = some (t, ok))
    (hd : ∀ W, Below w.heap.size w W → Calls Try.prog 32 #[p, .int .i64 u] W fun e w' => e = .returned (.int .i64 D) ∧ Below W.heap.size W w') :
    Calls Try.prog 31 #[p, .int .i64 u] w fun e w' => e = .returned (.tuple #[.agg #[.int .i64 (armR D t ok).1, .int .i64 (armR D t ok).2.1], .bool (armR D t ok).2.2]) ∧ Below w.heap.size w w' := by
  have hu := Try.underlying44
  have HD := Aside0.mk hd
  have HM := Aside0.mk hm
  clear hd hm
  have HA := Aside0.mk (AR.start w)
  by_cases d : D = 1 ∨ D = 2
  · have HR := Aside0.mk (show armR D t ok = if ok = true then (t, 3 - 2 * D, true) else (0, 0, false) from by unfold armR; rw [if_pos d])
    rw [HR.out]
    clear HR
    cases ok
    · rw [if_neg (show ¬ false = true by decide)]
      rcases d with rfl | rfl
      · skip
        go_enter Try.func31, Try.ntmps31
        go_wp2_with fail
        refine (HD.out _ HA.out.hb).mono ?_
        rintro e w0 ⟨rfl, hb0⟩
        replace HA := Aside0.mk (HA.out.step hb0)
        clear hb0 HD
        have c0 := blk_cell HA.out.k0 0
        have c1 := blk_cell HA.out.k0 1
        have f0 := blk_frozen HA.out.k0 0
        have f1 := blk_frozen HA.out.k0 1
        have l0 := blk_lt HA.out.k0
        go_wp2_with fail
        refine (timesyncref54_next.calls 2000 u t false _ HM.out).mono ?_
        rintro e w1 ⟨rfl, hb1⟩
        replace HA := Aside0.mk (HA.out.step hb1)
        clear hb1 HM c0 c1 f0 f1 l0
        have c0 := blk_cell HA.out.k0 0
        have c1 := blk_cell HA.out.k0 1
        have f0 := blk_frozen HA.out.k0 0
        have f1 := blk_frozen HA.out.k0 1
        have l0 := blk_lt HA.out.k0
        go_wp2
        refine bodyPost_ret (v := .tuple #[.agg #[.int .i64 0, .int .i64 0], .bool false]) (by simp [results, Try.results31, go_sem, c0, c1, l0, f0, f1]) rfl ?_
        exact ⟨rfl, by repeat (first | exact HA.out.hb | apply below_alloc | apply pw_below_drewN | refine Below.setCell ?_ (by simp) _)⟩
      · skip
        go_enter Try.func31, Try.ntmps31
        go_wp2_with fail
        refine (HD.out _ HA.out.hb).mono ?_
        rintro e w0 ⟨rfl, hb0⟩
        replace HA := Aside0.mk (HA.out.step hb0)
        clear hb0 HD
        have c0 := blk_cell HA.out.k0 0
        have c1 := blk_cell HA.out.k0 1
        have f0 := blk_frozen HA.out.k0 0
        have f1 := blk_frozen HA.out.k0 1
        have l0 := blk_lt HA.out.k0
        go_wp2_with fail
        refine (timesyncref54_next.calls 2000 u t false _ HM.out).mono ?_
        rintro e w1 ⟨rfl, hb1⟩
        replace HA := Aside0.mk (HA.out.step hb1)
        clear hb1 HM c0 c1 f0 f1 l0
        have c0 := blk_cell HA.out.k0 0
        have c1 := blk_cell HA.out.k0 1
        have f0 := blk_frozen HA.out.k0 0
        have f1 := blk_frozen HA.out.k0 1
        have l0 := blk_lt HA.out.k0
        go_wp2
        refine bodyPost_ret (v := .tuple #[.agg #[.int .i64 0, .int .i64 0], .bool false]) (by simp [results, Try.results31, go_sem, c0, c1, l0, f0, f1]) rfl ?_
        exact ⟨rfl, by repeat (first | exact HA.out.hb | apply below_alloc | apply pw_below_drewN | refine Below.setCell ?_ (by simp) _)⟩
    · rw [if_pos (show true = true from rfl)]
      rcases d with rfl | rfl
      · skip
        go_enter Try.func31, Try.ntmps31
        go_wp2_with fail
        refine (HD.out _ HA.out.hb).mono ?_
        rintro e w0 ⟨rfl, hb0⟩
        replace HA := Aside0.mk (HA.out.step hb0)
        clear hb0 HD
        have c0 := blk_cell HA.out.k0 0
        have c1 := blk_cell HA.out.k0 1
        have f0 := blk_frozen HA.out.k0 0
        have f1 := blk_frozen HA.out.k0 1
        have l0 := blk_lt HA.out.k0
        go_wp2_with fail
        refine (timesyncref54_next.calls 2000 u t true _ HM.out).mono ?_
        rintro e w1 ⟨rfl, hb1⟩
        replace HA := Aside0.mk (HA.out.step hb1)
        clear hb1 HM c0 c1 f0 f1 l0
        have c0 := blk_cell HA.out.k0 0
        have c1 := blk_cell HA.out.k0 1
        have f0 := blk_frozen HA.out.k0 0
        have f1 := blk_frozen HA.out.k0 1
        have l0 := blk_lt HA.out.k0
        go_wp2
        refine bodyPost_ret (v := .tuple #[.agg #[.int .i64 t, .int .i64 (1)], .bool true]) (by simp [results, Try.results31, go_sem, c0, c1, l0, f0, f1]) rfl ?_
        exact ⟨rfl, by repeat (first | exact HA.out.hb | apply below_alloc | apply pw_below_drewN | refine Below.setCell ?_ (by simp) _)⟩
      · skip
        go_enter Try.func31, Try.ntmps31
        go_wp2_with fail
        refine (HD.out _ HA.out.hb).mono ?_
        rintro e w0 ⟨rfl, hb0⟩
        replace HA := Aside0.mk (HA.out.step hb0)
        clear hb0 HD
        have c0 := blk_cell HA.out.k0 0
        have c1 := blk_cell HA.out.k0 1
        have f0 := blk_frozen HA.out.k0 0
        have f1 := blk_frozen HA.out.k0 1
        have l0 := blk_lt HA.out.k0
        go_wp2_with fail
        refine (timesyncref54_next.calls 2000 u t true _ HM.out).mono ?_
        rintro e w1 ⟨rfl, hb1⟩
        replace HA := Aside0.mk (HA.out.step hb1)
        clear hb1 HM c0 c1 f0 f1 l0
        have c0 := blk_cell HA.out.k0 0
        have c1 := blk_cell HA.out.k0 1
        have f0 := blk_frozen HA.out.k0 0
        have f1 := blk_frozen HA.out.k0 1
        have l0 := blk_lt HA.out.k0
        go_wp2
        refine bodyPost_ret (v := .tuple #[.agg #[.int .i64 t, .int .i64 (-1)], .bool true]) (by simp [results, Try.results31, go_sem, c0, c1, l0, f0, f1]) rfl ?_
        exact ⟨rfl, by repeat (first | exact HA.out.hb | apply below_alloc | apply pw_below_drewN | refine Below.setCell ?_ (by simp) _)⟩
  · have d1 : decide (D = 1) = false := decide_eq_false (fun g => d (.inl g))
    have d2 : decide (D = 2) = false := decide_eq_false (fun g => d (.inr g))
    have dn1 : (D != 1) = true := by simpa using fun g => d (.inl g)
    have dn2 : (D != 2) = true := by simpa using fun g => d (.inr g)
    have HR := Aside0.mk (show armR D t ok = (0, 0, false) from by unfold armR; rw [if_neg d])
    rw [HR.out]
    clear HR d
    go_enter Try.func31, Try.ntmps31
    go_wp2_with fail
    refine (HD.out _ HA.out.hb).mono ?_
    rintro e w0 ⟨rfl, hb0⟩
    replace HA := Aside0.mk (HA.out.step hb0)
    clear hb0 HD
    have c0 := blk_cell HA.out.k0 0
    have c1 := blk_cell HA.out.k0 1
    have f0 := blk_frozen HA.out.k0 0
    have f1 := blk_frozen HA.out.k0 1
    have l0 := blk_lt HA.out.k0
    go_wp2
    refine bodyPost_ret (v := .tuple #[.agg #[.int .i64 0, .int .i64 0], .bool false]) (by simp [results, Try.results31, go_sem, c0, c1, l0, f0, f1]) rfl ?_
    exact ⟨rfl, by repeat (first | exact HA.out.hb | apply below_alloc | apply pw_below_drewN | refine Below.setCell ?_ (by simp) _)⟩
theorem rarm_ok (g m : Nat) (fs fa : Nat → Int) (fh : Nat → Bool) (last : Int) (cl : Bool) (u t : Int) (ok : Bool) (w : World) (hm : timesyncref54_next.f 2000 u = some (t, ok)) (hn : 1 ≤ m ∧ m ≤ 12) (hv : RB w g (m : Int) fs fa fh last cl) (ha : ∀ j, j < 12 → -8000000000 ≤ fa j ∧ fa j ≤ 8000000000) :
    Calls Try.prog 31 #[.pointer (some ⟨g, 0, none⟩), .int .i64 u] w fun e w' => e = .returned (.tuple #[.agg #[.int .i64 (armR (dec m (rtc fs fa fh u 0 m) (rtc fs fa fh u 1 m) (rtc fs fa fh u 2 m)) t ok).1, .int .i64 (armR (dec m (rtc fs fa fh u 0 m) (rtc fs fa fh u 1 m) (rtc fs fa fh u 2 m)) t ok).2.1], .bool (armR (dec m (rtc fs fa fh u 0 m) (rtc fs fa fh u 1 m) (rtc fs fa fh u 2 m)) t ok).2.2]) ∧ Below w.heap.size w w' :=
  rarm_of _ _ u t ok w hm (fun W hW => rdecision_ok g m fs fa fh last cl u W hn (blk_below hv hW) ha)
theorem rarm_nil (u t : Int) (ok : Bool) (w : World) (hm : timesyncref54_next.f 2000 u = some (t, ok)) :
    Calls Try.prog 31 #[.pointer none, .int .i64 u] w fun e w' => e = .returned (.tuple #[.agg #[.int .i64 0, .int .i64 0], .bool false]) ∧ Below w.heap.size w w' :=
  rarm_of _ 3 u t ok w hm (fun W _ => rdecision_nil u W)
end Go.Proofs.Ytljbajnmkkebkaa.Vo
