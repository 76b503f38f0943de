/- A voter of leapvote: its block of cells, read and set. No condition. -/
import Derived.Test.YtljbajnmkkebkaaAll0
namespace Go.Proofs.Ytljbajnmkkebkaa.Vo
open Go.RowKit Go.Proofs.Ytljbajnmkkebkaa.All Go.Proofs.YtljbajnmkkebkaaW.PrintWords Go.Proofs.YtljbajnmkkebkaaW.PrintLast Go.Proofs.YtljbajnmkkebkaaW.PrintMore
set_option linter.unusedSimpArgs false
set_option linter.unusedVariables false

/-- Cell i of a voter: the number of servers, the twelve votes, the last second. -/
def vcell (n : Int) (fi fa : Nat → Int) (last : Int) (i : Nat) : Value :=
  if i = 0 then .int .i64 n else if i = 25 then .int .i64 last else if i % 2 = 1 then .int .i64 (fi (i / 2)) else .int .i64 (fa (i / 2 - 1))
def VC (n : Int) (fi fa : Nat → Int) (last : Int) : Array Value := Array.ofFn (n := 26) fun i => vcell n fi fa last i
def upd (f : Nat → Int) (k : Nat) (x : Int) : Nat → Int := fun j => if j = k then x else f j
theorem VC_get (n : Int) (fi fa : Nat → Int) (last : Int) (i : Nat) (h : i < 26) : (VC n fi fa last)[i]? = some (vcell n fi fa last i) := by
  unfold VC
  rw [Array.getElem?_ofFn, dif_pos h]
theorem VC_n (n : Int) (fi fa : Nat → Int) (last : Int) : (VC n fi fa last)[0]? = some (.int .i64 n) := VC_get n fi fa last 0 (by omega)
theorem VC_last (n : Int) (fi fa : Nat → Int) (last : Int) : (VC n fi fa last)[25]? = some (.int .i64 last) := VC_get n fi fa last 25 (by omega)
theorem VC_ind (n : Int) (fi fa : Nat → Int) (last : Int) (k : Nat) (h : k < 12) : (VC n fi fa last)[2 * k + 1]? = some (.int .i64 (fi k)) := by
  rw [VC_get _ _ _ _ _ (by omega)]
  unfold vcell
  rw [if_neg (by omega), if_neg (by omega), if_pos (by omega), show (2 * k + 1) / 2 = k by omega]
theorem VC_at (n : Int) (fi fa : Nat → Int) (last : Int) (k : Nat) (h : k < 12) : (VC n fi fa last)[2 * k + 2]? = some (.int .i64 (fa k)) := by
  rw [VC_get _ _ _ _ _ (by omega)]
  unfold vcell
  rw [if_neg (by omega), if_neg (by omega), if_neg (by omega), show (2 * k + 2) / 2 - 1 = k by omega]
theorem VC_size (n : Int) (fi fa : Nat → Int) (last : Int) : (VC n fi fa last).size = 26 := by simp [VC]
theorem VC_ext {a b : Array Value} (ha : a.size = 26) (hb : b.size = 26) (h : ∀ i, i < 26 → a[i]? = b[i]?) : a = b := by
  apply Array.ext (by omega)
  intro i h1 h2
  have h3 := h i (by omega)
  rw [Array.getElem?_eq_getElem h1, Array.getElem?_eq_getElem h2] at h3
  exact Option.some.inj h3
theorem VC_set_ind (n : Int) (fi fa : Nat → Int) (last : Int) (k : Nat) (h : k < 12) (x : Int) : (VC n fi fa last).setIfInBounds (2 * k + 1) (.int .i64 x) = VC n (upd fi k x) fa last := by
  refine VC_ext (by rw [Array.size_setIfInBounds, VC_size]) (VC_size ..) fun i hi => ?_
  rw [VC_get _ _ _ _ i hi, Array.getElem?_setIfInBounds, VC_size]
  by_cases e : 2 * k + 1 = i
  · rw [if_pos e, if_pos (by omega)]
    unfold vcell upd
    rw [if_neg (by omega), if_neg (by omega), if_pos (by omega), if_pos (by omega)]
  · rw [if_neg e, VC_get _ _ _ _ i hi]
    unfold vcell upd
    by_cases g1 : i = 0
    · rw [if_pos g1, if_pos g1]
    · rw [if_neg g1, if_neg g1]
      by_cases g2 : i = 25
      · rw [if_pos g2, if_pos g2]
      · rw [if_neg g2, if_neg g2]
        by_cases g3 : i % 2 = 1
        · rw [if_pos g3, if_pos g3, if_neg (by omega)]
        · rw [if_neg g3, if_neg g3]
theorem VC_set_at (n : Int) (fi fa : Nat → Int) (last : Int) (k : Nat) (h : k < 12) (x : Int) : (VC n fi fa last).setIfInBounds (2 * k + 2) (.int .i64 x) = VC n fi (upd fa k x) last := by
  refine VC_ext (by rw [Array.size_setIfInBounds, VC_size]) (VC_size ..) fun i hi => ?_
  rw [VC_get _ _ _ _ i hi, Array.getElem?_setIfInBounds, VC_size]
  by_cases e : 2 * k + 2 = i
  · rw [if_pos e, if_pos (by omega)]
    unfold vcell upd
    rw [if_neg (by omega), if_neg (by omega), if_neg (by omega), if_pos (by omega)]
  · rw [if_neg e, VC_get _ _ _ _ i hi]
    unfold vcell upd
    by_cases g1 : i = 0
    · rw [if_pos g1, if_pos g1]
    · rw [if_neg g1, if_neg g1]
      by_cases g2 : i = 25
      · rw [if_pos g2, if_pos g2]
      · rw [if_neg g2, if_neg g2]
        by_cases g3 : i % 2 = 1
        · rw [if_pos g3, if_pos g3]
        · rw [if_neg g3, if_neg g3, if_neg (by omega)]
theorem VC_set_last (n : Int) (fi fa : Nat → Int) (last x : Int) : (VC n fi fa last).setIfInBounds 25 (.int .i64 x) = VC n fi fa x := by
  refine VC_ext (by rw [Array.size_setIfInBounds, VC_size]) (VC_size ..) fun i hi => ?_
  rw [VC_get _ _ _ _ i hi, Array.getElem?_setIfInBounds, VC_size]
  by_cases e : 25 = i
  · rw [if_pos e, if_pos (by omega)]
    unfold vcell
    rw [if_neg (by omega), if_pos e.symm]
  · rw [if_neg e, VC_get _ _ _ _ i hi]
    unfold vcell
    rw [if_neg (show ¬ i = 25 from fun g => e g.symm), if_neg (show ¬ i = 25 from fun g => e g.symm)]
theorem VC_zero (n last : Int) : VC n (fun _ => 0) (fun _ => 0) last = #[.int .i64 n, .int .i64 0, .int .i64 0, .int .i64 0, .int .i64 0, .int .i64 0, .int .i64 0, .int .i64 0, .int .i64 0, .int .i64 0, .int .i64 0, .int .i64 0, .int .i64 0, .int .i64 0, .int .i64 0, .int .i64 0, .int .i64 0, .int .i64 0, .int .i64 0, .int .i64 0, .int .i64 0, .int .i64 0, .int .i64 0, .int .i64 0, .int .i64 0, .int .i64 last] :=
  VC_ext (VC_size ..) rfl fun i hi => by
    rw [VC_get _ _ _ _ i hi]
    match i, hi with
    | 0, _ => rfl
    | 1, _ => rfl
    | 2, _ => rfl
    | 3, _ => rfl
    | 4, _ => rfl
    | 5, _ => rfl
    | 6, _ => rfl
    | 7, _ => rfl
    | 8, _ => rfl
    | 9, _ => rfl
    | 10, _ => rfl
    | 11, _ => rfl
    | 12, _ => rfl
    | 13, _ => rfl
    | 14, _ => rfl
    | 15, _ => rfl
    | 16, _ => rfl
    | 17, _ => rfl
    | 18, _ => rfl
    | 19, _ => rfl
    | 20, _ => rfl
    | 21, _ => rfl
    | 22, _ => rfl
    | 23, _ => rfl
    | 24, _ => rfl
    | 25, _ => rfl
    | _ + 26, h => exact absurd h (by omega)
/-- A voter in memory. -/
def VB (w : World) (g : Nat) (n : Int) (fi fa : Nat → Int) (last : Int) : Prop := w.heap[g]? = some (.cells (VC n fi fa last) 84 (0, 0))
end Go.Proofs.Ytljbajnmkkebkaa.Vo
