/- How the arguments of a law read: structs by value field by field, slices of structs of whole numbers. General lemmas over any program. No condition. -/
import Derived.ProofKit
import Derived.WalkKit
import Derived.Deep.Slices
import Derived.Deep.Fields
import Derived.ChangeSame
import Derived.OpenShut
import Derived.Test.YtljbajnmkkebkaaWWords
import Derived.Test.YtljbajnmkkebkaaWLast
namespace Go.Proofs.Ytljbajnmkkebkaa.Row
open Go.ChangeShapes Go.WideShapes Go.RowKit Go.Deep Go.Proofs.YtljbajnmkkebkaaW.PrintWords Go.Proofs.YtljbajnmkkebkaaW.PrintLast

/-- A number of the kind int. -/
def I64 (x : Int) : Prop := -9223372036854775808 ≤ x ∧ x ≤ 9223372036854775807
theorem i64_of_wf {x : Int} (h : (Lit.int .i64 x).wf = true) : I64 x := by
  have := bounds_i64 h
  unfold I64
  omega

section
variable {H : Type} {enc : TypeId × Value → H} {P : Program} {w : World} {base : Nat} {spare : Nat → Bool} {held : Bool}

theorem open_fields {r : Reach} {b0 : Nat} {t : TypeId} {fs : Array Field} {v : Value} {d : DataW H} {p : List MemPlace} (hs : P.underlying t = some (.struct fs)) (hone : oneCellFields P fs = true) (hC : P.cellsOf t = fs.size)
    (hv : Value.okWide P w r b0 t v) (h : DataW.Trod enc P w base spare held t v d p) :
    ∃ (l : List Value) (n : Nat), v = .agg l.toArray ∧ l.length = fs.size ∧ ∀ (j : Nat) (f : Field), fs[j]? = some f → ∃ u y, l[j]? = some u ∧ DataW.trod enc P w base spare held n f.type [u] = some y := by
  obtain ⟨cs, rfl, hsz⟩ := okWide_struct hs hv
  obtain ⟨l⟩ := cs
  obtain ⟨fuel, hf⟩ := h
  obtain ⟨xs, n, _, hx, hcl, hlen, hg⟩ := DataW.trod_struct hs hf
  have hl : l.length = fs.size := by simpa using hsz.trans hC
  refine ⟨l, n, rfl, hl, fun j f hj => ?_⟩
  obtain ⟨o, k⟩ := hone_of hone j f hj
  have hjl : j < fs.size := (Array.getElem?_eq_some_iff.1 hj).1
  have h1 := hg j f hj
  rw [o, k] at h1
  have hc : (Value.agg ⟨l⟩).cells.toList = l := by simp [Value.cells]
  have hone' : (l.drop j).take 1 = [l[j]'(by omega)] := by
    rw [List.drop_eq_getElem_cons (by omega)]
    rfl
  rw [hc, hone', List.getElem?_eq_getElem (by omega)] at h1
  exact ⟨_, _, List.getElem?_eq_getElem (by omega), h1⟩

theorem int_field {t : TypeId} {k : IntKind} {n : Nat} {u : Value} {y : DataW H × List MemPlace} (ht : P.underlying t = some (.int k)) (h : DataW.trod enc P w base spare held n t [u] = some y) :
    ∃ a, u = .int k a ∧ (Lit.int k a).wf = true := by
  obtain ⟨a, e, _, hw⟩ := DataW.trod_int ht h
  exact ⟨a, by simpa using e, hw⟩

/-- A slice of structs of two numbers. -/
theorem rows2 {α : Type} (K : Kd α) (mk : Int → Int → α) (hz : K.sz = 2) (hmk : ∀ w x y, K.K w (mk x y) [.int .i64 x, .int .i64 y])
    {t e tI : TypeId} {f0 f1 : Field} {fuel : Nat} {v : Value} {x : DataW H × List MemPlace} (ht : P.underlying t = some (.slice e)) (he : P.underlying e = some (.struct #[f0, f1]))
    (hone : oneCellFields P #[f0, f1] = true) (hC : P.cellsOf e = 2) (h0 : f0.type = tI) (h1 : f1.type = tI) (hI : P.underlying tI = some (.int .i64)) (h : DataW.trod enc P w base spare held fuel t [v] = some x) :
    ∃ (A : Option Addr) (n c : Nat) (l : List α), v = .slice A n c ∧ l.length = n ∧ K.C w A n l ∧ n ≤ c ∧ n ≤ 9223372036854775807 ∧ ∀ z ∈ l, ∃ x y, z = mk x y ∧ I64 x ∧ I64 y := by
  rcases open_slice ht h with ⟨hcs, _⟩ | ⟨a, len, cap, m, n, D, Pl, hcs, hb, hl, hm, hmm, hx, hi⟩
  · obtain rfl : v = .slice none 0 0 := by simpa using hcs
    exact ⟨none, 0, 0, [], rfl, rfl, Kd.C_nil K w, by omega, by omega, by simp⟩
  · obtain rfl : v = .slice (some a) len cap := by simpa using hcs
    have hm' : len ≤ m := by rw [hmm]; split <;> omega
    have hmax : cap ≤ 9223372036854775807 := by simpa [maxLen] using hm
    have key : ∀ i, i < len → ∃ x y, I64 x ∧ I64 y ∧ w.cell? (a.add (i * 2)) = some (.int .i64 x) ∧ w.cell? (a.add (i * 2 + 1)) = some (.int .i64 y) := by
      intro i hil
      obtain ⟨cs', hc, ht'⟩ := hi i (by omega)
      rw [hC] at hc
      obtain ⟨ys, n', _, hy, hlen, hyl, hf⟩ := DataW.trod_struct he ht'
      obtain ⟨_, hcl, hat⟩ := World.cells?_some hc
      have hlen' : cs'.length = 2 := hlen.trans hC
      obtain ⟨o0, k0⟩ := hone_of hone 0 f0 rfl
      obtain ⟨o1, k1⟩ := hone_of hone 1 f1 rfl
      have g0 := hf 0 f0 rfl
      have g1 := hf 1 f1 rfl
      rw [o0, k0] at g0
      rw [o1, k1] at g1
      match cs', hlen' with
      | [u0, u1], _ =>
        rw [List.getElem?_eq_getElem (by simp at hyl; omega), h0] at g0
        rw [List.getElem?_eq_getElem (by simp at hyl; omega), h1] at g1
        obtain ⟨x, rfl, wx⟩ := int_field hI (by simpa using g0)
        obtain ⟨y, rfl, wy⟩ := int_field hI (by simpa using g1)
        have c0 := hat 0 (by omega)
        have c1 := hat 1 (by omega)
        rw [Go.Deep.add_add] at c0 c1
        exact ⟨x, y, i64_of_wf wx, i64_of_wf wy, by simpa using c0, by simpa using c1⟩
    clear hi hx ht h
    have keyl : ∀ i, ∃ z : α, i < len → ∃ x y, z = mk x y ∧ I64 x ∧ I64 y ∧ w.cell? (a.add (i * 2)) = some (.int .i64 x) ∧ w.cell? (a.add (i * 2 + 1)) = some (.int .i64 y) := by
      intro i
      by_cases hil : i < len
      · obtain ⟨x, y, h1, h2, h3, h4⟩ := key i hil
        exact ⟨mk x y, fun _ => ⟨x, y, rfl, h1, h2, h3, h4⟩⟩
      · exact ⟨mk 0 0, fun h => absurd h hil⟩
    obtain ⟨Z, hZ⟩ := Classical.axiomOfChoice keyl
    refine ⟨some a, len, cap, (List.range len).map Z, rfl, by simp, ⟨by simp, by omega, fun _ => ⟨a, rfl, ?_⟩⟩, hl, by omega, ?_⟩
    · intro j p hj
      rw [hz]
      have hjl : j < len := by
        have := (List.getElem?_eq_some_iff.1 hj).1
        simpa using this
      obtain ⟨x, y, e, _, _, c0, c1⟩ := hZ j hjl
      have hp : p = Z j := by
        simp [List.getElem?_map, List.getElem?_range hjl] at hj
        exact hj.symm
      rw [hp, e]
      refine ⟨_, rfl, hmk w x y, ?_⟩
      intro i u hu
      match i, hu with
      | 0, hu => obtain rfl : Value.int .i64 x = u := by simpa using hu
                 exact c0
      | 1, hu => obtain rfl : Value.int .i64 y = u := by simpa using hu
                 exact c1
      | i + 2, hu => simp at hu
    · intro z hz'
      obtain ⟨i, hi, rfl⟩ := List.mem_map.1 hz'
      obtain ⟨x, y, e, wx, wy, _⟩ := hZ i (List.mem_range.1 hi)
      exact ⟨x, y, e, wx, wy⟩
end

theorem list2 {α : Type} {l : List α} (h : l.length = 2) : ∃ a b, l = [a, b] := by
  match l, h with
  | [a, b], _ => exact ⟨a, b, rfl⟩
theorem list3 {α : Type} {l : List α} (h : l.length = 3) : ∃ a b c, l = [a, b, c] := by
  match l, h with
  | [a, b, c], _ => exact ⟨a, b, c, rfl⟩
theorem list7 {α : Type} {l : List α} (h : l.length = 7) : ∃ a b c d e f g, l = [a, b, c, d, e, f, g] := by
  match l, h with
  | [a, b, c, d, e, f, g], _ => exact ⟨a, b, c, d, e, f, g, rfl⟩
end Go.Proofs.Ytljbajnmkkebkaa.Row
