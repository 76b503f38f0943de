/- Plain arithmetic of oscillators: a segment that is divided in two changes no reading, nor does a rate of a segment that begins at or after the time. No program in sight. No condition. -/
import Derived.Test.YtimbfocogklmhaaOscMath
namespace Go.Proofs.Ytimbfocogklmhaa.OscM

/-- The segments with one more, that begins at 'at_', as the i-th. -/
def ca (a : Nat → Int) (i : Nat) (at_ : Int) (j : Nat) : Int := if j < i then a j else if j = i then at_ else a (j - 1)
def cp (p : Nat → Int) (i : Nat) (q : Int) (j : Nat) : Int := if j < i then p j else if j = i then q else p (j - 1)
section
variable {a p : Nat → Int} {n i : Nat} {ph at_ q t : Int}
structure Fits (a : Nat → Int) (n i : Nat) (at_ : Int) : Prop where
  i0 : 0 < i
  hi : i ≤ n
  lo : a (i - 1) < at_
  hi2 : i < n → at_ < a i
  top : at_ ≤ 1125899906842624
theorem cut_valid (v : Valid a p n ph) (f : Fits a n i at_) (hn : n < 16) (hq : -500000 ≤ q ∧ q ≤ 500000) : Valid (ca a i at_) (cp p i q) (n + 1) ph := by
  have i0 := f.i0
  have hi := f.hi
  have lo := f.lo
  have top := f.top
  have al := v.al (i - 1) (by omega)
  refine ⟨by omega, by omega, v.phl, v.phh, ?_, ?_, ?_, ?_, ?_, ?_⟩
  · intro j hj
    unfold ca
    split
    · exact v.al j (by omega)
    · split
      · omega
      · exact v.al (j - 1) (by omega)
  · intro j hj
    unfold ca
    split
    · exact v.ah j (by omega)
    · split
      · omega
      · exact v.ah (j - 1) (by omega)
  · intro j hj
    unfold cp
    split
    · exact v.pl j (by omega)
    · split
      · omega
      · exact v.pl (j - 1) (by omega)
  · intro j hj
    unfold cp
    split
    · exact v.pu j (by omega)
    · split
      · omega
      · exact v.pu (j - 1) (by omega)
  · unfold ca
    rw [if_pos i0]
    exact v.a0
  · intro j hj
    unfold ca
    by_cases h1 : j + 1 < i
    · rw [if_pos (by omega), if_pos h1]
      exact v.up j (by omega)
    · by_cases h2 : j + 1 = i
      · rw [if_pos (by omega), if_neg h1, if_pos h2]
        have e : j = i - 1 := by omega
        rw [e]
        exact lo
      · by_cases h3 : j = i
        · rw [if_neg (by omega), if_pos h3, if_neg h1, if_neg h2]
          have := f.hi2 (by omega)
          have e : j + 1 - 1 = i := by omega
          rw [e]
          exact this
        · rw [if_neg (by omega), if_neg h3, if_neg h1, if_neg h2]
          have := v.up (j - 1) (by omega)
          have e : j - 1 + 1 = j + 1 - 1 := by omega
          rw [e] at this
          exact this
theorem cut_before (f : Fits a n i at_) : ∀ j, j ≤ i - 1 → sG (ca a i at_) (cp p i q) (n + 1) t j = sG a p n t j := by
  have i0 := f.i0
  have hi := f.hi
  intro j
  induction j with
  | zero => intro _; rfl
  | succ j ih =>
    intro hj
    simp only [sG]
    rw [ih (by omega)]
    have e1 : cp p i q j = p j := by unfold cp; rw [if_pos (by omega)]
    have e2 : ca a i at_ j = a j := by unfold ca; rw [if_pos (by omega)]
    have e3 : en (ca a i at_) (n + 1) j = en a n j := by
      unfold en
      rw [if_pos (by omega), if_pos (by omega)]
      unfold ca
      rw [if_pos (by omega)]
    have e4 : xs (ca a i at_) (n + 1) t j = xs a n t j := by unfold xs; rw [e2, e3]
    rw [e1, e4]
theorem cut_at (v : Valid a p n ph) (f : Fits a n i at_) : sG (ca a i at_) (cp p i (p (i - 1))) (n + 1) t (i + 1) = sG a p n t i := by
  have i0 := f.i0
  have hi := f.hi
  obtain ⟨m, rfl⟩ : ∃ m, i = m + 1 := ⟨i - 1, by omega⟩
  have hb := cut_before (p := p) (q := p m) (t := t) f m (by omega)
  have hm : m + 1 - 1 = m := by omega
  rw [hm]
  have lo := f.lo
  rw [hm] at lo
  show sG (ca a (m + 1) at_) (cp p (m + 1) (p m)) (n + 1) t m + cp p (m + 1) (p m) m * xs (ca a (m + 1) at_) (n + 1) t m + cp p (m + 1) (p m) (m + 1) * xs (ca a (m + 1) at_) (n + 1) t (m + 1) = sG a p n t m + p m * xs a n t m
  have e1 : cp p (m + 1) (p m) m = p m := by unfold cp; rw [if_pos (by omega)]
  have e2 : cp p (m + 1) (p m) (m + 1) = p m := by unfold cp; rw [if_neg (by omega), if_pos rfl]
  rw [hb, e1, e2, Int.add_assoc, ← Int.mul_add]
  congr 2
  have c1 : ca a (m + 1) at_ m = a m := by unfold ca; rw [if_pos (by omega)]
  have c2 : ca a (m + 1) at_ (m + 1) = at_ := by unfold ca; rw [if_neg (by omega), if_pos rfl]
  have g1 : en (ca a (m + 1) at_) (n + 1) m = at_ := by unfold en; rw [if_pos (by omega), c2]
  have g2 : en (ca a (m + 1) at_) (n + 1) (m + 1) = en a n m := by
    unfold en
    by_cases h : m + 1 < n
    · rw [if_pos (by omega), if_pos h]
      unfold ca
      rw [if_neg (by omega), if_neg (by omega)]
      congr 1
    · rw [if_neg (by omega), if_neg h]
  have hen : at_ ≤ en a n m := by
    unfold en
    split
    · have := f.hi2 (by omega); omega
    · exact f.top
  unfold xs
  rw [c1, c2, g1, g2]
  split <;> split <;> (try split) <;> (try split at *) <;> (try split at *) <;> (try split at *) <;> omega
theorem cut_after (v : Valid a p n ph) (f : Fits a n i at_) : ∀ d j, j = i + d → j ≤ n → sG (ca a i at_) (cp p i (p (i - 1))) (n + 1) t (j + 1) = sG a p n t j := by
  intro d
  induction d with
  | zero =>
    intro j hj _
    obtain rfl : j = i := by omega
    exact cut_at v f
  | succ d ih =>
    intro j hj hn
    obtain ⟨m, rfl⟩ : ∃ m, j = m + 1 := ⟨j - 1, by omega⟩
    have h := ih m (by omega) (by omega)
    show sG (ca a i at_) (cp p i (p (i - 1))) (n + 1) t (m + 1) + cp p i (p (i - 1)) (m + 1) * xs (ca a i at_) (n + 1) t (m + 1) = sG a p n t m + p m * xs a n t m
    have e1 : cp p i (p (i - 1)) (m + 1) = p m := by unfold cp; rw [if_neg (by omega), if_neg (by omega)]; congr 1
    have e2 : ca a i at_ (m + 1) = a m := by unfold ca; rw [if_neg (by omega), if_neg (by omega)]; congr 1
    have e3 : en (ca a i at_) (n + 1) (m + 1) = en a n m := by
      unfold en
      by_cases h : m + 1 < n
      · rw [if_pos (by omega), if_pos h]
        unfold ca
        rw [if_neg (by omega), if_neg (by omega)]
        congr 1
      · rw [if_neg (by omega), if_neg h]
    have e4 : xs (ca a i at_) (n + 1) t (m + 1) = xs a n t m := by unfold xs; rw [e2, e3]
    rw [h, e1, e4]
theorem cut_reading (v : Valid a p n ph) (f : Fits a n i at_) : reading (ca a i at_) (cp p i (p (i - 1))) (n + 1) ph t = reading a p n ph t := by
  have hi := f.hi
  unfold reading
  rw [cut_after v f (n - i) n (by omega) (Nat.le_refl _)]
/-- A rate of a segment that begins at or after the time does not matter. -/
theorem turn_reading {a p p' : Nat → Int} {n : Nat} (h : ∀ j, j < n → p j = p' j ∨ xs a n t j = 0) : reading a p n ph t = reading a p' n ph t := by
  have key : ∀ j, j ≤ n → sG a p n t j = sG a p' n t j := by
    intro j
    induction j with
    | zero => intro _; rfl
    | succ j ih =>
      intro hj
      simp only [sG]
      rw [ih (by omega)]
      rcases h j (by omega) with e | e
      · rw [e]
      · rw [e, Int.mul_zero, Int.mul_zero]
  unfold reading
  rw [key n (Nat.le_refl _)]
theorem xs_late (h : t ≤ a i) : xs a n t i = 0 := by
  unfold xs
  rw [if_neg]
  split <;> omega
end
end Go.Proofs.Ytimbfocogklmhaa.OscM
