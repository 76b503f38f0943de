/- Plain arithmetic of oscillators: the check of segments, the lengths of a time's parts in the segments, the gain and its bounds. No program in sight. No condition. -/
namespace Go.Proofs.Ytimbfocogklmhaa.OscM

/-- The error of segment i. -/
def segErr (a p : Nat → Int) (i : Nat) : Int :=
  if a i < 0 ∨ 1125899906842624 < a i ∨ p i < -500000 ∨ 500000 < p i then 3
  else if i = 0 ∧ a i ≠ 0 then 7 else if 0 < i ∧ a i ≤ a (i - 1) then 12 else 0
def chk (a p : Nat → Int) : Nat → Nat → Int
  | 0, _ => 0
  | d + 1, i => if segErr a p i = 0 then chk a p d (i + 1) else segErr a p i
def check (a p : Nat → Int) (n : Nat) (ph : Int) : Int :=
  if n = 0 then 14 else if 16 < n then 6 else if ph < -1125899906842624 ∨ 1125899906842624 < ph then 3 else chk a p n 0

structure Valid (a p : Nat → Int) (n : Nat) (ph : Int) : Prop where
  pos : 0 < n
  few : n ≤ 16
  phl : -1125899906842624 ≤ ph
  phh : ph ≤ 1125899906842624
  al : ∀ i, i < n → 0 ≤ a i
  ah : ∀ i, i < n → a i ≤ 1125899906842624
  pl : ∀ i, i < n → -500000 ≤ p i
  pu : ∀ i, i < n → p i ≤ 500000
  a0 : a 0 = 0
  up : ∀ i, i + 1 < n → a i < a (i + 1)

theorem segErr_zero {a p : Nat → Int} {i : Nat} (h : segErr a p i = 0) : 0 ≤ a i ∧ a i ≤ 1125899906842624 ∧ -500000 ≤ p i ∧ p i ≤ 500000 ∧ (i = 0 → a i = 0) ∧ (0 < i → a (i - 1) < a i) := by
  unfold segErr at h
  split at h
  · omega
  · split at h
    · omega
    · split at h
      · omega
      · omega
theorem chk_zero {a p : Nat → Int} : ∀ (d i : Nat), chk a p d i = 0 → ∀ j, i ≤ j → j < i + d → segErr a p j = 0 := by
  intro d
  induction d with
  | zero => intro i _ j h1 h2; omega
  | succ d ih =>
    intro i h j h1 h2
    unfold chk at h
    by_cases e : segErr a p i = 0
    · rw [if_pos e] at h
      by_cases ej : j = i
      · subst ej; exact e
      · exact ih (i + 1) h j (by omega) (by omega)
    · rw [if_neg e] at h
      exact absurd h e
theorem chk_of {a p : Nat → Int} : ∀ (d i : Nat), (∀ j, i ≤ j → j < i + d → segErr a p j = 0) → chk a p d i = 0 := by
  intro d
  induction d with
  | zero => intro i _; rfl
  | succ d ih =>
    intro i h
    unfold chk
    rw [if_pos (h i (by omega) (by omega))]
    exact ih (i + 1) (fun j h1 h2 => h j (by omega) (by omega))
theorem segErr_of {a p : Nat → Int} {i : Nat} (h : 0 ≤ a i ∧ a i ≤ 1125899906842624 ∧ -500000 ≤ p i ∧ p i ≤ 500000 ∧ (i = 0 → a i = 0) ∧ (0 < i → a (i - 1) < a i)) : segErr a p i = 0 := by
  unfold segErr
  rw [if_neg (by omega), if_neg (by omega), if_neg (by omega)]
theorem valid_of {a p : Nat → Int} {n : Nat} {ph : Int} (h : check a p n ph = 0) : Valid a p n ph := by
  unfold check at h
  by_cases h1 : n = 0
  · rw [if_pos h1] at h; omega
  rw [if_neg h1] at h
  by_cases h2 : 16 < n
  · rw [if_pos h2] at h; omega
  rw [if_neg h2] at h
  by_cases h3 : ph < -1125899906842624 ∨ 1125899906842624 < ph
  · rw [if_pos h3] at h; omega
  rw [if_neg h3] at h
  have hs : ∀ j, j < n → segErr a p j = 0 := fun j hj => chk_zero n 0 h j (by omega) (by omega)
  exact ⟨by omega, by omega, by omega, by omega, fun i hi => (segErr_zero (hs i hi)).1, fun i hi => (segErr_zero (hs i hi)).2.1, fun i hi => (segErr_zero (hs i hi)).2.2.1,
    fun i hi => (segErr_zero (hs i hi)).2.2.2.1, (segErr_zero (hs 0 (by omega))).2.2.2.2.1 rfl, fun i hi => by simpa using (segErr_zero (hs (i + 1) hi)).2.2.2.2.2 (by omega)⟩
theorem check_of {a p : Nat → Int} {n : Nat} {ph : Int} (v : Valid a p n ph) : check a p n ph = 0 := by
  have := v.pos
  have := v.few
  have := v.phl
  have := v.phh
  unfold check
  rw [if_neg (by omega), if_neg (by omega), if_neg (by omega)]
  refine chk_of n 0 fun j _ hj => segErr_of ⟨v.al j (by omega), v.ah j (by omega), v.pl j (by omega), v.pu j (by omega), fun e => by subst e; exact v.a0, fun hp => ?_⟩
  have := v.up (j - 1) (by omega)
  rw [show j - 1 + 1 = j by omega] at this
  exact this

/-- The end of segment i. -/
def en (a : Nat → Int) (n : Nat) (i : Nat) : Int := if i + 1 < n then a (i + 1) else 1125899906842624
/-- How much of a time lies in segment i. -/
def xs (a : Nat → Int) (n : Nat) (t : Int) (i : Nat) : Int := if 0 < (if en a n i < t then en a n i else t) - a i then (if en a n i < t then en a n i else t) - a i else 0
def sW (a p : Nat → Int) (n : Nat) (t : Int) : Nat → Int
  | 0 => 0
  | i + 1 => sW a p n t i + p i * (xs a n t i / 1000000000)
def sR (a p : Nat → Int) (n : Nat) (t : Int) : Nat → Int
  | 0 => 0
  | i + 1 => sR a p n t i + p i * (xs a n t i % 1000000000)
def sG (a p : Nat → Int) (n : Nat) (t : Int) : Nat → Int
  | 0 => 0
  | i + 1 => sG a p n t i + p i * xs a n t i
def sX (a : Nat → Int) (n : Nat) (t : Int) : Nat → Int
  | 0 => 0
  | i + 1 => sX a n t i + xs a n t i
def reading (a p : Nat → Int) (n : Nat) (ph t : Int) : Int := ph + t + sG a p n t n / 1000000000

theorem mul_bd {p y P Y : Int} (h1 : -P ≤ p) (h2 : p ≤ P) (h3 : 0 ≤ y) (h4 : y ≤ Y) (hP : 0 ≤ P) : -(P * Y) ≤ p * y ∧ p * y ≤ P * Y := by
  have e1 : p * y ≤ P * y := Int.mul_le_mul_of_nonneg_right h2 h3
  have e2 : (-P) * y ≤ p * y := Int.mul_le_mul_of_nonneg_right h1 h3
  have e3 : P * y ≤ P * Y := Int.mul_le_mul_of_nonneg_left h4 hP
  rw [Int.neg_mul] at e2
  omega
theorem xs_nonneg (a : Nat → Int) (n : Nat) (t : Int) (i : Nat) : 0 ≤ xs a n t i := by
  unfold xs
  split <;> omega
section
variable {a p : Nat → Int} {n : Nat} {ph t : Int}
theorem en_bd (v : Valid a p n ph) {i : Nat} (hi : i < n) : a i ≤ en a n i ∧ en a n i ≤ 1125899906842624 := by
  have := v.ah i hi
  unfold en
  split
  · rename_i h
    have := v.up i h
    have := v.ah (i + 1) h
    omega
  · omega
theorem xs_bd (v : Valid a p n ph) {i : Nat} (hi : i < n) : xs a n t i ≤ 1125899906842624 := by
  have := en_bd v hi
  have := v.al i hi
  unfold xs
  split
  · split <;> omega
  · omega
theorem sW_bd (v : Valid a p n ph) : ∀ i, i ≤ n → -(562949500000 * (i : Int)) ≤ sW a p n t i ∧ sW a p n t i ≤ 562949500000 * (i : Int) := by
  intro i
  induction i with
  | zero => intro _; simp [sW]
  | succ i ih =>
    intro hi
    have h := ih (by omega)
    have hx := xs_bd (t := t) v (i := i) (by omega)
    have h0 := xs_nonneg a n t i
    have hb := mul_bd (p := p i) (y := xs a n t i / 1000000000) (P := 500000) (Y := 1125899) (v.pl i (by omega)) (v.pu i (by omega)) (by omega) (by omega) (by omega)
    simp only [sW]
    generalize p i * (xs a n t i / 1000000000) = z at *
    push_cast
    omega
theorem sR_bd (v : Valid a p n ph) : ∀ i, i ≤ n → -(500000000000000 * (i : Int)) ≤ sR a p n t i ∧ sR a p n t i ≤ 500000000000000 * (i : Int) := by
  intro i
  induction i with
  | zero => intro _; simp [sR]
  | succ i ih =>
    intro hi
    have h := ih (by omega)
    have h0 := xs_nonneg a n t i
    have hb := mul_bd (p := p i) (y := xs a n t i % 1000000000) (P := 500000) (Y := 1000000000) (v.pl i (by omega)) (v.pu i (by omega)) (by omega) (by omega) (by omega)
    simp only [sR]
    generalize p i * (xs a n t i % 1000000000) = z at *
    push_cast
    omega
theorem sG_split : ∀ i, sG a p n t i = 1000000000 * sW a p n t i + sR a p n t i := by
  intro i
  induction i with
  | zero => simp [sG, sW, sR]
  | succ i ih =>
    simp only [sG, sW, sR, ih]
    have e : p i * xs a n t i = 1000000000 * (p i * (xs a n t i / 1000000000)) + p i * (xs a n t i % 1000000000) := by
      have h := Int.mul_ediv_add_emod (xs a n t i) 1000000000
      calc p i * xs a n t i = p i * (1000000000 * (xs a n t i / 1000000000) + xs a n t i % 1000000000) := by rw [h]
        _ = _ := by rw [Int.mul_add, Int.mul_left_comm]
    rw [e]
    generalize p i * (xs a n t i / 1000000000) = z
    generalize p i * (xs a n t i % 1000000000) = y
    omega
theorem reading_split : reading a p n ph t = ph + t + sW a p n t n + sR a p n t n / 1000000000 := by
  unfold reading
  rw [sG_split]
  omega
theorem sX_eq (v : Valid a p n ph) (h0 : 0 ≤ t) : ∀ i, i < n → sX a n t i + xs a n t i = if en a n i < t then en a n i else t := by
  intro i
  induction i with
  | zero =>
    intro hi
    have := en_bd v hi
    have := v.a0
    simp only [sX]
    unfold xs
    split
    · omega
    · split at * <;> omega
  | succ i ih =>
    intro hi
    have h := ih (by omega)
    have e : en a n i = a (i + 1) := by unfold en; rw [if_pos hi]
    have := en_bd v hi
    simp only [sX]
    rw [h, e]
    unfold xs
    split
    · split <;> split at * <;> omega
    · split <;> split at * <;> omega
theorem sX_all (v : Valid a p n ph) (h0 : 0 ≤ t) (h1 : t ≤ 1125899906842624) : sX a n t n = t := by
  have hp := v.pos
  obtain ⟨m, rfl⟩ : ∃ m, n = m + 1 := ⟨n - 1, by omega⟩
  have h := sX_eq v h0 m (by omega)
  have e : en a (m + 1) m = 1125899906842624 := by unfold en; rw [if_neg (by omega)]
  simp only [sX]
  rw [h, e]
  split <;> omega
theorem xs_mono {t' : Int} (h : t ≤ t') (i : Nat) : xs a n t i ≤ xs a n t' i := by
  unfold xs
  split <;> split <;> (try split) <;> (try split at *) <;> (try split at *) <;> omega
/-- The gain turns by no more than the bound for each nanosecond. -/
theorem sG_move {t' B : Int} (h : t ≤ t') (hB : 0 ≤ B) : ∀ i, (∀ j, j < i → -B ≤ p j ∧ p j ≤ B) → -(B * (sX a n t' i - sX a n t i)) ≤ sG a p n t' i - sG a p n t i ∧ sG a p n t' i - sG a p n t i ≤ B * (sX a n t' i - sX a n t i) := by
  intro i
  induction i with
  | zero => intro _; simp [sG, sX]
  | succ i ih =>
    intro hp
    have h1 := ih (fun j hj => hp j (by omega))
    have hx := xs_mono (a := a) (n := n) h i
    have hb := mul_bd (p := p i) (y := xs a n t' i - xs a n t i) (P := B) (Y := xs a n t' i - xs a n t i) (hp i (by omega)).1 (hp i (by omega)).2 (by omega) (by omega) hB
    simp only [sG, sX]
    have e1 : B * (sX a n t' i + xs a n t' i - (sX a n t i + xs a n t i)) = B * (sX a n t' i - sX a n t i) + B * (xs a n t' i - xs a n t i) := by rw [← Int.mul_add]; congr 1; omega
    have e2 : p i * (xs a n t' i - xs a n t i) = p i * xs a n t' i - p i * xs a n t i := Int.mul_sub _ _ _
    rw [e1]
    rw [e2] at hb
    generalize B * (sX a n t' i - sX a n t i) = u at *
    generalize B * (xs a n t' i - xs a n t i) = z at *
    generalize p i * xs a n t' i = x1 at *
    generalize p i * xs a n t i = x2 at *
    omega
theorem gain_move (v : Valid a p n ph) {t' B : Int} (h0 : 0 ≤ t) (h : t ≤ t') (h1 : t' ≤ 1125899906842624) (hB : 0 ≤ B) (hp : ∀ j, j < n → -B ≤ p j ∧ p j ≤ B) :
    -(B * (t' - t)) ≤ sG a p n t' n - sG a p n t n ∧ sG a p n t' n - sG a p n t n ≤ B * (t' - t) := by
  have := sG_move (a := a) (n := n) h hB n hp
  rw [sX_all v h0 (by omega), sX_all v (by omega) h1] at this
  exact this
theorem reading_mono (v : Valid a p n ph) {t' : Int} (h0 : 0 ≤ t) (h : t ≤ t') (h1 : t' ≤ 1125899906842624) : reading a p n ph t ≤ reading a p n ph t' := by
  have := gain_move v (B := 500000) h0 h h1 (by omega) (fun j hj => ⟨v.pl j hj, v.pu j hj⟩)
  unfold reading
  omega
theorem reading_bd (v : Valid a p n ph) (h0 : 0 ≤ t) (h1 : t ≤ 1125899906842624) : -4611686018427387904 ≤ reading a p n ph t ∧ reading a p n ph t ≤ 4611686018427387904 := by
  have h2 := sW_bd (t := t) v n (Nat.le_refl _)
  have h3 := sR_bd (t := t) v n (Nat.le_refl _)
  have := v.few
  have := v.phl
  have := v.phh
  rw [reading_split]
  omega
end
end Go.Proofs.Ytimbfocogklmhaa.OscM
