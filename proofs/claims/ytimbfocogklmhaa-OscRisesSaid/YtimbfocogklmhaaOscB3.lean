/- What When answers, of the program and of the reference: the least time with at least a reading. No condition. -/
import Derived.Test.YtimbfocogklmhaaAll9
import Derived.Test.YtimbfocogklmhaaAll7
import Derived.Test.YtimbfocogklmhaaOscBr
namespace Go.Proofs.Ytimbfocogklmhaa.OscB
open Go.RowKit Go.Proofs.Ytimbfocogklmhaa.All Go.Proofs.Ytimbfocogklmhaa.Row Go.Proofs.Ytimbfocogklmhaa.OscM Go.Proofs.YtimbfocogklmhaaW.PrintWords Go.Proofs.YtimbfocogklmhaaW.PrintLast

/-- t is the least time with a reading of at least r, or one beyond all. -/
structure Least (rd : Int → Int) (r t : Int) : Prop where
  lo : 0 ≤ t
  hi : t ≤ 1125899906842625
  below : ∀ x, 0 ≤ x → x < t → rd x < r
  above : ∀ x, t ≤ x → x ≤ 1125899906842624 → r ≤ rd x
theorem Least.one {rd : Int → Int} {r t t' : Int} (h : Least rd r t) (h' : Least rd r t') : t = t' := by
  have a1 := h.lo
  have a2 := h.hi
  have b1 := h'.lo
  have b2 := h'.hi
  rcases Int.lt_trichotomy t t' with c | c | c
  · have := h'.below t a1 c
    have := h.above t (by omega) (by omega)
    omega
  · exact c
  · have := h.below t' b1 c
    have := h'.above t' (by omega) (by omega)
    omega
section
variable {l : List S32} {ph : Int}
theorem mono_below (v : Valid (sa l) (sp l) l.length ph) {r h : Int} (h0 : 0 ≤ h) (h1 : h ≤ 1125899906842624) (hr : reading (sa l) (sp l) l.length ph h < r) : ∀ x, 0 ≤ x → x < h + 1 → reading (sa l) (sp l) l.length ph x < r := by
  intro x hx hlt
  have := reading_mono v hx (show x ≤ h by omega) h1
  omega
theorem mono_above (v : Valid (sa l) (sp l) l.length ph) {r h : Int} (h0 : 0 ≤ h) (hr : r ≤ reading (sa l) (sp l) l.length ph h) : ∀ x, h ≤ x → x ≤ 1125899906842624 → r ≤ reading (sa l) (sp l) l.length ph x := by
  intro x hx hlt
  have := reading_mono v h0 hx hlt
  omega
theorem s0_ex (v : Valid (sa l) (sp l) l.length ph) (r : Int) : ∀ (m : Nat) (i j : Int) (k : Nat), 0 ≤ i → i ≤ j → j ≤ 1125899906842625 → j - i < 2 ^ m → m + 61 < k →
    (∀ x, 0 ≤ x → x < i → reading (sa l) (sp l) l.length ph x < r) → (∀ x, j ≤ x → x ≤ 1125899906842624 → r ≤ reading (sa l) (sp l) l.length ph x) →
    ∃ t, osc_When.s0 k ph l (spn l) r i j = some t ∧ Least (reading (sa l) (sp l) l.length ph) r t := by
  intro m
  induction m with
  | zero =>
    intro i j k h0 hij hj hm hk hb ha
    obtain ⟨k, rfl⟩ : ∃ q, k = q + 1 := ⟨k - 1, by omega⟩
    have e : j = i := by
      have : (2 : Int) ^ 0 = 1 := rfl
      omega
    subst e
    exact ⟨j, by simp only [osc_When.s0]; rw [if_neg (by omega)], h0, hj, hb, ha⟩
  | succ m ih =>
    intro i j k h0 hij hj hm hk hb ha
    obtain ⟨k, rfl⟩ : ∃ q, k = q + 1 := ⟨k - 1, by omega⟩
    rw [Int.pow_succ] at hm
    generalize hq : (2 : Int) ^ m = q at *
    simp only [osc_When.s0]
    by_cases hlt : i < j
    · rw [if_pos hlt, read_f v (by omega) (by omega) k (by omega), Option.bind_some]
      by_cases hr : reading (sa l) (sp l) l.length ph ((i + j) / 2) ≥ r
      · rw [if_pos hr]
        exact ih i ((i + j) / 2) k h0 (by omega) (by omega) (by omega) (by omega) hb (mono_above v (by omega) hr)
      · rw [if_neg hr]
        exact ih ((i + j) / 2 + 1) j k (by omega) (by omega) hj (by omega) (by omega) (mono_below v (by omega) (by omega) (by omega)) ha
    · rw [if_neg hlt]
      have e : j = i := by omega
      subst e
      exact ⟨j, rfl, h0, hj, hb, ha⟩
theorem rs0_ex (v : Valid (sa l) (sp l) l.length ph) (r : Int) : ∀ (m : Nat) (i j : Int) (k : Nat), 0 ≤ i → i ≤ j → j ≤ 1125899906842624 → j - i < 2 ^ m → m + 61 < k →
    (∀ x, 0 ≤ x → x < i → reading (sa l) (sp l) l.length ph x < r) → (∀ x, j ≤ x → x ≤ 1125899906842624 → r ≤ reading (sa l) (sp l) l.length ph x) →
    ∃ t, timesyncref09_When.l0 k r i j ph l = some (t, 0) ∧ t ≤ 1125899906842624 ∧ Least (reading (sa l) (sp l) l.length ph) r t := by
  intro m
  induction m with
  | zero =>
    intro i j k h0 hij hj hm hk hb ha
    obtain ⟨k, rfl⟩ : ∃ q, k = q + 1 := ⟨k - 1, by omega⟩
    have e : j = i := by
      have : (2 : Int) ^ 0 = 1 := rfl
      omega
    subst e
    exact ⟨j, by simp only [timesyncref09_When.l0]; rw [if_neg (by omega)], hj, h0, by omega, hb, ha⟩
  | succ m ih =>
    intro i j k h0 hij hj hm hk hb ha
    obtain ⟨k, rfl⟩ : ∃ q, k = q + 1 := ⟨k - 1, by omega⟩
    rw [Int.pow_succ] at hm
    generalize hq : (2 : Int) ^ m = q at *
    simp only [timesyncref09_When.l0]
    by_cases hlt : i < j
    · have em : wrap64 (Int.tdiv (wrap64 (i + j)) 2) = (i + j) / 2 := by rw [wz (x := i + j) (by omega), Int.tdiv_eq_ediv_of_nonneg (by omega), wz (by omega)]
      have ef : timesyncref09_read.f k ph l ((i + j) / 2) = some (reading (sa l) (sp l) l.length ph ((i + j) / 2)) := by
        have h := rread_l0 v (t := (i + j) / 2) (by omega) (by omega) l.length 0 k (by omega) (by have := v.few; omega)
        exact h
      rw [if_pos hlt, em, ef, Option.bind_some]
      by_cases hr : reading (sa l) (sp l) l.length ph ((i + j) / 2) ≥ r
      · rw [if_pos hr]
        exact ih i ((i + j) / 2) k h0 (by omega) (by omega) (by omega) (by omega) hb (mono_above v (by omega) hr)
      · rw [if_neg hr, wz (x := (i + j) / 2 + 1) (by omega)]
        exact ih ((i + j) / 2 + 1) j k (by omega) (by omega) hj (by omega) (by omega) (mono_below v (by omega) (by omega) (by omega)) ha
    · rw [if_neg hlt]
      have e : j = i := by omega
      subst e
      exact ⟨j, rfl, hj, h0, by omega, hb, ha⟩
theorem When_ex (v : Valid (sa l) (sp l) l.length ph) (r : Int) (k : Nat) (hk : 130 < k) : ∃ t, osc_When.f k ph l r = some (if t > 1125899906842624 then (0, 11) else (t, 0)) ∧ Least (reading (sa l) (sp l) l.length ph) r t := by
  obtain ⟨t, ht, hl⟩ := s0_ex v r 51 0 1125899906842625 k (by omega) (by omega) (by omega) (by decide) (by omega) (fun x h1 h2 => by omega) (fun x h1 h2 => by omega)
  refine ⟨t, ?_, hl⟩
  unfold osc_When.f
  rw [check_f l ph k (by omega), Option.bind_some, if_pos (check_of v), spans_f l ph v.few k (by omega), Option.bind_some, ht, Option.bind_some]
  split <;> rfl
theorem RWhen_ex (v : Valid (sa l) (sp l) l.length ph) (r : Int) (k : Nat) (hk : 130 < k) : ∃ t, timesyncref09_When.f k ph l r = some (if t > 1125899906842624 then (0, 11) else (t, 0)) ∧ Least (reading (sa l) (sp l) l.length ph) r t := by
  have hf := v.few
  have ef : timesyncref09_read.f k ph l 1125899906842624 = some (reading (sa l) (sp l) l.length ph 1125899906842624) := rread_l0 v (t := 1125899906842624) (by omega) (by omega) l.length 0 k (by omega) (by omega)
  unfold timesyncref09_When.f
  rw [rcheck_f l ph k (by omega), Option.bind_some, if_pos (check_of v), ef, Option.bind_some]
  by_cases h : reading (sa l) (sp l) l.length ph 1125899906842624 < r
  · rw [if_pos h]
    refine ⟨1125899906842625, by rw [if_pos (by omega)], by omega, by omega, fun x h1 h2 => ?_, fun x h1 h2 => by omega⟩
    have := reading_mono v h1 (show x ≤ 1125899906842624 by omega) (by omega)
    omega
  · rw [if_neg h]
    obtain ⟨t, e, ht, hl⟩ := rs0_ex v r 51 0 1125899906842624 k (by omega) (by omega) (by omega) (by decide) (by omega) (fun x h1 h2 => by omega) (fun x h1 h2 => by
      obtain rfl : x = 1125899906842624 := by omega
      omega)
    exact ⟨t, by rw [e, if_neg (by omega)], hl⟩
end
theorem When_no {l : List S32} {ph : Int} (h : check (sa l) (sp l) l.length ph ≠ 0) (r : Int) (k : Nat) (hk : 130 < k) : osc_When.f k ph l r = some (0, check (sa l) (sp l) l.length ph) := by
  unfold osc_When.f
  rw [check_f l ph k (by omega), Option.bind_some, if_neg h]
theorem RWhen_no {l : List S32} {ph : Int} (h : check (sa l) (sp l) l.length ph ≠ 0) (r : Int) (k : Nat) (hk : 130 < k) : timesyncref09_When.f k ph l r = some (0, check (sa l) (sp l) l.length ph) := by
  unfold timesyncref09_When.f
  rw [rcheck_f l ph k (by omega), Option.bind_some, if_neg h]
end Go.Proofs.Ytimbfocogklmhaa.OscB
