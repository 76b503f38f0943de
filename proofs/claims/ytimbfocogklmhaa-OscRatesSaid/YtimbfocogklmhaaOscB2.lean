/- What the printed functions of the oscillator answer, in the words of OscMath: Rate and Bound of the program and of the reference; how far two readings differ. No condition. -/
import Derived.Test.YtimbfocogklmhaaAll7
import Derived.Test.YtimbfocogklmhaaAll8
import Derived.Test.YtimbfocogklmhaaOscBr
namespace Go.Proofs.Ytimbfocogklmhaa.OscB
open Go.RowKit Go.Proofs.Ytimbfocogklmhaa.All Go.Proofs.Ytimbfocogklmhaa.Row Go.Proofs.Ytimbfocogklmhaa.OscM Go.Proofs.YtimbfocogklmhaaW.PrintWords Go.Proofs.YtimbfocogklmhaaW.PrintLast

def bnd (p : Nat → Int) : Nat → Int
  | 0 => 0
  | i + 1 => mx (mx (bnd p i) (p i)) (-(p i))
theorem bnd_bd {p : Nat → Int} {n : Nat} (hp : ∀ i, i < n → -500000 ≤ p i ∧ p i ≤ 500000) : ∀ i, i ≤ n → 0 ≤ bnd p i ∧ bnd p i ≤ 500000 ∧ ∀ j, j < i → -(bnd p i) ≤ p j ∧ p j ≤ bnd p i := by
  intro i
  induction i with
  | zero => intro _; exact ⟨Int.le_refl _, by simp [bnd], fun j hj => by omega⟩
  | succ i ih =>
    intro hi
    obtain ⟨h1, h2, h3⟩ := ih (by omega)
    have hpi := hp i (by omega)
    have e : bnd p (i + 1) = mx (mx (bnd p i) (p i)) (-(p i)) := rfl
    have e1 : bnd p i ≤ bnd p (i + 1) ∧ p i ≤ bnd p (i + 1) ∧ -(p i) ≤ bnd p (i + 1) ∧ bnd p (i + 1) ≤ 500000 := by
      rw [e]
      unfold mx
      split <;> split at * <;> omega
    refine ⟨by omega, by omega, fun j hj => ?_⟩
    by_cases h : j = i
    · subst h; omega
    · have := h3 j (by omega)
      omega
section
variable {l : List S32} {ph : Int}
theorem bound_l0 (v : Valid (sa l) (sp l) l.length ph) : ∀ (d i k : Nat), i + d = l.length → d < k → osc_Bound.l0 k (bnd (sp l) i) l (l.length : Int) (i : Int) = some (bnd (sp l) l.length) := by
  have hn := v.few
  intro d
  induction d with
  | zero =>
    intro i k hi hk
    obtain ⟨k, rfl⟩ : ∃ m, k = m + 1 := ⟨k - 1, by omega⟩
    simp only [osc_Bound.l0]
    rw [if_neg (by omega)]
    obtain rfl : i = l.length := by omega
    rfl
  | succ d ih =>
    intro i k hi hk
    obtain ⟨k, rfl⟩ : ∃ m, k = m + 1 := ⟨k - 1, by omega⟩
    have hrec := ih (i + 1) k (by omega) (by omega)
    have ew : wrap64 ((i : Int) + 1) = ((i + 1 : Nat) : Int) := by rw [wz (by omega)]; rfl
    have h1 := v.pl i (by omega)
    have h2 := v.pu i (by omega)
    simp only [osc_Bound.l0]
    rw [if_pos (by omega), if_pos (by omega), if_pos (by omega), ew, rd_nat]
    change osc_Bound.l0 k (mx (mx (bnd (sp l) i) (sp l i)) (wrap64 (-(sp l i)))) l (l.length : Int) ((i + 1 : Nat) : Int) = _
    rw [wz (x := -(sp l i)) (by omega)]
    exact hrec
theorem rbound_l0 (v : Valid (sa l) (sp l) l.length ph) (qh : Int) : ∀ (d i k : Nat), i + d = l.length → d < k → timesyncref09_Bound.l0 k (bnd (sp l) i) (i : Int) qh l = some (bnd (sp l) l.length) := by
  have hn := v.few
  intro d
  induction d with
  | zero =>
    intro i k hi hk
    obtain ⟨k, rfl⟩ : ∃ m, k = m + 1 := ⟨k - 1, by omega⟩
    simp only [timesyncref09_Bound.l0]
    rw [if_neg (by omega)]
    obtain rfl : i = l.length := by omega
    rfl
  | succ d ih =>
    intro i k hi hk
    obtain ⟨k, rfl⟩ : ∃ m, k = m + 1 := ⟨k - 1, by omega⟩
    have hrec := ih (i + 1) k (by omega) (by omega)
    have ew : wrap64 ((i : Int) + 1) = ((i + 1 : Nat) : Int) := by rw [wz (by omega)]; rfl
    have h1 := v.pl i (by omega)
    have h2 := v.pu i (by omega)
    simp only [timesyncref09_Bound.l0]
    rw [if_pos (by omega), if_pos (by omega), ew, rd_nat]
    change timesyncref09_Bound.l0 k (mx (mx (bnd (sp l) i) (sp l i)) (wrap64 (-(sp l i)))) ((i + 1 : Nat) : Int) qh l = _
    rw [wz (x := -(sp l i)) (by omega)]
    exact hrec
end
def Bd (l : List S32) (ph : Int) : Int := if check (sa l) (sp l) l.length ph = 0 then bnd (sp l) l.length else 0
theorem bound_f (l : List S32) (ph : Int) (k : Nat) (hk : 60 < k) : osc_Bound.f k ph l = some (Bd l ph) := by
  unfold osc_Bound.f Bd
  rw [check_f l ph k hk, Option.bind_some]
  by_cases h : check (sa l) (sp l) l.length ph = 0
  · have v := valid_of h
    have := v.few
    rw [if_pos h, if_pos h]
    exact bound_l0 v l.length 0 k (by omega) (by omega)
  · rw [if_neg h, if_neg h]
theorem rbound_f (l : List S32) (ph : Int) (k : Nat) (hk : 60 < k) : timesyncref09_Bound.f k ph l = some (Bd l ph) := by
  unfold timesyncref09_Bound.f Bd
  rw [rcheck_f l ph k hk, Option.bind_some]
  by_cases h : check (sa l) (sp l) l.length ph = 0
  · have v := valid_of h
    have := v.few
    rw [if_pos h, if_pos h]
    exact rbound_l0 v ph l.length 0 k (by omega) (by omega)
  · rw [if_neg h, if_neg h]

def rt (a p : Nat → Int) (t : Int) : Nat → Nat → Int → Int
  | 0, _, x => x
  | d + 1, i, x => rt a p t d (i + 1) (if a i ≤ t then p i else x)
theorem rate_l0 (l : List S32) (hn : l.length ≤ 16) (t : Int) : ∀ (d i k : Nat) (x : Int), i + d = l.length → d < k → osc_Rate.l0 k t x l (l.length : Int) (i : Int) = some (rt (sa l) (sp l) t d i x) := by
  intro d
  induction d with
  | zero =>
    intro i k x hi hk
    obtain ⟨k, rfl⟩ : ∃ m, k = m + 1 := ⟨k - 1, by omega⟩
    simp only [osc_Rate.l0]
    rw [if_neg (by omega)]
    rfl
  | succ d ih =>
    intro i k x hi hk
    obtain ⟨k, rfl⟩ : ∃ m, k = m + 1 := ⟨k - 1, by omega⟩
    have hrec := fun x => ih (i + 1) k x (by omega) (by omega)
    have ew : wrap64 ((i : Int) + 1) = ((i + 1 : Nat) : Int) := by rw [wz (by omega)]; rfl
    simp only [osc_Rate.l0]
    rw [if_pos (by omega), if_pos (by omega), if_pos (by omega), ew, rd_nat, hrec, hrec]
    have e : rt (sa l) (sp l) t (d + 1) i x = rt (sa l) (sp l) t d (i + 1) (if sa l i ≤ t then sp l i else x) := rfl
    rw [e]
    change (if sa l i ≤ t then some (rt (sa l) (sp l) t d (i + 1) (sp l i)) else _) = _
    split <;> rfl
theorem rrate_l0 (l : List S32) (hn : l.length ≤ 16) (t qh : Int) : ∀ (d i k : Nat) (x : Int), i + d = l.length → d < k → timesyncref09_Rate.l0 k t x (i : Int) qh l = some (rt (sa l) (sp l) t d i x) := by
  intro d
  induction d with
  | zero =>
    intro i k x hi hk
    obtain ⟨k, rfl⟩ : ∃ m, k = m + 1 := ⟨k - 1, by omega⟩
    simp only [timesyncref09_Rate.l0]
    rw [if_neg (by omega)]
    rfl
  | succ d ih =>
    intro i k x hi hk
    obtain ⟨k, rfl⟩ : ∃ m, k = m + 1 := ⟨k - 1, by omega⟩
    have hrec := fun x => ih (i + 1) k x (by omega) (by omega)
    have ew : wrap64 ((i : Int) + 1) = ((i + 1 : Nat) : Int) := by rw [wz (by omega)]; rfl
    simp only [timesyncref09_Rate.l0]
    rw [if_pos (by omega), if_pos (by omega), ew, rd_nat, hrec, hrec]
    have e : rt (sa l) (sp l) t (d + 1) i x = rt (sa l) (sp l) t d (i + 1) (if sa l i ≤ t then sp l i else x) := rfl
    rw [e]
    change (if sa l i ≤ t then some (rt (sa l) (sp l) t d (i + 1) (sp l i)) else _) = _
    split <;> rfl
def Rt (l : List S32) (ph t : Int) : Int := if check (sa l) (sp l) l.length ph = 0 then rt (sa l) (sp l) t (l.length - 1) 1 (sp l 0) else 0
theorem rate_f (l : List S32) (ph t : Int) (k : Nat) (hk : 60 < k) : osc_Rate.f k ph l t = some (Rt l ph t) := by
  unfold osc_Rate.f Rt
  rw [check_f l ph k hk, Option.bind_some]
  by_cases h : check (sa l) (sp l) l.length ph = 0
  · have v := valid_of h
    have := v.few
    have := v.pos
    rw [if_pos h, if_pos h, if_pos (by omega)]
    have e := rate_l0 l v.few t l.length 0 k (sp l 0) (by omega) (by omega)
    obtain ⟨m, hm⟩ : ∃ m, l.length = m + 1 := ⟨l.length - 1, by omega⟩
    have e2 : rt (sa l) (sp l) t l.length 0 (sp l 0) = rt (sa l) (sp l) t (l.length - 1) 1 (sp l 0) := by
      rw [hm]
      show rt (sa l) (sp l) t m 1 (if sa l 0 ≤ t then sp l 0 else sp l 0) = _
      rw [ite_self]
      rfl
    rw [e2] at e
    exact e
  · rw [if_neg h, if_neg h]
theorem rrate_f (l : List S32) (ph t : Int) (k : Nat) (hk : 60 < k) : timesyncref09_Rate.f k ph l t = some (Rt l ph t) := by
  unfold timesyncref09_Rate.f Rt
  rw [rcheck_f l ph k hk, Option.bind_some]
  by_cases h : check (sa l) (sp l) l.length ph = 0
  · have v := valid_of h
    have := v.few
    have := v.pos
    rw [if_pos h, if_pos h, if_pos (by omega)]
    exact rrate_l0 l v.few t ph (l.length - 1) 1 k (sp l 0) (by omega) (by omega)
  · rw [if_neg h, if_neg h]

theorem span_yes {t d : Int} (h0 : 0 ≤ t) (h1 : 0 ≤ d) (h2 : t + d ≤ 1125899906842624) : timesynclaw09_span.f t d = some true := by
  unfold timesynclaw09_span.f
  rw [if_pos h0, if_pos (by omega), if_pos h1, wz (by omega), decide_eq_true (by omega)]
theorem span_no {t d : Int} (h : ¬ (0 ≤ t ∧ 0 ≤ d ∧ t + d ≤ 1125899906842624)) (hd : I64 d) : timesynclaw09_span.f t d = some false := by
  unfold timesynclaw09_span.f
  unfold I64 at hd
  by_cases h0 : t ≥ 0
  · rw [if_pos h0]
    by_cases h1 : t ≤ 1125899906842624
    · rw [if_pos h1]
      by_cases h2 : d ≥ 0
      · rw [if_pos h2, wz (by omega), decide_eq_false (by omega)]
      · rw [if_neg h2]
    · rw [if_neg h1]
  · rw [if_neg h0]
/-- Readings at times that are d apart. -/
theorem drift_le {a p : Nat → Int} {n : Nat} {ph t d B : Int} (v : Valid a p n ph) (h0 : 0 ≤ t) (hd : 0 ≤ d) (h1 : t + d ≤ 1125899906842624) (hB : 0 ≤ B) (hp : ∀ j, j < n → -B ≤ p j ∧ p j ≤ B) :
    reading a p n ph (t + d) - reading a p n ph t - d ≤ d / 1000000000 * B + (d % 1000000000 * B + 999999999) / 1000000000 ∧ d - (reading a p n ph (t + d) - reading a p n ph t) ≤ d / 1000000000 * B + (d % 1000000000 * B + 999999999) / 1000000000 := by
  have h := gain_move v (t := t) (t' := t + d) h0 (by omega) h1 hB hp
  have e : B * (t + d - t) = 1000000000 * (d / 1000000000 * B) + d % 1000000000 * B := by
    have h2 := Int.mul_ediv_add_emod d 1000000000
    calc B * (t + d - t) = B * (1000000000 * (d / 1000000000) + d % 1000000000) := by rw [h2]; congr 1; omega
      _ = _ := by rw [Int.mul_add, Int.mul_left_comm, Int.mul_comm B (d / 1000000000), Int.mul_comm B (d % 1000000000)]
  rw [e] at h
  unfold reading
  generalize d / 1000000000 * B = Q at *
  generalize d % 1000000000 * B = R at *
  generalize sG a p n (t + d) n = G1 at *
  generalize sG a p n t n = G0 at *
  omega
end Go.Proofs.Ytimbfocogklmhaa.OscB
