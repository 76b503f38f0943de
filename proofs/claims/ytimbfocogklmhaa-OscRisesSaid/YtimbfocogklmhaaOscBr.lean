/- What the printed functions of the oscillator answer, in the words of OscMath: both checks, both readings. No condition. -/
import Derived.Test.YtimbfocogklmhaaAll2
import Derived.Test.YtimbfocogklmhaaAll3
import Derived.Test.YtimbfocogklmhaaAll4
import Derived.Test.YtimbfocogklmhaaOscMath
import Derived.Test.YtimbfocogklmhaaRow
namespace Go.Proofs.Ytimbfocogklmhaa.OscB
open Go.RowKit Go.Proofs.Ytimbfocogklmhaa.All Go.Proofs.Ytimbfocogklmhaa.Row Go.Proofs.Ytimbfocogklmhaa.OscM Go.Proofs.YtimbfocogklmhaaW.PrintWords Go.Proofs.YtimbfocogklmhaaW.PrintLast

def sa (l : List S32) : Nat → Int := fun i => (l.getD i z32).f0
def sp (l : List S32) : Nat → Int := fun i => (l.getD i z32).f1
theorem rd_nat (l : List S32) (i : Nat) : rd_T32 l (i : Int) = l.getD i z32 := by simp [rd_T32]
theorem wz {x : Int} (h : -9223372036854775808 ≤ x ∧ x ≤ 9223372036854775807) : wrap64 x = x := by
  unfold wrap64
  omega
theorem in_yes {x lo hi : Int} (h : lo ≤ x ∧ x ≤ hi) : osc_in.f x lo hi = some true := by
  unfold osc_in.f
  rw [if_pos h.1, decide_eq_true h.2]
theorem in_no {x lo hi : Int} (h : ¬ (lo ≤ x ∧ x ≤ hi)) : osc_in.f x lo hi = some false := by
  unfold osc_in.f
  by_cases h1 : x ≥ lo
  · rw [if_pos h1, decide_eq_false (by omega)]
  · rw [if_neg h1]

theorem check_l0 (l : List S32) (ph : Int) (hn : l.length ≤ 16) : ∀ (d i k : Nat), i + d = l.length → 3 * d < k → osc_Check.l0 k l (l.length : Int) (i : Int) ph l = some (chk (sa l) (sp l) d i) := by
  intro d
  induction d with
  | zero =>
    intro i k hi hk
    obtain ⟨k, rfl⟩ : ∃ m, k = m + 1 := ⟨k - 1, by omega⟩
    simp only [osc_Check.l0]
    rw [if_neg (by omega)]
    rfl
  | succ d ih =>
    intro i k hi hk
    obtain ⟨k, rfl⟩ : ∃ m, k = m + 3 := ⟨k - 3, by omega⟩
    have hrec := ih (i + 1) k (by omega) (by omega)
    have ew : wrap64 ((i : Int) + 1) = ((i + 1 : Nat) : Int) := by rw [wz (by omega)]; rfl
    simp only [osc_Check.l0, osc_Check.j1, osc_Check.j2]
    rw [if_pos (by omega), if_pos (by omega), if_pos (by omega), rd_nat, ew, hrec]
    show (osc_in.f (sa l i) 0 1125899906842624).bind _ = some (chk (sa l) (sp l) (d + 1) i)
    have e : chk (sa l) (sp l) (d + 1) i = if segErr (sa l) (sp l) i = 0 then chk (sa l) (sp l) d (i + 1) else segErr (sa l) (sp l) i := rfl
    rw [e]
    change (osc_in.f (sa l i) 0 1125899906842624).bind (fun t105 => if t105 = true then (osc_in.f (sp l i) (-500000) 500000).bind _ else _) = _
    by_cases hA : 0 ≤ sa l i ∧ sa l i ≤ 1125899906842624
    · rw [in_yes hA, Option.bind_some, if_pos rfl]
      by_cases hP : -500000 ≤ sp l i ∧ sp l i ≤ 500000
      · rw [in_yes hP, Option.bind_some]
        rw [if_neg (by decide)]
        by_cases h0 : i = 0
        · subst h0
          rw [if_pos (show ((0 : Nat) : Int) = 0 from rfl)]
          by_cases ha : sa l 0 = 0
          · have es : segErr (sa l) (sp l) 0 = 0 := by unfold segErr; rw [if_neg (by omega), if_neg (by omega), if_neg (by omega)]
            rw [if_neg (by change ¬ (!(sa l 0 == 0)) = true; rw [ha]; decide), if_neg (by omega), es, if_pos rfl]
          · have es : segErr (sa l) (sp l) 0 = 7 := by unfold segErr; rw [if_neg (by omega), if_pos (by omega)]
            rw [if_pos (by change (!(sa l 0 == 0)) = true; simpa using ha), es, if_neg (by decide)]
        · rw [if_neg (by omega), if_neg (by decide), if_pos (by omega)]
          have ew2 : wrap64 ((i : Int) - 1) = ((i - 1 : Nat) : Int) := by rw [wz (by omega)]; omega
          rw [ew2, rd_nat, if_pos (by omega), if_pos (by omega)]
          by_cases hs : sa l i ≤ sa l (i - 1)
          · have es : segErr (sa l) (sp l) i = 12 := by unfold segErr; rw [if_neg (by omega), if_neg (by omega), if_pos (by omega)]
            rw [if_pos (show (l.getD i z32).f0 ≤ (l.getD (i - 1) z32).f0 from hs), es, if_neg (by decide)]
          · have es : segErr (sa l) (sp l) i = 0 := by unfold segErr; rw [if_neg (by omega), if_neg (by omega), if_neg (by omega)]
            rw [if_neg (show ¬ (l.getD i z32).f0 ≤ (l.getD (i - 1) z32).f0 from hs), es, if_pos rfl]
      · rw [in_no hP, Option.bind_some, if_pos (by decide)]
        have es : segErr (sa l) (sp l) i = 3 := by unfold segErr; rw [if_pos (by omega)]
        rw [es, if_neg (by decide)]
    · rw [in_no hA, Option.bind_some, if_neg (by decide), if_pos trivial]
      have es : segErr (sa l) (sp l) i = 3 := by unfold segErr; rw [if_pos (by omega)]
      rw [es, if_neg (by decide)]

theorem check_f (l : List S32) (ph : Int) (k : Nat) (hk : 60 < k) : osc_Check.f k ph l = some (check (sa l) (sp l) l.length ph) := by
  unfold osc_Check.f check
  by_cases h1 : l.length = 0
  · rw [if_pos (by omega), if_pos h1]
  rw [if_neg (by omega), if_neg h1]
  by_cases h2 : 16 < l.length
  · rw [if_pos (by omega), if_pos h2]
  rw [if_neg (by omega), if_neg h2]
  by_cases h3 : ph < -1125899906842624 ∨ 1125899906842624 < ph
  · rw [in_no (by omega), Option.bind_some, if_neg (by decide), if_pos h3]
  · rw [in_yes (by omega), Option.bind_some, if_pos rfl, if_neg h3]
    exact check_l0 l ph (by omega) l.length 0 k (by omega) (by omega)

theorem floor_f {x : Int} (h : -9223372036854775807 ≤ x ∧ x ≤ 9223372036854775807) : fixed_Floor.f x 1000000000 = some (x / 1000000000, true) := by
  unfold fixed_Floor.f fixed_divides.f
  rw [if_neg (by omega), if_neg (by omega), Option.bind_some, if_pos rfl, if_neg (by omega)]
  have e := Int.mul_tdiv_add_tmod x 1000000000
  have e2 := Int.mul_ediv_add_emod x 1000000000
  by_cases hx : 0 ≤ x
  · have h1 : Int.tdiv x 1000000000 = x / 1000000000 := Int.tdiv_eq_ediv_of_nonneg hx
    by_cases h2 : Int.tmod x 1000000000 = 0
    · rw [if_pos h2, h1, wz (by omega)]
    · rw [if_neg h2, decide_eq_false (show ¬ x < 0 by omega), if_neg (by decide), h1, wz (by omega)]
  · have hr : -1000000000 < Int.tmod x 1000000000 ∧ Int.tmod x 1000000000 ≤ 0 := by
      have e3 := Int.neg_tmod x 1000000000
      have e4 := Int.tmod_nonneg (1000000000 : Int) (show 0 ≤ -x by omega)
      have e5 := Int.tmod_lt_of_pos (-x) (show (0 : Int) < 1000000000 by omega)
      omega
    by_cases h2 : Int.tmod x 1000000000 = 0
    · rw [if_pos h2, wz (by omega)]
      congr 2
      omega
    · rw [if_neg h2, decide_eq_true (show x < 0 by omega), if_pos (by decide), wz (x := Int.tdiv x 1000000000) (by omega), wz (by omega)]
      congr 2
      omega
theorem rfloor_f {x : Int} (h : -9223372036854775807 ≤ x ∧ x ≤ 9223372036854775807) : timesyncref09_floor.f x 1000000000 = some (x / 1000000000) := by
  unfold timesyncref09_floor.f
  rw [if_neg (by omega)]
  have e := Int.mul_tdiv_add_tmod x 1000000000
  by_cases hx : 0 ≤ x
  · have h1 : Int.tdiv x 1000000000 = x / 1000000000 := Int.tdiv_eq_ediv_of_nonneg hx
    have h2 := Int.tmod_nonneg (1000000000 : Int) hx
    rw [if_neg (by omega), h1, wz (by omega)]
  · have hr : -1000000000 < Int.tmod x 1000000000 ∧ Int.tmod x 1000000000 ≤ 0 := by
      have e3 := Int.neg_tmod x 1000000000
      have e4 := Int.tmod_nonneg (1000000000 : Int) (show 0 ≤ -x by omega)
      have e5 := Int.tmod_lt_of_pos (-x) (show (0 : Int) < 1000000000 by omega)
      omega
    by_cases h2 : Int.tmod x 1000000000 < 0
    · rw [if_pos h2, wz (x := Int.tdiv x 1000000000) (by omega), wz (by omega)]
      congr 1
      omega
    · rw [if_neg h2, wz (by omega)]
      congr 1
      omega

/-- The segments with their ends. -/
def spn (l : List S32) : List S45 := (List.range l.length).map fun i => ⟨⟨sa l i, sp l i⟩, en (sa l) l.length i⟩
theorem spn_length (l : List S32) : (spn l).length = l.length := by simp [spn]
theorem rd_spn (l : List S32) (i : Nat) (hi : i < l.length) : rd_T45 (spn l) (i : Int) = ⟨⟨sa l i, sp l i⟩, en (sa l) l.length i⟩ := by
  simp [rd_T45, spn, List.getD_eq_getElem?_getD, hi]

theorem spans_l0 (l : List S32) (ph : Int) (hn : l.length ≤ 16) : ∀ (d i k : Nat), i + d = l.length → d < k →
    osc_spans.l0 k ((List.range i).map fun j => (⟨⟨sa l j, sp l j⟩, en (sa l) l.length j⟩ : S45)) l (l.length : Int) (i : Int) ph l = some (spn l) := by
  intro d
  induction d with
  | zero =>
    intro i k hi hk
    obtain ⟨k, rfl⟩ : ∃ m, k = m + 1 := ⟨k - 1, by omega⟩
    simp only [osc_spans.l0]
    rw [if_neg (by omega)]
    obtain rfl : i = l.length := by omega
    rfl
  | succ d ih =>
    intro i k hi hk
    obtain ⟨k, rfl⟩ : ∃ m, k = m + 1 := ⟨k - 1, by omega⟩
    have hrec := ih (i + 1) k (by omega) (by omega)
    have ew : wrap64 ((i : Int) + 1) = ((i + 1 : Nat) : Int) := by rw [wz (by omega)]; rfl
    have hl : ((List.range i).map fun j => (⟨⟨sa l j, sp l j⟩, en (sa l) l.length j⟩ : S45)).length < 5864062014805 := by
      rw [List.length_map, List.length_range]; omega
    rw [List.range_succ, List.map_append] at hrec
    simp only [osc_spans.l0]
    rw [if_pos (by omega), if_pos (by omega), if_pos (by omega), ew, rd_nat]
    by_cases h : i + 1 < l.length
    · rw [if_pos (by omega), if_pos (by omega), if_pos hl, rd_nat, ← hrec]
      have e : en (sa l) l.length i = (l.getD (i + 1) z32).f0 := by unfold en; rw [if_pos h]; rfl
      rw [← e]
      rfl
    · rw [if_neg (by omega), if_pos hl, ← hrec]
      have e : en (sa l) l.length i = 1125899906842624 := by unfold en; rw [if_neg h]
      rw [← e]
      rfl
theorem spans_f (l : List S32) (ph : Int) (hn : l.length ≤ 16) (k : Nat) (hk : 60 < k) : osc_spans.f k ph l = some (spn l) :=
  spans_l0 l ph hn l.length 0 k (by omega) (by omega)

section
variable {l : List S32} {ph t : Int}
theorem xs_mx (v : Valid (sa l) (sp l) l.length ph) (h0 : 0 ≤ t) (h1 : t ≤ 1125899906842624) {i : Nat} (hi : i < l.length) :
    mx 0 (wrap64 (mn t (en (sa l) l.length i) - sa l i)) = xs (sa l) l.length t i := by
  have := en_bd v hi
  have := v.al i hi
  unfold mn
  rw [wz (by split <;> omega)]
  rfl
theorem read_l0 (v : Valid (sa l) (sp l) l.length ph) (h0 : 0 ≤ t) (h1 : t ≤ 1125899906842624) (qh : Int) (ql : List S32) (hq : qh = ph) : ∀ (d i k : Nat), i + d = l.length → d < k →
    osc_read.l0 k t (sW (sa l) (sp l) l.length t i) (sR (sa l) (sp l) l.length t i) (spn l) (l.length : Int) (i : Int) qh ql = some (reading (sa l) (sp l) l.length ph t) := by
  subst hq
  have hn := v.few
  intro d
  induction d with
  | zero =>
    intro i k hi hk
    obtain ⟨k, rfl⟩ : ∃ m, k = m + 1 := ⟨k - 1, by omega⟩
    have b1 := sW_bd (t := t) v i (by omega)
    have b2 := sR_bd (t := t) v i (by omega)
    have := v.phl
    have := v.phh
    simp only [osc_read.l0]
    rw [if_neg (by omega), floor_f (by omega), Option.bind_some]
    obtain rfl : i = l.length := by omega
    rw [wz (x := qh + t) (by omega), wz (x := qh + t + _) (by omega), wz (by omega), ← reading_split]
  | succ d ih =>
    intro i k hi hk
    obtain ⟨k, rfl⟩ : ∃ m, k = m + 1 := ⟨k - 1, by omega⟩
    have hrec := ih (i + 1) k (by omega) (by omega)
    have ew : wrap64 ((i : Int) + 1) = ((i + 1 : Nat) : Int) := by rw [wz (by omega)]; rfl
    have b1 := sW_bd (t := t) v (i + 1) (by omega)
    have b2 := sR_bd (t := t) v (i + 1) (by omega)
    have hx := xs_bd (t := t) v (i := i) (by omega)
    have hx0 := xs_nonneg (sa l) l.length t i
    have m1 := mul_bd (p := sp l i) (y := xs (sa l) l.length t i / 1000000000) (P := 500000) (Y := 1125899) (v.pl i (by omega)) (v.pu i (by omega)) (by omega) (by omega) (by omega)
    have m2 := mul_bd (p := sp l i) (y := xs (sa l) l.length t i % 1000000000) (P := 500000) (Y := 1000000000) (v.pl i (by omega)) (v.pu i (by omega)) (by omega) (by omega) (by omega)
    simp only [sW] at hrec b1
    simp only [sR] at hrec b2
    simp only [osc_read.l0]
    rw [if_pos (by omega), if_pos (by omega), if_pos (by rw [spn_length]; omega), rd_spn l i (by omega)]
    simp only []
    rw [xs_mx v h0 h1 (by omega), ew, wz (x := sp l i * (xs (sa l) l.length t i / 1000000000)) (by omega), wz (x := sp l i * (xs (sa l) l.length t i % 1000000000)) (by omega), wz (x := sW _ _ _ _ _ + _) (by push_cast at b1; omega), wz (x := sR _ _ _ _ _ + _) (by push_cast at b2; omega)]
    exact hrec
theorem read_f (v : Valid (sa l) (sp l) l.length ph) (h0 : 0 ≤ t) (h1 : t ≤ 1125899906842624) (k : Nat) (hk : 60 < k) : osc_read.f k ph l (spn l) t = some (reading (sa l) (sp l) l.length ph t) := by
  have := v.few
  unfold osc_read.f
  rw [spn_length]
  exact read_l0 v h0 h1 ph l rfl l.length 0 k (by omega) (by omega)
end

/-- What Read answers. -/
def Rd (l : List S32) (ph t : Int) : Int × Int :=
  if check (sa l) (sp l) l.length ph = 0 then (if 0 ≤ t ∧ t ≤ 1125899906842624 then (reading (sa l) (sp l) l.length ph t, 0) else (0, 3)) else (0, check (sa l) (sp l) l.length ph)
theorem Read_f (l : List S32) (ph t : Int) (k : Nat) (hk : 60 < k) : osc_Read.f k ph l t = some (Rd l ph t) := by
  unfold osc_Read.f Rd
  rw [check_f l ph k hk, Option.bind_some]
  by_cases h : check (sa l) (sp l) l.length ph = 0
  · have v := valid_of h
    rw [if_pos h, if_pos h]
    by_cases ht : 0 ≤ t ∧ t ≤ 1125899906842624
    · rw [in_yes ht, Option.bind_some, if_pos rfl, if_pos ht, spans_f l ph v.few k hk, Option.bind_some, read_f v ht.1 ht.2 k hk, Option.bind_some]
    · rw [in_no ht, Option.bind_some, if_neg (by decide), if_neg ht]
  · rw [if_neg h, if_neg h]
theorem awake_f (k : Nat) (hk : 60 < k) : timesynclaw09_awake.f k = some true := by
  unfold timesynclaw09_awake.f
  rw [Read_f _ _ _ k hk, Option.bind_some]
  have e : Rd [(⟨0, 0⟩ : S32), (⟨1000000000, 1000⟩ : S32)] 0 2000000000 = (2000001000, 0) := by decide +kernel
  rw [e]
  decide

/-! ### The reference -/
theorem rseg_f (l : List S32) (ph : Int) (i k : Nat) (hn : l.length ≤ 16) (hi : i < l.length) (hk : 2 ≤ k) : timesyncref09_segment.f k ph l (i : Int) = some (segErr (sa l) (sp l) i) := by
  obtain ⟨k, rfl⟩ : ∃ m, k = m + 2 := ⟨k - 2, by omega⟩
  unfold timesyncref09_segment.f
  rw [if_pos (by omega), if_pos (by omega), rd_nat]
  change (if sa l i < 0 then _ else if sa l i > 1125899906842624 then _ else if sp l i < -500000 then _ else _) = _
  by_cases hb : sa l i < 0 ∨ 1125899906842624 < sa l i ∨ sp l i < -500000 ∨ 500000 < sp l i
  · have es : segErr (sa l) (sp l) i = 3 := by unfold segErr; rw [if_pos hb]
    rw [es]
    simp only [timesyncref09_segment.j0]
    by_cases h1 : sa l i < 0
    · rw [if_pos h1]; rfl
    · rw [if_neg h1]
      by_cases h2 : sa l i > 1125899906842624
      · rw [if_pos h2]; rfl
      · rw [if_neg h2]
        by_cases h3 : sp l i < -500000
        · rw [if_pos h3]; rfl
        · rw [if_neg h3, if_pos (decide_eq_true (show (l.getD i z32).f1 > 500000 by change sp l i > 500000; omega))]
  · rw [if_neg (by omega), if_neg (by omega), if_neg (by omega)]
    simp only [timesyncref09_segment.j0, timesyncref09_segment.j1]
    rw [if_neg (by rw [decide_eq_true_eq]; change ¬ sp l i > 500000; omega)]
    by_cases h0 : i = 0
    · subst h0
      rw [if_pos (show ((0 : Nat) : Int) = 0 from rfl)]
      by_cases ha : sa l 0 = 0
      · have es : segErr (sa l) (sp l) 0 = 0 := by unfold segErr; rw [if_neg (by omega), if_neg (by omega), if_neg (by omega)]
        rw [es, if_neg (by change ¬ (sa l 0 != 0) = true; rw [ha]; decide), if_neg (by omega)]
      · have es : segErr (sa l) (sp l) 0 = 7 := by unfold segErr; rw [if_neg (by omega), if_pos (by omega)]
        rw [es, if_pos (by change (sa l 0 != 0) = true; simpa using ha)]
    · rw [if_neg (by omega), if_neg (by decide), if_pos (by omega)]
      have ew2 : wrap64 ((i : Int) - 1) = ((i - 1 : Nat) : Int) := by rw [wz (by omega)]; omega
      rw [ew2, rd_nat, if_pos (by omega), if_pos (by omega)]
      by_cases hs : sa l i ≤ sa l (i - 1)
      · have es : segErr (sa l) (sp l) i = 12 := by unfold segErr; rw [if_neg (by omega), if_neg (by omega), if_pos (by omega)]
        rw [if_pos (show (l.getD i z32).f0 ≤ (l.getD (i - 1) z32).f0 from hs), es]
      · have es : segErr (sa l) (sp l) i = 0 := by unfold segErr; rw [if_neg (by omega), if_neg (by omega), if_neg (by omega)]
        rw [if_neg (show ¬ (l.getD i z32).f0 ≤ (l.getD (i - 1) z32).f0 from hs), es]
theorem rcheck_l0 (l : List S32) (ph : Int) (hn : l.length ≤ 16) : ∀ (d i k : Nat), i + d = l.length → d + 2 < k → timesyncref09_Check.l0 k (i : Int) ph l = some (chk (sa l) (sp l) d i) := by
  intro d
  induction d with
  | zero =>
    intro i k hi hk
    obtain ⟨k, rfl⟩ : ∃ m, k = m + 1 := ⟨k - 1, by omega⟩
    simp only [timesyncref09_Check.l0]
    rw [if_neg (by omega)]
    rfl
  | succ d ih =>
    intro i k hi hk
    obtain ⟨k, rfl⟩ : ∃ m, k = m + 1 := ⟨k - 1, by omega⟩
    have hrec := ih (i + 1) k (by omega) (by omega)
    have ew : wrap64 ((i : Int) + 1) = ((i + 1 : Nat) : Int) := by rw [wz (by omega)]; rfl
    simp only [timesyncref09_Check.l0]
    rw [if_pos (by omega), rseg_f l ph i k hn (by omega) (by omega), Option.bind_some, ew, hrec]
    have e : chk (sa l) (sp l) (d + 1) i = if segErr (sa l) (sp l) i = 0 then chk (sa l) (sp l) d (i + 1) else segErr (sa l) (sp l) i := rfl
    rw [e]
    split <;> rfl
theorem rcheck_f (l : List S32) (ph : Int) (k : Nat) (hk : 60 < k) : timesyncref09_Check.f k ph l = some (check (sa l) (sp l) l.length ph) := by
  obtain ⟨k, rfl⟩ : ∃ m, k = m + 1 := ⟨k - 1, by omega⟩
  unfold timesyncref09_Check.f check
  by_cases h1 : l.length = 0
  · rw [if_pos (by omega), if_pos h1]
  rw [if_neg (by omega), if_neg h1]
  by_cases h2 : 16 < l.length
  · rw [if_pos (by omega), if_pos h2]
  rw [if_neg (by omega), if_neg h2]
  simp only [timesyncref09_Check.j0]
  by_cases h3 : ph < -1125899906842624 ∨ 1125899906842624 < ph
  · rw [if_pos h3]
    by_cases h4 : ph < -1125899906842624
    · rw [if_pos h4]; rfl
    · rw [if_neg h4, if_pos (decide_eq_true (by omega))]
  · rw [if_neg h3, if_neg (by omega), if_neg (by rw [decide_eq_true_eq]; omega)]
    exact rcheck_l0 l ph (by omega) l.length 0 k (by omega) (by omega)
section
variable {l : List S32} {ph t : Int}
theorem rread_l0 (v : Valid (sa l) (sp l) l.length ph) (h0 : 0 ≤ t) (h1 : t ≤ 1125899906842624) : ∀ (d i k : Nat), i + d = l.length → 2 * d < k →
    timesyncref09_read.l0 k t (sW (sa l) (sp l) l.length t i) (sR (sa l) (sp l) l.length t i) (i : Int) ph l = some (reading (sa l) (sp l) l.length ph t) := by
  have hn := v.few
  intro d
  induction d with
  | zero =>
    intro i k hi hk
    obtain ⟨k, rfl⟩ : ∃ m, k = m + 1 := ⟨k - 1, by omega⟩
    have b1 := sW_bd (t := t) v i (by omega)
    have b2 := sR_bd (t := t) v i (by omega)
    have := v.phl
    have := v.phh
    simp only [timesyncref09_read.l0]
    rw [if_neg (by omega), rfloor_f (by omega), Option.bind_some]
    obtain rfl : i = l.length := by omega
    rw [wz (x := ph + t) (by omega), wz (x := ph + t + _) (by omega), wz (by omega), ← reading_split]
  | succ d ih =>
    intro i k hi hk
    obtain ⟨k, rfl⟩ : ∃ m, k = m + 2 := ⟨k - 2, by omega⟩
    have hrec := ih (i + 1) k (by omega) (by omega)
    have ew : wrap64 ((i : Int) + 1) = ((i + 1 : Nat) : Int) := by rw [wz (by omega)]; rfl
    have b1 := sW_bd (t := t) v (i + 1) (by omega)
    have b2 := sR_bd (t := t) v (i + 1) (by omega)
    have hx := xs_bd (t := t) v (i := i) (by omega)
    have hx0 := xs_nonneg (sa l) l.length t i
    have ha0 := v.al i (by omega)
    have hah := v.ah i (by omega)
    have m1 := mul_bd (p := sp l i) (y := xs (sa l) l.length t i / 1000000000) (P := 500000) (Y := 1125899) (v.pl i (by omega)) (v.pu i (by omega)) (by omega) (by omega) (by omega)
    have m2 := mul_bd (p := sp l i) (y := xs (sa l) l.length t i % 1000000000) (P := 500000) (Y := 1000000000) (v.pl i (by omega)) (v.pu i (by omega)) (by omega) (by omega) (by omega)
    simp only [sW] at hrec b1
    simp only [sR] at hrec b2
    -- one step, whatever the end is
    have step : ∀ E : Int, E = (if en (sa l) l.length i < t then en (sa l) l.length i else t) →
        (if wrap64 (E - sa l i) ≤ 0 then timesyncref09_read.l0 k t (sW (sa l) (sp l) l.length t i) (sR (sa l) (sp l) l.length t i) ((i + 1 : Nat) : Int) ph l
         else timesyncref09_read.l0 k t (wrap64 (sW (sa l) (sp l) l.length t i + wrap64 (wrap64 (Int.tdiv (wrap64 (E - sa l i)) 1000000000) * sp l i))) (wrap64 (sR (sa l) (sp l) l.length t i + wrap64 (Int.tmod (wrap64 (E - sa l i)) 1000000000 * sp l i))) ((i + 1 : Nat) : Int) ph l) = some (reading (sa l) (sp l) l.length ph t) := by
      intro E hE
      have hbd := en_bd v (i := i) (by omega)
      have hEb : 0 ≤ E ∧ E ≤ 1125899906842624 := by rw [hE]; split <;> omega
      rw [wz (x := E - sa l i) (by omega)]
      by_cases hp : E - sa l i ≤ 0
      · rw [if_pos hp]
        have e0 : xs (sa l) l.length t i = 0 := by unfold xs; rw [← hE, if_neg (by omega)]
        rw [e0] at hrec
        simpa using hrec
      · rw [if_neg hp]
        have e0 : xs (sa l) l.length t i = E - sa l i := by unfold xs; rw [← hE, if_pos (by omega)]
        rw [e0] at hrec m1 m2 b1 b2
        rw [Int.tdiv_eq_ediv_of_nonneg (by omega), Int.tmod_eq_emod_of_nonneg (by omega), wz (x := (E - sa l i) / 1000000000) (by omega), Int.mul_comm ((E - sa l i) / 1000000000), Int.mul_comm ((E - sa l i) % 1000000000),
          wz (x := sp l i * ((E - sa l i) / 1000000000)) (by omega), wz (x := sp l i * ((E - sa l i) % 1000000000)) (by omega), wz (x := sW _ _ _ _ _ + _) (by push_cast at b1; omega), wz (x := sR _ _ _ _ _ + _) (by push_cast at b2; omega)]
        exact hrec
    simp only [timesyncref09_read.l0, timesyncref09_read.j1]
    rw [if_pos (by omega), ew]
    by_cases hl : i + 1 < l.length
    · have een : en (sa l) l.length i = (l.getD (i + 1) z32).f0 := by unfold en; rw [if_pos hl]; rfl
      rw [if_pos (by omega), if_pos (by omega), rd_nat, rd_nat]
      by_cases hc : (l.getD (i + 1) z32).f0 < t
      · rw [if_pos (decide_eq_true hc), if_pos (by omega), if_pos (by omega), if_pos (by omega), if_pos (by omega)]
        exact step _ (by rw [een, if_pos hc])
      · rw [if_neg (by rw [decide_eq_true_eq]; exact hc), if_pos (by omega), if_pos (by omega)]
        exact step _ (by rw [een, if_neg hc])
    · have een : en (sa l) l.length i = 1125899906842624 := by unfold en; rw [if_neg hl]
      rw [if_neg (by omega), if_neg (by decide), if_pos (by omega), if_pos (by omega), rd_nat]
      exact step _ (by rw [een, if_neg (by omega)])
end
theorem RRead_f (l : List S32) (ph t : Int) (k : Nat) (hk : 60 < k) : timesyncref09_Read.f k ph l t = some (Rd l ph t) := by
  unfold timesyncref09_Read.f Rd
  rw [rcheck_f l ph k hk, Option.bind_some]
  by_cases h : check (sa l) (sp l) l.length ph = 0
  · have v := valid_of h
    have := v.few
    rw [if_pos h, if_pos h]
    by_cases ht : 0 ≤ t ∧ t ≤ 1125899906842624
    · rw [if_neg (by omega), if_neg (by omega), if_pos ht]
      unfold timesyncref09_read.f
      have := rread_l0 v ht.1 ht.2 l.length 0 k (by omega) (by omega)
      simp only [sW, sR] at this
      change timesyncref09_read.l0 k t 0 0 0 ph l = _ at this
      rw [this, Option.bind_some]
    · rw [if_neg ht]
      by_cases h2 : t < 0
      · rw [if_pos h2]
      · rw [if_neg h2, if_pos (by omega)]
  · rw [if_neg h, if_neg h]
end Go.Proofs.Ytimbfocogklmhaa.OscB
