/- The plain law of OscSplits: a segment that is divided in two changes no reading; nor does a rate behind the time. No condition beyond the arguments' kinds. -/
import Derived.Test.YtimbfocogklmhaaAll6
import Derived.Test.YtimbfocogklmhaaOscBr
import Derived.Test.YtimbfocogklmhaaOscCut
namespace Go.Proofs.Ytimbfocogklmhaa.Pure
open Go.RowKit Go.Proofs.Ytimbfocogklmhaa.All Go.Proofs.Ytimbfocogklmhaa.Row Go.Proofs.Ytimbfocogklmhaa.OscM Go.Proofs.Ytimbfocogklmhaa.OscB Go.Proofs.YtimbfocogklmhaaW.PrintWords Go.Proofs.YtimbfocogklmhaaW.PrintLast

theorem getD_cut (l : List S32) (i : Nat) (z : S32) (hi : i ≤ l.length) (j : Nat) : ((l.take i ++ [z]) ++ l.drop i).getD j z32 = if j < i then l.getD j z32 else if j = i then z else l.getD (j - 1) z32 := by
  have hl : (l.take i).length = i := by rw [List.length_take]; omega
  have hl2 : (l.take i ++ [z]).length = i + 1 := by rw [List.length_append, hl]; rfl
  simp only [List.getD_eq_getElem?_getD]
  by_cases h1 : j < i
  · rw [if_pos h1, List.getElem?_append_left (by omega), List.getElem?_append_left (by omega), List.getElem?_take_of_lt h1]
  · rw [if_neg h1]
    by_cases h2 : j = i
    · rw [if_pos h2, List.getElem?_append_left (by omega), List.getElem?_append_right (by omega), hl, h2, Nat.sub_self]
      rfl
    · rw [if_neg h2, List.getElem?_append_right (by omega), hl2, List.getElem?_drop]
      congr 2
      omega
theorem length_cut (l : List S32) (i : Nat) (z : S32) (hi : i ≤ l.length) : ((l.take i ++ [z]) ++ l.drop i).length = l.length + 1 := by
  simp only [List.length_append, List.length_take, List.length_drop, List.length_cons, List.length_nil]
  omega
theorem sa_cut (l : List S32) (i : Nat) (x q : Int) (hi : i ≤ l.length) : sa ((l.take i ++ [⟨x, q⟩]) ++ l.drop i) = ca (sa l) i x := by
  funext j
  unfold sa ca
  rw [getD_cut l i _ hi]
  split
  · rfl
  · split <;> rfl
theorem sp_cut (l : List S32) (i : Nat) (x q : Int) (hi : i ≤ l.length) : sp ((l.take i ++ [⟨x, q⟩]) ++ l.drop i) = cp (sp l) i q := by
  funext j
  unfold sp cp
  rw [getD_cut l i _ hi]
  split
  · rfl
  · split <;> rfl
theorem getD_set (L : List S32) (i : Nat) (z : S32) (hi : i < L.length) (j : Nat) : (L.set i z).getD j z32 = if j = i then z else L.getD j z32 := by
  simp only [List.getD_eq_getElem?_getD]
  by_cases h : j = i
  · subst h
    rw [if_pos rfl, List.getElem?_set_self hi]
    rfl
  · rw [if_neg h, List.getElem?_set_ne (by omega)]

section
variable {l : List S32} {ph x t : Int}
theorem j2_true (v : Valid (sa l) (sp l) l.length ph) (hn : l.length < 16) (hx1 : 1 ≤ x) (hx2 : x ≤ 1125899906842624) (m : Nat) (hm : m ≤ l.length) (h1 : ∀ j, j < m → sa l j < x) (h2 : m < l.length → x ≤ sa l m) (k : Nat) (hk : 70 < k) :
    timesynclaw09_OscSplits.j2 k x t (m : Int) ph l = some true := by
  obtain ⟨k, rfl⟩ : ∃ q, k = q + 3 := ⟨k - 3, by omega⟩
  have aw := fun (q : Nat) (hq : 60 < q) => awake_f q hq
  have yes : timesynclaw09_OscSplits.j3 (k + 2) x t (m : Int) true ph l = some true := by
    simp only [timesynclaw09_OscSplits.j3]
    rw [if_pos trivial, aw (k + 1) (by omega), Option.bind_some]
  have no : 0 < m → (m < l.length → x < sa l m) → timesynclaw09_OscSplits.j3 (k + 2) x t (m : Int) false ph l = some true := by
    intro m0 mx_
    have ew : wrap64 ((m : Int) - 1) = ((m - 1 : Nat) : Int) := by rw [wz (by omega)]; omega
    have f : Fits (sa l) l.length m x := ⟨m0, hm, h1 (m - 1) (by omega), mx_, hx2⟩
    have vq : -500000 ≤ sp l (m - 1) ∧ sp l (m - 1) ≤ 500000 := ⟨v.pl (m - 1) (by omega), v.pu (m - 1) (by omega)⟩
    have lc := length_cut l m (⟨x, sp l (m - 1)⟩ : S32) hm
    have cv := cut_valid v f hn vq
    have cv2 := cut_valid v f hn (q := -(sp l (m - 1))) (by omega)
    have hrd : Rd ((l.take m ++ [(⟨x, sp l (m - 1)⟩ : S32)]) ++ l.drop m) ph t = Rd l ph t := by
      unfold Rd
      rw [lc, sa_cut l m x _ hm, sp_cut l m x _ hm, check_of cv, check_of v, cut_reading v f]
    have hrd2 : t ≤ x → Rd (((l.take m ++ [(⟨x, sp l (m - 1)⟩ : S32)]) ++ l.drop m).set m (⟨x, -(sp l (m - 1))⟩ : S32)) ph t = Rd l ph t := by
      intro htx
      have ea : sa (((l.take m ++ [(⟨x, sp l (m - 1)⟩ : S32)]) ++ l.drop m).set m (⟨x, -(sp l (m - 1))⟩ : S32)) = ca (sa l) m x := by
        rw [← sa_cut l m x (sp l (m - 1)) hm]
        funext j
        unfold sa
        rw [getD_set _ m _ (by omega)]
        split
        · rename_i e
          subst e
          rw [getD_cut l j _ hm, if_neg (by omega), if_pos rfl]
        · rfl
      have ep : sp (((l.take m ++ [(⟨x, sp l (m - 1)⟩ : S32)]) ++ l.drop m).set m (⟨x, -(sp l (m - 1))⟩ : S32)) = cp (sp l) m (-(sp l (m - 1))) := by
        rw [← sp_cut l m x (-(sp l (m - 1))) hm]
        funext j
        unfold sp
        rw [getD_set _ m _ (by rw [length_cut l m _ hm]; omega), getD_cut l m _ hm, getD_cut l m _ hm]
        by_cases e : j = m
        · subst e
          rw [if_pos rfl, if_neg (by omega), if_pos rfl]
        · rw [if_neg e]
          by_cases e2 : j < m
          · rw [if_pos e2, if_pos e2]
          · rw [if_neg e2, if_neg e2, if_neg e, if_neg e]
      unfold Rd
      rw [List.length_set, lc, ea, ep, check_of cv2, check_of v, ← cut_reading (t := t) v f]
      rw [turn_reading (a := ca (sa l) m x) (p := cp (sp l) m (-(sp l (m - 1)))) (p' := cp (sp l) m (sp l (m - 1)))]
      intro j _
      by_cases e : j = m
      · right
        subst e
        refine xs_late ?_
        unfold ca
        rw [if_neg (by omega), if_pos rfl]
        exact htx
      · left
        unfold cp
        by_cases e2 : j < m
        · rw [if_pos e2, if_pos e2]
        · rw [if_neg e2, if_neg e2, if_neg e, if_neg e]
    simp only [timesynclaw09_OscSplits.j3]
    rw [if_neg (by decide), Option.bind_some, if_pos (by omega), if_pos (by omega), Option.bind_some, Int.toNat_natCast, if_pos (by simp only [List.length_nil, List.length_take]; omega), Option.bind_some, ew, if_pos (by omega), if_pos (by omega), Option.bind_some, rd_nat, if_pos (by simp only [List.length_append, List.length_nil, List.length_take, List.length_cons]; omega), Option.bind_some, Option.bind_some,
      if_pos (by simp only [List.length_append, List.length_nil, List.length_take, List.length_cons, List.length_drop]; omega), Option.bind_some, List.nil_append]
    change (osc_Read.f (k + 1) ph l t).bind (fun bt195 => (osc_Read.f (k + 1) ph ((l.take m ++ [(⟨x, sp l (m - 1)⟩ : S32)]) ++ l.drop m) t).bind fun bt197 => _) = some true
    rw [Read_f l ph t (k + 1) (by omega), Option.bind_some, Read_f _ ph t (k + 1) (by omega), Option.bind_some, hrd, if_pos rfl]
    simp only [timesynclaw09_OscSplits.j4]
    rw [if_neg (by simp)]
    by_cases htx : t ≤ x
    · rw [if_pos htx, if_pos (by omega), if_pos (by change (m : Int) < (((l.take m ++ [(⟨x, sp l (m - 1)⟩ : S32)]) ++ l.drop m).length : Int); rw [lc]; omega), Int.toNat_natCast]
      have eg : rd_T32 ((l.take m ++ [(⟨x, (l.getD (m - 1) z32).f1⟩ : S32)]) ++ l.drop m) (m : Int) = ⟨x, sp l (m - 1)⟩ := by
        rw [rd_nat, getD_cut l m _ hm, if_neg (by omega), if_pos rfl]
        rfl
      rw [eg]
      change (osc_Read.f k ph (((l.take m ++ [(⟨x, sp l (m - 1)⟩ : S32)]) ++ l.drop m).set m (⟨x, wrap64 (-(sp l (m - 1)))⟩ : S32)) t).bind _ = some true
      rw [wz (x := -(sp l (m - 1))) (by omega), Read_f _ ph t k (by omega), Option.bind_some, hrd2 htx, if_pos rfl, if_pos rfl, aw k (by omega), Option.bind_some]
    · rw [if_neg htx, if_pos trivial, if_pos trivial, aw k (by omega), Option.bind_some]
  simp only [timesynclaw09_OscSplits.j2]
  by_cases m0 : m = 0
  · rw [if_pos (by omega)]
    exact yes
  · rw [if_neg (by omega)]
    by_cases hl : m < l.length
    · rw [if_pos (by omega), if_pos (by omega), rd_nat]
      change timesynclaw09_OscSplits.j3 (k + 2) x t (m : Int) (sa l m == x) ph l = some true
      by_cases e : sa l m = x
      · rw [beq_iff_eq.2 e]
        exact yes
      · rw [beq_eq_false_iff_ne.2 e]
        exact no (by omega) (fun h => by have := h2 h; omega)
    · rw [if_neg (by omega)]
      exact no (by omega) (fun h => absurd h hl)
theorem l0_true (v : Valid (sa l) (sp l) l.length ph) (hn : l.length < 16) (hx1 : 1 ≤ x) (hx2 : x ≤ 1125899906842624) : ∀ (d m k : Nat), m + d = l.length → (∀ j, j < m → sa l j < x) → d + 80 < k →
    timesynclaw09_OscSplits.l0 k x t (m : Int) ph l = some true := by
  intro d
  induction d with
  | zero =>
    intro m k hm h hk
    obtain ⟨k, rfl⟩ : ∃ q, k = q + 1 := ⟨k - 1, by omega⟩
    simp only [timesynclaw09_OscSplits.l0]
    rw [if_neg (by omega)]
    exact j2_true v hn hx1 hx2 m (by omega) h (fun h => by omega) k (by omega)
  | succ d ih =>
    intro m k hm h hk
    obtain ⟨k, rfl⟩ : ∃ q, k = q + 1 := ⟨k - 1, by omega⟩
    have ew : wrap64 ((m : Int) + 1) = ((m + 1 : Nat) : Int) := by rw [wz (by omega)]; rfl
    simp only [timesynclaw09_OscSplits.l0]
    rw [if_pos (by omega), if_pos (by omega), rd_nat, ew]
    by_cases hc : sa l m < x
    · rw [if_pos (show (l.getD m z32).f0 < x from hc)]
      refine ih (m + 1) k (by omega) (fun j hj => ?_) (by omega)
      by_cases e : j = m
      · subst e; exact hc
      · exact h j (by omega)
    · rw [if_neg (show ¬ (l.getD m z32).f0 < x from hc)]
      exact j2_true v hn hx1 hx2 m (by omega) h (fun _ => by omega) k (by omega)
end

theorem OscSplits : ∀ (a0_0 : Int) (l0_1 : List S32) (a1 : Int) (a2 : Int), I64 a0_0 → l0_1.length ≤ 9223372036854775807 → (∀ z ∈ l0_1, I64 z.f0 ∧ I64 z.f1) → I64 a1 → I64 a2 → ∃ k, timesynclaw09_OscSplits.f k a0_0 l0_1 a1 a2 = some true := by
  intro ph l x t _ _ _ _ _
  refine ⟨200, ?_⟩
  have yes : timesynclaw09_OscSplits.j0 200 x t true ph l = some true := by
    simp only [timesynclaw09_OscSplits.j0]
    rw [if_pos trivial, awake_f 199 (by omega), Option.bind_some]
  unfold timesynclaw09_OscSplits.f
  by_cases h1 : x < 1
  · rw [if_pos h1]; exact yes
  rw [if_neg h1]
  by_cases h2 : x > 1125899906842624
  · rw [if_pos h2]; exact yes
  rw [if_neg h2, check_f l ph 200 (by omega), Option.bind_some]
  by_cases hc : check (sa l) (sp l) l.length ph = 0
  · have v := valid_of hc
    rw [if_pos hc]
    by_cases hl : (l.length : Int) ≥ 16
    · rw [decide_eq_true hl]; exact yes
    · rw [decide_eq_false hl]
      simp only [timesynclaw09_OscSplits.j0]
      rw [if_neg (by decide)]
      exact l0_true v (by omega) (by omega) (by omega) l.length 0 199 (by omega) (fun j hj => by omega) (by omega)
  · rw [if_neg hc]; exact yes

end Go.Proofs.Ytimbfocogklmhaa.Pure
