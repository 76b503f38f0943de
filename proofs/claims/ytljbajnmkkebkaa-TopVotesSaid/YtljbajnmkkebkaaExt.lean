import Derived.Test.YtljbajnmkkebkaaAll11
import Derived.Test.YtljbajnmkkebkaaAll10
/- Extend of leapvote in plain words. No condition but the arguments' kinds. -/
import Derived.Test.YtljbajnmkkebkaaCal
namespace Go.Proofs.Ytljbajnmkkebkaa.Ext
open Go.RowKit Go.Proofs.Ytljbajnmkkebkaa.All Go.Proofs.Ytljbajnmkkebkaa.Civ Go.Proofs.Ytljbajnmkkebkaa.CivB Go.Proofs.YtljbajnmkkebkaaW.PrintWords Go.Proofs.YtljbajnmkkebkaaW.PrintLast
set_option linter.unusedSimpArgs false
set_option linter.unusedVariables false

/-- Is a second of the calendar the first one of a month? -/
def mb (t : Int) : Bool := decide (-8000000000 ≤ t ∧ t ≤ 8000000000) && beg t
theorem mb_in {t : Int} (h : mb t = true) : (-8000000000 ≤ t ∧ t ≤ 8000000000) ∧ beg t = true := by
  unfold mb at h
  rw [Bool.and_eq_true, decide_eq_true_eq] at h
  exact h
theorem beg_day {t : Int} (h : beg t = true) : t % 86400 = 0 := (of_decide_eq_true h).1
theorem mb_lt {t : Int} (h : mb t = true) : t < 8000000000 := by
  have h1 := (mb_in h).1
  have h2 := beg_day (mb_in h).2
  omega
theorem res_out (a : Int) (h : ¬ (-8000000000 ≤ a ∧ a ≤ 8000000000)) : civil_Of.res a = (0, 0, 0, 0, 0, 0, 0, 3) := by
  unfold civil_Of.res
  rw [if_pos (by omega)]
theorem mb_f (t : Int) : leapvote_monthBegins.f t = some (mb t) := by
  unfold leapvote_monthBegins.f
  rw [of_f, Option.bind_some]
  by_cases h : -8000000000 ≤ t ∧ t ≤ 8000000000
  · rw [res_in t h]
    dsimp only
    rw [if_pos rfl]
    unfold mb beg
    rw [decide_eq_true h, Bool.true_and]
    by_cases h1 : od (t / 86400) = 1
    · rw [if_pos h1]
      by_cases h2 : t % 86400 / 3600 = 0
      · rw [if_pos h2]
        by_cases h3 : t % 86400 / 60 % 60 = 0
        · rw [if_pos h3]
          by_cases h4 : t % 86400 % 60 = 0
          · rw [show (t % 86400 % 60 == 0) = true from beq_iff_eq.mpr h4, decide_eq_true ⟨by omega, h1⟩]
          · rw [show (t % 86400 % 60 == 0) = false from beq_eq_false_iff_ne.mpr h4, decide_eq_false (by omega)]
        · rw [if_neg h3, decide_eq_false (by omega)]
      · rw [if_neg h2, decide_eq_false (by omega)]
    · rw [if_neg h1, decide_eq_false (by omega)]
  · rw [res_out t h]
    unfold mb
    rw [decide_eq_false h]
    rfl
/-- The last part of Extend: o is the offset so far. -/
def finS (o b x : Int) (l : List E) (t c : Int) : Int × Int × List E × Int := if c = 1 ∨ c = -1 then (if -1000 ≤ o + c ∧ o + c ≤ 1000 then (if l.length < 64 then (b, mx x (t + 1), l ++ [⟨t, o + c⟩], 0) else (0, 0, [], 6)) else (0, 0, [], 3)) else (0, 0, [], 3)
/-- What Extend answers. -/
def extS (b x : Int) (l : List E) (t c : Int) : Int × Int × List E × Int :=
  if chk b x l = 0 then (if mb t = true then (if t ≤ prvI l l.length then (0, 0, [], 12) else finS (oldI b l l.length) b x l t c) else (0, 0, [], 7)) else (0, 0, [], chk b x l)
theorem ext_j2 (k : Nat) (o b x t c : Int) (l : List E) (hl : l.length ≤ 64) (ht : -8000000000 ≤ t ∧ t ≤ 8000000000) (hc : wrap64 (o + c) = o + c) : leapvote_Extend.j2 (k + 1) o false b x l t c = some (if l.length < 64 then (b, mx x (t + 1), l ++ [⟨t, o + c⟩], 0) else (0, 0, [], 6)) := by
  rw [leapvote_Extend.j2, if_neg (by decide)]
  by_cases h : l.length < 64
  · rw [if_neg (by omega), if_pos (by simp; omega), if_pos h, Option.bind_some, Option.bind_some, if_pos (by simp; omega), hc, wz (by omega)]
    rfl
  · rw [if_pos (by omega), if_neg h]
theorem ext_j2t (k : Nat) (o b x t c : Int) (l : List E) : leapvote_Extend.j2 (k + 1) o true b x l t c = some (0, 0, [], 3) := by
  rw [leapvote_Extend.j2, if_pos rfl]
theorem ext_j0 (k : Nat) (o b x t c : Int) (l : List E) (ho : -1000 ≤ o ∧ o ≤ 1000) (hl : l.length ≤ 64) (ht : -8000000000 ≤ t ∧ t ≤ 8000000000) : leapvote_Extend.j0 (k + 3) o b x l t c = some (finS o b x l t c) := by
  rw [leapvote_Extend.j0]
  unfold finS
  have main : c = 1 ∨ c = -1 → leapvote_Extend.j1 (k + 2) o false b x l t c = some (if -1000 ≤ o + c ∧ o + c ≤ 1000 then (if l.length < 64 then (b, mx x (t + 1), l ++ [⟨t, o + c⟩], 0) else (0, 0, [], 6)) else (0, 0, [], 3)) := by
    intro hc
    have hw : wrap64 (o + c) = o + c := wz (by omega)
    rw [leapvote_Extend.j1, if_neg (by decide), hw]
    by_cases h1 : o + c < -1000
    · rw [if_pos h1, decide_eq_true h1, ext_j2t, if_neg (by omega)]
    · rw [if_neg h1]
      by_cases h2 : o + c > 1000
      · rw [decide_eq_true h2, ext_j2t, if_neg (by omega)]
      · rw [decide_eq_false h2, ext_j2 k o b x t c l hl ht hw, if_pos (show -1000 ≤ o + c ∧ o + c ≤ 1000 by omega)]
  by_cases h1 : c = 1
  · rw [if_pos h1, if_pos (.inl h1)]
    exact main (.inl h1)
  · rw [if_neg h1]
    by_cases h2 : c = -1
    · rw [show (c != -1) = false by rw [h2]; rfl, if_pos (.inr h2)]
      exact main (.inr h2)
    · rw [show (c != -1) = true from bne_iff_ne.mpr h2, if_neg (by omega), leapvote_Extend.j1, if_pos rfl, ext_j2t]
theorem oldI_ok {b x : Int} {l : List E} (h : chk b x l = 0) : (-1000 ≤ oldI b l l.length ∧ oldI b l l.length ≤ 1000) ∧ l.length ≤ 64 ∧ (-8000000000 ≤ x ∧ x ≤ 8000000000) ∧ (-1000 ≤ b ∧ b ≤ 1000) ∧ l.all okE = true ∧ scan b (-9000000000) l = 0 := by
  unfold chk at h
  by_cases h1 : 64 < l.length
  · rw [if_pos h1] at h
    omega
  · rw [if_neg h1] at h
    by_cases h2 : (-1000 ≤ b ∧ b ≤ 1000) ∧ (-8000000000 ≤ x ∧ x ≤ 8000000000) ∧ l.all okE = true
    · rw [if_pos h2] at h
      exact ⟨oldI_bd b l h2.1 h2.2.2 l.length (Nat.le_refl _), by omega, h2.2.1, h2.1, h2.2.2, h⟩
    · rw [if_neg h2] at h
      omega
theorem ext_f (k : Nat) (hk : 400 ≤ k) (b x t c : Int) (l : List E) : leapvote_Extend.f k b x l t c = some (extS b x l t c) := by
  unfold leapvote_Extend.f extS
  rw [leap_check k (by omega), Option.bind_some]
  by_cases h : chk b x l = 0
  · rw [if_pos h, if_pos h, mb_f, Option.bind_some]
    obtain ⟨ho, hl, hx, hb, ha, hs⟩ := oldI_ok h
    by_cases h1 : mb t = true
    · rw [if_pos h1, if_pos h1]
      have ht := (mb_in h1).1
      obtain ⟨q, rfl⟩ : ∃ q, k = q + 3 := ⟨k - 3, by omega⟩
      by_cases h2 : l.length = 0
      · have e1 : prvI l l.length = -9000000000 := by unfold prvI; rw [if_pos h2]
        have e2 : oldI b l l.length = b := by unfold oldI; rw [if_pos h2]
        rw [if_neg (by omega), e1, if_neg (by omega), e2, ext_j0 q b b x t c l hb hl ht]
      · have e1 : prvI l l.length = (rdE l ((l.length : Int) - 1)).f0 := by unfold prvI; rw [if_neg h2]
        have e2 : oldI b l l.length = (rdE l ((l.length : Int) - 1)).f1 := by unfold oldI; rw [if_neg h2]
        rw [if_pos (by omega), wz (by omega), if_pos (by omega), if_pos (by omega), ← e1, ← e2]
        by_cases h3 : t ≤ prvI l l.length
        · rw [if_pos h3, if_pos h3]
        · rw [if_neg h3, if_neg h3, ext_j0 q _ b x t c l ho hl ht]
    · rw [if_neg h1, if_neg h1]
  · rw [if_neg h, if_neg h]
/-- The last offset and the last second. -/
def lastO (o : Int) : List E → Int
  | [] => o
  | e :: r => lastO e.f1 r
def lastP (p : Int) : List E → Int
  | [] => p
  | e :: r => lastP e.f0 r
theorem lastO_snoc (e : E) : ∀ (l : List E) (o : Int), lastO o (l ++ [e]) = e.f1
  | [], _ => rfl
  | _ :: r, _ => lastO_snoc e r _
theorem lastP_snoc (e : E) : ∀ (l : List E) (o : Int), lastP o (l ++ [e]) = e.f0
  | [], _ => rfl
  | _ :: r, _ => lastP_snoc e r _
theorem lastO_old (b : Int) (l : List E) : oldI b l l.length = lastO b l := by
  rcases l.eq_nil_or_concat with rfl | ⟨r, e, h⟩
  · rfl
  · rw [List.concat_eq_append] at h
    subst h
    rw [lastO_snoc]
    unfold oldI
    rw [if_neg (by simp), List.length_append, show ((((r.length + [e].length : Nat)) : Int) - 1) = (r.length : Int) by simp, rdE_nat _ r.length (by simp)]
    simp
theorem lastP_prv (l : List E) : prvI l l.length = lastP (-9000000000) l := by
  rcases l.eq_nil_or_concat with rfl | ⟨r, e, h⟩
  · rfl
  · rw [List.concat_eq_append] at h
    subst h
    rw [lastP_snoc]
    unfold prvI
    rw [if_neg (by simp), List.length_append, show ((((r.length + [e].length : Nat)) : Int) - 1) = (r.length : Int) by simp, rdE_nat _ r.length (by simp)]
    simp
theorem scan_snoc (e : E) : ∀ (l : List E) (o p : Int), scan o p l = 0 → scan o p (l ++ [e]) = scan (lastO o l) (lastP p l) [e]
  | [], _, _, _ => rfl
  | f :: r, o, p, h => by
    rw [scan] at h
    rw [List.cons_append, scan]
    by_cases h1 : beg f.f0 = false
    · rw [if_pos h1] at h
      omega
    · rw [if_neg h1] at h
      rw [if_neg h1]
      by_cases h2 : f.f0 ≤ p
      · rw [if_pos h2] at h
        omega
      · rw [if_neg h2] at h
        rw [if_neg h2]
        by_cases h3 : f.f1 - o = 1 ∨ f.f1 - o = -1
        · rw [if_pos h3] at h
          rw [if_pos h3, scan_snoc e r _ _ h]
          rfl
        · rw [if_neg h3] at h
          omega
theorem mx_bd {x y a b : Int} (hx : a ≤ x ∧ x ≤ b) (hy : a ≤ y ∧ y ≤ b) : a ≤ mx x y ∧ mx x y ≤ b := by
  unfold mx
  split
  · exact hy
  · exact hx
/-- A table that is extended is valid. -/
theorem chk_ext {b x t c : Int} {l : List E} (h : chk b x l = 0) (h1 : mb t = true) (h2 : ¬ t ≤ prvI l l.length) (h3 : c = 1 ∨ c = -1) (h4 : -1000 ≤ oldI b l l.length + c ∧ oldI b l l.length + c ≤ 1000) (h5 : l.length < 64) : chk b (mx x (t + 1)) (l ++ [⟨t, oldI b l l.length + c⟩]) = 0 := by
  obtain ⟨ho, hl, hx, hb, ha, hs⟩ := oldI_ok h
  have ht := (mb_in h1).1
  have ht2 := mb_lt h1
  have hm := mx_bd (a := -8000000000) (b := 8000000000) hx (y := t + 1) (by omega)
  have hall : (l ++ [(⟨t, oldI b l l.length + c⟩ : E)]).all okE = true := by
    rw [List.all_append, ha, Bool.true_and, List.all_cons, List.all_nil, Bool.and_true]
    unfold okE
    exact decide_eq_true ⟨ht.1, ht.2, h4.1, h4.2⟩
  unfold chk
  rw [if_neg (by simp; omega), if_pos ⟨hb, hm, hall⟩, scan_snoc _ _ _ _ hs, ← lastO_old, ← lastP_prv]
  unfold scan
  rw [if_neg (by rw [(mb_in h1).2]; decide), if_neg h2, if_pos (by dsimp only; omega)]
  first | done | rfl
theorem ext_len (b x t c : Int) (l : List E) (hl : l.length ≤ 80) : (extS b x l t c).2.2.1.length ≤ 81 := by
  unfold extS finS
  split
  · split
    · split
      · simp
      · split
        · split
          · split
            · simp; omega
            · simp
          · simp
        · simp
    · simp
  · simp
end Go.Proofs.Ytljbajnmkkebkaa.Ext
