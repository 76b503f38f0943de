import Derived.Test.YtljbajnmkkebkaaAll7
import Derived.Test.YtljbajnmkkebkaaAll12
/- Offsets, TAI seconds and indicators of a valid table, and of a table that is extended, in plain words. No condition but the arguments' kinds. -/
import Derived.Test.YtljbajnmkkebkaaNext
namespace Go.Proofs.Ytljbajnmkkebkaa.Off
open Go.RowKit Go.Proofs.Ytljbajnmkkebkaa.All Go.Proofs.Ytljbajnmkkebkaa.Civ Go.Proofs.Ytljbajnmkkebkaa.CivB Go.Proofs.Ytljbajnmkkebkaa.Ext Go.Proofs.YtljbajnmkkebkaaW.PrintWords Go.Proofs.YtljbajnmkkebkaaW.PrintLast
set_option linter.unusedSimpArgs false
set_option linter.unusedVariables false

/-- The entries behind the offset o and the second p. -/
def Chain (o p : Int) : List E → Prop
  | [] => True
  | e :: r => beg e.f0 = true ∧ p < e.f0 ∧ (e.f1 - o = 1 ∨ e.f1 - o = -1) ∧ Chain e.f1 e.f0 r
theorem scan_0 : ∀ (l : List E) (o p : Int), scan o p l = 0 → Chain o p l
  | [], _, _, _ => trivial
  | e :: r, o, p, h => by
    rw [scan] at h
    by_cases h1 : beg e.f0 = false
    · rw [if_pos h1] at h; cases h
    · rw [if_neg h1] at h
      by_cases h2 : e.f0 ≤ p
      · rw [if_pos h2] at h; cases h
      · rw [if_neg h2] at h
        by_cases h3 : e.f1 - o = 1 ∨ e.f1 - o = -1
        · rw [if_pos h3] at h
          exact ⟨by simpa using h1, by omega, h3, scan_0 r _ _ h⟩
        · rw [if_neg h3] at h; cases h
structure Tab (b : Int) (l : List E) : Prop where
  len : l.length ≤ 64
  base : -1000 ≤ b ∧ b ≤ 1000
  all : l.all okE = true
  chain : Chain b (-9000000000) l
theorem chk_0 (b x : Int) (l : List E) (h : chk b x l = 0) : Tab b l := by
  unfold chk at h
  by_cases h1 : 64 < l.length
  · rw [if_pos h1] at h; cases h
  · rw [if_neg h1] at h
    by_cases h2 : (-1000 ≤ b ∧ b ≤ 1000) ∧ (-8000000000 ≤ x ∧ x ≤ 8000000000) ∧ l.all okE = true
    · rw [if_pos h2] at h
      exact ⟨by omega, h2.1, h2.2.2, scan_0 l _ _ h⟩
    · rw [if_neg h2] at h; cases h
theorem oldI_succ (b : Int) (l : List E) (i : Nat) (hi : i < l.length) : oldI b l (i + 1) = l[i].f1 := by
  unfold oldI
  rw [if_neg (by omega), show (((i + 1 : Nat) : Int) - 1) = (i : Int) by omega, rdE_nat l i hi]
def CL (u : Int) : List E → Nat
  | [] => 0
  | e :: r => if e.f0 ≤ u then CL u r + 1 else 0
/-- The offset at a second. -/
def OL (u o : Int) : List E → Int
  | [] => o
  | e :: r => if e.f0 ≤ u then OL u e.f1 r else o
/-- By how much it changes at the second behind. -/
def DL (u o : Int) : List E → Int
  | [] => 0
  | e :: r => if e.f0 ≤ u then DL u e.f1 r else if e.f0 = u + 1 then e.f1 - o else 0
theorem count_l0 (u b x : Int) (l : List E) (hl : l.length ≤ 64) : ∀ (m i k : Nat), i + m = l.length → m + 1 ≤ k → leap_count.l0 k u (i : Int) b x l = some ((i + CL u (l.drop i) : Nat) : Int) := by
  intro m
  induction m with
  | zero =>
    intro i k hi hk
    obtain ⟨k, rfl⟩ : ∃ q, k = q + 1 := ⟨k - 1, by omega⟩
    rw [leap_count.l0, if_neg (by omega), List.drop_eq_nil_of_le (by omega)]
    rfl
  | succ m ih =>
    intro i k hi hk
    obtain ⟨k, rfl⟩ : ∃ q, k = q + 1 := ⟨k - 1, by omega⟩
    have hil : i < l.length := by omega
    have hrd := rdE_nat l i hil
    have ei : wrap64 ((i : Int) + 1) = ((i + 1 : Nat) : Int) := by rw [wz (by omega)]; omega
    rw [leap_count.l0, if_pos (by omega), if_pos (by omega), show rd_T44 l (i : Int) = l[i] from hrd, ei, ih (i + 1) k (by omega) (by omega), List.drop_eq_getElem_cons hil, CL]
    by_cases g : l[i].f0 ≤ u
    · rw [if_pos g, if_pos g]
      congr 2
      omega
    · rw [if_neg g, if_neg g]
      rfl
theorem count_f (k : Nat) (hk : 100 ≤ k) (u b x : Int) (l : List E) (hl : l.length ≤ 64) : leap_count.f k b x l u = some ((CL u l : Nat) : Int) := by
  have h1 := count_l0 u b x l hl l.length 0 k (by omega) (by omega)
  rw [List.drop_zero, Nat.zero_add] at h1
  exact h1
theorem CL_le (u : Int) : ∀ l : List E, CL u l ≤ l.length
  | [] => Nat.le_refl _
  | e :: r => by
    have := CL_le u r
    rw [CL]
    split <;> simp <;> omega
/-- The offset and its change, by the number of entries that are passed. -/
theorem at_count (u b : Int) (l : List E) : ∀ (m i : Nat), i + m = l.length → OL u (oldI b l i) (l.drop i) = oldI b l (i + CL u (l.drop i)) ∧
    DL u (oldI b l i) (l.drop i) = (if h : i + CL u (l.drop i) < l.length then (if l[i + CL u (l.drop i)].f0 = u + 1 then l[i + CL u (l.drop i)].f1 - oldI b l (i + CL u (l.drop i)) else 0) else 0) := by
  intro m
  induction m with
  | zero =>
    intro i hi
    rw [List.drop_eq_nil_of_le (by omega)]
    refine ⟨rfl, ?_⟩
    rw [dif_neg (by show ¬ i + 0 < l.length; omega)]
    rfl
  | succ m ih =>
    intro i hi
    have hil : i < l.length := by omega
    obtain ⟨h1, h2⟩ := ih (i + 1) (by omega)
    rw [oldI_succ b l i hil] at h1 h2
    have ed : l.drop i = l[i] :: l.drop (i + 1) := List.drop_eq_getElem_cons hil
    by_cases g : l[i].f0 ≤ u
    · have ec : i + CL u (l.drop i) = i + 1 + CL u (l.drop (i + 1)) := by rw [ed, CL, if_pos g]; omega
      refine ⟨?_, ?_⟩
      · rw [ec, ← h1, ed, OL, if_pos g]
      · simp only [ec]
        rw [← h2, ed, DL, if_pos g]
    · have ec : i + CL u (l.drop i) = i := by rw [ed, CL, if_neg g]; rfl
      refine ⟨?_, ?_⟩
      · rw [ec, ed, OL, if_neg g]
      · simp only [ec]
        rw [dif_pos hil, show DL u (oldI b l i) (l.drop i) = DL u (oldI b l i) (l[i] :: l.drop (i + 1)) from congrArg (DL u (oldI b l i)) ed, DL, if_neg g]
theorem OL_count (u b : Int) (l : List E) : OL u b l = oldI b l (CL u l) := by
  have h := (at_count u b l l.length 0 (by omega)).1
  rw [List.drop_zero, Nat.zero_add] at h
  exact h
theorem OL_bd (u b : Int) (l : List E) (hb : -1000 ≤ b ∧ b ≤ 1000) (ha : l.all okE = true) : -1000 ≤ OL u b l ∧ OL u b l ≤ 1000 := by
  rw [OL_count]
  exact oldI_bd b l hb ha _ (CL_le u l)
theorem changes_f (k : Nat) (hk : 100 ≤ k) (u b x : Int) (l : List E) (h : Tab b l) (hu : -8000000000 ≤ u ∧ u ≤ 8000000000) : leap_changes.f k b x l u = some (DL u b l) := by
  have hl := h.len
  have hc := CL_le u l
  have hd := (at_count u b l l.length 0 (by omega)).2
  rw [List.drop_zero, show oldI b l 0 = b from rfl] at hd
  simp only [Nat.zero_add] at hd
  rw [hd]
  unfold leap_changes.f
  rw [count_f k hk u b x l hl, Option.bind_some]
  by_cases g : CL u l < l.length
  · have hrd := rdE_nat l (CL u l) g
    have hb := okE_bd (all_get h.all (CL u l) g)
    have ho := oldI_bd b l h.base h.all (CL u l) hc
    rw [if_neg (by omega), if_pos (by omega), if_pos (by omega), dif_pos g, show rd_T44 l ((CL u l : Nat) : Int) = l[CL u l] from hrd, wz (x := u + 1) (by omega)]
    by_cases g2 : l[CL u l].f0 = u + 1
    · rw [if_pos g2, if_pos g2, old_f b x l (CL u l) hc hl, Option.bind_some, wz (by omega)]
    · rw [if_neg g2, if_neg g2]
  · rw [if_pos (by omega), dif_neg g]
/-- The TAI second of a label. -/
def taiS (u : Int) (ex : Bool) (b : Int) (l : List E) : Int × Int := if ex = true then (if DL u b l = 1 then (u + OL u b l + 1, 0) else (0, 11)) else (if DL u b l = -1 then (0, 11) else (u + OL u b l, 0))
theorem tai_f (k : Nat) (hk : 300 ≤ k) (b x u : Int) (ex : Bool) (l : List E) (h : chk b x l = 0) (hu : -8000000000 ≤ u ∧ u ≤ 8000000000) : leap_TAI.f k b x l u ex = some (taiS u ex b l) := by
  have hT := chk_0 b x l h
  have ho := OL_bd u b l hT.base hT.all
  unfold leap_TAI.f taiS
  obtain ⟨k, rfl⟩ : ∃ q, k = q + 1 := ⟨k - 1, by omega⟩
  rw [leap_check (k + 1) hk, Option.bind_some, if_pos h, inside_f, Option.bind_some, decide_eq_true hu, if_pos rfl, changes_f (k + 1) (by omega) u b x l hT hu, Option.bind_some, count_f (k + 1) (by omega) u b x l hT.len, Option.bind_some, old_f b x l _ (CL_le u l) hT.len, Option.bind_some, ← OL_count, wz (x := u + OL u b l) (by omega)]
  have j0 : ∀ (ex z : Bool), leap_TAI.j0 (k + 1) ex (DL u b l) (u + OL u b l) z = some (if z = true then (u + OL u b l + 1, 0) else if ex = true then (0, 11) else if DL u b l = -1 then (0, 11) else (u + OL u b l, 0)) := by
    intro ex z
    rw [leap_TAI.j0, wz (x := u + OL u b l + 1) (by omega)]
    cases z <;> cases ex <;> simp
    split <;> rfl
  rw [j0, j0]
  cases ex
  · simp only [Bool.false_eq_true, if_false]
  · rw [if_pos rfl, if_pos rfl, if_pos rfl]
    by_cases g : DL u b l = 1
    · rw [if_pos g, if_pos (by simp [g])]
    · rw [if_neg g, if_neg (by simpa using g)]
theorem offset_f (k : Nat) (hk : 300 ≤ k) (b x u : Int) (l : List E) (h : chk b x l = 0) : leap_Offset.f k b x l u = some (OL u b l) := by
  have hT := chk_0 b x l h
  unfold leap_Offset.f
  rw [leap_check k hk, Option.bind_some, if_pos h, count_f k (by omega) u b x l hT.len, Option.bind_some, old_f b x l _ (CL_le u l) hT.len, Option.bind_some, ← OL_count]
/-- Ahead of an entry that is the last one it makes no difference. -/
theorem OL_snoc_lt (u t o2 : Int) (h : u < t) : ∀ (l : List E) (o : Int), OL u o (l ++ [⟨t, o2⟩]) = OL u o l
  | [], o => by
    show OL u o [⟨t, o2⟩] = o
    rw [OL, if_neg (by dsimp only; omega)]
  | e :: r, o => by
    rw [List.cons_append, OL, OL, OL_snoc_lt u t o2 h r]
theorem OL_late (u : Int) : ∀ (l : List E) (o p : Int), Chain o p l → lastP p l ≤ u → OL u o l = lastO o l
  | [], _, _, _, _ => rfl
  | e :: r, o, p, h, hu => by
    have h1 : e.f0 ≤ lastP e.f0 r := by
      clear hu
      have hr := h.2.2.2
      clear h
      have key : ∀ (r : List E) (o p : Int), Chain o p r → p ≤ lastP p r := by
        intro r
        induction r with
        | nil => intro o p _; exact Int.le_refl _
        | cons f q ih => intro o p hc; have := ih _ _ hc.2.2.2; have := hc.2.1; show p ≤ lastP f.f0 q; omega
      exact key r _ _ hr
    rw [lastP] at hu
    rw [OL, if_pos (by omega), lastO, OL_late u r _ _ h.2.2.2 hu]
theorem OL_snoc_at (t o2 : Int) : ∀ (l : List E) (o p : Int), Chain o p l → lastP p l < t → OL t o (l ++ [⟨t, o2⟩]) = o2
  | [], o, _, _, _ => by
    show OL t o [⟨t, o2⟩] = o2
    rw [OL, if_pos (by dsimp only; omega), OL]
  | e :: r, o, p, h, hu => by
    have h1 : e.f0 ≤ lastP e.f0 r := by
      have key : ∀ (r : List E) (o p : Int), Chain o p r → p ≤ lastP p r := by
        intro r
        induction r with
        | nil => intro o p _; exact Int.le_refl _
        | cons f q ih => intro o p hc; have := ih _ _ hc.2.2.2; have := hc.2.1; show p ≤ lastP f.f0 q; omega
      exact key r _ _ h.2.2.2
    rw [lastP] at hu
    rw [List.cons_append, OL, if_pos (by omega), OL_snoc_at t o2 r _ _ h.2.2.2 hu]
/-- What Extend has made, if there is no error. -/
theorem ext_ok {b x t c : Int} {l : List E} {r1 r2 : Int} {r3 : List E} (h : extS b x l t c = (r1, r2, r3, 0)) : chk b x l = 0 ∧ mb t = true ∧ ¬ t ≤ prvI l l.length ∧ (c = 1 ∨ c = -1) ∧ (-1000 ≤ oldI b l l.length + c ∧ oldI b l l.length + c ≤ 1000) ∧ l.length < 64 ∧ r1 = b ∧ r2 = mx x (t + 1) ∧ r3 = l ++ [⟨t, oldI b l l.length + c⟩] := by
  unfold extS at h
  by_cases h1 : chk b x l = 0
  · rw [if_pos h1] at h
    by_cases h2 : mb t = true
    · rw [if_pos h2] at h
      by_cases h3 : t ≤ prvI l l.length
      · rw [if_pos h3] at h
        simp at h
      · rw [if_neg h3] at h
        unfold finS at h
        by_cases h4 : c = 1 ∨ c = -1
        · rw [if_pos h4] at h
          by_cases h5 : -1000 ≤ oldI b l l.length + c ∧ oldI b l l.length + c ≤ 1000
          · rw [if_pos h5] at h
            by_cases h6 : l.length < 64
            · rw [if_pos h6] at h
              simp only [Prod.mk.injEq] at h
              exact ⟨h1, h2, h3, h4, h5, h6, h.1.symm, h.2.1.symm, h.2.2.1.symm⟩
            · rw [if_neg h6] at h
              simp at h
          · rw [if_neg h5] at h
            simp at h
        · rw [if_neg h4] at h
          simp at h
    · rw [if_neg h2] at h
      simp at h
  · rw [if_neg h1] at h
    simp only [Prod.mk.injEq] at h
    exact absurd h.2.2.2 h1
theorem ext_err {b x t c : Int} {l : List E} {r1 r2 : Int} {r3 : List E} {r4 : Int} (h : extS b x l t c = (r1, r2, r3, r4)) (h0 : r4 ≠ 0) : r3 = [] := by
  unfold extS finS at h
  repeat' split at h
  all_goals
    simp only [Prod.mk.injEq] at h
    first
      | exact h.2.2.1.symm
      | exact absurd h.2.2.2.symm h0
theorem mx_ge (x y : Int) : y ≤ mx x y ∧ x ≤ mx x y := by
  unfold mx
  split <;> omega
end Go.Proofs.Ytljbajnmkkebkaa.Off
