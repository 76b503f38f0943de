/- Labels and TAI seconds of a valid table: what the printed functions of leap answer, in plain words. No condition but the arguments' kinds. -/
import Derived.Test.YtljbajnmkkebkaaAll6
import Derived.Test.YtljbajnmkkebkaaAll7
import Derived.Test.YtljbajnmkkebkaaSm
namespace Go.Proofs.Ytljbajnmkkebkaa.Utc
open Go.RowKit Go.Proofs.Ytljbajnmkkebkaa.All Go.Proofs.Ytljbajnmkkebkaa.Civ Go.Proofs.Ytljbajnmkkebkaa.CivB Go.Proofs.Ytljbajnmkkebkaa.Sm Go.Proofs.YtljbajnmkkebkaaW.PrintWords Go.Proofs.YtljbajnmkkebkaaW.PrintLast

theorem oldI_succ (b : Int) (l : List E) (i : Nat) (hi : i < l.length) : oldI b l (i + 1) = l[i].f1 := by
  unfold oldI
  rw [if_neg (by omega), show (((i + 1 : Nat) : Int) - 1) = (i : Int) by omega, rdE_nat l i hi]
/-- The label of a TAI second, behind the offset o. -/
def UL (t o : Int) : List E → Int × Bool
  | [] => (t - o, false)
  | e :: r => if t < e.f0 + e.f1 then (if e.f1 > o ∧ t = e.f0 + e.f1 - 1 then (e.f0 - 1, true) else (t - o, false)) else UL t e.f1 r
def CL (u : Int) : List E → Nat
  | [] => 0
  | e :: r => if e.f0 ≤ u then CL u r + 1 else 0
/-- The offset at a second. -/
def OL (u o : Int) : List E → Int
  | [] => o
  | e :: r => if e.f0 ≤ u then OL u e.f1 r else o
/-- By how much it changes at the second behind. -/
def DL (u o : Int) : List E → Int
  | [] => 0
  | e :: r => if e.f0 ≤ u then DL u e.f1 r else if e.f0 = u + 1 then e.f1 - o else 0
def utcS (t o : Int) (l : List E) : Int × Bool × Int := if -8000000000 ≤ (UL t o l).1 ∧ (UL t o l).1 ≤ 8000000000 then ((UL t o l).1, (UL t o l).2, 0) else (0, false, 3)
theorem utc_j2 (k : Nat) (t o u : Int) (x : Bool) (ho : -1000 ≤ o ∧ o ≤ 1000) (ht : -8000002000 ≤ t ∧ t ≤ 8000002000) : leap_UTC.j2 (k + 1) t o u x = some (if x = true then (if -8000000000 ≤ u ∧ u ≤ 8000000000 then (u, true, 0) else (0, false, 3)) else (if -8000000000 ≤ t - o ∧ t - o ≤ 8000000000 then (t - o, false, 0) else (0, false, 3))) := by
  rw [leap_UTC.j2, inside_f, wz (x := t - o) (by omega), inside_f, Option.bind_some, Option.bind_some]
  cases x
  · rw [if_neg (show ¬ false = true by decide), if_neg (show ¬ false = true by decide)]
    by_cases g : -8000000000 ≤ t - o ∧ t - o ≤ 8000000000
    · rw [decide_eq_true g, if_pos (show true = true from rfl), if_pos g]
    · rw [decide_eq_false g, if_neg (show ¬ false = true by decide), if_neg g]
  · rw [if_pos (show true = true from rfl), if_pos (show true = true from rfl)]
    by_cases g : -8000000000 ≤ u ∧ u ≤ 8000000000
    · rw [decide_eq_true g, if_pos (show true = true from rfl), if_pos g]
    · rw [decide_eq_false g, if_neg (show ¬ false = true by decide), if_neg g]
theorem utc_l0 (t : Int) (ht : -8000002000 ≤ t ∧ t ≤ 8000002000) (l : List E) (ha : l.all okE = true) (hl : l.length ≤ 64) : ∀ (m i k : Nat) (o : Int), i + m = l.length → m + 2 ≤ k → (-1000 ≤ o ∧ o ≤ 1000) →
    leap_UTC.l0 k t o 0 false l (l.length : Int) (i : Int) = some (utcS t o (l.drop i)) := by
  intro m
  induction m with
  | zero =>
    intro i k o hi hk ho
    obtain ⟨k, rfl⟩ : ∃ q, k = q + 2 := ⟨k - 2, by omega⟩
    rw [leap_UTC.l0, if_neg (by omega), List.drop_eq_nil_of_le (by omega), utc_j2 k t o 0 false ho ht]
    rfl
  | succ m ih =>
    intro i k o hi hk ho
    obtain ⟨k, rfl⟩ : ∃ q, k = q + 2 := ⟨k - 2, by omega⟩
    have hil : i < l.length := by omega
    have hrd := rdE_nat l i hil
    have hb := okE_bd (all_get ha i hil)
    have ei : wrap64 ((i : Int) + 1) = ((i + 1 : Nat) : Int) := by rw [wz (by omega)]; omega
    have ih' := ih (i + 1) (k + 1) l[i].f1 (by omega) (by omega) hb.2
    rw [leap_UTC.l0, if_pos (by omega), if_pos (by omega), if_pos (by omega), show rd_T44 l (i : Int) = l[i] from hrd, ei, wz (x := l[i].f0 + l[i].f1) (by omega), wz (x := l[i].f0 - 1) (by omega), wz (x := l[i].f0 + l[i].f1 - 1) (by omega), ih', utc_j2 k _ _ _ _ ho ht, utc_j2 k _ _ _ _ ho ht, List.drop_eq_getElem_cons hil]
    unfold utcS
    rw [UL]
    by_cases g1 : t < l[i].f0 + l[i].f1
    · rw [if_pos g1, if_pos g1]
      by_cases g2 : l[i].f1 > o
      · rw [if_pos g2]
        by_cases g3 : t = l[i].f0 + l[i].f1 - 1
        · rw [if_pos (show (t == l[i].f0 + l[i].f1 - 1) = true by simpa using g3), if_pos (show l[i].f1 > o ∧ t = l[i].f0 + l[i].f1 - 1 from ⟨g2, g3⟩)]
        · rw [if_neg (show ¬ (t == l[i].f0 + l[i].f1 - 1) = true by simpa using g3), if_neg (show ¬ (l[i].f1 > o ∧ t = l[i].f0 + l[i].f1 - 1) from fun g => g3 g.2)]
      · rw [if_neg g2, if_neg (show ¬ false = true by decide), if_neg (show ¬ (l[i].f1 > o ∧ t = l[i].f0 + l[i].f1 - 1) from fun g => g2 g.1)]
    · rw [if_neg g1, if_neg g1]
theorem utc_f (k : Nat) (hk : 300 ≤ k) (b x t : Int) (l : List E) (h : chk b x l = 0) (ht : -8000000000 ≤ t ∧ t ≤ 8000000000) : leap_UTC.f k b x l t = some (utcS t b l) := by
  have hT := chk_0 b x l h
  have hlen := hT.len
  unfold leap_UTC.f
  obtain ⟨k, rfl⟩ : ∃ q, k = q + 1 := ⟨k - 1, by omega⟩
  rw [leap_check (k + 1) hk, Option.bind_some, if_pos h, if_neg (by omega), decide_eq_false (by omega), leap_UTC.j0, if_neg (by decide)]
  have h1 := utc_l0 t (by omega) l hT.all hT.len l.length 0 k b (by omega) (by omega) hT.base
  rw [List.drop_zero] at h1
  exact h1
theorem count_l0 (u b x : Int) (l : List E) (hl : l.length ≤ 64) : ∀ (m i k : Nat), i + m = l.length → m + 1 ≤ k → leap_count.l0 k u (i : Int) b x l = some ((i + CL u (l.drop i) : Nat) : Int) := by
  intro m
  induction m with
  | zero =>
    intro i k hi hk
    obtain ⟨k, rfl⟩ : ∃ q, k = q + 1 := ⟨k - 1, by omega⟩
    rw [leap_count.l0, if_neg (by omega), List.drop_eq_nil_of_le (by omega)]
    rfl
  | succ m ih =>
    intro i k hi hk
    obtain ⟨k, rfl⟩ : ∃ q, k = q + 1 := ⟨k - 1, by omega⟩
    have hil : i < l.length := by omega
    have hrd := rdE_nat l i hil
    have ei : wrap64 ((i : Int) + 1) = ((i + 1 : Nat) : Int) := by rw [wz (by omega)]; omega
    rw [leap_count.l0, if_pos (by omega), if_pos (by omega), show rd_T44 l (i : Int) = l[i] from hrd, ei, ih (i + 1) k (by omega) (by omega), List.drop_eq_getElem_cons hil, CL]
    by_cases g : l[i].f0 ≤ u
    · rw [if_pos g, if_pos g]
      congr 2
      omega
    · rw [if_neg g, if_neg g]
      rfl
theorem count_f (k : Nat) (hk : 100 ≤ k) (u b x : Int) (l : List E) (hl : l.length ≤ 64) : leap_count.f k b x l u = some ((CL u l : Nat) : Int) := by
  have h1 := count_l0 u b x l hl l.length 0 k (by omega) (by omega)
  rw [List.drop_zero, Nat.zero_add] at h1
  exact h1
theorem CL_le (u : Int) : ∀ l : List E, CL u l ≤ l.length
  | [] => Nat.le_refl _
  | e :: r => by
    have := CL_le u r
    rw [CL]
    split <;> simp <;> omega
/-- The offset and its change, by the number of entries that are passed. -/
theorem at_count (u b : Int) (l : List E) : ∀ (m i : Nat), i + m = l.length → OL u (oldI b l i) (l.drop i) = oldI b l (i + CL u (l.drop i)) ∧
    DL u (oldI b l i) (l.drop i) = (if h : i + CL u (l.drop i) < l.length then (if l[i + CL u (l.drop i)].f0 = u + 1 then l[i + CL u (l.drop i)].f1 - oldI b l (i + CL u (l.drop i)) else 0) else 0) := by
  intro m
  induction m with
  | zero =>
    intro i hi
    rw [List.drop_eq_nil_of_le (by omega)]
    refine ⟨rfl, ?_⟩
    rw [dif_neg (by show ¬ i + 0 < l.length; omega)]
    rfl
  | succ m ih =>
    intro i hi
    have hil : i < l.length := by omega
    obtain ⟨h1, h2⟩ := ih (i + 1) (by omega)
    rw [oldI_succ b l i hil] at h1 h2
    have ed : l.drop i = l[i] :: l.drop (i + 1) := List.drop_eq_getElem_cons hil
    by_cases g : l[i].f0 ≤ u
    · have ec : i + CL u (l.drop i) = i + 1 + CL u (l.drop (i + 1)) := by rw [ed, CL, if_pos g]; omega
      refine ⟨?_, ?_⟩
      · rw [ec, ← h1, ed, OL, if_pos g]
      · simp only [ec]
        rw [← h2, ed, DL, if_pos g]
    · have ec : i + CL u (l.drop i) = i := by rw [ed, CL, if_neg g]; rfl
      refine ⟨?_, ?_⟩
      · rw [ec, ed, OL, if_neg g]
      · simp only [ec]
        rw [dif_pos hil, show DL u (oldI b l i) (l.drop i) = DL u (oldI b l i) (l[i] :: l.drop (i + 1)) from congrArg (DL u (oldI b l i)) ed, DL, if_neg g]
theorem OL_count (u b : Int) (l : List E) : OL u b l = oldI b l (CL u l) := by
  have h := (at_count u b l l.length 0 (by omega)).1
  rw [List.drop_zero, Nat.zero_add] at h
  exact h
theorem OL_bd (u b : Int) (l : List E) (hb : -1000 ≤ b ∧ b ≤ 1000) (ha : l.all okE = true) : -1000 ≤ OL u b l ∧ OL u b l ≤ 1000 := by
  rw [OL_count]
  exact oldI_bd b l hb ha _ (CL_le u l)
theorem changes_f (k : Nat) (hk : 100 ≤ k) (u b x : Int) (l : List E) (h : Tab b l) (hu : -8000000000 ≤ u ∧ u ≤ 8000000000) : leap_changes.f k b x l u = some (DL u b l) := by
  have hl := h.len
  have hc := CL_le u l
  have hd := (at_count u b l l.length 0 (by omega)).2
  rw [List.drop_zero, show oldI b l 0 = b from rfl] at hd
  simp only [Nat.zero_add] at hd
  rw [hd]
  unfold leap_changes.f
  rw [count_f k hk u b x l hl, Option.bind_some]
  by_cases g : CL u l < l.length
  · have hrd := rdE_nat l (CL u l) g
    have hb := okE_bd (all_get h.all (CL u l) g)
    have ho := oldI_bd b l h.base h.all (CL u l) hc
    rw [if_neg (by omega), if_pos (by omega), if_pos (by omega), dif_pos g, show rd_T44 l ((CL u l : Nat) : Int) = l[CL u l] from hrd, wz (x := u + 1) (by omega)]
    by_cases g2 : l[CL u l].f0 = u + 1
    · rw [if_pos g2, if_pos g2, old_f b x l (CL u l) hc hl, Option.bind_some, wz (by omega)]
    · rw [if_neg g2, if_neg g2]
  · rw [if_pos (by omega), dif_neg g]
/-- The TAI second of a label. -/
def taiS (u : Int) (ex : Bool) (b : Int) (l : List E) : Int × Int := if ex = true then (if DL u b l = 1 then (u + OL u b l + 1, 0) else (0, 11)) else (if DL u b l = -1 then (0, 11) else (u + OL u b l, 0))
theorem tai_f (k : Nat) (hk : 300 ≤ k) (b x u : Int) (ex : Bool) (l : List E) (h : chk b x l = 0) (hu : -8000000000 ≤ u ∧ u ≤ 8000000000) : leap_TAI.f k b x l u ex = some (taiS u ex b l) := by
  have hT := chk_0 b x l h
  have ho := OL_bd u b l hT.base hT.all
  unfold leap_TAI.f taiS
  obtain ⟨k, rfl⟩ : ∃ q, k = q + 1 := ⟨k - 1, by omega⟩
  rw [leap_check (k + 1) hk, Option.bind_some, if_pos h, inside_f, Option.bind_some, decide_eq_true hu, if_pos rfl, changes_f (k + 1) (by omega) u b x l hT hu, Option.bind_some, count_f (k + 1) (by omega) u b x l hT.len, Option.bind_some, old_f b x l _ (CL_le u l) hT.len, Option.bind_some, ← OL_count, wz (x := u + OL u b l) (by omega)]
  have j0 : ∀ (ex z : Bool), leap_TAI.j0 (k + 1) ex (DL u b l) (u + OL u b l) z = some (if z = true then (u + OL u b l + 1, 0) else if ex = true then (0, 11) else if DL u b l = -1 then (0, 11) else (u + OL u b l, 0)) := by
    intro ex z
    rw [leap_TAI.j0, wz (x := u + OL u b l + 1) (by omega)]
    cases z <;> cases ex <;> simp
    split <;> rfl
  rw [j0, j0]
  cases ex
  · simp only [Bool.false_eq_true, if_false]
  · rw [if_pos rfl, if_pos rfl, if_pos rfl]
    by_cases g : DL u b l = 1
    · rw [if_pos g, if_pos (by simp [g])]
    · rw [if_neg g, if_neg (by simpa using g)]
/-- The label's TAI second is the second. -/
theorem back (t : Int) : ∀ (r : List E) (o p : Int), Chain o p r → -9000000000 ≤ p → (p + o ≤ t ∨ p = -9000000000) → ((p ≤ (UL t o r).1 ∨ p = -9000000000) ∧ taiS (UL t o r).1 (UL t o r).2 o r = (t, 0))
  | [], o, p, _, _, ht => by
    refine ⟨?_, ?_⟩
    · show p ≤ t - o ∨ _
      omega
    · show (if false = true then _ else if (0 : Int) = -1 then _ else (t - o + o, 0)) = _
      rw [if_neg (by decide), if_neg (by decide), Int.sub_add_cancel]
  | e :: r, o, p, hc, hp, ht => by
    obtain ⟨h1, h2, h3, h4⟩ := hc
    rw [UL]
    by_cases g1 : t < e.f0 + e.f1
    · rw [if_pos g1]
      by_cases g2 : e.f1 > o ∧ t = e.f0 + e.f1 - 1
      · have eD : DL (e.f0 - 1) o (e :: r) = e.f1 - o := by rw [DL, if_neg (by omega), if_pos (by omega)]
        have eO : OL (e.f0 - 1) o (e :: r) = o := by rw [OL, if_neg (by omega)]
        rw [if_pos g2]
        refine ⟨by dsimp only; omega, ?_⟩
        unfold taiS
        dsimp only
        rw [if_pos rfl, eD, eO, if_pos (by omega)]
        congr 1
        omega
      · have eD : ¬ DL (t - o) o (e :: r) = -1 := by
          rw [DL, if_neg (by omega)]
          split <;> omega
        have eO : OL (t - o) o (e :: r) = o := by rw [OL, if_neg (by omega)]
        rw [if_neg g2]
        refine ⟨by dsimp only; omega, ?_⟩
        unfold taiS
        dsimp only
        rw [if_neg (show ¬ false = true by decide), if_neg eD, eO, Int.sub_add_cancel]
    · rw [if_neg g1]
      obtain ⟨i1, i2⟩ := back t r e.f1 e.f0 h4 (by omega) (.inl (by omega))
      have h5 : e.f0 ≤ (UL t e.f1 r).1 := by
        rcases i1 with g | g
        · exact g
        · omega
      refine ⟨by omega, ?_⟩
      rw [← i2]
      unfold taiS
      rw [DL, OL, if_pos h5, if_pos h5]
theorem UL_bd (t : Int) : ∀ (r : List E) (o : Int), (-1000 ≤ o ∧ o ≤ 1000) → r.all okE = true → t - 1001 ≤ (UL t o r).1 ∧ (UL t o r).1 ≤ t + 1001
  | [], o, ho, _ => by
    show t - 1001 ≤ t - o ∧ t - o ≤ t + 1001
    omega
  | e :: r, o, ho, ha => by
    rw [List.all_cons, Bool.and_eq_true] at ha
    have hb := okE_bd ha.1
    rw [UL]
    by_cases g1 : t < e.f0 + e.f1
    · rw [if_pos g1]
      by_cases g2 : e.f1 > o ∧ t = e.f0 + e.f1 - 1
      · rw [if_pos g2]; dsimp only; omega
      · rw [if_neg g2]; dsimp only; omega
    · rw [if_neg g1]
      exact UL_bd t r e.f1 hb.2 ha.2
/-- The stepped time of a second that is not an inserted one is its label. -/
theorem label (t : Int) : ∀ (r : List E) (o p : Int), Chain o p r → (UL t o r).2 = false → RP (t * 1000000000) o 0 (pts 1 0 o r) = (UL t o r).1 * 1000000000
  | [], o, _, _, _ => by
    show t * 1000000000 - o * 1000000000 = (t - o) * 1000000000
    omega
  | e :: r, o, p, hc, hx => by
    have eL : bgn 1 0 e = (e.f0 + e.f1) * 1000000000 := by
      unfold bgn
      rw [show lead 1 0 = 0 from rfl]
      omega
    rw [UL] at hx ⊢
    by_cases g1 : t < e.f0 + e.f1
    · rw [if_pos g1] at hx ⊢
      have g2 : ¬ (e.f1 > o ∧ t = e.f0 + e.f1 - 1) := fun g => by rw [if_pos g] at hx; cases hx
      rw [if_neg g2, pts, RP, if_pos (by dsimp only; omega)]
      dsimp only
      omega
    · rw [if_neg g1] at hx ⊢
      rw [pts, RP, if_neg (by dsimp only; omega)]
      dsimp only
      rw [if_neg (by omega)]
      exact label t r e.f1 e.f0 hc.2.2.2 hx
theorem RP_bd (K W t : Int) (hW : 0 ≤ W ∧ W ≤ 172800) : ∀ (r : List E) (o p : Int), Chain o p r → (-1000 ≤ o ∧ o ≤ 1000) → r.all okE = true → t - 2000000000000 ≤ RP t o W (pts K W o r) ∧ RP t o W (pts K W o r) ≤ t + 2000000000000
  | [], o, _, _, ho, _ => by
    show t - 2000000000000 ≤ t - o * 1000000000 ∧ t - o * 1000000000 ≤ t + 2000000000000
    omega
  | e :: r, o, p, hc, ho, ha => by
    rw [List.all_cons, Bool.and_eq_true] at ha
    have hb := okE_bd ha.1
    rw [pts, RP]
    dsimp only
    by_cases g1 : t < bgn K W e
    · rw [if_pos g1]
      omega
    · rw [if_neg g1]
      by_cases g2 : t < bgn K W e + W * 1000000000
      · rw [if_pos g2]
        have hW0 : 0 < W := by omega
        have hx : 0 ≤ (t - bgn K W e) / W ∧ (t - bgn K W e) / W < 1000000000 := ⟨Int.ediv_nonneg (by omega) (by omega), Int.ediv_lt_of_lt_mul hW0 (by omega)⟩
        have hy : -1000000000 ≤ -1 * (t - bgn K W e) / W ∧ -1 * (t - bgn K W e) / W ≤ 0 := by
          refine ⟨Int.le_ediv_of_mul_le hW0 (by omega), ?_⟩
          have := Int.ediv_lt_of_lt_mul (a := -1 * (t - bgn K W e)) (b := 1) (c := W) hW0 (by omega)
          omega
        rcases hc.2.2.1 with s | s
        · rw [s, Int.one_mul]; omega
        · rw [s]; omega
      · rw [if_neg g2]
        exact RP_bd K W t hW r e.f1 e.f0 hc.rest hb.2 ha.2
theorem readS_in {b x : Int} {l : List E} {K W t : Int} (h : chkS b x l K W = 0) (ht : -7900000000000000000 ≤ t ∧ t ≤ 7900000000000000000) : readS b x l K W t = (RP t b W (pts K W b l), 0) := by
  have hp := chkS_0 b x l K W h
  have hb := RP_bd K W t hp.win l b _ hp.tab.chain hp.tab.base hp.tab.all
  unfold readS
  rw [if_pos h, if_pos (by omega), if_pos (by omega)]
end Go.Proofs.Ytljbajnmkkebkaa.Utc
