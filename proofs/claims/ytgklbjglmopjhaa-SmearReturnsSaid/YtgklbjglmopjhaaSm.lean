/- Smeared time: what the printed functions of smear answer, in plain words. No condition but the arguments' kinds. -/
import Derived.Test.YtgklbjglmopjhaaAll8
import Derived.Test.YtgklbjglmopjhaaAll3
import Derived.Test.YtgklbjglmopjhaaCal
namespace Go.Proofs.Ytgklbjglmopjhaa.Sm
open Go.RowKit Go.Proofs.Ytgklbjglmopjhaa.All Go.Proofs.Ytgklbjglmopjhaa.Civ Go.Proofs.Ytgklbjglmopjhaa.CivB Go.Proofs.YtgklbjglmopjhaaW.PrintWords Go.Proofs.YtgklbjglmopjhaaW.PrintLast

theorem ediv_bd (a b n : Int) (hb : 0 < b) (h : -n ≤ a ∧ a ≤ n) (hn : 0 ≤ n) : -n ≤ a / b ∧ a / b ≤ n := by
  refine ⟨Int.le_ediv_of_mul_le hb ?_, ?_⟩
  · have h1 : n * 1 ≤ n * b := Int.mul_le_mul_of_nonneg_left (by omega) hn
    rw [Int.neg_mul]
    omega
  · by_cases h0 : 0 ≤ a
    · exact Int.le_trans (Int.ediv_le_self b h0) h.2
    · have h1 := Int.ediv_lt_of_lt_mul (a := a) (b := 0) hb (by omega)
      omega
theorem floor_f (a b : Int) (hb : 0 < b) (h : -4000000000000000000 ≤ a ∧ a ≤ 4000000000000000000) : fixed_Floor.f a b = some (a / b, true) := by
  unfold fixed_Floor.f fixed_divides.f
  have hbd := ediv_bd a b 4000000000000000000 hb h (by omega)
  rw [if_neg (by omega), if_neg (by omega), Option.bind_some, if_pos rfl, if_neg (by omega), decide_eq_false (show ¬ b < 0 by omega)]
  have em := Int.emod_add_mul_ediv a b
  have r0 := Int.emod_nonneg a (show b ≠ 0 by omega)
  have r1 := Int.emod_lt_of_pos a hb
  by_cases h0 : 0 ≤ a
  · rw [Int.tdiv_eq_ediv_of_nonneg h0, decide_eq_false (show ¬ a < 0 by omega), if_neg (show ¬ ((false != false) = true) by decide), wz (by omega)]
    split <;> rfl
  · have e2 : Int.tdiv a b = -((-a) / b) := by
      rw [← Int.tdiv_eq_ediv_of_nonneg (show 0 ≤ -a by omega), Int.neg_tdiv, Int.neg_neg]
    rw [decide_eq_true (show a < 0 by omega), if_pos (show (true != false) = true from rfl)]
    by_cases h1 : Int.tmod a b = 0
    · have h2 : a % b = 0 := Int.emod_eq_zero_of_dvd (Int.dvd_of_tmod_eq_zero h1)
      have h3 : (-a) / b = -(a / b) := by
        refine ((Int.ediv_emod_unique hb (r := 0)).2 ⟨?_, by omega, hb⟩).1
        rw [Int.mul_neg]
        omega
      rw [if_pos h1, e2, h3, Int.neg_neg, wz (by omega)]
    · have h2 : a % b ≠ 0 := fun g => h1 (Int.tmod_eq_zero_of_dvd (Int.dvd_of_emod_eq_zero g))
      have h3 : (-a) / b = -(a / b) - 1 := by
        refine ((Int.ediv_emod_unique hb (r := b - a % b)).2 ⟨?_, by omega, by omega⟩).1
        rw [Int.mul_sub, Int.mul_neg]
        omega
      rw [if_neg h1, e2, h3, wz (x := -(-(a / b) - 1)) (by omega), wz (by omega)]
      congr 2
      omega
abbrev P := S46
abbrev rdP (l : List P) (i : Int) : P := rd_T46 l i
theorem rdP_nat (l : List P) (i : Nat) (h : i < l.length) : rdP l (i : Int) = l[i] := by
  show l.getD (i : Int).toNat _ = _
  simp [h]
/-- How long before the change a window begins. -/
def lead (K W : Int) : Int := if K = 2 then W * 1000000000 / 2 else if K = 3 then W * 1000000000 else 0
/-- The begin of an entry's window. -/
def bgn (K W : Int) (e : E) : Int := (e.f0 + e.f1) * 1000000000 - lead K W
def pts (K W o : Int) : List E → List P
  | [] => []
  | e :: r => ⟨bgn K W e, bgn K W e + W * 1000000000, o, e.f1⟩ :: pts K W e.f1 r
theorem pts_len (K W : Int) : ∀ (l : List E) (o : Int), (pts K W o l).length = l.length
  | [], _ => rfl
  | e :: r, o => by simp [pts, pts_len K W r]
theorem lead_bd (K W : Int) (hW : 0 ≤ W ∧ W ≤ 172800) : 0 ≤ lead K W ∧ lead K W ≤ W * 1000000000 := by
  unfold lead
  split
  · omega
  · split <;> omega
theorem parts_l0 (K W : Int) (l : List E) (hW : 0 ≤ W ∧ W ≤ 172800) (hl : l.length ≤ 64) (ha : l.all okE = true) : ∀ (m i k : Nat) (acc : List P) (o : Int), i + m = l.length → m + 1 ≤ k → acc.length = i →
    smear_parts.l0 k acc o l (l.length : Int) (i : Int) K W = some (acc ++ pts K W o (l.drop i)) := by
  intro m
  induction m with
  | zero =>
    intro i k acc o hi hk hacc
    obtain ⟨k, rfl⟩ : ∃ q, k = q + 1 := ⟨k - 1, by omega⟩
    rw [smear_parts.l0, if_neg (by omega), List.drop_eq_nil_of_le (by omega)]
    simp [pts]
  | succ m ih =>
    intro i k acc o hi hk hacc
    obtain ⟨k, rfl⟩ : ∃ q, k = q + 1 := ⟨k - 1, by omega⟩
    have hil : i < l.length := by omega
    have hrd := rdE_nat l i hil
    have hok := okE_bd (all_get ha i hil)
    have ei : wrap64 ((i : Int) + 1) = ((i + 1 : Nat) : Int) := by rw [wz (by omega)]; omega
    have hn := fun (q : P) (o' : Int) => ih (i + 1) k (acc ++ [q]) o' (by omega) (by omega) (by simp [hacc])
    rw [smear_parts.l0, if_pos (by omega), if_pos (by omega), if_pos (by omega), show rd_T40 l (i : Int) = l[i] from hrd, ei]
    have hlen : acc.length < 4398046511104 := by omega
    rw [if_pos hlen, if_pos hlen, if_pos hlen, hn, hn, hn, List.drop_eq_getElem_cons hil]
    have ed : Int.tdiv (W * 1000000000) 2 = W * 1000000000 / 2 := Int.tdiv_eq_ediv_of_nonneg (by omega)
    rw [wz (x := l[i].f0 + l[i].f1) (by omega), wz (x := W * 1000000000) (by omega), ed, wz (x := W * 1000000000 / 2) (by omega), wz (x := (l[i].f0 + l[i].f1) * 1000000000) (by omega),
      wz (x := (l[i].f0 + l[i].f1) * 1000000000 - W * 1000000000 / 2) (by omega), wz (x := (l[i].f0 + l[i].f1) * 1000000000 - W * 1000000000) (by omega),
      wz (x := (l[i].f0 + l[i].f1) * 1000000000 - W * 1000000000 / 2 + W * 1000000000) (by omega), wz (x := (l[i].f0 + l[i].f1) * 1000000000 - W * 1000000000 + W * 1000000000) (by omega), wz (x := (l[i].f0 + l[i].f1) * 1000000000 + W * 1000000000) (by omega)]
    by_cases h2 : K = 2
    · rw [if_pos h2]
      simp [pts, bgn, lead, h2]
    · rw [if_neg h2]
      by_cases h3 : K = 3
      · rw [if_pos h3]
        simp [pts, bgn, lead, h3]
      · rw [if_neg h3]
        simp [pts, bgn, lead, h2, h3]
theorem parts_f (k : Nat) (hk : 100 ≤ k) (b x : Int) (l : List E) (K W : Int) (hW : 0 ≤ W ∧ W ≤ 172800) (hl : l.length ≤ 64) (ha : l.all okE = true) : smear_parts.f k b x l K W = some (pts K W b l) := by
  unfold smear_parts.f
  rw [if_pos (by omega), if_pos (by omega)]
  have h := parts_l0 K W l hW hl ha l.length 0 k [] b (by omega) (by omega) rfl
  rw [List.drop_zero, List.nil_append] at h
  exact h
/-- What a part must be like. -/
def okP (W : Int) (p : P) : Prop := (-8200000000000000000 ≤ p.f0 ∧ p.f0 ≤ 8200000000000000000) ∧ p.f1 = p.f0 + W * 1000000000 ∧ (-1000 ≤ p.f2 ∧ p.f2 ≤ 1000) ∧ (p.f3 - p.f2 = 1 ∨ p.f3 - p.f2 = -1)
/-- The entries behind the offset o and the second p. -/
def Chain (o p : Int) : List E → Prop
  | [] => True
  | e :: r => beg e.f0 = true ∧ p < e.f0 ∧ (e.f1 - o = 1 ∨ e.f1 - o = -1) ∧ Chain e.f1 e.f0 r
theorem scan_0 : ∀ (l : List E) (o p : Int), scan o p l = 0 → Chain o p l
  | [], _, _, _ => trivial
  | e :: r, o, p, h => by
    rw [scan] at h
    by_cases h1 : beg e.f0 = false
    · rw [if_pos h1] at h; cases h
    · rw [if_neg h1] at h
      by_cases h2 : e.f0 ≤ p
      · rw [if_pos h2] at h; cases h
      · rw [if_neg h2] at h
        by_cases h3 : e.f1 - o = 1 ∨ e.f1 - o = -1
        · rw [if_pos h3] at h
          exact ⟨by simpa using h1, by omega, h3, scan_0 r _ _ h⟩
        · rw [if_neg h3] at h; cases h
structure Tab (b : Int) (l : List E) : Prop where
  len : l.length ≤ 64
  base : -1000 ≤ b ∧ b ≤ 1000
  all : l.all okE = true
  chain : Chain b (-9000000000) l
theorem chk_0 (b x : Int) (l : List E) (h : chk b x l = 0) : Tab b l := by
  unfold chk at h
  by_cases h1 : 64 < l.length
  · rw [if_pos h1] at h; cases h
  · rw [if_neg h1] at h
    by_cases h2 : (-1000 ≤ b ∧ b ≤ 1000) ∧ (-8000000000 ≤ x ∧ x ≤ 8000000000) ∧ l.all okE = true
    · rw [if_pos h2] at h
      exact ⟨by omega, h2.1, h2.2.2, scan_0 l _ _ h⟩
    · rw [if_neg h2] at h; cases h
theorem pts_ok (K W : Int) (hW : 0 ≤ W ∧ W ≤ 172800) : ∀ (l : List E) (o p : Int), (-1000 ≤ o ∧ o ≤ 1000) → l.all okE = true → Chain o p l → ∀ q ∈ pts K W o l, okP W q
  | [], _, _, _, _, _ => fun q hq => by cases hq
  | e :: r, o, p, ho, ha, hc => by
    intro q hq
    rw [List.all_cons, Bool.and_eq_true] at ha
    have hb := okE_bd ha.1
    have hL := lead_bd K W hW
    rcases List.mem_cons.1 hq with rfl | hq
    · refine ⟨?_, rfl, ho, hc.2.2.1⟩
      show -8200000000000000000 ≤ bgn K W e ∧ bgn K W e ≤ 8200000000000000000
      unfold bgn
      omega
    · exact pts_ok K W hW r e.f1 e.f0 hb.2 ha.2 hc.2.2.2 q hq
/-- The check of a table and a policy. -/
def chkS (b x : Int) (l : List E) (K W : Int) : Int := if chk b x l = 0 then (if K = 1 then (if W = 0 then 0 else 3) else if 2 ≤ K ∧ K ≤ 4 then (if 2 ≤ W ∧ W ≤ 172800 ∧ W % 2 = 0 then 0 else 3) else 8) else chk b x l
theorem check_s (k : Nat) (hk : 300 ≤ k) (b x : Int) (l : List E) (K W : Int) : smear_Check.f k b x l K W = some (chkS b x l K W) := by
  unfold smear_Check.f chkS
  obtain ⟨k, rfl⟩ : ∃ q, k = q + 1 := ⟨k - 1, by omega⟩
  rw [leap_check (k + 1) hk, Option.bind_some]
  by_cases h : chk b x l = 0
  · rw [if_pos h, if_pos h]
    have j0 : ∀ z : Bool, smear_Check.j0 (k + 1) z K W = some (if z = true then (if 2 ≤ W ∧ W ≤ 172800 ∧ W % 2 = 0 then 0 else 3) else 8) := by
      intro z
      rw [smear_Check.j0]
      cases z
      · rfl
      · rw [if_pos rfl, if_pos rfl]
        by_cases h1 : W < 2
        · rw [if_pos h1, if_neg (by omega)]
        · rw [if_neg h1]
          by_cases h2 : W > 172800
          · rw [if_pos h2, if_neg (by omega)]
          · rw [if_neg h2, Int.tmod_eq_emod_of_nonneg (show 0 ≤ W by omega)]
            by_cases h3 : W % 2 = 0
            · rw [if_pos h3, if_pos (by omega)]
            · rw [if_neg h3, if_neg (by omega)]
    by_cases h1 : K = 1
    · rw [if_pos h1, if_pos h1]
      split <;> rfl
    · rw [if_neg h1, if_neg h1]
      by_cases h2 : K = 2
      · rw [if_pos h2, j0, if_pos (by simp [h2]), if_pos (show 2 ≤ K ∧ K ≤ 4 by omega)]
      · rw [if_neg h2]
        by_cases h3 : K = 3
        · rw [if_pos h3, j0, if_pos (by simp [h3]), if_pos (show 2 ≤ K ∧ K ≤ 4 by omega)]
        · rw [if_neg h3, j0]
          by_cases h4 : K = 4
          · rw [if_pos (by simp [h4]), if_pos (show 2 ≤ K ∧ K ≤ 4 by omega)]
          · rw [if_neg (by simpa using h4), if_neg (show ¬ (2 ≤ K ∧ K ≤ 4) by omega)]
  · rw [if_neg h, if_neg h]
/-- A valid policy with its table. -/
structure Pol (b : Int) (l : List E) (K W : Int) : Prop where
  tab : Tab b l
  kind : (K = 1 ∧ W = 0) ∨ ((2 ≤ K ∧ K ≤ 4) ∧ 2 ≤ W ∧ W ≤ 172800 ∧ W % 2 = 0)
theorem chkS_0 (b x : Int) (l : List E) (K W : Int) (h : chkS b x l K W = 0) : Pol b l K W := by
  unfold chkS at h
  by_cases h0 : chk b x l = 0
  · refine ⟨chk_0 b x l h0, ?_⟩
    rw [if_pos h0] at h
    by_cases h1 : K = 1
    · rw [if_pos h1] at h
      by_cases h2 : W = 0
      · exact .inl ⟨h1, h2⟩
      · rw [if_neg h2] at h; cases h
    · rw [if_neg h1] at h
      by_cases h2 : 2 ≤ K ∧ K ≤ 4
      · rw [if_pos h2] at h
        by_cases h3 : 2 ≤ W ∧ W ≤ 172800 ∧ W % 2 = 0
        · exact .inr ⟨h2, h3⟩
        · rw [if_neg h3] at h; cases h
      · rw [if_neg h2] at h; cases h
  · rw [if_neg h0] at h
    exact absurd h h0
theorem Pol.win {b K W : Int} {l : List E} (h : Pol b l K W) : 0 ≤ W ∧ W ≤ 172800 := by
  rcases h.kind with h | h <;> omega
theorem time_f (a : Int) : smear_isTime.f a = some (decide (-8000000000000000000 ≤ a ∧ a ≤ 8000000000000000000)) := by
  unfold smear_isTime.f
  by_cases h : a ≥ -8000000000000000000
  · rw [if_pos h]
    congr 1
    exact decide_eq_decide.2 (by omega)
  · rw [if_neg h, decide_eq_false (by omega)]
/-- The reading of an instant: behind the offset o. -/
def RP (tai o W : Int) : List P → Int
  | [] => tai - o * 1000000000
  | p :: r => if tai < p.f0 then tai - o * 1000000000 else if tai < p.f1 then tai - p.f2 * 1000000000 - (p.f3 - p.f2) * (tai - p.f0) / W else RP tai p.f3 W r
theorem reading_l0 (tai K W : Int) (ht : -8000000000000000000 ≤ tai ∧ tai ≤ 8000000000000000000) (hW : 0 ≤ W ∧ W ≤ 172800) (ps : List P) (hp : ∀ q ∈ ps, okP W q) (hl : ps.length ≤ 64) : ∀ (m i k : Nat) (o : Int), i + m = ps.length → m + 1 ≤ k → (-1001 ≤ o ∧ o ≤ 1001) →
    smear_reading.l0 k tai o ps (ps.length : Int) (i : Int) K W = some (RP tai o W (ps.drop i)) := by
  intro m
  induction m with
  | zero =>
    intro i k o hi hk ho
    obtain ⟨k, rfl⟩ : ∃ q, k = q + 1 := ⟨k - 1, by omega⟩
    rw [smear_reading.l0, if_neg (by omega), List.drop_eq_nil_of_le (by omega), wz (x := o * 1000000000) (by omega), wz (by omega)]
    rfl
  | succ m ih =>
    intro i k o hi hk ho
    obtain ⟨k, rfl⟩ : ∃ q, k = q + 1 := ⟨k - 1, by omega⟩
    have hil : i < ps.length := by omega
    have hrd := rdP_nat ps i hil
    have ei : wrap64 ((i : Int) + 1) = ((i + 1 : Nat) : Int) := by rw [wz (by omega)]; omega
    have c1 : (i : Int) < (ps.length : Int) := by omega
    have c2 : (0 : Int) ≤ (i : Int) := Int.natCast_nonneg i
    rw [smear_reading.l0, if_pos c1, if_pos c2, if_pos c1, show rd_T46 ps (i : Int) = ps[i] from hrd, ei, List.drop_eq_getElem_cons hil, RP]
    obtain ⟨⟨p0, p1⟩, p2, ⟨p3, p4⟩, p5⟩ := hp ps[i] (List.getElem_mem hil)
    generalize ps[i] = p at *
    by_cases h1 : tai < p.f0
    · rw [if_pos h1, if_pos h1, wz (x := o * 1000000000) (by omega), wz (by omega)]
    · rw [if_neg h1, if_neg h1]
      by_cases h2 : tai < p.f1
      · have hprod : -200000000000000 ≤ (p.f3 - p.f2) * (tai - p.f0) ∧ (p.f3 - p.f2) * (tai - p.f0) ≤ 200000000000000 := by
          rcases p5 with e | e <;> rw [e] <;> omega
        have hq := ediv_bd ((p.f3 - p.f2) * (tai - p.f0)) W 200000000000000 (by omega) hprod (by omega)
        rw [if_pos h2, if_pos h2, wz (x := p.f3 - p.f2) (by omega), wz (x := tai - p.f0) (by omega), wz (x := (p.f3 - p.f2) * (tai - p.f0)) (by omega), floor_f _ _ (by omega) (by omega), Option.bind_some, wz (x := p.f2 * 1000000000) (by omega), wz (x := tai - p.f2 * 1000000000) (by omega)]
        dsimp only
        rw [wz (by omega)]
      · rw [if_neg h2, if_neg h2]
        exact ih (i + 1) k p.f3 (by omega) (by omega) (by omega)
theorem reading_f (k : Nat) (hk : 100 ≤ k) (b x : Int) (l : List E) (K W tai : Int) (h : Pol b l K W) (ht : -8000000000000000000 ≤ tai ∧ tai ≤ 8000000000000000000) : smear_reading.f k b x l K W (pts K W b l) tai = some (RP tai b W (pts K W b l)) := by
  have hb := h.tab.base
  have hl := pts_len K W l b
  have hl2 := h.tab.len
  have h1 := reading_l0 tai K W ht h.win (pts K W b l) (pts_ok K W h.win l b _ h.tab.base h.tab.all h.tab.chain) (by omega) (pts K W b l).length 0 k b (by omega) (by omega) (by omega)
  rw [List.drop_zero] at h1
  exact h1
/-- The reading or the error. -/
def readS (b x : Int) (l : List E) (K W tai : Int) : Int × Int :=
  if chkS b x l K W = 0 then (if -8000000000000000000 ≤ tai ∧ tai ≤ 8000000000000000000 then (if -8000000000000000000 ≤ RP tai b W (pts K W b l) ∧ RP tai b W (pts K W b l) ≤ 8000000000000000000 then (RP tai b W (pts K W b l), 0) else (0, 3)) else (0, 3)) else (0, chkS b x l K W)
theorem read_s (k : Nat) (hk : 300 ≤ k) (b x : Int) (l : List E) (K W tai : Int) : smear_Read.f k b x l K W tai = some (readS b x l K W tai) := by
  unfold smear_Read.f readS
  rw [check_s k hk, Option.bind_some]
  by_cases h : chkS b x l K W = 0
  · have hp := chkS_0 b x l K W h
    rw [if_pos h, if_pos h, time_f, Option.bind_some]
    by_cases ht : -8000000000000000000 ≤ tai ∧ tai ≤ 8000000000000000000
    · rw [decide_eq_true ht, if_pos rfl, if_pos ht, parts_f k (by omega) b x l K W hp.win hp.tab.len hp.tab.all, Option.bind_some, reading_f k (by omega) b x l K W tai hp ht, Option.bind_some, time_f, Option.bind_some]
      by_cases h2 : -8000000000000000000 ≤ RP tai b W (pts K W b l) ∧ RP tai b W (pts K W b l) ≤ 8000000000000000000
      · rw [decide_eq_true h2, if_pos rfl, if_pos h2]
      · rw [decide_eq_false h2, if_neg (by decide), if_neg h2]
    · rw [decide_eq_false ht, if_neg (by decide), if_neg ht]
  · rw [if_neg h, if_neg h]
/-- The window that an instant is in. -/
def WP (tai : Int) : List P → Int × Int × Int × Int × Bool
  | [] => (0, 0, 0, 0, false)
  | p :: r => if p.f0 ≤ tai ∧ tai < p.f1 then (p.f0, p.f1, p.f2, p.f3, true) else WP tai r
theorem window_l0 (tai : Int) (ps : List P) (hl : ps.length ≤ 64) : ∀ (m i k : Nat), i + m = ps.length → m + 1 ≤ k → smear_window.l0 k tai ps (ps.length : Int) (i : Int) = some (WP tai (ps.drop i)) := by
  intro m
  induction m with
  | zero =>
    intro i k hi hk
    obtain ⟨k, rfl⟩ : ∃ q, k = q + 1 := ⟨k - 1, by omega⟩
    rw [smear_window.l0, if_neg (by omega), List.drop_eq_nil_of_le (by omega)]
    rfl
  | succ m ih =>
    intro i k hi hk
    obtain ⟨k, rfl⟩ : ∃ q, k = q + 1 := ⟨k - 1, by omega⟩
    have hil : i < ps.length := by omega
    have hrd := rdP_nat ps i hil
    have ei : wrap64 ((i : Int) + 1) = ((i + 1 : Nat) : Int) := by rw [wz (by omega)]; omega
    rw [smear_window.l0, if_pos (by omega), if_pos (by omega), if_pos (by omega), show rd_T46 ps (i : Int) = ps[i] from hrd, ei, List.drop_eq_getElem_cons hil, WP, ih (i + 1) k (by omega) (by omega)]
    by_cases h1 : ps[i].f0 ≤ tai
    · rw [if_pos h1]
      by_cases h2 : tai < ps[i].f1
      · rw [if_pos h2, if_pos ⟨h1, h2⟩]
      · rw [if_neg h2, if_neg (fun g => h2 g.2)]
    · rw [if_neg h1, if_neg (fun g => h1 g.1)]
def winS (b x : Int) (l : List E) (K W tai : Int) : Int × Int × Int × Int × Bool := if chkS b x l K W = 0 then (if -8000000000000000000 ≤ tai ∧ tai ≤ 8000000000000000000 then WP tai (pts K W b l) else (0, 0, 0, 0, false)) else (0, 0, 0, 0, false)
theorem window_s (k : Nat) (hk : 300 ≤ k) (b x : Int) (l : List E) (K W tai : Int) : smear_window.f k b x l K W tai = some (winS b x l K W tai) := by
  unfold smear_window.f winS
  obtain ⟨k, rfl⟩ : ∃ q, k = q + 1 := ⟨k - 1, by omega⟩
  rw [check_s (k + 1) hk, Option.bind_some]
  by_cases h : chkS b x l K W = 0
  · have hp := chkS_0 b x l K W h
    have hl := pts_len K W l b
    have hl2 := hp.tab.len
    rw [if_pos h, if_pos h, time_f, Option.bind_some, smear_window.j0]
    by_cases ht : -8000000000000000000 ≤ tai ∧ tai ≤ 8000000000000000000
    · have h1 := window_l0 tai (pts K W b l) (by omega) (pts K W b l).length 0 k (by omega) (by omega)
      rw [List.drop_zero] at h1
      rw [decide_eq_true ht, if_neg (by decide), if_pos ht, parts_f k (by omega) b x l K W hp.win hp.tab.len hp.tab.all, Option.bind_some]
      exact h1
    · rw [decide_eq_false ht, if_pos (show (!false) = true from rfl), if_neg ht]
  · rw [if_neg h, if_neg h, smear_window.j0, if_pos rfl]
theorem active_s (k : Nat) (hk : 300 ≤ k) (b x : Int) (l : List E) (K W tai : Int) : smear_Active.f k b x l K W tai = some (winS b x l K W tai).2.2.2.2 := by
  unfold smear_Active.f
  rw [window_s k hk, Option.bind_some]
/-- The next entry's window begins long behind. -/
theorem Chain.gap {o p : Int} {e f : E} {r : List E} (K W : Int) (h : Chain o p (e :: f :: r)) : bgn K W e + 2419199000000000 ≤ bgn K W f := by
  obtain ⟨h1, h2, h3, h4, h5, h6, h7⟩ := h
  have h8 := beg_gap _ _ h1 h4 h5
  unfold bgn
  omega
theorem Chain.rest {o p : Int} {e : E} {r : List E} (h : Chain o p (e :: r)) : Chain e.f1 e.f0 r := h.2.2.2
/-- Behind a window that has not begun none has. -/
theorem Chain.later (K W t : Int) : ∀ (r : List E) (o p : Int) (e : E), Chain o p (e :: r) → t < bgn K W e → ∀ f ∈ e :: r, t < bgn K W f
  | [], _, _, e, _, ht => fun f hf => by
    rcases List.mem_cons.1 hf with rfl | hf
    · exact ht
    · cases hf
  | g :: r, o, p, e, h, ht => fun f hf => by
    rcases List.mem_cons.1 hf with rfl | hf
    · exact ht
    · have hg := h.gap K W
      exact Chain.later K W t r _ _ g h.rest (by omega) f hf
end Go.Proofs.Ytgklbjglmopjhaa.Sm
