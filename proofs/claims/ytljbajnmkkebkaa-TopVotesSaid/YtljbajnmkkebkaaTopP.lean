import Derived.Test.YtljbajnmkkebkaaAll12
/- The plain part of TopVotes. No condition but what is said. -/
import Derived.Test.YtljbajnmkkebkaaOff
import Derived.Test.YtljbajnmkkebkaaVs
namespace Go.Proofs.Ytljbajnmkkebkaa.Off
open Go.RowKit Go.Proofs.Ytljbajnmkkebkaa.All Go.Proofs.Ytljbajnmkkebkaa.Civ Go.Proofs.Ytljbajnmkkebkaa.CivB Go.Proofs.Ytljbajnmkkebkaa.Ext Go.Proofs.Ytljbajnmkkebkaa.Vo Go.Proofs.YtljbajnmkkebkaaW.PrintWords Go.Proofs.YtljbajnmkkebkaaW.PrintLast
set_option linter.unusedSimpArgs false
set_option linter.unusedVariables false

/-- The next month's first second is the least one behind. -/
theorem next_min (u t : Int) (h : -8000000000 ≤ u ∧ u ≤ 8000000000) (hm : leap_month.f u 1 = some (t, true)) (s : Int) (hs : beg s = true) (hu : u < s) : t ≤ s := by
  have hd := of_date (u / 86400)
  have hy := year_in (u / 86400) (by omega)
  have hy2 := year_lt (u / 86400) (by omega)
  have hdn := of_dn (u / 86400)
  unfold dn at hdn
  have m1 := hd.m1
  have m2 := hd.m2
  have d1 := hd.d1
  rw [beg_iff] at hs
  have ds := of_date (s / 86400)
  have e2 := mi_of (oy (s / 86400)) (om (s / 86400)) ds.m1 ds.m2
  have e1 := mi_of (oy (u / 86400)) (om (u / 86400)) m1 m2
  rw [← e2] at hs
  have hle : mi (12 * oy (u / 86400) + (om (u / 86400) - 1)) * 86400 ≤ u := by rw [e1]; omega
  have hj : 12 * oy (u / 86400) + (om (u / 86400) - 1) + 1 ≤ 12 * oy (s / 86400) + (om (s / 86400) - 1) := by
    by_cases g : 12 * oy (u / 86400) + (om (u / 86400) - 1) + 1 ≤ 12 * oy (s / 86400) + (om (s / 86400) - 1)
    · exact g
    · have h1 := mi_mono (i := 12 * oy (s / 86400) + (om (s / 86400) - 1)) (j := 12 * oy (u / 86400) + (om (u / 86400) - 1)) (by omega)
      omega
  have h2 := mi_mono hj
  have hmi : mi (12 * oy (u / 86400) + (om (u / 86400) - 1) + 1) * 86400 ≤ s := by omega
  clear h2 hj e1 e2 hs
  have fin : ∀ (y m : Int), (1600 ≤ y ∧ y ≤ 2200) → (1 ≤ m ∧ m ≤ 12) → ms y m * 86400 ≤ s → ((civil_Seconds.f y m 1 0 0 0 0).bind fun bt => (some (bt.1, (bt.2 == 0)))) = some (t, true) → t ≤ s := by
    intro y m hy hm e hq
    rw [first_f y m hy hm, Option.bind_some] at hq
    by_cases g1 : ms y m * 86400 < -8000000000
    · rw [if_pos g1] at hq
      simp at hq
    · rw [if_neg g1] at hq
      by_cases g2 : ms y m * 86400 > 8000000000
      · rw [if_pos g2] at hq
        simp at hq
      · rw [if_neg g2] at hq
        simp only [Option.some.injEq, Prod.mk.injEq] at hq
        omega
  unfold leap_month.f at hm
  rw [of_f, Option.bind_some, res_in u h] at hm
  dsimp only at hm
  rw [if_pos rfl, wz (x := om (u / 86400) + 1) (by omega)] at hm
  by_cases g : om (u / 86400) + 1 > 12
  · rw [if_pos g, wz (x := oy (u / 86400) + 1) (by omega)] at hm
    have e := mi_of (oy (u / 86400) + 1) 1 (by omega) (by omega)
    rw [show 12 * (oy (u / 86400) + 1) + (1 - 1) = 12 * oy (u / 86400) + (om (u / 86400) - 1) + 1 by omega] at e
    exact fin _ 1 (by omega) (by omega) (by rw [← e]; exact hmi) hm
  · rw [if_neg g] at hm
    have e := mi_of (oy (u / 86400)) (om (u / 86400) + 1) (by omega) (by omega)
    rw [show 12 * oy (u / 86400) + (om (u / 86400) + 1 - 1) = 12 * oy (u / 86400) + (om (u / 86400) - 1) + 1 by omega] at e
    exact fin _ _ hy (by omega) (by rw [← e]; exact hmi) hm
/-- The month behind the second before a month's first second. -/
theorem next_before (t : Int) (h : mb t = true) (h0 : -7999999999 ≤ t) (h1 : t ≤ 7980000000) : leap_month.f (t - 1) 1 = some (t, true) := by
  have ht := (mb_in h).1
  obtain ⟨t', ok, hm, hok, hl⟩ := next_spec (t - 1) (by omega)
  obtain rfl := hl (by omega)
  obtain ⟨a1, a2, a3⟩ := hok rfl
  have b1 := next_min (t - 1) t' (by omega) hm t (mb_in h).2 (by omega)
  have e : t' = t := by omega
  rw [hm, e]
theorem extErr {b x t c : Int} {l : List E} (h : chk b x l = 0) (h1 : mb t = true) (hc : c = 1 ∨ c = -1) : timesynctop_extendError.f b x l t c = some (extS b x l t c).2.2.2 := by
  obtain ⟨ho, hl, hx, hb, ha, hs⟩ := oldI_ok h
  have ht := (mb_in h1).1
  unfold timesynctop_extendError.f timesynctop_extendError.v
  rw [if_pos (by omega)]
  unfold extS finS
  rw [if_pos h, if_pos h1, if_pos hc]
  have rest : ∀ o : Int, -1000 ≤ o ∧ o ≤ 1000 → timesynctop_extendError.rest (wrap64 (o + c)) l.length = (if -1000 ≤ o + c ∧ o + c ≤ 1000 then (if l.length < 64 then (b, mx x (t + 1), l ++ [(⟨t, o + c⟩ : E)], (0 : Int)) else (0, 0, [], 6)) else (0, 0, [], 3)).2.2.2 := by
    intro o ho
    unfold timesynctop_extendError.rest
    rw [wz (x := o + c) (by omega)]
    by_cases g1 : o + c < -1000
    · rw [if_pos g1, if_neg (by omega)]
    · rw [if_neg g1]
      by_cases g2 : 1000 < o + c
      · rw [if_pos g2, if_neg (by omega)]
      · rw [if_neg g2, if_pos (show -1000 ≤ o + c ∧ o + c ≤ 1000 by omega)]
        by_cases g3 : l.length < 64
        · rw [if_pos g3, if_neg (by omega)]
        · rw [if_neg g3, if_pos (by omega)]
  by_cases h2 : l.length = 0
  · have e1 : prvI l l.length = -9000000000 := by unfold prvI; rw [if_pos h2]
    have e2 : oldI b l l.length = b := by unfold oldI; rw [if_pos h2]
    rw [if_pos (by omega), if_neg (by omega), e2, rest b hb]
  · have e1 : prvI l l.length = (rdE l ((l.length : Int) - 1)).f0 := by unfold prvI; rw [if_neg h2]
    have e2 : oldI b l l.length = (rdE l ((l.length : Int) - 1)).f1 := by unfold oldI; rw [if_neg h2]
    rw [if_neg (by omega), e1]
    by_cases h3 : t ≤ (rdE l ((l.length : Int) - 1)).f0
    · rw [if_pos h3, if_pos h3]
    · rw [if_neg h3, if_neg h3, ← e2, rest _ ho]
theorem Chain.last_le {o p : Int} {l : List E} (h : Chain o p l) : ∀ e ∈ l, e.f0 ≤ lastP p l := by
  have key : ∀ (r : List E) (o p : Int), Chain o p r → p ≤ lastP p r := by
    intro r
    induction r with
    | nil => intro o p _; exact Int.le_refl _
    | cons f q ih => intro o p hc; have := ih _ _ hc.2.2.2; have := hc.2.1; show p ≤ lastP f.f0 q; omega
  induction l generalizing o p with
  | nil => intro e he; cases he
  | cons f q ih =>
    intro e he
    rcases List.mem_cons.1 he with rfl | he
    · exact key q _ _ h.2.2.2
    · exact ih h.2.2.2 e he
theorem DL_late (u t o2 : Int) : ∀ (l : List E) (o p : Int), Chain o p l → lastP p l ≤ u → DL u o (l ++ [⟨t, o2⟩]) = (if t ≤ u then 0 else if t = u + 1 then o2 - lastO o l else 0)
  | [], o, _, _, _ => rfl
  | e :: r, o, p, h, hu => by
    have h1 := h.last_le e (List.mem_cons_self ..)
    have h2 : lastP e.f0 r ≤ u := hu
    rw [List.cons_append, DL, if_pos (by omega), DL_late u t o2 r _ _ h.2.2.2 h2, lastO]
/-- The indicator ahead of the last entry. -/
theorem ind_l0 (b x t o2 : Int) (l : List E) (hl : l.length ≤ 63) (hne : ∀ e ∈ l, e.f0 ≠ t) : ∀ (m i k : Nat), i + m = l.length → 2 * m + 3 ≤ k → leap_Indicator.l0 k t true (l ++ [⟨t, o2⟩]) (((l ++ [(⟨t, o2⟩ : E)]).length : Nat) : Int) (i : Int) b x (l ++ [⟨t, o2⟩]) = some (if o2 > oldI b l l.length then 1 else 2)
  | 0, i, k, hm, hk => by
    obtain ⟨q, rfl⟩ : ∃ q, k = q + 2 := ⟨k - 2, by omega⟩
    have hi : i = l.length := by omega
    subst hi
    have hrd := rdE_nat (l ++ [(⟨t, o2⟩ : E)]) l.length (by simp)
    have hx : (l ++ [(⟨t, o2⟩ : E)])[l.length]'(by simp) = ⟨t, o2⟩ := by simp
    rw [hx] at hrd
    have ho : oldI b (l ++ [(⟨t, o2⟩ : E)]) l.length = oldI b l l.length := by
      unfold oldI
      by_cases g : l.length = 0
      · rw [if_pos g, if_pos g]
      · rw [if_neg g, if_neg g, show ((l.length : Int) - 1) = ((l.length - 1 : Nat) : Int) by omega, rdE_nat _ (l.length - 1) (by simp; omega), rdE_nat _ (l.length - 1) (by omega), List.getElem_append_left (by omega)]
    rw [leap_Indicator.l0, if_pos (by simp; omega), if_pos (by omega), if_pos (by simp; omega), if_pos rfl, show rd_T44 (l ++ [(⟨t, o2⟩ : E)]) (l.length : Int) = ⟨t, o2⟩ from hrd, leap_Indicator.j1, if_pos (by simp), old_f b x _ l.length (by simp) (by simp; omega), Option.bind_some, ho]
    by_cases g : o2 > oldI b l l.length
    · rw [if_pos g, if_pos g]
    · rw [if_neg g, if_neg g]
  | m + 1, i, k, hm, hk => by
    obtain ⟨q, rfl⟩ : ∃ q, k = q + 2 := ⟨k - 2, by omega⟩
    have hil : i < l.length := by omega
    have hrd := rdE_nat (l ++ [(⟨t, o2⟩ : E)]) i (by simp; omega)
    rw [List.getElem_append_left hil] at hrd
    have hn := hne l[i] (List.getElem_mem hil)
    rw [leap_Indicator.l0, if_pos (by simp; omega), if_pos (by omega), if_pos (by simp; omega), if_pos rfl, show rd_T44 (l ++ [(⟨t, o2⟩ : E)]) (i : Int) = l[i] from hrd, leap_Indicator.j1, if_neg (by simpa using hn), wz (by omega), show ((i : Int) + 1) = ((i + 1 : Nat) : Int) by omega]
    exact ind_l0 b x t o2 l hl hne m (i + 1) q (by omega) (by omega)
theorem indicator_f (k : Nat) (hk : 400 ≤ k) (b x t o2 : Int) (l : List E) (hc : chk b x (l ++ [⟨t, o2⟩]) = 0) (hx : t ≤ x) (hl : l.length ≤ 63) (hne : ∀ e ∈ l, e.f0 ≠ t) (hm : leap_month.f (t - 1) 1 = some (t, true)) : leap_Indicator.f k b x (l ++ [⟨t, o2⟩]) (t - 1) = some (if o2 > oldI b l l.length then 1 else 2) := by
  unfold leap_Indicator.f
  rw [leap_check k (by omega), Option.bind_some, hc, if_pos rfl, if_neg (by omega), hm, Option.bind_some]
  exact ind_l0 b x t o2 l hl hne l.length 0 k (by omega) (by omega)
theorem of_mb {t : Int} (h : mb t = true) : civil_Of.f t = some (oy (t / 86400), om (t / 86400), 1, 0, 0, 0, 0, 0) := by
  obtain ⟨h1, h2⟩ := mb_in h
  have e1 : t % 86400 = 0 := (of_decide_eq_true h2).1
  have e2 : od (t / 86400) = 1 := (of_decide_eq_true h2).2
  rw [of_f, res_in t h1, e2, e1]
  rfl
theorem last_gap {t : Int} (ht : beg t = true) : ∀ (l : List E) (o p : Int), Chain o p l → p ≤ t - 2 → lastP p l < t → lastP p l ≤ t - 2
  | [], _, _, _, hp, _ => hp
  | e :: r, o, p, h, hp, hl => by
    have h1 := h.last_le e (List.mem_cons_self ..)
    have h2 := beg_gap e.f0 t h.1 ht (by omega)
    exact last_gap ht r _ _ h.2.2.2 (by omega) hl
theorem tai_at {b t o2 : Int} {l : List E} (hc : Chain b (-9000000000) l) (hl : lastP (-9000000000) l < t) : taiS t false b (l ++ [⟨t, o2⟩]) = (t + o2, 0) := by
  unfold taiS
  rw [DL_late t t o2 l b _ hc (by omega), OL_snoc_at t o2 l b _ hc hl, if_pos (Int.le_refl t)]
  rfl
theorem tai_before {b t o2 : Int} {l : List E} (hc : Chain b (-9000000000) l) (hl : lastP (-9000000000) l < t) (ht : beg t = true) (h0 : -7999999999 ≤ t) : taiS (t - 2) false b (l ++ [⟨t, o2⟩]) = (t - 2 + lastO b l, 0) := by
  have hg := last_gap ht l b _ hc (by omega) hl
  unfold taiS
  rw [DL_late (t - 2) t o2 l b _ hc hg, OL_snoc_lt (t - 2) t o2 (by omega), OL_late (t - 2) l b _ hc hg, if_neg (by omega : ¬ t ≤ t - 2), if_neg (by omega : ¬ t = t - 2 + 1)]
  rfl
/-- TopVotes' search for the majority. -/
def wantN (X : Nat → Int) (m : Nat) : Nat → Int
  | 0 => 3
  | k + 1 => if (m : Int) < 2 * num X (k : Int) m then (k : Int) else wantN X m k
theorem want_dec (X : Nat → Int) (m : Nat) : wantN X m 3 = dec m (num X 0 m) (num X 1 m) (num X 2 m) := by
  have hs := num_sum X m
  have h0 := (num_bd X 0 m).1
  have h1 := (num_bd X 1 m).1
  have h2 := (num_bd X 2 m).1
  show (if (m : Int) < 2 * num X 2 m then (2 : Int) else if (m : Int) < 2 * num X 1 m then 1 else if (m : Int) < 2 * num X 0 m then 0 else 3) = _
  unfold dec
  by_cases g2 : (m : Int) < 2 * num X 2 m
  · rw [if_pos g2, if_neg (by omega), if_neg (by omega), if_pos (by omega)]
  · rw [if_neg g2]
    by_cases g1 : (m : Int) < 2 * num X 1 m
    · rw [if_pos g1, if_neg (by omega), if_pos (by omega)]
    · rw [if_neg g1]
      by_cases g0 : (m : Int) < 2 * num X 0 m
      · rw [if_pos g0, if_pos (by omega)]
      · rw [if_neg g0, if_neg (by omega), if_neg (by omega), if_neg (by omega)]
end Go.Proofs.Ytljbajnmkkebkaa.Off
