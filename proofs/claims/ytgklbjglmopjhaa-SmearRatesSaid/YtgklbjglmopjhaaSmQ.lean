/- Smeared time: the reference's readings are the program's. No condition but the arguments' kinds. -/
import Derived.Test.YtgklbjglmopjhaaAll8
import Derived.Test.YtgklbjglmopjhaaAll12
import Derived.Test.YtgklbjglmopjhaaAll11
import Derived.Test.YtgklbjglmopjhaaAll10
import Derived.Test.YtgklbjglmopjhaaAll4
import Derived.Test.YtgklbjglmopjhaaSmC
namespace Go.Proofs.Ytgklbjglmopjhaa.Sm
open Go.RowKit Go.Proofs.Ytgklbjglmopjhaa.All Go.Proofs.Ytgklbjglmopjhaa.Civ Go.Proofs.Ytgklbjglmopjhaa.CivB Go.Proofs.YtgklbjglmopjhaaW.PrintWords Go.Proofs.YtgklbjglmopjhaaW.PrintLast

theorem rtime_f (a : Int) : timesyncref07_inside.f a = some (decide (-8000000000000000000 ≤ a ∧ a ≤ 8000000000000000000)) := time_f a
theorem begin_f (b K W : Int) (l : List E) (h : Pol b l K W) (e : E) (he : okE e = true) : timesyncref07_begin.f K W e.f0 e.f1 = some (bgn K W e) := by
  have hb := okE_bd he
  have hW := h.win
  unfold timesyncref07_begin.f bgn lead
  rw [wz (x := e.f0 + e.f1) (by omega), wz (x := (e.f0 + e.f1) * 1000000000) (by omega), Int.tdiv_eq_ediv_of_nonneg hW.1, wz (x := W / 2) (by omega), wz (x := W / 2 * 1000000000) (by omega), wz (x := W * 1000000000) (by omega)]
  have ev : K = 2 → W / 2 * 1000000000 = W * 1000000000 / 2 := by
    intro hK
    rcases h.kind with g | g <;> omega
  by_cases h2 : K = 2
  · rw [if_pos h2, if_pos h2, ev h2, wz (by omega)]
  · rw [if_neg h2, if_neg h2]
    by_cases h3 : K = 3
    · rw [if_pos h3, if_pos h3, wz (by omega)]
    · rw [if_neg h3, if_neg h3, Int.sub_zero]
/-- The number of the last entry whose window has begun. -/
def pl (K W tai : Int) : Nat → Nat → List E → Nat
  | n, _, [] => n
  | n, i, e :: r => pl K W tai (if bgn K W e ≤ tai then i + 1 else n) (i + 1) r
theorem pl_stay (K W tai : Int) : ∀ (r : List E) (n i : Nat), (∀ f ∈ r, tai < bgn K W f) → pl K W tai n i r = n
  | [], _, _, _ => rfl
  | e :: r, n, i, h => by
    have h1 := h e (List.mem_cons_self ..)
    rw [pl, if_neg (by omega)]
    exact pl_stay K W tai r n (i + 1) (fun f hf => h f (List.mem_cons_of_mem _ hf))
theorem pl_le (K W tai : Int) : ∀ (r : List E) (n i : Nat), n ≤ i → pl K W tai n i r ≤ i + r.length
  | [], n, i, h => by simpa [pl] using h
  | e :: r, n, i, h => by
    rw [pl]
    have h1 := pl_le K W tai r (if bgn K W e ≤ tai then i + 1 else n) (i + 1) (by split <;> omega)
    simp only [List.length_cons]
    omega
theorem place_l0 (b x K W tai : Int) (l : List E) (h : Pol b l K W) : ∀ (m i n k : Nat), i + m = l.length → m + 1 ≤ k → n ≤ i →
    timesyncref07_place.l0 k tai (n : Int) (i : Int) b x l K W = some ((pl K W tai n i (l.drop i) : Nat) : Int) := by
  have hl := h.tab.len
  intro m
  induction m with
  | zero =>
    intro i n k hi hk hn
    obtain ⟨k, rfl⟩ : ∃ q, k = q + 1 := ⟨k - 1, by omega⟩
    rw [timesyncref07_place.l0, if_neg (by omega), List.drop_eq_nil_of_le (by omega)]
    rfl
  | succ m ih =>
    intro i n k hi hk hn
    obtain ⟨k, rfl⟩ : ∃ q, k = q + 1 := ⟨k - 1, by omega⟩
    have hil : i < l.length := by omega
    have hrd := rdE_nat l i hil
    have ei : wrap64 ((i : Int) + 1) = ((i + 1 : Nat) : Int) := by rw [wz (by omega)]; omega
    rw [timesyncref07_place.l0, if_pos (by omega), if_pos (by omega), show rd_T40 l (i : Int) = l[i] from hrd, ei, begin_f b K W l h _ (all_get h.tab.all i hil), Option.bind_some, List.drop_eq_getElem_cons hil, pl, ih (i + 1) (i + 1) k (by omega) (by omega) (by omega), ih (i + 1) n k (by omega) (by omega) (by omega)]
    by_cases g : bgn K W l[i] ≤ tai
    · rw [if_pos g, if_pos g]
    · rw [if_neg g, if_neg g]
def bI (K W : Int) (l : List E) (n : Nat) : Int := bgn K W (rdE l ((n : Int) - 1))
theorem bI_succ (K W : Int) (l : List E) (i : Nat) (hi : i < l.length) : bI K W l (i + 1) = bgn K W l[i] := by
  unfold bI
  rw [show (((i + 1 : Nat) : Int) - 1) = (i : Int) by omega, rdE_nat l i hi]
theorem oldI_succ (b : Int) (l : List E) (i : Nat) (hi : i < l.length) : oldI b l (i + 1) = l[i].f1 := by
  unfold oldI
  rw [if_neg (by omega), show (((i + 1 : Nat) : Int) - 1) = (i : Int) by omega, rdE_nat l i hi]
theorem prvI_succ (l : List E) (i : Nat) (hi : i < l.length) : prvI l (i + 1) = l[i].f0 := by
  unfold prvI
  rw [if_neg (by omega), show (((i + 1 : Nat) : Int) - 1) = (i : Int) by omega, rdE_nat l i hi]
theorem chain_drop {b : Int} {l : List E} (h : Chain b (-9000000000) l) : ∀ i, i ≤ l.length → Chain (oldI b l i) (prvI l i) (l.drop i) := by
  intro i
  induction i with
  | zero => intro _; exact h
  | succ i ih =>
    intro hi
    have h1 := ih (by omega)
    rw [List.drop_eq_getElem_cons (show i < l.length by omega)] at h1
    rw [oldI_succ b l i (by omega), prvI_succ l i (by omega)]
    exact h1.rest
def RR (b K W tai : Int) (l : List E) (n : Nat) : Int := if n = 0 ∨ bI K W l n ≤ tai - W * 1000000000 then tai - oldI b l n * 1000000000 else tai - oldI b l (n - 1) * 1000000000 - (oldI b l n - oldI b l (n - 1)) * (tai - bI K W l n) / W
def WR (b K W tai : Int) (l : List E) (n : Nat) : Int × Int × Int × Int × Bool := if n = 0 ∨ bI K W l n ≤ tai - W * 1000000000 then (0, 0, 0, 0, false) else (bI K W l n, bI K W l n + W * 1000000000, oldI b l (n - 1), oldI b l n, true)
theorem WP_none (K W tai : Int) : ∀ (r : List E) (o : Int), (∀ f ∈ r, tai < bgn K W f) → WP tai (pts K W o r) = (0, 0, 0, 0, false)
  | [], _, _ => rfl
  | e :: r, o, h => by
    have h1 := h e (List.mem_cons_self ..)
    rw [pts, WP, if_neg (by dsimp only; omega)]
    exact WP_none K W tai r e.f1 (fun f hf => h f (List.mem_cons_of_mem _ hf))
theorem core (b K W tai : Int) (l : List E) (h : Pol b l K W) : ∀ (m i : Nat), i + m = l.length → (i = 0 ∨ bI K W l i ≤ tai - W * 1000000000) →
    RP tai (oldI b l i) W (pts K W (oldI b l i) (l.drop i)) = RR b K W tai l (pl K W tai i i (l.drop i)) ∧ WP tai (pts K W (oldI b l i) (l.drop i)) = WR b K W tai l (pl K W tai i i (l.drop i)) := by
  have hW := h.win
  intro m
  induction m with
  | zero =>
    intro i hi hp
    rw [List.drop_eq_nil_of_le (by omega)]
    refine ⟨?_, ?_⟩
    · unfold RR
      rw [show pl K W tai i i [] = i from rfl, if_pos hp]
      rfl
    · unfold WR
      rw [show pl K W tai i i [] = i from rfl, if_pos hp]
      rfl
  | succ m ih =>
    intro i hi hp
    have hil : i < l.length := by omega
    have hc := chain_drop h.tab.chain i (by omega)
    have e1 := oldI_succ b l i hil
    have e2 := bI_succ K W l i hil
    rw [List.drop_eq_getElem_cons hil] at hc ⊢
    have ih' := ih (i + 1) (by omega)
    rw [e1, e2] at ih'
    generalize hr : l.drop (i + 1) = r at *
    by_cases g1 : tai < bgn K W l[i]
    · have hl := hc.later K W tai r _ _ _ g1
      rw [pl_stay K W tai _ i i hl, WP_none K W tai _ _ hl]
      refine ⟨?_, ?_⟩
      · unfold RR
        rw [if_pos hp, pts, RP, if_pos g1]
      · unfold WR
        rw [if_pos hp]
    · have e3 : pl K W tai i i (l[i] :: r) = pl K W tai (i + 1) (i + 1) r := by rw [pl, if_pos (by omega)]
      rw [e3, pts, RP, WP, if_neg g1]
      dsimp only
      by_cases g2 : tai < bgn K W l[i] + W * 1000000000
      · have hl : ∀ f ∈ r, tai < bgn K W f := by
          cases r with
          | nil => exact fun f hf => by cases hf
          | cons f r' =>
            have hg := hc.gap K W
            exact hc.rest.later K W tai r' _ _ _ (by omega)
        rw [pl_stay K W tai r (i + 1) (i + 1) hl, if_pos g2, if_pos ⟨by omega, g2⟩]
        refine ⟨?_, ?_⟩
        · unfold RR
          rw [if_neg (by rw [e2]; omega), e1, e2]
          rfl
        · unfold WR
          rw [if_neg (by rw [e2]; omega), e1, e2]
          rfl
      · rw [if_neg g2, if_neg (fun g => g2 g.2)]
        exact ih' (.inr (by omega))
theorem core0 (b K W tai : Int) (l : List E) (h : Pol b l K W) : RP tai b W (pts K W b l) = RR b K W tai l (pl K W tai 0 0 l) ∧ WP tai (pts K W b l) = WR b K W tai l (pl K W tai 0 0 l) := by
  have h1 := core b K W tai l h l.length 0 (by omega) (.inl rfl)
  rw [List.drop_zero] at h1
  exact h1
theorem place_f (k : Nat) (hk : 100 ≤ k) (b x K W tai : Int) (l : List E) (h : Pol b l K W) : timesyncref07_place.f k b x l K W tai = some ((pl K W tai 0 0 l : Nat) : Int) := by
  have hl := h.tab.len
  have h1 := place_l0 b x K W tai l h l.length 0 0 k (by omega) (by omega) (by omega)
  rw [List.drop_zero] at h1
  exact h1
theorem gone_f (b x K W tai : Int) (l : List E) (h : Pol b l K W) (ht : -8000000000000000000 ≤ tai ∧ tai ≤ 8000000000000000000) (n : Nat) (hn : n ≤ l.length) : timesyncref07_gone.f b x l K W (n : Int) tai = some (if n = 0 ∨ bI K W l n ≤ tai - W * 1000000000 then (0, false) else (wrap64 (tai - bI K W l n), true)) := by
  have hl := h.tab.len
  have hW := h.win
  unfold timesyncref07_gone.f
  by_cases h0 : n = 0
  · rw [if_pos (by omega), if_pos (.inl h0)]
  · rw [if_neg (by omega), wz (x := (n : Int) - 1) (by omega), if_pos (by omega), if_pos (by omega)]
    have hrd : rdE l ((n : Int) - 1) = l[n - 1] := by rw [show ((n : Int) - 1) = ((n - 1 : Nat) : Int) by omega, rdE_nat l (n - 1) (by omega)]
    have hb := begin_f b K W l h _ (all_get h.tab.all (n - 1) (by omega))
    rw [← hrd] at hb
    rw [hb, Option.bind_some, wz (x := W * 1000000000) (by omega), wz (x := tai - W * 1000000000) (by omega)]
    show (if bI K W l n ≤ tai - W * 1000000000 then _ else some (wrap64 (tai - bI K W l n), true)) = _
    by_cases g : bI K W l n ≤ tai - W * 1000000000
    · rw [if_pos g, if_pos (.inr g)]
    · rw [if_neg g, if_neg (by omega)]
theorem offset_f (b x : Int) (l : List E) (n : Nat) (hn : n ≤ l.length) (hl : l.length ≤ 64) : timesyncref07_offset.f b x l (n : Int) = some (oldI b l n) := by
  unfold timesyncref07_offset.f oldI
  by_cases h : n = 0
  · subst h
    rw [if_pos rfl, if_pos (by rfl)]
  · rw [if_neg (by omega), if_neg h, wz (by omega), if_pos (by omega), if_pos (by omega)]
theorem rfloor_f (a b : Int) (hb : 0 < b ∧ b ≤ 172800) (h : -4000000000000000000 ≤ a ∧ a ≤ 4000000000000000000) : timesyncref01_Floor.f a b = some (a / b, true) := by
  unfold timesyncref01_Floor.f timesyncref01_MulDiv.f
  rw [if_pos (by omega)]
  rfl
/-- How an entry's offset differs from the one before. -/
theorem step_of (b : Int) (l : List E) (hc : Chain b (-9000000000) l) (n : Nat) (hn : n ≤ l.length) (h0 : n ≠ 0) : oldI b l n - oldI b l (n - 1) = 1 ∨ oldI b l n - oldI b l (n - 1) = -1 := by
  obtain ⟨i, rfl⟩ : ∃ i, n = i + 1 := ⟨n - 1, by omega⟩
  have h1 := chain_drop hc i (by omega)
  rw [List.drop_eq_getElem_cons (show i < l.length by omega)] at h1
  rw [oldI_succ b l i (by omega), show i + 1 - 1 = i by omega]
  exact h1.2.2.1
/-- The last entry whose window has begun has begun. -/
theorem pl_bgn (K W tai : Int) (l : List E) : ∀ (m i n : Nat), i + m = l.length → n ≤ i → (n = 0 ∨ bI K W l n ≤ tai) → pl K W tai n i (l.drop i) = 0 ∨ bI K W l (pl K W tai n i (l.drop i)) ≤ tai := by
  intro m
  induction m with
  | zero =>
    intro i n hi hn h
    rw [List.drop_eq_nil_of_le (by omega)]
    exact h
  | succ m ih =>
    intro i n hi hn h
    rw [List.drop_eq_getElem_cons (show i < l.length by omega), pl]
    by_cases g : bgn K W l[i] ≤ tai
    · rw [if_pos g]
      exact ih (i + 1) (i + 1) (by omega) (by omega) (.inr (by rw [bI_succ K W l i (by omega)]; exact g))
    · rw [if_neg g]
      exact ih (i + 1) n (by omega) (by omega) h
theorem rread_f (k : Nat) (hk : 100 ≤ k) (b x K W tai : Int) (l : List E) (h : Pol b l K W) (ht : -8000000000000000000 ≤ tai ∧ tai ≤ 8000000000000000000) : timesyncref07_read.f k b x l K W tai = some (RP tai b W (pts K W b l)) := by
  have hl := h.tab.len
  have hW := h.win
  have hn := pl_le K W tai l 0 0 (by omega)
  have hbg := pl_bgn K W tai l l.length 0 0 (by omega) (by omega) (.inl rfl)
  rw [List.drop_zero] at hbg
  rw [(core0 b K W tai l h).1]
  unfold timesyncref07_read.f
  rw [place_f k hk b x K W tai l h, Option.bind_some]
  generalize pl K W tai 0 0 l = n at *
  have hob := oldI_bd b l h.tab.base h.tab.all n (by omega)
  rw [gone_f b x K W tai l h ht n (by omega), Option.bind_some, offset_f b x l n (by omega) hl, Option.bind_some, Option.bind_some]
  unfold RR
  by_cases g : n = 0 ∨ bI K W l n ≤ tai - W * 1000000000
  · rw [if_pos g, if_pos g]
    dsimp only
    rw [if_neg (show ¬ false = true by decide), wz (x := oldI b l n * 1000000000) (by omega), wz (by omega)]
  · have h0 : n ≠ 0 := fun e => g (.inl e)
    have hs := step_of b l h.tab.chain n (by omega) h0
    have hob2 := oldI_bd b l h.tab.base h.tab.all (n - 1) (by omega)
    have hbl : bI K W l n ≤ tai := by rcases hbg with e | e <;> omega
    have hbu : tai - W * 1000000000 < bI K W l n := by omega
    rw [if_neg g, if_neg g]
    dsimp only
    rw [if_pos rfl, wz (x := (n : Int) - 1) (by omega), show ((n : Int) - 1) = ((n - 1 : Nat) : Int) by omega, offset_f b x l (n - 1) (by omega) hl, Option.bind_some]
    have hprod : -200000000000000 ≤ (oldI b l n - oldI b l (n - 1)) * (tai - bI K W l n) ∧ (oldI b l n - oldI b l (n - 1)) * (tai - bI K W l n) ≤ 200000000000000 := by
      rcases hs with e | e <;> rw [e] <;> omega
    have hq := ediv_bd ((oldI b l n - oldI b l (n - 1)) * (tai - bI K W l n)) W 200000000000000 (by omega) hprod (by omega)
    rw [wz (x := oldI b l n - oldI b l (n - 1)) (by omega), wz (x := tai - bI K W l n) (by omega), wz (x := (oldI b l n - oldI b l (n - 1)) * (tai - bI K W l n)) (by omega), rfloor_f _ _ (by omega) (by omega), Option.bind_some, Option.bind_some, wz (x := oldI b l (n - 1) * 1000000000) (by omega), wz (x := tai - oldI b l (n - 1) * 1000000000) (by omega)]
    dsimp only
    rw [wz (by omega)]
theorem rread_s (k : Nat) (hk : 2302 ≤ k) (b x : Int) (l : List E) (K W tai : Int) : timesyncref07_Read.f k b x l K W tai = some (readS b x l K W tai) := by
  unfold timesyncref07_Read.f readS
  rw [rcheck_s k hk, Option.bind_some]
  by_cases h : chkS b x l K W = 0
  · have hp := chkS_0 b x l K W h
    rw [if_pos h, if_pos h, rtime_f, Option.bind_some]
    by_cases ht : -8000000000000000000 ≤ tai ∧ tai ≤ 8000000000000000000
    · rw [decide_eq_true ht, if_pos rfl, if_pos ht, rread_f k (by omega) b x K W tai l hp ht, Option.bind_some, rtime_f, Option.bind_some, Option.bind_some]
      by_cases h2 : -8000000000000000000 ≤ RP tai b W (pts K W b l) ∧ RP tai b W (pts K W b l) ≤ 8000000000000000000
      · rw [decide_eq_true h2, if_pos rfl, if_pos h2]
      · rw [decide_eq_false h2, if_neg (by decide), if_neg h2]
    · rw [decide_eq_false ht, if_neg (by decide), if_neg ht]
  · rw [if_neg h, if_neg h]
end Go.Proofs.Ytgklbjglmopjhaa.Sm
