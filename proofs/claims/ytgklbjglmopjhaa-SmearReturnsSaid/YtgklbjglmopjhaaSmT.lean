/- The instant of a reading: the search and the pass over the steps, in plain words. No condition but the arguments' kinds. -/
import Derived.Test.YtgklbjglmopjhaaAll8
import Derived.Test.YtgklbjglmopjhaaAll9
import Derived.Test.YtgklbjglmopjhaaSmM
namespace Go.Proofs.Ytgklbjglmopjhaa.Sm
open Go.RowKit Go.Proofs.Ytgklbjglmopjhaa.All Go.Proofs.Ytgklbjglmopjhaa.Civ Go.Proofs.Ytgklbjglmopjhaa.CivB Go.Proofs.YtgklbjglmopjhaaW.PrintWords Go.Proofs.YtgklbjglmopjhaaW.PrintLast

def oldP (b : Int) (ps : List P) (i : Nat) : Int := if h : i - 1 < ps.length ∧ i ≠ 0 then ps[i - 1].f3 else b
theorem oldP_zero (b : Int) (ps : List P) : oldP b ps 0 = b := by
  unfold oldP
  rw [dif_neg (by simp)]
theorem oldP_succ (b : Int) (ps : List P) (i : Nat) (hi : i < ps.length) : oldP b ps (i + 1) = ps[i].f3 := by
  unfold oldP
  rw [dif_pos ⟨by simpa using hi, by omega⟩]
  simp
/-- The windows that are passed count no more. -/
theorem RP_pass (b n : Int) (ps : List P) (hp : ∀ q ∈ ps, okP 0 q) : ∀ i, i ≤ ps.length → (∀ j, (hj : j < ps.length) → j < i → ps[j].f0 ≤ n) → RP n b 0 ps = RP n (oldP b ps i) 0 (ps.drop i) := by
  intro i
  induction i with
  | zero =>
    intro _ _
    rw [oldP_zero, List.drop_zero]
  | succ i ih =>
    intro hi h
    have hil : i < ps.length := by omega
    have h0 := h i hil (by omega)
    have hq := (hp ps[i] (List.getElem_mem hil)).2.1
    rw [ih (by omega) (fun j hj hji => h j hj (by omega)), List.drop_eq_getElem_cons hil, RP, if_neg (by omega), if_neg (by omega), oldP_succ b ps i hil]
set_option maxHeartbeats 1600000 in
theorem lp_ok (b u tai : Int) (ps : List P) (hp : ∀ q ∈ ps, okP 0 q) (hl : ps.length ≤ 64) (hb : -1000 ≤ b ∧ b ≤ 1000) (hb3 : ∀ q ∈ ps, -1001 ≤ q.f3 ∧ q.f3 ≤ 1001) (ht : -8000000000000000000 ≤ tai ∧ tai ≤ 8000000000000000000) (hu : -8000000000000000000 ≤ u ∧ u ≤ 8000000000000000000) (hr : RP tai b 0 ps = u) :
    ∀ (m i k : Nat) (g : Int), i + m = ps.length → m + 1 ≤ k → (∀ j, (hj : j < ps.length) → j < i → ps[j].f0 ≤ g) → -8000000000000000000 ≤ g → g ≤ tai →
    ∃ n, smear_stepped.lp ps u k g (oldP b ps i) (i : Int) = some (n, 0) ∧ n ≤ tai ∧ -8000000000000000000 ≤ n ∧ RP n b 0 ps = u := by
  intro m
  induction m with
  | zero =>
    intro i k g hi hk hj hg0 hg1
    obtain ⟨k, rfl⟩ : ∃ q, k = q + 1 := ⟨k - 1, by omega⟩
    have h1 := RP_pass b tai ps hp i (by omega) (fun j h h2 => Int.le_trans (hj j h h2) hg1)
    rw [hr, List.drop_eq_nil_of_le (by omega)] at h1
    have h2 : u = tai - oldP b ps i * 1000000000 := h1
    have ho : -1001 ≤ oldP b ps i ∧ oldP b ps i ≤ 1001 := by
      unfold oldP
      split
      · rename_i h; exact hb3 _ (List.getElem_mem h.1)
      · omega
    generalize oldP b ps i = o at *
    have c1 : ¬ (i : Int) < (ps.length : Int) := by omega
    have c2 : (i : Int) = (ps.length : Int) := by omega
    rw [smear_stepped.lp, if_neg c1, if_pos c2, wz (x := o * 1000000000) (by omega), wz (x := u + o * 1000000000) (by omega), show u + o * 1000000000 = tai by omega, if_pos (by omega), if_pos (by omega), wz (x := tai - o * 1000000000) (by omega), ← h2, time_f, Option.bind_some, decide_eq_true hu, if_pos rfl]
    exact ⟨tai, rfl, by omega, by omega, hr⟩
  | succ m ih =>
    intro i k g hi hk hj hg0 hg1
    obtain ⟨k, rfl⟩ : ∃ q, k = q + 1 := ⟨k - 1, by omega⟩
    have hil : i < ps.length := by omega
    have hi2 : i + 1 + m = ps.length := by omega
    have hk2 : m + 1 ≤ k := by omega
    have h1 := RP_pass b tai ps hp i (by omega) (fun j h h2 => Int.le_trans (hj j h h2) hg1)
    rw [hr, List.drop_eq_getElem_cons hil, RP] at h1
    have h1a : tai < ps[i].f0 → u = tai - oldP b ps i * 1000000000 := fun g => by rw [if_pos g] at h1; exact h1
    clear h1
    have ho : -1001 ≤ oldP b ps i ∧ oldP b ps i ≤ 1001 := by
      unfold oldP
      split
      · rename_i h; exact hb3 _ (List.getElem_mem h.1)
      · omega
    have ei : wrap64 ((i : Int) + 1) = ((i + 1 : Nat) : Int) := by rw [wz (by omega)]; omega
    have eo := oldP_succ b ps i hil
    have hq := hp ps[i] (List.getElem_mem hil)
    have hrd := rdP_nat ps i hil
    have c1 : (i : Int) < (ps.length : Int) := by omega
    have hE : mn ps[i].f0 8000000000000000001 = (if 8000000000000000001 < ps[i].f0 then 8000000000000000001 else ps[i].f0) := rfl
    have hM : ∀ E : Int, mx g E = (if g < E then E else g) := fun _ => rfl
    have nextok : ¬ tai < ps[i].f0 → ∃ n, smear_stepped.lp ps u k (mx g (mn ps[i].f0 8000000000000000001)) ps[i].f3 ((i + 1 : Nat) : Int) = some (n, 0) ∧ n ≤ tai ∧ -8000000000000000000 ≤ n ∧ RP n b 0 ps = u := by
      intro hn
      rw [← eo]
      have hge : mx g (mn ps[i].f0 8000000000000000001) = (if g < ps[i].f0 then ps[i].f0 else g) := by rw [hM, hE, if_neg (show ¬ (8000000000000000001 < ps[i].f0) by omega)]
      have hG : g ≤ mx g (mn ps[i].f0 8000000000000000001) ∧ ps[i].f0 ≤ mx g (mn ps[i].f0 8000000000000000001) ∧ mx g (mn ps[i].f0 8000000000000000001) ≤ tai := by
        rw [hge]
        clear ih hj hq hr hp hb3 h1a hE hM hge eo ei hrd
        generalize ps[i].f0 = z at *
        by_cases c : g < z
        · rw [if_pos c]; omega
        · rw [if_neg c]; omega
      refine ih (i + 1) k _ hi2 hk2 (fun j h h2 => ?_) (Int.le_trans hg0 hG.1) hG.2.2
      by_cases e : j = i
      · subst e
        exact hG.2.1
      · exact Int.le_trans (hj j h (Nat.lt_of_le_of_ne (Nat.le_of_lt_succ h2) e)) hG.1
    rw [smear_stepped.lp, if_pos c1, show rd_T46 ps (i : Int) = ps[i] from hrd, ei]
    generalize hoo : oldP b ps i = o at ho h1a
    have w1 : wrap64 (o * 1000000000) = o * 1000000000 := wz (by omega)
    have w2 : wrap64 (u + o * 1000000000) = u + o * 1000000000 := wz (by omega)
    have w3 : wrap64 (u + o * 1000000000 - o * 1000000000) = u := by rw [Int.add_sub_cancel]; exact wz (by omega)
    rw [w1, w2, w3, time_f, Option.bind_some, decide_eq_true hu, if_pos rfl]
    by_cases ht2 : tai < ps[i].f0
    · have h1 := h1a ht2
      have e : u + o * 1000000000 = tai := by omega
      rw [e, if_pos (by omega), if_pos (by rw [hE]; split <;> omega)]
      exact ⟨tai, rfl, by omega, by omega, hr⟩
    · by_cases g1 : u + o * 1000000000 ≥ g
      · rw [if_pos g1]
        by_cases g2 : u + o * 1000000000 < mn ps[i].f0 8000000000000000001
        · rw [if_pos g2]
          rw [hE, if_neg (by omega)] at g2
          refine ⟨_, rfl, by omega, by omega, ?_⟩
          rw [RP_pass b (u + o * 1000000000) ps hp i (by omega) (fun j h h2 => Int.le_trans (hj j h h2) g1), hoo, List.drop_eq_getElem_cons hil, RP, if_pos g2]
          omega
        · rw [if_neg g2]
          exact nextok ht2
      · rw [if_neg g1]
        exact nextok ht2
set_option maxHeartbeats 800000 in
/-- The search: the least instant with a reading of at least u. -/
theorem s0_ok (b x K W u : Int) (l : List E) (h : Pol b l K W) (hW : 2 ≤ W ∧ W ≤ 172800) : ∀ (m k : Nat) (i j : Int), j - i ≤ (2 : Int) ^ m → m + 200 ≤ k → -8000000000000000000 ≤ i → i ≤ j → j ≤ 8000000000000000001 →
    ∃ n, smear_Tai.s0 k b x l K W (pts K W b l) u i j = some n ∧ i ≤ n ∧ n ≤ j ∧ (n = i ∨ RP (n - 1) b W (pts K W b l) < u) ∧ (n = j ∨ u ≤ RP n b W (pts K W b l)) := by
  intro m
  induction m with
  | zero =>
    intro k i j hd hk h0 h1 h2
    obtain ⟨k, rfl⟩ : ∃ q, k = q + 2 := ⟨k - 2, by omega⟩
    have hd1 : j - i ≤ 1 := by simpa using hd
    rw [smear_Tai.s0]
    by_cases g : i < j
    · have e : i + (j - i) / 2 = i := by omega
      rw [if_pos g, e, reading_f (k + 1) (by omega) b x l K W i h (by omega), Option.bind_some]
      by_cases g2 : RP i b W (pts K W b l) ≥ u
      · rw [if_pos g2, smear_Tai.s0, if_neg (by omega)]
        exact ⟨i, rfl, by omega, by omega, .inl rfl, .inr g2⟩
      · rw [if_neg g2, smear_Tai.s0, if_neg (by omega)]
        exact ⟨i + 1, rfl, by omega, by omega, .inr (by rw [show i + 1 - 1 = i by omega]; omega), .inl (by omega)⟩
    · rw [if_neg g]
      exact ⟨i, rfl, by omega, by omega, .inl rfl, .inl (by omega)⟩
  | succ m ih =>
    intro k i j hd hk h0 h1 h2
    obtain ⟨k, rfl⟩ : ∃ q, k = q + 1 := ⟨k - 1, by omega⟩
    have hp : (2 : Int) ^ (m + 1) = 2 * 2 ^ m := by rw [Int.pow_succ, Int.mul_comm]
    have hpos : (0 : Int) < 2 ^ m := Int.pow_pos (by decide)
    rw [hp] at hd
    generalize (2 : Int) ^ m = q at *
    rw [smear_Tai.s0]
    by_cases g : i < j
    · rw [if_pos g, reading_f k (by omega) b x l K W (i + (j - i) / 2) h (by omega), Option.bind_some]
      by_cases g2 : RP (i + (j - i) / 2) b W (pts K W b l) ≥ u
      · rw [if_pos g2]
        obtain ⟨n, e, a1, a2, a3, a4⟩ := ih k i (i + (j - i) / 2) (by omega) (by omega) h0 (by omega) (by omega)
        refine ⟨n, e, a1, by omega, a3, .inr ?_⟩
        rcases a4 with rfl | a4
        · exact g2
        · exact a4
      · rw [if_neg g2]
        obtain ⟨n, e, a1, a2, a3, a4⟩ := ih k (i + (j - i) / 2 + 1) j (by omega) (by omega) (by omega) (by omega) h2
        refine ⟨n, e, by omega, a2, .inr ?_, a4⟩
        rcases a3 with rfl | a3
        · rw [show i + (j - i) / 2 + 1 - 1 = i + (j - i) / 2 by omega]
          omega
        · exact a3
    · rw [if_neg g]
      exact ⟨i, rfl, by omega, by omega, .inl rfl, .inl (by omega)⟩
theorem rise_le (K W : Int) (hW : 2 ≤ W ∧ W ≤ 172800) (b : Int) (l : List E) (hc : Chain b (-9000000000) l) (s t : Int) (h : s ≤ t) : RP s b W (pts K W b l) ≤ RP t b W (pts K W b l) := by
  have h1 := (rise K W hW b l hc s (t - s).toNat).1
  rw [show s + ((t - s).toNat : Int) = t by omega] at h1
  omega
set_option maxHeartbeats 800000 in
/-- The instant of a reading that there is. -/
theorem tai_ok (k : Nat) (hk : 2000 ≤ k) (b x K W tai : Int) (l : List E) (h : chkS b x l K W = 0) (ht : -8000000000000000000 ≤ tai ∧ tai ≤ 8000000000000000000) (hu : -8000000000000000000 ≤ RP tai b W (pts K W b l) ∧ RP tai b W (pts K W b l) ≤ 8000000000000000000) :
    ∃ n, smear_Tai.f k b x l K W (RP tai b W (pts K W b l)) = some (n, 0) ∧ n ≤ tai ∧ -8000000000000000000 ≤ n ∧ RP n b W (pts K W b l) = RP tai b W (pts K W b l) := by
  have hp := chkS_0 b x l K W h
  have hlen := pts_len K W l b
  have hl := hp.tab.len
  have hok := pts_ok K W hp.win l b _ hp.tab.base hp.tab.all hp.tab.chain
  unfold smear_Tai.f
  rw [check_s k (by omega), Option.bind_some, if_pos h, time_f, Option.bind_some, decide_eq_true hu, if_pos rfl, parts_f k (by omega) b x l K W hp.win hl hp.tab.all, Option.bind_some]
  by_cases hK : K = 1
  · have hW : W = 0 := by rcases hp.kind with g | g <;> omega
    subst hK hW
    rw [if_pos rfl]
    unfold smear_stepped.f
    obtain ⟨n, e, a1, a2, a3⟩ := lp_ok b (RP tai b 0 (pts 1 0 b l)) tai (pts 1 0 b l) hok (by omega) hp.tab.base (fun q hq => by
      have := hok q hq
      obtain ⟨_, _, h3, h4⟩ := this
      rcases h4 with h4 | h4 <;> omega) ht hu rfl (pts 1 0 b l).length 0 k (-8000000000000000000) (by omega) (by omega) (fun j _ hj => by omega) (by omega) (by omega)
    rw [oldP_zero] at e
    exact ⟨n, e, a1, a2, a3⟩
  · have hW : 2 ≤ W ∧ W ≤ 172800 := by rcases hp.kind with g | g <;> omega
    generalize hU : RP tai b W (pts K W b l) = u at *
    obtain ⟨n, e, a1, a2, a3, a4⟩ := s0_ok b x K W u l hp hW 64 k (-8000000000000000000) 8000000000000000001 (by decide) (by omega) (by omega) (by omega) (by omega)
    have hn : n ≤ tai := by
      by_cases g : n ≤ tai
      · exact g
      · rcases a3 with g2 | g2
        · omega
        · have := rise_le K W hW b l hp.tab.chain tai (n - 1) (by omega)
          omega
    have hge : u ≤ RP n b W (pts K W b l) := by
      rcases a4 with g | g
      · omega
      · exact g
    have hle := rise_le K W hW b l hp.tab.chain n tai hn
    have hR : RP n b W (pts K W b l) = u := by omega
    rw [if_neg hK, e, Option.bind_some, time_f, Option.bind_some, decide_eq_true (show -8000000000000000000 ≤ n ∧ n ≤ 8000000000000000000 by omega), if_pos rfl, reading_f k (by omega) b x l K W n hp (by omega), Option.bind_some, hR, time_f, Option.bind_some, decide_eq_true hu, if_pos rfl]
    exact ⟨n, rfl, hn, by omega, hR⟩
end Go.Proofs.Ytgklbjglmopjhaa.Sm
