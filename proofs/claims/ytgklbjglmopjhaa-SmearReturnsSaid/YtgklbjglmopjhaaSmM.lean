/- Smeared time: it rises, by at most twice the time between; outside of windows it is the stepped time. Plain arithmetic. No condition. -/
import Derived.Test.YtgklbjglmopjhaaSm
namespace Go.Proofs.Ytgklbjglmopjhaa.Sm
open Go.RowKit Go.Proofs.Ytgklbjglmopjhaa.All Go.Proofs.Ytgklbjglmopjhaa.Civ Go.Proofs.Ytgklbjglmopjhaa.CivB Go.Proofs.YtgklbjglmopjhaaW.PrintWords Go.Proofs.YtgklbjglmopjhaaW.PrintLast

theorem ediv_up (a W : Int) (hW : 0 < W) : a / W ≤ (a + 1) / W ∧ (a + 1) / W ≤ a / W + 1 := by
  have h1 := Int.ediv_le_ediv hW (show a ≤ a + 1 by omega)
  have h2 := Int.ediv_le_ediv hW (show a + 1 ≤ a + 1 * W by omega)
  rw [Int.add_mul_ediv_right a 1 (by omega)] at h2
  exact ⟨h1, h2⟩
/-- A reading before all windows that are left. -/
theorem RP_before (K W t : Int) : ∀ (r : List E) (o : Int), (∀ f ∈ r, t < bgn K W f) → RP t o W (pts K W o r) = t - o * 1000000000
  | [], _, _ => rfl
  | e :: r, o, h => by
    rw [pts, RP, if_pos (h e (List.mem_cons_self ..))]
theorem after_all {o p : Int} {e : E} {r : List E} (K W t : Int) (hW : 0 ≤ W ∧ W ≤ 172800) (h : Chain o p (e :: r)) (ht : t ≤ bgn K W e + W * 1000000000) : ∀ f ∈ r, t < bgn K W f := by
  cases r with
  | nil => exact fun f hf => by cases hf
  | cons f r' =>
    have hg := h.gap K W
    exact h.rest.later K W t r' _ _ _ (by omega)
theorem rise1 (K W : Int) (hW : 2 ≤ W ∧ W ≤ 172800) (t : Int) : ∀ (r : List E) (o p : Int), Chain o p r → 0 ≤ RP (t + 1) o W (pts K W o r) - RP t o W (pts K W o r) ∧ RP (t + 1) o W (pts K W o r) - RP t o W (pts K W o r) ≤ 2
  | [], o, _, _ => by
    show 0 ≤ t + 1 - o * 1000000000 - (t - o * 1000000000) ∧ t + 1 - o * 1000000000 - (t - o * 1000000000) ≤ 2
    omega
  | e :: r, o, p, hc => by
    by_cases g1 : t < bgn K W e
    · have e0 : RP t o W (pts K W o (e :: r)) = t - o * 1000000000 := by rw [pts, RP, if_pos g1]
      rw [e0]
      by_cases g2 : t + 1 < bgn K W e
      · rw [pts, RP, if_pos g2]
        omega
      · have g3 : t + 1 = bgn K W e := by omega
        rw [pts, RP, if_neg g2]
        dsimp only
        rw [if_pos (by omega), show t + 1 - bgn K W e = 0 by omega, Int.mul_zero, Int.zero_ediv]
        omega
    · by_cases g2 : t < bgn K W e + W * 1000000000
      · have e0 : RP t o W (pts K W o (e :: r)) = t - o * 1000000000 - (e.f1 - o) * (t - bgn K W e) / W := by
          rw [pts, RP, if_neg g1]
          dsimp only
          rw [if_pos g2]
        have e1 : RP (t + 1) o W (pts K W o (e :: r)) = t + 1 - o * 1000000000 - (e.f1 - o) * (t + 1 - bgn K W e) / W := by
          rw [pts, RP, if_neg (by dsimp only; omega)]
          dsimp only
          by_cases g3 : t + 1 < bgn K W e + W * 1000000000
          · rw [if_pos g3]
          · rw [if_neg g3, RP_before K W (t + 1) r e.f1 (after_all K W (t + 1) (by omega) hc (by omega)), show t + 1 - bgn K W e = 1000000000 * W by omega, ← Int.mul_assoc, Int.mul_ediv_cancel _ (by omega)]
            omega
        rw [e0, e1]
        rcases hc.2.2.1 with s | s
        · have h := ediv_up (t - bgn K W e) W (by omega)
          rw [s, Int.one_mul, Int.one_mul, show t + 1 - bgn K W e = t - bgn K W e + 1 by omega]
          omega
        · have h := ediv_up (-1 * (t + 1 - bgn K W e)) W (by omega)
          rw [show -1 * (t + 1 - bgn K W e) + 1 = -1 * (t - bgn K W e) by omega] at h
          rw [s]
          omega
      · have e0 : RP t o W (pts K W o (e :: r)) = RP t e.f1 W (pts K W e.f1 r) := by
          rw [pts, RP, if_neg g1]
          dsimp only
          rw [if_neg g2]
        have e1 : RP (t + 1) o W (pts K W o (e :: r)) = RP (t + 1) e.f1 W (pts K W e.f1 r) := by
          rw [pts, RP, if_neg (by dsimp only; omega)]
          dsimp only
          rw [if_neg (by omega)]
        rw [e0, e1]
        exact rise1 K W hW t r e.f1 e.f0 hc.rest
theorem rise (K W : Int) (hW : 2 ≤ W ∧ W ≤ 172800) (b : Int) (l : List E) (hc : Chain b (-9000000000) l) (t : Int) : ∀ d : Nat, 0 ≤ RP (t + d) b W (pts K W b l) - RP t b W (pts K W b l) ∧ RP (t + d) b W (pts K W b l) - RP t b W (pts K W b l) ≤ 2 * d
  | 0 => by
    rw [show t + ((0 : Nat) : Int) = t by omega]
    omega
  | d + 1 => by
    have h1 := rise K W hW b l hc t d
    have h2 := rise1 K W hW (t + d) l b _ hc
    rw [show t + ((d + 1 : Nat) : Int) = t + d + 1 by omega]
    omega
/-- Outside of windows smeared time is the stepped time; inside they differ by at most a second. -/
theorem joins (K W : Int) (hW : 2 ≤ W ∧ W ≤ 172800) (t : Int) : ∀ (r : List E) (o p : Int), Chain o p r →
    ((WP t (pts K W o r)).2.2.2.2 = false → RP t o W (pts K W o r) = RP t o 0 (pts 1 0 o r)) ∧ (-1000000000 ≤ RP t o W (pts K W o r) - RP t o 0 (pts 1 0 o r) ∧ RP t o W (pts K W o r) - RP t o 0 (pts 1 0 o r) ≤ 1000000000)
  | [], o, _, _ => by
    refine ⟨fun _ => rfl, ?_⟩
    show -1000000000 ≤ t - o * 1000000000 - (t - o * 1000000000) ∧ t - o * 1000000000 - (t - o * 1000000000) ≤ 1000000000
    omega
  | e :: r, o, p, hc => by
    have hL := lead_bd K W (by omega)
    have eL : bgn 1 0 e = bgn K W e + lead K W := by
      unfold bgn
      rw [show lead 1 0 = 0 from rfl]
      omega
    by_cases g1 : t < bgn K W e
    · have e0 : RP t o W (pts K W o (e :: r)) = t - o * 1000000000 := by rw [pts, RP, if_pos g1]
      have e1 : RP t o 0 (pts 1 0 o (e :: r)) = t - o * 1000000000 := by rw [pts, RP, if_pos (by dsimp only; omega)]
      rw [e0, e1]
      exact ⟨fun _ => rfl, by omega⟩
    · by_cases g2 : t < bgn K W e + W * 1000000000
      · have e0 : RP t o W (pts K W o (e :: r)) = t - o * 1000000000 - (e.f1 - o) * (t - bgn K W e) / W := by
          rw [pts, RP, if_neg g1]
          dsimp only
          rw [if_pos g2]
        refine ⟨fun h => ?_, ?_⟩
        · rw [pts, WP, if_pos ⟨by dsimp only; omega, g2⟩] at h
          cases h
        · have hx : 0 ≤ (t - bgn K W e) / W ∧ (t - bgn K W e) / W < 1000000000 := ⟨Int.ediv_nonneg (by omega) (by omega), Int.ediv_lt_of_lt_mul (by omega) (by omega)⟩
          have hy : -1000000000 ≤ -1 * (t - bgn K W e) / W ∧ -1 * (t - bgn K W e) / W ≤ 0 := by
            refine ⟨Int.le_ediv_of_mul_le (by omega) (by omega), ?_⟩
            have := Int.ediv_lt_of_lt_mul (a := -1 * (t - bgn K W e)) (b := 1) (c := W) (by omega) (by omega)
            omega
          by_cases g3 : t < bgn 1 0 e
          · have e1 : RP t o 0 (pts 1 0 o (e :: r)) = t - o * 1000000000 := by rw [pts, RP, if_pos g3]
            rw [e0, e1]
            rcases hc.2.2.1 with s | s
            · rw [s, Int.one_mul]; omega
            · rw [s]; omega
          · have e1 : RP t o 0 (pts 1 0 o (e :: r)) = t - e.f1 * 1000000000 := by
              rw [pts, RP, if_neg g3]
              dsimp only
              rw [if_neg (by omega), RP_before 1 0 t r e.f1]
              intro f hf
              cases r with
              | nil => cases hf
              | cons f' r' =>
                have hg := hc.gap 1 0
                exact hc.rest.later 1 0 t r' _ _ _ (by omega) f hf
            rw [e0, e1]
            rcases hc.2.2.1 with s | s
            · rw [s, Int.one_mul]; omega
            · rw [s]; omega
      · have e0 : RP t o W (pts K W o (e :: r)) = RP t e.f1 W (pts K W e.f1 r) := by
          rw [pts, RP, if_neg g1]
          dsimp only
          rw [if_neg g2]
        have e1 : RP t o 0 (pts 1 0 o (e :: r)) = RP t e.f1 0 (pts 1 0 e.f1 r) := by
          rw [pts, RP, if_neg (by dsimp only; omega)]
          dsimp only
          rw [if_neg (by omega)]
        have e2 : WP t (pts K W o (e :: r)) = WP t (pts K W e.f1 r) := by rw [pts, WP, if_neg (fun g => g2 g.2)]
        rw [e0, e1, e2]
        exact joins K W hW t r e.f1 e.f0 hc.rest
theorem readS_ok {b x : Int} {l : List E} {K W t : Int} (h : (readS b x l K W t).2 = 0) : Pol b l K W ∧ (-8000000000000000000 ≤ t ∧ t ≤ 8000000000000000000) ∧ (-8000000000000000000 ≤ RP t b W (pts K W b l) ∧ RP t b W (pts K W b l) ≤ 8000000000000000000) ∧ readS b x l K W t = (RP t b W (pts K W b l), 0) := by
  unfold readS at h ⊢
  by_cases h1 : chkS b x l K W = 0
  · rw [if_pos h1] at h ⊢
    by_cases h2 : -8000000000000000000 ≤ t ∧ t ≤ 8000000000000000000
    · rw [if_pos h2] at h ⊢
      by_cases h3 : -8000000000000000000 ≤ RP t b W (pts K W b l) ∧ RP t b W (pts K W b l) ≤ 8000000000000000000
      · rw [if_pos h3]
        exact ⟨chkS_0 b x l K W h1, h2, h3, rfl⟩
      · rw [if_neg h3] at h; cases h
    · rw [if_neg h2] at h; cases h
  · rw [if_neg h1] at h
    exact absurd h h1
end Go.Proofs.Ytgklbjglmopjhaa.Sm
