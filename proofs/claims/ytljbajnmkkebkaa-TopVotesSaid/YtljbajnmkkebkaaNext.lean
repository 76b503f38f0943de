import Derived.Test.YtljbajnmkkebkaaAll3
/- The first second of the next month, in plain words. No condition but what is said. -/
import Derived.Test.YtljbajnmkkebkaaExt
namespace Go.Proofs.Ytljbajnmkkebkaa.Ext
open Go.RowKit Go.Proofs.Ytljbajnmkkebkaa.All Go.Proofs.Ytljbajnmkkebkaa.Civ Go.Proofs.Ytljbajnmkkebkaa.CivB Go.Proofs.YtljbajnmkkebkaaW.PrintWords Go.Proofs.YtljbajnmkkebkaaW.PrintLast
set_option linter.unusedSimpArgs false
set_option linter.unusedVariables false

theorem beg_ms (y m : Int) (hm : 1 ≤ m ∧ m ≤ 12) : beg (ms y m * 86400) = true := by
  have hb := md_bd y m hm.1 hm.2
  have hd : Date y m 1 := ⟨hm.1, hm.2, by omega, by omega⟩
  have e := of_one (n := ms y m) hd (by unfold dn; omega)
  unfold beg
  rw [decide_eq_true_eq, show ms y m * 86400 / 86400 = ms y m by omega]
  exact ⟨by omega, e.2.2.symm⟩
theorem year_lt (n : Int) (h : -100000 ≤ n ∧ n ≤ 100000) : oy n + 1 ≤ 2200 := by
  have hd := of_date n
  have e := of_dn n
  unfold dn at e
  have d1 := hd.d1
  by_cases g : oy n + 1 ≤ 2200
  · exact g
  · have e1 := mi_of (oy n) (om n) hd.m1 hd.m2
    have m1 := hd.m1
    have h1 := mi_mono (i := 26400) (j := 12 * oy n + (om n - 1)) (by omega)
    rw [e1] at h1
    have h2 : mi 26400 = ms 2200 1 := mi_of 2200 1 (by omega) (by omega)
    have h3 : 100001 ≤ ms 2200 1 := by decide
    omega
theorem next_spec (u : Int) (h : -8000000000 ≤ u ∧ u ≤ 8000000000) : ∃ t ok, leap_month.f u 1 = some (t, ok) ∧ (ok = true → u < t ∧ t ≤ u + 2678400 ∧ mb t = true) ∧ (u ≤ 7990000000 → ok = true) := by
  have hd := of_date (u / 86400)
  have hy := year_in (u / 86400) (by omega)
  have hy2 := year_lt (u / 86400) (by omega)
  have hdn := of_dn (u / 86400)
  unfold dn at hdn
  have m1 := hd.m1
  have m2 := hd.m2
  have d1 := hd.d1
  have d2 := hd.d2
  have hb := md_bd (oy (u / 86400)) (om (u / 86400)) m1 m2
  have fin : ∀ (y m t0 : Int), (1600 ≤ y ∧ y ≤ 2200) → (1 ≤ m ∧ m ≤ 12) → ms y m = t0 → u < t0 * 86400 → t0 * 86400 ≤ u + 2678400 →
      ∃ t ok, ((civil_Seconds.f y m 1 0 0 0 0).bind fun bt => (some (bt.1, (bt.2 == 0)))) = some (t, ok) ∧ (ok = true → u < t ∧ t ≤ u + 2678400 ∧ mb t = true) ∧ (u ≤ 7990000000 → ok = true) := by
    intro y m t0 hy hm e h1 h2
    rw [first_f y m hy hm, Option.bind_some]
    have hbm := beg_ms y m hm
    rw [e] at hbm ⊢
    by_cases g1 : t0 * 86400 < -8000000000
    · rw [if_pos g1]
      omega
    · rw [if_neg g1]
      by_cases g2 : t0 * 86400 > 8000000000
      · rw [if_pos g2]
        exact ⟨0, false, rfl, fun q => (by cases q), fun q => (by omega)⟩
      · rw [if_neg g2]
        refine ⟨t0 * 86400, true, rfl, fun _ => ⟨h1, h2, ?_⟩, fun _ => rfl⟩
        unfold mb
        rw [hbm, decide_eq_true (by omega)]
        rfl
  unfold leap_month.f
  rw [of_f, Option.bind_some, res_in u h]
  dsimp only
  rw [if_pos rfl, wz (x := om (u / 86400) + 1) (by omega)]
  by_cases g : om (u / 86400) + 1 > 12
  · rw [if_pos g, wz (x := oy (u / 86400) + 1) (by omega)]
    have e12 : om (u / 86400) = 12 := by omega
    have e := ms_year (oy (u / 86400))
    have em : md (oy (u / 86400)) 12 = 31 := rfl
    rw [e12] at hdn d2
    rw [em] at d2
    exact fin _ 1 _ (by omega) (by omega) e (by omega) (by omega)
  · rw [if_neg g]
    have e := ms_next (oy (u / 86400)) (om (u / 86400)) m1 (by omega)
    exact fin _ _ _ hy (by omega) e (by omega) (by omega)
end Go.Proofs.Ytljbajnmkkebkaa.Ext
