/- The plain law of CivilNext. No condition beyond the arguments' kinds. -/
import Derived.Test.YtpchlfjfambgoaaAll11
import Derived.Test.YtpchlfjfambgoaaCivBr
import Derived.Test.YtpchlfjfambgoaaRow
namespace Go.Proofs.Ytpchlfjfambgoaa.Pure
open Go.RowKit Go.Proofs.Ytpchlfjfambgoaa.All Go.Proofs.Ytpchlfjfambgoaa.Row Go.Proofs.Ytpchlfjfambgoaa.Civ Go.Proofs.Ytpchlfjfambgoaa.CivB  Go.Proofs.YtpchlfjfambgoaaW.PrintWords Go.Proofs.YtpchlfjfambgoaaW.PrintLast

theorem year_inN (n : Int) (h : -100000 ≤ n ∧ n ≤ 100000) : 1600 ≤ oy n ∧ oy n ≤ 2200 := by
  have hd := of_date n
  have he := of_dn n
  have m1 := hd.m1
  have m2 := hd.m2
  refine ⟨?_, ?_⟩
  · by_cases g : 1600 ≤ oy n
    · exact g
    · have g2 := Date.le (y := oy n) (m := om n) (d := od n) (y' := 1600) (m' := 1) (d' := 1) hd ⟨by decide, by decide, by decide, by decide⟩ (by omega)
      have g3 : dn 1600 1 1 = ms 1600 1 := by unfold dn; omega
      have g4 : ms 1600 1 ≤ -100001 := by decide
      omega
  · by_cases g : oy n ≤ 2200
    · exact g
    · have g2 := Date.le (y := 2200) (m := 12) (d := 31) (y' := oy n) (m' := om n) (d' := od n) ⟨by decide, by decide, by decide, by decide⟩ hd (by omega)
      have g3 : dn 2200 12 31 = ms 2200 12 + 30 := by unfold dn; omega
      have g4 : 100001 ≤ ms 2200 12 := by decide
      omega
def carry (y m d h mi s n : Int) : Int × Int × Int × Int × Int × Int × Int :=
  if s < 59 then (y, m, d, h, mi, s + 1, n) else if mi < 59 then (y, m, d, h, mi + 1, 0, n) else if h < 23 then (y, m, d, h + 1, 0, 0, n)
  else if d < md y m then (y, m, d + 1, 0, 0, 0, n) else if m < 12 then (y, m + 1, 1, 0, 0, 0, n) else (y + 1, 1, 1, 0, 0, 0, n)
theorem after_f (y m d h mi s n : Int) (hy : 0 ≤ y ∧ y ≤ 5000) (hm : 1 ≤ m ∧ m ≤ 12) (hd : 1 ≤ d ∧ d ≤ md y m) (hh : 0 ≤ h ∧ h ≤ 23) (hmi : 0 ≤ mi ∧ mi ≤ 59) (hs : 0 ≤ s ∧ s ≤ 59) : timesynclaw05_after.f y m d h mi s n = some (carry y m d h mi s n) := by
  unfold timesynclaw05_after.f timesynclaw05_after.carry carry
  rw [mdv, if_pos ⟨hy, hm, hd, hh, hmi, hs⟩]
/-- The next second's civil time. -/
theorem of_next (S : Int) (h : -8000000000 ≤ S ∧ S < 8000000000) : ∃ t : Int × Int × Int × Int × Int × Int × Int, t = carry (oy (S / 86400)) (om (S / 86400)) (od (S / 86400)) (S % 86400 / 3600) (S % 86400 / 60 % 60) (S % 86400 % 60) 0 ∧
    civil_Of.res (S + 1) = (t.1, t.2.1, t.2.2.1, t.2.2.2.1, t.2.2.2.2.1, t.2.2.2.2.2.1, t.2.2.2.2.2.2, 0) ∧ ((od ((S + 1) / 86400) = od (S / 86400) ∧ (S + 1) / 86400 = S / 86400) ∨ (od ((S + 1) / 86400) ≠ od (S / 86400) ∧ (S + 1) / 86400 = S / 86400 + 1)) := by
  have hd := of_date (S / 86400)
  have hb := md_bd (oy (S / 86400)) (om (S / 86400)) hd.m1 hd.m2
  have hn := hd.next
  rw [of_dn] at hn
  have m1 := hd.m1
  have m2 := hd.m2
  have d1 := hd.d1
  have d2 := hd.d2
  have r : civil_Of.res (S + 1) = (oy ((S + 1) / 86400), om ((S + 1) / 86400), od ((S + 1) / 86400), (S + 1) % 86400 / 3600, (S + 1) % 86400 / 60 % 60, (S + 1) % 86400 % 60, 0, 0) := by unfold civil_Of.res; rw [if_neg (by omega)]
  by_cases ht : S % 86400 < 86399
  · have e1 : (S + 1) / 86400 = S / 86400 := by omega
    have e2 : (S + 1) % 86400 = S % 86400 + 1 := by omega
    refine ⟨_, rfl, ?_, .inl ⟨by rw [e1], e1⟩⟩
    rw [r, e1, e2]
    unfold carry
    have t0 : 0 ≤ S % 86400 := by omega
    generalize S % 86400 = T at *
    by_cases h1 : T % 60 < 59
    · rw [if_pos h1]
      simp only [Prod.mk.injEq, true_and, and_true]
      omega
    · rw [if_neg h1]
      by_cases h2 : T / 60 % 60 < 59
      · rw [if_pos h2]
        simp only [Prod.mk.injEq, true_and, and_true]
        omega
      · rw [if_neg h2, if_pos (by omega)]
        simp only [Prod.mk.injEq, true_and, and_true]
        omega
  · have e1 : (S + 1) / 86400 = S / 86400 + 1 := by omega
    have e2 : (S + 1) % 86400 = 0 := by omega
    have e3 : S % 86400 = 86399 := by omega
    have z1 : (0 : Int) / 3600 = 0 := by decide
    have z2 : (0 : Int) / 60 % 60 = 0 := by decide
    have z3 : (0 : Int) % 60 = 0 := by decide
    have y1 : (86399 : Int) / 3600 = 23 := by decide
    have y2 : (86399 : Int) / 60 % 60 = 59 := by decide
    have y3 : (86399 : Int) % 60 = 59 := by decide
    by_cases h4 : od (S / 86400) < md (oy (S / 86400)) (om (S / 86400))
    · rw [if_neg (by omega)] at hn
      have o := of_one (n := S / 86400 + 1) (y := oy (S / 86400)) (m := om (S / 86400)) (d := od (S / 86400) + 1) ⟨m1, m2, by omega, by omega⟩ hn.symm
      refine ⟨_, rfl, ?_, .inr ⟨by rw [e1, ← o.2.2]; omega, e1⟩⟩
      rw [r, e1, e2, e3, z1, z2, z3, y1, y2, y3, ← o.1, ← o.2.1, ← o.2.2]
      unfold carry
      rw [if_neg (by decide), if_neg (by decide), if_neg (by decide), if_pos h4]
    · rw [if_pos (by omega)] at hn
      by_cases h5 : om (S / 86400) < 12
      · rw [if_neg (by omega)] at hn
        have hb2 := md_bd (oy (S / 86400)) (om (S / 86400) + 1) (by omega) (by omega)
        have o := of_one (n := S / 86400 + 1) (y := oy (S / 86400)) (m := om (S / 86400) + 1) (d := 1) ⟨by omega, by omega, by omega, by omega⟩ hn.symm
        refine ⟨_, rfl, ?_, .inr ⟨by rw [e1, ← o.2.2]; omega, e1⟩⟩
        rw [r, e1, e2, e3, z1, z2, z3, y1, y2, y3, ← o.1, ← o.2.1, ← o.2.2]
        unfold carry
        rw [if_neg (by decide), if_neg (by decide), if_neg (by decide), if_neg h4, if_pos h5]
      · rw [if_pos (by omega)] at hn
        have hb2 := md_bd (oy (S / 86400) + 1) 1 (by omega) (by omega)
        have o := of_one (n := S / 86400 + 1) (y := oy (S / 86400) + 1) (m := 1) (d := 1) ⟨by omega, by omega, by omega, by omega⟩ hn.symm
        refine ⟨_, rfl, ?_, .inr ⟨by rw [e1, ← o.2.2]; omega, e1⟩⟩
        rw [r, e1, e2, e3, z1, z2, z3, y1, y2, y3, ← o.1, ← o.2.1, ← o.2.2]
        unfold carry
        rw [if_neg (by decide), if_neg (by decide), if_neg (by decide), if_neg h4, if_neg h5]
theorem next_j2 (S x : Int) (h : -8000000000 ≤ S ∧ S < 8000000000) (hx : ((S + 1) / 86400 = S / 86400 ∧ x = 0) ∨ ((S + 1) / 86400 = S / 86400 + 1 ∧ x = 1)) (k : Nat) : timesynclaw05_CivilNext.j2 (k + 1) S x = some true := by
  simp only [timesynclaw05_CivilNext.j2]
  rw [wz (x := S + 1) (by omega), mjd_f (S + 1) (by omega), Option.bind_some, mjd_f S (by omega), Option.bind_some, week_f (S + 1) (by omega), Option.bind_some, week_f S (by omega), Option.bind_some, Option.bind_some]
  have hb : -100000 ≤ S / 86400 ∧ S / 86400 ≤ 100000 := by omega
  generalize (S + 1) / 86400 = n' at *
  generalize S / 86400 = n at *
  rw [wz (x := n' + 15020 - (n + 15020)) (by omega), if_pos (by omega), wz (x := n % 7 + x) (by omega), Int.tmod_eq_emod_of_nonneg (by omega), if_pos (by omega), if_pos (by omega), awake_f, Option.bind_some]
theorem CivilNext : ∀ (a0 : Int), I64 a0 → ∃ k, timesynclaw05_CivilNext.f k a0 = some true := by
  intro S _
  refine ⟨9, ?_⟩
  unfold timesynclaw05_CivilNext.f
  by_cases h1 : S < -8000000000
  · rw [if_pos h1]
    simp only [timesynclaw05_CivilNext.j0]
    rw [if_pos trivial, awake_f, Option.bind_some]
  rw [if_neg h1]
  by_cases h2 : S ≥ 8000000000
  · rw [decide_eq_true h2]
    simp only [timesynclaw05_CivilNext.j0]
    rw [if_pos trivial, awake_f, Option.bind_some]
  rw [decide_eq_false h2]
  have hS : -8000000000 ≤ S ∧ S < 8000000000 := by omega
  obtain ⟨t, ht, hr, hc⟩ := of_next S hS
  have hd := of_date (S / 86400)
  have hy := year_inN (S / 86400) (by omega)
  have ra : civil_Of.res S = (oy (S / 86400), om (S / 86400), od (S / 86400), S % 86400 / 3600, S % 86400 / 60 % 60, S % 86400 % 60, 0, 0) := by unfold civil_Of.res; rw [if_neg (by omega)]
  have rb : civil_Of.res (S + 1) = (oy ((S + 1) / 86400), om ((S + 1) / 86400), od ((S + 1) / 86400), (S + 1) % 86400 / 3600, (S + 1) % 86400 / 60 % 60, (S + 1) % 86400 % 60, 0, 0) := by unfold civil_Of.res; rw [if_neg (by omega)]
  have ht3 : t.2.2.1 = od ((S + 1) / 86400) := by
    rw [rb] at hr
    simp only [Prod.mk.injEq] at hr
    exact hr.2.2.1.symm
  simp only [timesynclaw05_CivilNext.j0]
  rw [if_neg (by decide), of_f, Option.bind_some, wz (x := S + 1) (by omega), of_f, Option.bind_some, hr, ra, if_pos rfl, if_pos rfl]
  dsimp only
  rw [after_f _ _ _ _ _ _ _ (by omega) ⟨hd.m1, hd.m2⟩ ⟨hd.d1, hd.d2⟩ (by omega) (by omega) (by omega), Option.bind_some, ← ht]
  simp only [timesynclaw05_CivilNext.j1]
  rw [if_neg (by simp)]
  rcases hc with ⟨c1, c2⟩ | ⟨c1, c2⟩
  · rw [if_pos (by rw [ht3, c1])]
    exact next_j2 S 0 hS (.inl ⟨c2, rfl⟩) 6
  · rw [if_neg (by rw [ht3]; exact fun e => c1 e)]
    exact next_j2 S 1 hS (.inr ⟨c2, rfl⟩) 6

end Go.Proofs.Ytpchlfjfambgoaa.Pure
