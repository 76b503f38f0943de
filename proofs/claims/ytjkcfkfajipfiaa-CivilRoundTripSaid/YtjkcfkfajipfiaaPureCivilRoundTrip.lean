/- The plain law of CivilRoundTrip. No condition beyond the arguments' kinds. -/
import Derived.Test.YtjkcfkfajipfiaaAll15
import Derived.Test.YtjkcfkfajipfiaaCivBr
import Derived.Test.YtjkcfkfajipfiaaRow
namespace Go.Proofs.Ytjkcfkfajipfiaa.Pure
open Go.RowKit Go.Proofs.Ytjkcfkfajipfiaa.All Go.Proofs.Ytjkcfkfajipfiaa.Row Go.Proofs.Ytjkcfkfajipfiaa.Civ Go.Proofs.Ytjkcfkfajipfiaa.CivB Go.Proofs.YtjkcfkfajipfiaaW.PrintWords Go.Proofs.YtjkcfkfajipfiaaW.PrintLast

theorem year_in (n : Int) (h : -100000 ≤ n ∧ n ≤ 100000) : 1600 ≤ oy n ∧ oy n ≤ 2200 := by
  have hd := of_date n
  have he := of_dn n
  have m1 := hd.m1
  have m2 := hd.m2
  refine ⟨?_, ?_⟩
  · by_cases g : 1600 ≤ oy n
    · exact g
    · have g2 := Date.le (y := oy n) (m := om n) (d := od n) (y' := 1600) (m' := 1) (d' := 1) hd ⟨by decide, by decide, by decide, by decide⟩ (by omega)
      have g3 : dn 1600 1 1 = ms 1600 1 := by unfold dn; omega
      have g4 : ms 1600 1 ≤ -100001 := by decide
      omega
  · by_cases g : oy n ≤ 2200
    · exact g
    · have g2 := Date.le (y := 2200) (m := 12) (d := 31) (y' := oy n) (m' := om n) (d' := od n) ⟨by decide, by decide, by decide, by decide⟩ hd (by omega)
      have g3 : dn 2200 12 31 = ms 2200 12 + 30 := by unfold dn; omega
      have g4 : 100001 ≤ ms 2200 12 := by decide
      omega
theorem trip_j1 (k : Nat) (y m d h mi s n : Int) : timesynclaw05_CivilRoundTrip.j1 (k + 1) y m d h mi s n = some true := by
  simp only [timesynclaw05_CivilRoundTrip.j1]
  rw [seconds_f, Option.bind_some]
  have bad : secres y m d h mi s n = (0, 3) → (if (secres y m d h mi s n).2 = 0 then ((civil_Of.f (secres y m d h mi s n).1).bind fun bt296 => (if (bt296.1 == y && (bt296.2.1 == m && (bt296.2.2.1 == d && (bt296.2.2.2.1 == h && (bt296.2.2.2.2.1 == mi && (bt296.2.2.2.2.2.1 == s && (bt296.2.2.2.2.2.2.1 == 0))))))) = true then (if bt296.2.2.2.2.2.2.2 = 0 then ((timesynclaw05_awake.f).bind fun t305 => (some t305)) else (some false)) else (some false))) else (if (secres y m d h mi s n).1 = 0 then (if (secres y m d h mi s n).2 = 3 then ((timesynclaw05_awake.f).bind fun t306 => (some t306)) else (some false)) else (some false))) = some true := by
    intro e
    rw [e, if_neg (by decide), if_pos rfl, if_pos rfl, awake_f, Option.bind_some]
  by_cases e : civil_Check.res y m d h mi s n = 0
  · obtain ⟨h1, h2, h3, h4, h5, h6, h7⟩ := res_fields e
    by_cases l1 : sec y m d h mi s < -8000000000
    · exact bad (by unfold secres; rw [if_pos e, if_pos l1])
    · by_cases l2 : sec y m d h mi s > 8000000000
      · exact bad (by unfold secres; rw [if_pos e, if_neg l1, if_pos l2])
      · have g : secres y m d h mi s n = (sec y m d h mi s, 0) := by unfold secres; rw [if_pos e, if_neg l1, if_neg l2]
        have hone := of_one (n := sec y m d h mi s / 86400) (y := y) (m := m) (d := d) ⟨by omega, by omega, by omega, by omega⟩ (by unfold sec; omega)
        have r : civil_Of.res (sec y m d h mi s) = (y, m, d, h, mi, s, 0, 0) := by
          unfold civil_Of.res
          rw [if_neg (by omega), ← hone.1, ← hone.2.1, ← hone.2.2]
          have a1 : sec y m d h mi s % 86400 = h * 3600 + mi * 60 + s := by unfold sec; omega
          rw [a1, show (h * 3600 + mi * 60 + s) / 3600 = h by omega, show (h * 3600 + mi * 60 + s) / 60 % 60 = mi by omega, show (h * 3600 + mi * 60 + s) % 60 = s by omega]
        rw [g, if_pos rfl, of_f, Option.bind_some, r, awake_f]
        simp
  · exact bad (by unfold secres; rw [if_neg e])
theorem CivilRoundTrip : ∀ (a0 : Int) (a1_0 : Int) (a1_1 : Int) (a1_2 : Int) (a1_3 : Int) (a1_4 : Int) (a1_5 : Int) (a1_6 : Int), I64 a0 → I64 a1_0 → I64 a1_1 → I64 a1_2 → I64 a1_3 → I64 a1_4 → I64 a1_5 → I64 a1_6 → ∃ k, timesynclaw05_CivilRoundTrip.f k a0 a1_0 a1_1 a1_2 a1_3 a1_4 a1_5 a1_6 = some true := by
  intro S y m d h mi s n _ _ _ _ _ _ _ _
  refine ⟨2, ?_⟩
  unfold timesynclaw05_CivilRoundTrip.f
  rw [of_f, Option.bind_some]
  by_cases hr : S < -8000000000 ∨ 8000000000 < S
  · have r : civil_Of.res S = (0, 0, 0, 0, 0, 0, 0, 3) := by unfold civil_Of.res; rw [if_pos hr]
    have hj : timesynclaw05_CivilRoundTrip.j0 2 S 3 true y m d h mi s n 0 0 0 0 0 0 0 = some true := by
      simp only [timesynclaw05_CivilRoundTrip.j0]
      rw [if_pos trivial, if_pos trivial, if_neg (by decide)]
      exact trip_j1 0 y m d h mi s n
    rw [r]
    by_cases h1 : S < -8000000000
    · rw [if_pos h1]
      exact hj
    · rw [if_neg h1, decide_eq_true (show S > 8000000000 by omega)]
      exact hj
  · have r : civil_Of.res S = (oy (S / 86400), om (S / 86400), od (S / 86400), S % 86400 / 3600, S % 86400 / 60 % 60, S % 86400 % 60, 0, 0) := by unfold civil_Of.res; rw [if_neg hr]
    have hd := of_date (S / 86400)
    have hy := year_in (S / 86400) (by omega)
    have e : civil_Check.res (oy (S / 86400)) (om (S / 86400)) (od (S / 86400)) (S % 86400 / 3600) (S % 86400 / 60 % 60) (S % 86400 % 60) 0 = 0 := by
      rw [check_res, if_pos ⟨hy, ⟨hd.m1, hd.m2⟩, ⟨hd.d1, hd.d2⟩, by omega, by omega, by omega, by omega⟩]
    have es : sec (oy (S / 86400)) (om (S / 86400)) (od (S / 86400)) (S % 86400 / 3600) (S % 86400 / 60 % 60) (S % 86400 % 60) = S := by
      unfold sec
      rw [of_dn]
      omega
    have g : secres (oy (S / 86400)) (om (S / 86400)) (od (S / 86400)) (S % 86400 / 3600) (S % 86400 / 60 % 60) (S % 86400 % 60) 0 = (S, 0) := by
      unfold secres
      rw [if_pos e, es, if_neg (by omega), if_neg (by omega)]
    rw [r, if_neg (by omega), decide_eq_false (show ¬ S > 8000000000 by omega)]
    simp only [timesynclaw05_CivilRoundTrip.j0]
    rw [if_neg (by decide), seconds_f, g, Option.bind_some, if_pos rfl, if_pos rfl, check_f, Option.bind_some, e, if_pos rfl, if_pos trivial, if_pos trivial]
    exact trip_j1 0 y m d h mi s n

end Go.Proofs.Ytjkcfkfajipfiaa.Pure
