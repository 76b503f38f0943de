/- The plain law of OscDrifts: readings at times that are d apart differ from d by no more than the bound's share. No condition beyond the arguments' kinds. -/
import Derived.Test.YtimbfocogklmhaaAll7
import Derived.Test.YtimbfocogklmhaaOscB2
namespace Go.Proofs.Ytimbfocogklmhaa.Pure
open Go.RowKit Go.Proofs.Ytimbfocogklmhaa.All Go.Proofs.Ytimbfocogklmhaa.Row Go.Proofs.Ytimbfocogklmhaa.OscM Go.Proofs.Ytimbfocogklmhaa.OscB Go.Proofs.YtimbfocogklmhaaW.PrintWords Go.Proofs.YtimbfocogklmhaaW.PrintLast

theorem OscDrifts : ∀ (a0_0 : Int) (l0_1 : List S32) (a1 : Int) (a2 : Int), I64 a0_0 → l0_1.length ≤ 9223372036854775807 → (∀ z ∈ l0_1, I64 z.f0 ∧ I64 z.f1) → I64 a1 → I64 a2 → ∃ k, timesynclaw09_OscDrifts.f k a0_0 l0_1 a1 a2 = some true := by
  intro ph l t d _ _ _ _ hd
  refine ⟨100, ?_⟩
  unfold timesynclaw09_OscDrifts.f
  by_cases hs : 0 ≤ t ∧ 0 ≤ d ∧ t + d ≤ 1125899906842624
  · obtain ⟨h0, h1, h2⟩ := hs
    rw [span_yes h0 h1 h2, Option.bind_some, if_pos rfl, wz (x := t + d) (by omega), Read_f l ph t 100 (by omega), Option.bind_some, Read_f l ph (t + d) 100 (by omega), Option.bind_some, bound_f l ph 100 (by omega), Option.bind_some]
    by_cases hc : check (sa l) (sp l) l.length ph = 0
    · have v := valid_of hc
      obtain ⟨b0, b1, b2⟩ := bnd_bd (fun i hi => ⟨v.pl i hi, v.pu i hi⟩) l.length (Nat.le_refl _)
      have dr := drift_le v h0 h1 h2 b0 b2
      have r1 := reading_bd v h0 (show t ≤ 1125899906842624 by omega)
      have r2 := reading_bd v (t := t + d) (by omega) h2
      have e1 : Rd l ph t = (reading (sa l) (sp l) l.length ph t, 0) := by unfold Rd; rw [if_pos hc, if_pos (by omega)]
      have e2 : Rd l ph (t + d) = (reading (sa l) (sp l) l.length ph (t + d), 0) := by unfold Rd; rw [if_pos hc, if_pos (by omega)]
      have e3 : Bd l ph = bnd (sp l) l.length := by unfold Bd; rw [if_pos hc]
      rw [e1, e2, e3]
      simp only []
      rw [if_pos trivial, if_pos trivial, if_neg (by omega)]
      simp only [timesynclaw09_OscDrifts.j0]
      rw [if_neg (by rw [decide_eq_true_eq]; omega)]
      have m1 := mul_bd (p := bnd (sp l) l.length) (y := d / 1000000000) (P := 500000) (Y := 1125899) (by omega) b1 (by omega) (by omega) (by omega)
      have m2 := mul_bd (p := bnd (sp l) l.length) (y := d % 1000000000) (P := 500000) (Y := 1000000000) (by omega) b1 (by omega) (by omega) (by omega)
      rw [Int.mul_comm] at m1 m2
      rw [Int.tdiv_eq_ediv_of_nonneg h1, Int.tmod_eq_emod_of_nonneg h1, wz (x := d / 1000000000) (by omega)]
      have p1 : 0 ≤ d / 1000000000 * bnd (sp l) l.length := Int.mul_nonneg (by omega) b0
      have p2 : 0 ≤ d % 1000000000 * bnd (sp l) l.length := Int.mul_nonneg (by omega) b0
      rw [Int.mul_comm (bnd (sp l) l.length)] at m1 m2
      generalize d / 1000000000 * bnd (sp l) l.length = Q at *
      generalize d % 1000000000 * bnd (sp l) l.length = R at *
      generalize reading (sa l) (sp l) l.length ph (t + d) = A at *
      generalize reading (sa l) (sp l) l.length ph t = C at *
      rw [wz (x := Q) (by omega), wz (x := R) (by omega), wz (x := R + 999999999) (by omega), Int.tdiv_eq_ediv_of_nonneg (by omega), wz (x := (R + 999999999) / 1000000000) (by omega), wz (x := Q + (R + 999999999) / 1000000000) (by omega), wz (x := A - C) (by omega), wz (x := A - C - d) (by omega), wz (x := d - (A - C)) (by omega),
        if_pos (by omega), if_pos (by omega), awake_f 99 (by omega), Option.bind_some]
    · have e1 : Rd l ph t = (0, check (sa l) (sp l) l.length ph) := by unfold Rd; rw [if_neg hc]
      have e2 : Rd l ph (t + d) = (0, check (sa l) (sp l) l.length ph) := by unfold Rd; rw [if_neg hc]
      have e3 : Bd l ph = 0 := by unfold Bd; rw [if_neg hc]
      rw [e1, e2, e3]
      simp only []
      rw [if_neg hc]
      simp only [timesynclaw09_OscDrifts.j0]
      rw [if_pos (by trivial), if_pos (by trivial), if_pos (by omega), if_pos (by omega), awake_f 99 (by omega), Option.bind_some]
  · rw [span_no hs hd, Option.bind_some, if_neg (by decide), awake_f 100 (by omega), Option.bind_some]

end Go.Proofs.Ytimbfocogklmhaa.Pure
