/- The plain law of OscRises: a reading at a later time is not less, and When inverts Read. No condition beyond the arguments' kinds. -/
import Derived.Test.YtimbfocogklmhaaAll9
import Derived.Test.YtimbfocogklmhaaOscB3
namespace Go.Proofs.Ytimbfocogklmhaa.Pure
open Go.RowKit Go.Proofs.Ytimbfocogklmhaa.All Go.Proofs.Ytimbfocogklmhaa.Row Go.Proofs.Ytimbfocogklmhaa.OscM Go.Proofs.Ytimbfocogklmhaa.OscB Go.Proofs.YtimbfocogklmhaaW.PrintWords Go.Proofs.YtimbfocogklmhaaW.PrintLast

theorem span_y {t d : Int} (h0 : 0 ≤ t) (h1 : 0 ≤ d) (h2 : t + d ≤ 1125899906842624) : timesynclaw09_span.f t d = some true := by
  unfold timesynclaw09_span.f
  rw [if_pos h0, if_pos (by omega), if_pos h1, wz (by omega), decide_eq_true (by omega)]
theorem span_n {t d : Int} (h : ¬ (0 ≤ t ∧ 0 ≤ d ∧ t + d ≤ 1125899906842624)) (hd : I64 d) : timesynclaw09_span.f t d = some false := by
  unfold timesynclaw09_span.f
  unfold I64 at hd
  by_cases h0 : t ≥ 0
  · rw [if_pos h0]
    by_cases h1 : t ≤ 1125899906842624
    · rw [if_pos h1]
      by_cases h2 : d ≥ 0
      · rw [if_pos h2, wz (by omega), decide_eq_false (by omega)]
      · rw [if_neg h2]
    · rw [if_neg h1]
  · rw [if_neg h0]

theorem OscRises : ∀ (a0_0 : Int) (l0_1 : List S32) (a1 : Int) (a2 : Int), I64 a0_0 → l0_1.length ≤ 9223372036854775807 → (∀ z ∈ l0_1, I64 z.f0 ∧ I64 z.f1) → I64 a1 → I64 a2 → ∃ k, timesynclaw09_OscRises.f k a0_0 l0_1 a1 a2 = some true := by
  intro ph l t d _ _ _ _ hd
  refine ⟨200, ?_⟩
  unfold timesynclaw09_OscRises.f
  by_cases hs : 0 ≤ t ∧ 0 ≤ d ∧ t + d ≤ 1125899906842624
  · obtain ⟨h0, h1, h2⟩ := hs
    rw [span_y h0 h1 h2, Option.bind_some, if_pos rfl, wz (x := t + d) (by omega), Read_f l ph t 200 (by omega), Option.bind_some, Read_f l ph (t + d) 200 (by omega), Option.bind_some]
    by_cases hc : check (sa l) (sp l) l.length ph = 0
    · have v := valid_of hc
      have e1 : Rd l ph t = (reading (sa l) (sp l) l.length ph t, 0) := by unfold Rd; rw [if_pos hc, if_pos (by omega)]
      have e2 : Rd l ph (t + d) = (reading (sa l) (sp l) l.length ph (t + d), 0) := by unfold Rd; rw [if_pos hc, if_pos (by omega)]
      obtain ⟨w, ew, hw⟩ := When_ex v (reading (sa l) (sp l) l.length ph (t + d)) 199 (by omega)
      have hm := reading_mono v h0 (show t ≤ t + d by omega) h2
      have hle : w ≤ t + d := by
        apply Int.not_lt.1
        intro hlt
        have := hw.below (t + d) (by omega) hlt
        omega
      have hne : reading (sa l) (sp l) l.length ph t ≠ reading (sa l) (sp l) l.length ph (t + d) → t < w := by
        intro hn
        apply Int.not_le.1
        intro hle2
        have := hw.above t hle2 (by omega)
        omega
      rw [e1, e2]
      simp only []
      rw [if_pos trivial]
      simp only [timesynclaw09_OscRises.j0]
      rw [if_neg (by decide), ew, Option.bind_some, if_pos hm, if_neg (show ¬ w > 1125899906842624 by omega)]
      simp only []
      rw [if_pos trivial, wz (x := t + d) (by omega), if_pos hle]
      by_cases he : reading (sa l) (sp l) l.length ph t = reading (sa l) (sp l) l.length ph (t + d)
      · rw [if_pos he, awake_f 199 (by omega), Option.bind_some]
      · rw [if_neg he, if_pos (hne he), awake_f 199 (by omega), Option.bind_some]
    · have e1 : Rd l ph t = (0, check (sa l) (sp l) l.length ph) := by unfold Rd; rw [if_neg hc]
      have e2 : Rd l ph (t + d) = (0, check (sa l) (sp l) l.length ph) := by unfold Rd; rw [if_neg hc]
      rw [e1, e2]
      simp only []
      rw [if_pos trivial]
      simp only [timesynclaw09_OscRises.j0]
      rw [if_pos (by simpa using hc), if_pos trivial, awake_f 199 (by omega), Option.bind_some]
  · rw [span_n hs hd, Option.bind_some, if_neg (by decide), awake_f 200 (by omega), Option.bind_some]

end Go.Proofs.Ytimbfocogklmhaa.Pure
