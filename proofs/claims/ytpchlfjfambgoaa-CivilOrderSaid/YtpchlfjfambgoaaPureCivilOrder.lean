/- The plain law of CivilOrder. No condition beyond the arguments' kinds. -/
import Derived.Test.YtpchlfjfambgoaaAll9
import Derived.Test.YtpchlfjfambgoaaCivText
import Derived.Test.YtpchlfjfambgoaaRow
namespace Go.Proofs.Ytpchlfjfambgoaa.Pure
open Go.RowKit Go.Proofs.Ytpchlfjfambgoaa.All Go.Proofs.Ytpchlfjfambgoaa.Row Go.Proofs.Ytpchlfjfambgoaa.Civ Go.Proofs.Ytpchlfjfambgoaa.CivB Go.Proofs.Ytpchlfjfambgoaa.CivT Go.Proofs.YtpchlfjfambgoaaW.PrintWords Go.Proofs.YtpchlfjfambgoaaW.PrintLast

theorem year_inO (n : Int) (h : -100000 ≤ n ∧ n ≤ 100000) : 1600 ≤ oy n ∧ oy n ≤ 2200 := by
  have hd := of_date n
  have he := of_dn n
  have m1 := hd.m1
  have m2 := hd.m2
  refine ⟨?_, ?_⟩
  · by_cases g : 1600 ≤ oy n
    · exact g
    · have g2 := Date.le (y := oy n) (m := om n) (d := od n) (y' := 1600) (m' := 1) (d' := 1) hd ⟨by decide, by decide, by decide, by decide⟩ (by omega)
      have g3 : dn 1600 1 1 = ms 1600 1 := by unfold dn; omega
      have g4 : ms 1600 1 ≤ -100001 := by decide
      omega
  · by_cases g : oy n ≤ 2200
    · exact g
    · have g2 := Date.le (y := 2200) (m := 12) (d := 31) (y' := oy n) (m' := om n) (d' := od n) ⟨by decide, by decide, by decide, by decide⟩ hd (by omega)
      have g3 : dn 2200 12 31 = ms 2200 12 + 30 := by unfold dn; omega
      have g4 : 100001 ≤ ms 2200 12 := by decide
      omega
theorem good (S n : Int) (hs : -8000000000 ≤ S ∧ S ≤ 8000000000) (hn : 0 ≤ n ∧ n ≤ 999999999) : civil_Check.bad (oy (S / 86400)) (om (S / 86400)) (od (S / 86400)) (S % 86400 / 3600) (S % 86400 / 60 % 60) (S % 86400 % 60) n = false := by
  have hd := of_date (S / 86400)
  have hy := year_inO (S / 86400) (by omega)
  exact (bad_iff _ _ _ _ _ _ _).2 ⟨hy, ⟨hd.m1, hd.m2⟩, ⟨hd.d1, hd.d2⟩, by omega, by omega, by omega, hn⟩
theorem less_date (a b : Int) : (decide (a < b)) = (if oy a = oy b then (if om a = om b then decide (od a < od b) else decide (om a < om b)) else decide (oy a < oy b)) := by
  have ha := of_dn a
  have hb := of_dn b
  have da := of_date a
  have db := of_date b
  have a1 := da.m1
  have a2 := da.m2
  have b1 := db.m1
  have b2 := db.m2
  by_cases e : oy a = oy b
  · rw [if_pos e]
    by_cases e2 : om a = om b
    · rw [if_pos e2]
      rw [e, e2] at ha
      unfold dn at ha hb
      apply decide_eq_decide.2
      omega
    · rw [if_neg e2]
      apply decide_eq_decide.2
      by_cases g : om a < om b
      · have := da.le db (by omega)
        omega
      · have := db.le da (by omega)
        omega
  · rw [if_neg e]
    apply decide_eq_decide.2
    by_cases g : oy a < oy b
    · have := da.le db (by omega)
      omega
    · have := db.le da (by omega)
      omega
theorem less_sec (a b : Int) : lexi (oy (a / 86400)) (om (a / 86400)) (od (a / 86400)) (a % 86400 / 3600) (a % 86400 / 60 % 60) (a % 86400 % 60) (oy (b / 86400)) (om (b / 86400)) (od (b / 86400)) (b % 86400 / 3600) (b % 86400 / 60 % 60) (b % 86400 % 60) = decide (a < b) := by
  unfold lexi
  by_cases e : a / 86400 = b / 86400
  · rw [e, if_pos rfl, if_pos rfl, if_pos rfl]
    by_cases e1 : a % 86400 / 3600 = b % 86400 / 3600
    · rw [if_pos e1]
      by_cases e2 : a % 86400 / 60 % 60 = b % 86400 / 60 % 60
      · rw [if_pos e2]
        by_cases e3 : a % 86400 % 60 = b % 86400 % 60
        · rw [if_pos e3]
          exact (decide_eq_false (by omega)).symm
        · rw [if_neg e3]
          apply decide_eq_decide.2
          omega
      · rw [if_neg e2]
        apply decide_eq_decide.2
        omega
    · rw [if_neg e1]
      apply decide_eq_decide.2
      omega
  · have h := less_date (a / 86400) (b / 86400)
    have h2 : decide (a < b) = decide (a / 86400 < b / 86400) := by
      apply decide_eq_decide.2
      omega
    rw [h2, h]
    by_cases e1 : oy (a / 86400) = oy (b / 86400)
    · rw [if_pos e1, if_pos e1]
      by_cases e2 : om (a / 86400) = om (b / 86400)
      · rw [if_pos e2, if_pos e2]
        by_cases e3 : od (a / 86400) = od (b / 86400)
        · exfalso
          have ha := of_dn (a / 86400)
          rw [e1, e2, e3, of_dn] at ha
          exact e ha.symm
        · rw [if_neg e3]
      · rw [if_neg e2, if_neg e2]
    · rw [if_neg e1, if_neg e1]
theorem CivilOrder : ∀ (a0 : Int) (a1 : Int) (a2 : Int), I64 a0 → I64 a1 → I64 a2 → ∃ k, timesynclaw05_CivilOrder.f k a0 a1 a2 = some true := by
  intro a b c _ _ _
  refine ⟨2, ?_⟩
  unfold timesynclaw05_CivilOrder.f
  rw [of_f, Option.bind_some, of_f, Option.bind_some]
  by_cases ha : a < -8000000000 ∨ 8000000000 < a
  · have r : civil_Of.res a = (0, 0, 0, 0, 0, 0, 0, 3) := by unfold civil_Of.res; rw [if_pos ha]
    rw [r, if_neg (by decide)]
    simp only [timesynclaw05_CivilOrder.j0]
    rw [if_pos trivial, awake_f, Option.bind_some]
  · have ra : civil_Of.res a = (oy (a / 86400), om (a / 86400), od (a / 86400), a % 86400 / 3600, a % 86400 / 60 % 60, a % 86400 % 60, 0, 0) := by unfold civil_Of.res; rw [if_neg ha]
    by_cases hb : b < -8000000000 ∨ 8000000000 < b
    · have rb : civil_Of.res b = (0, 0, 0, 0, 0, 0, 0, 3) := by unfold civil_Of.res; rw [if_pos hb]
      rw [ra, rb, if_pos rfl]
      simp only [timesynclaw05_CivilOrder.j0]
      rw [if_pos (by decide), awake_f, Option.bind_some]
    · have rb : civil_Of.res b = (oy (b / 86400), om (b / 86400), od (b / 86400), b % 86400 / 3600, b % 86400 / 60 % 60, b % 86400 % 60, 0, 0) := by unfold civil_Of.res; rw [if_neg hb]
      have hn : 0 ≤ wrap64 (Int.tmod (IntKind.u64.wrap c) 1000000000) ∧ wrap64 (Int.tmod (IntKind.u64.wrap c) 1000000000) ≤ 999999999 := by
        rw [IntKind.wrap_u64, Int.tmod_eq_emod_of_nonneg (by omega)]
        unfold wrap64
        omega
      generalize hN : wrap64 (Int.tmod (IntKind.u64.wrap c) 1000000000) = N at hn
      have ga := good a N (by omega) hn
      have gb0 := good b 0 (by omega) (by omega)
      have hp := parse_text _ _ _ _ _ _ _ ga
      have hl := text_less _ _ _ _ _ _ N _ _ _ _ _ _ ga gb0
      rw [less_sec] at hl
      have ta : civil_Text.f (oy (a / 86400)) (om (a / 86400)) (od (a / 86400)) (a % 86400 / 3600) (a % 86400 / 60 % 60) (a % 86400 % 60) N = some (strOfNums (civil_Text.all (oy (a / 86400)) (om (a / 86400)) (od (a / 86400)) (a % 86400 / 3600) (a % 86400 / 60 % 60) (a % 86400 % 60) N)) := by unfold civil_Text.f civil_Text.res; rw [if_neg (by rw [ga]; decide)]
      have tb0 : civil_Text.f (oy (b / 86400)) (om (b / 86400)) (od (b / 86400)) (b % 86400 / 3600) (b % 86400 / 60 % 60) (b % 86400 % 60) 0 = some (strOfNums (civil_Text.all (oy (b / 86400)) (om (b / 86400)) (od (b / 86400)) (b % 86400 / 3600) (b % 86400 / 60 % 60) (b % 86400 % 60) 0)) := by unfold civil_Text.f civil_Text.res; rw [if_neg (by rw [gb0]; decide)]
      have hsz : (strOfNums (civil_Text.all (oy (a / 86400)) (om (a / 86400)) (od (a / 86400)) (a % 86400 / 3600) (a % 86400 / 60 % 60) (a % 86400 % 60) N)).size = 30 := by rw [strOfNums_size, all_eq]; rfl
      rw [ra, rb, if_pos rfl]
      simp only [timesynclaw05_CivilOrder.j0, hN]
      rw [if_neg (by decide), ta, Option.bind_some]
      unfold civil_Parse.f
      rw [Option.bind_some, hp, if_neg (by simp), if_pos rfl, Option.bind_some, hsz]
      simp only [timesynclaw05_CivilOrder.j1]
      rw [if_neg (by decide), ta, Option.bind_some, tb0, Option.bind_some, hl, if_pos (by simp), awake_f, Option.bind_some]

end Go.Proofs.Ytpchlfjfambgoaa.Pure
