/- The plain law of CivilTexts. No condition beyond the arguments' kinds. -/
import Derived.Test.YtpchlfjfambgoaaAll10
import Derived.Test.YtpchlfjfambgoaaAll9
import Derived.Test.YtpchlfjfambgoaaAll8
import Derived.Test.YtpchlfjfambgoaaAll5
import Derived.Test.YtpchlfjfambgoaaCivBr
import Derived.Test.YtpchlfjfambgoaaRow
namespace Go.Proofs.Ytpchlfjfambgoaa.Pure
open Go.RowKit Go.Proofs.Ytpchlfjfambgoaa.All Go.Proofs.Ytpchlfjfambgoaa.Row Go.Proofs.Ytpchlfjfambgoaa.Civ Go.Proofs.Ytpchlfjfambgoaa.CivB Go.Proofs.YtpchlfjfambgoaaW.PrintWords Go.Proofs.YtpchlfjfambgoaaW.PrintLast

theorem appl (xs ys : List Int) : strOfNums xs ++ strOfNums ys = strOfNums (xs ++ ys) := by
  apply ByteArray.ext
  simp [strOfNums, ByteArray.data_append]
theorem dig4 (x : Int) (h : 0 ≤ x ∧ x ≤ 999999999) : timesyncref05_digits.f x 4 = some (strOfNums (civil_Text.dgs x 4)) := by
  unfold timesyncref05_digits.f
  rw [if_pos (by omega)]
  rfl
theorem dig2 (x : Int) (h : 0 ≤ x ∧ x ≤ 999999999) : timesyncref05_digits.f x 2 = some (strOfNums (civil_Text.dgs x 2)) := by
  unfold timesyncref05_digits.f
  rw [if_pos (by omega)]
  rfl
theorem dig9 (x : Int) (h : 0 ≤ x ∧ x ≤ 999999999) : timesyncref05_digits.f x 9 = some (strOfNums (civil_Text.dgs x 9)) := by
  unfold timesyncref05_digits.f
  rw [if_pos (by omega)]
  rfl
theorem c45 : (⟨#[45]⟩ : ByteArray) = strOfNums [45] := rfl
theorem c84 : (⟨#[84]⟩ : ByteArray) = strOfNums [84] := rfl
theorem c58 : (⟨#[58]⟩ : ByteArray) = strOfNums [58] := rfl
theorem c46 : (⟨#[46]⟩ : ByteArray) = strOfNums [46] := rfl
theorem c90 : (⟨#[90]⟩ : ByteArray) = strOfNums [90] := rfl
theorem rtext (y m d h mi s n : Int) : timesyncref05_Text.f 9 y m d h mi s n = civil_Text.f y m d h mi s n := by
  unfold timesyncref05_Text.f civil_Text.f civil_Text.res
  rw [rcheck_f 9 (by omega), Option.bind_some]
  cases hb : civil_Check.bad y m d h mi s n
  · have hr : civil_Check.res y m d h mi s n = 0 := by unfold civil_Check.res; rw [hb]; rfl
    obtain ⟨h1, h2, h3, h4, h5, h6, h7⟩ := res_fields hr
    have h8 := md_bd y m h2.1 h2.2
    rw [if_pos hr, dig4 y (by omega), dig2 m (by omega), dig2 d (by omega), dig2 h (by omega), dig2 mi (by omega), dig2 s (by omega), dig9 n (by omega), c45, c84, c58, c46, c90]
    simp only [Option.bind_some, appl, strOfNums_size, List.length_append, civil_Text.dgs_length, List.length_cons, List.length_nil, Nat.reduceAdd, Nat.reduceLeDiff, if_true, reduceIte, Bool.false_eq_true]
    rfl
  · have hr : ¬ civil_Check.res y m d h mi s n = 0 := by unfold civil_Check.res; rw [hb]; decide
    rw [if_neg hr]
    rfl
theorem rparse (s : ByteArray) : timesyncref05_Parse.f s = civil_Parse.f s := by
  unfold timesyncref05_Parse.f civil_Parse.f civil_Parse.res
  by_cases h1 : s.size ≠ 30
  · rw [if_pos h1, if_pos h1]
  · rw [if_neg h1, if_neg h1]
    by_cases h2 : civil_Parse.ok s = false
    · rw [if_pos h2, if_pos h2]
    · rw [if_neg h2, if_neg h2, rcheck_f 9 (by omega), Option.bind_some]
      unfold civil_Check.res
      by_cases h3 : civil_Parse.bad s = true
      · have h4 : civil_Check.bad (civil_Parse.fld s 0 4) (civil_Parse.fld s 5 2) (civil_Parse.fld s 8 2) (civil_Parse.fld s 11 2) (civil_Parse.fld s 14 2) (civil_Parse.fld s 17 2) (civil_Parse.fld s 20 9) = true := h3
        rw [if_pos h3, if_pos h4]
        rfl
      · have h4 : ¬ civil_Check.bad (civil_Parse.fld s 0 4) (civil_Parse.fld s 5 2) (civil_Parse.fld s 8 2) (civil_Parse.fld s 11 2) (civil_Parse.fld s 14 2) (civil_Parse.fld s 17 2) (civil_Parse.fld s 20 9) = true := h3
        rw [if_neg h3, if_neg h4]
        rfl
theorem CivilTexts : ∀ (a0_0 : Int) (a0_1 : Int) (a0_2 : Int) (a0_3 : Int) (a0_4 : Int) (a0_5 : Int) (a0_6 : Int) (a1 : ByteArray), I64 a0_0 → I64 a0_1 → I64 a0_2 → I64 a0_3 → I64 a0_4 → I64 a0_5 → I64 a0_6 → a1.size ≤ 140737488351232 → ∃ k, timesynclaw05_CivilTexts.f k a0_0 a0_1 a0_2 a0_3 a0_4 a0_5 a0_6 a1 = some true := by
  intro y m d h mi s n a _ _ _ _ _ _ _ _
  refine ⟨9, ?_⟩
  unfold timesynclaw05_CivilTexts.f
  rw [rtext, rparse]
  unfold civil_Parse.f civil_Text.f
  simp only [Option.bind_some, if_true, beq_self_eq_true, Bool.and_self, reduceIte]
  rfl

end Go.Proofs.Ytpchlfjfambgoaa.Pure
