/- Windows and rates: the reference's answers are the program's. No condition but the arguments' kinds. -/
import Derived.Test.YtgklbjglmopjhaaAll8
import Derived.Test.YtgklbjglmopjhaaAll12
import Derived.Test.YtgklbjglmopjhaaAll13
import Derived.Test.YtgklbjglmopjhaaSmQ
import Derived.Test.YtgklbjglmopjhaaSmW
namespace Go.Proofs.Ytgklbjglmopjhaa.Sm
open Go.RowKit Go.Proofs.Ytgklbjglmopjhaa.All Go.Proofs.Ytgklbjglmopjhaa.Civ Go.Proofs.Ytgklbjglmopjhaa.CivB Go.Proofs.YtgklbjglmopjhaaW.PrintWords Go.Proofs.YtgklbjglmopjhaaW.PrintLast

theorem WR_in (b K W tai : Int) (l : List E) (n : Nat) : (WR b K W tai l n).2.2.2.2 = !(decide (n = 0 ∨ bI K W l n ≤ tai - W * 1000000000)) := by
  unfold WR
  split
  · rename_i h; rw [decide_eq_true h]; rfl
  · rename_i h; rw [decide_eq_false h]; rfl
theorem ractive_s (k : Nat) (hk : 2302 ≤ k) (b x : Int) (l : List E) (K W tai : Int) : timesyncref07_Active.f k b x l K W tai = some (winS b x l K W tai).2.2.2.2 := by
  unfold timesyncref07_Active.f winS
  obtain ⟨k, rfl⟩ : ∃ q, k = q + 1 := ⟨k - 1, by omega⟩
  rw [rcheck_s (k + 1) hk, Option.bind_some]
  by_cases h : chkS b x l K W = 0
  · have hp := chkS_0 b x l K W h
    have hn := pl_le K W tai l 0 0 (by omega)
    rw [if_pos h, if_pos h, rtime_f, Option.bind_some, timesyncref07_Active.j0]
    by_cases ht : -8000000000000000000 ≤ tai ∧ tai ≤ 8000000000000000000
    · rw [decide_eq_true ht, if_neg (by decide), if_pos ht, place_f k (by omega) b x K W tai l hp, Option.bind_some, gone_f b x K W tai l hp ht _ (by omega), Option.bind_some, (core0 b K W tai l hp).2, WR_in]
      split
      · rename_i g; rw [decide_eq_true g]; rfl
      · rename_i g; rw [decide_eq_false g]; rfl
    · rw [decide_eq_false ht, if_pos (show (!false) = true from rfl), if_neg ht]
  · rw [if_neg h, if_neg h, timesyncref07_Active.j0, if_pos rfl]
theorem rrate_s (k : Nat) (hk : 2302 ≤ k) (b x : Int) (l : List E) (K W tai : Int) : timesyncref07_Rate.f k b x l K W tai = some (rateS b x l K W tai) := by
  unfold timesyncref07_Rate.f rateS
  rw [ractive_s k hk, Option.bind_some]
  by_cases h : (winS b x l K W tai).2.2.2.2 = true
  · obtain ⟨hp, ht, he⟩ := win_pol h
    rw [if_pos h, if_pos h, place_f k (by omega) b x K W tai l hp, Option.bind_some]
    rw [he, (core0 b K W tai l hp).2] at h ⊢
    have hn := pl_le K W tai l 0 0 (by omega)
    have hl := hp.tab.len
    have hbg := pl_bgn K W tai l l.length 0 0 (by omega) (by omega) (.inl rfl)
    rw [List.drop_zero] at hbg
    generalize pl K W tai 0 0 l = n at *
    rw [WR_in] at h
    have hd := of_decide_eq_false (Bool.not_eq_true' _ ▸ h)
    have h0 : n ≠ 0 := fun e => hd (.inl e)
    have hs := step_of b l hp.tab.chain n (by omega) h0
    have hob := oldI_bd b l hp.tab.base hp.tab.all n (by omega)
    have hob2 := oldI_bd b l hp.tab.base hp.tab.all (n - 1) (by omega)
    have hW2 := hp.win
    have hW : 0 < W := by
      rcases hbg with e | e
      · exact absurd e h0
      · omega
    unfold WR
    rw [if_neg hd, wz (x := (n : Int) - 1) (by omega), show ((n : Int) - 1) = ((n - 1 : Nat) : Int) by omega, offset_f b x l (n - 1) (by omega) hl, Option.bind_some, offset_f b x l n (by omega) hl, Option.bind_some]
    have e3 : -1 ≤ oldI b l (n - 1) - oldI b l n ∧ oldI b l (n - 1) - oldI b l n ≤ 1 := by rcases hs with e | e <;> omega
    rw [wz (x := oldI b l (n - 1) - oldI b l n) (by omega), wz (x := (oldI b l (n - 1) - oldI b l n) * 1000000000) (by omega), rfloor_f _ _ (by omega) (by omega), Option.bind_some]
  · rw [if_neg h, if_neg h]
end Go.Proofs.Ytgklbjglmopjhaa.Sm
