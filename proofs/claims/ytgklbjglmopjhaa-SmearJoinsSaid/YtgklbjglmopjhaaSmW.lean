/- Windows and rates of the program. No condition but the arguments' kinds. -/
import Derived.Test.YtgklbjglmopjhaaAll8
import Derived.Test.YtgklbjglmopjhaaSm
namespace Go.Proofs.Ytgklbjglmopjhaa.Sm
open Go.RowKit Go.Proofs.Ytgklbjglmopjhaa.All Go.Proofs.Ytgklbjglmopjhaa.Civ Go.Proofs.Ytgklbjglmopjhaa.CivB Go.Proofs.YtgklbjglmopjhaaW.PrintWords Go.Proofs.YtgklbjglmopjhaaW.PrintLast

/-- By how much smeared time is fast. -/
def rateS (b x : Int) (l : List E) (K W tai : Int) : Int := if (winS b x l K W tai).2.2.2.2 = true then ((winS b x l K W tai).2.2.1 - (winS b x l K W tai).2.2.2.1) * 1000000000 / W else 0
theorem win_pol {b x : Int} {l : List E} {K W tai : Int} (h : (winS b x l K W tai).2.2.2.2 = true) : Pol b l K W ∧ (-8000000000000000000 ≤ tai ∧ tai ≤ 8000000000000000000) ∧ winS b x l K W tai = WP tai (pts K W b l) := by
  unfold winS at h ⊢
  by_cases h1 : chkS b x l K W = 0
  · rw [if_pos h1] at h ⊢
    by_cases ht : -8000000000000000000 ≤ tai ∧ tai ≤ 8000000000000000000
    · rw [if_pos ht]
      exact ⟨chkS_0 b x l K W h1, ht, rfl⟩
    · rw [if_neg ht] at h; cases h
  · rw [if_neg h1] at h; cases h
/-- A window that an instant is in. -/
theorem WP_in (tai W : Int) : ∀ ps : List P, (∀ q ∈ ps, okP W q) → (WP tai ps).2.2.2.2 = true → ∃ q ∈ ps, WP tai ps = (q.f0, q.f1, q.f2, q.f3, true) ∧ q.f0 ≤ tai ∧ tai < q.f1
  | [], _, h => by cases h
  | p :: r, hp, h => by
    rw [WP] at h ⊢
    by_cases g : p.f0 ≤ tai ∧ tai < p.f1
    · rw [if_pos g]
      exact ⟨p, List.mem_cons_self .., rfl, g⟩
    · rw [if_neg g] at h ⊢
      obtain ⟨q, hq, hh⟩ := WP_in tai W r (fun q hq => hp q (List.mem_cons_of_mem _ hq)) h
      exact ⟨q, List.mem_cons_of_mem _ hq, hh⟩
theorem rate_s (k : Nat) (hk : 300 ≤ k) (b x : Int) (l : List E) (K W tai : Int) : smear_Rate.f k b x l K W tai = some (rateS b x l K W tai) := by
  unfold smear_Rate.f rateS
  rw [window_s k hk, Option.bind_some]
  by_cases h : (winS b x l K W tai).2.2.2.2 = true
  · obtain ⟨hp, ht, he⟩ := win_pol h
    rw [if_pos h, if_pos h]
    rw [he] at h ⊢
    obtain ⟨q, hq, e, g1, g2⟩ := WP_in tai W _ (pts_ok K W hp.win l b _ hp.tab.base hp.tab.all hp.tab.chain) h
    obtain ⟨q0, q1, q2, q3⟩ := pts_ok K W hp.win l b _ hp.tab.base hp.tab.all hp.tab.chain q hq
    rw [e]
    dsimp only
    have hW : 0 < W := by omega
    have e3 : -1 ≤ q.f2 - q.f3 ∧ q.f2 - q.f3 ≤ 1 := by rcases q3 with e | e <;> omega
    rw [wz (x := q.f2 - q.f3) (by omega), wz (x := (q.f2 - q.f3) * 1000000000) (by omega), floor_f _ _ hW (by omega), Option.bind_some]
  · rw [if_neg h, if_neg h]
end Go.Proofs.Ytgklbjglmopjhaa.Sm
