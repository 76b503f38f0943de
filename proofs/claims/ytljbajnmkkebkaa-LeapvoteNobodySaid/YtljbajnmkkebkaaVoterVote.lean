/- Vote of leapvote: the vote of a server. No condition but what is said. -/
import Derived.Test.YtljbajnmkkebkaaVoter
namespace Go.Proofs.Ytljbajnmkkebkaa.Vo
open Go.RowKit Go.Proofs.Ytljbajnmkkebkaa.All Go.Proofs.YtljbajnmkkebkaaW.PrintWords Go.Proofs.YtljbajnmkkebkaaW.PrintLast Go.Proofs.YtljbajnmkkebkaaW.PrintMore
set_option linter.unusedSimpArgs false
set_option linter.unusedVariables false

theorem second_ok (u : Int) (w : World) : Calls Try.prog 44 #[.int .i64 u] w fun e w' => e = .returned (.bool (decide (-8000000000 ≤ u ∧ u ≤ 8000000000))) ∧ Drawn0 w w' := by
  by_cases h1 : -8000000000 ≤ u
  · by_cases h2 : u ≤ 8000000000
    · rw [decide_eq_true (show -8000000000 ≤ u ∧ u ≤ 8000000000 from ⟨h1, h2⟩)]
      go_enter Try.func44, Try.ntmps44
      go_wp2
      go_ret
      exact ⟨by simp [h2], ⟨0, rfl⟩⟩
    · rw [decide_eq_false (show ¬ (-8000000000 ≤ u ∧ u ≤ 8000000000) from fun g => h2 g.2)]
      go_enter Try.func44, Try.ntmps44
      go_wp2
      go_ret
      exact ⟨by simp [h2], ⟨0, rfl⟩⟩
  · rw [decide_eq_false (show ¬ (-8000000000 ≤ u ∧ u ≤ 8000000000) from fun g => h1 g.1)]
    go_enter Try.func44, Try.ntmps44
    go_wp2
    go_ret
    exact ⟨rfl, ⟨0, rfl⟩⟩
/-- The error of a vote. -/
def voteE (n last s i u : Int) : Int := if s < 0 ∨ n ≤ s ∨ i < 0 ∨ 3 < i ∨ ¬ (-8000000000 ≤ u ∧ u ≤ 8000000000) then 3 else if u < last then 12 else 0
/-- The world behind a vote. -/
def VoteW (w w' : World) (g : Nat) (e s i u : Int) : Prop := ∃ d, w' = if e = 0 then (((w.drewN d).setCell ⟨g, 2 * s.toNat + 1, none⟩ (.int .i64 i)).setCell ⟨g, 2 * s.toNat + 2, none⟩ (.int .i64 u)).setCell ⟨g, 25, none⟩ (.int .i64 u) else w.drewN d
set_option maxHeartbeats 1600000 in
set_option maxRecDepth 100000 in
theorem vote_nil (s i u : Int) (w : World) : Calls Try.prog 18 #[.pointer none, .int .i64 s, .int .i64 i, .int .i64 u] w fun e w' => e = .returned (.int .i64 1) ∧ w' = w := by
  have hu := Try.underlying84
  go_enter Try.func18, Try.ntmps18
  go_wp2
  go_ret
  exact ⟨rfl, rfl⟩
set_option maxHeartbeats 3200000 in
set_option maxRecDepth 100000 in
theorem vote_ok (g : Nat) (n : Int) (fi fa : Nat → Int) (last s i u : Int) (w : World) (hn : n ≤ 12) (hv : VB w g n fi fa last) :
    Calls Try.prog 18 #[.pointer (some ⟨g, 0, none⟩), .int .i64 s, .int .i64 i, .int .i64 u] w fun e w' => e = .returned (.int .i64 (voteE n last s i u)) ∧ VoteW w w' g (voteE n last s i u) s i u := by
  have hu := Try.underlying84
  have hu2 := Try.underlying81
  have HV := Aside0.mk hv
  have c0 : w.cell? ⟨g, 0, none⟩ = some (.int .i64 n) := (blk_cell hv 0).trans (VC_n ..)
  have c25 : w.cell? ⟨g, 25, none⟩ = some (.int .i64 last) := (blk_cell hv 25).trans (VC_last ..)
  have f25 : w.frozen? ⟨g, 25, none⟩ = false := blk_frozen hv 25
  have hlt := blk_lt hv
  clear hv
  by_cases h1 : s < 0
  · have HE := Aside0.mk (show voteE n last s i u = 3 from by unfold voteE; rw [if_pos (.inl h1)])
    rw [HE.out]
    go_enter Try.func18, Try.ntmps18
    go_wp2
    go_ret
    exact ⟨rfl, 0, rfl⟩
  by_cases h2 : n ≤ s
  · have HE := Aside0.mk (show voteE n last s i u = 3 from by unfold voteE; rw [if_pos (.inr (.inl h2))])
    rw [HE.out]
    go_enter Try.func18, Try.ntmps18
    go_wp2
    go_ret
    exact ⟨rfl, 0, rfl⟩
  by_cases h3 : i < 0
  · have HE := Aside0.mk (show voteE n last s i u = 3 from by unfold voteE; rw [if_pos (.inr (.inr (.inl h3)))])
    rw [HE.out]
    go_enter Try.func18, Try.ntmps18
    go_wp2
    go_ret
    exact ⟨rfl, 0, rfl⟩
  by_cases h4 : 3 < i
  · have HE := Aside0.mk (show voteE n last s i u = 3 from by unfold voteE; rw [if_pos (.inr (.inr (.inr (.inl h4))))])
    rw [HE.out]
    go_enter Try.func18, Try.ntmps18
    go_wp2
    go_ret
    exact ⟨rfl, 0, rfl⟩
  have HS := Aside0.mk (fun W => second_ok u W)
  by_cases h5 : -8000000000 ≤ u ∧ u ≤ 8000000000
  · rw [decide_eq_true h5] at HS
    by_cases h6 : u < last
    · have HE := Aside0.mk (show voteE n last s i u = 12 from by unfold voteE; rw [if_neg (by omega), if_pos h6])
      rw [HE.out]
      clear h5
      go_enter Try.func18, Try.ntmps18
      go_wp2_with fail
      refine (HS.out _).mono ?_
      rintro e w1 ⟨rfl, hb⟩
      obtain ⟨d, rfl⟩ := hb.out
      go_wp2
      go_ret
      exact ⟨rfl, d, rfl⟩
    · have HE := Aside0.mk (show voteE n last s i u = 0 from by unfold voteE; rw [if_neg (by omega), if_neg h6])
      rw [HE.out]
      clear h5
      obtain ⟨k, rfl⟩ := Int.eq_ofNat_of_zero_le (show 0 ≤ s by omega)
      have hk : k < 12 := by omega
      have hk3 : (k : Int) < 12 := by omega
      have ci : w.cell? ⟨g, 1 + k * 2, none⟩ = some (.int .i64 (fi k)) := by
        rw [show 1 + k * 2 = 2 * k + 1 by omega]
        exact (blk_cell HV.out (2 * k + 1)).trans (VC_ind _ _ _ _ k hk)
      have ca : w.cell? ⟨g, 1 + k * 2 + 1, none⟩ = some (.int .i64 (fa k)) := by
        rw [show 1 + k * 2 + 1 = 2 * k + 2 by omega]
        exact (blk_cell HV.out (2 * k + 2)).trans (VC_at _ _ _ _ k hk)
      have fi' : w.frozen? ⟨g, 1 + k * 2, none⟩ = false := blk_frozen HV.out _
      have fa' : w.frozen? ⟨g, 1 + k * 2 + 1, none⟩ = false := blk_frozen HV.out _
      go_enter Try.func18, Try.ntmps18
      go_wp2_with fail
      refine (HS.out _).mono ?_
      rintro e w1 ⟨rfl, hb⟩
      obtain ⟨d, rfl⟩ := hb.out
      go_wp2
      go_ret
      refine ⟨rfl, d, ?_⟩
      rw [if_pos rfl, Int.toNat_natCast, show 2 * k + 1 = 1 + k * 2 by omega, show 2 * k + 2 = 1 + k * 2 + 1 by omega]
  · rw [decide_eq_false h5] at HS
    have HE := Aside0.mk (show voteE n last s i u = 3 from by unfold voteE; rw [if_pos (.inr (.inr (.inr (.inr h5))))])
    rw [HE.out]
    go_enter Try.func18, Try.ntmps18
    go_wp2_with fail
    refine (HS.out _).mono ?_
    rintro e w1 ⟨rfl, hb⟩
    obtain ⟨d, rfl⟩ := hb.out
    go_wp2
    go_ret
    exact ⟨rfl, d, rfl⟩
end Go.Proofs.Ytljbajnmkkebkaa.Vo
