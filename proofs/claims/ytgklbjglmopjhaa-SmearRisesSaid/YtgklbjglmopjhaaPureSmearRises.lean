/- The plain law of SmearRises. No condition beyond the arguments' kinds. -/
import Derived.Test.YtgklbjglmopjhaaAll15
import Derived.Test.YtgklbjglmopjhaaAll9
import Derived.Test.YtgklbjglmopjhaaSmM
import Derived.Test.YtgklbjglmopjhaaRow
namespace Go.Proofs.Ytgklbjglmopjhaa.Pure
open Go.RowKit Go.Proofs.Ytgklbjglmopjhaa.All Go.Proofs.Ytgklbjglmopjhaa.Row Go.Proofs.Ytgklbjglmopjhaa.CivB Go.Proofs.Ytgklbjglmopjhaa.Sm Go.Proofs.YtgklbjglmopjhaaW.PrintWords Go.Proofs.YtgklbjglmopjhaaW.PrintLast

theorem rises_j1 (k : Nat) (d a b : Int) (z : Bool) (h : z = false → 0 ≤ b - a ∧ b - a ≤ 2 * d) (hd : 0 ≤ d ∧ d ≤ 4294967295) : timesynclaw07_SmearRises.j1 (k + 1) d a b z = some true := by
  rw [timesynclaw07_SmearRises.j1]
  cases z
  · obtain ⟨h1, h2⟩ := h rfl
    rw [if_neg (by decide), if_pos (by omega), wz (x := b - a) (by omega), wz (x := 2 * d) (by omega), if_pos h2]
    rfl
  · rfl
theorem SmearRises : ∀ (a0_0 : Int) (a0_1 : Int) (l0_2 : List (S40)) (a1_0 : Int) (a1_1 : Int) (a2 : Int) (a3 : Int), I64 a0_0 → I64 a0_1 → l0_2.length ≤ 9223372036854775807 → (∀ z ∈ l0_2, I64 z.f0 ∧ I64 z.f1) → I64 a1_0 → I64 a1_1 → I64 a2 → (0 ≤ a3 ∧ a3 ≤ 4294967295) → ∃ k, timesynclaw07_SmearRises.f k a0_0 a0_1 l0_2 a1_0 a1_1 a2 a3 = some true := by
  intro b x l K W t d _ _ _ _ _ _ _ hd
  refine ⟨2400, ?_⟩
  have jt : timesynclaw07_SmearRises.j0 2400 t d true b x l K W = some true := rfl
  unfold timesynclaw07_SmearRises.f timesynclaw07_small.f
  rw [Option.bind_some]
  by_cases h : (l.length : Int) ≤ 80
  · rw [decide_eq_true h, if_pos rfl]
    by_cases h1 : K = 1
    · rw [if_pos h1, jt]
    · rw [if_neg h1]
      by_cases h2 : t < -8000000000000000000
      · rw [if_pos h2, jt]
      · rw [if_neg h2]
        by_cases h3 : t > 8000000000000000000
        · rw [decide_eq_true h3, jt]
        · rw [decide_eq_false h3, timesynclaw07_SmearRises.j0, if_neg (by decide), read_s 2399 (by omega), Option.bind_some, wz (x := d) (by omega), wz (x := t + d) (by omega), read_s 2399 (by omega), Option.bind_some]
          by_cases h4 : (readS b x l K W t).2 = 0
          · rw [if_pos h4]
            refine rises_j1 2398 d _ _ _ (fun hz => ?_) hd
            have h5 : (readS b x l K W (t + d)).2 = 0 := by simpa using hz
            obtain ⟨hp, _, _, e1⟩ := readS_ok h4
            obtain ⟨_, _, _, e2⟩ := readS_ok h5
            rw [e1, e2]
            obtain ⟨n, rfl⟩ := Int.eq_ofNat_of_zero_le hd.1
            have hW : 2 ≤ W ∧ W ≤ 172800 := by rcases hp.kind with g | g <;> omega
            exact rise K W hW b l hp.tab.chain t n
          · rw [if_neg h4]
            exact rises_j1 2398 d _ _ _ (fun hz => by cases hz) hd
  · rw [decide_eq_false h, if_neg (by decide), jt]

end Go.Proofs.Ytgklbjglmopjhaa.Pure
