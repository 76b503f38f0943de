/- The plain law of LeapvoteMajority. -/
import Derived.Test.YtljbajnmkkebkaaFMajority
import Derived.Test.YtljbajnmkkebkaaRow
namespace Go.Proofs.Ytljbajnmkkebkaa.Pure
open Go.RowKit Go.Proofs.Ytljbajnmkkebkaa.All Go.Proofs.Ytljbajnmkkebkaa.Row

theorem LeapvoteMajority : ∀ (a0 : Int) (a1 : Int) (l2 : List Int) (a3 : Int), I64 a0 → (0 ≤ a1 ∧ a1 ≤ 255) → l2.length ≤ 9223372036854775807 → (∀ z ∈ l2, 0 ≤ z ∧ z ≤ 255) → (-2147483648 ≤ a3 ∧ a3 ≤ 2147483647) → timesynclaw54_LeapvoteMajority.f a0 a1 l2 a3 = some true := by
  intro a0 a1 l2 a3 _ h1 _ h2 h3
  unfold timesynclaw54_LeapvoteMajority.f
  rw [if_pos ⟨h1, h2, h3⟩]
end Go.Proofs.Ytljbajnmkkebkaa.Pure
