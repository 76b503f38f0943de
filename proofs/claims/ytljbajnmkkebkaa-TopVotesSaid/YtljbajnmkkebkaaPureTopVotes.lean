/- The plain law of TopVotes. -/
import Derived.Test.YtljbajnmkkebkaaFTop
import Derived.Test.YtljbajnmkkebkaaRow
namespace Go.Proofs.Ytljbajnmkkebkaa.Pure
open Go.RowKit Go.Proofs.Ytljbajnmkkebkaa.All Go.Proofs.Ytljbajnmkkebkaa.Row

theorem TopVotes : ∀ (a0_0 : Int) (a0_1 : Int) (l0_2 : List S44) (l1 : List Int) (a2 : Int), I64 a0_0 → I64 a0_1 → l0_2.length ≤ 9223372036854775807 → (∀ z ∈ l0_2, I64 z.f0 ∧ I64 z.f1) → l1.length ≤ 9223372036854775807 → (∀ z ∈ l1, I64 z) → I64 a2 → timesynctop_TopVotes.f a0_0 a0_1 l0_2 l1 a2 = some true := fun _ _ _ _ _ _ _ _ _ _ _ _ => rfl
end Go.Proofs.Ytljbajnmkkebkaa.Pure
