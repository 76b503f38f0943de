/- The plain law of LeapvoteExtends. -/
import Derived.Test.YtljbajnmkkebkaaFExtends
import Derived.Test.YtljbajnmkkebkaaRow
namespace Go.Proofs.Ytljbajnmkkebkaa.Pure
open Go.RowKit Go.Proofs.Ytljbajnmkkebkaa.All Go.Proofs.Ytljbajnmkkebkaa.Row

theorem LeapvoteExtends : ∀ (a0_0 : Int) (a0_1 : Int) (l0_2 : List S44) (a1_0 : Int) (a1_1 : Int), I64 a0_0 → I64 a0_1 → l0_2.length ≤ 9223372036854775807 → (∀ z ∈ l0_2, I64 z.f0 ∧ I64 z.f1) → I64 a1_0 → I64 a1_1 → timesynclaw54_LeapvoteExtends.f a0_0 a0_1 l0_2 a1_0 a1_1 = some true := fun _ _ _ _ _ _ _ _ _ _ _ => rfl
end Go.Proofs.Ytljbajnmkkebkaa.Pure
