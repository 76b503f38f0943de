/- The plain law of LeapvoteArms. -/
import Derived.Test.YtljbajnmkkebkaaFArms
import Derived.Test.YtljbajnmkkebkaaRow
namespace Go.Proofs.Ytljbajnmkkebkaa.Pure
open Go.RowKit Go.Proofs.Ytljbajnmkkebkaa.All Go.Proofs.Ytljbajnmkkebkaa.Row

theorem LeapvoteArms : ∀ (a0_0 : Int) (a0_1 : Int) (l0_2 : List S44) (a1 : Int) (a2 : Bool), I64 a0_0 → I64 a0_1 → l0_2.length ≤ 9223372036854775807 → (∀ z ∈ l0_2, I64 z.f0 ∧ I64 z.f1) → I64 a1 → timesynclaw54_LeapvoteArms.f a0_0 a0_1 l0_2 a1 a2 = some true := fun _ _ _ _ _ _ _ _ _ _ => rfl
end Go.Proofs.Ytljbajnmkkebkaa.Pure
