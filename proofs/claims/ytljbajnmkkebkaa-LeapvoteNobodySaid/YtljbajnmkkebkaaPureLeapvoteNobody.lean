/- The plain law of LeapvoteNobody. -/
import Derived.Test.YtljbajnmkkebkaaFNobody
import Derived.Test.YtljbajnmkkebkaaRow
namespace Go.Proofs.Ytljbajnmkkebkaa.Pure
open Go.RowKit Go.Proofs.Ytljbajnmkkebkaa.All Go.Proofs.Ytljbajnmkkebkaa.Row

theorem LeapvoteNobody : ∀ (a0 : Int) (a1 : Int) (a2 : Int), I64 a0 → I64 a1 → I64 a2 → timesynclaw54_LeapvoteNobody.f a0 a1 a2 = some true := fun _ _ _ _ _ _ => rfl
end Go.Proofs.Ytljbajnmkkebkaa.Pure
