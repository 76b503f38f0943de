/- The plain law of LeapvoteRuns. -/
import Derived.Test.YtljbajnmkkebkaaFRuns
import Derived.Test.YtljbajnmkkebkaaRow
namespace Go.Proofs.Ytljbajnmkkebkaa.Pure
open Go.RowKit Go.Proofs.Ytljbajnmkkebkaa.All Go.Proofs.Ytljbajnmkkebkaa.Row

theorem LeapvoteRuns : ∀ (a0 : Int) (l1 : List S60) (a2 : Int), I64 a0 → l1.length ≤ 9223372036854775807 → (∀ z ∈ l1, I64 z.f0 ∧ I64 z.f1 ∧ I64 z.f2) → I64 a2 → timesynclaw54_LeapvoteRuns.f a0 l1 a2 = some true := fun _ _ _ _ _ _ _ => rfl
end Go.Proofs.Ytljbajnmkkebkaa.Pure
