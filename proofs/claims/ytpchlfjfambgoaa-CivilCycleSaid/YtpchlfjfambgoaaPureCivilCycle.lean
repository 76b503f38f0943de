/- The plain law of CivilCycle: its walk holds the whole proof. No condition beyond the arguments' kinds. -/
import Derived.Test.YtpchlfjfambgoaaAll11
import Derived.Test.YtpchlfjfambgoaaRow
namespace Go.Proofs.Ytpchlfjfambgoaa.Pure
open Go.RowKit Go.Proofs.Ytpchlfjfambgoaa.All Go.Proofs.Ytpchlfjfambgoaa.Row Go.Proofs.YtpchlfjfambgoaaW.PrintWords Go.Proofs.YtpchlfjfambgoaaW.PrintLast

theorem CivilCycle : ∀ (a0 : Int) (a1 : Int), I64 a0 → I64 a1 → timesynclaw05_CivilCycle.f a0 a1 = some true := fun _ _ _ _ => rfl

end Go.Proofs.Ytpchlfjfambgoaa.Pure
