/- The plain law of CivilOf. No condition beyond the arguments' kinds. -/
import Derived.Test.YtjkcfkfajipfiaaAll5
import Derived.Test.YtjkcfkfajipfiaaCivBr
import Derived.Test.YtjkcfkfajipfiaaRow
namespace Go.Proofs.Ytjkcfkfajipfiaa.Pure
open Go.RowKit Go.Proofs.Ytjkcfkfajipfiaa.All Go.Proofs.Ytjkcfkfajipfiaa.Row Go.Proofs.Ytjkcfkfajipfiaa.Civ Go.Proofs.Ytjkcfkfajipfiaa.CivB Go.Proofs.YtjkcfkfajipfiaaW.PrintWords Go.Proofs.YtjkcfkfajipfiaaW.PrintLast

theorem CivilOf : ∀ (a0 : Int), I64 a0 → ∃ k, timesynclaw05_CivilOf.f k a0 = some true := by
  intro s _
  refine ⟨2000, ?_⟩
  unfold timesynclaw05_CivilOf.f
  rw [of_f, Option.bind_some, rof_f, Option.bind_some, awake_f]
  simp

end Go.Proofs.Ytjkcfkfajipfiaa.Pure
