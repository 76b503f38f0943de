/- The plain law of CivilChecks. No condition beyond the arguments' kinds. -/
import Derived.Test.YtjkcfkfajipfiaaAll14
import Derived.Test.YtjkcfkfajipfiaaCivBr
import Derived.Test.YtjkcfkfajipfiaaRow
namespace Go.Proofs.Ytjkcfkfajipfiaa.Pure
open Go.RowKit Go.Proofs.Ytjkcfkfajipfiaa.All Go.Proofs.Ytjkcfkfajipfiaa.Row Go.Proofs.Ytjkcfkfajipfiaa.Civ Go.Proofs.Ytjkcfkfajipfiaa.CivB Go.Proofs.YtjkcfkfajipfiaaW.PrintWords Go.Proofs.YtjkcfkfajipfiaaW.PrintLast

theorem CivilChecks : ∀ (a0_0 : Int) (a0_1 : Int) (a0_2 : Int) (a0_3 : Int) (a0_4 : Int) (a0_5 : Int) (a0_6 : Int), I64 a0_0 → I64 a0_1 → I64 a0_2 → I64 a0_3 → I64 a0_4 → I64 a0_5 → I64 a0_6 → ∃ k, timesynclaw05_CivilChecks.f k a0_0 a0_1 a0_2 a0_3 a0_4 a0_5 a0_6 = some true := by
  intro y m d h mi s n _ _ _ _ _ _ _
  refine ⟨2000, ?_⟩
  unfold timesynclaw05_CivilChecks.f
  rw [seconds_f, Option.bind_some, rseconds_f, Option.bind_some, check_f, Option.bind_some, rcheck_f 2000 (by omega), Option.bind_some, if_pos rfl, if_pos rfl, if_pos rfl, awake_f, Option.bind_some]

end Go.Proofs.Ytjkcfkfajipfiaa.Pure
