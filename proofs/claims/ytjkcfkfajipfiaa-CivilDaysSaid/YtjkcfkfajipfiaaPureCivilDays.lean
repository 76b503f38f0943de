/- The plain law of CivilDays. No condition beyond the arguments' kinds. -/
import Derived.Test.YtjkcfkfajipfiaaAll9
import Derived.Test.YtjkcfkfajipfiaaCivBr
import Derived.Test.YtjkcfkfajipfiaaRow
namespace Go.Proofs.Ytjkcfkfajipfiaa.Pure
open Go.RowKit Go.Proofs.Ytjkcfkfajipfiaa.All Go.Proofs.Ytjkcfkfajipfiaa.Row Go.Proofs.Ytjkcfkfajipfiaa.Civ Go.Proofs.Ytjkcfkfajipfiaa.CivB Go.Proofs.YtjkcfkfajipfiaaW.PrintWords Go.Proofs.YtjkcfkfajipfiaaW.PrintLast

theorem CivilDays : ∀ (a0 : Int) (a1 : Int) (a2 : Int), I64 a0 → I64 a1 → I64 a2 → ∃ k, timesynclaw05_CivilDays.f k a0 a1 a2 = some true := by
  intro s y m hs _ _
  refine ⟨2000, ?_⟩
  unfold timesynclaw05_CivilDays.f
  rw [week_f s hs, Option.bind_some, rweek_f s hs, Option.bind_some, if_pos rfl, mjd_f s hs, Option.bind_some, rmjd_f s hs, Option.bind_some, if_pos rfl, md_f, Option.bind_some, rmd_f 2000 (by omega), Option.bind_some, if_pos rfl, awake_f, Option.bind_some]

end Go.Proofs.Ytjkcfkfajipfiaa.Pure
