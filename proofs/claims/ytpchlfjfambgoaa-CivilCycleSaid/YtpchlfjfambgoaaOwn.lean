/- Small plain lemmas that the texts of this seat use: bounds of a wrapped maximum. No condition. -/
import Derived.Test.YtpchlfjfambgoaaWWords
import Derived.Test.YtpchlfjfambgoaaWMore
namespace Go.Proofs.Ytpchlfjfambgoaa.Own
open Go.RowKit Go.Proofs.YtpchlfjfambgoaaW.PrintWords Go.Proofs.YtpchlfjfambgoaaW.PrintLast Go.Proofs.YtpchlfjfambgoaaW.PrintMore

theorem w64_range (x : Int) : -9223372036854775808 ≤ wrap64 x ∧ wrap64 x ≤ 9223372036854775807 := by
  unfold wrap64
  omega
theorem mx_w64_hi {x j : Int} (h : mx 0 (wrap64 x) = j) : j ≤ 9223372036854775807 := by
  have := w64_range x
  rw [← h]
  unfold mx
  split <;> omega
/-- What is read behind two stores into one cell (as a rule of its own: the walk's rules reach no deeper). -/
theorem cell_twice (w : World) (a : Addr) (u v : Value) (h : (w.cell? a).isSome = true) : ((w.setCell a u).setCell a v).cell? a = some v := by
  refine World.cell?_setCell_same' _ a v ?_
  rw [World.cell?_setCell_same' _ a u h]
  rfl
end Go.Proofs.Ytpchlfjfambgoaa.Own
