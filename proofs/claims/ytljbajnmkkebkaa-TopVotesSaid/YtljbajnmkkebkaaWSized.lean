/- Words for the walks: what this claim's texts use of the words that the kit's print laid for it (cut down by wip/slim.py). No condition. -/
import Derived.SizedLaws
import Derived.ChangeSlices
namespace Go.Proofs.YtljbajnmkkebkaaW.PrintWords
open Go.ChangeShapes Go.WideShapes
end Go.Proofs.YtljbajnmkkebkaaW.PrintWords
