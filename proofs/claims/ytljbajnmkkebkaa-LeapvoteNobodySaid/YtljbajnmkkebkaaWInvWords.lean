/- Words for the walks: what this claim's texts use of the words that the kit's print laid for it (cut down by wip/slim.py). No condition. -/
import Derived.Test.YtljbajnmkkebkaaWInv
import Derived.Test.YtljbajnmkkebkaaWFootNe
namespace Go.Proofs.YtljbajnmkkebkaaW.PrintWords
open Go.RowKit
end Go.Proofs.YtljbajnmkkebkaaW.PrintWords
namespace Go.Proofs.YtljbajnmkkebkaaW.PrintLast
end Go.Proofs.YtljbajnmkkebkaaW.PrintLast
