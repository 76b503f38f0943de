/- Words for the walks: what this claim's texts use of the words that the kit's print laid for it (cut down by wip/slim.py). No condition. -/
import Derived.Test.YtpchlfjfambgoaaWInv
import Derived.Test.YtpchlfjfambgoaaWFootNe
namespace Go.Proofs.YtpchlfjfambgoaaW.PrintWords
open Go.RowKit
end Go.Proofs.YtpchlfjfambgoaaW.PrintWords
namespace Go.Proofs.YtpchlfjfambgoaaW.PrintLast
end Go.Proofs.YtpchlfjfambgoaaW.PrintLast
