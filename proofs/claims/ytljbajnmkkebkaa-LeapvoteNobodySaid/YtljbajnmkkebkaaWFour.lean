/- Words for the walks: what this claim's texts use of the words that the kit's print laid for it (cut down by wip/slim.py). No condition. -/
import Derived.Test.YtljbajnmkkebkaaWTab
namespace Go.Proofs.YtljbajnmkkebkaaW.PrintLast
end Go.Proofs.YtljbajnmkkebkaaW.PrintLast
