/- Words for the walks: what this claim's texts use of the words that the kit's print laid for it (cut down by wip/slim.py). No condition. -/
import Derived.Test.YtljbajnmkkebkaaWWords
namespace Go.Proofs.YtljbajnmkkebkaaW.PrintWords
open Go.RowKit
namespace Kd
end Kd
end Go.Proofs.YtljbajnmkkebkaaW.PrintWords
