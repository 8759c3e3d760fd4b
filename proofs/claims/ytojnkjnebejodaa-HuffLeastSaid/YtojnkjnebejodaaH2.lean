/- HuffCosts: the law's walk. -/
import Derived.Test.YtojnkjnebejodaaH1
namespace Go.Proofs.Ytojnkjnebejodaa.E
open Go
