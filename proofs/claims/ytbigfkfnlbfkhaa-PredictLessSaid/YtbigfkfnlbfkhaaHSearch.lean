/- Of two numbers the one that an index tells. -/
import Derived.WalkKit
namespace Go.Proofs.Ytbigfkfnlbfkhaa.HSearch
def pick2 (j a b : Int) : Int := if j = 0 then a else b
end Go.Proofs.Ytbigfkfnlbfkhaa.HSearch
