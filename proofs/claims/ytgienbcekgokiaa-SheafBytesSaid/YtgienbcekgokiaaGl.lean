/- The package's variables that are known: each one's number, its cells. -/
import Derived.Test.YtgienbcekgokiaaPm1
namespace Go.Proofs.Ytgienbcekgokiaa
open Go
namespace Pm
def gl1 : List (Nat × List V) := []
def gl2 : List (Nat × List V) := []
def globs : List (Nat × List V) := gl1 ++ gl2
end Pm
end Go.Proofs.Ytgienbcekgokiaa
