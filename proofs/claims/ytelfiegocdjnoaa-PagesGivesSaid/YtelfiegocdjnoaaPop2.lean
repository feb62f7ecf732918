/- A word's bits: how many, where they stand, what two words have. No program, no memory. -/
import Derived.Test.YtelfiegocdjnoaaPop
namespace Go.Proofs.Ytelfiegocdjnoaa.Pop
set_option linter.unusedVariables false
set_option maxRecDepth 100000
end Go.Proofs.Ytelfiegocdjnoaa.Pop
