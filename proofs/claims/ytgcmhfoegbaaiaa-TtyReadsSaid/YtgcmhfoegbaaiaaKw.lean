-- Printed by a program of this session: what a row's datum says of the structs that the laws are handed. Lean checks it.
import Derived.Test.YtgcmhfoegbaaiaaKx0
import Derived.Test.YtgcmhfoegbaaiaaOpn
namespace Go.Proofs.Ytgcmhfoegbaaiaa.K
open Go.RowKit Go.Proofs.YtgcmhfoegbaaiaaW.PrintWords Go.Proofs.YtgcmhfoegbaaiaaW.PrintLast
set_option linter.unusedVariables false
end Go.Proofs.Ytgcmhfoegbaaiaa.K
