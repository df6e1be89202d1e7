-- Printed by a program of this session: the pure statement of the law ArbiterFalls.
import Derived.Test.YtcicdnleeknjgaaKw
import Derived.Test.YtcicdnleeknjgaaKx10
namespace Go.Proofs.Ytcicdnleeknjgaa.K
open Go.RowKit Go.Proofs.YtcicdnleeknjgaaW.PrintWords Go.Proofs.YtcicdnleeknjgaaW.PrintLast
def emulatorlaw12_ArbiterFalls.Pure : Prop := ∀ (l0 : List (S23)) (a1 : Int), (WfL wf23) l0 → (Lit.int .u8 a1).wf = true → ∃ k, emulatorlaw12_ArbiterFalls.f k l0 a1 = some true
end Go.Proofs.Ytcicdnleeknjgaa.K
