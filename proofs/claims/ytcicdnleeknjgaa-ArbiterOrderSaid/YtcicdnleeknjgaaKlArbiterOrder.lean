-- Printed by a program of this session: the pure statement of the law ArbiterOrder.
import Derived.Test.YtcicdnleeknjgaaKw
import Derived.Test.YtcicdnleeknjgaaKx9
namespace Go.Proofs.Ytcicdnleeknjgaa.K
open Go.RowKit Go.Proofs.YtcicdnleeknjgaaW.PrintWords Go.Proofs.YtcicdnleeknjgaaW.PrintLast
def emulatorlaw12_ArbiterOrder.Pure : Prop := ∀ (l0 : List (S23)), (WfL wf23) l0 → ∃ k, emulatorlaw12_ArbiterOrder.f k l0 = some true
end Go.Proofs.Ytcicdnleeknjgaa.K
