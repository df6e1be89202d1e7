-- Printed by a program of this session: the pure statement of the law ArbiterGrants.
import Derived.Test.YtcicdnleeknjgaaKw
import Derived.Test.YtcicdnleeknjgaaKx8
namespace Go.Proofs.Ytcicdnleeknjgaa.K
open Go.RowKit Go.Proofs.YtcicdnleeknjgaaW.PrintWords Go.Proofs.YtcicdnleeknjgaaW.PrintLast
def emulatorlaw12_ArbiterGrants.Pure : Prop := ∀ (l0 : List (S23)) (a1 : Int), (WfL wf23) l0 → (Lit.int .i64 a1).wf = true → ∃ k, emulatorlaw12_ArbiterGrants.f k l0 a1 = some true
end Go.Proofs.Ytcicdnleeknjgaa.K
