-- Printed by a program of this session: the pure statement of the law ArbiterValid.
import Derived.Test.YtcicdnleeknjgaaKw
import Derived.Test.YtcicdnleeknjgaaKx4
namespace Go.Proofs.Ytcicdnleeknjgaa.K
open Go.RowKit Go.Proofs.YtcicdnleeknjgaaW.PrintWords Go.Proofs.YtcicdnleeknjgaaW.PrintLast
def emulatorlaw12_ArbiterValid.Pure : Prop := ∀ (a0_0 : Int) (a0_1 : Int), (Lit.int .i64 a0_0).wf = true → (Lit.int .i64 a0_1).wf = true → ∃ k, emulatorlaw12_ArbiterValid.f k a0_0 a0_1 = some true
end Go.Proofs.Ytcicdnleeknjgaa.K
