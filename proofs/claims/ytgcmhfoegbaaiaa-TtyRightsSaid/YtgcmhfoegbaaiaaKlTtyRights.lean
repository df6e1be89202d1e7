-- Printed by a program of this session: the pure statement of the law TtyRights.
import Derived.Test.YtgcmhfoegbaaiaaKw
import Derived.Test.YtgcmhfoegbaaiaaKx20
namespace Go.Proofs.Ytgcmhfoegbaaiaa.K
open Go.RowKit Go.Proofs.YtgcmhfoegbaaiaaW.PrintWords Go.Proofs.YtgcmhfoegbaaiaaW.PrintLast
def emulatorlaw43_TtyRights.Pure : Prop := ∀ (a0_0 : Bool) (a0_1 : ByteArray) (l0_2 : List ByteArray) (a0_3 : ByteArray), a0_1.size ≤ 9223372036854775807 → (WfL WfS) l0_2 → a0_3.size ≤ 9223372036854775807 → ∃ k, emulatorlaw43_TtyRights.f k a0_0 a0_1 l0_2 a0_3 = some true
end Go.Proofs.Ytgcmhfoegbaaiaa.K
