-- Printed by a program of this session: the pure statement of the law TtyLines.
import Derived.Test.YtgcmhfoegbaaiaaKw
import Derived.Test.YtgcmhfoegbaaiaaKx12
namespace Go.Proofs.Ytgcmhfoegbaaiaa.K
open Go.RowKit Go.Proofs.YtgcmhfoegbaaiaaW.PrintWords Go.Proofs.YtgcmhfoegbaaiaaW.PrintLast
def emulatorlaw43_TtyLines.Pure : Prop := ∀ (a0_0 : Bool) (a0_1 : ByteArray) (l0_2 : List ByteArray) (a0_3 : ByteArray) (a1 : ByteArray) (a2 : Int), a0_1.size ≤ 9223372036854775807 → (WfL WfS) l0_2 → a0_3.size ≤ 9223372036854775807 → a1.size ≤ 140737488351232 → (Lit.int .u8 a2).wf = true → ∃ k, emulatorlaw43_TtyLines.f k a0_0 a0_1 l0_2 a0_3 a1 a2 = some true
end Go.Proofs.Ytgcmhfoegbaaiaa.K
