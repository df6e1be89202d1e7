-- Printed by a program of this session: the pure statement of the law TtyInputs.
import Derived.Test.YtgcmhfoegbaaiaaKw
import Derived.Test.YtgcmhfoegbaaiaaKx23
namespace Go.Proofs.Ytgcmhfoegbaaiaa.K
open Go.RowKit Go.Proofs.YtgcmhfoegbaaiaaW.PrintWords Go.Proofs.YtgcmhfoegbaaiaaW.PrintLast
def emulatorlaw43_TtyInputs.Pure : Prop := ∀ (a0_0 : Bool) (a0_1 : ByteArray) (l0_2 : List ByteArray) (a0_3 : ByteArray) (a1 : Int), a0_1.size ≤ 9223372036854775807 → (WfL WfS) l0_2 → a0_3.size ≤ 9223372036854775807 → (Lit.int .i64 a1).wf = true → ∃ k, emulatorlaw43_TtyInputs.f k a0_0 a0_1 l0_2 a0_3 a1 = some true
end Go.Proofs.Ytgcmhfoegbaaiaa.K
