-- Printed by a program of this session: the pure statement of the law ObjectEncodes.
import Derived.Test.YtenlmckahaniiaaKw
import Derived.Test.YtenlmckahaniiaaKx39
namespace Go.Proofs.Ytenlmckahaniiaa.K
open Go.RowKit Go.Proofs.YtenlmckahaniiaaW.PrintWords Go.Proofs.YtenlmckahaniiaaW.PrintLast
def emulatorlaw28_ObjectEncodes.Pure : Prop := ∀ (a0_0 : ByteArray) (a0_1 : ByteArray) (a0_2 : ByteArray) (a0_3 : Int) (l0_4 : List (S62)) (l0_5 : List (S43)), a0_0.size ≤ 9223372036854775807 → a0_1.size ≤ 9223372036854775807 → a0_2.size ≤ 9223372036854775807 → (Lit.int .i64 a0_3).wf = true → (WfL wf62) l0_4 → (WfL wf43) l0_5 → ∃ k, emulatorlaw28_ObjectEncodes.f k a0_0 a0_1 a0_2 a0_3 l0_4 l0_5 = some true
end Go.Proofs.Ytenlmckahaniiaa.K
