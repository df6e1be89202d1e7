-- Printed by a program of this session: the pure statement of the law ObjectNames.
import Derived.Test.YtenlmckahaniiaaKw
import Derived.Test.YtenlmckahaniiaaKx51
namespace Go.Proofs.Ytenlmckahaniiaa.K
open Go.RowKit Go.Proofs.YtenlmckahaniiaaW.PrintWords Go.Proofs.YtenlmckahaniiaaW.PrintLast
def emulatorlaw28_ObjectNames.Pure : Prop := ∀ (a0_0 : ByteArray) (a0_1 : ByteArray) (a0_2 : ByteArray) (a0_3 : Int) (l0_4 : List (S62)) (l0_5 : List (S43)) (a1 : ByteArray), a0_0.size ≤ 9223372036854775807 → a0_1.size ≤ 9223372036854775807 → a0_2.size ≤ 9223372036854775807 → (Lit.int .i64 a0_3).wf = true → (WfL wf62) l0_4 → (WfL wf43) l0_5 → a1.size ≤ 140737488351232 → ∃ k, emulatorlaw28_ObjectNames.f k a0_0 a0_1 a0_2 a0_3 l0_4 l0_5 a1 = some true
end Go.Proofs.Ytenlmckahaniiaa.K
