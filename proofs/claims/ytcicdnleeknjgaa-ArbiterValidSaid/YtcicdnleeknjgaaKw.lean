-- Printed by a program of this session: what a row's datum says of the structs that the laws are handed. Lean checks it.
import Derived.Test.YtcicdnleeknjgaaKx0
import Derived.Test.YtcicdnleeknjgaaOpn
namespace Go.Proofs.Ytcicdnleeknjgaa.K
open Go.RowKit Go.Proofs.YtcicdnleeknjgaaW.PrintWords Go.Proofs.YtcicdnleeknjgaaW.PrintLast
set_option linter.unusedVariables false
def wf23 : S23 → Prop := fun x => (WfP (WfI .i64) (WfI .i64)) (x.f0, x.f1)
theorem opens23 : Opens Try.prog 23 k23 wf23 := Opens.iso (fun x : S23 => (x.f0, x.f1)) (fun y => ⟨y.1, y.2⟩) (fun _ => rfl) (Opens.struct (d := (Kd.pair (Kd.int .i64) (Kd.int .i64))) (wf := (WfP (WfI .i64) (WfI .i64))) Try.underlying23 (by kernel_rfl) (OpensF.cons (off := 0) (off' := 1) (Opens.int Try.underlying3 (by kernel_rfl)) rfl (by kernel_rfl) (OpensF.last (off := 1) (Opens.int Try.underlying3 (by kernel_rfl)) rfl)))
end Go.Proofs.Ytcicdnleeknjgaa.K
