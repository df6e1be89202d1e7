/-
  No cell of these rows narrows 'for every input' (looked for: loops, veiled, ifaces, maps, wideKeys, modest, calm, conditions, laid).
  DERIVED. THE GIVEN ROWS OF THIS SEAT. 7 by the template 'for every input the law returns true; each argument reads behind the call as it read before'; 0 by the template 'total and deterministic' (their statements: YtgcmhfoegbaaiaaTotals.lean).
  GIVEN WITH THE SEED: the statements are not yours to turn. If you find one false, say at which input.
  Laid BY PROGRAM, IN A SANDBOX (cutbox-rows.mjs): the forced cells as the released guide's own fill.sh prints them over the translation d0d07c92e84a4571… (all of the seat's roots in one cut). By AI agents, Wed Nov 11 2026. No macro, syntax, notation, axiom, sorry.
-/
import Derived.Test.YtgcmhfoegbaaiaaChecked
import GoSem.Claim
import GoSem.ClaimJoined
import GoSem.ClaimMapViews
import Derived.JoinedTies
import Derived.KernelRfl
namespace Go.Proofs.Ytgcmhfoegbaaiaa
/- THE CELL 'sum', in the pinned program and in every row, IS THE sha256 OF THE DUMP (.gsa) THAT YtgcmhfoegbaaiaaProg.lean LOADS. Nothing in Lean hashes anything: it is a label: what it is worth is what the hold of that sum in a sandbox is worth. -/
noncomputable def Try.pinned : Pinned := { name := "ytgcmhfoegbaaiaa", sum := "d0d07c92e84a457134e1c7632eecb7d21d4ce347708d69ca15b13b64ea3bd18f", checked := Try.checked }
namespace Rows
def none {H : Type} : Left H := { results := [], args := [] }

/-- 'emulatorlaw43.TtyLines': WHATEVER THE INPUT: true; the input reads as it did. -/
def ttyLinesSpec : ChangeSpec := { name := "ttyLines", fn := fun _ => fun
  | [d1, d2, d3] => { results := [.lit (.bool true)], args := [d1, d2, d3] }
  | _ => none }
def ttyLinesRow : OpenClaim := { program := "ytgcmhfoegbaaiaa", sum := "d0d07c92e84a457134e1c7632eecb7d21d4ce347708d69ca15b13b64ea3bd18f", func := "emulator/emulatorlaw43.TtyLines", spec := "ttyLines", apart := false }
def TtyLinesSaid : Prop := ttyLinesRow.holds Try.pinned (OpenSpec.ofChange ttyLinesSpec)

/-- ITS FALSE NEIGHBOUR: 'it returns false'. Refute it at one input. -/
def ttyLinesWrong : ChangeSpec := { name := "ttyLines", fn := fun _ => fun
  | [d1, d2, d3] => { results := [.lit (.bool false)], args := [d1, d2, d3] }
  | _ => none }
def TtyLinesWrongFalsely : Prop := ttyLinesRow.holds Try.pinned (OpenSpec.ofChange ttyLinesWrong)

/-- 'emulatorlaw43.TtyRaw': WHATEVER THE INPUT: true; the input reads as it did. -/
def ttyRawSpec : ChangeSpec := { name := "ttyRaw", fn := fun _ => fun
  | [d] => { results := [.lit (.bool true)], args := [d] }
  | _ => none }
def ttyRawRow : OpenClaim := { program := "ytgcmhfoegbaaiaa", sum := "d0d07c92e84a457134e1c7632eecb7d21d4ce347708d69ca15b13b64ea3bd18f", func := "emulator/emulatorlaw43.TtyRaw", spec := "ttyRaw", apart := false }
def TtyRawSaid : Prop := ttyRawRow.holds Try.pinned (OpenSpec.ofChange ttyRawSpec)

/-- ITS FALSE NEIGHBOUR: 'it returns false'. Refute it at one input. -/
def ttyRawWrong : ChangeSpec := { name := "ttyRaw", fn := fun _ => fun
  | [d] => { results := [.lit (.bool false)], args := [d] }
  | _ => none }
def TtyRawWrongFalsely : Prop := ttyRawRow.holds Try.pinned (OpenSpec.ofChange ttyRawWrong)

/-- 'emulatorlaw43.TtyOut': WHATEVER THE INPUT: true; the input reads as it did. -/
def ttyOutSpec : ChangeSpec := { name := "ttyOut", fn := fun _ => fun
  | [d1, d2] => { results := [.lit (.bool true)], args := [d1, d2] }
  | _ => none }
def ttyOutRow : OpenClaim := { program := "ytgcmhfoegbaaiaa", sum := "d0d07c92e84a457134e1c7632eecb7d21d4ce347708d69ca15b13b64ea3bd18f", func := "emulator/emulatorlaw43.TtyOut", spec := "ttyOut", apart := false }
def TtyOutSaid : Prop := ttyOutRow.holds Try.pinned (OpenSpec.ofChange ttyOutSpec)

/-- ITS FALSE NEIGHBOUR: 'it returns false'. Refute it at one input. -/
def ttyOutWrong : ChangeSpec := { name := "ttyOut", fn := fun _ => fun
  | [d1, d2] => { results := [.lit (.bool false)], args := [d1, d2] }
  | _ => none }
def TtyOutWrongFalsely : Prop := ttyOutRow.holds Try.pinned (OpenSpec.ofChange ttyOutWrong)

/-- 'emulatorlaw43.TtyRights': WHATEVER THE INPUT: true; the input reads as it did. -/
def ttyRightsSpec : ChangeSpec := { name := "ttyRights", fn := fun _ => fun
  | [d] => { results := [.lit (.bool true)], args := [d] }
  | _ => none }
def ttyRightsRow : OpenClaim := { program := "ytgcmhfoegbaaiaa", sum := "d0d07c92e84a457134e1c7632eecb7d21d4ce347708d69ca15b13b64ea3bd18f", func := "emulator/emulatorlaw43.TtyRights", spec := "ttyRights", apart := false }
def TtyRightsSaid : Prop := ttyRightsRow.holds Try.pinned (OpenSpec.ofChange ttyRightsSpec)

/-- ITS FALSE NEIGHBOUR: 'it returns false'. Refute it at one input. -/
def ttyRightsWrong : ChangeSpec := { name := "ttyRights", fn := fun _ => fun
  | [d] => { results := [.lit (.bool false)], args := [d] }
  | _ => none }
def TtyRightsWrongFalsely : Prop := ttyRightsRow.holds Try.pinned (OpenSpec.ofChange ttyRightsWrong)

/-- 'emulatorlaw43.TtyInputs': WHATEVER THE INPUT: true; the input reads as it did. -/
def ttyInputsSpec : ChangeSpec := { name := "ttyInputs", fn := fun _ => fun
  | [d1, d2] => { results := [.lit (.bool true)], args := [d1, d2] }
  | _ => none }
def ttyInputsRow : OpenClaim := { program := "ytgcmhfoegbaaiaa", sum := "d0d07c92e84a457134e1c7632eecb7d21d4ce347708d69ca15b13b64ea3bd18f", func := "emulator/emulatorlaw43.TtyInputs", spec := "ttyInputs", apart := false }
def TtyInputsSaid : Prop := ttyInputsRow.holds Try.pinned (OpenSpec.ofChange ttyInputsSpec)

/-- ITS FALSE NEIGHBOUR: 'it returns false'. Refute it at one input. -/
def ttyInputsWrong : ChangeSpec := { name := "ttyInputs", fn := fun _ => fun
  | [d1, d2] => { results := [.lit (.bool false)], args := [d1, d2] }
  | _ => none }
def TtyInputsWrongFalsely : Prop := ttyInputsRow.holds Try.pinned (OpenSpec.ofChange ttyInputsWrong)

/-- 'emulatorlaw43.TtyReads': WHATEVER THE INPUT: true; the input reads as it did. -/
def ttyReadsSpec : ChangeSpec := { name := "ttyReads", fn := fun _ => fun
  | [d1, d2] => { results := [.lit (.bool true)], args := [d1, d2] }
  | _ => none }
def ttyReadsRow : OpenClaim := { program := "ytgcmhfoegbaaiaa", sum := "d0d07c92e84a457134e1c7632eecb7d21d4ce347708d69ca15b13b64ea3bd18f", func := "emulator/emulatorlaw43.TtyReads", spec := "ttyReads", apart := false }
def TtyReadsSaid : Prop := ttyReadsRow.holds Try.pinned (OpenSpec.ofChange ttyReadsSpec)

/-- ITS FALSE NEIGHBOUR: 'it returns false'. Refute it at one input. -/
def ttyReadsWrong : ChangeSpec := { name := "ttyReads", fn := fun _ => fun
  | [d1, d2] => { results := [.lit (.bool false)], args := [d1, d2] }
  | _ => none }
def TtyReadsWrongFalsely : Prop := ttyReadsRow.holds Try.pinned (OpenSpec.ofChange ttyReadsWrong)

/-- 'emulatorlaw43.TtyWrites': WHATEVER THE INPUT: true; the input reads as it did. -/
def ttyWritesSpec : ChangeSpec := { name := "ttyWrites", fn := fun _ => fun
  | [d1, d2, d3] => { results := [.lit (.bool true)], args := [d1, d2, d3] }
  | _ => none }
def ttyWritesRow : OpenClaim := { program := "ytgcmhfoegbaaiaa", sum := "d0d07c92e84a457134e1c7632eecb7d21d4ce347708d69ca15b13b64ea3bd18f", func := "emulator/emulatorlaw43.TtyWrites", spec := "ttyWrites", apart := false }
def TtyWritesSaid : Prop := ttyWritesRow.holds Try.pinned (OpenSpec.ofChange ttyWritesSpec)

/-- ITS FALSE NEIGHBOUR: 'it returns false'. Refute it at one input. -/
def ttyWritesWrong : ChangeSpec := { name := "ttyWrites", fn := fun _ => fun
  | [d1, d2, d3] => { results := [.lit (.bool false)], args := [d1, d2, d3] }
  | _ => none }
def TtyWritesWrongFalsely : Prop := ttyWritesRow.holds Try.pinned (OpenSpec.ofChange ttyWritesWrong)

/- THE SECOND FORM. 'bulk': how many values and letters a reading holds, each counted each time it is reached (what is shared counts as often as it is met; a slice's spare places count too). A statement '..UptoSaid' is the law's where the arguments, and the package variables that the reading takes, are together of bulk at most 1048576: NARROWER than '..Said'. Prove '..Said' where nothing that the law and all that it calls make is longer than what came in: it says more and counts as full. Else prove '..UptoSaid'. A law counts once. -/
mutual
def uptoBulk {H : Type} : DataW H → Nat
  | .lit (.string bytes) => bytes.length + 1
  | .lit _ => 1
  | .nil => 1
  | .ptr d => uptoBulk d + 1
  | .slice elems spare => uptoBulkAll elems + uptoBulkAll spare + 1
  | .agg parts => uptoBulkAll parts + 1
  | .iface _ d => uptoBulk d + 1
  | .map entries => uptoBulkEntries entries + 1
  | .held _ => 1
def uptoBulkAll {H : Type} : List (DataW H) → Nat
  | [] => 0
  | d :: r => uptoBulk d + uptoBulkAll r
def uptoBulkEntries {H : Type} : List (Lit × DataW H) → Nat
  | [] => 0
  | x :: r => uptoBulkEntry x + uptoBulkEntries r
def uptoBulkEntry {H : Type} : Lit × DataW H → Nat
  | (.string bytes, d) => bytes.length + uptoBulk d + 1
  | (_, d) => uptoBulk d + 1
 end
def uptoSmall : (H : Type) → List (DataW H) → Bool := fun _ ds => decide (uptoBulkAll ds ≤ 1048576)
def OpenSpec.upto (s : _root_.Go.ChangeSpec) : _root_.Go.OpenSpec := { _root_.Go.OpenSpec.ofChange s with cond := some uptoSmall }

/-- 'emulatorlaw43.TtyLines', WHERE WHAT IT READS IS OF BULK AT MOST 1048576: true; the input reads as it did. -/
def ttyLinesUptoRow : OpenClaim := { program := "ytgcmhfoegbaaiaa", sum := "d0d07c92e84a457134e1c7632eecb7d21d4ce347708d69ca15b13b64ea3bd18f", func := "emulator/emulatorlaw43.TtyLines", spec := "ttyLines", apart := false, narrowed := true }
def TtyLinesUptoSaid : Prop := ttyLinesUptoRow.holds Try.pinned (OpenSpec.upto ttyLinesSpec)

/-- 'emulatorlaw43.TtyRaw', WHERE WHAT IT READS IS OF BULK AT MOST 1048576: true; the input reads as it did. -/
def ttyRawUptoRow : OpenClaim := { program := "ytgcmhfoegbaaiaa", sum := "d0d07c92e84a457134e1c7632eecb7d21d4ce347708d69ca15b13b64ea3bd18f", func := "emulator/emulatorlaw43.TtyRaw", spec := "ttyRaw", apart := false, narrowed := true }
def TtyRawUptoSaid : Prop := ttyRawUptoRow.holds Try.pinned (OpenSpec.upto ttyRawSpec)

/-- 'emulatorlaw43.TtyOut', WHERE WHAT IT READS IS OF BULK AT MOST 1048576: true; the input reads as it did. -/
def ttyOutUptoRow : OpenClaim := { program := "ytgcmhfoegbaaiaa", sum := "d0d07c92e84a457134e1c7632eecb7d21d4ce347708d69ca15b13b64ea3bd18f", func := "emulator/emulatorlaw43.TtyOut", spec := "ttyOut", apart := false, narrowed := true }
def TtyOutUptoSaid : Prop := ttyOutUptoRow.holds Try.pinned (OpenSpec.upto ttyOutSpec)

/-- 'emulatorlaw43.TtyRights', WHERE WHAT IT READS IS OF BULK AT MOST 1048576: true; the input reads as it did. -/
def ttyRightsUptoRow : OpenClaim := { program := "ytgcmhfoegbaaiaa", sum := "d0d07c92e84a457134e1c7632eecb7d21d4ce347708d69ca15b13b64ea3bd18f", func := "emulator/emulatorlaw43.TtyRights", spec := "ttyRights", apart := false, narrowed := true }
def TtyRightsUptoSaid : Prop := ttyRightsUptoRow.holds Try.pinned (OpenSpec.upto ttyRightsSpec)

/-- 'emulatorlaw43.TtyInputs', WHERE WHAT IT READS IS OF BULK AT MOST 1048576: true; the input reads as it did. -/
def ttyInputsUptoRow : OpenClaim := { program := "ytgcmhfoegbaaiaa", sum := "d0d07c92e84a457134e1c7632eecb7d21d4ce347708d69ca15b13b64ea3bd18f", func := "emulator/emulatorlaw43.TtyInputs", spec := "ttyInputs", apart := false, narrowed := true }
def TtyInputsUptoSaid : Prop := ttyInputsUptoRow.holds Try.pinned (OpenSpec.upto ttyInputsSpec)

/-- 'emulatorlaw43.TtyReads', WHERE WHAT IT READS IS OF BULK AT MOST 1048576: true; the input reads as it did. -/
def ttyReadsUptoRow : OpenClaim := { program := "ytgcmhfoegbaaiaa", sum := "d0d07c92e84a457134e1c7632eecb7d21d4ce347708d69ca15b13b64ea3bd18f", func := "emulator/emulatorlaw43.TtyReads", spec := "ttyReads", apart := false, narrowed := true }
def TtyReadsUptoSaid : Prop := ttyReadsUptoRow.holds Try.pinned (OpenSpec.upto ttyReadsSpec)

/-- 'emulatorlaw43.TtyWrites', WHERE WHAT IT READS IS OF BULK AT MOST 1048576: true; the input reads as it did. -/
def ttyWritesUptoRow : OpenClaim := { program := "ytgcmhfoegbaaiaa", sum := "d0d07c92e84a457134e1c7632eecb7d21d4ce347708d69ca15b13b64ea3bd18f", func := "emulator/emulatorlaw43.TtyWrites", spec := "ttyWrites", apart := false, narrowed := true }
def TtyWritesUptoSaid : Prop := ttyWritesUptoRow.holds Try.pinned (OpenSpec.upto ttyWritesSpec)

end Rows
end Go.Proofs.Ytgcmhfoegbaaiaa
