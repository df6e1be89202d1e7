/-
  No cell of these rows narrows 'for every input' (looked for: loops, veiled, ifaces, maps, wideKeys, modest, calm, conditions, laid).
  DERIVED. THE GIVEN ROWS OF THIS SEAT. 5 by the template 'for every input the law returns true; each argument reads behind the call as it read before'; 0 by the template 'total and deterministic' (their statements: YtkopdpdenmjecaaTotals.lean).
  GIVEN WITH THE SEED: the statements are not yours to turn. If you find one false, say at which input.
  Laid BY PROGRAM, IN A SANDBOX (cutbox-rows.mjs): the forced cells as the released guide's own fill.sh prints them over the translation a1a3584c87ce9406… (all of the seat's roots in one cut). By AI agents, Wed Nov 11 2026. No macro, syntax, notation, axiom, sorry.
-/
import Derived.Test.YtkopdpdenmjecaaChecked
import GoSem.Claim
import GoSem.ClaimJoined
import GoSem.ClaimMapViews
import Derived.JoinedTies
import Derived.KernelRfl
namespace Go.Proofs.Ytkopdpdenmjecaa
/- THE CELL 'sum', in the pinned program and in every row, IS THE sha256 OF THE DUMP (.gsa) THAT YtkopdpdenmjecaaProg.lean LOADS. Nothing in Lean hashes anything: it is a label: what it is worth is what the hold of that sum in a sandbox is worth. -/
noncomputable def Try.pinned : Pinned := { name := "ytkopdpdenmjecaa", sum := "a1a3584c87ce94062724cbf38e37cd45f5e96ce4e3baca108494f87e443b2885", checked := Try.checked }
namespace Rows
def none {H : Type} : Left H := { results := [], args := [] }

/-- 'emulatorlaw04.PswForms': WHATEVER THE INPUT: true; the input reads as it did. -/
def pswFormsSpec : ChangeSpec := { name := "pswForms", fn := fun _ => fun
  | [d1, d2] => { results := [.lit (.bool true)], args := [d1, d2] }
  | _ => none }
def pswFormsRow : OpenClaim := { program := "ytkopdpdenmjecaa", sum := "a1a3584c87ce94062724cbf38e37cd45f5e96ce4e3baca108494f87e443b2885", func := "emulator/emulatorlaw04.PswForms", spec := "pswForms", apart := false }
def PswFormsSaid : Prop := pswFormsRow.holds Try.pinned (OpenSpec.ofChange pswFormsSpec)

/-- ITS FALSE NEIGHBOUR: 'it returns false'. Refute it at one input. -/
def pswFormsWrong : ChangeSpec := { name := "pswForms", fn := fun _ => fun
  | [d1, d2] => { results := [.lit (.bool false)], args := [d1, d2] }
  | _ => none }
def PswFormsWrongFalsely : Prop := pswFormsRow.holds Try.pinned (OpenSpec.ofChange pswFormsWrong)

/-- 'emulatorlaw04.PswTexts': WHATEVER THE INPUT: true; the input reads as it did. -/
def pswTextsSpec : ChangeSpec := { name := "pswTexts", fn := fun _ => fun
  | [d] => { results := [.lit (.bool true)], args := [d] }
  | _ => none }
def pswTextsRow : OpenClaim := { program := "ytkopdpdenmjecaa", sum := "a1a3584c87ce94062724cbf38e37cd45f5e96ce4e3baca108494f87e443b2885", func := "emulator/emulatorlaw04.PswTexts", spec := "pswTexts", apart := false }
def PswTextsSaid : Prop := pswTextsRow.holds Try.pinned (OpenSpec.ofChange pswTextsSpec)

/-- ITS FALSE NEIGHBOUR: 'it returns false'. Refute it at one input. -/
def pswTextsWrong : ChangeSpec := { name := "pswTexts", fn := fun _ => fun
  | [d] => { results := [.lit (.bool false)], args := [d] }
  | _ => none }
def PswTextsWrongFalsely : Prop := pswTextsRow.holds Try.pinned (OpenSpec.ofChange pswTextsWrong)

/-- 'emulatorlaw04.PswSays': WHATEVER THE INPUT: true; the input reads as it did. -/
def pswSaysSpec : ChangeSpec := { name := "pswSays", fn := fun _ => fun
  | [d1, d2] => { results := [.lit (.bool true)], args := [d1, d2] }
  | _ => none }
def pswSaysRow : OpenClaim := { program := "ytkopdpdenmjecaa", sum := "a1a3584c87ce94062724cbf38e37cd45f5e96ce4e3baca108494f87e443b2885", func := "emulator/emulatorlaw04.PswSays", spec := "pswSays", apart := false }
def PswSaysSaid : Prop := pswSaysRow.holds Try.pinned (OpenSpec.ofChange pswSaysSpec)

/-- ITS FALSE NEIGHBOUR: 'it returns false'. Refute it at one input. -/
def pswSaysWrong : ChangeSpec := { name := "pswSays", fn := fun _ => fun
  | [d1, d2] => { results := [.lit (.bool false)], args := [d1, d2] }
  | _ => none }
def PswSaysWrongFalsely : Prop := pswSaysRow.holds Try.pinned (OpenSpec.ofChange pswSaysWrong)

/-- 'emulatorlaw04.PswGets': WHATEVER THE INPUT: true; the input reads as it did. -/
def pswGetsSpec : ChangeSpec := { name := "pswGets", fn := fun _ => fun
  | [d] => { results := [.lit (.bool true)], args := [d] }
  | _ => none }
def pswGetsRow : OpenClaim := { program := "ytkopdpdenmjecaa", sum := "a1a3584c87ce94062724cbf38e37cd45f5e96ce4e3baca108494f87e443b2885", func := "emulator/emulatorlaw04.PswGets", spec := "pswGets", apart := false }
def PswGetsSaid : Prop := pswGetsRow.holds Try.pinned (OpenSpec.ofChange pswGetsSpec)

/-- ITS FALSE NEIGHBOUR: 'it returns false'. Refute it at one input. -/
def pswGetsWrong : ChangeSpec := { name := "pswGets", fn := fun _ => fun
  | [d] => { results := [.lit (.bool false)], args := [d] }
  | _ => none }
def PswGetsWrongFalsely : Prop := pswGetsRow.holds Try.pinned (OpenSpec.ofChange pswGetsWrong)

/-- 'emulatorlaw04.PswKeeps': WHATEVER THE INPUT: true; the input reads as it did. -/
def pswKeepsSpec : ChangeSpec := { name := "pswKeeps", fn := fun _ => fun
  | [d1, d2] => { results := [.lit (.bool true)], args := [d1, d2] }
  | _ => none }
def pswKeepsRow : OpenClaim := { program := "ytkopdpdenmjecaa", sum := "a1a3584c87ce94062724cbf38e37cd45f5e96ce4e3baca108494f87e443b2885", func := "emulator/emulatorlaw04.PswKeeps", spec := "pswKeeps", apart := false }
def PswKeepsSaid : Prop := pswKeepsRow.holds Try.pinned (OpenSpec.ofChange pswKeepsSpec)

/-- ITS FALSE NEIGHBOUR: 'it returns false'. Refute it at one input. -/
def pswKeepsWrong : ChangeSpec := { name := "pswKeeps", fn := fun _ => fun
  | [d1, d2] => { results := [.lit (.bool false)], args := [d1, d2] }
  | _ => none }
def PswKeepsWrongFalsely : Prop := pswKeepsRow.holds Try.pinned (OpenSpec.ofChange pswKeepsWrong)

/- THE SECOND FORM. 'bulk': how many values and letters a reading holds, each counted each time it is reached (what is shared counts as often as it is met; a slice's spare places count too). A statement '..UptoSaid' is the law's where the arguments, and the package variables that the reading takes, are together of bulk at most 1048576: NARROWER than '..Said'. Prove '..Said' where nothing that the law and all that it calls make is longer than what came in: it says more and counts as full. Else prove '..UptoSaid'. A law counts once. -/
mutual
def uptoBulk {H : Type} : DataW H → Nat
  | .lit (.string bytes) => bytes.length + 1
  | .lit _ => 1
  | .nil => 1
  | .ptr d => uptoBulk d + 1
  | .slice elems spare => uptoBulkAll elems + uptoBulkAll spare + 1
  | .agg parts => uptoBulkAll parts + 1
  | .iface _ d => uptoBulk d + 1
  | .map entries => uptoBulkEntries entries + 1
  | .held _ => 1
def uptoBulkAll {H : Type} : List (DataW H) → Nat
  | [] => 0
  | d :: r => uptoBulk d + uptoBulkAll r
def uptoBulkEntries {H : Type} : List (Lit × DataW H) → Nat
  | [] => 0
  | x :: r => uptoBulkEntry x + uptoBulkEntries r
def uptoBulkEntry {H : Type} : Lit × DataW H → Nat
  | (.string bytes, d) => bytes.length + uptoBulk d + 1
  | (_, d) => uptoBulk d + 1
 end
def uptoSmall : (H : Type) → List (DataW H) → Bool := fun _ ds => decide (uptoBulkAll ds ≤ 1048576)
def OpenSpec.upto (s : _root_.Go.ChangeSpec) : _root_.Go.OpenSpec := { _root_.Go.OpenSpec.ofChange s with cond := some uptoSmall }

/-- 'emulatorlaw04.PswForms', WHERE WHAT IT READS IS OF BULK AT MOST 1048576: true; the input reads as it did. -/
def pswFormsUptoRow : OpenClaim := { program := "ytkopdpdenmjecaa", sum := "a1a3584c87ce94062724cbf38e37cd45f5e96ce4e3baca108494f87e443b2885", func := "emulator/emulatorlaw04.PswForms", spec := "pswForms", apart := false, narrowed := true }
def PswFormsUptoSaid : Prop := pswFormsUptoRow.holds Try.pinned (OpenSpec.upto pswFormsSpec)

/-- 'emulatorlaw04.PswTexts', WHERE WHAT IT READS IS OF BULK AT MOST 1048576: true; the input reads as it did. -/
def pswTextsUptoRow : OpenClaim := { program := "ytkopdpdenmjecaa", sum := "a1a3584c87ce94062724cbf38e37cd45f5e96ce4e3baca108494f87e443b2885", func := "emulator/emulatorlaw04.PswTexts", spec := "pswTexts", apart := false, narrowed := true }
def PswTextsUptoSaid : Prop := pswTextsUptoRow.holds Try.pinned (OpenSpec.upto pswTextsSpec)

/-- 'emulatorlaw04.PswSays', WHERE WHAT IT READS IS OF BULK AT MOST 1048576: true; the input reads as it did. -/
def pswSaysUptoRow : OpenClaim := { program := "ytkopdpdenmjecaa", sum := "a1a3584c87ce94062724cbf38e37cd45f5e96ce4e3baca108494f87e443b2885", func := "emulator/emulatorlaw04.PswSays", spec := "pswSays", apart := false, narrowed := true }
def PswSaysUptoSaid : Prop := pswSaysUptoRow.holds Try.pinned (OpenSpec.upto pswSaysSpec)

/-- 'emulatorlaw04.PswGets', WHERE WHAT IT READS IS OF BULK AT MOST 1048576: true; the input reads as it did. -/
def pswGetsUptoRow : OpenClaim := { program := "ytkopdpdenmjecaa", sum := "a1a3584c87ce94062724cbf38e37cd45f5e96ce4e3baca108494f87e443b2885", func := "emulator/emulatorlaw04.PswGets", spec := "pswGets", apart := false, narrowed := true }
def PswGetsUptoSaid : Prop := pswGetsUptoRow.holds Try.pinned (OpenSpec.upto pswGetsSpec)

/-- 'emulatorlaw04.PswKeeps', WHERE WHAT IT READS IS OF BULK AT MOST 1048576: true; the input reads as it did. -/
def pswKeepsUptoRow : OpenClaim := { program := "ytkopdpdenmjecaa", sum := "a1a3584c87ce94062724cbf38e37cd45f5e96ce4e3baca108494f87e443b2885", func := "emulator/emulatorlaw04.PswKeeps", spec := "pswKeeps", apart := false, narrowed := true }
def PswKeepsUptoSaid : Prop := pswKeepsUptoRow.holds Try.pinned (OpenSpec.upto pswKeepsSpec)

end Rows
end Go.Proofs.Ytkopdpdenmjecaa
