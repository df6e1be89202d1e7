/-
  No cell of these rows narrows 'for every input' (looked for: loops, veiled, ifaces, maps, wideKeys, modest, calm, conditions, laid).
  DERIVED. THE GIVEN ROWS OF THIS SEAT. 14 by the template 'for every input the law returns true; each argument reads behind the call as it read before'; 0 by the template 'total and deterministic' (their statements: YtenlmckahaniiaaTotals.lean).
  GIVEN WITH THE SEED: the statements are not yours to turn. If you find one false, say at which input.
  Laid BY PROGRAM, IN A SANDBOX (cutbox-rows.mjs): the forced cells as the released guide's own fill.sh prints them over the translation bcca55ce427546d3… (all of the seat's roots in one cut). By AI agents, Wed Nov 11 2026. No macro, syntax, notation, axiom, sorry.
-/
import Derived.Test.YtenlmckahaniiaaChecked
import GoSem.Claim
import GoSem.ClaimJoined
import GoSem.ClaimMapViews
import Derived.JoinedTies
import Derived.KernelRfl
namespace Go.Proofs.Ytenlmckahaniiaa
/- THE CELL 'sum', in the pinned program and in every row, IS THE sha256 OF THE DUMP (.gsa) THAT YtenlmckahaniiaaProg.lean LOADS. Nothing in Lean hashes anything: it is a label: what it is worth is what the hold of that sum in a sandbox is worth. -/
noncomputable def Try.pinned : Pinned := { name := "ytenlmckahaniiaa", sum := "bcca55ce427546d3a6e3665bb31c0b5eb39789c613836be3dd5a92e325e521ba", checked := Try.checked }
namespace Rows
def none {H : Type} : Left H := { results := [], args := [] }

/-- 'emulatorlaw28.ObjectChecks': WHATEVER THE INPUT: true; the input reads as it did. -/
def objectChecksSpec : ChangeSpec := { name := "objectChecks", fn := fun _ => fun
  | [d] => { results := [.lit (.bool true)], args := [d] }
  | _ => none }
def objectChecksRow : OpenClaim := { program := "ytenlmckahaniiaa", sum := "bcca55ce427546d3a6e3665bb31c0b5eb39789c613836be3dd5a92e325e521ba", func := "emulator/emulatorlaw28.ObjectChecks", spec := "objectChecks", inPlace := ["internal/bytealg.IndexByteString", "internal/abi.NoEscape"], recurses := true, apart := false }
def ObjectChecksSaid : Prop := objectChecksRow.holds Try.pinned (OpenSpec.ofChange objectChecksSpec)

/-- ITS FALSE NEIGHBOUR: 'it returns false'. Refute it at one input. -/
def objectChecksWrong : ChangeSpec := { name := "objectChecks", fn := fun _ => fun
  | [d] => { results := [.lit (.bool false)], args := [d] }
  | _ => none }
def ObjectChecksWrongFalsely : Prop := objectChecksRow.holds Try.pinned (OpenSpec.ofChange objectChecksWrong)

/-- 'emulatorlaw28.ObjectEncodes': WHATEVER THE INPUT: true; the input reads as it did. -/
def objectEncodesSpec : ChangeSpec := { name := "objectEncodes", fn := fun _ => fun
  | [d] => { results := [.lit (.bool true)], args := [d] }
  | _ => none }
def objectEncodesRow : OpenClaim := { program := "ytenlmckahaniiaa", sum := "bcca55ce427546d3a6e3665bb31c0b5eb39789c613836be3dd5a92e325e521ba", func := "emulator/emulatorlaw28.ObjectEncodes", spec := "objectEncodes", inPlace := ["internal/bytealg.IndexByteString", "internal/abi.NoEscape"], recurses := true, apart := false }
def ObjectEncodesSaid : Prop := objectEncodesRow.holds Try.pinned (OpenSpec.ofChange objectEncodesSpec)

/-- ITS FALSE NEIGHBOUR: 'it returns false'. Refute it at one input. -/
def objectEncodesWrong : ChangeSpec := { name := "objectEncodes", fn := fun _ => fun
  | [d] => { results := [.lit (.bool false)], args := [d] }
  | _ => none }
def ObjectEncodesWrongFalsely : Prop := objectEncodesRow.holds Try.pinned (OpenSpec.ofChange objectEncodesWrong)

/-- 'emulatorlaw28.ObjectDecodes': WHATEVER THE INPUT: true; the input reads as it did. -/
def objectDecodesSpec : ChangeSpec := { name := "objectDecodes", fn := fun _ => fun
  | [d] => { results := [.lit (.bool true)], args := [d] }
  | _ => none }
def objectDecodesRow : OpenClaim := { program := "ytenlmckahaniiaa", sum := "bcca55ce427546d3a6e3665bb31c0b5eb39789c613836be3dd5a92e325e521ba", func := "emulator/emulatorlaw28.ObjectDecodes", spec := "objectDecodes", inPlace := ["internal/bytealg.IndexByteString", "internal/abi.NoEscape"], recurses := true, apart := false }
def ObjectDecodesSaid : Prop := objectDecodesRow.holds Try.pinned (OpenSpec.ofChange objectDecodesSpec)

/-- ITS FALSE NEIGHBOUR: 'it returns false'. Refute it at one input. -/
def objectDecodesWrong : ChangeSpec := { name := "objectDecodes", fn := fun _ => fun
  | [d] => { results := [.lit (.bool false)], args := [d] }
  | _ => none }
def ObjectDecodesWrongFalsely : Prop := objectDecodesRow.holds Try.pinned (OpenSpec.ofChange objectDecodesWrong)

/-- 'emulatorlaw28.ObjectRoundTrip': WHATEVER THE INPUT: true; the input reads as it did. -/
def objectRoundTripSpec : ChangeSpec := { name := "objectRoundTrip", fn := fun _ => fun
  | [d1, d2, d3] => { results := [.lit (.bool true)], args := [d1, d2, d3] }
  | _ => none }
def objectRoundTripRow : OpenClaim := { program := "ytenlmckahaniiaa", sum := "bcca55ce427546d3a6e3665bb31c0b5eb39789c613836be3dd5a92e325e521ba", func := "emulator/emulatorlaw28.ObjectRoundTrip", spec := "objectRoundTrip", inPlace := ["internal/bytealg.IndexByteString", "internal/abi.NoEscape"], recurses := true, apart := false }
def ObjectRoundTripSaid : Prop := objectRoundTripRow.holds Try.pinned (OpenSpec.ofChange objectRoundTripSpec)

/-- ITS FALSE NEIGHBOUR: 'it returns false'. Refute it at one input. -/
def objectRoundTripWrong : ChangeSpec := { name := "objectRoundTrip", fn := fun _ => fun
  | [d1, d2, d3] => { results := [.lit (.bool false)], args := [d1, d2, d3] }
  | _ => none }
def ObjectRoundTripWrongFalsely : Prop := objectRoundTripRow.holds Try.pinned (OpenSpec.ofChange objectRoundTripWrong)

/-- 'emulatorlaw28.ObjectCanonical': WHATEVER THE INPUT: true; the input reads as it did. -/
def objectCanonicalSpec : ChangeSpec := { name := "objectCanonical", fn := fun _ => fun
  | [d] => { results := [.lit (.bool true)], args := [d] }
  | _ => none }
def objectCanonicalRow : OpenClaim := { program := "ytenlmckahaniiaa", sum := "bcca55ce427546d3a6e3665bb31c0b5eb39789c613836be3dd5a92e325e521ba", func := "emulator/emulatorlaw28.ObjectCanonical", spec := "objectCanonical", inPlace := ["internal/bytealg.IndexByteString", "internal/abi.NoEscape"], recurses := true, apart := false }
def ObjectCanonicalSaid : Prop := objectCanonicalRow.holds Try.pinned (OpenSpec.ofChange objectCanonicalSpec)

/-- ITS FALSE NEIGHBOUR: 'it returns false'. Refute it at one input. -/
def objectCanonicalWrong : ChangeSpec := { name := "objectCanonical", fn := fun _ => fun
  | [d] => { results := [.lit (.bool false)], args := [d] }
  | _ => none }
def ObjectCanonicalWrongFalsely : Prop := objectCanonicalRow.holds Try.pinned (OpenSpec.ofChange objectCanonicalWrong)

/-- 'emulatorlaw28.ObjectLess': WHATEVER THE INPUT: true; the input reads as it did. -/
def objectLessSpec : ChangeSpec := { name := "objectLess", fn := fun _ => fun
  | [d1, d2] => { results := [.lit (.bool true)], args := [d1, d2] }
  | _ => none }
def objectLessRow : OpenClaim := { program := "ytenlmckahaniiaa", sum := "bcca55ce427546d3a6e3665bb31c0b5eb39789c613836be3dd5a92e325e521ba", func := "emulator/emulatorlaw28.ObjectLess", spec := "objectLess", inPlace := ["internal/bytealg.IndexByteString", "internal/abi.NoEscape"], recurses := true, apart := false }
def ObjectLessSaid : Prop := objectLessRow.holds Try.pinned (OpenSpec.ofChange objectLessSpec)

/-- ITS FALSE NEIGHBOUR: 'it returns false'. Refute it at one input. -/
def objectLessWrong : ChangeSpec := { name := "objectLess", fn := fun _ => fun
  | [d1, d2] => { results := [.lit (.bool false)], args := [d1, d2] }
  | _ => none }
def ObjectLessWrongFalsely : Prop := objectLessRow.holds Try.pinned (OpenSpec.ofChange objectLessWrong)

/-- 'emulatorlaw28.ObjectNames': WHATEVER THE INPUT: true; the input reads as it did. -/
def objectNamesSpec : ChangeSpec := { name := "objectNames", fn := fun _ => fun
  | [d1, d2] => { results := [.lit (.bool true)], args := [d1, d2] }
  | _ => none }
def objectNamesRow : OpenClaim := { program := "ytenlmckahaniiaa", sum := "bcca55ce427546d3a6e3665bb31c0b5eb39789c613836be3dd5a92e325e521ba", func := "emulator/emulatorlaw28.ObjectNames", spec := "objectNames", inPlace := ["internal/bytealg.IndexByteString", "internal/abi.NoEscape"], unfollowed := true, recurses := true, apart := false }
def ObjectNamesSaid : Prop := objectNamesRow.holds Try.pinned (OpenSpec.ofChange objectNamesSpec)

/-- ITS FALSE NEIGHBOUR: 'it returns false'. Refute it at one input. -/
def objectNamesWrong : ChangeSpec := { name := "objectNames", fn := fun _ => fun
  | [d1, d2] => { results := [.lit (.bool false)], args := [d1, d2] }
  | _ => none }
def ObjectNamesWrongFalsely : Prop := objectNamesRow.holds Try.pinned (OpenSpec.ofChange objectNamesWrong)

/-- 'emulatorlaw29.LibraryChecks': WHATEVER THE INPUT: true; the input reads as it did. -/
def libraryChecksSpec : ChangeSpec := { name := "libraryChecks", fn := fun _ => fun
  | [d1, d2] => { results := [.lit (.bool true)], args := [d1, d2] }
  | _ => none }
def libraryChecksRow : OpenClaim := { program := "ytenlmckahaniiaa", sum := "bcca55ce427546d3a6e3665bb31c0b5eb39789c613836be3dd5a92e325e521ba", func := "emulator/emulatorlaw29.LibraryChecks", spec := "libraryChecks", inPlace := ["internal/bytealg.IndexByteString", "internal/abi.NoEscape"], unfollowed := true, recurses := true, apart := false }
def LibraryChecksSaid : Prop := libraryChecksRow.holds Try.pinned (OpenSpec.ofChange libraryChecksSpec)

/-- ITS FALSE NEIGHBOUR: 'it returns false'. Refute it at one input. -/
def libraryChecksWrong : ChangeSpec := { name := "libraryChecks", fn := fun _ => fun
  | [d1, d2] => { results := [.lit (.bool false)], args := [d1, d2] }
  | _ => none }
def LibraryChecksWrongFalsely : Prop := libraryChecksRow.holds Try.pinned (OpenSpec.ofChange libraryChecksWrong)

/-- 'emulatorlaw29.LibraryEncodes': WHATEVER THE INPUT: true; the input reads as it did. -/
def libraryEncodesSpec : ChangeSpec := { name := "libraryEncodes", fn := fun _ => fun
  | [d1, d2] => { results := [.lit (.bool true)], args := [d1, d2] }
  | _ => none }
def libraryEncodesRow : OpenClaim := { program := "ytenlmckahaniiaa", sum := "bcca55ce427546d3a6e3665bb31c0b5eb39789c613836be3dd5a92e325e521ba", func := "emulator/emulatorlaw29.LibraryEncodes", spec := "libraryEncodes", inPlace := ["internal/bytealg.IndexByteString", "internal/abi.NoEscape"], unfollowed := true, recurses := true, apart := false }
def LibraryEncodesSaid : Prop := libraryEncodesRow.holds Try.pinned (OpenSpec.ofChange libraryEncodesSpec)

/-- ITS FALSE NEIGHBOUR: 'it returns false'. Refute it at one input. -/
def libraryEncodesWrong : ChangeSpec := { name := "libraryEncodes", fn := fun _ => fun
  | [d1, d2] => { results := [.lit (.bool false)], args := [d1, d2] }
  | _ => none }
def LibraryEncodesWrongFalsely : Prop := libraryEncodesRow.holds Try.pinned (OpenSpec.ofChange libraryEncodesWrong)

/-- 'emulatorlaw29.LibrarySelects': WHATEVER THE INPUT: true; the input reads as it did. -/
def librarySelectsSpec : ChangeSpec := { name := "librarySelects", fn := fun _ => fun
  | [d1, d2] => { results := [.lit (.bool true)], args := [d1, d2] }
  | _ => none }
def librarySelectsRow : OpenClaim := { program := "ytenlmckahaniiaa", sum := "bcca55ce427546d3a6e3665bb31c0b5eb39789c613836be3dd5a92e325e521ba", func := "emulator/emulatorlaw29.LibrarySelects", spec := "librarySelects", inPlace := ["internal/bytealg.IndexByteString", "internal/abi.NoEscape"], unfollowed := true, recurses := true, apart := false }
def LibrarySelectsSaid : Prop := librarySelectsRow.holds Try.pinned (OpenSpec.ofChange librarySelectsSpec)

/-- ITS FALSE NEIGHBOUR: 'it returns false'. Refute it at one input. -/
def librarySelectsWrong : ChangeSpec := { name := "librarySelects", fn := fun _ => fun
  | [d1, d2] => { results := [.lit (.bool false)], args := [d1, d2] }
  | _ => none }
def LibrarySelectsWrongFalsely : Prop := librarySelectsRow.holds Try.pinned (OpenSpec.ofChange librarySelectsWrong)

/-- 'emulatorlaw29.LibraryReplaces': WHATEVER THE INPUT: true; the input reads as it did. -/
def libraryReplacesSpec : ChangeSpec := { name := "libraryReplaces", fn := fun _ => fun
  | [d1, d2, d3] => { results := [.lit (.bool true)], args := [d1, d2, d3] }
  | _ => none }
def libraryReplacesRow : OpenClaim := { program := "ytenlmckahaniiaa", sum := "bcca55ce427546d3a6e3665bb31c0b5eb39789c613836be3dd5a92e325e521ba", func := "emulator/emulatorlaw29.LibraryReplaces", spec := "libraryReplaces", inPlace := ["internal/bytealg.IndexByteString", "internal/abi.NoEscape"], unfollowed := true, recurses := true, apart := false }
def LibraryReplacesSaid : Prop := libraryReplacesRow.holds Try.pinned (OpenSpec.ofChange libraryReplacesSpec)

/-- ITS FALSE NEIGHBOUR: 'it returns false'. Refute it at one input. -/
def libraryReplacesWrong : ChangeSpec := { name := "libraryReplaces", fn := fun _ => fun
  | [d1, d2, d3] => { results := [.lit (.bool false)], args := [d1, d2, d3] }
  | _ => none }
def LibraryReplacesWrongFalsely : Prop := libraryReplacesRow.holds Try.pinned (OpenSpec.ofChange libraryReplacesWrong)

/-- 'emulatorlaw29.LibraryReturns': WHATEVER THE INPUT: true; the input reads as it did. -/
def libraryReturnsSpec : ChangeSpec := { name := "libraryReturns", fn := fun _ => fun
  | [d] => { results := [.lit (.bool true)], args := [d] }
  | _ => none }
def libraryReturnsRow : OpenClaim := { program := "ytenlmckahaniiaa", sum := "bcca55ce427546d3a6e3665bb31c0b5eb39789c613836be3dd5a92e325e521ba", func := "emulator/emulatorlaw29.LibraryReturns", spec := "libraryReturns", inPlace := ["internal/bytealg.IndexByteString", "internal/abi.NoEscape"], unfollowed := true, recurses := true, apart := false }
def LibraryReturnsSaid : Prop := libraryReturnsRow.holds Try.pinned (OpenSpec.ofChange libraryReturnsSpec)

/-- ITS FALSE NEIGHBOUR: 'it returns false'. Refute it at one input. -/
def libraryReturnsWrong : ChangeSpec := { name := "libraryReturns", fn := fun _ => fun
  | [d] => { results := [.lit (.bool false)], args := [d] }
  | _ => none }
def LibraryReturnsWrongFalsely : Prop := libraryReturnsRow.holds Try.pinned (OpenSpec.ofChange libraryReturnsWrong)

/-- 'emulatorlaw29.LibraryCloses': WHATEVER THE INPUT: true; the input reads as it did. -/
def libraryClosesSpec : ChangeSpec := { name := "libraryCloses", fn := fun _ => fun
  | [d1, d2] => { results := [.lit (.bool true)], args := [d1, d2] }
  | _ => none }
def libraryClosesRow : OpenClaim := { program := "ytenlmckahaniiaa", sum := "bcca55ce427546d3a6e3665bb31c0b5eb39789c613836be3dd5a92e325e521ba", func := "emulator/emulatorlaw29.LibraryCloses", spec := "libraryCloses", inPlace := ["internal/bytealg.IndexByteString", "internal/abi.NoEscape"], unfollowed := true, recurses := true, apart := false }
def LibraryClosesSaid : Prop := libraryClosesRow.holds Try.pinned (OpenSpec.ofChange libraryClosesSpec)

/-- ITS FALSE NEIGHBOUR: 'it returns false'. Refute it at one input. -/
def libraryClosesWrong : ChangeSpec := { name := "libraryCloses", fn := fun _ => fun
  | [d1, d2] => { results := [.lit (.bool false)], args := [d1, d2] }
  | _ => none }
def LibraryClosesWrongFalsely : Prop := libraryClosesRow.holds Try.pinned (OpenSpec.ofChange libraryClosesWrong)

/-- 'emulatorlaw29.LibraryOrder': WHATEVER THE INPUT: true; the input reads as it did. -/
def libraryOrderSpec : ChangeSpec := { name := "libraryOrder", fn := fun _ => fun
  | [d1, d2] => { results := [.lit (.bool true)], args := [d1, d2] }
  | _ => none }
def libraryOrderRow : OpenClaim := { program := "ytenlmckahaniiaa", sum := "bcca55ce427546d3a6e3665bb31c0b5eb39789c613836be3dd5a92e325e521ba", func := "emulator/emulatorlaw29.LibraryOrder", spec := "libraryOrder", inPlace := ["internal/bytealg.IndexByteString", "internal/abi.NoEscape"], unfollowed := true, recurses := true, apart := false }
def LibraryOrderSaid : Prop := libraryOrderRow.holds Try.pinned (OpenSpec.ofChange libraryOrderSpec)

/-- ITS FALSE NEIGHBOUR: 'it returns false'. Refute it at one input. -/
def libraryOrderWrong : ChangeSpec := { name := "libraryOrder", fn := fun _ => fun
  | [d1, d2] => { results := [.lit (.bool false)], args := [d1, d2] }
  | _ => none }
def LibraryOrderWrongFalsely : Prop := libraryOrderRow.holds Try.pinned (OpenSpec.ofChange libraryOrderWrong)

/- THE SECOND FORM. 'bulk': how many values and letters a reading holds, each counted each time it is reached (what is shared counts as often as it is met; a slice's spare places count too). A statement '..UptoSaid' is the law's where the arguments, and the package variables that the reading takes, are together of bulk at most 1048576: NARROWER than '..Said'. Prove '..Said' where nothing that the law and all that it calls make is longer than what came in: it says more and counts as full. Else prove '..UptoSaid'. A law counts once. -/
mutual
def uptoBulk {H : Type} : DataW H → Nat
  | .lit (.string bytes) => bytes.length + 1
  | .lit _ => 1
  | .nil => 1
  | .ptr d => uptoBulk d + 1
  | .slice elems spare => uptoBulkAll elems + uptoBulkAll spare + 1
  | .agg parts => uptoBulkAll parts + 1
  | .iface _ d => uptoBulk d + 1
  | .map entries => uptoBulkEntries entries + 1
  | .held _ => 1
def uptoBulkAll {H : Type} : List (DataW H) → Nat
  | [] => 0
  | d :: r => uptoBulk d + uptoBulkAll r
def uptoBulkEntries {H : Type} : List (Lit × DataW H) → Nat
  | [] => 0
  | x :: r => uptoBulkEntry x + uptoBulkEntries r
def uptoBulkEntry {H : Type} : Lit × DataW H → Nat
  | (.string bytes, d) => bytes.length + uptoBulk d + 1
  | (_, d) => uptoBulk d + 1
 end
def uptoSmall : (H : Type) → List (DataW H) → Bool := fun _ ds => decide (uptoBulkAll ds ≤ 1048576)
def OpenSpec.upto (s : _root_.Go.ChangeSpec) : _root_.Go.OpenSpec := { _root_.Go.OpenSpec.ofChange s with cond := some uptoSmall }

/-- 'emulatorlaw28.ObjectChecks', WHERE WHAT IT READS IS OF BULK AT MOST 1048576: true; the input reads as it did. -/
def objectChecksUptoRow : OpenClaim := { program := "ytenlmckahaniiaa", sum := "bcca55ce427546d3a6e3665bb31c0b5eb39789c613836be3dd5a92e325e521ba", func := "emulator/emulatorlaw28.ObjectChecks", spec := "objectChecks", inPlace := ["internal/bytealg.IndexByteString", "internal/abi.NoEscape"], recurses := true, apart := false, narrowed := true }
def ObjectChecksUptoSaid : Prop := objectChecksUptoRow.holds Try.pinned (OpenSpec.upto objectChecksSpec)

/-- 'emulatorlaw28.ObjectEncodes', WHERE WHAT IT READS IS OF BULK AT MOST 1048576: true; the input reads as it did. -/
def objectEncodesUptoRow : OpenClaim := { program := "ytenlmckahaniiaa", sum := "bcca55ce427546d3a6e3665bb31c0b5eb39789c613836be3dd5a92e325e521ba", func := "emulator/emulatorlaw28.ObjectEncodes", spec := "objectEncodes", inPlace := ["internal/bytealg.IndexByteString", "internal/abi.NoEscape"], recurses := true, apart := false, narrowed := true }
def ObjectEncodesUptoSaid : Prop := objectEncodesUptoRow.holds Try.pinned (OpenSpec.upto objectEncodesSpec)

/-- 'emulatorlaw28.ObjectDecodes', WHERE WHAT IT READS IS OF BULK AT MOST 1048576: true; the input reads as it did. -/
def objectDecodesUptoRow : OpenClaim := { program := "ytenlmckahaniiaa", sum := "bcca55ce427546d3a6e3665bb31c0b5eb39789c613836be3dd5a92e325e521ba", func := "emulator/emulatorlaw28.ObjectDecodes", spec := "objectDecodes", inPlace := ["internal/bytealg.IndexByteString", "internal/abi.NoEscape"], recurses := true, apart := false, narrowed := true }
def ObjectDecodesUptoSaid : Prop := objectDecodesUptoRow.holds Try.pinned (OpenSpec.upto objectDecodesSpec)

/-- 'emulatorlaw28.ObjectRoundTrip', WHERE WHAT IT READS IS OF BULK AT MOST 1048576: true; the input reads as it did. -/
def objectRoundTripUptoRow : OpenClaim := { program := "ytenlmckahaniiaa", sum := "bcca55ce427546d3a6e3665bb31c0b5eb39789c613836be3dd5a92e325e521ba", func := "emulator/emulatorlaw28.ObjectRoundTrip", spec := "objectRoundTrip", inPlace := ["internal/bytealg.IndexByteString", "internal/abi.NoEscape"], recurses := true, apart := false, narrowed := true }
def ObjectRoundTripUptoSaid : Prop := objectRoundTripUptoRow.holds Try.pinned (OpenSpec.upto objectRoundTripSpec)

/-- 'emulatorlaw28.ObjectCanonical', WHERE WHAT IT READS IS OF BULK AT MOST 1048576: true; the input reads as it did. -/
def objectCanonicalUptoRow : OpenClaim := { program := "ytenlmckahaniiaa", sum := "bcca55ce427546d3a6e3665bb31c0b5eb39789c613836be3dd5a92e325e521ba", func := "emulator/emulatorlaw28.ObjectCanonical", spec := "objectCanonical", inPlace := ["internal/bytealg.IndexByteString", "internal/abi.NoEscape"], recurses := true, apart := false, narrowed := true }
def ObjectCanonicalUptoSaid : Prop := objectCanonicalUptoRow.holds Try.pinned (OpenSpec.upto objectCanonicalSpec)

/-- 'emulatorlaw28.ObjectLess', WHERE WHAT IT READS IS OF BULK AT MOST 1048576: true; the input reads as it did. -/
def objectLessUptoRow : OpenClaim := { program := "ytenlmckahaniiaa", sum := "bcca55ce427546d3a6e3665bb31c0b5eb39789c613836be3dd5a92e325e521ba", func := "emulator/emulatorlaw28.ObjectLess", spec := "objectLess", inPlace := ["internal/bytealg.IndexByteString", "internal/abi.NoEscape"], recurses := true, apart := false, narrowed := true }
def ObjectLessUptoSaid : Prop := objectLessUptoRow.holds Try.pinned (OpenSpec.upto objectLessSpec)

/-- 'emulatorlaw28.ObjectNames', WHERE WHAT IT READS IS OF BULK AT MOST 1048576: true; the input reads as it did. -/
def objectNamesUptoRow : OpenClaim := { program := "ytenlmckahaniiaa", sum := "bcca55ce427546d3a6e3665bb31c0b5eb39789c613836be3dd5a92e325e521ba", func := "emulator/emulatorlaw28.ObjectNames", spec := "objectNames", inPlace := ["internal/bytealg.IndexByteString", "internal/abi.NoEscape"], unfollowed := true, recurses := true, apart := false, narrowed := true }
def ObjectNamesUptoSaid : Prop := objectNamesUptoRow.holds Try.pinned (OpenSpec.upto objectNamesSpec)

/-- 'emulatorlaw29.LibraryChecks', WHERE WHAT IT READS IS OF BULK AT MOST 1048576: true; the input reads as it did. -/
def libraryChecksUptoRow : OpenClaim := { program := "ytenlmckahaniiaa", sum := "bcca55ce427546d3a6e3665bb31c0b5eb39789c613836be3dd5a92e325e521ba", func := "emulator/emulatorlaw29.LibraryChecks", spec := "libraryChecks", inPlace := ["internal/bytealg.IndexByteString", "internal/abi.NoEscape"], unfollowed := true, recurses := true, apart := false, narrowed := true }
def LibraryChecksUptoSaid : Prop := libraryChecksUptoRow.holds Try.pinned (OpenSpec.upto libraryChecksSpec)

/-- 'emulatorlaw29.LibraryEncodes', WHERE WHAT IT READS IS OF BULK AT MOST 1048576: true; the input reads as it did. -/
def libraryEncodesUptoRow : OpenClaim := { program := "ytenlmckahaniiaa", sum := "bcca55ce427546d3a6e3665bb31c0b5eb39789c613836be3dd5a92e325e521ba", func := "emulator/emulatorlaw29.LibraryEncodes", spec := "libraryEncodes", inPlace := ["internal/bytealg.IndexByteString", "internal/abi.NoEscape"], unfollowed := true, recurses := true, apart := false, narrowed := true }
def LibraryEncodesUptoSaid : Prop := libraryEncodesUptoRow.holds Try.pinned (OpenSpec.upto libraryEncodesSpec)

/-- 'emulatorlaw29.LibrarySelects', WHERE WHAT IT READS IS OF BULK AT MOST 1048576: true; the input reads as it did. -/
def librarySelectsUptoRow : OpenClaim := { program := "ytenlmckahaniiaa", sum := "bcca55ce427546d3a6e3665bb31c0b5eb39789c613836be3dd5a92e325e521ba", func := "emulator/emulatorlaw29.LibrarySelects", spec := "librarySelects", inPlace := ["internal/bytealg.IndexByteString", "internal/abi.NoEscape"], unfollowed := true, recurses := true, apart := false, narrowed := true }
def LibrarySelectsUptoSaid : Prop := librarySelectsUptoRow.holds Try.pinned (OpenSpec.upto librarySelectsSpec)

/-- 'emulatorlaw29.LibraryReplaces', WHERE WHAT IT READS IS OF BULK AT MOST 1048576: true; the input reads as it did. -/
def libraryReplacesUptoRow : OpenClaim := { program := "ytenlmckahaniiaa", sum := "bcca55ce427546d3a6e3665bb31c0b5eb39789c613836be3dd5a92e325e521ba", func := "emulator/emulatorlaw29.LibraryReplaces", spec := "libraryReplaces", inPlace := ["internal/bytealg.IndexByteString", "internal/abi.NoEscape"], unfollowed := true, recurses := true, apart := false, narrowed := true }
def LibraryReplacesUptoSaid : Prop := libraryReplacesUptoRow.holds Try.pinned (OpenSpec.upto libraryReplacesSpec)

/-- 'emulatorlaw29.LibraryReturns', WHERE WHAT IT READS IS OF BULK AT MOST 1048576: true; the input reads as it did. -/
def libraryReturnsUptoRow : OpenClaim := { program := "ytenlmckahaniiaa", sum := "bcca55ce427546d3a6e3665bb31c0b5eb39789c613836be3dd5a92e325e521ba", func := "emulator/emulatorlaw29.LibraryReturns", spec := "libraryReturns", inPlace := ["internal/bytealg.IndexByteString", "internal/abi.NoEscape"], unfollowed := true, recurses := true, apart := false, narrowed := true }
def LibraryReturnsUptoSaid : Prop := libraryReturnsUptoRow.holds Try.pinned (OpenSpec.upto libraryReturnsSpec)

/-- 'emulatorlaw29.LibraryCloses', WHERE WHAT IT READS IS OF BULK AT MOST 1048576: true; the input reads as it did. -/
def libraryClosesUptoRow : OpenClaim := { program := "ytenlmckahaniiaa", sum := "bcca55ce427546d3a6e3665bb31c0b5eb39789c613836be3dd5a92e325e521ba", func := "emulator/emulatorlaw29.LibraryCloses", spec := "libraryCloses", inPlace := ["internal/bytealg.IndexByteString", "internal/abi.NoEscape"], unfollowed := true, recurses := true, apart := false, narrowed := true }
def LibraryClosesUptoSaid : Prop := libraryClosesUptoRow.holds Try.pinned (OpenSpec.upto libraryClosesSpec)

/-- 'emulatorlaw29.LibraryOrder', WHERE WHAT IT READS IS OF BULK AT MOST 1048576: true; the input reads as it did. -/
def libraryOrderUptoRow : OpenClaim := { program := "ytenlmckahaniiaa", sum := "bcca55ce427546d3a6e3665bb31c0b5eb39789c613836be3dd5a92e325e521ba", func := "emulator/emulatorlaw29.LibraryOrder", spec := "libraryOrder", inPlace := ["internal/bytealg.IndexByteString", "internal/abi.NoEscape"], unfollowed := true, recurses := true, apart := false, narrowed := true }
def LibraryOrderUptoSaid : Prop := libraryOrderUptoRow.holds Try.pinned (OpenSpec.upto libraryOrderSpec)

end Rows
end Go.Proofs.Ytenlmckahaniiaa
