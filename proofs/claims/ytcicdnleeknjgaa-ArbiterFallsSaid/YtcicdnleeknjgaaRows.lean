/-
  No cell of these rows narrows 'for every input' (looked for: loops, veiled, ifaces, maps, wideKeys, modest, calm, conditions, laid).
  DERIVED. THE GIVEN ROWS OF THIS SEAT. 5 by the template 'for every input the law returns true; each argument reads behind the call as it read before'; 0 by the template 'total and deterministic' (their statements: YtcicdnleeknjgaaTotals.lean).
  GIVEN WITH THE SEED: the statements are not yours to turn. If you find one false, say at which input.
  Laid BY PROGRAM, IN A SANDBOX (cutbox-rows.mjs): the forced cells as the released guide's own fill.sh prints them over the translation 1f33b21bdcc0053c… (all of the seat's roots in one cut). By AI agents, Wed Nov 11 2026. No macro, syntax, notation, axiom, sorry.
-/
import Derived.Test.YtcicdnleeknjgaaChecked
import GoSem.Claim
import GoSem.ClaimJoined
import GoSem.ClaimMapViews
import Derived.JoinedTies
import Derived.KernelRfl
namespace Go.Proofs.Ytcicdnleeknjgaa
/- THE CELL 'sum', in the pinned program and in every row, IS THE sha256 OF THE DUMP (.gsa) THAT YtcicdnleeknjgaaProg.lean LOADS. Nothing in Lean hashes anything: it is a label: what it is worth is what the hold of that sum in a sandbox is worth. -/
noncomputable def Try.pinned : Pinned := { name := "ytcicdnleeknjgaa", sum := "1f33b21bdcc0053cae5d2f221623d0bbadfd65d74a1ce513e209e6b25359f84e", checked := Try.checked }
namespace Rows
def none {H : Type} : Left H := { results := [], args := [] }

/-- 'emulatorlaw12.ArbiterValid': WHATEVER THE INPUT: true; the input reads as it did. -/
def arbiterValidSpec : ChangeSpec := { name := "arbiterValid", fn := fun _ => fun
  | [d] => { results := [.lit (.bool true)], args := [d] }
  | _ => none }
def arbiterValidRow : OpenClaim := { program := "ytcicdnleeknjgaa", sum := "1f33b21bdcc0053cae5d2f221623d0bbadfd65d74a1ce513e209e6b25359f84e", func := "emulator/emulatorlaw12.ArbiterValid", spec := "arbiterValid", unfollowed := true, recurses := true, apart := false }
def ArbiterValidSaid : Prop := arbiterValidRow.holds Try.pinned (OpenSpec.ofChange arbiterValidSpec)

/-- ITS FALSE NEIGHBOUR: 'it returns false'. Refute it at one input. -/
def arbiterValidWrong : ChangeSpec := { name := "arbiterValid", fn := fun _ => fun
  | [d] => { results := [.lit (.bool false)], args := [d] }
  | _ => none }
def ArbiterValidWrongFalsely : Prop := arbiterValidRow.holds Try.pinned (OpenSpec.ofChange arbiterValidWrong)

/-- 'emulatorlaw12.ArbiterSorts': WHATEVER THE INPUT: true; the input reads as it did. -/
def arbiterSortsSpec : ChangeSpec := { name := "arbiterSorts", fn := fun _ => fun
  | [d] => { results := [.lit (.bool true)], args := [d] }
  | _ => none }
def arbiterSortsRow : OpenClaim := { program := "ytcicdnleeknjgaa", sum := "1f33b21bdcc0053cae5d2f221623d0bbadfd65d74a1ce513e209e6b25359f84e", func := "emulator/emulatorlaw12.ArbiterSorts", spec := "arbiterSorts", unfollowed := true, recurses := true, apart := false }
def ArbiterSortsSaid : Prop := arbiterSortsRow.holds Try.pinned (OpenSpec.ofChange arbiterSortsSpec)

/-- ITS FALSE NEIGHBOUR: 'it returns false'. Refute it at one input. -/
def arbiterSortsWrong : ChangeSpec := { name := "arbiterSorts", fn := fun _ => fun
  | [d] => { results := [.lit (.bool false)], args := [d] }
  | _ => none }
def ArbiterSortsWrongFalsely : Prop := arbiterSortsRow.holds Try.pinned (OpenSpec.ofChange arbiterSortsWrong)

/-- 'emulatorlaw12.ArbiterGrants': WHATEVER THE INPUT: true; the input reads as it did. -/
def arbiterGrantsSpec : ChangeSpec := { name := "arbiterGrants", fn := fun _ => fun
  | [d1, d2] => { results := [.lit (.bool true)], args := [d1, d2] }
  | _ => none }
def arbiterGrantsRow : OpenClaim := { program := "ytcicdnleeknjgaa", sum := "1f33b21bdcc0053cae5d2f221623d0bbadfd65d74a1ce513e209e6b25359f84e", func := "emulator/emulatorlaw12.ArbiterGrants", spec := "arbiterGrants", unfollowed := true, recurses := true, apart := false }
def ArbiterGrantsSaid : Prop := arbiterGrantsRow.holds Try.pinned (OpenSpec.ofChange arbiterGrantsSpec)

/-- ITS FALSE NEIGHBOUR: 'it returns false'. Refute it at one input. -/
def arbiterGrantsWrong : ChangeSpec := { name := "arbiterGrants", fn := fun _ => fun
  | [d1, d2] => { results := [.lit (.bool false)], args := [d1, d2] }
  | _ => none }
def ArbiterGrantsWrongFalsely : Prop := arbiterGrantsRow.holds Try.pinned (OpenSpec.ofChange arbiterGrantsWrong)

/-- 'emulatorlaw12.ArbiterOrder': WHATEVER THE INPUT: true; the input reads as it did. -/
def arbiterOrderSpec : ChangeSpec := { name := "arbiterOrder", fn := fun _ => fun
  | [d] => { results := [.lit (.bool true)], args := [d] }
  | _ => none }
def arbiterOrderRow : OpenClaim := { program := "ytcicdnleeknjgaa", sum := "1f33b21bdcc0053cae5d2f221623d0bbadfd65d74a1ce513e209e6b25359f84e", func := "emulator/emulatorlaw12.ArbiterOrder", spec := "arbiterOrder", unfollowed := true, recurses := true, apart := false }
def ArbiterOrderSaid : Prop := arbiterOrderRow.holds Try.pinned (OpenSpec.ofChange arbiterOrderSpec)

/-- ITS FALSE NEIGHBOUR: 'it returns false'. Refute it at one input. -/
def arbiterOrderWrong : ChangeSpec := { name := "arbiterOrder", fn := fun _ => fun
  | [d] => { results := [.lit (.bool false)], args := [d] }
  | _ => none }
def ArbiterOrderWrongFalsely : Prop := arbiterOrderRow.holds Try.pinned (OpenSpec.ofChange arbiterOrderWrong)

/-- 'emulatorlaw12.ArbiterFalls': WHATEVER THE INPUT: true; the input reads as it did. -/
def arbiterFallsSpec : ChangeSpec := { name := "arbiterFalls", fn := fun _ => fun
  | [d1, d2] => { results := [.lit (.bool true)], args := [d1, d2] }
  | _ => none }
def arbiterFallsRow : OpenClaim := { program := "ytcicdnleeknjgaa", sum := "1f33b21bdcc0053cae5d2f221623d0bbadfd65d74a1ce513e209e6b25359f84e", func := "emulator/emulatorlaw12.ArbiterFalls", spec := "arbiterFalls", unfollowed := true, recurses := true, apart := false }
def ArbiterFallsSaid : Prop := arbiterFallsRow.holds Try.pinned (OpenSpec.ofChange arbiterFallsSpec)

/-- ITS FALSE NEIGHBOUR: 'it returns false'. Refute it at one input. -/
def arbiterFallsWrong : ChangeSpec := { name := "arbiterFalls", fn := fun _ => fun
  | [d1, d2] => { results := [.lit (.bool false)], args := [d1, d2] }
  | _ => none }
def ArbiterFallsWrongFalsely : Prop := arbiterFallsRow.holds Try.pinned (OpenSpec.ofChange arbiterFallsWrong)

/- THE SECOND FORM. 'bulk': how many values and letters a reading holds, each counted each time it is reached (what is shared counts as often as it is met; a slice's spare places count too). A statement '..UptoSaid' is the law's where the arguments, and the package variables that the reading takes, are together of bulk at most 1048576: NARROWER than '..Said'. Prove '..Said' where nothing that the law and all that it calls make is longer than what came in: it says more and counts as full. Else prove '..UptoSaid'. A law counts once. -/
mutual
def uptoBulk {H : Type} : DataW H → Nat
  | .lit (.string bytes) => bytes.length + 1
  | .lit _ => 1
  | .nil => 1
  | .ptr d => uptoBulk d + 1
  | .slice elems spare => uptoBulkAll elems + uptoBulkAll spare + 1
  | .agg parts => uptoBulkAll parts + 1
  | .iface _ d => uptoBulk d + 1
  | .map entries => uptoBulkEntries entries + 1
  | .held _ => 1
def uptoBulkAll {H : Type} : List (DataW H) → Nat
  | [] => 0
  | d :: r => uptoBulk d + uptoBulkAll r
def uptoBulkEntries {H : Type} : List (Lit × DataW H) → Nat
  | [] => 0
  | x :: r => uptoBulkEntry x + uptoBulkEntries r
def uptoBulkEntry {H : Type} : Lit × DataW H → Nat
  | (.string bytes, d) => bytes.length + uptoBulk d + 1
  | (_, d) => uptoBulk d + 1
 end
def uptoSmall : (H : Type) → List (DataW H) → Bool := fun _ ds => decide (uptoBulkAll ds ≤ 1048576)
def OpenSpec.upto (s : _root_.Go.ChangeSpec) : _root_.Go.OpenSpec := { _root_.Go.OpenSpec.ofChange s with cond := some uptoSmall }

/-- 'emulatorlaw12.ArbiterValid', WHERE WHAT IT READS IS OF BULK AT MOST 1048576: true; the input reads as it did. -/
def arbiterValidUptoRow : OpenClaim := { program := "ytcicdnleeknjgaa", sum := "1f33b21bdcc0053cae5d2f221623d0bbadfd65d74a1ce513e209e6b25359f84e", func := "emulator/emulatorlaw12.ArbiterValid", spec := "arbiterValid", unfollowed := true, recurses := true, apart := false, narrowed := true }
def ArbiterValidUptoSaid : Prop := arbiterValidUptoRow.holds Try.pinned (OpenSpec.upto arbiterValidSpec)

/-- 'emulatorlaw12.ArbiterSorts', WHERE WHAT IT READS IS OF BULK AT MOST 1048576: true; the input reads as it did. -/
def arbiterSortsUptoRow : OpenClaim := { program := "ytcicdnleeknjgaa", sum := "1f33b21bdcc0053cae5d2f221623d0bbadfd65d74a1ce513e209e6b25359f84e", func := "emulator/emulatorlaw12.ArbiterSorts", spec := "arbiterSorts", unfollowed := true, recurses := true, apart := false, narrowed := true }
def ArbiterSortsUptoSaid : Prop := arbiterSortsUptoRow.holds Try.pinned (OpenSpec.upto arbiterSortsSpec)

/-- 'emulatorlaw12.ArbiterGrants', WHERE WHAT IT READS IS OF BULK AT MOST 1048576: true; the input reads as it did. -/
def arbiterGrantsUptoRow : OpenClaim := { program := "ytcicdnleeknjgaa", sum := "1f33b21bdcc0053cae5d2f221623d0bbadfd65d74a1ce513e209e6b25359f84e", func := "emulator/emulatorlaw12.ArbiterGrants", spec := "arbiterGrants", unfollowed := true, recurses := true, apart := false, narrowed := true }
def ArbiterGrantsUptoSaid : Prop := arbiterGrantsUptoRow.holds Try.pinned (OpenSpec.upto arbiterGrantsSpec)

/-- 'emulatorlaw12.ArbiterOrder', WHERE WHAT IT READS IS OF BULK AT MOST 1048576: true; the input reads as it did. -/
def arbiterOrderUptoRow : OpenClaim := { program := "ytcicdnleeknjgaa", sum := "1f33b21bdcc0053cae5d2f221623d0bbadfd65d74a1ce513e209e6b25359f84e", func := "emulator/emulatorlaw12.ArbiterOrder", spec := "arbiterOrder", unfollowed := true, recurses := true, apart := false, narrowed := true }
def ArbiterOrderUptoSaid : Prop := arbiterOrderUptoRow.holds Try.pinned (OpenSpec.upto arbiterOrderSpec)

/-- 'emulatorlaw12.ArbiterFalls', WHERE WHAT IT READS IS OF BULK AT MOST 1048576: true; the input reads as it did. -/
def arbiterFallsUptoRow : OpenClaim := { program := "ytcicdnleeknjgaa", sum := "1f33b21bdcc0053cae5d2f221623d0bbadfd65d74a1ce513e209e6b25359f84e", func := "emulator/emulatorlaw12.ArbiterFalls", spec := "arbiterFalls", unfollowed := true, recurses := true, apart := false, narrowed := true }
def ArbiterFallsUptoSaid : Prop := arbiterFallsUptoRow.holds Try.pinned (OpenSpec.upto arbiterFallsSpec)

end Rows
end Go.Proofs.Ytcicdnleeknjgaa
