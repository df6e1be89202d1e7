/- object: strings.Builder: what a builder of the call's own holds, through WriteString and String. -/
import Derived.Test.YtenlmckahaniiaaMyOlA
import Derived.Test.YtenlmckahaniiaaShelf
set_option linter.unusedVariables false
set_option linter.unusedSimpArgs false
namespace Go.Proofs.Ytenlmckahaniiaa.K
open Go Go.Proofs Go.Shelf Go.RowKit Go.Lib Go.Proofs.YtenlmckahaniiaaW.PrintWords Go.Proofs.YtenlmckahaniiaaW.PrintLast

theorem grown_below {w w1 : World} (h : Below w.heap.size w w1) (row : Option Nat) : w.grownBy w1 row := ⟨h.os, h.tape, h.output, h.size, fun i hi _ => h.block i hi⟩
theorem builderAt_below {T e : TypeId} {B b : Nat} {p : Value} {bs : List Value} {w w1 : World} (h : BuilderAt T e B b p bs w) (hb : Below w.heap.size w w1) : BuilderAt T e B b p bs w1 := by
  have hlt := h.lt
  obtain ⟨hB, v, hbk, hown, hne⟩ := h
  exact ⟨hB, v, (hb.block b hlt).trans hbk, hown.kept (grown_below hb none) (by cases v.ownBlock <;> simp), hne⟩
theorem isBuilder_below {T e : TypeId} {B b : Nat} {bs : List Value} {w w1 : World} (h : IsBuilder T e B b bs w) (hb : Below w.heap.size w w1) : IsBuilder T e B b bs w1 :=
  h.elim (fun h => .inl (builderAt_below h hb)) (fun h => .inr (builderAt_below h hb))
theorem drawn_below {w w1 : World} (h : Drawn0 w w1) : Below w.heap.size w w1 := by
  obtain ⟨n, rfl⟩ := h.out
  exact pw_below_drewN (Below.refl _ _) n
theorem strCells_append (a s : ByteArray) : strCells (a ++ s) = strCells a ++ strCells s := by
  unfold strCells
  rw [ByteArray.data_append, Array.toList_append, List.map_append]
/-- What the function that builds an encoding holds: the module in block g, the builder in block b, with the bytes of acc. -/
structure BU (w0 w : World) (g b : Nat) (cs : Array Value) (acc : ByteArray) : Prop where
  below : Below w0.heap.size w0 w
  box : w.heap[g]? = some (.cells cs 25 (0, 0))
  hg : w0.heap.size ≤ g
  hgb : g < b
  hb : b < w.heap.size
  bu : IsBuilder 104 5 b b (strCells acc) w
theorem BU.le {w0 w : World} {g b : Nat} {cs : Array Value} {acc : ByteArray} (h : BU w0 w g b cs acc) : b ≤ w.heap.size := Nat.le_of_lt h.hb
theorem BU.step {w0 w w1 : World} {g b : Nat} {cs : Array Value} {acc : ByteArray} (h : BU w0 w g b cs acc) (hb : Below w.heap.size w w1) : BU w0 w1 g b cs acc :=
  ⟨below_step h.below hb, blk_below h.box hb, h.hg, h.hgb, Nat.lt_of_lt_of_le h.hb hb.size, isBuilder_below h.bu hb⟩
theorem BU.write {w0 w w1 : World} {g b : Nat} {cs : Array Value} {acc s : ByteArray} (h : BU w0 w g b cs acc) (hbu : BuilderAt 104 5 b b (.pointer (some ⟨b, 0, none⟩)) (strCells acc ++ strCells s) w1) (hb : Below b w w1) : BU w0 w1 g b cs (acc ++ s) :=
  ⟨below_weaken h.below (Nat.le_trans h.hg (Nat.le_of_lt h.hgb)) hb, (hb.block g h.hgb).trans h.box, h.hg, h.hgb, Nat.lt_of_lt_of_le h.hb hb.size, .inr (strCells_append acc s ▸ hbu)⟩
theorem BU.made {w0 w w1 : World} {g b : Nat} {cs : Array Value} (hw : Below w0.heap.size w0 w) (hg : g = w0.heap.size) (hbox : w.heap[g]? = some (.cells cs 25 (0, 0))) (hb : b = w.heap.size) (hw1 : Below w.heap.size w w1) (hbu : w1.heap[b]? = some (.cells #[.pointer none, .slice none 0 0] 104 (0, 0))) : BU w0 w1 g b cs ⟨#[]⟩ := by
  have hlt := blk_lt hbox
  have hlb := blk_lt hbu
  subst hb
  refine ⟨below_step hw hw1, blk_below hbox hw1, by omega, hlt, hlb, .inl ⟨Nat.le_refl _, .slice none 0 0, hbu, ⟨rfl, .inl ⟨rfl, rfl⟩⟩, by simp [Value.ownBlock]⟩⟩
theorem BU.len {w0 w : World} {g b : Nat} {cs : Array Value} {acc : ByteArray} (_h : BU w0 w g b cs acc) {s : ByteArray} (hl : acc.size + s.size ≤ 140737488355328) : (strCells acc).length + s.size ≤ 140737488355328 := by
  rw [strCells_length]; exact hl
theorem BU.str {w0 w : World} {g b : Nat} {cs : Array Value} {acc : ByteArray} (h : BU w0 w g b cs acc) : Calls Try.prog 94 #[.pointer (some ⟨b, 0, none⟩)] w fun e w' => e = .returned (.string acc) ∧ Below w0.heap.size w0 w' := by
  refine (Try.Builder_String_any b b acc.data.toList w (by rw [← strCells_eq]; exact h.bu) h.le).mono ?_
  rintro e w' ⟨rfl, hb⟩
  refine ⟨?_, below_weaken h.below (Nat.le_trans h.hg (Nat.le_of_lt h.hgb)) hb⟩
  simp
end Go.Proofs.Ytenlmckahaniiaa.K
