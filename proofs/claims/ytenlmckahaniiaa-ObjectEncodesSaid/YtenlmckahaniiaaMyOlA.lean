/- object: what the walks by hand ask of the library: a byte's place in a string; a set of names in a map that the call makes. -/
import Derived.Test.YtenlmckahaniiaaProg
import Derived.Test.YtenlmckahaniiaaMyW
import Derived.Lib.Bytealg
import Derived.Maps.OwnSet
set_option linter.unusedVariables false
set_option linter.unusedSimpArgs false
namespace Go.Proofs.Ytenlmckahaniiaa.K
open Go Go.Proofs Go.RowKit Go.Maps Go.Lib

/-- 'strings.IndexByte', as a number. -/
def idxB (s : ByteArray) (c : Int) : Int := Lib.indexByte s.data.toList c.toNat.toUInt8

set_option maxHeartbeats 1000000 in
set_option maxRecDepth 100000 in
theorem stringslite_IndexByte_calls (s : ByteArray) (c : Int) (w : World) :
    Calls Try.prog 102 #[.string s, .int .u8 c] w fun e w' => e = .returned (.int .i64 (idxB s c)) ∧ w' = w := by
  go_enter Try.func102, Try.ntmps102
  go_wp2
  rw [run_callFunc_extern Try.func115 (by kernel_rfl) (by kernel_rfl) (by kernel_rfl) (e := Extern.BytealgIndexByte.indexByte) (by kernel_rfl), Lib.run_indexByteString]
  simp only [Result.andThen]
  rw [Oper.upon_value]
  go_wp2
  go_ret
  exact ⟨rfl, rfl⟩
set_option maxHeartbeats 1000000 in
set_option maxRecDepth 100000 in
theorem strings_IndexByte_calls (s : ByteArray) (c : Int) (w : World) :
    Calls Try.prog 87 #[.string s, .int .u8 c] w fun e w' => e = .returned (.int .i64 (idxB s c)) ∧ w' = w := by
  go_enter Try.func87, Try.ntmps87
  go_wp2_with (go_at_call 102; refine (stringslite_IndexByte_calls s c _).mono ?_; rintro e w' ⟨rfl, rfl⟩)
  go_ret
  exact ⟨rfl, rfl⟩
/-! A set of names, in a map that the call has made. -/
/-- Block b is a map whose keys are the names of l, each with 'true'. -/
def Seen (w : World) (b : Nat) (l : List (List UInt8)) : Prop :=
  ∃ D : DataW Unit, w.ownsMap Try.prog 9 (plainElem Try.prog 4) b l.length D ∧ IsMap D ∧ ∀ s : ByteArray, D.atKey (.string s.data.toList) (.lit (.bool false)) = .lit (.bool (decide (s.data.toList ∈ l)))
theorem Seen.made (w : World) : Seen (w.alloc (.map #[] 0)) w.heap.size [] :=
  ⟨.map [], World.ownsMap_made _ _ _ _, ⟨[], rfl⟩, fun s => rfl⟩
theorem Seen.kept {w w' : World} {b : Nat} {l : List (List UInt8)} {row : Option Nat} (h : Seen w b l) (hg : w.grownBy w' row) (hne : some b ≠ row) : Seen w' b l := by
  obtain ⟨D, h1, h2, h3⟩ := h
  exact ⟨D, h1.kept hg hne, h2, h3⟩
theorem Seen.below {w w' : World} {b : Nat} {l : List (List UInt8)} (h : Seen w b l) (hb : Below w.heap.size w w') : Seen w' b l := by
  obtain ⟨D, ⟨es, clock, hh, F, hs, hD⟩, h2, h3⟩ := h
  exact ⟨D, ⟨es, clock, (hb.block b ((Array.getElem?_eq_some_iff.1 hh).1)).trans hh, F, hs, hD⟩, h2, h3⟩
theorem Seen.alloc {w : World} {b : Nat} {l : List (List UInt8)} (h : Seen w b l) (o : Obj) : Seen (w.alloc o) b l := by
  obtain ⟨D, h1, h2, h3⟩ := h
  exact ⟨D, h1.alloc o, h2, h3⟩
theorem Seen.set {w : World} {b : Nat} {l : List (List UInt8)} (h : Seen w b l) {p : Addr} (hp : b ≠ p.block) (u : Value) : Seen (w.setCell p u) b l := by
  obtain ⟨D, ⟨es, clock, hh, F, hs, hD⟩, h2, h3⟩ := h
  exact ⟨D, ⟨es, clock, (Below.heap_setCell w p u b hp).trans hh, F, hs, hD⟩, h2, h3⟩
theorem Seen.drewN {w : World} {b : Nat} {l : List (List UInt8)} (h : Seen w b l) (m : Nat) : Seen (w.drewN m) b l := h
theorem Seen.drew {w : World} {b : Nat} {l : List (List UInt8)} (h : Seen w b l) : Seen w.drew b l := h
theorem Seen.lt {w : World} {b : Nat} {l : List (List UInt8)} (h : Seen w b l) : b < w.heap.size := by
  obtain ⟨D, h1, _⟩ := h
  exact h1.lt
theorem key_ne {s t : List UInt8} (h : s ≠ t) : Lit.string s ≠ Lit.string t := by
  intro e
  injection e with e
  exact h e
theorem plainElem_bool_inv {P : Program} {e : TypeId} (he : P.underlying e = some .bool) {v : Value} {x : Bool} {ps : List MemPlace} (h : plainElem (H := Unit) P e v = some (.lit (.bool x), ps)) : v = .bool x := by
  unfold plainElem at h
  rw [he] at h
  cases v <;> simp at h
  rw [h.1]
/-- A look-up whose run is known. -/
theorem wpList_lookup_run {P : Program} {w : World} {ops : Array Oper} {rest : List Oper} {o : Oper} {a : Act} {Q : Exit → Act → World → Prop} (hg : o.guard = none) (m x : Operand) (t : TypeId) (hop : o.op = Op.lookup t m x false)
    {M X v : Value} (hm : a.eval m = M) (hx : a.eval x = X) (hrun : (Instr.lookup t M X false).run P w = .ok v w)
    (hK : wpList P ops Q rest (a.put o.dst v) w) : wpList P ops Q (o :: rest) a w := by
  refine wpList_plain hg fun K' hK' => ?_
  unfold Oper.wp
  simp [execOp, hop, hm, hx, hrun, Result.andThen]
  exact hK' _ _ hK
section
variable {ops : Array Oper} {rest : List Oper} {o : Oper} {a : Act} {Q : Exit → Act → World → Prop}
theorem zero4 (w : World) : (zeroValue 4).run Try.prog w = .ok (.bool false) w := by kernel_rfl
theorem law9 : Keyed Try.prog 9 := string_keyed Try.underlying9
/-- 'seen[s]'. -/
theorem wpList_seen {w : World} (hg : o.guard = none) (m x : Operand) (hop : o.op = Op.lookup 98 m x false) (b : Nat) (l : List (List UInt8))
    (hm : a.eval m = .map (some b)) (hs : Seen w b l) (s : ByteArray) (hx : a.eval x = .string s) (hsz : s.size ≤ maxLen)
    (hK : wpList Try.prog ops Q rest (a.put o.dst (.bool (decide (s.data.toList ∈ l)))) w) : wpList Try.prog ops Q (o :: rest) a w := by
  obtain ⟨D, h1, _, h3⟩ := hs
  obtain ⟨v, ps, hrun, hv⟩ := h1.lookup law9 Try.underlying98 (zero4 w) (plainElem_bool Try.underlying4 false) (WideMaps.keyOf_string_mk Try.underlying9 hsz)
  rw [h3] at hv
  obtain rfl := plainElem_bool_inv Try.underlying4 hv
  exact wpList_lookup_run hg m x 98 hop hm hx hrun hK
/-- 'seen[s] = true'. -/
theorem wpList_see {w : World} (hg : o.guard = none) (m x v : Operand) (hop : o.op = Op.mapUpdate 98 m x v) (b : Nat) (l : List (List UInt8))
    (hm : a.eval m = .map (some b)) (hs : Seen w b l) (hn : l.length < maxLen) (s : ByteArray) (hx : a.eval x = .string s) (hv : a.eval v = .bool true) (hsz : s.size ≤ maxLen)
    (hK : ∀ w', Seen w' b (l ++ [s.data.toList]) → w.grownBy w' (some b) → wpList Try.prog ops Q rest (a.put o.dst undef) w') : wpList Try.prog ops Q (o :: rest) a w := by
  obtain ⟨D, h1, h2, h3⟩ := hs
  refine wpList_mapUpdate_own w hg m x v 98 hop 9 4 law9 Try.underlying98 (plainElem (H := Unit) Try.prog 4) b l.length D hm h1 hn _ _ _ hx hv (WideMaps.keyOf_string_mk Try.underlying9 hsz) _ [] (plainElem_bool Try.underlying4 true) ?_
  intro w' hown hgrow
  refine hK w' ⟨_, by simpa using hown, ?_, ?_⟩ hgrow
  · obtain ⟨es, rfl⟩ := h2
    exact ⟨_, rfl⟩
  · intro t
    by_cases ht : t.data.toList = s.data.toList
    · rw [ht, atKey_put_same h2 (show WideAt.IsKeyLit (.string s.data.toList) from trivial)]
      simp
    · rw [atKey_put_other (key_ne ht), h3 t]
      simp [ht]
end
end Go.Proofs.Ytenlmckahaniiaa.K
