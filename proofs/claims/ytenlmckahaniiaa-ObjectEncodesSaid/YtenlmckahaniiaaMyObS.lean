/- object: which names, symbols, relocations and modules are valid, and small modules. -/
import Derived.Test.YtenlmckahaniiaaMyOctA
import Derived.Test.YtenlmckahaniiaaKx3
import Derived.Test.YtenlmckahaniiaaKx6
set_option linter.unusedVariables false
set_option linter.unusedSimpArgs false
namespace Go.Proofs.Ytenlmckahaniiaa.Obj
open Go Go.RowKit Go.Proofs.Ytenlmckahaniiaa.K Go.Proofs.YtenlmckahaniiaaW.PrintWords Go.Proofs.YtenlmckahaniiaaW.PrintMore Go.Proofs.Ytenlmckahaniiaa.MyBits Go.Proofs.Ytenlmckahaniiaa.MyStr Go.Proofs.Ytenlmckahaniiaa.Oct

theorem Ev.ite {α : Type} {c : Prop} [Decidable c] {g f : Nat → Option α} {r : α} (h1 : c → Ev g r) (h2 : ¬ c → Ev f r) : Ev (fun k => if c then g k else f k) r := by
  by_cases h : c
  · exact Ev.congr (fun k => if_pos h) (h1 h)
  · exact Ev.congr (fun k => if_neg h) (h2 h)
theorem Ev.eq {α : Type} {g : Nat → Option α} {r r' : α} (h : Ev g r) (e : r = r') : Ev g r' := e ▸ h
theorem i64_nat (i : Nat) (h : i < 9223372036854775807) : wrap64 ((i : Int) + 1) = ((i + 1 : Nat) : Int) := by unfold wrap64; omega

/-! Names. -/
/-- A byte of a name. -/
def okc (c : Int) : Bool := (decide (97 ≤ c) && decide (c ≤ 122)) || (decide (65 ≤ c) && decide (c ≤ 90)) || (decide (48 ≤ c) && decide (c ≤ 57)) || decide (c = 95) || decide (c = 46) || decide (c = 36)
/-- Is a string a name? -/
def nameL (l : List UInt8) : Bool := decide (l ≠ []) && decide (l.length ≤ 14) && !(decide (48 ≤ byteAt l 0) && decide (byteAt l 0 ≤ 57)) && (ints l).all okc
def isNm (s : ByteArray) : Bool := nameL (bs s)
theorem rd_ints (l : List UInt8) (i : Nat) (h : i < l.length) : rd (ints l) (i : Int) = byteAt l i ∧ 0 ≤ rd (ints l) (i : Int) ∧ rd (ints l) (i : Int) < 256 := by
  have e : rd (ints l) (i : Int) = byteAt l i := by rw [byteAt_ints]; simp [rd]
  rw [e]
  exact ⟨rfl, byteAt_range l i⟩
theorem drop_all (p : Int → Bool) (l : List Int) (i : Nat) (h : i < l.length) : (l.drop i).all p = (p (rd l (i : Int)) && (l.drop (i + 1)).all p) := by
  rw [List.drop_eq_getElem_cons h, List.all_cons]
  have : rd l (i : Int) = l[i] := by simp [rd, h]
  rw [this]
theorem toList_nil (s : ByteArray) : s.toList = ([] : List UInt8) ↔ bs s = [] := by rw [toList_bs]
theorem nameL_len {l : List UInt8} (h : nameL l = true) : 1 ≤ l.length ∧ l.length ≤ 14 := by
  unfold nameL at h
  simp only [Bool.and_eq_true, decide_eq_true_eq] at h
  exact ⟨List.length_pos_iff.2 h.1.1.1, h.1.1.2⟩

/-! Symbols. -/
/- (symOk: beside object_checkSymbols.f) -/
/-- The first error of symbols, where names have been seen. -/
def symsR : List (List UInt8) → List S62 → Int
  | _, [] => 0
  | m, s :: r => if isNm s.f0 = true then (if bs s.f0 ∈ m then 6 else if symOk s = true then symsR (m ++ [bs s.f0]) r else 2) else 4
theorem rd62 (l : List S62) (i : Nat) (h : i < l.length) : rd_T62 l (i : Int) = l[i] := by simp [rd_T62, List.getD_eq_getElem?_getD, h]
theorem rd43 (l : List S43) (i : Nat) (h : i < l.length) : rd_T43 l (i : Int) = l[i] := by simp [rd_T43, List.getD_eq_getElem?_getD, h]
/-- Strings of symbols and relocations that can be told. -/
def Fine62 (l : List S62) : Prop := ∀ s ∈ l, s.f0.size ≤ 9223372036854775806
/-- The names of the first symbols. -/
def namesOf (l : List S62) : List (List UInt8) := l.map fun s => bs s.f0
theorem and16 (x : Int) : Go.bits .and .i64 x 65535 = x % 65536 := and_low x 65535 16 (by omega) (by decide)
theorem symOk_iff (s : S62) : symOk s = true ↔ (0 ≤ s.f1 ∧ s.f1 ≤ 3 ∧ 0 ≤ s.f2 ∧ s.f2 ≤ 65535) := by
  unfold symOk
  rw [and16]
  simp only [Bool.and_eq_true, Bool.not_eq_true', decide_eq_false_iff_not, bne_eq_false_iff_eq]
  omega
/-! Relocations. -/
/-- The error of a relocation behind another one. -/
def relR (ts ds : Int) (x b : S43) : Int :=
  if x.f0 ≠ 1 ∧ x.f0 ≠ 2 then 2
  else if x.f1 < 0 ∨ Int.tmod x.f1 2 ≠ 0 ∨ x.f1 > wrap64 ((if x.f0 = 2 then ds else ts) - 2) then 2
  else if x.f0 < b.f0 ∨ (x.f0 = b.f0 ∧ x.f1 ≤ b.f1) then 2
  else if x.f2 < 0 ∨ x.f2 > 4 ∨ (x.f2 = 0 ∧ x.f4 = false) then 2
  else if x.f2 = 4 then (if isNm x.f3 = true then 0 else 4) else (if bs x.f3 = [] then 0 else 4)
/-- The four tests behind the size. -/
def relT (sz : Int) (x b : S43) : Int :=
  if x.f1 < 0 ∨ Int.tmod x.f1 2 ≠ 0 ∨ x.f1 > wrap64 (sz - 2) then 2
  else if x.f0 < b.f0 ∨ (x.f0 = b.f0 ∧ x.f1 ≤ b.f1) then 2
  else if x.f2 < 0 ∨ x.f2 > 4 ∨ (x.f2 = 0 ∧ x.f4 = false) then 2
  else if x.f2 = 4 then (if isNm x.f3 = true then 0 else 4) else (if bs x.f3 = [] then 0 else 4)
/-! Modules. -/
/-- The first error of relocations behind another one. -/
def relsR (ts ds : Int) : S43 → List S43 → Int
  | _, [] => 0
  | b, x :: r => if relR ts ds x b = 0 then relsR ts ds x r else relR ts ds x b
def Fine43 (l : List S43) : Prop := ∀ s ∈ l, s.f3.size ≤ 9223372036854775806
/-- What the first relocation is held against. -/
def b0 : S43 := ⟨-1, 0, 0, ⟨#[]⟩, false⟩
/-- The first error of a module. -/
def checkR (a0 a1 a2 : ByteArray) (a3 : Int) (l4 : List S62) (l5 : List S43) : Int :=
  if isNm a0 = true then
    (if a1.size > 16384 ∨ a2.size > 16384 ∨ a3 > 16384 ∨ l4.length > 256 ∨ l5.length > 2048 then 7
     else if a1.size % 2 ≠ 0 ∨ a3 < 0 then 1
     else if symsR [] l4 = 0 then relsR (a1.size : Int) (a2.size : Int) b0 l5 else symsR [] l4)
  else 4
/-- Names and lists of a length that can be told. -/
structure Fine (a0 : ByteArray) (l4 : List S62) (l5 : List S43) : Prop where
  h0 : a0.size ≤ 9223372036854775806
  h4 : Fine62 l4
  h5 : Fine43 l5
/-! Small modules. -/
structure Small (a0 a1 a2 : ByteArray) (l4 : List S62) (l5 : List S43) : Prop where
  h0 : a0.size ≤ 100
  h1 : a1.size ≤ 17000
  h2 : a2.size ≤ 17000
  h4 : l4.length ≤ 300
  h5 : l5.length ≤ 2100
  s4 : ∀ s ∈ l4, s.f0.size ≤ 100
  s5 : ∀ s ∈ l5, s.f3.size ≤ 100
theorem Small.fine {a0 a1 a2 : ByteArray} {l4 : List S62} {l5 : List S43} (h : Small a0 a1 a2 l4 l5) : Fine a0 l4 l5 := ⟨by have := h.h0; omega, fun s hs => by have := h.s4 s hs; omega, fun s hs => by have := h.s5 s hs; omega⟩
theorem small_l1 (l : List S43) (hn : l.length ≤ 1000000) (d : Nat) : ∀ i : Nat, i + d = l.length → ∃ b, Ev (fun k => emulatorlaw28_small.l1 k l (l.length : Int) (i : Int)) b ∧ (b = true → ∀ s ∈ l.drop i, s.f3.size ≤ 100) := by
  induction d with
  | zero =>
    intro i hi
    refine ⟨true, Ev.step (f := fun _ => some true) (fun k => by rw [emulatorlaw28_small.l1, if_neg (by omega)]) (Ev.now _), fun _ => ?_⟩
    rw [List.drop_eq_nil_of_le (by omega)]
    intro s hs; cases hs
  | succ d ih =>
    intro i hi
    have hlt : i < l.length := by omega
    obtain ⟨b, hb, hs⟩ := ih (i + 1) (by omega)
    by_cases h : (l[i].f3.size : Int) > 100
    · refine ⟨false, Ev.step (f := fun _ => some false) (fun k => by rw [emulatorlaw28_small.l1, if_pos (by omega), if_pos (by omega), if_pos (by omega), rd43 l i hlt, if_pos h]) (Ev.now _), fun h => by cases h⟩
    · refine ⟨b, Ev.step (fun k => by rw [emulatorlaw28_small.l1, if_pos (by omega), if_pos (by omega), if_pos (by omega), rd43 l i hlt, if_neg h, i64_nat i (by omega)]) hb, fun hb => ?_⟩
      rw [List.drop_eq_getElem_cons hlt]
      intro s hs'
      rcases List.mem_cons.1 hs' with rfl | hs'
      · omega
      · exact hs hb s hs'
theorem small_l0 (a0 a1 a2 : ByteArray) (a3 : Int) (l : List S62) (l5 : List S43) (hn : l.length ≤ 1000000) (hn5 : l5.length ≤ 1000000) (d : Nat) : ∀ i : Nat, i + d = l.length → ∃ b, Ev (fun k => emulatorlaw28_small.l0 k l (l.length : Int) (i : Int) a0 a1 a2 a3 l l5) b ∧ (b = true → (∀ s ∈ l.drop i, s.f0.size ≤ 100) ∧ (∀ s ∈ l5, s.f3.size ≤ 100)) := by
  induction d with
  | zero =>
    intro i hi
    obtain ⟨b, hb, hs⟩ := small_l1 l5 hn5 l5.length 0 (by omega)
    refine ⟨b, Ev.step (f := fun k => emulatorlaw28_small.l1 k l5 (l5.length : Int) 0) (fun k => by rw [emulatorlaw28_small.l0, if_neg (by omega)]) (by simpa using hb), fun h => ⟨?_, by simpa using hs h⟩⟩
    rw [List.drop_eq_nil_of_le (by omega)]
    intro s hs; cases hs
  | succ d ih =>
    intro i hi
    have hlt : i < l.length := by omega
    obtain ⟨b, hb, hs⟩ := ih (i + 1) (by omega)
    by_cases h : (l[i].f0.size : Int) > 100
    · refine ⟨false, Ev.step (f := fun _ => some false) (fun k => by rw [emulatorlaw28_small.l0, if_pos (by omega), if_pos (by omega), if_pos (by omega), rd62 l i hlt, if_pos h]) (Ev.now _), fun h => by cases h⟩
    · refine ⟨b, Ev.step (fun k => by rw [emulatorlaw28_small.l0, if_pos (by omega), if_pos (by omega), if_pos (by omega), rd62 l i hlt, if_neg h, i64_nat i (by omega)]) hb, fun hb => ⟨?_, (hs hb).2⟩⟩
      rw [List.drop_eq_getElem_cons hlt]
      intro s hs'
      rcases List.mem_cons.1 hs' with rfl | hs'
      · omega
      · exact (hs hb).1 s hs'
theorem small_is (a0 a1 a2 : ByteArray) (a3 : Int) (l4 : List S62) (l5 : List S43) : ∃ b, Ev (fun k => emulatorlaw28_small.f k a0 a1 a2 a3 l4 l5) b ∧ (b = true → Small a0 a1 a2 l4 l5) := by
  have hno : Ev (fun k => emulatorlaw28_small.j0 k true a0 a1 a2 a3 l4 l5) false := Ev.step (f := fun _ => some false) (fun k => by rw [emulatorlaw28_small.j0, if_pos rfl]) (Ev.now _)
  unfold emulatorlaw28_small.f
  by_cases h0 : (a0.size : Int) > 100
  · exact ⟨false, Ev.congr (fun k => if_pos h0) hno, fun h => by cases h⟩
  by_cases h1 : (a1.size : Int) > 17000
  · exact ⟨false, Ev.congr (fun k => by rw [if_neg h0, if_pos h1]) hno, fun h => by cases h⟩
  by_cases h2 : (a2.size : Int) > 17000
  · exact ⟨false, Ev.congr (fun k => by rw [if_neg h0, if_neg h1, if_pos h2]) hno, fun h => by cases h⟩
  by_cases h4 : (l4.length : Int) > 300
  · exact ⟨false, Ev.congr (fun k => by rw [if_neg h0, if_neg h1, if_neg h2, if_pos h4]) hno, fun h => by cases h⟩
  by_cases h5 : (l5.length : Int) > 2100
  · exact ⟨false, Ev.congr (fun k => by rw [if_neg h0, if_neg h1, if_neg h2, if_neg h4, decide_eq_true h5]) hno, fun h => by cases h⟩
  obtain ⟨b, hb, hs⟩ := small_l0 a0 a1 a2 a3 l4 l5 (by omega) (by omega) l4.length 0 (by omega)
  refine ⟨b, Ev.congr (fun k => by rw [if_neg h0, if_neg h1, if_neg h2, if_neg h4, decide_eq_false h5]) (Ev.step (fun k => by rw [emulatorlaw28_small.j0, if_neg (by decide)]; rfl) hb), fun h => ?_⟩
  obtain ⟨s4, s5⟩ := hs h
  exact ⟨by omega, by omega, by omega, by omega, by omega, by simpa using s4, s5⟩
end Go.Proofs.Ytenlmckahaniiaa.Obj
