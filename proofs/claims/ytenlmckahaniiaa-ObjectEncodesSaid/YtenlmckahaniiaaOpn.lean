/- What a row's datum says of a value of any shape (numbers, truth values, strings, slices and structs of them): a value by the printed kinds (Kd), and its bounds. -/
import Derived.Test.YtenlmckahaniiaaWd
import Derived.Deep.Slices
import Derived.ChangeSame
import Derived.ChangeOld
import Derived.Carry
import Derived.SizedLaws
set_option linter.unusedVariables false
set_option linter.unusedSimpArgs false
namespace Go.Proofs.YtenlmckahaniiaaW.PrintWords
open Go Go.RowKit Go.ChangeShapes Go.WideShapes Go.Deep

def WfI (k : IntKind) (n : Int) : Prop := (Lit.int k n).wf = true
def WfB (_ : Bool) : Prop := True
def WfS (s : ByteArray) : Prop := s.size ≤ 9223372036854775807
def WfL {α : Type} (p : α → Prop) (l : List α) : Prop := l.length ≤ 9223372036854775807 ∧ ∀ x ∈ l, p x
def WfP {α β : Type} (p : α → Prop) (q : β → Prop) (x : α × β) : Prop := p x.1 ∧ q x.2

/-- A value of type t that a row's datum tells is one of kind d. -/
structure Opens {α : Type} (P : Program) (t : TypeId) (d : Kd α) (wf : α → Prop) : Prop where
  sz : d.sz = P.cellsOf t
  op : ∀ {H : Type} {enc : TypeId × Value → H} {w : World} {base : Nat} {spare : Nat → Bool} {held : Bool} {fuel : Nat} {cs : List Value} {x : DataW H × List MemPlace}, DataW.trod enc P w base spare held fuel t cs = some x → ∃ y, d.K w y cs ∧ wf y

/-- The fields fs of a struct, from cell off on, are of kind d. -/
structure OpensF {α : Type} (P : Program) (fs : List Field) (off : Nat) (d : Kd α) (wf : α → Prop) : Prop where
  op : ∀ {H : Type} {enc : TypeId × Value → H} {w : World} {base : Nat} {spare : Nat → Bool} {held : Bool} {cs : List Value}, cs.length = off + d.sz →
    (∀ f ∈ fs, ∃ n x, DataW.trod enc P w base spare held n f.type ((cs.drop f.offset).take (P.cellsOf f.type)) = some x) → ∃ y, d.K w y (cs.drop off) ∧ wf y

section
variable {P : Program} {t e : TypeId}
theorem Opens.int {k : IntKind} (ht : P.underlying t = some (.int k)) (hc : P.cellsOf t = 1) : Opens P t (Kd.int k) (WfI k) :=
  ⟨hc.symm, fun h => by obtain ⟨n, rfl, _, hw⟩ := DataW.trod_int ht h; exact ⟨n, rfl, hw⟩⟩
theorem Opens.bool (ht : P.underlying t = some .bool) (hc : P.cellsOf t = 1) : Opens P t Kd.bool WfB :=
  ⟨hc.symm, fun h => by obtain ⟨n, rfl, _⟩ := DataW.trod_bool ht h; exact ⟨n, rfl, trivial⟩⟩
theorem Opens.string (ht : P.underlying t = some .string) (hc : P.cellsOf t = 1) : Opens P t Kd.string WfS :=
  ⟨hc.symm, fun h => by obtain ⟨n, rfl, _, hw⟩ := DataW.trod_string ht h; exact ⟨n, rfl, hw⟩⟩

theorem Opens.slice {α : Type} {d : Kd α} {wf : α → Prop} (ht : P.underlying t = some (.slice e)) (hc : P.cellsOf t = 1) (he : Opens P e d wf) : Opens P t (Kd.slice e d) (WfL wf) :=
  ⟨hc.symm, fun {H enc w base spare held fuel cs x} h => by
    rcases open_slice ht h with ⟨rfl, _⟩ | ⟨a, len, cap, m, n, D, Pl, rfl, _, hl, hm, hmm, _, hi⟩
    · exact ⟨[], ⟨none, 0, rfl, Nat.le_refl _, rfl, by simp, fun h0 => absurd h0 (by simp)⟩, by simp, fun x hx => by simp at hx⟩
    · have hle : len ≤ m := by rw [hmm]; split <;> omega
      have hel : ∀ i, i < len → ∃ y, (∃ c, c.length = d.sz ∧ d.K w y c ∧ ∀ j u, c[j]? = some u → w.cell? (a.add (i * d.sz + j)) = some u) ∧ wf y := by
        intro i hil
        obtain ⟨cs', hcs, htr⟩ := hi i (by omega)
        obtain ⟨y, hk, hw⟩ := he.op htr
        obtain ⟨_, hlen, hat⟩ := World.cells?_some hcs
        refine ⟨y, ⟨cs', hlen.trans he.sz.symm, hk, fun j u hu => ?_⟩, hw⟩
        have hj : j < cs'.length := (List.getElem?_eq_some_iff.1 hu).1
        have := hat j (by omega)
        rw [he.sz, ← add_add, this, hu]
      have key : ∀ m, m ≤ len → ∃ ys : List α, ys.length = m ∧ (∀ j p, ys[j]? = some p → ∃ c, c.length = d.sz ∧ d.K w p c ∧ ∀ i u, c[i]? = some u → w.cell? (a.add (j * d.sz + i)) = some u) ∧ ∀ y ∈ ys, wf y := by
        intro m
        induction m with
        | zero => exact fun _ => ⟨[], rfl, fun j p hj => by simp at hj, fun y hy => by simp at hy⟩
        | succ m ih =>
          intro hm'
          obtain ⟨ys, h1, h2, h3⟩ := ih (by omega)
          obtain ⟨y, hy, hw⟩ := hel m (by omega)
          refine ⟨ys ++ [y], by simp [h1], fun j p hj => ?_, fun z hz => ?_⟩
          · by_cases hjm : j < m
            · rw [List.getElem?_append_left (by omega)] at hj; exact h2 j p hj
            · have hjl : j < (ys ++ [y]).length := (List.getElem?_eq_some_iff.1 hj).1
              have : j = m := by simp [h1] at hjl; omega
              subst this
              rw [List.getElem?_append_right (by omega)] at hj
              simp [h1] at hj
              subst hj; exact hy
          · rcases List.mem_append.1 hz with hz | hz
            · exact h3 z hz
            · rw [List.mem_singleton.1 hz]; exact hw
      obtain ⟨ys, h1, h2, h3⟩ := key len (Nat.le_refl _)
      have hmx : len ≤ 9223372036854775807 := by unfold maxLen at hm; omega
      subst h1
      exact ⟨ys, ⟨some a, cap, rfl, hl, rfl, hmx, fun _ => ⟨a, rfl, h2⟩⟩, hmx, h3⟩⟩

theorem OpensF.last {α : Type} {d : Kd α} {wf : α → Prop} {f : Field} {off : Nat} (h : Opens P f.type d wf) (ho : f.offset = off) : OpensF P [f] off d wf :=
  ⟨fun {H enc w base spare held cs} hl hf => by
    obtain ⟨n, x, hx⟩ := hf f (by simp)
    obtain ⟨y, hk, hw⟩ := h.op hx
    have hc : (cs.drop f.offset).take (P.cellsOf f.type) = cs.drop off := by
      rw [ho, ← h.sz]
      exact List.take_of_length_le (by rw [List.length_drop]; omega)
    rw [hc] at hk
    exact ⟨y, hk, hw⟩⟩
theorem OpensF.cons {α β : Type} {d : Kd α} {wf : α → Prop} {b : Kd β} {wb : β → Prop} {f : Field} {fs : List Field} {off off' : Nat} (h : Opens P f.type d wf) (ho : f.offset = off) (ho' : off + P.cellsOf f.type = off') (hs : OpensF P fs off' b wb) :
    OpensF P (f :: fs) off (Kd.pair d b) (WfP wf wb) :=
  ⟨fun {H enc w base spare held cs} hl hf => by
    obtain ⟨n, x, hx⟩ := hf f (by simp)
    obtain ⟨y, hk, hw⟩ := h.op hx
    have hl' : cs.length = off + (d.sz + b.sz) := hl
    obtain ⟨z, hz, hwz⟩ := hs.op (enc := enc) (w := w) (base := base) (spare := spare) (held := held) (cs := cs) (by rw [← ho', ← h.sz]; omega) (fun g hg => hf g (by simp [hg]))
    rw [ho] at hk
    refine ⟨(y, z), ⟨_, _, ?_, hk, hz⟩, hw, hwz⟩
    rw [← ho', ← List.drop_drop, List.take_append_drop]⟩
theorem Opens.struct {α : Type} {d : Kd α} {wf : α → Prop} {fs : Array Field} (ht : P.underlying t = some (.struct fs)) (hc : P.cellsOf t = d.sz) (h : OpensF P fs.toList 0 d wf) : Opens P t d wf :=
  ⟨hc.symm, fun {H enc w base spare held fuel cs x} hx => by
    obtain ⟨xs, n, _, _, hl, hlen, hg⟩ := DataW.trod_struct ht hx
    obtain ⟨y, hk, hw⟩ := h.op (enc := enc) (w := w) (base := base) (spare := spare) (held := held) (cs := cs) (by rw [hl, hc]; omega) (fun f hf => by
      obtain ⟨i, hi, rfl⟩ := List.getElem_of_mem hf
      have h1 := hg i (fs.toList[i]) (by simp at hi; simp [hi])
      rw [List.getElem?_eq_getElem (by rw [hlen]; simpa using hi)] at h1
      exact ⟨_, _, h1⟩)
    rw [List.drop_zero] at hk
    exact ⟨y, hk, hw⟩⟩
theorem Opens.iso {α β : Type} {d : Kd α} {wf : α → Prop} (f : β → α) (g : α → β) (hfg : ∀ y, f (g y) = y) (h : Opens P t d wf) : Opens P t (Kd.iso d f) (fun x => wf (f x)) :=
  ⟨h.sz, fun hx => by
    obtain ⟨y, hk, hw⟩ := h.op hx
    refine ⟨g y, ?_, ?_⟩
    · show d.K _ (f (g y)) _
      rw [hfg]; exact hk
    · show wf (f (g y))
      rw [hfg]; exact hw⟩
end
end Go.Proofs.YtenlmckahaniiaaW.PrintWords
