/- Lemmas for several laws: what their proofs need of this seat's texts, in one place. -/
import Derived.Carry
import Derived.ChangeOld
import Derived.ChangeSame
import Derived.Deep.Slices
import Derived.Lib.Bytealg
import Derived.Lib.SlBytesConst
import Derived.Lib.SliceRun
import Derived.Maps.OwnSet
import Derived.SizedLaws
import Derived.Test.YtenlmckahaniiaaProg
import Derived.Test.YtenlmckahaniiaaZcLess0
set_option linter.unusedVariables false
set_option linter.unusedSimpArgs false
set_option linter.unusedSectionVars false
set_option maxHeartbeats 8000000
set_option maxRecDepth 100000
section
namespace Go.Proofs.YtenlmckahaniiaaW.PrintWords
open Go Go.RowKit
theorem y0k (l : List UInt8) : l.isEmpty = !(l != []) := by cases l <;> rfl
theorem ite_some {α : Type} {c : Prop} [Decidable c] {x : Option α} {r : α} (h : (if c then x else none) = some r) : c ∧ x = some r := by
  by_cases hc : c
  · rw [if_pos hc] at h; exact ⟨hc, h⟩
  · rw [if_neg hc] at h; cases h
namespace Kd
variable {P : Program} {ops : Array Oper} {rest : List Oper} {o o2 : Oper} {a : Act} {Q : Exit → Act → World → Prop}
theorem F_row {W w1 : World} {g e : Nat} {cs : Array Value} {fr : Nat × Nat} {xs : List Int} (hW : W.heap.size ≤ g) (hg : w1.heap[g]? = some (.cells cs e fr)) (hm : xs.length ≤ 9223372036854775807)
    (hc : ∀ j, j < xs.length → cs[j]? = some (.int .u8 (xs.getD j 0))) : F (Kd.int .u8) w1 (fun k => W.heap.size ≤ k) (some ⟨g, 0, none⟩) xs.length xs := by
  intro W' hW'
  have hlt : g < w1.heap.size := by
    rcases Nat.lt_or_ge g w1.heap.size with h | h
    · exact h
    · simp [Array.getElem?_eq_none h] at hg
  have hg' : W'.heap[g]? = some (.cells cs e fr) := (hW' g hW hlt).trans hg
  refine C_of_reads (d := (0 : Int)) (h1 := fun _ => rfl) ⟨rfl, hm, fun _ => ⟨_, rfl, fun j hj => ?_⟩⟩
  have ha : (⟨g, 0, none⟩ : Addr).add j = ⟨g, j, none⟩ := by unfold Addr.add; split <;> simp_all
  rw [ha]
  show W'.cell? ⟨g, j, none⟩ = _
  unfold World.cell?
  simp only [hg']
  exact hc j hj
theorem V_conv {w0 W : World} (base e : Nat) (hgd : o.guard = none) {N : Tmp} (_hd : o.dst = some N) (src dst : TypeId) (x : Operand) (ho : o.op = .convert src dst x) (s : ByteArray) (hx : a.eval x = .string s)
    {u : TypeDesc} (hs : P.underlying src = some u) (hdst : P.underlying dst = some (.slice e)) (he : P.underlying e = some (.int .u8)) (hm : (s.size : Int) ≤ 9223372036854775807) (HB : Below base w0 W) (hbase : base ≤ W.heap.size)
    (h : ∀ v1 w1, V (Kd.int .u8) e w1 base (fun k => W.heap.size ≤ k) v1 (bytesOf s) → Below base w0 w1 → W.grownBy w1 none → (∃ b, v1.ownBlock = some b ∧ W.heap.size ≤ b) → wpList P ops Q rest (a.put o.dst v1) w1) : wpList P ops Q (o :: rest) a W := by
  have hrun : (execOp a.eval o).run P W = .ok (.value (.slice (some ⟨W.heap.size, 0, none⟩) s.size (grownCap W s.size 0 e))) (Lib.bytesWorld W e s) := by
    have hr := Lib.run_convert_string_bytes W src dst e s hs hdst he
    simp [execOp, ho, hx, hr]
  have hlen : (bytesOf s).length = s.size := bytesOf_length s
  refine event_run hgd hrun (h _ _ ⟨_, _, by rw [hlen], by rw [hlen]; exact grownCap_ge W s.size 0 e, ?_⟩ ?_ ?_ ⟨W.heap.size, by simp [Value.ownBlock], Nat.le_refl _⟩)
  · refine F_row (Nat.le_refl _) (Lib.bytesWorld_at_new W e s) (by omega) (fun j hj => ?_)
    rw [hlen] at hj
    have h' : j < s.data.toList.length := by rw [data_length]; exact hj
    simp [Lib.bytesCells, bytesOf, Array.getElem?_append, List.getD_eq_getElem?_getD, hj]
  · exact bytes_below HB hbase e s
  · exact ⟨rfl, rfl, rfl, by rw [Lib.bytesWorld_size]; omega, fun k hk _ => Lib.bytesWorld_at_old W e s k hk⟩
end Kd
end Go.Proofs.YtenlmckahaniiaaW.PrintWords
end
section
namespace Go.Proofs.YtenlmckahaniiaaW.PrintWords
open Go Go.RowKit Go.Proofs.YtenlmckahaniiaaW.PrintLast
def fl (n m : Nat) : Array Bool := ((List.range n).map fun i => m.testBit i).toArray
theorem cl_ {p : Prop} (h : p := by first | rfl | (simp; done) | (simp [y0k]; done) | (simp [*]; done)) : p := h
theorem ar_ {p : Prop} (h : p := by (try simp only [List.map_toArray, List.map_cons, List.map_nil]); first | done | rfl | (simp only [List.length_drop, List.length_take]; rfl)) : p := h
theorem ct_ {p : Prop} (h : p := by first | omega | (rw [← ByteArray.size_append]; first | omega | (rw [← ByteArray.size_append]; first | omega | (rw [← ByteArray.size_append]; first | omega | (rw [← ByteArray.size_append]; first | omega | (rw [← ByteArray.size_append]; first | omega | (rw [← ByteArray.size_append]; omega)))))) | (rw [show (4 : Nat) = (⟨#[79, 66, 74, 49]⟩ : ByteArray).size from rfl]; first | omega | (rw [← ByteArray.size_append]; first | omega | (rw [← ByteArray.size_append]; first | omega | (rw [← ByteArray.size_append]; first | omega | (rw [← ByteArray.size_append]; first | omega | (rw [← ByteArray.size_append]; first | omega | (rw [← ByteArray.size_append]; omega))))))) | (rw [show (4 : Nat) = (⟨#[76, 73, 66, 49]⟩ : ByteArray).size from rfl]; first | omega | (rw [← ByteArray.size_append]; first | omega | (rw [← ByteArray.size_append]; first | omega | (rw [← ByteArray.size_append]; first | omega | (rw [← ByteArray.size_append]; first | omega | (rw [← ByteArray.size_append]; first | omega | (rw [← ByteArray.size_append]; omega)))))))) : p := h
theorem ew_ {p : Prop} (h : p := by first | rfl | (simp [y0g, y0h] <;> rfl) | (simp [*, y0g, y0h] <;> rfl)) : p := h
theorem oa_ {p : Prop} [Decidable p] (h : decide p = true := by first | (with_reducible assumption) | assumption) : p := of_decide_eq_true h
theorem hb_ {p : Prop} (h : p := by repeat (first | (with_reducible first | exact HB.out | apply y00 | apply pw_below_drewN | apply y01 | refine y02 ?_ (Aside0.out (by assumption))) | exact HB.out)) : p := h
theorem bk_ {p q : Prop} (h : q) (g : q → p := by intro h_; (with_reducible repeat (first | refine y09 ?_ _ | refine y08 ?_ | refine y05 ?_ _)); exact h_) : p := g h
theorem rk_ {p q : Prop} (h : q) (g : q → p := by intro h_; (with_reducible repeat (first | apply Kd.R_alloc | apply Kd.R_drewN | apply Kd.R_drew)); exact h_) : p := g h
section
variable {P : Program} {md : Region.Mode} {ops : Array Oper} {Q : Exit → Act → World → Prop} {S : World → Prop} {ds : List Nat} {T : Bool × List (List Nat × List Nat)}
theorem pu_ {fuel : Nat} {l : Array Bool} {a a' : Act} {w : World} {oi : Oper} {v : Value} (i : Nat) (N : Option Tmp) (l' : Array Bool) (hi : ops[i]? = some oi) (hN : oi.dst = N) (HT : Aside0 (rtab md ops = T)) (h : wpAnyLast P md ops Q S ds fuel l' a' w)
    (hc : anyT T l.toList l'.toList i = true := by kernel_rfl) (hQ : ∀ c a w, Q (.panic c) (a.put oi.dst v) w → Q (.panic c) a w := by exact fun _ _ _ h => h)
    (hy : Region.wanted oi (yielded ops a.tmps) = true ∧ ∀ w, (execOp a.eval oi).run P w = .ok (.value v) w := by (refine ⟨by rfl, ?_⟩; intro w'; go_simp; first | with_reducible rfl | (refine (if_neg ?_).trans ?_; exact ct_; with_reducible rfl)))
    (ha : a.put N v = a' := by (simp only [Act.put, List.setIfInBounds_toArray, List.set_cons_zero, List.set_cons_succ, i64_w, i32_w]; rfl)) : wpAnyLast P md ops Q S ds (fuel + 1) l a w :=
  pure_ l' hi hN (any_of HT.out hc) hQ (Or.inl hy) ha h
theorem ta_ {fuel : Nat} {l : Array Bool} {a a' : Act} {w : World} {oi : Oper} {v : Value} {B : List Nat} (i : Nat) (N : Option Tmp) (l' : Array Bool) (hi : ops[i]? = some oi) (hN : oi.dst = N) (HT : Aside0 (rtab md ops = T)) (HW : Aside0 (waitsOk T.2 B = true)) (hS : S w) (h : wpAnyLast P md ops Q S ds fuel l' a' w)
    (hc : takeW T B ds l.toList l'.toList i = true := by kernel_rfl) (hQ : ∀ c a w, Q (.panic c) (a.put oi.dst v) w → Q (.panic c) a w := by exact fun _ _ _ h => h)
    (hy : Region.wanted oi (yielded ops a.tmps) = true ∧ ∀ w, S w → (execOp a.eval oi).run P w = .ok (.value v) w := by (refine ⟨by rfl, ?_⟩; intro w' hS_; (try dsimp only at hS_); (repeat (obtain ⟨s_, hS_⟩ := hS_)); go_simp; with_reducible rfl))
    (ha : a.put N v = a' := by (simp only [Act.put, List.setIfInBounds_toArray, List.set_cons_zero, List.set_cons_succ, i64_w, i32_w]; rfl)) : wpAnyLast P md ops Q S ds (fuel + 1) l a w :=
  take_ l' hi hN (take_ofW HT.out HW.out hc) hQ (Or.inl hy) hS ha h
theorem no_ {fuel : Nat} {l : Array Bool} {a a' : Act} {w : World} {N : Option Tmp} {v : Value} (h : wpAnyLast P md ops Q S ds fuel l a' w)
    (ha : a.put N v = a' := by (simp only [Act.put, List.setIfInBounds_toArray, List.set_cons_zero, List.set_cons_succ, i64_w, i32_w]; rfl)) : wpAnyLast P md ops Q S ds fuel l (a.put N v) w := norm_ ha h
end
end Go.Proofs.YtenlmckahaniiaaW.PrintWords
end
section
namespace Go.Proofs.Ytenlmckahaniiaa.K
open Go.RowKit Go.Proofs.YtenlmckahaniiaaW.PrintWords Go.Proofs.YtenlmckahaniiaaW.PrintLast
def errW : Option Int → Value
  | none => .nilIface
  | some c => .iface 0 (.int .i64 c)
theorem y0g : errW none = .nilIface := rfl
theorem y0h (c : Int) : errW (some c) = .iface 0 (.int .i64 c) := rfl
theorem info5 : (Try.prog.info? 5).map (fun i => (i.zero, i.size, i.bytes)) = some (some (.int .u8 0), 1, 1) := by kernel_rfl
theorem info9 : (Try.prog.info? 9).map (fun i => (i.zero, i.size, i.bytes)) = some (some (.string ⟨#[]⟩), 1, 16) := by kernel_rfl
theorem info43 : (Try.prog.info? 43).map (fun i => (i.zero, i.size, i.bytes)) = some (some (.agg #[(.int .i64 0), (.int .i64 0), (.int .i64 0), (.string ⟨#[]⟩), (.bool false)]), 5, 48) := by kernel_rfl
theorem info62 : (Try.prog.info? 62).map (fun i => (i.zero, i.size, i.bytes)) = some (some (.agg #[(.string ⟨#[]⟩), (.int .i64 0), (.int .i64 0), (.bool false)]), 4, 40) := by kernel_rfl
structure S62 where
  f0 : ByteArray
  f1 : Int
  f2 : Int
  f3 : Bool
def z62 : S62 := ⟨(⟨#[]⟩ : ByteArray), (0 : Int), (0 : Int), false⟩
def k62 : Kd S62 := Kd.iso (Kd.pair Kd.string (Kd.pair (Kd.int .i64) (Kd.pair (Kd.int .i64) Kd.bool))) (fun x : S62 => (x.f0, x.f1, x.f2, x.f3))
theorem k62_open {w : World} {x : S62} {cs : List Value} (h : k62.K w x cs) : cs = [.string x.f0, .int .i64 x.f1, .int .i64 x.f2, .bool x.f3] := by
  obtain ⟨_, _, rfl, rfl, ⟨_, _, rfl, rfl, ⟨_, _, rfl, rfl, rfl⟩⟩⟩ := h
  exact rfl
theorem k62_mkM (w : World) (base : Nat) (ok : Nat → Prop) (x : S62)  : k62.M w base ok x [.string x.f0, .int .i64 x.f1, .int .i64 x.f2, .bool x.f3] := ⟨[.string x.f0], [.int .i64 x.f1, .int .i64 x.f2, .bool x.f3], rfl, rfl, ⟨[.int .i64 x.f1], [.int .i64 x.f2, .bool x.f3], rfl, rfl, ⟨[.int .i64 x.f2], [.bool x.f3], rfl, rfl, rfl⟩⟩⟩
def rd_T62 (xs : List S62) (i : Int) : S62 := xs.getD i.toNat z62
theorem at_T62 {w : World} {A : Option Addr} {n : Nat} {xs : List S62} (h : Kd.C k62 w A n xs) (i : Int) (h0 : 0 ≤ i) (h1 : i < n) : ∃ ad , A = some ad ∧ w.cell? (ad.add (i.toNat * 4)) = some (.string (rd_T62 xs i).f0) ∧ w.cell? ⟨(ad.add (i.toNat * 4)).block, (ad.add (i.toNat * 4)).off + 1, none⟩ = some (.int .i64 (rd_T62 xs i).f1) ∧ w.cell? ⟨(ad.add (i.toNat * 4)).block, (ad.add (i.toNat * 4)).off + 2, none⟩ = some (.int .i64 (rd_T62 xs i).f2) ∧ w.cell? ⟨(ad.add (i.toNat * 4)).block, (ad.add (i.toNat * 4)).off + 3, none⟩ = some (.bool (rd_T62 xs i).f3) := by
  obtain ⟨ad, c, e, _, hK, hc0⟩ := Kd.C_get h z62 i h0 h1
  have hc : ∀ j u, c[j]? = some u → w.cell? (ad.add (i.toNat * 4 + j)) = some u := hc0
  obtain rfl := k62_open hK
  exact ⟨ad, e, hc 0 _ rfl, by rw [← add_field _ _ 1 (by omega)]; exact hc 1 _ rfl, by rw [← add_field _ _ 2 (by omega)]; exact hc 2 _ rfl, by rw [← add_field _ _ 3 (by omega)]; exact hc 3 _ rfl⟩
structure S43 where
  f0 : Int
  f1 : Int
  f2 : Int
  f3 : ByteArray
  f4 : Bool
def z43 : S43 := ⟨(0 : Int), (0 : Int), (0 : Int), (⟨#[]⟩ : ByteArray), false⟩
def k43 : Kd S43 := Kd.iso (Kd.pair (Kd.int .i64) (Kd.pair (Kd.int .i64) (Kd.pair (Kd.int .i64) (Kd.pair Kd.string Kd.bool)))) (fun x : S43 => (x.f0, x.f1, x.f2, x.f3, x.f4))
theorem k43_open {w : World} {x : S43} {cs : List Value} (h : k43.K w x cs) : cs = [.int .i64 x.f0, .int .i64 x.f1, .int .i64 x.f2, .string x.f3, .bool x.f4] := by
  obtain ⟨_, _, rfl, rfl, ⟨_, _, rfl, rfl, ⟨_, _, rfl, rfl, ⟨_, _, rfl, rfl, rfl⟩⟩⟩⟩ := h
  exact rfl
theorem k43_mkM (w : World) (base : Nat) (ok : Nat → Prop) (x : S43)  : k43.M w base ok x [.int .i64 x.f0, .int .i64 x.f1, .int .i64 x.f2, .string x.f3, .bool x.f4] := ⟨[.int .i64 x.f0], [.int .i64 x.f1, .int .i64 x.f2, .string x.f3, .bool x.f4], rfl, rfl, ⟨[.int .i64 x.f1], [.int .i64 x.f2, .string x.f3, .bool x.f4], rfl, rfl, ⟨[.int .i64 x.f2], [.string x.f3, .bool x.f4], rfl, rfl, ⟨[.string x.f3], [.bool x.f4], rfl, rfl, rfl⟩⟩⟩⟩
def y0l (xs : List S43) (i : Int) : S43 := xs.getD i.toNat z43
theorem at_T43 {w : World} {A : Option Addr} {n : Nat} {xs : List S43} (h : Kd.C k43 w A n xs) (i : Int) (h0 : 0 ≤ i) (h1 : i < n) : ∃ ad , A = some ad ∧ w.cell? (ad.add (i.toNat * 5)) = some (.int .i64 (y0l xs i).f0) ∧ w.cell? ⟨(ad.add (i.toNat * 5)).block, (ad.add (i.toNat * 5)).off + 1, none⟩ = some (.int .i64 (y0l xs i).f1) ∧ w.cell? ⟨(ad.add (i.toNat * 5)).block, (ad.add (i.toNat * 5)).off + 2, none⟩ = some (.int .i64 (y0l xs i).f2) ∧ w.cell? ⟨(ad.add (i.toNat * 5)).block, (ad.add (i.toNat * 5)).off + 3, none⟩ = some (.string (y0l xs i).f3) ∧ w.cell? ⟨(ad.add (i.toNat * 5)).block, (ad.add (i.toNat * 5)).off + 4, none⟩ = some (.bool (y0l xs i).f4) := by
  obtain ⟨ad, c, e, _, hK, hc0⟩ := Kd.C_get h z43 i h0 h1
  have hc : ∀ j u, c[j]? = some u → w.cell? (ad.add (i.toNat * 5 + j)) = some u := hc0
  obtain rfl := k43_open hK
  exact ⟨ad, e, hc 0 _ rfl, by rw [← add_field _ _ 1 (by omega)]; exact hc 1 _ rfl, by rw [← add_field _ _ 2 (by omega)]; exact hc 2 _ rfl, by rw [← add_field _ _ 3 (by omega)]; exact hc 3 _ rfl, by rw [← add_field _ _ 4 (by omega)]; exact hc 4 _ rfl⟩
end Go.Proofs.Ytenlmckahaniiaa.K
end
section
namespace Go.Proofs.YtenlmckahaniiaaW.PrintWords
open Go Go.RowKit Go.ChangeShapes Go.WideShapes Go.Deep
def WfI (k : IntKind) (n : Int) : Prop := (Lit.int k n).wf = true
def WfB (_ : Bool) : Prop := True
def WfS (s : ByteArray) : Prop := s.size ≤ 9223372036854775807
def WfL {α : Type} (p : α → Prop) (l : List α) : Prop := l.length ≤ 9223372036854775807 ∧ ∀ x ∈ l, p x
def WfP {α β : Type} (p : α → Prop) (q : β → Prop) (x : α × β) : Prop := p x.1 ∧ q x.2
structure Opens {α : Type} (P : Program) (t : TypeId) (d : Kd α) (wf : α → Prop) : Prop where
  sz : d.sz = P.cellsOf t
  op : ∀ {H : Type} {enc : TypeId × Value → H} {w : World} {base : Nat} {spare : Nat → Bool} {held : Bool} {fuel : Nat} {cs : List Value} {x : DataW H × List MemPlace}, DataW.trod enc P w base spare held fuel t cs = some x → ∃ y, d.K w y cs ∧ wf y
structure OpensF {α : Type} (P : Program) (fs : List Field) (off : Nat) (d : Kd α) (wf : α → Prop) : Prop where
  op : ∀ {H : Type} {enc : TypeId × Value → H} {w : World} {base : Nat} {spare : Nat → Bool} {held : Bool} {cs : List Value}, cs.length = off + d.sz →
    (∀ f ∈ fs, ∃ n x, DataW.trod enc P w base spare held n f.type ((cs.drop f.offset).take (P.cellsOf f.type)) = some x) → ∃ y, d.K w y (cs.drop off) ∧ wf y
section
variable {P : Program} {t e : TypeId}
theorem Opens.int {k : IntKind} (ht : P.underlying t = some (.int k)) (hc : P.cellsOf t = 1) : Opens P t (Kd.int k) (WfI k) :=
  ⟨hc.symm, fun h => by obtain ⟨n, rfl, _, hw⟩ := DataW.trod_int ht h; exact ⟨n, rfl, hw⟩⟩
theorem Opens.bool (ht : P.underlying t = some .bool) (hc : P.cellsOf t = 1) : Opens P t Kd.bool WfB :=
  ⟨hc.symm, fun h => by obtain ⟨n, rfl, _⟩ := DataW.trod_bool ht h; exact ⟨n, rfl, trivial⟩⟩
theorem Opens.string (ht : P.underlying t = some .string) (hc : P.cellsOf t = 1) : Opens P t Kd.string WfS :=
  ⟨hc.symm, fun h => by obtain ⟨n, rfl, _, hw⟩ := DataW.trod_string ht h; exact ⟨n, rfl, hw⟩⟩
theorem Opens.slice {α : Type} {d : Kd α} {wf : α → Prop} (ht : P.underlying t = some (.slice e)) (hc : P.cellsOf t = 1) (he : Opens P e d wf) : Opens P t (Kd.slice e d) (WfL wf) :=
  ⟨hc.symm, fun {H enc w base spare held fuel cs x} h => by
    rcases open_slice ht h with ⟨rfl, _⟩ | ⟨a, len, cap, m, n, D, Pl, rfl, _, hl, hm, hmm, _, hi⟩
    · exact ⟨[], ⟨none, 0, rfl, Nat.le_refl _, rfl, by simp, fun h0 => absurd h0 (by simp)⟩, by simp, fun x hx => by simp at hx⟩
    · have hle : len ≤ m := by rw [hmm]; split <;> omega
      have hel : ∀ i, i < len → ∃ y, (∃ c, c.length = d.sz ∧ d.K w y c ∧ ∀ j u, c[j]? = some u → w.cell? (a.add (i * d.sz + j)) = some u) ∧ wf y := by
        intro i hil
        obtain ⟨cs', hcs, htr⟩ := hi i (by omega)
        obtain ⟨y, hk, hw⟩ := he.op htr
        obtain ⟨_, hlen, hat⟩ := World.cells?_some hcs
        refine ⟨y, ⟨cs', hlen.trans he.sz.symm, hk, fun j u hu => ?_⟩, hw⟩
        have hj : j < cs'.length := (List.getElem?_eq_some_iff.1 hu).1
        have := hat j (by omega)
        rw [he.sz, ← add_add, this, hu]
      have key : ∀ m, m ≤ len → ∃ ys : List α, ys.length = m ∧ (∀ j p, ys[j]? = some p → ∃ c, c.length = d.sz ∧ d.K w p c ∧ ∀ i u, c[i]? = some u → w.cell? (a.add (j * d.sz + i)) = some u) ∧ ∀ y ∈ ys, wf y := by
        intro m
        induction m with
        | zero => exact fun _ => ⟨[], rfl, fun j p hj => by simp at hj, fun y hy => by simp at hy⟩
        | succ m ih =>
          intro hm'
          obtain ⟨ys, h1, h2, h3⟩ := ih (by omega)
          obtain ⟨y, hy, hw⟩ := hel m (by omega)
          refine ⟨ys ++ [y], by simp [h1], fun j p hj => ?_, fun z hz => ?_⟩
          · by_cases hjm : j < m
            · rw [List.getElem?_append_left (by omega)] at hj; exact h2 j p hj
            · have hjl : j < (ys ++ [y]).length := (List.getElem?_eq_some_iff.1 hj).1
              have : j = m := by simp [h1] at hjl; omega
              subst this
              rw [List.getElem?_append_right (by omega)] at hj
              simp [h1] at hj
              subst hj; exact hy
          · rcases List.mem_append.1 hz with hz | hz
            · exact h3 z hz
            · rw [List.mem_singleton.1 hz]; exact hw
      obtain ⟨ys, h1, h2, h3⟩ := key len (Nat.le_refl _)
      have hmx : len ≤ 9223372036854775807 := by unfold maxLen at hm; omega
      subst h1
      exact ⟨ys, ⟨some a, cap, rfl, hl, rfl, hmx, fun _ => ⟨a, rfl, h2⟩⟩, hmx, h3⟩⟩
theorem OpensF.last {α : Type} {d : Kd α} {wf : α → Prop} {f : Field} {off : Nat} (h : Opens P f.type d wf) (ho : f.offset = off) : OpensF P [f] off d wf :=
  ⟨fun {H enc w base spare held cs} hl hf => by
    obtain ⟨n, x, hx⟩ := hf f (by simp)
    obtain ⟨y, hk, hw⟩ := h.op hx
    have hc : (cs.drop f.offset).take (P.cellsOf f.type) = cs.drop off := by
      rw [ho, ← h.sz]
      exact List.take_of_length_le (by rw [List.length_drop]; omega)
    rw [hc] at hk
    exact ⟨y, hk, hw⟩⟩
theorem OpensF.cons {α β : Type} {d : Kd α} {wf : α → Prop} {b : Kd β} {wb : β → Prop} {f : Field} {fs : List Field} {off off' : Nat} (h : Opens P f.type d wf) (ho : f.offset = off) (ho' : off + P.cellsOf f.type = off') (hs : OpensF P fs off' b wb) :
    OpensF P (f :: fs) off (Kd.pair d b) (WfP wf wb) :=
  ⟨fun {H enc w base spare held cs} hl hf => by
    obtain ⟨n, x, hx⟩ := hf f (by simp)
    obtain ⟨y, hk, hw⟩ := h.op hx
    have hl' : cs.length = off + (d.sz + b.sz) := hl
    obtain ⟨z, hz, hwz⟩ := hs.op (enc := enc) (w := w) (base := base) (spare := spare) (held := held) (cs := cs) (by rw [← ho', ← h.sz]; omega) (fun g hg => hf g (by simp [hg]))
    rw [ho] at hk
    refine ⟨(y, z), ⟨_, _, ?_, hk, hz⟩, hw, hwz⟩
    rw [← ho', ← List.drop_drop, List.take_append_drop]⟩
theorem Opens.struct {α : Type} {d : Kd α} {wf : α → Prop} {fs : Array Field} (ht : P.underlying t = some (.struct fs)) (hc : P.cellsOf t = d.sz) (h : OpensF P fs.toList 0 d wf) : Opens P t d wf :=
  ⟨hc.symm, fun {H enc w base spare held fuel cs x} hx => by
    obtain ⟨xs, n, _, _, hl, hlen, hg⟩ := DataW.trod_struct ht hx
    obtain ⟨y, hk, hw⟩ := h.op (enc := enc) (w := w) (base := base) (spare := spare) (held := held) (cs := cs) (by rw [hl, hc]; omega) (fun f hf => by
      obtain ⟨i, hi, rfl⟩ := List.getElem_of_mem hf
      have h1 := hg i (fs.toList[i]) (by simp at hi; simp [hi])
      rw [List.getElem?_eq_getElem (by rw [hlen]; simpa using hi)] at h1
      exact ⟨_, _, h1⟩)
    rw [List.drop_zero] at hk
    exact ⟨y, hk, hw⟩⟩
theorem Opens.iso {α β : Type} {d : Kd α} {wf : α → Prop} (f : β → α) (g : α → β) (hfg : ∀ y, f (g y) = y) (h : Opens P t d wf) : Opens P t (Kd.iso d f) (fun x => wf (f x)) :=
  ⟨h.sz, fun hx => by
    obtain ⟨y, hk, hw⟩ := h.op hx
    refine ⟨g y, ?_, ?_⟩
    · show d.K _ (f (g y)) _
      rw [hfg]; exact hk
    · show wf (f (g y))
      rw [hfg]; exact hw⟩
end
end Go.Proofs.YtenlmckahaniiaaW.PrintWords
end
section
namespace Go.Proofs.Ytenlmckahaniiaa.K
open Go.RowKit Go.Proofs.YtenlmckahaniiaaW.PrintWords Go.Proofs.YtenlmckahaniiaaW.PrintLast
def wf62 : S62 → Prop := fun x => (WfP WfS (WfP (WfI .i64) (WfP (WfI .i64) WfB))) (x.f0, x.f1, x.f2, x.f3)
theorem opens62 : Opens Try.prog 62 k62 wf62 := Opens.iso (fun x : S62 => (x.f0, x.f1, x.f2, x.f3)) (fun y => ⟨y.1, y.2.1, y.2.2.1, y.2.2.2⟩) (fun _ => rfl) (Opens.struct (d := (Kd.pair Kd.string (Kd.pair (Kd.int .i64) (Kd.pair (Kd.int .i64) Kd.bool)))) (wf := (WfP WfS (WfP (WfI .i64) (WfP (WfI .i64) WfB)))) Try.underlying62 (by kernel_rfl) (OpensF.cons (off := 0) (off' := 1) (Opens.string Try.underlying9 (by kernel_rfl)) rfl (by kernel_rfl) (OpensF.cons (off := 1) (off' := 2) (Opens.int Try.underlying3 (by kernel_rfl)) rfl (by kernel_rfl) (OpensF.cons (off := 2) (off' := 3) (Opens.int Try.underlying3 (by kernel_rfl)) rfl (by kernel_rfl) (OpensF.last (off := 3) (Opens.bool Try.underlying4 (by kernel_rfl)) rfl)))))
def wf43 : S43 → Prop := fun x => (WfP (WfI .i64) (WfP (WfI .i64) (WfP (WfI .i64) (WfP WfS WfB)))) (x.f0, x.f1, x.f2, x.f3, x.f4)
theorem opens43 : Opens Try.prog 43 k43 wf43 := Opens.iso (fun x : S43 => (x.f0, x.f1, x.f2, x.f3, x.f4)) (fun y => ⟨y.1, y.2.1, y.2.2.1, y.2.2.2.1, y.2.2.2.2⟩) (fun _ => rfl) (Opens.struct (d := (Kd.pair (Kd.int .i64) (Kd.pair (Kd.int .i64) (Kd.pair (Kd.int .i64) (Kd.pair Kd.string Kd.bool))))) (wf := (WfP (WfI .i64) (WfP (WfI .i64) (WfP (WfI .i64) (WfP WfS WfB))))) Try.underlying43 (by kernel_rfl) (OpensF.cons (off := 0) (off' := 1) (Opens.int Try.underlying3 (by kernel_rfl)) rfl (by kernel_rfl) (OpensF.cons (off := 1) (off' := 2) (Opens.int Try.underlying3 (by kernel_rfl)) rfl (by kernel_rfl) (OpensF.cons (off := 2) (off' := 3) (Opens.int Try.underlying3 (by kernel_rfl)) rfl (by kernel_rfl) (OpensF.cons (off := 3) (off' := 4) (Opens.string Try.underlying9 (by kernel_rfl)) rfl (by kernel_rfl) (OpensF.last (off := 4) (Opens.bool Try.underlying4 (by kernel_rfl)) rfl))))))
end Go.Proofs.Ytenlmckahaniiaa.K
end
section
namespace Go.Proofs.Ytenlmckahaniiaa.K
open Go.RowKit Go.Proofs.YtenlmckahaniiaaW.PrintWords Go.Proofs.YtenlmckahaniiaaW.PrintLast
mutual
def zq7.j0 : Nat → Bool → ByteArray → ByteArray → ByteArray → Int → List (S62) → List (S43) → Option (Bool)
  | 0, _, _, _, _, _, _, _ => none
  | k + 1, x34, x102000, x102001, x102002, x102003, x102004, x102005 => if x34 = true then (some false) else (zq7.l0 k x102004 (x102004.length : Int) 0 x102000 x102001 x102002 x102003 x102004 x102005)
def zq7.l0 : Nat → List (S62) → Int → Int → ByteArray → ByteArray → ByteArray → Int → List (S62) → List (S43) → Option (Bool)
  | 0, _, _, _, _, _, _, _, _, _ => none
  | k + 1, x36, x37, x38, x102000, x102001, x102002, x102003, x102004, x102005 => if x38 < x37 then (if 0 ≤ x38 then (if x38 < (x36.length : Int) then (if (((rd_T62 x36 x38).f0).size : Int) > 100 then (some false) else (zq7.l0 k x36 x37 (wrap64 (x38 + 1)) x102000 x102001 x102002 x102003 x102004 x102005)) else (none)) else (none)) else (zq7.l1 k x102005 (x102005.length : Int) 0)
def zq7.l1 : Nat → List (S43) → Int → Int → Option (Bool)
  | 0, _, _, _ => none
  | k + 1, x48, x49, x50 => if x50 < x49 then (if 0 ≤ x50 then (if x50 < (x48.length : Int) then (if (((y0l x48 x50).f3).size : Int) > 100 then (some false) else (zq7.l1 k x48 x49 (wrap64 (x50 + 1)))) else (none)) else (none)) else (some true)
end
def zq7.f (k : Nat) (a0_0 : ByteArray) (a0_1 : ByteArray) (a0_2 : ByteArray) (a0_3 : Int) (l0_4 : List (S62)) (l0_5 : List (S43)) : Option (Bool) := if (a0_0.size : Int) > 100 then (zq7.j0 k true a0_0 a0_1 a0_2 a0_3 l0_4 l0_5) else (if (a0_1.size : Int) > 17000 then (zq7.j0 k true a0_0 a0_1 a0_2 a0_3 l0_4 l0_5) else (if (a0_2.size : Int) > 17000 then (zq7.j0 k true a0_0 a0_1 a0_2 a0_3 l0_4 l0_5) else (if (l0_4.length : Int) > 300 then (zq7.j0 k true a0_0 a0_1 a0_2 a0_3 l0_4 l0_5) else (zq7.j0 k (decide ((l0_5.length : Int) > 2100)) a0_0 a0_1 a0_2 a0_3 l0_4 l0_5))))
theorem zq7.calls (k : Nat) (a0_0 : ByteArray) (a0_1 : ByteArray) (a0_2 : ByteArray) (a0_3 : Int) (A0_4 : Option Addr) (c0_4 : Nat) (l0_4 : List (S62)) (A0_5 : Option Addr) (c0_5 : Nat) (l0_5 : List (S43)) (r : Bool) (w : World) (hr0_4 : Kd.C k62 w A0_4 l0_4.length l0_4) (hc0_4 : l0_4.length ≤ c0_4) (hr0_5 : Kd.C k43 w A0_5 l0_5.length l0_5) (hc0_5 : l0_5.length ≤ c0_5) (h : zq7.f k a0_0 a0_1 a0_2 a0_3 l0_4 l0_5 = some r) :
  Calls Try.prog 17 #[.agg #[.string a0_0, .string a0_1, .string a0_2, .int .i64 a0_3, .slice A0_4 l0_4.length c0_4, .slice A0_5 l0_5.length c0_5]] w fun e w' => e = .returned (.bool r) ∧ Below w.heap.size w w' := by
 have hu25 := Try.underlying25
 have hu62 := Try.underlying62
 have hu43 := Try.underlying43
 have HR0_4 := Aside0.mk hr0_4
 have HC0_4 := Aside0.mk hc0_4
 clear hr0_4 hc0_4
 have HR0_5 := Aside0.mk hr0_5
 have HC0_5 := Aside0.mk hc0_5
 clear hr0_5 hc0_5
 have HB := Aside0.mk (Below.refl w.heap.size w)
 have H : (if (a0_0.size : Int) > 100 then (zq7.j0 k true a0_0 a0_1 a0_2 a0_3 l0_4 l0_5) else (if (a0_1.size : Int) > 17000 then (zq7.j0 k true a0_0 a0_1 a0_2 a0_3 l0_4 l0_5) else (if (a0_2.size : Int) > 17000 then (zq7.j0 k true a0_0 a0_1 a0_2 a0_3 l0_4 l0_5) else (if (l0_4.length : Int) > 300 then (zq7.j0 k true a0_0 a0_1 a0_2 a0_3 l0_4 l0_5) else (zq7.j0 k (decide ((l0_5.length : Int) > 2100)) a0_0 a0_1 a0_2 a0_3 l0_4 l0_5))))) = some r := h
 clear h
 have HC2 := Aside0.mk H
 clear H
 go_enter Try.func17, Try.ntmps17
 go_upto_region 1 with (first | ((with_reducible refine y0j (N := 1) rfl ?_); (try (refine gate_guard (by rfl) ?_; dsimp only)); refine y0e ?hg (N := 1) ?hd (cs := #[.string a0_0, .string a0_1, .string a0_2, .int .i64 a0_3, .slice A0_4 l0_4.length c0_4, .slice A0_5 l0_5.length c0_5]) (t := 25) ?hr ?_; (case hd => rfl); (case hg => rfl); (case hr => first | (go_simp; done) | (go_simp; rfl)); intro gb101 hg w3 hbox hb; have n0_ := Aside0.mk (y04 hb_ hb); have n1_ := Aside0.mk (hbox); have n2_ := Aside0.mk ((by rw [hg]; exact (y03 hb_) : w.heap.size ≤ gb101)); have n3_ := Aside0.mk ((by rw [hg]; exact (y03 hb_) : w.heap.size ≤ gb101)); clear HB; have HB := n0_; have BK101 := n1_; have GW101 := n2_; have GE101 := n3_; clear n0_ n1_ n2_ n3_; clear hb hbox hg))
 (try simp only [Act.put, List.setIfInBounds_toArray, List.set_cons_zero, List.set_cons_succ])
 go_cut [34] (fun v34 wc => ∃ (kq : Nat) (x34_1 : Bool), v34 = .bool x34_1 ∧ Aside0 (zq7.j0 kq x34_1 a0_0 a0_1 a0_2 a0_3 l0_4 l0_5 = some r) ∧ Aside0 (kq ≤ k) ∧ Aside0 (wc.heap[gb101]? = some (.cells #[.string a0_0, .string a0_1, .string a0_2, .int .i64 a0_3, (.slice A0_4 l0_4.length c0_4), (.slice A0_5 l0_5.length c0_5)] 25 (0, 0))) ∧ Aside0 (Below w.heap.size w wc))
 case first =>
  have H := HC2.out
  clear HC2
  by_cases c4 : (a0_0.size : Int) > 100
  ·rw [if_pos c4] at H
   have c4b0 : decide (100 < (a0_0.size : Int)) = true := decide_eq_true c4
   have c4b1 : decide (100 < a0_0.size) = true := decide_eq_true (by omega)
   clear c4
   (first | rw [c4b0] | (simp only [i64_w, i32_w]; rw [c4b0]) | skip)
   have H' := Aside0.mk H
   clear H
   obtain ⟨hcz5_0, hfz5_0⟩ := bc_ BK101.out 0 rfl
   obtain ⟨hcz5_1, hfz5_1⟩ := bc_ BK101.out 1 rfl
   obtain ⟨hcz5_2, hfz5_2⟩ := bc_ BK101.out 2 rfl
   obtain ⟨hcz5_3, hfz5_3⟩ := bc_ BK101.out 3 rfl
   obtain ⟨hcz5_4, hfz5_4⟩ := bc_ BK101.out 4 rfl
   obtain ⟨hcz5_5, hfz5_5⟩ := bc_ BK101.out 5 rfl
   go_wp2
   go_meet
   case rel => exact ⟨_, (true), cl_, H', ⟨by first | omega | exact Nat.le_refl _⟩, ⟨bk_ BK101.out⟩, ⟨hb_⟩⟩
  ·rw [if_neg c4] at H
   have c4b0 : decide (100 < (a0_0.size : Int)) = false := decide_eq_false c4
   have c4b1 : decide (100 < a0_0.size) = false := decide_eq_false (by omega)
   clear c4
   (first | rw [c4b0] | (simp only [i64_w, i32_w]; rw [c4b0]) | skip)
   by_cases c6 : (a0_1.size : Int) > 17000
   ·rw [if_pos c6] at H
    have c6b0 : decide (17000 < (a0_1.size : Int)) = true := decide_eq_true c6
    have c6b1 : decide (17000 < a0_1.size) = true := decide_eq_true (by omega)
    clear c6
    have H' := Aside0.mk H
    clear H
    obtain ⟨hcz7_0, hfz7_0⟩ := bc_ BK101.out 0 rfl
    obtain ⟨hcz7_1, hfz7_1⟩ := bc_ BK101.out 1 rfl
    obtain ⟨hcz7_2, hfz7_2⟩ := bc_ BK101.out 2 rfl
    obtain ⟨hcz7_3, hfz7_3⟩ := bc_ BK101.out 3 rfl
    obtain ⟨hcz7_4, hfz7_4⟩ := bc_ BK101.out 4 rfl
    obtain ⟨hcz7_5, hfz7_5⟩ := bc_ BK101.out 5 rfl
    go_wp2
    go_meet
    case rel => exact ⟨_, (true), cl_, H', ⟨by first | omega | exact Nat.le_refl _⟩, ⟨bk_ BK101.out⟩, ⟨hb_⟩⟩
   ·rw [if_neg c6] at H
    have c6b0 : decide (17000 < (a0_1.size : Int)) = false := decide_eq_false c6
    have c6b1 : decide (17000 < a0_1.size) = false := decide_eq_false (by omega)
    clear c6
    by_cases c8 : (a0_2.size : Int) > 17000
    ·rw [if_pos c8] at H
     have c8b0 : decide (17000 < (a0_2.size : Int)) = true := decide_eq_true c8
     have c8b1 : decide (17000 < a0_2.size) = true := decide_eq_true (by omega)
     clear c8
     have H' := Aside0.mk H
     clear H
     obtain ⟨hcz9_0, hfz9_0⟩ := bc_ BK101.out 0 rfl
     obtain ⟨hcz9_1, hfz9_1⟩ := bc_ BK101.out 1 rfl
     obtain ⟨hcz9_2, hfz9_2⟩ := bc_ BK101.out 2 rfl
     obtain ⟨hcz9_3, hfz9_3⟩ := bc_ BK101.out 3 rfl
     obtain ⟨hcz9_4, hfz9_4⟩ := bc_ BK101.out 4 rfl
     obtain ⟨hcz9_5, hfz9_5⟩ := bc_ BK101.out 5 rfl
     go_wp2
     go_meet
     case rel => exact ⟨_, (true), cl_, H', ⟨by first | omega | exact Nat.le_refl _⟩, ⟨bk_ BK101.out⟩, ⟨hb_⟩⟩
    ·rw [if_neg c8] at H
     have c8b0 : decide (17000 < (a0_2.size : Int)) = false := decide_eq_false c8
     have c8b1 : decide (17000 < a0_2.size) = false := decide_eq_false (by omega)
     clear c8
     by_cases c10 : (l0_4.length : Int) > 300
     ·rw [if_pos c10] at H
      have c10b0 : decide (300 < (l0_4.length : Int)) = true := decide_eq_true c10
      have c10b1 : decide (300 < l0_4.length) = true := decide_eq_true (by omega)
      clear c10
      have H' := Aside0.mk H
      clear H
      obtain ⟨hcz11_0, hfz11_0⟩ := bc_ BK101.out 0 rfl
      obtain ⟨hcz11_1, hfz11_1⟩ := bc_ BK101.out 1 rfl
      obtain ⟨hcz11_2, hfz11_2⟩ := bc_ BK101.out 2 rfl
      obtain ⟨hcz11_3, hfz11_3⟩ := bc_ BK101.out 3 rfl
      obtain ⟨hcz11_4, hfz11_4⟩ := bc_ BK101.out 4 rfl
      obtain ⟨hcz11_5, hfz11_5⟩ := bc_ BK101.out 5 rfl
      go_wp2
      go_meet
      case rel => exact ⟨_, (true), cl_, H', ⟨by first | omega | exact Nat.le_refl _⟩, ⟨bk_ BK101.out⟩, ⟨hb_⟩⟩
     ·rw [if_neg c10] at H
      have c10b0 : decide (300 < (l0_4.length : Int)) = false := decide_eq_false c10
      have c10b1 : decide (300 < l0_4.length) = false := decide_eq_false (by omega)
      clear c10
      have H' := Aside0.mk H
      clear H
      obtain ⟨hcz12_0, hfz12_0⟩ := bc_ BK101.out 0 rfl
      obtain ⟨hcz12_1, hfz12_1⟩ := bc_ BK101.out 1 rfl
      obtain ⟨hcz12_2, hfz12_2⟩ := bc_ BK101.out 2 rfl
      obtain ⟨hcz12_3, hfz12_3⟩ := bc_ BK101.out 3 rfl
      obtain ⟨hcz12_4, hfz12_4⟩ := bc_ BK101.out 4 rfl
      obtain ⟨hcz12_5, hfz12_5⟩ := bc_ BK101.out 5 rfl
      go_wp2
      go_meet
      case rel => exact ⟨_, (decide ((l0_5.length : Int) > 2100)), cl_, H', ⟨by first | omega | exact Nat.le_refl _⟩, ⟨bk_ BK101.out⟩, ⟨hb_⟩⟩
 case rest =>
  clear HC2
  obtain ⟨kq, x34_1, rfl, HA, HJ1, BK101, HB⟩ := hcut
  cases kq with
  | zero => exact absurd HA.out (by simp [zq7.j0])
  | succ kj1 =>
   have H := HA.out
   clear HA
   simp only [zq7.j0] at H
   by_cases c13 : x34_1 = true
   ·subst c13
    have H1 : (some false) = some r := by rw [if_pos rfl] at H; exact H
    clear H
    have H := H1
    clear H1
    obtain rfl := Option.some.inj H
    go_wp2
    go_ret
    exact ⟨ew_, hb_⟩
   ·replace c13 := Bool.eq_false_iff.mpr c13
    subst c13
    have H1 : (zq7.l0 kj1 l0_4 (l0_4.length : Int) 0 a0_0 a0_1 a0_2 a0_3 l0_4 l0_5) = some r := by rw [if_neg (show ¬ (false = true) by decide)] at H; exact H
    clear H
    have H := H1
    clear H1
    have H' := Aside0.mk H
    clear H
    obtain ⟨hcz14_0, hfz14_0⟩ := bc_ BK101.out 0 rfl
    obtain ⟨hcz14_1, hfz14_1⟩ := bc_ BK101.out 1 rfl
    obtain ⟨hcz14_2, hfz14_2⟩ := bc_ BK101.out 2 rfl
    obtain ⟨hcz14_3, hfz14_3⟩ := bc_ BK101.out 3 rfl
    obtain ⟨hcz14_4, hfz14_4⟩ := bc_ BK101.out 4 rfl
    obtain ⟨hcz14_5, hfz14_5⟩ := bc_ BK101.out 5 rfl
    go_wp2
    go_loopg [38] kj1 (fun kq v38 w' => ∃ (x38_2 : Int), v38 = .int .i64 x38_2 ∧ Aside0 (zq7.l0 kq l0_4 (l0_4.length : Int) x38_2 a0_0 a0_1 a0_2 a0_3 l0_4 l0_5 = some r) ∧ Aside0 (kq ≤ kj1) ∧ Aside0 (w'.heap[gb101]? = some (.cells #[.string a0_0, .string a0_1, .string a0_2, .int .i64 a0_3, (.slice A0_4 l0_4.length c0_4), (.slice A0_5 l0_5.length c0_5)] 25 (0, 0))) ∧ Aside0 (Below w.heap.size w w'))
    case atStart => exact ⟨(0), cl_, H', ⟨Nat.le_refl _⟩, ⟨bk_ BK101.out⟩, ⟨hb_⟩⟩
    case round =>
     clear H'
     clear hcz14_0; clear hcz14_1; clear hcz14_2; clear hcz14_3; clear hcz14_4; clear hcz14_5; clear hfz14_0; clear hfz14_1; clear hfz14_2; clear hfz14_3; clear hfz14_4; clear hfz14_5
     obtain ⟨x38_2, rfl, HA, HK2, BK101, HB⟩ := hrel
     cases gk with
     | zero => exact absurd HA.out (by simp [zq7.l0])
     | succ k2 =>
      have H := HA.out
      clear HA
      simp only [zq7.l0] at H
      by_cases c15 : x38_2 < (l0_4.length : Int)
      ·rw [if_pos c15] at H
       have c15b0 : decide (x38_2 < (l0_4.length : Int)) = true := decide_eq_true c15
       clear c15
       by_cases c16 : 0 ≤ x38_2
       ·rw [if_pos c16] at H
        have c16b0 : decide (0 ≤ x38_2) = true := decide_eq_true c16
        clear c16
        by_cases c17 : x38_2 < (l0_4.length : Int)
        ·rw [if_pos c17] at H
         have c17b0 : decide (x38_2 < (l0_4.length : Int)) = true := decide_eq_true c17
         clear c17
         by_cases c18 : (((rd_T62 l0_4 x38_2).f0).size : Int) > 100
         ·rw [if_pos c18] at H
          have c18b0 : decide (100 < (((rd_T62 l0_4 x38_2).f0).size : Int)) = true := decide_eq_true c18
          have c18b1 : decide (100 < ((rd_T62 l0_4 x38_2).f0).size) = true := decide_eq_true (by omega)
          clear c18
          obtain rfl := Option.some.inj H
          have p102 : 0 ≤ (x38_2 : Int) := oa_
          have q102 : x38_2 < (l0_4.length : Int) := oa_
          obtain ⟨ad102, e102, hx102_0, hx102_1, hx102_2, hx102_3⟩ := at_T62 HR0_4.out x38_2 p102 q102
          cases e102
          replace hx102_0 := (HB.out.cell (World.block_lt_of_cell? w _ hx102_0)).trans hx102_0
          replace hx102_1 := (HB.out.cell (World.block_lt_of_cell? w _ hx102_1)).trans hx102_1
          replace hx102_2 := (HB.out.cell (World.block_lt_of_cell? w _ hx102_2)).trans hx102_2
          replace hx102_3 := (HB.out.cell (World.block_lt_of_cell? w _ hx102_3)).trans hx102_3
          replace p102 := eq_true p102
          replace q102 := eq_true q102
          go_wp2_with (first | ((with_reducible refine y0j (N := 4) rfl ?_); (try (refine gate_guard (by rfl) ?_; dsimp only)); refine y0e ?hg (N := 4) ?hd (cs := #[.string (⟨#[]⟩ : ByteArray), .int .i64 0, .int .i64 0, .bool false]) (t := 62) ?hr ?_; (case hd => rfl); (case hg => rfl); (case hr => first | (go_simp; done) | (go_simp; rfl)); intro gb103 hg w19 hbox hb; have n0_ := Aside0.mk (y06 (bk_ BK101.out) hb); have n1_ := Aside0.mk (y04 hb_ hb); have n2_ := Aside0.mk (hbox); have n3_ := Aside0.mk ((by rw [hg]; exact (y03 hb_) : w.heap.size ≤ gb103)); have n4_ := Aside0.mk ((by rw [hg]; exact (y03 hb_) : w.heap.size ≤ gb103)); have n5_ := Aside0.mk ((by rw [hg]; exact Nat.ne_of_lt (y0c (bk_ BK101.out)) : gb101 ≠ gb103)); have n6_ := Aside0.mk ((by rw [hg]; exact Nat.ne_of_gt (y0c (bk_ BK101.out)) : gb103 ≠ gb101)); clear BK101 HB; have BK101 := n0_; have HB := n1_; have BK103 := n2_; have GW103 := n3_; have GE103 := n4_; have NB101_103 := n5_; have NB103_101 := n6_; clear n0_ n1_ n2_ n3_ n4_ n5_ n6_; clear hb hbox hg; have hnb20 := NB103_101.out; have hnc20 := NB101_103.out; obtain ⟨hcz21_0, hfz21_0⟩ := bc_ BK103.out 0 rfl; obtain ⟨hcz21_1, hfz21_1⟩ := bc_ BK103.out 1 rfl; obtain ⟨hcz21_2, hfz21_2⟩ := bc_ BK103.out 2 rfl; obtain ⟨hcz21_3, hfz21_3⟩ := bc_ BK103.out 3 rfl))
          go_ret
          exact ⟨ew_, hb_⟩
         ·rw [if_neg c18] at H
          have c18b0 : decide (100 < (((rd_T62 l0_4 x38_2).f0).size : Int)) = false := decide_eq_false c18
          have c18b1 : decide (100 < ((rd_T62 l0_4 x38_2).f0).size) = false := decide_eq_false (by omega)
          clear c18
          have H' := Aside0.mk H
          clear H
          have p102 : 0 ≤ (x38_2 : Int) := oa_
          have q102 : x38_2 < (l0_4.length : Int) := oa_
          obtain ⟨ad102, e102, hx102_0, hx102_1, hx102_2, hx102_3⟩ := at_T62 HR0_4.out x38_2 p102 q102
          cases e102
          replace hx102_0 := (HB.out.cell (World.block_lt_of_cell? w _ hx102_0)).trans hx102_0
          replace hx102_1 := (HB.out.cell (World.block_lt_of_cell? w _ hx102_1)).trans hx102_1
          replace hx102_2 := (HB.out.cell (World.block_lt_of_cell? w _ hx102_2)).trans hx102_2
          replace hx102_3 := (HB.out.cell (World.block_lt_of_cell? w _ hx102_3)).trans hx102_3
          replace p102 := eq_true p102
          replace q102 := eq_true q102
          go_wp2_with (first | ((with_reducible refine y0j (N := 4) rfl ?_); (try (refine gate_guard (by rfl) ?_; dsimp only)); refine y0e ?hg (N := 4) ?hd (cs := #[.string (⟨#[]⟩ : ByteArray), .int .i64 0, .int .i64 0, .bool false]) (t := 62) ?hr ?_; (case hd => rfl); (case hg => rfl); (case hr => first | (go_simp; done) | (go_simp; rfl)); intro gb103 hg w22 hbox hb; have n0_ := Aside0.mk (y06 (bk_ BK101.out) hb); have n1_ := Aside0.mk (y04 hb_ hb); have n2_ := Aside0.mk (hbox); have n3_ := Aside0.mk ((by rw [hg]; exact (y03 hb_) : w.heap.size ≤ gb103)); have n4_ := Aside0.mk ((by rw [hg]; exact (y03 hb_) : w.heap.size ≤ gb103)); have n5_ := Aside0.mk ((by rw [hg]; exact Nat.ne_of_lt (y0c (bk_ BK101.out)) : gb101 ≠ gb103)); have n6_ := Aside0.mk ((by rw [hg]; exact Nat.ne_of_gt (y0c (bk_ BK101.out)) : gb103 ≠ gb101)); clear BK101 HB; have BK101 := n0_; have HB := n1_; have BK103 := n2_; have GW103 := n3_; have GE103 := n4_; have NB101_103 := n5_; have NB103_101 := n6_; clear n0_ n1_ n2_ n3_ n4_ n5_ n6_; clear hb hbox hg; have hnb23 := NB103_101.out; have hnc23 := NB101_103.out; obtain ⟨hcz24_0, hfz24_0⟩ := bc_ BK103.out 0 rfl; obtain ⟨hcz24_1, hfz24_1⟩ := bc_ BK103.out 1 rfl; obtain ⟨hcz24_2, hfz24_2⟩ := bc_ BK103.out 2 rfl; obtain ⟨hcz24_3, hfz24_3⟩ := bc_ BK103.out 3 rfl))
          go_roundg k2
          case measure => have := HJ1.out; have := HK2.out; omega
          case rel => exact ⟨(wrap64 (x38_2 + 1)), cl_, H', ⟨by have := HJ1.out; have := HK2.out; omega⟩, ⟨by (with_reducible repeat (first | refine y09 ?_ _ | refine y08 ?_ | refine y05 ?_ _)); refine y0a ?_ NB101_103.out _; (with_reducible repeat (first | refine y09 ?_ _ | refine y08 ?_ | refine y05 ?_ _)); refine y0a ?_ NB101_103.out _; (with_reducible repeat (first | refine y09 ?_ _ | refine y08 ?_ | refine y05 ?_ _)); refine y0a ?_ NB101_103.out _; (with_reducible repeat (first | refine y09 ?_ _ | refine y08 ?_ | refine y05 ?_ _)); refine y0a ?_ NB101_103.out _; (with_reducible repeat (first | refine y09 ?_ _ | refine y08 ?_ | refine y05 ?_ _)); exact BK101.out⟩, ⟨hb_⟩⟩
        ·rw [if_neg c17] at H
         exact absurd H (by simp)
       ·rw [if_neg c16] at H
        exact absurd H (by simp)
      ·rw [if_neg c15] at H
       have c15b0 : decide (x38_2 < (l0_4.length : Int)) = false := decide_eq_false c15
       clear c15
       have H' := Aside0.mk H
       clear H
       obtain ⟨hcz25_0, hfz25_0⟩ := bc_ BK101.out 0 rfl
       obtain ⟨hcz25_1, hfz25_1⟩ := bc_ BK101.out 1 rfl
       obtain ⟨hcz25_2, hfz25_2⟩ := bc_ BK101.out 2 rfl
       obtain ⟨hcz25_3, hfz25_3⟩ := bc_ BK101.out 3 rfl
       obtain ⟨hcz25_4, hfz25_4⟩ := bc_ BK101.out 4 rfl
       obtain ⟨hcz25_5, hfz25_5⟩ := bc_ BK101.out 5 rfl
       go_wp2
       go_loopg [50] k2 (fun kq v50 w' => ∃ (x50_3 : Int), v50 = .int .i64 x50_3 ∧ Aside0 (zq7.l1 kq l0_5 (l0_5.length : Int) x50_3 = some r) ∧ Aside0 (kq ≤ k2) ∧ Aside0 (w'.heap[gb101]? = some (.cells #[.string a0_0, .string a0_1, .string a0_2, .int .i64 a0_3, (.slice A0_4 l0_4.length c0_4), (.slice A0_5 l0_5.length c0_5)] 25 (0, 0))) ∧ Aside0 (Below w.heap.size w w'))
       case atStart => exact ⟨(0), cl_, H', ⟨Nat.le_refl _⟩, ⟨bk_ BK101.out⟩, ⟨hb_⟩⟩
       case round =>
        clear H'
        clear c15b0; clear hcz25_0; clear hcz25_1; clear hcz25_2; clear hcz25_3; clear hcz25_4; clear hcz25_5; clear hfz25_0; clear hfz25_1; clear hfz25_2; clear hfz25_3; clear hfz25_4; clear hfz25_5
        obtain ⟨x50_3, rfl, HA, HK3, BK101, HB⟩ := hrel
        cases gk with
        | zero => exact absurd HA.out (by simp [zq7.l1])
        | succ k3 =>
         have H := HA.out
         clear HA
         simp only [zq7.l1] at H
         by_cases c26 : x50_3 < (l0_5.length : Int)
         ·rw [if_pos c26] at H
          have c26b0 : decide (x50_3 < (l0_5.length : Int)) = true := decide_eq_true c26
          clear c26
          by_cases c27 : 0 ≤ x50_3
          ·rw [if_pos c27] at H
           have c27b0 : decide (0 ≤ x50_3) = true := decide_eq_true c27
           clear c27
           by_cases c28 : x50_3 < (l0_5.length : Int)
           ·rw [if_pos c28] at H
            have c28b0 : decide (x50_3 < (l0_5.length : Int)) = true := decide_eq_true c28
            clear c28
            by_cases c29 : (((y0l l0_5 x50_3).f3).size : Int) > 100
            ·rw [if_pos c29] at H
             have c29b0 : decide (100 < (((y0l l0_5 x50_3).f3).size : Int)) = true := decide_eq_true c29
             have c29b1 : decide (100 < ((y0l l0_5 x50_3).f3).size) = true := decide_eq_true (by omega)
             clear c29
             obtain rfl := Option.some.inj H
             have p104 : 0 ≤ (x50_3 : Int) := oa_
             have q104 : x50_3 < (l0_5.length : Int) := oa_
             obtain ⟨ad104, e104, hx104_0, hx104_1, hx104_2, hx104_3, hx104_4⟩ := at_T43 HR0_5.out x50_3 p104 q104
             cases e104
             replace hx104_0 := (HB.out.cell (World.block_lt_of_cell? w _ hx104_0)).trans hx104_0
             replace hx104_1 := (HB.out.cell (World.block_lt_of_cell? w _ hx104_1)).trans hx104_1
             replace hx104_2 := (HB.out.cell (World.block_lt_of_cell? w _ hx104_2)).trans hx104_2
             replace hx104_3 := (HB.out.cell (World.block_lt_of_cell? w _ hx104_3)).trans hx104_3
             replace hx104_4 := (HB.out.cell (World.block_lt_of_cell? w _ hx104_4)).trans hx104_4
             replace p104 := eq_true p104
             replace q104 := eq_true q104
             go_wp2_with (first | ((with_reducible refine y0j (N := 6) rfl ?_); (try (refine gate_guard (by rfl) ?_; dsimp only)); refine y0e ?hg (N := 6) ?hd (cs := #[.int .i64 0, .int .i64 0, .int .i64 0, .string (⟨#[]⟩ : ByteArray), .bool false]) (t := 43) ?hr ?_; (case hd => rfl); (case hg => rfl); (case hr => first | (go_simp; done) | (go_simp; rfl)); intro gb105 hg w30 hbox hb; have n0_ := Aside0.mk (y06 (bk_ BK101.out) hb); have n1_ := Aside0.mk (y04 hb_ hb); have n2_ := Aside0.mk (hbox); have n3_ := Aside0.mk ((by rw [hg]; exact (y03 hb_) : w.heap.size ≤ gb105)); have n4_ := Aside0.mk ((by rw [hg]; exact (y03 hb_) : w.heap.size ≤ gb105)); have n5_ := Aside0.mk ((by rw [hg]; exact Nat.ne_of_lt (y0c (bk_ BK101.out)) : gb101 ≠ gb105)); have n6_ := Aside0.mk ((by rw [hg]; exact Nat.ne_of_gt (y0c (bk_ BK101.out)) : gb105 ≠ gb101)); clear BK101 HB; have BK101 := n0_; have HB := n1_; have BK105 := n2_; have GW105 := n3_; have GE105 := n4_; have NB101_105 := n5_; have NB105_101 := n6_; clear n0_ n1_ n2_ n3_ n4_ n5_ n6_; clear hb hbox hg; have hnb31 := NB105_101.out; have hnc31 := NB101_105.out; obtain ⟨hcz32_0, hfz32_0⟩ := bc_ BK105.out 0 rfl; obtain ⟨hcz32_1, hfz32_1⟩ := bc_ BK105.out 1 rfl; obtain ⟨hcz32_2, hfz32_2⟩ := bc_ BK105.out 2 rfl; obtain ⟨hcz32_3, hfz32_3⟩ := bc_ BK105.out 3 rfl; obtain ⟨hcz32_4, hfz32_4⟩ := bc_ BK105.out 4 rfl))
             go_ret
             exact ⟨ew_, hb_⟩
            ·rw [if_neg c29] at H
             have c29b0 : decide (100 < (((y0l l0_5 x50_3).f3).size : Int)) = false := decide_eq_false c29
             have c29b1 : decide (100 < ((y0l l0_5 x50_3).f3).size) = false := decide_eq_false (by omega)
             clear c29
             have H' := Aside0.mk H
             clear H
             have p104 : 0 ≤ (x50_3 : Int) := oa_
             have q104 : x50_3 < (l0_5.length : Int) := oa_
             obtain ⟨ad104, e104, hx104_0, hx104_1, hx104_2, hx104_3, hx104_4⟩ := at_T43 HR0_5.out x50_3 p104 q104
             cases e104
             replace hx104_0 := (HB.out.cell (World.block_lt_of_cell? w _ hx104_0)).trans hx104_0
             replace hx104_1 := (HB.out.cell (World.block_lt_of_cell? w _ hx104_1)).trans hx104_1
             replace hx104_2 := (HB.out.cell (World.block_lt_of_cell? w _ hx104_2)).trans hx104_2
             replace hx104_3 := (HB.out.cell (World.block_lt_of_cell? w _ hx104_3)).trans hx104_3
             replace hx104_4 := (HB.out.cell (World.block_lt_of_cell? w _ hx104_4)).trans hx104_4
             replace p104 := eq_true p104
             replace q104 := eq_true q104
             go_wp2_with (first | ((with_reducible refine y0j (N := 6) rfl ?_); (try (refine gate_guard (by rfl) ?_; dsimp only)); refine y0e ?hg (N := 6) ?hd (cs := #[.int .i64 0, .int .i64 0, .int .i64 0, .string (⟨#[]⟩ : ByteArray), .bool false]) (t := 43) ?hr ?_; (case hd => rfl); (case hg => rfl); (case hr => first | (go_simp; done) | (go_simp; rfl)); intro gb105 hg w33 hbox hb; have n0_ := Aside0.mk (y06 (bk_ BK101.out) hb); have n1_ := Aside0.mk (y04 hb_ hb); have n2_ := Aside0.mk (hbox); have n3_ := Aside0.mk ((by rw [hg]; exact (y03 hb_) : w.heap.size ≤ gb105)); have n4_ := Aside0.mk ((by rw [hg]; exact (y03 hb_) : w.heap.size ≤ gb105)); have n5_ := Aside0.mk ((by rw [hg]; exact Nat.ne_of_lt (y0c (bk_ BK101.out)) : gb101 ≠ gb105)); have n6_ := Aside0.mk ((by rw [hg]; exact Nat.ne_of_gt (y0c (bk_ BK101.out)) : gb105 ≠ gb101)); clear BK101 HB; have BK101 := n0_; have HB := n1_; have BK105 := n2_; have GW105 := n3_; have GE105 := n4_; have NB101_105 := n5_; have NB105_101 := n6_; clear n0_ n1_ n2_ n3_ n4_ n5_ n6_; clear hb hbox hg; have hnb34 := NB105_101.out; have hnc34 := NB101_105.out; obtain ⟨hcz35_0, hfz35_0⟩ := bc_ BK105.out 0 rfl; obtain ⟨hcz35_1, hfz35_1⟩ := bc_ BK105.out 1 rfl; obtain ⟨hcz35_2, hfz35_2⟩ := bc_ BK105.out 2 rfl; obtain ⟨hcz35_3, hfz35_3⟩ := bc_ BK105.out 3 rfl; obtain ⟨hcz35_4, hfz35_4⟩ := bc_ BK105.out 4 rfl))
             go_roundg k3
             case measure => have := HJ1.out; have := HK2.out; have := HK3.out; omega
             case rel => exact ⟨(wrap64 (x50_3 + 1)), cl_, H', ⟨by have := HJ1.out; have := HK2.out; have := HK3.out; omega⟩, ⟨by (with_reducible repeat (first | refine y09 ?_ _ | refine y08 ?_ | refine y05 ?_ _)); refine y0a ?_ NB101_105.out _; (with_reducible repeat (first | refine y09 ?_ _ | refine y08 ?_ | refine y05 ?_ _)); refine y0a ?_ NB101_105.out _; (with_reducible repeat (first | refine y09 ?_ _ | refine y08 ?_ | refine y05 ?_ _)); refine y0a ?_ NB101_105.out _; (with_reducible repeat (first | refine y09 ?_ _ | refine y08 ?_ | refine y05 ?_ _)); refine y0a ?_ NB101_105.out _; (with_reducible repeat (first | refine y09 ?_ _ | refine y08 ?_ | refine y05 ?_ _)); refine y0a ?_ NB101_105.out _; (with_reducible repeat (first | refine y09 ?_ _ | refine y08 ?_ | refine y05 ?_ _)); exact BK101.out⟩, ⟨hb_⟩⟩
           ·rw [if_neg c28] at H
            exact absurd H (by simp)
          ·rw [if_neg c27] at H
           exact absurd H (by simp)
         ·rw [if_neg c26] at H
          have c26b0 : decide (x50_3 < (l0_5.length : Int)) = false := decide_eq_false c26
          clear c26
          obtain rfl := Option.some.inj H
          go_wp2
          go_ret
          exact ⟨ew_, hb_⟩
end Go.Proofs.Ytenlmckahaniiaa.K
end
section
namespace Go.Proofs.Ytenlmckahaniiaa.K
open Go Go.Proofs Go.RowKit Go.Maps Go.Lib
def idxB (s : ByteArray) (c : Int) : Int := Lib.indexByte s.data.toList c.toNat.toUInt8
theorem stringslite_IndexByte_calls (s : ByteArray) (c : Int) (w : World) :
    Calls Try.prog 102 #[.string s, .int .u8 c] w fun e w' => e = .returned (.int .i64 (idxB s c)) ∧ w' = w := by
  go_enter Try.func102, Try.ntmps102
  go_wp2
  rw [run_callFunc_extern Try.func115 (by kernel_rfl) (by kernel_rfl) (by kernel_rfl) (e := Extern.BytealgIndexByte.indexByte) (by kernel_rfl), Lib.run_indexByteString]
  simp only [Result.andThen]
  rw [Oper.upon_value]
  go_wp2
  go_ret
  exact ⟨rfl, rfl⟩
theorem strings_IndexByte_calls (s : ByteArray) (c : Int) (w : World) :
    Calls Try.prog 87 #[.string s, .int .u8 c] w fun e w' => e = .returned (.int .i64 (idxB s c)) ∧ w' = w := by
  go_enter Try.func87, Try.ntmps87
  go_wp2_with (go_at_call 102; refine (stringslite_IndexByte_calls s c _).mono ?_; rintro e w' ⟨rfl, rfl⟩)
  go_ret
  exact ⟨rfl, rfl⟩
def Seen (w : World) (b : Nat) (l : List (List UInt8)) : Prop :=
  ∃ D : DataW Unit, w.ownsMap Try.prog 9 (plainElem Try.prog 4) b l.length D ∧ IsMap D ∧ ∀ s : ByteArray, D.atKey (.string s.data.toList) (.lit (.bool false)) = .lit (.bool (decide (s.data.toList ∈ l)))
theorem Seen.made (w : World) : Seen (w.alloc (.map #[] 0)) w.heap.size [] :=
  ⟨.map [], World.ownsMap_made _ _ _ _, ⟨[], rfl⟩, fun s => rfl⟩
theorem Seen.kept {w w' : World} {b : Nat} {l : List (List UInt8)} {row : Option Nat} (h : Seen w b l) (hg : w.grownBy w' row) (hne : some b ≠ row) : Seen w' b l := by
  obtain ⟨D, h1, h2, h3⟩ := h
  exact ⟨D, h1.kept hg hne, h2, h3⟩
theorem Seen.below {w w' : World} {b : Nat} {l : List (List UInt8)} (h : Seen w b l) (hb : Below w.heap.size w w') : Seen w' b l := by
  obtain ⟨D, ⟨es, clock, hh, F, hs, hD⟩, h2, h3⟩ := h
  exact ⟨D, ⟨es, clock, (hb.block b ((Array.getElem?_eq_some_iff.1 hh).1)).trans hh, F, hs, hD⟩, h2, h3⟩
theorem Seen.alloc {w : World} {b : Nat} {l : List (List UInt8)} (h : Seen w b l) (o : Obj) : Seen (w.alloc o) b l := by
  obtain ⟨D, h1, h2, h3⟩ := h
  exact ⟨D, h1.alloc o, h2, h3⟩
theorem Seen.set {w : World} {b : Nat} {l : List (List UInt8)} (h : Seen w b l) {p : Addr} (hp : b ≠ p.block) (u : Value) : Seen (w.setCell p u) b l := by
  obtain ⟨D, ⟨es, clock, hh, F, hs, hD⟩, h2, h3⟩ := h
  exact ⟨D, ⟨es, clock, (Below.heap_setCell w p u b hp).trans hh, F, hs, hD⟩, h2, h3⟩
theorem Seen.drewN {w : World} {b : Nat} {l : List (List UInt8)} (h : Seen w b l) (m : Nat) : Seen (w.drewN m) b l := h
theorem Seen.drew {w : World} {b : Nat} {l : List (List UInt8)} (h : Seen w b l) : Seen w.drew b l := h
theorem Seen.lt {w : World} {b : Nat} {l : List (List UInt8)} (h : Seen w b l) : b < w.heap.size := by
  obtain ⟨D, h1, _⟩ := h
  exact h1.lt
theorem key_ne {s t : List UInt8} (h : s ≠ t) : Lit.string s ≠ Lit.string t := by
  intro e
  injection e with e
  exact h e
theorem plainElem_bool_inv {P : Program} {e : TypeId} (he : P.underlying e = some .bool) {v : Value} {x : Bool} {ps : List MemPlace} (h : plainElem (H := Unit) P e v = some (.lit (.bool x), ps)) : v = .bool x := by
  unfold plainElem at h
  rw [he] at h
  cases v <;> simp at h
  rw [h.1]
theorem wpList_lookup_run {P : Program} {w : World} {ops : Array Oper} {rest : List Oper} {o : Oper} {a : Act} {Q : Exit → Act → World → Prop} (hg : o.guard = none) (m x : Operand) (t : TypeId) (hop : o.op = Op.lookup t m x false)
    {M X v : Value} (hm : a.eval m = M) (hx : a.eval x = X) (hrun : (Instr.lookup t M X false).run P w = .ok v w)
    (hK : wpList P ops Q rest (a.put o.dst v) w) : wpList P ops Q (o :: rest) a w := by
  refine wpList_plain hg fun K' hK' => ?_
  unfold Oper.wp
  simp [execOp, hop, hm, hx, hrun, Result.andThen]
  exact hK' _ _ hK
section
variable {ops : Array Oper} {rest : List Oper} {o : Oper} {a : Act} {Q : Exit → Act → World → Prop}
theorem zero4 (w : World) : (zeroValue 4).run Try.prog w = .ok (.bool false) w := by kernel_rfl
theorem law9 : Keyed Try.prog 9 := string_keyed Try.underlying9
theorem wpList_seen {w : World} (hg : o.guard = none) (m x : Operand) (hop : o.op = Op.lookup 98 m x false) (b : Nat) (l : List (List UInt8))
    (hm : a.eval m = .map (some b)) (hs : Seen w b l) (s : ByteArray) (hx : a.eval x = .string s) (hsz : s.size ≤ maxLen)
    (hK : wpList Try.prog ops Q rest (a.put o.dst (.bool (decide (s.data.toList ∈ l)))) w) : wpList Try.prog ops Q (o :: rest) a w := by
  obtain ⟨D, h1, _, h3⟩ := hs
  obtain ⟨v, ps, hrun, hv⟩ := h1.lookup law9 Try.underlying98 (zero4 w) (plainElem_bool Try.underlying4 false) (WideMaps.keyOf_string_mk Try.underlying9 hsz)
  rw [h3] at hv
  obtain rfl := plainElem_bool_inv Try.underlying4 hv
  exact wpList_lookup_run hg m x 98 hop hm hx hrun hK
theorem wpList_see {w : World} (hg : o.guard = none) (m x v : Operand) (hop : o.op = Op.mapUpdate 98 m x v) (b : Nat) (l : List (List UInt8))
    (hm : a.eval m = .map (some b)) (hs : Seen w b l) (hn : l.length < maxLen) (s : ByteArray) (hx : a.eval x = .string s) (hv : a.eval v = .bool true) (hsz : s.size ≤ maxLen)
    (hK : ∀ w', Seen w' b (l ++ [s.data.toList]) → w.grownBy w' (some b) → wpList Try.prog ops Q rest (a.put o.dst undef) w') : wpList Try.prog ops Q (o :: rest) a w := by
  obtain ⟨D, h1, h2, h3⟩ := hs
  refine wpList_mapUpdate_own w hg m x v 98 hop 9 4 law9 Try.underlying98 (plainElem (H := Unit) Try.prog 4) b l.length D hm h1 hn _ _ _ hx hv (WideMaps.keyOf_string_mk Try.underlying9 hsz) _ [] (plainElem_bool Try.underlying4 true) ?_
  intro w' hown hgrow
  refine hK w' ⟨_, by simpa using hown, ?_, ?_⟩ hgrow
  · obtain ⟨es, rfl⟩ := h2
    exact ⟨_, rfl⟩
  · intro t
    by_cases ht : t.data.toList = s.data.toList
    · rw [ht, atKey_put_same h2 (show WideAt.IsKeyLit (.string s.data.toList) from trivial)]
      simp
    · rw [atKey_put_other (key_ne ht), h3 t]
      simp [ht]
end
end Go.Proofs.Ytenlmckahaniiaa.K
end
section
namespace Go.Proofs.Ytenlmckahaniiaa.K
open Go.RowKit Go.Proofs.YtenlmckahaniiaaW.PrintWords Go.Proofs.YtenlmckahaniiaaW.PrintLast
def zqi.f (a0 : ByteArray) (a1 : Int) : Option Int := some (idxB a0 a1)
theorem zqi.calls (a0 : ByteArray) (a1 : Int) (r : Int) (w : World) (h : zqi.f a0 a1 = some r) :
    Calls Try.prog 87 #[.string a0, .int .u8 a1] w fun e w' => e = .returned (.int .i64 r) ∧ Drawn0 w w' := by
  obtain rfl := Option.some.inj h
  refine (strings_IndexByte_calls a0 a1 w).mono ?_
  rintro e w' ⟨rfl, rfl⟩
  exact ⟨rfl, Drawn0.refl _⟩
end Go.Proofs.Ytenlmckahaniiaa.K
end
