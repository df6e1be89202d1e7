/- Lemmas for several laws: what their proofs need of this seat's texts, in one place. -/
import Derived.Carry
import Derived.ChangeOld
import Derived.ChangeSame
import Derived.Deep.Slices
import Derived.Lib.SlBytesConst
import Derived.Lib.SliceRun
import Derived.SizedLaws
import Derived.Test.YtenlmckahaniiaaProg
import Derived.Test.YtenlmckahaniiaaZcLc0
set_option linter.unusedVariables false
set_option linter.unusedSimpArgs false
set_option linter.unusedSectionVars false
set_option maxHeartbeats 8000000
set_option maxRecDepth 100000
section
namespace Go.Proofs.YtenlmckahaniiaaW.PrintWords
open Go Go.RowKit
theorem y0m (l : List UInt8) : l.isEmpty = !(l != []) := by cases l <;> rfl
theorem ite_some {α : Type} {c : Prop} [Decidable c] {x : Option α} {r : α} (h : (if c then x else none) = some r) : c ∧ x = some r := by
  by_cases hc : c
  · rw [if_pos hc] at h; exact ⟨hc, h⟩
  · rw [if_neg hc] at h; cases h
namespace Kd
variable {P : Program} {ops : Array Oper} {rest : List Oper} {o o2 : Oper} {a : Act} {Q : Exit → Act → World → Prop}
theorem F_row {W w1 : World} {g e : Nat} {cs : Array Value} {fr : Nat × Nat} {xs : List Int} (hW : W.heap.size ≤ g) (hg : w1.heap[g]? = some (.cells cs e fr)) (hm : xs.length ≤ 9223372036854775807)
    (hc : ∀ j, j < xs.length → cs[j]? = some (.int .u8 (xs.getD j 0))) : F (Kd.int .u8) w1 (fun k => W.heap.size ≤ k) (some ⟨g, 0, none⟩) xs.length xs := by
  intro W' hW'
  have hlt : g < w1.heap.size := by
    rcases Nat.lt_or_ge g w1.heap.size with h | h
    · exact h
    · simp [Array.getElem?_eq_none h] at hg
  have hg' : W'.heap[g]? = some (.cells cs e fr) := (hW' g hW hlt).trans hg
  refine C_of_reads (d := (0 : Int)) (h1 := fun _ => rfl) ⟨rfl, hm, fun _ => ⟨_, rfl, fun j hj => ?_⟩⟩
  have ha : (⟨g, 0, none⟩ : Addr).add j = ⟨g, j, none⟩ := by unfold Addr.add; split <;> simp_all
  rw [ha]
  show W'.cell? ⟨g, j, none⟩ = _
  unfold World.cell?
  simp only [hg']
  exact hc j hj
theorem V_conv {w0 W : World} (base e : Nat) (hgd : o.guard = none) {N : Tmp} (_hd : o.dst = some N) (src dst : TypeId) (x : Operand) (ho : o.op = .convert src dst x) (s : ByteArray) (hx : a.eval x = .string s)
    {u : TypeDesc} (hs : P.underlying src = some u) (hdst : P.underlying dst = some (.slice e)) (he : P.underlying e = some (.int .u8)) (hm : (s.size : Int) ≤ 9223372036854775807) (HB : Below base w0 W) (hbase : base ≤ W.heap.size)
    (h : ∀ v1 w1, V (Kd.int .u8) e w1 base (fun k => W.heap.size ≤ k) v1 (bytesOf s) → Below base w0 w1 → W.grownBy w1 none → (∃ b, v1.ownBlock = some b ∧ W.heap.size ≤ b) → wpList P ops Q rest (a.put o.dst v1) w1) : wpList P ops Q (o :: rest) a W := by
  have hrun : (execOp a.eval o).run P W = .ok (.value (.slice (some ⟨W.heap.size, 0, none⟩) s.size (grownCap W s.size 0 e))) (Lib.bytesWorld W e s) := by
    have hr := Lib.run_convert_string_bytes W src dst e s hs hdst he
    simp [execOp, ho, hx, hr]
  have hlen : (bytesOf s).length = s.size := bytesOf_length s
  refine event_run hgd hrun (h _ _ ⟨_, _, by rw [hlen], by rw [hlen]; exact grownCap_ge W s.size 0 e, ?_⟩ ?_ ?_ ⟨W.heap.size, by simp [Value.ownBlock], Nat.le_refl _⟩)
  · refine F_row (Nat.le_refl _) (Lib.bytesWorld_at_new W e s) (by omega) (fun j hj => ?_)
    rw [hlen] at hj
    have h' : j < s.data.toList.length := by rw [data_length]; exact hj
    simp [Lib.bytesCells, bytesOf, Array.getElem?_append, List.getD_eq_getElem?_getD, hj]
  · exact bytes_below HB hbase e s
  · exact ⟨rfl, rfl, rfl, by rw [Lib.bytesWorld_size]; omega, fun k hk _ => Lib.bytesWorld_at_old W e s k hk⟩
end Kd
end Go.Proofs.YtenlmckahaniiaaW.PrintWords
end
section
namespace Go.Proofs.YtenlmckahaniiaaW.PrintWords
open Go Go.RowKit Go.Proofs.YtenlmckahaniiaaW.PrintLast
def fl (n m : Nat) : Array Bool := ((List.range n).map fun i => m.testBit i).toArray
theorem cl_ {p : Prop} (h : p := by first | rfl | (simp; done) | (simp [y0m]; done) | (simp [*]; done)) : p := h
theorem ar_ {p : Prop} (h : p := by (try simp only [List.map_toArray, List.map_cons, List.map_nil]); first | done | rfl | (simp only [List.length_drop, List.length_take]; rfl)) : p := h
theorem ew_ {p : Prop} (h : p := by first | rfl | (simp [errW_none, errW_some] <;> rfl) | (simp [*, errW_none, errW_some] <;> rfl)) : p := h
theorem oa_ {p : Prop} [Decidable p] (h : decide p = true := by first | (with_reducible assumption) | assumption) : p := of_decide_eq_true h
theorem hb_ {p : Prop} (h : p := by repeat (first | (with_reducible first | exact HB.out | apply y01 | apply pw_below_drewN | apply y02 | refine y03 ?_ (Aside0.out (by assumption))) | exact HB.out)) : p := h
theorem bk_ {p q : Prop} (h : q) (g : q → p := by intro h_; (with_reducible repeat (first | refine y0a ?_ _ | refine y09 ?_ | refine y06 ?_ _)); exact h_) : p := g h
theorem rk_ {p q : Prop} (h : q) (g : q → p := by intro h_; (with_reducible repeat (first | apply Kd.R_alloc | apply Kd.R_drewN | apply Kd.R_drew)); exact h_) : p := g h
section
variable {P : Program} {md : Region.Mode} {ops : Array Oper} {Q : Exit → Act → World → Prop} {S : World → Prop} {ds : List Nat} {T : Bool × List (List Nat × List Nat)}
theorem pu_ {fuel : Nat} {l : Array Bool} {a a' : Act} {w : World} {oi : Oper} {v : Value} (i : Nat) (N : Option Tmp) (l' : Array Bool) (hi : ops[i]? = some oi) (hN : oi.dst = N) (HT : Aside0 (rtab md ops = T)) (h : wpAnyLast P md ops Q S ds fuel l' a' w)
    (hc : anyT T l.toList l'.toList i = true := by kernel_rfl) (hQ : ∀ c a w, Q (.panic c) (a.put oi.dst v) w → Q (.panic c) a w := by exact fun _ _ _ h => h)
    (hy : Region.wanted oi (yielded ops a.tmps) = true ∧ ∀ w, (execOp a.eval oi).run P w = .ok (.value v) w := by (refine ⟨by rfl, ?_⟩; intro w'; go_simp; first | with_reducible rfl | (refine (if_neg ?_).trans ?_; exact ct_; with_reducible rfl)))
    (ha : a.put N v = a' := by (simp only [Act.put, List.setIfInBounds_toArray, List.set_cons_zero, List.set_cons_succ, i64_w, i32_w]; rfl)) : wpAnyLast P md ops Q S ds (fuel + 1) l a w :=
  pure_ l' hi hN (any_of HT.out hc) hQ (Or.inl hy) ha h
theorem ta_ {fuel : Nat} {l : Array Bool} {a a' : Act} {w : World} {oi : Oper} {v : Value} {B : List Nat} (i : Nat) (N : Option Tmp) (l' : Array Bool) (hi : ops[i]? = some oi) (hN : oi.dst = N) (HT : Aside0 (rtab md ops = T)) (HW : Aside0 (waitsOk T.2 B = true)) (hS : S w) (h : wpAnyLast P md ops Q S ds fuel l' a' w)
    (hc : takeW T B ds l.toList l'.toList i = true := by kernel_rfl) (hQ : ∀ c a w, Q (.panic c) (a.put oi.dst v) w → Q (.panic c) a w := by exact fun _ _ _ h => h)
    (hy : Region.wanted oi (yielded ops a.tmps) = true ∧ ∀ w, S w → (execOp a.eval oi).run P w = .ok (.value v) w := by (refine ⟨by rfl, ?_⟩; intro w' hS_; (try dsimp only at hS_); (repeat (obtain ⟨s_, hS_⟩ := hS_)); go_simp; with_reducible rfl))
    (ha : a.put N v = a' := by (simp only [Act.put, List.setIfInBounds_toArray, List.set_cons_zero, List.set_cons_succ, i64_w, i32_w]; rfl)) : wpAnyLast P md ops Q S ds (fuel + 1) l a w :=
  take_ l' hi hN (take_ofW HT.out HW.out hc) hQ (Or.inl hy) hS ha h
theorem no_ {fuel : Nat} {l : Array Bool} {a a' : Act} {w : World} {N : Option Tmp} {v : Value} (h : wpAnyLast P md ops Q S ds fuel l a' w)
    (ha : a.put N v = a' := by (simp only [Act.put, List.setIfInBounds_toArray, List.set_cons_zero, List.set_cons_succ, i64_w, i32_w]; rfl)) : wpAnyLast P md ops Q S ds fuel l (a.put N v) w := norm_ ha h
end
end Go.Proofs.YtenlmckahaniiaaW.PrintWords
end
section
namespace Go.Proofs.Ytenlmckahaniiaa.K
open Go.RowKit Go.Proofs.YtenlmckahaniiaaW.PrintWords Go.Proofs.YtenlmckahaniiaaW.PrintLast
def errW : Option Int → Value
  | none => .nilIface
  | some c => .iface 0 (.int .i64 c)
theorem errW_none : errW none = .nilIface := rfl
theorem errW_some (c : Int) : errW (some c) = .iface 0 (.int .i64 c) := rfl
theorem info3 : (Try.prog.info? 3).map (fun i => (i.zero, i.size, i.bytes)) = some (some (.int .i64 0), 1, 8) := by kernel_rfl
theorem info5 : (Try.prog.info? 5).map (fun i => (i.zero, i.size, i.bytes)) = some (some (.int .u8 0), 1, 1) := by kernel_rfl
theorem info9 : (Try.prog.info? 9).map (fun i => (i.zero, i.size, i.bytes)) = some (some (.string ⟨#[]⟩), 1, 16) := by kernel_rfl
theorem info25 : (Try.prog.info? 25).map (fun i => (i.zero, i.size, i.bytes)) = some (some (.agg #[(.string ⟨#[]⟩), (.string ⟨#[]⟩), (.string ⟨#[]⟩), (.int .i64 0), (.slice none 0 0), (.slice none 0 0)]), 6, 104) := by kernel_rfl
theorem info43 : (Try.prog.info? 43).map (fun i => (i.zero, i.size, i.bytes)) = some (some (.agg #[(.int .i64 0), (.int .i64 0), (.int .i64 0), (.string ⟨#[]⟩), (.bool false)]), 5, 48) := by kernel_rfl
theorem info62 : (Try.prog.info? 62).map (fun i => (i.zero, i.size, i.bytes)) = some (some (.agg #[(.string ⟨#[]⟩), (.int .i64 0), (.int .i64 0), (.bool false)]), 4, 40) := by kernel_rfl
structure S62 where
  f0 : ByteArray
  f1 : Int
  f2 : Int
  f3 : Bool
def z62 : S62 := ⟨(⟨#[]⟩ : ByteArray), (0 : Int), (0 : Int), false⟩
def k62 : Kd S62 := Kd.iso (Kd.pair Kd.string (Kd.pair (Kd.int .i64) (Kd.pair (Kd.int .i64) Kd.bool))) (fun x : S62 => (x.f0, x.f1, x.f2, x.f3))
theorem k62_open {w : World} {x : S62} {cs : List Value} (h : k62.K w x cs) : cs = [.string x.f0, .int .i64 x.f1, .int .i64 x.f2, .bool x.f3] := by
  obtain ⟨_, _, rfl, rfl, ⟨_, _, rfl, rfl, ⟨_, _, rfl, rfl, rfl⟩⟩⟩ := h
  exact rfl
theorem k62_mkM (w : World) (base : Nat) (ok : Nat → Prop) (x : S62)  : k62.M w base ok x [.string x.f0, .int .i64 x.f1, .int .i64 x.f2, .bool x.f3] := ⟨[.string x.f0], [.int .i64 x.f1, .int .i64 x.f2, .bool x.f3], rfl, rfl, ⟨[.int .i64 x.f1], [.int .i64 x.f2, .bool x.f3], rfl, rfl, ⟨[.int .i64 x.f2], [.bool x.f3], rfl, rfl, rfl⟩⟩⟩
def y0s (xs : List S62) (i : Int) : S62 := xs.getD i.toNat z62
theorem at_T62 {w : World} {A : Option Addr} {n : Nat} {xs : List S62} (h : Kd.C k62 w A n xs) (i : Int) (h0 : 0 ≤ i) (h1 : i < n) : ∃ ad , A = some ad ∧ w.cell? (ad.add (i.toNat * 4)) = some (.string (y0s xs i).f0) ∧ w.cell? ⟨(ad.add (i.toNat * 4)).block, (ad.add (i.toNat * 4)).off + 1, none⟩ = some (.int .i64 (y0s xs i).f1) ∧ w.cell? ⟨(ad.add (i.toNat * 4)).block, (ad.add (i.toNat * 4)).off + 2, none⟩ = some (.int .i64 (y0s xs i).f2) ∧ w.cell? ⟨(ad.add (i.toNat * 4)).block, (ad.add (i.toNat * 4)).off + 3, none⟩ = some (.bool (y0s xs i).f3) := by
  obtain ⟨ad, c, e, _, hK, hc0⟩ := Kd.C_get h z62 i h0 h1
  have hc : ∀ j u, c[j]? = some u → w.cell? (ad.add (i.toNat * 4 + j)) = some u := hc0
  obtain rfl := k62_open hK
  exact ⟨ad, e, hc 0 _ rfl, by rw [← y00 _ _ 1 (by omega)]; exact hc 1 _ rfl, by rw [← y00 _ _ 2 (by omega)]; exact hc 2 _ rfl, by rw [← y00 _ _ 3 (by omega)]; exact hc 3 _ rfl⟩
structure S43 where
  f0 : Int
  f1 : Int
  f2 : Int
  f3 : ByteArray
  f4 : Bool
def z43 : S43 := ⟨(0 : Int), (0 : Int), (0 : Int), (⟨#[]⟩ : ByteArray), false⟩
def k43 : Kd S43 := Kd.iso (Kd.pair (Kd.int .i64) (Kd.pair (Kd.int .i64) (Kd.pair (Kd.int .i64) (Kd.pair Kd.string Kd.bool)))) (fun x : S43 => (x.f0, x.f1, x.f2, x.f3, x.f4))
theorem k43_open {w : World} {x : S43} {cs : List Value} (h : k43.K w x cs) : cs = [.int .i64 x.f0, .int .i64 x.f1, .int .i64 x.f2, .string x.f3, .bool x.f4] := by
  obtain ⟨_, _, rfl, rfl, ⟨_, _, rfl, rfl, ⟨_, _, rfl, rfl, ⟨_, _, rfl, rfl, rfl⟩⟩⟩⟩ := h
  exact rfl
theorem k43_mkM (w : World) (base : Nat) (ok : Nat → Prop) (x : S43)  : k43.M w base ok x [.int .i64 x.f0, .int .i64 x.f1, .int .i64 x.f2, .string x.f3, .bool x.f4] := ⟨[.int .i64 x.f0], [.int .i64 x.f1, .int .i64 x.f2, .string x.f3, .bool x.f4], rfl, rfl, ⟨[.int .i64 x.f1], [.int .i64 x.f2, .string x.f3, .bool x.f4], rfl, rfl, ⟨[.int .i64 x.f2], [.string x.f3, .bool x.f4], rfl, rfl, ⟨[.string x.f3], [.bool x.f4], rfl, rfl, rfl⟩⟩⟩⟩
def y0r (xs : List S43) (i : Int) : S43 := xs.getD i.toNat z43
theorem at_T43 {w : World} {A : Option Addr} {n : Nat} {xs : List S43} (h : Kd.C k43 w A n xs) (i : Int) (h0 : 0 ≤ i) (h1 : i < n) : ∃ ad , A = some ad ∧ w.cell? (ad.add (i.toNat * 5)) = some (.int .i64 (y0r xs i).f0) ∧ w.cell? ⟨(ad.add (i.toNat * 5)).block, (ad.add (i.toNat * 5)).off + 1, none⟩ = some (.int .i64 (y0r xs i).f1) ∧ w.cell? ⟨(ad.add (i.toNat * 5)).block, (ad.add (i.toNat * 5)).off + 2, none⟩ = some (.int .i64 (y0r xs i).f2) ∧ w.cell? ⟨(ad.add (i.toNat * 5)).block, (ad.add (i.toNat * 5)).off + 3, none⟩ = some (.string (y0r xs i).f3) ∧ w.cell? ⟨(ad.add (i.toNat * 5)).block, (ad.add (i.toNat * 5)).off + 4, none⟩ = some (.bool (y0r xs i).f4) := by
  obtain ⟨ad, c, e, _, hK, hc0⟩ := Kd.C_get h z43 i h0 h1
  have hc : ∀ j u, c[j]? = some u → w.cell? (ad.add (i.toNat * 5 + j)) = some u := hc0
  obtain rfl := k43_open hK
  exact ⟨ad, e, hc 0 _ rfl, by rw [← y00 _ _ 1 (by omega)]; exact hc 1 _ rfl, by rw [← y00 _ _ 2 (by omega)]; exact hc 2 _ rfl, by rw [← y00 _ _ 3 (by omega)]; exact hc 3 _ rfl, by rw [← y00 _ _ 4 (by omega)]; exact hc 4 _ rfl⟩
structure S25 where
  f0 : ByteArray
  f1 : ByteArray
  f2 : ByteArray
  f3 : Int
  f4 : (List S62)
  f5 : (List S43)
def z25 : S25 := ⟨(⟨#[]⟩ : ByteArray), (⟨#[]⟩ : ByteArray), (⟨#[]⟩ : ByteArray), (0 : Int), ([] : List S62), ([] : List S43)⟩
def k25 : Kd S25 := Kd.iso (Kd.pair Kd.string (Kd.pair Kd.string (Kd.pair Kd.string (Kd.pair (Kd.int .i64) (Kd.pair (Kd.slice 62 k62) (Kd.slice 43 k43)))))) (fun x : S25 => (x.f0, x.f1, x.f2, x.f3, x.f4, x.f5))
theorem k25_open {w : World} {x : S25} {cs : List Value} (h : k25.K w x cs) : ∃ A4 c4 A5 c5, cs = [.string x.f0, .string x.f1, .string x.f2, .int .i64 x.f3, .slice A4 x.f4.length c4, .slice A5 x.f5.length c5] ∧ x.f4.length ≤ c4 ∧ k62.C w A4 x.f4.length x.f4 ∧ x.f5.length ≤ c5 ∧ k43.C w A5 x.f5.length x.f5 := by
  obtain ⟨_, _, rfl, rfl, ⟨_, _, rfl, rfl, ⟨_, _, rfl, rfl, ⟨_, _, rfl, rfl, ⟨_, _, rfl, ⟨A4, c4, rfl, l4, g4⟩, ⟨A5, c5, rfl, l5, g5⟩⟩⟩⟩⟩⟩ := h
  exact ⟨A4, c4, A5, c5, rfl, l4, g4, l5, g5⟩
theorem k25_mk (w : World) (x : S25) {A4 : Option Addr} {c4 : Nat} (l4 : x.f4.length ≤ c4) (g4 : k62.C w A4 x.f4.length x.f4) {A5 : Option Addr} {c5 : Nat} (l5 : x.f5.length ≤ c5) (g5 : k43.C w A5 x.f5.length x.f5) : k25.K w x [.string x.f0, .string x.f1, .string x.f2, .int .i64 x.f3, .slice A4 x.f4.length c4, .slice A5 x.f5.length c5] := ⟨[.string x.f0], [.string x.f1, .string x.f2, .int .i64 x.f3, .slice A4 x.f4.length c4, .slice A5 x.f5.length c5], rfl, rfl, ⟨[.string x.f1], [.string x.f2, .int .i64 x.f3, .slice A4 x.f4.length c4, .slice A5 x.f5.length c5], rfl, rfl, ⟨[.string x.f2], [.int .i64 x.f3, .slice A4 x.f4.length c4, .slice A5 x.f5.length c5], rfl, rfl, ⟨[.int .i64 x.f3], [.slice A4 x.f4.length c4, .slice A5 x.f5.length c5], rfl, rfl, ⟨[.slice A4 x.f4.length c4], [.slice A5 x.f5.length c5], rfl, ⟨A4, c4, rfl, l4, g4⟩, ⟨A5, c5, rfl, l5, g5⟩⟩⟩⟩⟩⟩
theorem k25_mkM (w : World) (base : Nat) (ok : Nat → Prop) (x : S25) {v4 : Value} (g4 : k62.R 62 w base ok v4 x.f4) {v5 : Value} (g5 : k43.R 43 w base ok v5 x.f5) : k25.M w base ok x [.string x.f0, .string x.f1, .string x.f2, .int .i64 x.f3, v4, v5] := ⟨[.string x.f0], [.string x.f1, .string x.f2, .int .i64 x.f3, v4, v5], rfl, rfl, ⟨[.string x.f1], [.string x.f2, .int .i64 x.f3, v4, v5], rfl, rfl, ⟨[.string x.f2], [.int .i64 x.f3, v4, v5], rfl, rfl, ⟨[.int .i64 x.f3], [v4, v5], rfl, rfl, ⟨[v4], [v5], rfl, ⟨v4, rfl, g4⟩, ⟨v5, rfl, g5⟩⟩⟩⟩⟩⟩
theorem k25_openF {W : World} {ok : Nat → Prop} {x : S25} {cs : List Value} (h : Kd.FK k25 W ok x cs) : ∃ A4 c4 A5 c5, cs = [.string x.f0, .string x.f1, .string x.f2, .int .i64 x.f3, .slice A4 x.f4.length c4, .slice A5 x.f5.length c5] ∧ x.f4.length ≤ c4 ∧ Kd.F k62 W ok A4 x.f4.length x.f4 ∧ x.f5.length ≤ c5 ∧ Kd.F k43 W ok A5 x.f5.length x.f5 := by
  obtain ⟨A4, c4, A5, c5, rfl, l4, _, l5, _⟩ := k25_open (Kd.FK_now h)
  exact ⟨A4, c4, A5, c5, rfl, l4, (fun W' hW => by obtain ⟨A4_, c4_, A5_, c5_, he, l4_, g4_, l5_, g5_⟩ := k25_open (h W' hW); injection (Option.some.inj (show some (Value.slice A4 x.f4.length c4) = some (Value.slice A4_ x.f4.length c4_) from congrArg (fun l => l[4]?) he)) with ha_ _ _; rw [ha_]; exact g4_), l5, (fun W' hW => by obtain ⟨A4_, c4_, A5_, c5_, he, l4_, g4_, l5_, g5_⟩ := k25_open (h W' hW); injection (Option.some.inj (show some (Value.slice A5 x.f5.length c5) = some (Value.slice A5_ x.f5.length c5_) from congrArg (fun l => l[5]?) he)) with ha_ _ _; rw [ha_]; exact g5_)⟩
theorem k25_mkF (W : World) (ok : Nat → Prop) (x : S25) {A4 : Option Addr} {c4 : Nat} (l4 : x.f4.length ≤ c4) (g4 : Kd.F k62 W ok A4 x.f4.length x.f4) {A5 : Option Addr} {c5 : Nat} (l5 : x.f5.length ≤ c5) (g5 : Kd.F k43 W ok A5 x.f5.length x.f5) : Kd.FK k25 W ok x [.string x.f0, .string x.f1, .string x.f2, .int .i64 x.f3, .slice A4 x.f4.length c4, .slice A5 x.f5.length c5] := fun W2 hW => k25_mk W2 x l4 (g4 W2 hW) l5 (g5 W2 hW)
def y0q (xs : List S25) (i : Int) : S25 := xs.getD i.toNat z25
theorem at_T25 {w : World} {A : Option Addr} {n : Nat} {xs : List S25} (h : Kd.C k25 w A n xs) (i : Int) (h0 : 0 ≤ i) (h1 : i < n) : ∃ ad A4 c4 A5 c5, A = some ad ∧ w.cell? (ad.add (i.toNat * 6)) = some (.string (y0q xs i).f0) ∧ w.cell? ⟨(ad.add (i.toNat * 6)).block, (ad.add (i.toNat * 6)).off + 1, none⟩ = some (.string (y0q xs i).f1) ∧ w.cell? ⟨(ad.add (i.toNat * 6)).block, (ad.add (i.toNat * 6)).off + 2, none⟩ = some (.string (y0q xs i).f2) ∧ w.cell? ⟨(ad.add (i.toNat * 6)).block, (ad.add (i.toNat * 6)).off + 3, none⟩ = some (.int .i64 (y0q xs i).f3) ∧ w.cell? ⟨(ad.add (i.toNat * 6)).block, (ad.add (i.toNat * 6)).off + 4, none⟩ = some (.slice A4 (y0q xs i).f4.length c4) ∧ w.cell? ⟨(ad.add (i.toNat * 6)).block, (ad.add (i.toNat * 6)).off + 5, none⟩ = some (.slice A5 (y0q xs i).f5.length c5) ∧ (y0q xs i).f4.length ≤ c4 ∧ k62.C w A4 (y0q xs i).f4.length (y0q xs i).f4 ∧ (y0q xs i).f5.length ≤ c5 ∧ k43.C w A5 (y0q xs i).f5.length (y0q xs i).f5 := by
  obtain ⟨ad, c, e, _, hK, hc0⟩ := Kd.C_get h z25 i h0 h1
  have hc : ∀ j u, c[j]? = some u → w.cell? (ad.add (i.toNat * 6 + j)) = some u := hc0
  obtain ⟨A4, c4, A5, c5, rfl, l4, g4, l5, g5⟩ := k25_open hK
  exact ⟨ad, A4, c4, A5, c5, e, hc 0 _ rfl, by rw [← y00 _ _ 1 (by omega)]; exact hc 1 _ rfl, by rw [← y00 _ _ 2 (by omega)]; exact hc 2 _ rfl, by rw [← y00 _ _ 3 (by omega)]; exact hc 3 _ rfl, by rw [← y00 _ _ 4 (by omega)]; exact hc 4 _ rfl, by rw [← y00 _ _ 5 (by omega)]; exact hc 5 _ rfl, l4, g4, l5, g5⟩
end Go.Proofs.Ytenlmckahaniiaa.K
end
section
namespace Go.Proofs.YtenlmckahaniiaaW.PrintWords
open Go Go.RowKit Go.ChangeShapes Go.WideShapes Go.Deep
def WfI (k : IntKind) (n : Int) : Prop := (Lit.int k n).wf = true
def WfB (_ : Bool) : Prop := True
def WfS (s : ByteArray) : Prop := s.size ≤ 9223372036854775807
def WfL {α : Type} (p : α → Prop) (l : List α) : Prop := l.length ≤ 9223372036854775807 ∧ ∀ x ∈ l, p x
def WfP {α β : Type} (p : α → Prop) (q : β → Prop) (x : α × β) : Prop := p x.1 ∧ q x.2
structure Opens {α : Type} (P : Program) (t : TypeId) (d : Kd α) (wf : α → Prop) : Prop where
  sz : d.sz = P.cellsOf t
  op : ∀ {H : Type} {enc : TypeId × Value → H} {w : World} {base : Nat} {spare : Nat → Bool} {held : Bool} {fuel : Nat} {cs : List Value} {x : DataW H × List MemPlace}, DataW.trod enc P w base spare held fuel t cs = some x → ∃ y, d.K w y cs ∧ wf y
structure OpensF {α : Type} (P : Program) (fs : List Field) (off : Nat) (d : Kd α) (wf : α → Prop) : Prop where
  op : ∀ {H : Type} {enc : TypeId × Value → H} {w : World} {base : Nat} {spare : Nat → Bool} {held : Bool} {cs : List Value}, cs.length = off + d.sz →
    (∀ f ∈ fs, ∃ n x, DataW.trod enc P w base spare held n f.type ((cs.drop f.offset).take (P.cellsOf f.type)) = some x) → ∃ y, d.K w y (cs.drop off) ∧ wf y
section
variable {P : Program} {t e : TypeId}
theorem Opens.int {k : IntKind} (ht : P.underlying t = some (.int k)) (hc : P.cellsOf t = 1) : Opens P t (Kd.int k) (WfI k) :=
  ⟨hc.symm, fun h => by obtain ⟨n, rfl, _, hw⟩ := DataW.trod_int ht h; exact ⟨n, rfl, hw⟩⟩
theorem Opens.bool (ht : P.underlying t = some .bool) (hc : P.cellsOf t = 1) : Opens P t Kd.bool WfB :=
  ⟨hc.symm, fun h => by obtain ⟨n, rfl, _⟩ := DataW.trod_bool ht h; exact ⟨n, rfl, trivial⟩⟩
theorem Opens.string (ht : P.underlying t = some .string) (hc : P.cellsOf t = 1) : Opens P t Kd.string WfS :=
  ⟨hc.symm, fun h => by obtain ⟨n, rfl, _, hw⟩ := DataW.trod_string ht h; exact ⟨n, rfl, hw⟩⟩
theorem Opens.slice {α : Type} {d : Kd α} {wf : α → Prop} (ht : P.underlying t = some (.slice e)) (hc : P.cellsOf t = 1) (he : Opens P e d wf) : Opens P t (Kd.slice e d) (WfL wf) :=
  ⟨hc.symm, fun {H enc w base spare held fuel cs x} h => by
    rcases open_slice ht h with ⟨rfl, _⟩ | ⟨a, len, cap, m, n, D, Pl, rfl, _, hl, hm, hmm, _, hi⟩
    · exact ⟨[], ⟨none, 0, rfl, Nat.le_refl _, rfl, by simp, fun h0 => absurd h0 (by simp)⟩, by simp, fun x hx => by simp at hx⟩
    · have hle : len ≤ m := by rw [hmm]; split <;> omega
      have hel : ∀ i, i < len → ∃ y, (∃ c, c.length = d.sz ∧ d.K w y c ∧ ∀ j u, c[j]? = some u → w.cell? (a.add (i * d.sz + j)) = some u) ∧ wf y := by
        intro i hil
        obtain ⟨cs', hcs, htr⟩ := hi i (by omega)
        obtain ⟨y, hk, hw⟩ := he.op htr
        obtain ⟨_, hlen, hat⟩ := World.cells?_some hcs
        refine ⟨y, ⟨cs', hlen.trans he.sz.symm, hk, fun j u hu => ?_⟩, hw⟩
        have hj : j < cs'.length := (List.getElem?_eq_some_iff.1 hu).1
        have := hat j (by omega)
        rw [he.sz, ← add_add, this, hu]
      have key : ∀ m, m ≤ len → ∃ ys : List α, ys.length = m ∧ (∀ j p, ys[j]? = some p → ∃ c, c.length = d.sz ∧ d.K w p c ∧ ∀ i u, c[i]? = some u → w.cell? (a.add (j * d.sz + i)) = some u) ∧ ∀ y ∈ ys, wf y := by
        intro m
        induction m with
        | zero => exact fun _ => ⟨[], rfl, fun j p hj => by simp at hj, fun y hy => by simp at hy⟩
        | succ m ih =>
          intro hm'
          obtain ⟨ys, h1, h2, h3⟩ := ih (by omega)
          obtain ⟨y, hy, hw⟩ := hel m (by omega)
          refine ⟨ys ++ [y], by simp [h1], fun j p hj => ?_, fun z hz => ?_⟩
          · by_cases hjm : j < m
            · rw [List.getElem?_append_left (by omega)] at hj; exact h2 j p hj
            · have hjl : j < (ys ++ [y]).length := (List.getElem?_eq_some_iff.1 hj).1
              have : j = m := by simp [h1] at hjl; omega
              subst this
              rw [List.getElem?_append_right (by omega)] at hj
              simp [h1] at hj
              subst hj; exact hy
          · rcases List.mem_append.1 hz with hz | hz
            · exact h3 z hz
            · rw [List.mem_singleton.1 hz]; exact hw
      obtain ⟨ys, h1, h2, h3⟩ := key len (Nat.le_refl _)
      have hmx : len ≤ 9223372036854775807 := by unfold maxLen at hm; omega
      subst h1
      exact ⟨ys, ⟨some a, cap, rfl, hl, rfl, hmx, fun _ => ⟨a, rfl, h2⟩⟩, hmx, h3⟩⟩
theorem OpensF.last {α : Type} {d : Kd α} {wf : α → Prop} {f : Field} {off : Nat} (h : Opens P f.type d wf) (ho : f.offset = off) : OpensF P [f] off d wf :=
  ⟨fun {H enc w base spare held cs} hl hf => by
    obtain ⟨n, x, hx⟩ := hf f (by simp)
    obtain ⟨y, hk, hw⟩ := h.op hx
    have hc : (cs.drop f.offset).take (P.cellsOf f.type) = cs.drop off := by
      rw [ho, ← h.sz]
      exact List.take_of_length_le (by rw [List.length_drop]; omega)
    rw [hc] at hk
    exact ⟨y, hk, hw⟩⟩
theorem OpensF.cons {α β : Type} {d : Kd α} {wf : α → Prop} {b : Kd β} {wb : β → Prop} {f : Field} {fs : List Field} {off off' : Nat} (h : Opens P f.type d wf) (ho : f.offset = off) (ho' : off + P.cellsOf f.type = off') (hs : OpensF P fs off' b wb) :
    OpensF P (f :: fs) off (Kd.pair d b) (WfP wf wb) :=
  ⟨fun {H enc w base spare held cs} hl hf => by
    obtain ⟨n, x, hx⟩ := hf f (by simp)
    obtain ⟨y, hk, hw⟩ := h.op hx
    have hl' : cs.length = off + (d.sz + b.sz) := hl
    obtain ⟨z, hz, hwz⟩ := hs.op (enc := enc) (w := w) (base := base) (spare := spare) (held := held) (cs := cs) (by rw [← ho', ← h.sz]; omega) (fun g hg => hf g (by simp [hg]))
    rw [ho] at hk
    refine ⟨(y, z), ⟨_, _, ?_, hk, hz⟩, hw, hwz⟩
    rw [← ho', ← List.drop_drop, List.take_append_drop]⟩
theorem Opens.struct {α : Type} {d : Kd α} {wf : α → Prop} {fs : Array Field} (ht : P.underlying t = some (.struct fs)) (hc : P.cellsOf t = d.sz) (h : OpensF P fs.toList 0 d wf) : Opens P t d wf :=
  ⟨hc.symm, fun {H enc w base spare held fuel cs x} hx => by
    obtain ⟨xs, n, _, _, hl, hlen, hg⟩ := DataW.trod_struct ht hx
    obtain ⟨y, hk, hw⟩ := h.op (enc := enc) (w := w) (base := base) (spare := spare) (held := held) (cs := cs) (by rw [hl, hc]; omega) (fun f hf => by
      obtain ⟨i, hi, rfl⟩ := List.getElem_of_mem hf
      have h1 := hg i (fs.toList[i]) (by simp at hi; simp [hi])
      rw [List.getElem?_eq_getElem (by rw [hlen]; simpa using hi)] at h1
      exact ⟨_, _, h1⟩)
    rw [List.drop_zero] at hk
    exact ⟨y, hk, hw⟩⟩
theorem Opens.iso {α β : Type} {d : Kd α} {wf : α → Prop} (f : β → α) (g : α → β) (hfg : ∀ y, f (g y) = y) (h : Opens P t d wf) : Opens P t (Kd.iso d f) (fun x => wf (f x)) :=
  ⟨h.sz, fun hx => by
    obtain ⟨y, hk, hw⟩ := h.op hx
    refine ⟨g y, ?_, ?_⟩
    · show d.K _ (f (g y)) _
      rw [hfg]; exact hk
    · show wf (f (g y))
      rw [hfg]; exact hw⟩
end
end Go.Proofs.YtenlmckahaniiaaW.PrintWords
end
section
namespace Go.Proofs.Ytenlmckahaniiaa.K
open Go.RowKit Go.Proofs.YtenlmckahaniiaaW.PrintWords Go.Proofs.YtenlmckahaniiaaW.PrintLast
def wf62 : S62 → Prop := fun x => (WfP WfS (WfP (WfI .i64) (WfP (WfI .i64) WfB))) (x.f0, x.f1, x.f2, x.f3)
theorem opens62 : Opens Try.prog 62 k62 wf62 := Opens.iso (fun x : S62 => (x.f0, x.f1, x.f2, x.f3)) (fun y => ⟨y.1, y.2.1, y.2.2.1, y.2.2.2⟩) (fun _ => rfl) (Opens.struct (d := (Kd.pair Kd.string (Kd.pair (Kd.int .i64) (Kd.pair (Kd.int .i64) Kd.bool)))) (wf := (WfP WfS (WfP (WfI .i64) (WfP (WfI .i64) WfB)))) Try.underlying62 (by kernel_rfl) (OpensF.cons (off := 0) (off' := 1) (Opens.string Try.underlying9 (by kernel_rfl)) rfl (by kernel_rfl) (OpensF.cons (off := 1) (off' := 2) (Opens.int Try.underlying3 (by kernel_rfl)) rfl (by kernel_rfl) (OpensF.cons (off := 2) (off' := 3) (Opens.int Try.underlying3 (by kernel_rfl)) rfl (by kernel_rfl) (OpensF.last (off := 3) (Opens.bool Try.underlying4 (by kernel_rfl)) rfl)))))
def wf43 : S43 → Prop := fun x => (WfP (WfI .i64) (WfP (WfI .i64) (WfP (WfI .i64) (WfP WfS WfB)))) (x.f0, x.f1, x.f2, x.f3, x.f4)
theorem opens43 : Opens Try.prog 43 k43 wf43 := Opens.iso (fun x : S43 => (x.f0, x.f1, x.f2, x.f3, x.f4)) (fun y => ⟨y.1, y.2.1, y.2.2.1, y.2.2.2.1, y.2.2.2.2⟩) (fun _ => rfl) (Opens.struct (d := (Kd.pair (Kd.int .i64) (Kd.pair (Kd.int .i64) (Kd.pair (Kd.int .i64) (Kd.pair Kd.string Kd.bool))))) (wf := (WfP (WfI .i64) (WfP (WfI .i64) (WfP (WfI .i64) (WfP WfS WfB))))) Try.underlying43 (by kernel_rfl) (OpensF.cons (off := 0) (off' := 1) (Opens.int Try.underlying3 (by kernel_rfl)) rfl (by kernel_rfl) (OpensF.cons (off := 1) (off' := 2) (Opens.int Try.underlying3 (by kernel_rfl)) rfl (by kernel_rfl) (OpensF.cons (off := 2) (off' := 3) (Opens.int Try.underlying3 (by kernel_rfl)) rfl (by kernel_rfl) (OpensF.cons (off := 3) (off' := 4) (Opens.string Try.underlying9 (by kernel_rfl)) rfl (by kernel_rfl) (OpensF.last (off := 4) (Opens.bool Try.underlying4 (by kernel_rfl)) rfl))))))
def wf25 : S25 → Prop := fun x => (WfP WfS (WfP WfS (WfP WfS (WfP (WfI .i64) (WfP (WfL wf62) (WfL wf43)))))) (x.f0, x.f1, x.f2, x.f3, x.f4, x.f5)
theorem opens25 : Opens Try.prog 25 k25 wf25 := Opens.iso (fun x : S25 => (x.f0, x.f1, x.f2, x.f3, x.f4, x.f5)) (fun y => ⟨y.1, y.2.1, y.2.2.1, y.2.2.2.1, y.2.2.2.2.1, y.2.2.2.2.2⟩) (fun _ => rfl) (Opens.struct (d := (Kd.pair Kd.string (Kd.pair Kd.string (Kd.pair Kd.string (Kd.pair (Kd.int .i64) (Kd.pair (Kd.slice 62 k62) (Kd.slice 43 k43))))))) (wf := (WfP WfS (WfP WfS (WfP WfS (WfP (WfI .i64) (WfP (WfL wf62) (WfL wf43))))))) Try.underlying25 (by kernel_rfl) (OpensF.cons (off := 0) (off' := 1) (Opens.string Try.underlying9 (by kernel_rfl)) rfl (by kernel_rfl) (OpensF.cons (off := 1) (off' := 2) (Opens.string Try.underlying9 (by kernel_rfl)) rfl (by kernel_rfl) (OpensF.cons (off := 2) (off' := 3) (Opens.string Try.underlying9 (by kernel_rfl)) rfl (by kernel_rfl) (OpensF.cons (off := 3) (off' := 4) (Opens.int Try.underlying3 (by kernel_rfl)) rfl (by kernel_rfl) (OpensF.cons (off := 4) (off' := 5) (Opens.slice Try.underlying22 (by kernel_rfl) opens62) rfl (by kernel_rfl) (OpensF.last (off := 5) (Opens.slice Try.underlying23 (by kernel_rfl) opens43) rfl)))))))
end Go.Proofs.Ytenlmckahaniiaa.K
end
section
namespace Go.Proofs.Ytenlmckahaniiaa.K
open Go.RowKit Go.Proofs.YtenlmckahaniiaaW.PrintWords Go.Proofs.YtenlmckahaniiaaW.PrintLast
mutual
def zql.l0 : Nat → List (S25) → Int → Option (Bool)
  | 0, _, _ => none
  | k + 1, x0, x3 => if x3 < (x0.length : Int) then (if 0 ≤ x3 then (if (((y0q x0 x3).f0).size : Int) > 100 then (zql.j1 k x0 x3 true ((y0q x0 x3).f0) ((y0q x0 x3).f1) ((y0q x0 x3).f2) ((y0q x0 x3).f3) ((y0q x0 x3).f4) ((y0q x0 x3).f5)) else (if (((y0q x0 x3).f1).size : Int) > 600 then (zql.j1 k x0 x3 true ((y0q x0 x3).f0) ((y0q x0 x3).f1) ((y0q x0 x3).f2) ((y0q x0 x3).f3) ((y0q x0 x3).f4) ((y0q x0 x3).f5)) else (if (((y0q x0 x3).f2).size : Int) > 600 then (zql.j1 k x0 x3 true ((y0q x0 x3).f0) ((y0q x0 x3).f1) ((y0q x0 x3).f2) ((y0q x0 x3).f3) ((y0q x0 x3).f4) ((y0q x0 x3).f5)) else (if (((y0q x0 x3).f4).length : Int) > 40 then (zql.j1 k x0 x3 true ((y0q x0 x3).f0) ((y0q x0 x3).f1) ((y0q x0 x3).f2) ((y0q x0 x3).f3) ((y0q x0 x3).f4) ((y0q x0 x3).f5)) else (zql.j1 k x0 x3 (decide ((((y0q x0 x3).f5).length : Int) > 40)) ((y0q x0 x3).f0) ((y0q x0 x3).f1) ((y0q x0 x3).f2) ((y0q x0 x3).f3) ((y0q x0 x3).f4) ((y0q x0 x3).f5)))))) else (none)) else (some false)
def zql.j1 : Nat → List (S25) → Int → Bool → ByteArray → ByteArray → ByteArray → Int → List (S62) → List (S43) → Option (Bool)
  | 0, _, _, _, _, _, _, _, _, _ => none
  | k + 1, x0, x3, x47, x698000, x698001, x698002, x698003, x698004, x698005 => if x47 = true then (some true) else (zql.l1 k x0 x3 0 x698000 x698001 x698002 x698003 x698004 x698005)
def zql.l1 : Nat → List (S25) → Int → Int → ByteArray → ByteArray → ByteArray → Int → List (S62) → List (S43) → Option (Bool)
  | 0, _, _, _, _, _, _, _, _, _ => none
  | k + 1, x0, x3, x5, x698000, x698001, x698002, x698003, x698004, x698005 => if x5 < (x698004.length : Int) then (if 0 ≤ x5 then (if (((y0s x698004 x5).f0).size : Int) > 100 then (some true) else (zql.l1 k x0 x3 (wrap64 (x5 + 1)) x698000 x698001 x698002 x698003 x698004 x698005)) else (none)) else (zql.l2 k x0 x3 0 x698000 x698001 x698002 x698003 x698004 x698005)
def zql.l2 : Nat → List (S25) → Int → Int → ByteArray → ByteArray → ByteArray → Int → List (S62) → List (S43) → Option (Bool)
  | 0, _, _, _, _, _, _, _, _, _ => none
  | k + 1, x0, x3, x6, x698000, x698001, x698002, x698003, x698004, x698005 => if x6 < (x698005.length : Int) then (if 0 ≤ x6 then (if (((y0r x698005 x6).f3).size : Int) > 100 then (some true) else (zql.l2 k x0 x3 (wrap64 (x6 + 1)) x698000 x698001 x698002 x698003 x698004 x698005)) else (none)) else (zql.l0 k x0 (wrap64 (x3 + 1)))
end
def zql.f (k : Nat) (l0 : List (S25)) : Option (Bool) := if (l0.length : Int) > 40 then (some true) else (zql.l0 k l0 0)
theorem zql.calls (k : Nat) (A0 : Option Addr) (c0 : Nat) (l0 : List (S25)) (r : Bool) (w : World) (hr0 : Kd.C k25 w A0 l0.length l0) (hc0 : l0.length ≤ c0) (h : zql.f k l0 = some r) :
  Calls Try.prog 31 #[.slice A0 l0.length c0] w fun e w' => e = .returned (.bool r) ∧ Below w.heap.size w w' := by
 have hu25 := Try.underlying25
 have HR0 := q_ hr0
 have HC0 := q_ hc0
 clear hr0 hc0
 have HB := q_ (Below.refl w.heap.size w)
 have H : (if (l0.length : Int) > 40 then (some true) else (zql.l0 k l0 0)) = some r := h
 clear h
 by_cases c2 : (l0.length : Int) > 40
 ·rw [if_pos c2] at H
  have c2b0 : decide (40 < (l0.length : Int)) = true := decide_eq_true c2
  have c2b1 : decide (40 < l0.length) = true := decide_eq_true (by omega)
  clear c2
  obtain rfl := Option.some.inj H
  go_enter Try.func31, Try.ntmps31
  go_wp2
  go_ret
  exact ⟨ew_, hb_⟩
 rw [if_neg c2] at H
 have c2b0 : decide (40 < (l0.length : Int)) = false := decide_eq_false c2
 have c2b1 : decide (40 < l0.length) = false := decide_eq_false (by omega)
 clear c2
 have H' := q_ H
 clear H
 go_enter Try.func31, Try.ntmps31
 go_wp2
 go_loopg [3] k (fun kq v3 w' => ∃ (x3_1 : Int), v3 = .int .i64 x3_1 ∧ Aside0 (zql.l0 kq l0 x3_1 = some r) ∧ Aside0 (kq ≤ k) ∧ Aside0 (Below w.heap.size w w'))
 case atStart => exact ⟨(0), cl_, H', ⟨Nat.le_refl _⟩, ⟨hb_⟩⟩
 case round =>
  clear H'
  clear c2b0; clear c2b1
  obtain ⟨x3_1, rfl, HA, HK1, HB⟩ := hrel
  cases gk with
  | zero => exact absurd HA.out (by simp [zql.l0])
  | succ k1 =>
   have H := HA.out
   clear HA
   simp only [zql.l0] at H
   by_cases c3 : x3_1 < (l0.length : Int)
   rotate_left
   ·rw [if_neg c3] at H
    have c3b0 : decide (x3_1 < (l0.length : Int)) = false := decide_eq_false c3
    clear c3
    obtain rfl := Option.some.inj H
    go_wp2
    go_ret
    exact ⟨ew_, hb_⟩
   rw [if_pos c3] at H
   have c3b0 : decide (x3_1 < (l0.length : Int)) = true := decide_eq_true c3
   clear c3
   by_cases c4 : 0 ≤ x3_1
   rotate_left
   ·rw [if_neg c4] at H
    exact absurd H (by simp)
   rw [if_pos c4] at H
   have c4b0 : decide (0 ≤ x3_1) = true := decide_eq_true c4
   clear c4
   have HC5 := q_ H
   clear H
   have p696 : 0 ≤ (x3_1 : Int) := oa_
   have q696 : x3_1 < (l0.length : Int) := oa_
   obtain ⟨ad696, A696_4, c696_4, A696_5, c696_5, e696, hx696_0, hx696_1, hx696_2, hx696_3, hx696_4, hx696_5, hl696_4, hi696_4, hl696_5, hi696_5⟩ := at_T25 HR0.out x3_1 p696 q696
   cases e696
   replace hx696_0 := cb_ HB.out hx696_0
   replace hx696_1 := cb_ HB.out hx696_1
   replace hx696_2 := cb_ HB.out hx696_2
   replace hx696_3 := cb_ HB.out hx696_3
   replace hx696_4 := cb_ HB.out hx696_4
   replace hx696_5 := cb_ HB.out hx696_5
   have HR696_4 := q_ hi696_4
   have HC696_4 := q_ hl696_4
   clear hi696_4 hl696_4
   have HR696_5 := q_ hi696_5
   have HC696_5 := q_ hl696_5
   clear hi696_5 hl696_5
   replace p696 := eq_true p696
   replace q696 := eq_true q696
   go_upto_region 7 with (first | ((with_reducible refine y0k (N := 4) rfl ?_); (try (refine y0l (by rfl) ?_; dsimp only)); refine y0g ?hg (N := 4) ?hd (cs := #[.string (⟨#[]⟩ : ByteArray), .string (⟨#[]⟩ : ByteArray), .string (⟨#[]⟩ : ByteArray), .int .i64 0, .slice none 0 0, .slice none 0 0]) (t := 25) ?hr ?_; (case hd => rfl); (case hg => rfl); (case hr => first | (go_simp; done) | (go_simp; rfl)); intro gb697 hg w6 hbox hb; have n0_ := q_ (y05 hb_ hb); have n1_ := q_ (hbox); have n2_ := q_ ((by rw [hg]; exact (y04 hb_) : w.heap.size ≤ gb697)); have n3_ := q_ ((by rw [hg]; exact (y04 hb_) : w.heap.size ≤ gb697)); clear HB; have HB := n0_; have BK697 := n1_; have GW697 := n2_; have GE697 := n3_; clear n0_ n1_ n2_ n3_; clear hb hbox hg; obtain ⟨hcz7_0, hfz7_0, hcz7_1, hfz7_1, hcz7_2, hfz7_2, hcz7_3, hfz7_3, hcz7_4, hfz7_4, hcz7_5, hfz7_5⟩ := b6_ BK697.out))
   (try simp only [Act.put, List.setIfInBounds_toArray, List.set_cons_zero, List.set_cons_succ])
   go_cut [47] (fun v47 wc => ∃ (kq : Nat) (x47_4 : Bool), v47 = .bool x47_4 ∧ Aside0 (zql.j1 kq l0 x3_1 x47_4 ((y0q l0 x3_1).f0) ((y0q l0 x3_1).f1) ((y0q l0 x3_1).f2) ((y0q l0 x3_1).f3) ((y0q l0 x3_1).f4) ((y0q l0 x3_1).f5) = some r) ∧ Aside0 (kq ≤ k1) ∧ Aside0 (wc.heap[gb697]? = some (.cells #[.string ((y0q l0 x3_1).f0), .string ((y0q l0 x3_1).f1), .string ((y0q l0 x3_1).f2), .int .i64 ((y0q l0 x3_1).f3), (.slice A696_4 ((y0q l0 x3_1).f4).length c696_4), (.slice A696_5 ((y0q l0 x3_1).f5).length c696_5)] 25 (0, 0))) ∧ Aside0 (Below w.heap.size w wc))
   case first =>
    have H := HC5.out
    clear HC5
    by_cases c8 : (((y0q l0 x3_1).f0).size : Int) > 100
    ·rw [if_pos c8] at H
     have c8b0 : decide (100 < (((y0q l0 x3_1).f0).size : Int)) = true := decide_eq_true c8
     have c8b1 : decide (100 < ((y0q l0 x3_1).f0).size) = true := decide_eq_true (by omega)
     clear c8
     (first | rw [c8b0] | (simp only [i64_w, i32_w]; rw [c8b0]) | skip)
     have H' := q_ H
     clear H
     obtain ⟨hcz9_0, hfz9_0, hcz9_1, hfz9_1, hcz9_2, hfz9_2, hcz9_3, hfz9_3, hcz9_4, hfz9_4, hcz9_5, hfz9_5⟩ := b6_ BK697.out
     go_wp2
     go_meet
     case rel => exact ⟨_, (true), cl_, H', ⟨by have := HK1.out; first | omega | exact Nat.le_refl _⟩, ⟨by (with_reducible repeat (first | refine y0a ?_ _ | refine y09 ?_ | refine y06 ?_ _)); refine y0f (cs := #[.string ((y0q l0 x3_1).f0), .string ((y0q l0 x3_1).f1), .string ((y0q l0 x3_1).f2), .int .i64 ((y0q l0 x3_1).f3), .slice A696_4 ((y0q l0 x3_1).f4).length c696_4, .slice none 0 0]) ?_ 5 _ rfl; (with_reducible repeat (first | refine y0a ?_ _ | refine y09 ?_ | refine y06 ?_ _)); refine y0f (cs := #[.string ((y0q l0 x3_1).f0), .string ((y0q l0 x3_1).f1), .string ((y0q l0 x3_1).f2), .int .i64 ((y0q l0 x3_1).f3), .slice none 0 0, .slice none 0 0]) ?_ 4 _ rfl; (with_reducible repeat (first | refine y0a ?_ _ | refine y09 ?_ | refine y06 ?_ _)); refine y0f (cs := #[.string ((y0q l0 x3_1).f0), .string ((y0q l0 x3_1).f1), .string ((y0q l0 x3_1).f2), .int .i64 0, .slice none 0 0, .slice none 0 0]) ?_ 3 _ rfl; (with_reducible repeat (first | refine y0a ?_ _ | refine y09 ?_ | refine y06 ?_ _)); refine y0f (cs := #[.string ((y0q l0 x3_1).f0), .string ((y0q l0 x3_1).f1), .string (⟨#[]⟩ : ByteArray), .int .i64 0, .slice none 0 0, .slice none 0 0]) ?_ 2 _ rfl; (with_reducible repeat (first | refine y0a ?_ _ | refine y09 ?_ | refine y06 ?_ _)); refine y0f (cs := #[.string ((y0q l0 x3_1).f0), .string (⟨#[]⟩ : ByteArray), .string (⟨#[]⟩ : ByteArray), .int .i64 0, .slice none 0 0, .slice none 0 0]) ?_ 1 _ rfl; (with_reducible repeat (first | refine y0a ?_ _ | refine y09 ?_ | refine y06 ?_ _)); refine y0f (cs := #[.string (⟨#[]⟩ : ByteArray), .string (⟨#[]⟩ : ByteArray), .string (⟨#[]⟩ : ByteArray), .int .i64 0, .slice none 0 0, .slice none 0 0]) ?_ 0 _ rfl; exact bk_ BK697.out⟩, ⟨hb_⟩⟩
    rw [if_neg c8] at H
    have c8b0 : decide (100 < (((y0q l0 x3_1).f0).size : Int)) = false := decide_eq_false c8
    have c8b1 : decide (100 < ((y0q l0 x3_1).f0).size) = false := decide_eq_false (by omega)
    clear c8
    (first | rw [c8b0] | (simp only [i64_w, i32_w]; rw [c8b0]) | skip)
    by_cases c10 : (((y0q l0 x3_1).f1).size : Int) > 600
    ·rw [if_pos c10] at H
     have c10b0 : decide (600 < (((y0q l0 x3_1).f1).size : Int)) = true := decide_eq_true c10
     have c10b1 : decide (600 < ((y0q l0 x3_1).f1).size) = true := decide_eq_true (by omega)
     clear c10
     have H' := q_ H
     clear H
     obtain ⟨hcz11_0, hfz11_0, hcz11_1, hfz11_1, hcz11_2, hfz11_2, hcz11_3, hfz11_3, hcz11_4, hfz11_4, hcz11_5, hfz11_5⟩ := b6_ BK697.out
     go_wp2
     go_meet
     case rel => exact ⟨_, (true), cl_, H', ⟨by have := HK1.out; first | omega | exact Nat.le_refl _⟩, ⟨by (with_reducible repeat (first | refine y0a ?_ _ | refine y09 ?_ | refine y06 ?_ _)); refine y0f (cs := #[.string ((y0q l0 x3_1).f0), .string ((y0q l0 x3_1).f1), .string ((y0q l0 x3_1).f2), .int .i64 ((y0q l0 x3_1).f3), .slice A696_4 ((y0q l0 x3_1).f4).length c696_4, .slice none 0 0]) ?_ 5 _ rfl; (with_reducible repeat (first | refine y0a ?_ _ | refine y09 ?_ | refine y06 ?_ _)); refine y0f (cs := #[.string ((y0q l0 x3_1).f0), .string ((y0q l0 x3_1).f1), .string ((y0q l0 x3_1).f2), .int .i64 ((y0q l0 x3_1).f3), .slice none 0 0, .slice none 0 0]) ?_ 4 _ rfl; (with_reducible repeat (first | refine y0a ?_ _ | refine y09 ?_ | refine y06 ?_ _)); refine y0f (cs := #[.string ((y0q l0 x3_1).f0), .string ((y0q l0 x3_1).f1), .string ((y0q l0 x3_1).f2), .int .i64 0, .slice none 0 0, .slice none 0 0]) ?_ 3 _ rfl; (with_reducible repeat (first | refine y0a ?_ _ | refine y09 ?_ | refine y06 ?_ _)); refine y0f (cs := #[.string ((y0q l0 x3_1).f0), .string ((y0q l0 x3_1).f1), .string (⟨#[]⟩ : ByteArray), .int .i64 0, .slice none 0 0, .slice none 0 0]) ?_ 2 _ rfl; (with_reducible repeat (first | refine y0a ?_ _ | refine y09 ?_ | refine y06 ?_ _)); refine y0f (cs := #[.string ((y0q l0 x3_1).f0), .string (⟨#[]⟩ : ByteArray), .string (⟨#[]⟩ : ByteArray), .int .i64 0, .slice none 0 0, .slice none 0 0]) ?_ 1 _ rfl; (with_reducible repeat (first | refine y0a ?_ _ | refine y09 ?_ | refine y06 ?_ _)); refine y0f (cs := #[.string (⟨#[]⟩ : ByteArray), .string (⟨#[]⟩ : ByteArray), .string (⟨#[]⟩ : ByteArray), .int .i64 0, .slice none 0 0, .slice none 0 0]) ?_ 0 _ rfl; exact bk_ BK697.out⟩, ⟨hb_⟩⟩
    rw [if_neg c10] at H
    have c10b0 : decide (600 < (((y0q l0 x3_1).f1).size : Int)) = false := decide_eq_false c10
    have c10b1 : decide (600 < ((y0q l0 x3_1).f1).size) = false := decide_eq_false (by omega)
    clear c10
    by_cases c12 : (((y0q l0 x3_1).f2).size : Int) > 600
    ·rw [if_pos c12] at H
     have c12b0 : decide (600 < (((y0q l0 x3_1).f2).size : Int)) = true := decide_eq_true c12
     have c12b1 : decide (600 < ((y0q l0 x3_1).f2).size) = true := decide_eq_true (by omega)
     clear c12
     have H' := q_ H
     clear H
     obtain ⟨hcz13_0, hfz13_0, hcz13_1, hfz13_1, hcz13_2, hfz13_2, hcz13_3, hfz13_3, hcz13_4, hfz13_4, hcz13_5, hfz13_5⟩ := b6_ BK697.out
     go_wp2
     go_meet
     case rel => exact ⟨_, (true), cl_, H', ⟨by have := HK1.out; first | omega | exact Nat.le_refl _⟩, ⟨by (with_reducible repeat (first | refine y0a ?_ _ | refine y09 ?_ | refine y06 ?_ _)); refine y0f (cs := #[.string ((y0q l0 x3_1).f0), .string ((y0q l0 x3_1).f1), .string ((y0q l0 x3_1).f2), .int .i64 ((y0q l0 x3_1).f3), .slice A696_4 ((y0q l0 x3_1).f4).length c696_4, .slice none 0 0]) ?_ 5 _ rfl; (with_reducible repeat (first | refine y0a ?_ _ | refine y09 ?_ | refine y06 ?_ _)); refine y0f (cs := #[.string ((y0q l0 x3_1).f0), .string ((y0q l0 x3_1).f1), .string ((y0q l0 x3_1).f2), .int .i64 ((y0q l0 x3_1).f3), .slice none 0 0, .slice none 0 0]) ?_ 4 _ rfl; (with_reducible repeat (first | refine y0a ?_ _ | refine y09 ?_ | refine y06 ?_ _)); refine y0f (cs := #[.string ((y0q l0 x3_1).f0), .string ((y0q l0 x3_1).f1), .string ((y0q l0 x3_1).f2), .int .i64 0, .slice none 0 0, .slice none 0 0]) ?_ 3 _ rfl; (with_reducible repeat (first | refine y0a ?_ _ | refine y09 ?_ | refine y06 ?_ _)); refine y0f (cs := #[.string ((y0q l0 x3_1).f0), .string ((y0q l0 x3_1).f1), .string (⟨#[]⟩ : ByteArray), .int .i64 0, .slice none 0 0, .slice none 0 0]) ?_ 2 _ rfl; (with_reducible repeat (first | refine y0a ?_ _ | refine y09 ?_ | refine y06 ?_ _)); refine y0f (cs := #[.string ((y0q l0 x3_1).f0), .string (⟨#[]⟩ : ByteArray), .string (⟨#[]⟩ : ByteArray), .int .i64 0, .slice none 0 0, .slice none 0 0]) ?_ 1 _ rfl; (with_reducible repeat (first | refine y0a ?_ _ | refine y09 ?_ | refine y06 ?_ _)); refine y0f (cs := #[.string (⟨#[]⟩ : ByteArray), .string (⟨#[]⟩ : ByteArray), .string (⟨#[]⟩ : ByteArray), .int .i64 0, .slice none 0 0, .slice none 0 0]) ?_ 0 _ rfl; exact bk_ BK697.out⟩, ⟨hb_⟩⟩
    rw [if_neg c12] at H
    have c12b0 : decide (600 < (((y0q l0 x3_1).f2).size : Int)) = false := decide_eq_false c12
    have c12b1 : decide (600 < ((y0q l0 x3_1).f2).size) = false := decide_eq_false (by omega)
    clear c12
    by_cases c14 : (((y0q l0 x3_1).f4).length : Int) > 40
    ·rw [if_pos c14] at H
     have c14b0 : decide (40 < (((y0q l0 x3_1).f4).length : Int)) = true := decide_eq_true c14
     have c14b1 : decide (40 < ((y0q l0 x3_1).f4).length) = true := decide_eq_true (by omega)
     clear c14
     have H' := q_ H
     clear H
     obtain ⟨hcz15_0, hfz15_0, hcz15_1, hfz15_1, hcz15_2, hfz15_2, hcz15_3, hfz15_3, hcz15_4, hfz15_4, hcz15_5, hfz15_5⟩ := b6_ BK697.out
     go_wp2
     go_meet
     case rel => exact ⟨_, (true), cl_, H', ⟨by have := HK1.out; first | omega | exact Nat.le_refl _⟩, ⟨by (with_reducible repeat (first | refine y0a ?_ _ | refine y09 ?_ | refine y06 ?_ _)); refine y0f (cs := #[.string ((y0q l0 x3_1).f0), .string ((y0q l0 x3_1).f1), .string ((y0q l0 x3_1).f2), .int .i64 ((y0q l0 x3_1).f3), .slice A696_4 ((y0q l0 x3_1).f4).length c696_4, .slice none 0 0]) ?_ 5 _ rfl; (with_reducible repeat (first | refine y0a ?_ _ | refine y09 ?_ | refine y06 ?_ _)); refine y0f (cs := #[.string ((y0q l0 x3_1).f0), .string ((y0q l0 x3_1).f1), .string ((y0q l0 x3_1).f2), .int .i64 ((y0q l0 x3_1).f3), .slice none 0 0, .slice none 0 0]) ?_ 4 _ rfl; (with_reducible repeat (first | refine y0a ?_ _ | refine y09 ?_ | refine y06 ?_ _)); refine y0f (cs := #[.string ((y0q l0 x3_1).f0), .string ((y0q l0 x3_1).f1), .string ((y0q l0 x3_1).f2), .int .i64 0, .slice none 0 0, .slice none 0 0]) ?_ 3 _ rfl; (with_reducible repeat (first | refine y0a ?_ _ | refine y09 ?_ | refine y06 ?_ _)); refine y0f (cs := #[.string ((y0q l0 x3_1).f0), .string ((y0q l0 x3_1).f1), .string (⟨#[]⟩ : ByteArray), .int .i64 0, .slice none 0 0, .slice none 0 0]) ?_ 2 _ rfl; (with_reducible repeat (first | refine y0a ?_ _ | refine y09 ?_ | refine y06 ?_ _)); refine y0f (cs := #[.string ((y0q l0 x3_1).f0), .string (⟨#[]⟩ : ByteArray), .string (⟨#[]⟩ : ByteArray), .int .i64 0, .slice none 0 0, .slice none 0 0]) ?_ 1 _ rfl; (with_reducible repeat (first | refine y0a ?_ _ | refine y09 ?_ | refine y06 ?_ _)); refine y0f (cs := #[.string (⟨#[]⟩ : ByteArray), .string (⟨#[]⟩ : ByteArray), .string (⟨#[]⟩ : ByteArray), .int .i64 0, .slice none 0 0, .slice none 0 0]) ?_ 0 _ rfl; exact bk_ BK697.out⟩, ⟨hb_⟩⟩
    rw [if_neg c14] at H
    have c14b0 : decide (40 < (((y0q l0 x3_1).f4).length : Int)) = false := decide_eq_false c14
    have c14b1 : decide (40 < ((y0q l0 x3_1).f4).length) = false := decide_eq_false (by omega)
    clear c14
    have H' := q_ H
    clear H
    obtain ⟨hcz16_0, hfz16_0, hcz16_1, hfz16_1, hcz16_2, hfz16_2, hcz16_3, hfz16_3, hcz16_4, hfz16_4, hcz16_5, hfz16_5⟩ := b6_ BK697.out
    go_wp2
    go_meet
    case rel => exact ⟨_, (decide ((((y0q l0 x3_1).f5).length : Int) > 40)), cl_, H', ⟨by have := HK1.out; first | omega | exact Nat.le_refl _⟩, ⟨by (with_reducible repeat (first | refine y0a ?_ _ | refine y09 ?_ | refine y06 ?_ _)); refine y0f (cs := #[.string ((y0q l0 x3_1).f0), .string ((y0q l0 x3_1).f1), .string ((y0q l0 x3_1).f2), .int .i64 ((y0q l0 x3_1).f3), .slice A696_4 ((y0q l0 x3_1).f4).length c696_4, .slice none 0 0]) ?_ 5 _ rfl; (with_reducible repeat (first | refine y0a ?_ _ | refine y09 ?_ | refine y06 ?_ _)); refine y0f (cs := #[.string ((y0q l0 x3_1).f0), .string ((y0q l0 x3_1).f1), .string ((y0q l0 x3_1).f2), .int .i64 ((y0q l0 x3_1).f3), .slice none 0 0, .slice none 0 0]) ?_ 4 _ rfl; (with_reducible repeat (first | refine y0a ?_ _ | refine y09 ?_ | refine y06 ?_ _)); refine y0f (cs := #[.string ((y0q l0 x3_1).f0), .string ((y0q l0 x3_1).f1), .string ((y0q l0 x3_1).f2), .int .i64 0, .slice none 0 0, .slice none 0 0]) ?_ 3 _ rfl; (with_reducible repeat (first | refine y0a ?_ _ | refine y09 ?_ | refine y06 ?_ _)); refine y0f (cs := #[.string ((y0q l0 x3_1).f0), .string ((y0q l0 x3_1).f1), .string (⟨#[]⟩ : ByteArray), .int .i64 0, .slice none 0 0, .slice none 0 0]) ?_ 2 _ rfl; (with_reducible repeat (first | refine y0a ?_ _ | refine y09 ?_ | refine y06 ?_ _)); refine y0f (cs := #[.string ((y0q l0 x3_1).f0), .string (⟨#[]⟩ : ByteArray), .string (⟨#[]⟩ : ByteArray), .int .i64 0, .slice none 0 0, .slice none 0 0]) ?_ 1 _ rfl; (with_reducible repeat (first | refine y0a ?_ _ | refine y09 ?_ | refine y06 ?_ _)); refine y0f (cs := #[.string (⟨#[]⟩ : ByteArray), .string (⟨#[]⟩ : ByteArray), .string (⟨#[]⟩ : ByteArray), .int .i64 0, .slice none 0 0, .slice none 0 0]) ?_ 0 _ rfl; exact bk_ BK697.out⟩, ⟨hb_⟩⟩
   case rest =>
    clear HC5
    clear c3b0; clear c4b0; clear hcz7_0; clear hcz7_1; clear hcz7_2; clear hcz7_3; clear hcz7_4; clear hcz7_5; clear hfz7_0; clear hfz7_1; clear hfz7_2; clear hfz7_3; clear hfz7_4; clear hfz7_5; clear hx696_0; clear hx696_1; clear hx696_2; clear hx696_3; clear hx696_4; clear hx696_5; clear p696; clear q696
    obtain ⟨kq, x47_4, rfl, HA, HJ4, BK697, HB⟩ := hcut
    cases kq with
    | zero => exact absurd HA.out (by simp [zql.j1])
    | succ kj4 =>
     have H := HA.out
     clear HA
     simp only [zql.j1] at H
     by_cases c17 : x47_4 = true
     ·subst c17
      rw [if_pos rfl] at H
      obtain rfl := Option.some.inj H
      go_wp2
      go_ret
      exact ⟨ew_, hb_⟩
     replace c17 := Bool.eq_false_iff.mpr c17
     subst c17
     rw [if_neg (show ¬ (false = true) by decide)] at H
     have H' := q_ H
     clear H
     go_wp2
     go_loopg [5] kj4 (fun kq v5 w' => ∃ (x5_3 : Int), v5 = .int .i64 x5_3 ∧ Aside0 (zql.l1 kq l0 x3_1 x5_3 ((y0q l0 x3_1).f0) ((y0q l0 x3_1).f1) ((y0q l0 x3_1).f2) ((y0q l0 x3_1).f3) ((y0q l0 x3_1).f4) ((y0q l0 x3_1).f5) = some r) ∧ Aside0 (kq ≤ kj4) ∧ Aside0 (w'.heap[gb697]? = some (.cells #[.string ((y0q l0 x3_1).f0), .string ((y0q l0 x3_1).f1), .string ((y0q l0 x3_1).f2), .int .i64 ((y0q l0 x3_1).f3), (.slice A696_4 ((y0q l0 x3_1).f4).length c696_4), (.slice A696_5 ((y0q l0 x3_1).f5).length c696_5)] 25 (0, 0))) ∧ Aside0 (Below w.heap.size w w'))
     case atStart => exact ⟨(0), cl_, H', ⟨Nat.le_refl _⟩, ⟨bk_ BK697.out⟩, ⟨hb_⟩⟩
     case round =>
      clear H'
      obtain ⟨x5_3, rfl, HA, HK3, BK697, HB⟩ := hrel
      cases gk with
      | zero => exact absurd HA.out (by simp [zql.l1])
      | succ k3 =>
       have H := HA.out
       clear HA
       simp only [zql.l1] at H
       by_cases c18 : x5_3 < (((y0q l0 x3_1).f4).length : Int)
       ·rw [if_pos c18] at H
        have c18b0 : decide (x5_3 < (((y0q l0 x3_1).f4).length : Int)) = true := decide_eq_true c18
        clear c18
        by_cases c19 : 0 ≤ x5_3
        rotate_left
        ·rw [if_neg c19] at H
         exact absurd H (by simp)
        rw [if_pos c19] at H
        have c19b0 : decide (0 ≤ x5_3) = true := decide_eq_true c19
        clear c19
        by_cases c20 : (((y0s ((y0q l0 x3_1).f4) x5_3).f0).size : Int) > 100
        ·rw [if_pos c20] at H
         have c20b0 : decide (100 < (((y0s ((y0q l0 x3_1).f4) x5_3).f0).size : Int)) = true := decide_eq_true c20
         have c20b1 : decide (100 < ((y0s ((y0q l0 x3_1).f4) x5_3).f0).size) = true := decide_eq_true (by omega)
         clear c20
         obtain rfl := Option.some.inj H
         obtain ⟨hcz21_0, hfz21_0, hcz21_1, hfz21_1, hcz21_2, hfz21_2, hcz21_3, hfz21_3, hcz21_4, hfz21_4, hcz21_5, hfz21_5⟩ := b6_ BK697.out
         have p698 : 0 ≤ (x5_3 : Int) := oa_
         have q698 : x5_3 < (((y0q l0 x3_1).f4).length : Int) := oa_
         obtain ⟨ad698, e698, hx698_0, hx698_1, hx698_2, hx698_3⟩ := at_T62 HR696_4.out x5_3 p698 q698
         cases e698
         replace hx698_0 := cb_ HB.out hx698_0
         replace hx698_1 := cb_ HB.out hx698_1
         replace hx698_2 := cb_ HB.out hx698_2
         replace hx698_3 := cb_ HB.out hx698_3
         replace p698 := eq_true p698
         replace q698 := eq_true q698
         go_wp2
         go_ret
         exact ⟨ew_, hb_⟩
        rw [if_neg c20] at H
        have c20b0 : decide (100 < (((y0s ((y0q l0 x3_1).f4) x5_3).f0).size : Int)) = false := decide_eq_false c20
        have c20b1 : decide (100 < ((y0s ((y0q l0 x3_1).f4) x5_3).f0).size) = false := decide_eq_false (by omega)
        clear c20
        have H' := q_ H
        clear H
        obtain ⟨hcz22_0, hfz22_0, hcz22_1, hfz22_1, hcz22_2, hfz22_2, hcz22_3, hfz22_3, hcz22_4, hfz22_4, hcz22_5, hfz22_5⟩ := b6_ BK697.out
        have p698 : 0 ≤ (x5_3 : Int) := oa_
        have q698 : x5_3 < (((y0q l0 x3_1).f4).length : Int) := oa_
        obtain ⟨ad698, e698, hx698_0, hx698_1, hx698_2, hx698_3⟩ := at_T62 HR696_4.out x5_3 p698 q698
        cases e698
        replace hx698_0 := cb_ HB.out hx698_0
        replace hx698_1 := cb_ HB.out hx698_1
        replace hx698_2 := cb_ HB.out hx698_2
        replace hx698_3 := cb_ HB.out hx698_3
        replace p698 := eq_true p698
        replace q698 := eq_true q698
        go_wp2
        go_roundg k3
        case measure => have := HK1.out; have := HJ4.out; have := HK3.out; omega
        case rel => exact ⟨(wrap64 (x5_3 + 1)), cl_, H', ⟨by have := HK1.out; have := HJ4.out; have := HK3.out; omega⟩, ⟨bk_ BK697.out⟩, ⟨hb_⟩⟩
       rw [if_neg c18] at H
       have c18b0 : decide (x5_3 < (((y0q l0 x3_1).f4).length : Int)) = false := decide_eq_false c18
       clear c18
       have H' := q_ H
       clear H
       obtain ⟨hcz23_0, hfz23_0, hcz23_1, hfz23_1, hcz23_2, hfz23_2, hcz23_3, hfz23_3, hcz23_4, hfz23_4, hcz23_5, hfz23_5⟩ := b6_ BK697.out
       go_wp2
       go_loopg [6] k3 (fun kq v6 w' => ∃ (x6_4 : Int), v6 = .int .i64 x6_4 ∧ Aside0 (zql.l2 kq l0 x3_1 x6_4 ((y0q l0 x3_1).f0) ((y0q l0 x3_1).f1) ((y0q l0 x3_1).f2) ((y0q l0 x3_1).f3) ((y0q l0 x3_1).f4) ((y0q l0 x3_1).f5) = some r) ∧ Aside0 (kq ≤ k3) ∧ Aside0 (w'.heap[gb697]? = some (.cells #[.string ((y0q l0 x3_1).f0), .string ((y0q l0 x3_1).f1), .string ((y0q l0 x3_1).f2), .int .i64 ((y0q l0 x3_1).f3), (.slice A696_4 ((y0q l0 x3_1).f4).length c696_4), (.slice A696_5 ((y0q l0 x3_1).f5).length c696_5)] 25 (0, 0))) ∧ Aside0 (Below w.heap.size w w'))
       case atStart => exact ⟨(0), cl_, H', ⟨Nat.le_refl _⟩, ⟨bk_ BK697.out⟩, ⟨hb_⟩⟩
       case round =>
        clear H'
        clear c18b0; clear hcz23_0; clear hcz23_1; clear hcz23_2; clear hcz23_3; clear hcz23_4; clear hcz23_5; clear hfz23_0; clear hfz23_1; clear hfz23_2; clear hfz23_3; clear hfz23_4; clear hfz23_5
        obtain ⟨x6_4, rfl, HA, HK4, BK697, HB⟩ := hrel
        cases gk with
        | zero => exact absurd HA.out (by simp [zql.l2])
        | succ k4 =>
         have H := HA.out
         clear HA
         simp only [zql.l2] at H
         by_cases c24 : x6_4 < (((y0q l0 x3_1).f5).length : Int)
         rotate_left
         ·rw [if_neg c24] at H
          have c24b0 : decide (x6_4 < (((y0q l0 x3_1).f5).length : Int)) = false := decide_eq_false c24
          clear c24
          have H' := q_ H
          clear H
          obtain ⟨hcz29_0, hfz29_0, hcz29_1, hfz29_1, hcz29_2, hfz29_2, hcz29_3, hfz29_3, hcz29_4, hfz29_4, hcz29_5, hfz29_5⟩ := b6_ BK697.out
          go_wp2
          go_roundg k4
          case measure => have := HK1.out; have := HJ4.out; have := HK3.out; have := HK4.out; omega
          case rel => exact ⟨(wrap64 (x3_1 + 1)), cl_, H', ⟨by have := HK1.out; have := HJ4.out; have := HK3.out; have := HK4.out; omega⟩, ⟨hb_⟩⟩
         rw [if_pos c24] at H
         have c24b0 : decide (x6_4 < (((y0q l0 x3_1).f5).length : Int)) = true := decide_eq_true c24
         clear c24
         by_cases c25 : 0 ≤ x6_4
         rotate_left
         ·rw [if_neg c25] at H
          exact absurd H (by simp)
         rw [if_pos c25] at H
         have c25b0 : decide (0 ≤ x6_4) = true := decide_eq_true c25
         clear c25
         by_cases c26 : (((y0r ((y0q l0 x3_1).f5) x6_4).f3).size : Int) > 100
         ·rw [if_pos c26] at H
          have c26b0 : decide (100 < (((y0r ((y0q l0 x3_1).f5) x6_4).f3).size : Int)) = true := decide_eq_true c26
          have c26b1 : decide (100 < ((y0r ((y0q l0 x3_1).f5) x6_4).f3).size) = true := decide_eq_true (by omega)
          clear c26
          obtain rfl := Option.some.inj H
          obtain ⟨hcz27_0, hfz27_0, hcz27_1, hfz27_1, hcz27_2, hfz27_2, hcz27_3, hfz27_3, hcz27_4, hfz27_4, hcz27_5, hfz27_5⟩ := b6_ BK697.out
          have p699 : 0 ≤ (x6_4 : Int) := oa_
          have q699 : x6_4 < (((y0q l0 x3_1).f5).length : Int) := oa_
          obtain ⟨ad699, e699, hx699_0, hx699_1, hx699_2, hx699_3, hx699_4⟩ := at_T43 HR696_5.out x6_4 p699 q699
          cases e699
          replace hx699_0 := cb_ HB.out hx699_0
          replace hx699_1 := cb_ HB.out hx699_1
          replace hx699_2 := cb_ HB.out hx699_2
          replace hx699_3 := cb_ HB.out hx699_3
          replace hx699_4 := cb_ HB.out hx699_4
          replace p699 := eq_true p699
          replace q699 := eq_true q699
          go_wp2
          go_ret
          exact ⟨ew_, hb_⟩
         rw [if_neg c26] at H
         have c26b0 : decide (100 < (((y0r ((y0q l0 x3_1).f5) x6_4).f3).size : Int)) = false := decide_eq_false c26
         have c26b1 : decide (100 < ((y0r ((y0q l0 x3_1).f5) x6_4).f3).size) = false := decide_eq_false (by omega)
         clear c26
         have H' := q_ H
         clear H
         obtain ⟨hcz28_0, hfz28_0, hcz28_1, hfz28_1, hcz28_2, hfz28_2, hcz28_3, hfz28_3, hcz28_4, hfz28_4, hcz28_5, hfz28_5⟩ := b6_ BK697.out
         have p699 : 0 ≤ (x6_4 : Int) := oa_
         have q699 : x6_4 < (((y0q l0 x3_1).f5).length : Int) := oa_
         obtain ⟨ad699, e699, hx699_0, hx699_1, hx699_2, hx699_3, hx699_4⟩ := at_T43 HR696_5.out x6_4 p699 q699
         cases e699
         replace hx699_0 := cb_ HB.out hx699_0
         replace hx699_1 := cb_ HB.out hx699_1
         replace hx699_2 := cb_ HB.out hx699_2
         replace hx699_3 := cb_ HB.out hx699_3
         replace hx699_4 := cb_ HB.out hx699_4
         replace p699 := eq_true p699
         replace q699 := eq_true q699
         go_wp2
         go_roundg k4
         case measure => have := HK1.out; have := HJ4.out; have := HK3.out; have := HK4.out; omega
         case rel => exact ⟨(wrap64 (x6_4 + 1)), cl_, H', ⟨by have := HK1.out; have := HJ4.out; have := HK3.out; have := HK4.out; omega⟩, ⟨bk_ BK697.out⟩, ⟨hb_⟩⟩
end Go.Proofs.Ytenlmckahaniiaa.K
end
