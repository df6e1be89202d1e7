/- Words beside the printed ones: what '[]byte(s)' and '[]byte("..")' leave, as a row that is only read; small lemmas for tests and closings. -/
import Derived.Test.YtenlmckahaniiaaWd
import Derived.Lib.SlBytesConst
import Derived.Lib.SliceRun
set_option linter.unusedVariables false
set_option linter.unusedSimpArgs false
namespace Go.Proofs.YtenlmckahaniiaaW.PrintWords
open Go Go.RowKit

theorem isEmpty_ne (l : List UInt8) : l.isEmpty = !(l != []) := by cases l <;> rfl

theorem ite_some {α : Type} {c : Prop} [Decidable c] {x : Option α} {r : α} (h : (if c then x else none) = some r) : c ∧ x = some r := by
  by_cases hc : c
  · rw [if_pos hc] at h; exact ⟨hc, h⟩
  · rw [if_neg hc] at h; cases h

namespace Kd
variable {P : Program} {ops : Array Oper} {rest : List Oper} {o o2 : Oper} {a : Act} {Q : Exit → Act → World → Prop}

theorem F_row {W w1 : World} {g e : Nat} {cs : Array Value} {fr : Nat × Nat} {xs : List Int} (hW : W.heap.size ≤ g) (hg : w1.heap[g]? = some (.cells cs e fr)) (hm : xs.length ≤ 9223372036854775807)
    (hc : ∀ j, j < xs.length → cs[j]? = some (.int .u8 (xs.getD j 0))) : F (Kd.int .u8) w1 (fun k => W.heap.size ≤ k) (some ⟨g, 0, none⟩) xs.length xs := by
  intro W' hW'
  have hlt : g < w1.heap.size := by
    rcases Nat.lt_or_ge g w1.heap.size with h | h
    · exact h
    · simp [Array.getElem?_eq_none h] at hg
  have hg' : W'.heap[g]? = some (.cells cs e fr) := (hW' g hW hlt).trans hg
  refine C_of_reads (d := (0 : Int)) (h1 := fun _ => rfl) ⟨rfl, hm, fun _ => ⟨_, rfl, fun j hj => ?_⟩⟩
  have ha : (⟨g, 0, none⟩ : Addr).add j = ⟨g, j, none⟩ := by unfold Addr.add; split <;> simp_all
  rw [ha]
  show W'.cell? ⟨g, j, none⟩ = _
  unfold World.cell?
  simp only [hg']
  exact hc j hj

/-- '[]byte(s)'. -/
theorem V_conv {w0 W : World} (base e : Nat) (hgd : o.guard = none) {N : Tmp} (_hd : o.dst = some N) (src dst : TypeId) (x : Operand) (ho : o.op = .convert src dst x) (s : ByteArray) (hx : a.eval x = .string s)
    {u : TypeDesc} (hs : P.underlying src = some u) (hdst : P.underlying dst = some (.slice e)) (he : P.underlying e = some (.int .u8)) (hm : (s.size : Int) ≤ 9223372036854775807) (HB : Below base w0 W) (hbase : base ≤ W.heap.size)
    (h : ∀ v1 w1, V (Kd.int .u8) e w1 base (fun k => W.heap.size ≤ k) v1 (bytesOf s) → Below base w0 w1 → W.grownBy w1 none → (∃ b, v1.ownBlock = some b ∧ W.heap.size ≤ b) → wpList P ops Q rest (a.put o.dst v1) w1) : wpList P ops Q (o :: rest) a W := by
  have hrun : (execOp a.eval o).run P W = .ok (.value (.slice (some ⟨W.heap.size, 0, none⟩) s.size (grownCap W s.size 0 e))) (Lib.bytesWorld W e s) := by
    have hr := Lib.run_convert_string_bytes W src dst e s hs hdst he
    simp [execOp, ho, hx, hr]
  have hlen : (bytesOf s).length = s.size := bytesOf_length s
  refine event_run hgd hrun (h _ _ ⟨_, _, by rw [hlen], by rw [hlen]; exact grownCap_ge W s.size 0 e, ?_⟩ ?_ ?_ ⟨W.heap.size, by simp [Value.ownBlock], Nat.le_refl _⟩)
  · refine F_row (Nat.le_refl _) (Lib.bytesWorld_at_new W e s) (by omega) (fun j hj => ?_)
    rw [hlen] at hj
    have h' : j < s.data.toList.length := by rw [data_length]; exact hj
    simp [Lib.bytesCells, bytesOf, Array.getElem?_append, List.getD_eq_getElem?_getD, hj]
  · exact bytes_below HB hbase e s
  · exact ⟨rfl, rfl, rfl, by rw [Lib.bytesWorld_size]; omega, fun k hk _ => Lib.bytesWorld_at_old W e s k hk⟩

/-- '[]byte("..")' of a constant: the literal's row, and the conversion of it to its own type. -/
theorem V_litconv {w0 W : World} (base e : Nat) (hgd : o.guard = none) {N M : Tmp} (hd : o.dst = some N) (hd2 : o2.dst = some M) (hgd2 : o2.guard = none) (t : TypeId) (ho2 : o2.op = .convert t t (.tmp N)) {xs : List Int} {inner : List Value}
    (hin : inner = xs.map (Value.int .u8)) (hrun : (execOp a.eval o).run P W = .ok (.value (.slice (some ⟨W.heap.size, 0, none⟩) xs.length xs.length)) (W.alloc (.cells inner.toArray e)))
    (hN : (a.put (some N) (.slice (some ⟨W.heap.size, 0, none⟩) xs.length xs.length)).eval (.tmp N) = .slice (some ⟨W.heap.size, 0, none⟩) xs.length xs.length)
    (hdst : P.underlying t = some (.slice e)) (he : P.underlying e = some (.int .u8)) (hm : xs.length ≤ 9223372036854775807) (HB : Below base w0 W) (hbase : base ≤ W.heap.size)
    (h : ∀ v1 w1, V (Kd.int .u8) e w1 base (fun k => W.heap.size ≤ k) v1 xs → Below base w0 w1 → W.grownBy w1 none → (∃ b, v1.ownBlock = some b ∧ W.heap.size ≤ b) → wpList P ops Q rest ((a.put o.dst v1).put o2.dst v1) w1) : wpList P ops Q (o :: o2 :: rest) a W := by
  refine event_run hgd hrun ?_
  have hrun2 : (execOp (a.put o.dst (.slice (some ⟨W.heap.size, 0, none⟩) xs.length xs.length)).eval o2).run P (W.alloc (.cells inner.toArray e)) = .ok (.value (.slice (some ⟨W.heap.size, 0, none⟩) xs.length xs.length)) (W.alloc (.cells inner.toArray e (inner.toArray.size, inner.toArray.size + 1))) := by
    have hr := Lib.run_convert_bytes_const (P := P) W t e inner.toArray xs.length xs.length hdst he
    rw [← hd] at hN
    simp only [execOp, ho2, hN, hr, Sem.run_bind, Sem.run_pure, Result.andThen]
  refine event_run hgd2 hrun2 (h _ _ ⟨_, _, rfl, Nat.le_refl _, ?_⟩ (HB.alloc hbase _) (World.grownBy_alloc W _ none) ⟨W.heap.size, by simp [Value.ownBlock], Nat.le_refl _⟩)
  refine F_row (Nat.le_refl _) (g := W.heap.size) (e := e) (cs := inner.toArray) (fr := (inner.toArray.size, inner.toArray.size + 1)) (by simp [World.alloc, -World.alloc_eq]) hm (fun j hj => ?_)
  subst hin
  simp [List.getD_eq_getElem?_getD, hj]
/-- 'make([]T, 0, n)'. -/
theorem R_make0 {α : Type} (d : Kd α) {w0 W : World} (base e : Nat) (hgd : o.guard = none) {N : Tmp} (_hd : o.dst = some N) (t : TypeId) (x y : Operand) (ho : o.op = .makeSlice t x y) (m : Int) (hx : a.eval x = .int .i64 0) (hy : a.eval y = .int .i64 m)
    (ht : P.underlying t = some (.slice e)) (z : Value) (bytes : Nat) (hinfo : (P.info? e).map (fun i => (i.zero, i.size, i.bytes)) = some (some z, d.sz, bytes)) (hz : z.cells.size = d.sz) (hs0 : 0 < d.sz) (hb0 : 0 < bytes)
    {ok okp : Nat → Prop} (hok : ∀ k, okp k → ok k) (hfresh : ok W.heap.size) (h0 : 0 ≤ m) (hl : m.toNat * bytes ≤ 281474976710656) (HB : Below base w0 W) (hbase : base ≤ W.heap.size)
    (h : ∀ v1 w1, d.R e w1 base ok v1 ([] : List α) → Below base w0 w1 → W.grownBy w1 none → (∃ b, v1.ownBlock = some b ∧ W.heap.size ≤ b) → wpList P ops Q rest (a.put o.dst v1) w1) : wpList P ops Q (o :: rest) a W := by
  obtain ⟨n, rfl⟩ := Int.eq_ofNat_of_zero_le h0
  simp only [Int.toNat_natCast] at hl
  obtain ⟨i0, hi, hzz⟩ := Option.map_eq_some_iff.1 hinfo
  simp only [Prod.mk.injEq] at hzz
  obtain ⟨hz0, hz1, hz2⟩ := hzz
  have hm : n ≤ 281474976710656 := Nat.le_trans (Nat.le_mul_of_pos_right _ hb0) hl
  have hr := run_make (P := P) W t e i0 z ht hi hz0 .i64 .i64 0 (n : Int) (by omega) (by omega)
    (by
      have h3 : ((i0.bytes * n : Nat) : Int) ≤ 281474976710656 := by rw [hz2, Nat.mul_comm]; omega
      rwa [Int.natCast_mul] at h3) (by omega)
  simp only [Int.toNat_natCast, Int.toNat_zero] at hr
  rw [hz1] at hr
  have hrun : (execOp a.eval o).run P W = .ok (.value (.slice (some ⟨W.heap.size, 0, none⟩) 0 n)) (W.alloc (.cells (madeCells z.cells (n * d.sz)) e)) := by
    simp [execOp, ho, hx, hy, hr]
  refine event_run hgd hrun (h _ _ ⟨fun k hk => ?_, [], ⟨by simp, .inr ⟨W.heap.size, n, _, rfl, hbase, heap_alloc_new W _, Nat.zero_le _, by simp only [maxLen]; omega, size_madeCells _ _, by simp⟩⟩, ⟨by simp, fun j p hj => by simp at hj⟩⟩ (HB.alloc hbase _) (World.grownBy_alloc W _ none) ⟨W.heap.size, by simp [Value.ownBlock], Nat.le_refl _⟩)
  have : W.heap.size = k := by simpa [Value.ownBlock] using hk
  subst this
  exact hfresh
end Kd
end Go.Proofs.YtenlmckahaniiaaW.PrintWords
