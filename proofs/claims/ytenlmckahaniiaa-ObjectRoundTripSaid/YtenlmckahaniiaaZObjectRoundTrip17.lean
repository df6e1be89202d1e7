/- Lemmas for the law ObjectRoundTrip: what its proof needs of this seat's texts, in one place. -/
import Derived.Test.YtenlmckahaniiaaZObjectRoundTrip7
import Derived.Test.YtenlmckahaniiaaZObjectRoundTrip16
section
set_option linter.unusedVariables false
set_option linter.unusedSimpArgs false
namespace Go.Proofs.Ytenlmckahaniiaa.K
open Go Go.RowKit Go.Proofs.YtenlmckahaniiaaW.PrintWords Go.Proofs.YtenlmckahaniiaaW.PrintLast
section
variable {P : Program} {ops : Array Oper} {rest : List Oper} {o : Oper} {a : Act} {Q : Exit → Act → World → Prop}
theorem conv_own {w0 W : World} (base e : Nat) (hgd : o.guard = none) (src dst : TypeId) (x : Operand) (ho : o.op = .convert src dst x) (s : ByteArray) (hx : a.eval x = .string s)
    {u : TypeDesc} (hs : P.underlying src = some u) (hdst : P.underlying dst = some (.slice e)) (he : P.underlying e = some (.int .u8)) (HB : Below base w0 W) (hbase : base ≤ W.heap.size)
    (h : ∀ g cap w1, base ≤ g → (∀ j, j < s.size → w1.cell? ⟨g, j, none⟩ = some (.int .u8 (rd (bytesOf s) (j : Int)))) → (∀ j, j < s.size → w1.frozen? ⟨g, j, none⟩ = false) → Below base w0 w1 → wpList P ops Q rest (a.put o.dst (.slice (some ⟨g, 0, none⟩) s.size cap)) w1) : wpList P ops Q (o :: rest) a W := by
  have hrun : (execOp a.eval o).run P W = .ok (.value (.slice (some ⟨W.heap.size, 0, none⟩) s.size (grownCap W s.size 0 e))) (Lib.bytesWorld W e s) := by
    have hr := Lib.run_convert_string_bytes W src dst e s hs hdst he
    simp [execOp, ho, hx, hr]
  have hcap := grownCap_ge W s.size 0 e
  have hsz : (Lib.bytesCells W e s).size = grownCap W s.size 0 e := by simp [Lib.bytesCells]; omega
  refine Kd.event_run hgd hrun (h W.heap.size _ _ hbase (fun j hj => ?_) (fun j hj => ?_) (bytes_below HB hbase e s))
  · rw [Lib.bytesWorld_cell W e s j hj]
    congr 2
    unfold rd
    rw [show ((j : Int)).toNat = j by omega]
    unfold bytesOf
    rw [List.getD_eq_getElem?_getD, List.getD_eq_getElem?_getD, List.getElem?_map]
    cases s.data.toList[j]? <;> rfl
  · simp [World.frozen?, Lib.bytesWorld_at_new, hsz]
    omega
end
theorem under5 : Try.prog.underlying 5 = some (.int .u8) := by kernel_rfl
theorem under9 : Try.prog.underlying 9 = some .string := by kernel_rfl
theorem under39 : Try.prog.underlying 39 = some (.slice 5) := by kernel_rfl
theorem str_after {w2 : World} {g cap q : Nat} {s : ByteArray} (hc : ∀ j, j < s.size → w2.cell? ⟨g, j, none⟩ = some (.int .u8 (rd (bytesOf s) (j : Int)))) (hqs : q < s.size) (x : Int) :
    (convert 39 9 (.slice (some ⟨g, 0, none⟩) s.size cap)).run Try.prog (w2.setCell ⟨g, q, none⟩ (.int .u8 x)) = .ok (.string (strOfNums ((bytesOf s).set q x))) (w2.setCell ⟨g, q, none⟩ (.int .u8 x)) := by
  have hl : (bytesOf s).length = s.size := bytesOf_length s
  refine run_convert_bytes_arg _ 39 5 under39 under5 g 0 s.size cap ((bytesOf s).set q x) (by rw [List.length_set, hl]) (fun i hi => ?_) 9 under9
  rw [Nat.zero_add, List.getD_eq_getElem?_getD, List.getElem?_set]
  by_cases h : q = i
  · subst h
    rw [World.cell?_setCell_same' w2 _ _ (by rw [hc q hqs]; rfl), if_pos rfl, if_pos (by omega)]; rfl
  · have hne : (⟨g, q, none⟩ : Addr) ≠ ⟨g, i, none⟩ := by intro h'; injection h' with _ h2; exact h h2
    rw [World.cell?_setCell_other _ _ _ _ hne, hc i hi, if_neg h]
    congr 2
def chgB (s : ByteArray) (q : Nat) (b : Int) : Int := Go.bits .xor .u8 (rd (bytesOf s) (q : Int)) (Go.bits .or .u8 b 1)
def chg (s : ByteArray) (q : Nat) (b : Int) : ByteArray := strOfNums ((bytesOf s).set q (chgB s q b))
set_option maxHeartbeats 8000000 in
set_option maxRecDepth 100000 in
theorem rt_walk (k : Nat) (a0 a1 a2 : ByteArray) (a3 : Int) (A4 : Option Addr) (c4 : Nat) (l4 : List S62) (A5 : Option Addr) (c5 : Nat) (l5 : List S43) (b1 b2 : Int) (w : World) (hr4 : Kd.C k62 w A4 l4.length l4) (hc4 : l4.length ≤ c4) (hr5 : Kd.C k43 w A5 l5.length l5) (hc5 : l5.length ≤ c5)
    (s x0 x1 x2 : ByteArray) (x3 : Int) (x4 : List S62) (x5 : List S43) (q : Nat) (y1 y2 : ByteArray) (y3 : Int) (y4 : List S62) (y5 : List S43) (u1 u2 : ByteArray) (u3 : Int) (u4 : List S62) (u5 : List S43) (e2 e3 : Int)
    (hsm : emulatorlaw28_small.f k a0 a1 a2 a3 l4 l5 = some true) (h4000 : a1.size + a2.size ≤ 4000) (hE : object_Encode.f k a0 a1 a2 a3 l4 l5 = some (s, 0)) (hC : object_Check.f k a0 a1 a2 a3 l4 l5 = some 0)
    (hD : object_Decode.f k s = some (x0, x1, x2, x3, x4, x5, 0)) (hS : emulatorref28_SameModule.f k x0 x1 x2 x3 x4 x5 a0 a1 a2 a3 l4 l5 = some true)
    (hb1 : 0 ≤ b1 ∧ b1 < 65536) (hb2 : 0 ≤ b2 ∧ b2 < 256) (hsz : s.size ≤ 200000000) (hq : b1 % (s.size : Int) = (q : Int)) (hqs : q < s.size)
    (hD2 : object_Decode.f k (chg s q b2) = some (⟨#[]⟩, y1, y2, y3, y4, y5, e2)) (he2 : e2 ≠ 0) (hD3 : object_Decode.f k (s.extract 0 q) = some (⟨#[]⟩, u1, u2, u3, u4, u5, e3)) (he3 : e3 ≠ 0) (hA : emulatorlaw28_alive.f k = some true) :
    Calls Try.prog 6 #[.agg #[.string a0, .string a1, .string a2, .int .i64 a3, .slice A4 l4.length c4, .slice A5 l5.length c5], .int .u16 b1, .int .u8 b2] w fun e w' => e = .returned (.bool true) ∧ Below w.heap.size w w' := by
  have HR4 := Aside0.mk hr4
  have HR5 := Aside0.mk hr5
  have HC4 := Aside0.mk hc4
  have HC5 := Aside0.mk hc5
  have As := Aside0.mk hsm
  have AE := Aside0.mk hE
  have AC := Aside0.mk hC
  have AD := Aside0.mk hD
  have AS := Aside0.mk hS
  have AA := Aside0.mk hA
  have AD3 := Aside0.mk hD3
  clear hr4 hr5 hc4 hc5 hsm hE hC hD hS hA hD3
  have z1 : ¬ (4000 : Int) < (a1.size : Int) + (a2.size : Int) := by omega
  have z2 : (a1.size : Int) ≤ 4000 := by omega
  have z2b : (a2.size : Int) ≤ 4000 := by omega
  have z3 : ¬ (s.size : Int) = 0 := by omega
  have z4 : (q : Int) < (s.size : Int) := by omega
  have z4b : ((q : Int) ≤ (s.size : Int)) := by omega
  have z5 : (s.size : Int) ≤ 200000000 := by omega
  have z6 : (0 : Int) < (s.size : Int) := by omega
  have z7 : (e2 != 0) = true := bne_iff_ne.mpr he2
  have z8 : (e3 != 0) = true := bne_iff_ne.mpr he3
  clear h4000 hsz he2 he3
  obtain ⟨b8, hb8⟩ : ∃ b8, b8 = chgB s q b2 := ⟨_, rfl⟩
  have hbz : Go.bits .xor .u8 (rd (bytesOf s) (q : Int)) (Go.bits .or .u8 b2 1) = b8 := hb8.symm
  have hO2 : object_Decode.f k (strOfNums ((bytesOf s).set q b8)) = some (⟨#[]⟩, y1, y2, y3, y4, y5, e2) := by rw [hb8]; exact hD2
  have AD2 := Aside0.mk hO2
  clear hO2 hD2 hb8
  have HB := Aside0.mk (Below.refl w.heap.size w)
  go_enter Try.func6, Try.ntmps6
  have B1 := Aside0.mk (below_alloc HB.out (.cells #[.string a0, .string a1, .string a2, .int .i64 a3, .slice A4 l4.length c4, .slice A5 l5.length c5] 25))
  have K1 := Aside0.mk (blk_new w (.cells #[.string a0, .string a1, .string a2, .int .i64 a3, .slice A4 l4.length c4, .slice A5 l5.length c5] 25))
  clear HB
  go_wp2_with (first
    | (go_at_call 17; (with_reducible refine (emulatorlaw28_small.calls k a0 a1 a2 a3 A4 c4 l4 A5 c5 l5 true _ ?h1 ?h2 ?h3 ?h4 As.out).mono ?_); (case h1 => exact Kd.C_below HR4.out B1.out); (case h2 => exact HC4.out); (case h3 => exact Kd.C_below HR5.out B1.out); (case h4 => exact HC5.out); rintro e w2 ⟨rfl, hb⟩; have B2 := Aside0.mk (below_step B1.out hb); have K2 := Aside0.mk (blk_below K1.out hb); have L2 := blk_lt K2.out; have hd0 := (blk_cell K2.out 0).trans rfl; have hd1 := (blk_cell K2.out 1).trans rfl; have hd2 := (blk_cell K2.out 2).trans rfl; have hd3 := (blk_cell K2.out 3).trans rfl; have hd4 := (blk_cell K2.out 4).trans rfl; have hd5 := (blk_cell K2.out 5).trans rfl; clear hb)
    | (go_at_call 21; (with_reducible refine (object_Encode.calls k a0 a1 a2 a3 A4 c4 l4 A5 c5 l5 s 0 _ ?h1 ?h2 ?h3 ?h4 AE.out).mono ?_); (case h1 => exact Kd.C_below HR4.out B2.out); (case h2 => exact HC4.out); (case h3 => exact Kd.C_below HR5.out B2.out); (case h4 => exact HC5.out); rintro e w3 ⟨rfl, hb⟩; have B3 := Aside0.mk (below_step B2.out hb); have K3 := Aside0.mk (blk_below K2.out hb); have L3 := blk_lt K3.out; have he0 := (blk_cell K3.out 0).trans rfl; have he1 := (blk_cell K3.out 1).trans rfl; have he2 := (blk_cell K3.out 2).trans rfl; have he3 := (blk_cell K3.out 3).trans rfl; have he4 := (blk_cell K3.out 4).trans rfl; have he5 := (blk_cell K3.out 5).trans rfl; clear hb)
    | (go_at_call 18; (with_reducible refine (object_Check.calls k a0 a1 a2 a3 A4 c4 l4 A5 c5 l5 0 _ ?h1 ?h2 ?h3 ?h4 AC.out).mono ?_); (case h1 => exact Kd.C_below HR4.out B3.out); (case h2 => exact HC4.out); (case h3 => exact Kd.C_below HR5.out B3.out); (case h4 => exact HC5.out); rintro e w4 ⟨rfl, hb⟩; have B4 := Aside0.mk (below_step B3.out hb); have K4 := Aside0.mk (blk_below K3.out hb); have L4 := blk_lt K4.out; clear hb)
    | (go_at_call 24; (with_reducible refine (object_Decode.calls k s x0 x1 x2 x3 x4 x5 0 _ AD.out).mono ?_); rintro e w5 ⟨v4, v5, rfl, ho4, ho5, hb⟩; have B5 := Aside0.mk (below_step B4.out hb); have K5 := Aside0.mk (blk_below K4.out hb); have L5 := blk_lt K5.out; have hg0 := (blk_cell K5.out 0).trans rfl; have hg1 := (blk_cell K5.out 1).trans rfl; have hg2 := (blk_cell K5.out 2).trans rfl; have hg3 := (blk_cell K5.out 3).trans rfl; have hg4 := (blk_cell K5.out 4).trans rfl; have hg5 := (blk_cell K5.out 5).trans rfl; obtain ⟨A4', c4', rfl⟩ := Kd.R_slice ho4; obtain ⟨A5', c5', rfl⟩ := Kd.R_slice ho5; have X4 := Aside0.mk (Kd.R_reads' ho4); have X5 := Aside0.mk (Kd.R_reads' ho5); clear hb ho4 ho5)
    | (go_at_call 26; (with_reducible refine (emulatorref28_SameModule.calls k x0 x1 x2 x3 A4' c4' x4 A5' c5' x5 a0 a1 a2 a3 A4 c4 l4 A5 c5 l5 true _ ?h1 ?h2 ?h3 ?h4 ?h5 ?h6 ?h7 ?h8 AS.out).mono ?_); (case h1 => exact Kd.C_alloc X4.out.2.2 _); (case h2 => exact X4.out.2.1); (case h3 => exact Kd.C_alloc X5.out.2.2 _); (case h4 => exact X5.out.2.1); (case h5 => exact Kd.C_below HR4.out (below_alloc B5.out _)); (case h6 => exact HC4.out); (case h7 => exact Kd.C_below HR5.out (below_alloc B5.out _)); (case h8 => exact HC5.out); rintro e w7 ⟨rfl, hb⟩; have B7 := below_step (below_alloc B5.out _) hb; clear hb)
    | ((with_reducible refine gate_dst (N := 60) rfl ?_); refine conv_own w.heap.size 5 rfl 9 39 _ rfl s (by go_simp) under9 under39 under5 B7 B7.size ?_; intro gc cap w8 hgc hc hf hb8_; have B8 := Aside0.mk hb8_; have GC := Aside0.mk hgc; have hcq := hc q hqs; have hfq := hf q hqs; have hstr := str_after (cap := cap) hc hqs b8; clear hc hf hb8_ hgc B7)
    | (go_at_call 24; (with_reducible refine (object_Decode.calls k (strOfNums ((bytesOf s).set q b8)) ⟨#[]⟩ y1 y2 y3 y4 y5 e2 _ AD2.out).mono ?_); rintro e w9 ⟨v49, v59, rfl, ho4, ho5, hb⟩; have B9 := Aside0.mk (below_step (below_set B8.out GC.out) hb); obtain ⟨A49, c49, rfl⟩ := Kd.R_slice ho4; obtain ⟨A59, c59, rfl⟩ := Kd.R_slice ho5; clear hb ho4 ho5 hcq hfq hstr)
    | (go_at_call 24; (with_reducible refine (object_Decode.calls k (s.extract 0 q) ⟨#[]⟩ u1 u2 u3 u4 u5 e3 _ AD3.out).mono ?_); rintro e w10 ⟨v40, v50, rfl, ho4, ho5, hb⟩; have B10 := Aside0.mk (below_step (below_alloc B9.out _) hb); have K10 := Aside0.mk (blk_below (blk_new _ _) hb); have L10 := blk_lt K10.out; have hk0 := (blk_cell K10.out 0).trans rfl; obtain ⟨A40, c40, rfl⟩ := Kd.R_slice ho4; obtain ⟨A50, c50, rfl⟩ := Kd.R_slice ho5; clear hb ho4 ho5)
    | (go_at_call 20; (with_reducible refine (emulatorlaw28_alive.calls k true _ AA.out).mono ?_); rintro e w11 ⟨rfl, hb⟩; have B11 := Aside0.mk (below_step (below_alloc B10.out _) hb); clear hb))
  go_ret
  exact ⟨rfl, B11.out⟩
set_option maxHeartbeats 4000000 in
set_option maxRecDepth 100000 in
theorem rt_walk_large (k : Nat) (a0 a1 a2 : ByteArray) (a3 : Int) (A4 : Option Addr) (c4 : Nat) (l4 : List S62) (A5 : Option Addr) (c5 : Nat) (l5 : List S43) (b1 b2 : Int) (w : World) (hr4 : Kd.C k62 w A4 l4.length l4) (hc4 : l4.length ≤ c4) (hr5 : Kd.C k43 w A5 l5.length l5) (hc5 : l5.length ≤ c5) (hsm : emulatorlaw28_small.f k a0 a1 a2 a3 l4 l5 = some false) (hA : emulatorlaw28_alive.f k = some true) :
    Calls Try.prog 6 #[.agg #[.string a0, .string a1, .string a2, .int .i64 a3, .slice A4 l4.length c4, .slice A5 l5.length c5], .int .u16 b1, .int .u8 b2] w fun e w' => e = .returned (.bool true) ∧ Below w.heap.size w w' := by
  have HR4 := Aside0.mk hr4
  have HR5 := Aside0.mk hr5
  have HC4 := Aside0.mk hc4
  have HC5 := Aside0.mk hc5
  have As := Aside0.mk hsm
  have AA := Aside0.mk hA
  clear hr4 hr5 hc4 hc5 hsm hA
  have B1 := Aside0.mk (below_alloc (Below.refl w.heap.size w) (.cells #[.string a0, .string a1, .string a2, .int .i64 a3, .slice A4 l4.length c4, .slice A5 l5.length c5] 25))
  have K1 := Aside0.mk (blk_new w (.cells #[.string a0, .string a1, .string a2, .int .i64 a3, .slice A4 l4.length c4, .slice A5 l5.length c5] 25))
  go_enter Try.func6, Try.ntmps6
  go_wp2_with (first
    | (go_at_call 17; (with_reducible refine (emulatorlaw28_small.calls k a0 a1 a2 a3 A4 c4 l4 A5 c5 l5 false _ ?h1 ?h2 ?h3 ?h4 As.out).mono ?_); (case h1 => exact Kd.C_below HR4.out B1.out); (case h2 => exact HC4.out); (case h3 => exact Kd.C_below HR5.out B1.out); (case h4 => exact HC5.out); rintro e w2 ⟨rfl, hb⟩; have B2 := Aside0.mk (below_step B1.out hb); have K2 := Aside0.mk (blk_below K1.out hb); have L2 := blk_lt K2.out; have hd0 := (blk_cell K2.out 0).trans rfl; have hd1 := (blk_cell K2.out 1).trans rfl; have hd2 := (blk_cell K2.out 2).trans rfl; have hd3 := (blk_cell K2.out 3).trans rfl; have hd4 := (blk_cell K2.out 4).trans rfl; have hd5 := (blk_cell K2.out 5).trans rfl; clear hb)
    | (go_at_call 20; (with_reducible refine (emulatorlaw28_alive.calls k true _ AA.out).mono ?_); rintro e w11 ⟨rfl, hb⟩; have B11 := Aside0.mk (below_step B2.out hb); clear hb))
  go_ret
  exact ⟨rfl, B11.out⟩
set_option maxHeartbeats 4000000 in
set_option maxRecDepth 100000 in
theorem rt_walk_long (k : Nat) (a0 a1 a2 : ByteArray) (a3 : Int) (A4 : Option Addr) (c4 : Nat) (l4 : List S62) (A5 : Option Addr) (c5 : Nat) (l5 : List S43) (b1 b2 : Int) (w : World) (hr4 : Kd.C k62 w A4 l4.length l4) (hc4 : l4.length ≤ c4) (hr5 : Kd.C k43 w A5 l5.length l5) (hc5 : l5.length ≤ c5) (hsm : emulatorlaw28_small.f k a0 a1 a2 a3 l4 l5 = some true) (h17 : a1.size ≤ 17000 ∧ a2.size ≤ 17000) (h4000 : 4000 < a1.size + a2.size) (hA : emulatorlaw28_alive.f k = some true) :
    Calls Try.prog 6 #[.agg #[.string a0, .string a1, .string a2, .int .i64 a3, .slice A4 l4.length c4, .slice A5 l5.length c5], .int .u16 b1, .int .u8 b2] w fun e w' => e = .returned (.bool true) ∧ Below w.heap.size w w' := by
  have HR4 := Aside0.mk hr4
  have HR5 := Aside0.mk hr5
  have HC4 := Aside0.mk hc4
  have HC5 := Aside0.mk hc5
  have As := Aside0.mk hsm
  have AA := Aside0.mk hA
  clear hr4 hr5 hc4 hc5 hsm hA
  have z1 : (4000 : Int) < (a1.size : Int) + (a2.size : Int) := by omega
  have z2 : (a1.size : Int) ≤ 17000 := by omega
  have z2b : (a2.size : Int) ≤ 17000 := by omega
  clear h4000 h17
  have B1 := Aside0.mk (below_alloc (Below.refl w.heap.size w) (.cells #[.string a0, .string a1, .string a2, .int .i64 a3, .slice A4 l4.length c4, .slice A5 l5.length c5] 25))
  have K1 := Aside0.mk (blk_new w (.cells #[.string a0, .string a1, .string a2, .int .i64 a3, .slice A4 l4.length c4, .slice A5 l5.length c5] 25))
  go_enter Try.func6, Try.ntmps6
  go_wp2_with (first
    | (go_at_call 17; (with_reducible refine (emulatorlaw28_small.calls k a0 a1 a2 a3 A4 c4 l4 A5 c5 l5 true _ ?h1 ?h2 ?h3 ?h4 As.out).mono ?_); (case h1 => exact Kd.C_below HR4.out B1.out); (case h2 => exact HC4.out); (case h3 => exact Kd.C_below HR5.out B1.out); (case h4 => exact HC5.out); rintro e w2 ⟨rfl, hb⟩; have B2 := Aside0.mk (below_step B1.out hb); have K2 := Aside0.mk (blk_below K1.out hb); have L2 := blk_lt K2.out; have hd0 := (blk_cell K2.out 0).trans rfl; have hd1 := (blk_cell K2.out 1).trans rfl; have hd2 := (blk_cell K2.out 2).trans rfl; have hd3 := (blk_cell K2.out 3).trans rfl; have hd4 := (blk_cell K2.out 4).trans rfl; have hd5 := (blk_cell K2.out 5).trans rfl; clear hb)
    | (go_at_call 20; (with_reducible refine (emulatorlaw28_alive.calls k true _ AA.out).mono ?_); rintro e w11 ⟨rfl, hb⟩; have B11 := Aside0.mk (below_step B2.out hb); clear hb))
  go_ret
  exact ⟨rfl, B11.out⟩
set_option maxHeartbeats 4000000 in
set_option maxRecDepth 100000 in
theorem rt_walk_err (k : Nat) (a0 a1 a2 : ByteArray) (a3 : Int) (A4 : Option Addr) (c4 : Nat) (l4 : List S62) (A5 : Option Addr) (c5 : Nat) (l5 : List S43) (b1 b2 : Int) (w : World) (hr4 : Kd.C k62 w A4 l4.length l4) (hc4 : l4.length ≤ c4) (hr5 : Kd.C k43 w A5 l5.length l5) (hc5 : l5.length ≤ c5) (e1 : Int) (he1 : e1 ≠ 0) (hsm : emulatorlaw28_small.f k a0 a1 a2 a3 l4 l5 = some true) (h4000 : a1.size + a2.size ≤ 4000) (hE : object_Encode.f k a0 a1 a2 a3 l4 l5 = some (⟨#[]⟩, e1)) (hC : object_Check.f k a0 a1 a2 a3 l4 l5 = some e1) (hA : emulatorlaw28_alive.f k = some true) :
    Calls Try.prog 6 #[.agg #[.string a0, .string a1, .string a2, .int .i64 a3, .slice A4 l4.length c4, .slice A5 l5.length c5], .int .u16 b1, .int .u8 b2] w fun e w' => e = .returned (.bool true) ∧ Below w.heap.size w w' := by
  have HR4 := Aside0.mk hr4
  have HR5 := Aside0.mk hr5
  have HC4 := Aside0.mk hc4
  have HC5 := Aside0.mk hc5
  have As := Aside0.mk hsm
  have AA := Aside0.mk hA
  clear hr4 hr5 hc4 hc5 hsm hA
  have AE := Aside0.mk hE
  have AC := Aside0.mk hC
  clear hE hC
  have z1 : ¬ (4000 : Int) < (a1.size : Int) + (a2.size : Int) := by omega
  have z2 : (a1.size : Int) ≤ 4000 := by omega
  have z2b : (a2.size : Int) ≤ 4000 := by omega
  have z7 : (e1 != 0) = true := bne_iff_ne.mpr he1
  clear h4000 he1
  have B1 := Aside0.mk (below_alloc (Below.refl w.heap.size w) (.cells #[.string a0, .string a1, .string a2, .int .i64 a3, .slice A4 l4.length c4, .slice A5 l5.length c5] 25))
  have K1 := Aside0.mk (blk_new w (.cells #[.string a0, .string a1, .string a2, .int .i64 a3, .slice A4 l4.length c4, .slice A5 l5.length c5] 25))
  go_enter Try.func6, Try.ntmps6
  go_wp2_with (first
    | (go_at_call 17; (with_reducible refine (emulatorlaw28_small.calls k a0 a1 a2 a3 A4 c4 l4 A5 c5 l5 true _ ?h1 ?h2 ?h3 ?h4 As.out).mono ?_); (case h1 => exact Kd.C_below HR4.out B1.out); (case h2 => exact HC4.out); (case h3 => exact Kd.C_below HR5.out B1.out); (case h4 => exact HC5.out); rintro e w2 ⟨rfl, hb⟩; have B2 := Aside0.mk (below_step B1.out hb); have K2 := Aside0.mk (blk_below K1.out hb); have L2 := blk_lt K2.out; have hd0 := (blk_cell K2.out 0).trans rfl; have hd1 := (blk_cell K2.out 1).trans rfl; have hd2 := (blk_cell K2.out 2).trans rfl; have hd3 := (blk_cell K2.out 3).trans rfl; have hd4 := (blk_cell K2.out 4).trans rfl; have hd5 := (blk_cell K2.out 5).trans rfl; clear hb)
    | (go_at_call 21; (with_reducible refine (object_Encode.calls k a0 a1 a2 a3 A4 c4 l4 A5 c5 l5 ⟨#[]⟩ e1 _ ?h1 ?h2 ?h3 ?h4 AE.out).mono ?_); (case h1 => exact Kd.C_below HR4.out B2.out); (case h2 => exact HC4.out); (case h3 => exact Kd.C_below HR5.out B2.out); (case h4 => exact HC5.out); rintro e w3 ⟨rfl, hb⟩; have B3 := Aside0.mk (below_step B2.out hb); have K3 := Aside0.mk (blk_below K2.out hb); have L3 := blk_lt K3.out; have he0 := (blk_cell K3.out 0).trans rfl; have he1 := (blk_cell K3.out 1).trans rfl; have he2 := (blk_cell K3.out 2).trans rfl; have he3 := (blk_cell K3.out 3).trans rfl; have he4 := (blk_cell K3.out 4).trans rfl; have he5 := (blk_cell K3.out 5).trans rfl; clear hb)
    | (go_at_call 18; (with_reducible refine (object_Check.calls k a0 a1 a2 a3 A4 c4 l4 A5 c5 l5 e1 _ ?h1 ?h2 ?h3 ?h4 AC.out).mono ?_); (case h1 => exact Kd.C_below HR4.out B3.out); (case h2 => exact HC4.out); (case h3 => exact Kd.C_below HR5.out B3.out); (case h4 => exact HC5.out); rintro e w4 ⟨rfl, hb⟩; have B4 := Aside0.mk (below_step B3.out hb); clear hb)
    | (go_at_call 20; (with_reducible refine (emulatorlaw28_alive.calls k true _ AA.out).mono ?_); rintro e w11 ⟨rfl, hb⟩; have B11 := Aside0.mk (below_step B4.out hb); clear hb))
  go_ret
  exact ⟨rfl, B11.out⟩
end Go.Proofs.Ytenlmckahaniiaa.K
end
section
namespace Go.Proofs.Ytenlmckahaniiaa.K
open Go.RowKit Go.Proofs.YtenlmckahaniiaaW.PrintWords Go.Proofs.YtenlmckahaniiaaW.PrintLast
set_option linter.unusedVariables false
set_option linter.unusedSimpArgs false
def emulatorlaw28_ObjectRoundTrip.f (k : Nat) (a0_0 : ByteArray) (a0_1 : ByteArray) (a0_2 : ByteArray) (a0_3 : Int) (l0_4 : List (S62)) (l0_5 : List (S43)) (a1 : Int) (a2 : Int) : Option Bool :=
  (emulatorlaw28_alive.f k).bind fun al => (if al = true then ((emulatorlaw28_small.f k a0_0 a0_1 a0_2 a0_3 l0_4 l0_5).bind fun t => (if t = true then (if 4000 < a0_1.size + a0_2.size then (if a0_1.size ≤ 17000 ∧ a0_2.size ≤ 17000 then some true else none) else
    ((object_Encode.f k a0_0 a0_1 a0_2 a0_3 l0_4 l0_5).bind fun s => ((object_Check.f k a0_0 a0_1 a0_2 a0_3 l0_4 l0_5).bind fun c => (if s.2 = c then (if c = 0 then
      ((object_Decode.f k s.1).bind fun d => (if d.2.2.2.2.2.2 = 0 then ((emulatorref28_SameModule.f k d.1 d.2.1 d.2.2.1 d.2.2.2.1 d.2.2.2.2.1 d.2.2.2.2.2.1 a0_0 a0_1 a0_2 a0_3 l0_4 l0_5).bind fun sm => (if sm = true then
        (if (0 < s.1.size ∧ s.1.size ≤ 200000000) ∧ (0 ≤ a1 ∧ a1 < 65536) ∧ (0 ≤ a2 ∧ a2 < 256) then ((object_Decode.f k (chg s.1 (a1 % (s.1.size : Int)).toNat a2)).bind fun y => ((object_Decode.f k (s.1.extract 0 (a1 % (s.1.size : Int)).toNat)).bind fun z => (if (y.1 = ⟨#[]⟩ ∧ z.1 = ⟨#[]⟩) ∧ y.2.2.2.2.2.2 ≠ 0 ∧ z.2.2.2.2.2.2 ≠ 0 then some true else none))) else none) else none)) else none))
      else (if s.1 = ⟨#[]⟩ then some true else none)) else none)))) else some true)) else none)
theorem emulatorlaw28_ObjectRoundTrip.calls (k : Nat) (a0_0 : ByteArray) (a0_1 : ByteArray) (a0_2 : ByteArray) (a0_3 : Int) (A0_4 : Option Addr) (c0_4 : Nat) (l0_4 : List (S62)) (A0_5 : Option Addr) (c0_5 : Nat) (l0_5 : List (S43)) (a1 : Int) (a2 : Int) (r : Bool) (w : World) (hr0_4 : Kd.C k62 w A0_4 l0_4.length l0_4) (hc0_4 : l0_4.length ≤ c0_4) (hr0_5 : Kd.C k43 w A0_5 l0_5.length l0_5) (hc0_5 : l0_5.length ≤ c0_5) (h : emulatorlaw28_ObjectRoundTrip.f k a0_0 a0_1 a0_2 a0_3 l0_4 l0_5 a1 a2 = some r) :
  Calls Try.prog 6 #[.agg #[.string a0_0, .string a0_1, .string a0_2, .int .i64 a0_3, .slice A0_4 l0_4.length c0_4, .slice A0_5 l0_5.length c0_5], .int .u16 a1, .int .u8 a2] w fun e w' => e = .returned (.bool r) ∧ Below w.heap.size w w' := by
 obtain ⟨al, hA, h⟩ := Option.bind_eq_some_iff.mp h
 obtain ⟨rfl, h⟩ := ite_some h
 obtain ⟨t, hsm, h⟩ := Option.bind_eq_some_iff.mp h
 cases t with
 | false =>
  rw [if_neg (by decide)] at h
  obtain rfl := Option.some.inj h
  exact rt_walk_large k a0_0 a0_1 a0_2 a0_3 A0_4 c0_4 l0_4 A0_5 c0_5 l0_5 a1 a2 w hr0_4 hc0_4 hr0_5 hc0_5 hsm hA
 | true =>
  rw [if_pos rfl] at h
  by_cases h4 : 4000 < a0_1.size + a0_2.size
  ·rw [if_pos h4] at h
   obtain ⟨h17, h⟩ := ite_some h
   obtain rfl := Option.some.inj h
   exact rt_walk_long k a0_0 a0_1 a0_2 a0_3 A0_4 c0_4 l0_4 A0_5 c0_5 l0_5 a1 a2 w hr0_4 hc0_4 hr0_5 hc0_5 hsm h17 h4 hA
  ·rw [if_neg h4] at h
   obtain ⟨⟨s, e1⟩, hE, h⟩ := Option.bind_eq_some_iff.mp h
   obtain ⟨c, hC, h⟩ := Option.bind_eq_some_iff.mp h
   obtain ⟨he, h⟩ := ite_some h
   have he : e1 = c := he
   subst he
   by_cases hc : e1 = 0
   ·subst hc
    rw [if_pos rfl] at h
    obtain ⟨⟨x0, x1, x2, x3, x4, x5, x6⟩, hD, h⟩ := Option.bind_eq_some_iff.mp h
    obtain ⟨hx, h⟩ := ite_some h
    have hx : x6 = 0 := hx
    subst hx
    obtain ⟨sm, hS, h⟩ := Option.bind_eq_some_iff.mp h
    obtain ⟨hsm1, h2⟩ := ite_some h
    clear h
    subst hsm1
    obtain ⟨hcc, h⟩ := ite_some h2
    clear h2
    have hz1 : 0 < s.size := hcc.1.1
    have hz2 : s.size ≤ 200000000 := hcc.1.2
    have h1 := hcc.2.1
    have h2 := hcc.2.2
    obtain ⟨⟨y0, y1, y2, y3, y4, y5, y6⟩, hD2, h⟩ := Option.bind_eq_some_iff.mp h
    obtain ⟨⟨z0, z1, z2, z3, z4, z5, z6⟩, hD3, h⟩ := Option.bind_eq_some_iff.mp h
    obtain ⟨hyy, h9⟩ := ite_some h
    have hy0 : y0 = ⟨#[]⟩ := hyy.1.1
    have hz0 : z0 = ⟨#[]⟩ := hyy.1.2
    have hy6 : y6 ≠ 0 := hyy.2.1
    have hz6 : z6 ≠ 0 := hyy.2.2
    have hr := Option.some.inj h9
    clear h h9 hyy
    subst hy0
    subst hz0
    subst hr
    have hm1 := Int.emod_nonneg a1 (show (s.size : Int) ≠ 0 by omega)
    have hm2 := Int.emod_lt_of_pos a1 (show (0 : Int) < (s.size : Int) by omega)
    exact rt_walk k a0_0 a0_1 a0_2 a0_3 A0_4 c0_4 l0_4 A0_5 c0_5 l0_5 a1 a2 w hr0_4 hc0_4 hr0_5 hc0_5 s x0 x1 x2 x3 x4 x5 (a1 % (s.size : Int)).toNat y1 y2 y3 y4 y5 z1 z2 z3 z4 z5 y6 z6 hsm (by omega) hE hC hD hS h1 h2 hz2 (by omega) (by omega) hD2 hy6 hD3 hz6 hA
   ·rw [if_neg hc] at h
    obtain ⟨hs, h9⟩ := ite_some h
    have hs : s = ⟨#[]⟩ := hs
    have hr := Option.some.inj h9
    clear h h9
    subst hs
    subst hr
    exact rt_walk_err k a0_0 a0_1 a0_2 a0_3 A0_4 c0_4 l0_4 A0_5 c0_5 l0_5 a1 a2 w hr0_4 hc0_4 hr0_5 hc0_5 e1 hc hsm (by omega) hE hC hA
end Go.Proofs.Ytenlmckahaniiaa.K
end
section
namespace Go.Proofs.Ytenlmckahaniiaa.K
open Go.RowKit Go.Proofs.YtenlmckahaniiaaW.PrintWords Go.Proofs.YtenlmckahaniiaaW.PrintLast
def emulatorlaw28_ObjectRoundTrip.Pure : Prop := ∀ (a0_0 : ByteArray) (a0_1 : ByteArray) (a0_2 : ByteArray) (a0_3 : Int) (l0_4 : List (S62)) (l0_5 : List (S43)) (a1 : Int) (a2 : Int), a0_0.size ≤ 9223372036854775807 → a0_1.size ≤ 9223372036854775807 → a0_2.size ≤ 9223372036854775807 → (Lit.int .i64 a0_3).wf = true → (WfL wf62) l0_4 → (WfL wf43) l0_5 → (Lit.int .u16 a1).wf = true → (Lit.int .u8 a2).wf = true → ∃ k, emulatorlaw28_ObjectRoundTrip.f k a0_0 a0_1 a0_2 a0_3 l0_4 l0_5 a1 a2 = some true
end Go.Proofs.Ytenlmckahaniiaa.K
end
section
set_option linter.unusedVariables false
set_option linter.unusedSimpArgs false
namespace Go.Proofs.Ytenlmckahaniiaa.Obj
open Go Go.RowKit Go.Proofs.Ytenlmckahaniiaa.K Go.Proofs.YtenlmckahaniiaaW.PrintWords Go.Proofs.YtenlmckahaniiaaW.PrintMore Go.Proofs.Ytenlmckahaniiaa.MyStr Go.Proofs.Ytenlmckahaniiaa.Oct
theorem lt_of_le_ne {a b : List UInt8} (h : a ≤ b) (hn : a ≠ b) : a < b := by
  rcases List.le_total b a with h2 | h2
  · exact absurd (List.le_antisymm h h2) hn
  · by_cases h3 : a < b
    · exact h3
    · exact absurd (List.le_antisymm h (List.not_lt.1 h3)) hn
theorem lt_of_le_lt {a b c : List UInt8} (h : a ≤ b) (h2 : b < c) : a < c := by
  refine lt_of_le_ne (List.le_trans h (List.le_of_lt h2)) (fun e => ?_)
  subst e
  have := List.le_antisymm h (List.le_of_lt h2)
  subst this
  exact List.lt_irrefl _ h2
def Asc (l : List (List UInt8)) : Prop := l.Pairwise (· < ·)
theorem Asc.unique {a b : List (List UInt8)} (ha : Asc a) (hb : Asc b) (h : ∀ x, x ∈ a ↔ x ∈ b) : a = b := by
  induction a generalizing b with
  | nil =>
    cases b with
    | nil => rfl
    | cons y b => exact absurd ((h y).2 List.mem_cons_self) (by simp)
  | cons x a ih =>
    cases b with
    | nil => exact absurd ((h x).1 List.mem_cons_self) (by simp)
    | cons y b =>
      obtain ⟨ha1, ha2⟩ := List.pairwise_cons.1 ha
      obtain ⟨hb1, hb2⟩ := List.pairwise_cons.1 hb
      have hxy : x = y := by
        rcases List.mem_cons.1 ((h x).1 List.mem_cons_self) with e | hx
        · exact e
        · rcases List.mem_cons.1 ((h y).2 List.mem_cons_self) with e | hy
          · exact e.symm
          · exact absurd (List.lt_trans (ha1 y hy) (hb1 x hx)) (List.lt_irrefl _)
      subst hxy
      rw [ih ha2 hb2 (fun z => ?_)]
      constructor
      · intro hz
        rcases List.mem_cons.1 ((h z).1 (List.mem_cons_of_mem _ hz)) with e | h'
        · subst e; exact absurd (ha1 z hz) (List.lt_irrefl _)
        · exact h'
      · intro hz
        rcases List.mem_cons.1 ((h z).2 (List.mem_cons_of_mem _ hz)) with e | h'
        · subst e; exact absurd (hb1 z hz) (List.lt_irrefl _)
        · exact h'
theorem get_bang (l : List (List UInt8)) (i : Nat) (h : i < l.length) : l.toArray[i]! = l[i] := by simp [h]
theorem le_get {l : List (List UInt8)} (h : l.Pairwise (· ≤ ·)) (i j : Nat) (hij : i ≤ j) (hj : j < l.length) : l[i] ≤ l[j] := by
  rcases Nat.lt_or_eq_of_le hij with h1 | rfl
  · exact List.pairwise_iff_getElem.1 h i j (by omega) hj h1
  · rcases List.le_total l[i] l[i] with h | h <;> exact h
theorem compact_asc {l : List (List UInt8)} (h : l.Pairwise (· ≤ ·)) : Asc (Lib.compact l) := by
  unfold Asc Lib.compact Lib.compactUpTo
  rw [List.pairwise_map]
  refine List.Pairwise.imp_of_mem (R := fun i j => i < j) ?_ (List.Pairwise.filter _ List.pairwise_lt_range)
  intro i j hi hj hij
  obtain ⟨hj1, hj2⟩ := List.mem_filter.1 hj
  have hj1 := List.mem_range.1 hj1
  unfold Lib.keeps at hj2
  simp only [decide_eq_true_eq] at hj2
  have hne : l.toArray[j]! ≠ l.toArray[j - 1]! := hj2.resolve_left (by omega)
  rw [get_bang l j hj1, get_bang l (j - 1) (by omega)] at hne
  rw [get_bang l i (by omega), get_bang l j hj1]
  exact lt_of_le_lt (le_get h i (j - 1) (by omega) (by omega)) (lt_of_le_ne (le_get h (j - 1) j (by omega) hj1) (fun e => hne e.symm))
theorem first_at (l : List (List UInt8)) (x : List UInt8) (i : Nat) (hi : i < l.length) (hx : l[i] = x) : ∃ j, ∃ hj : j < l.length, l[j] = x ∧ ∀ q (hq : q < j), l[q] ≠ x := by
  induction i using Nat.strongRecOn with
  | _ i ih =>
    by_cases h : ∃ q, ∃ hq : q < i, l[q]'(by omega) = x
    · obtain ⟨q, hq, e⟩ := h
      exact ih q hq (by omega) e
    · exact ⟨i, hi, hx, fun q hq e => h ⟨q, hq, e⟩⟩
theorem compact_mem (l : List (List UInt8)) (x : List UInt8) : x ∈ Lib.compact l ↔ x ∈ l := by
  unfold Lib.compact Lib.compactUpTo
  rw [List.mem_map]
  constructor
  · rintro ⟨i, hi, rfl⟩
    have h1 := List.mem_range.1 (List.mem_filter.1 hi).1
    rw [get_bang l i h1]
    exact List.getElem_mem h1
  · intro h
    obtain ⟨i, hi, e⟩ := List.getElem_of_mem h
    obtain ⟨j, hj, e2, h3⟩ := first_at l x i hi e
    refine ⟨j, List.mem_filter.2 ⟨List.mem_range.2 hj, ?_⟩, by rw [get_bang l j hj, e2]⟩
    unfold Lib.keeps
    simp only [decide_eq_true_eq]
    rcases Nat.eq_zero_or_pos j with h0 | h0
    · exact .inl h0
    · refine .inr ?_
      rw [get_bang l j hj, get_bang l (j - 1) (by omega), e2]
      exact fun e => h3 (j - 1) (by omega) e.symm
theorem sortL_sorted (l : List (List UInt8)) : (sortL l).Pairwise (· ≤ ·) := by
  have h := List.pairwise_mergeSort (le := fun x y : List UInt8 => decide (x ≤ y)) (fun a b c h1 h2 => by simp only [decide_eq_true_eq] at *; exact List.le_trans h1 h2) (fun a b => by
    rcases List.le_total a b with h | h
    · rw [decide_eq_true h]; rfl
    · rw [decide_eq_true h, Bool.or_true]) l
  exact h.imp (fun h => of_decide_eq_true h)
theorem sortL_mem (l : List (List UInt8)) (x : List UInt8) : x ∈ sortL l ↔ x ∈ l := (List.mergeSort_perm l _).mem_iff
def extL (l : List S43) : List (List UInt8) := (l.filter fun x => decide (x.f2 = 4)).map fun x => bs x.f3
def needsL (l : List S43) : List (List UInt8) := Lib.compact (sortL (extL l))
theorem needsL_asc (l : List S43) : Asc (needsL l) := compact_asc (sortL_sorted _)
theorem needsL_mem (l : List S43) (x : List UInt8) : x ∈ needsL l ↔ x ∈ extL l := by unfold needsL; rw [compact_mem, sortL_mem]
theorem extL_length (l : List S43) : (extL l).length ≤ l.length := by unfold extL; rw [List.length_map]; exact List.length_filter_le _ _
theorem extL_take (l : List S43) (i : Nat) (h : i < l.length) : extL (l.take (i + 1)) = extL (l.take i) ++ (if l[i].f2 = 4 then [bs l[i].f3] else []) := by
  unfold extL
  rw [List.take_succ_eq_append_getElem h, List.filter_append, List.map_append]
  congr 1
  by_cases h4 : l[i].f2 = 4 <;> simp [h4]
theorem lofs_bs (xs : List ByteArray) : lofs xs = xs.map bs := rfl
theorem needs_loop (l : List S43) (hn : l.length ≤ 1000000) (d : Nat) : ∀ (i : Nat) (xs : List ByteArray), i + d = l.length → lofs xs = extL (l.take i) → Ev (fun k => object_Needs.l0 k xs l (l.length : Int) (i : Int)) (sofl (extL l)) := by
  induction d with
  | zero =>
    intro i xs hi hx
    refine Ev.step (f := fun _ => some xs) (fun k => by rw [object_Needs.l0, if_neg (by omega)]) ?_
    rw [List.take_of_length_le (by omega)] at hx
    rw [← hx, sofl_lofs]
    exact Ev.now _
  | succ d ih =>
    intro i xs hi hx
    have hlt : i < l.length := by omega
    have he := extL_take l i hlt
    by_cases h4 : l[i].f2 = 4
    · refine Ev.step (fun k => ?_) (ih (i + 1) (xs ++ [l[i].f3]) (by omega) ?_)
      · have hlen : xs.length ≤ 1000000 := by
          have h1 := extL_length (l.take i)
          rw [← hx, lofs_length, List.length_take] at h1
          omega
        rw [object_Needs.l0, if_pos (by omega), if_pos (by omega), if_pos (by omega), rd43 l i hlt, if_pos h4, if_pos (by omega), i64_nat i (by omega)]
      · rw [he, if_pos h4, ← hx, lofs_bs, lofs_bs, List.map_append]; rfl
    · refine Ev.step (fun k => ?_) (ih (i + 1) xs (by omega) ?_)
      · rw [object_Needs.l0, if_pos (by omega), if_pos (by omega), if_pos (by omega), rd43 l i hlt, if_neg h4, i64_nat i (by omega)]
      · rw [he, if_neg h4, List.append_nil, hx]
theorem needs_is (a0 a1 a2 : ByteArray) (a3 : Int) (l4 : List S62) (l5 : List S43) (hn : l5.length ≤ 1000000) : Ev (fun k => object_Needs.f k a0 a1 a2 a3 l4 l5) (sofl (needsL l5)) := by
  have h := needs_loop l5 hn l5.length 0 [] (by omega) (by simp [extL, lofs])
  unfold object_Needs.f
  refine Ev.bind h ?_
  refine Ev.eq (Ev.congr (fun k => if_pos ?_) (Ev.now _)) ?_
  · rw [sofl_length]; have := extL_length l5; omega
  · unfold compS sortS needsL
    rw [lofs_sofl, lofs_sofl]
end Go.Proofs.Ytenlmckahaniiaa.Obj
end
section
set_option linter.unusedVariables false
set_option linter.unusedSimpArgs false
namespace Go.Proofs.Ytenlmckahaniiaa.Obj
open Go Go.RowKit Go.Proofs.Ytenlmckahaniiaa.K Go.Proofs.YtenlmckahaniiaaW.PrintWords Go.Proofs.YtenlmckahaniiaaW.PrintMore Go.Proofs.Ytenlmckahaniiaa.MyStr Go.Proofs.Ytenlmckahaniiaa.Oct
theorem alive_enc : object_Encode.f 300 (⟨#[109]⟩ : ByteArray) (⟨#[]⟩ : ByteArray) (⟨#[]⟩ : ByteArray) 0 ([] : List (S62)) ([] : List (S43)) = some ((⟨#[79, 66, 74, 49, 1, 0, 109, 0, 0, 0, 0, 0, 0, 0, 0, 0, 0, 22, 213, 14, 38]⟩ : ByteArray), 0) := by decide +kernel
theorem alive_dec : (object_Decode.f 300 (⟨#[79, 66, 74, 49, 1, 0, 109, 0, 0, 0, 0, 0, 0, 0, 0, 0, 0, 22, 213, 14, 38]⟩ : ByteArray)).map (fun bt => (bt.1, bt.2.2.2.2.2.2)) = some ((⟨#[109]⟩ : ByteArray), 0) := by decide +kernel
theorem alive_c1 : object_Check.f 300 (⟨#[109]⟩ : ByteArray) (⟨#[120]⟩ : ByteArray) (⟨#[]⟩ : ByteArray) 0 ([] : List (S62)) ([] : List (S43)) = some 1 := by decide +kernel
theorem alive_c2 : object_Check.f 300 (⟨#[109]⟩ : ByteArray) (⟨#[120, 120]⟩ : ByteArray) (⟨#[]⟩ : ByteArray) 0 ([] : List (S62)) (([(⟨1, 2, 1, (⟨#[]⟩ : ByteArray), false⟩ : S43)] : List (S43))) = some 2 := by decide +kernel
def aliveR : List S43 := [(⟨0, 0, 4, (⟨#[98]⟩ : ByteArray), false⟩ : S43), (⟨0, 0, 4, (⟨#[97]⟩ : ByteArray), false⟩ : S43), (⟨0, 0, 4, (⟨#[98]⟩ : ByteArray), false⟩ : S43)]
theorem alive_needs : needsL aliveR = [[97], [98]] := by
  refine Asc.unique (needsL_asc _) (by unfold Asc; simp only [List.pairwise_cons]; exact ⟨by simp; decide, by simp, List.Pairwise.nil⟩) (fun x => ?_)
  rw [needsL_mem, show extL aliveR = [[98], [97], [98]] by decide]
  simp only [List.mem_cons, List.not_mem_nil, or_false]
  constructor
  · rintro (h | h | h) <;> simp [h]
  · rintro (h | h) <;> simp [h]
theorem alive_is : Ev (fun k => emulatorlaw28_alive.f k) true := by
  unfold emulatorlaw28_alive.f
  refine Ev.bind (Ev.of (fun k => object_Encode.mono _ _ _ _ _ _ k) alive_enc) ?_
  obtain ⟨bt, hbt, he⟩ := Option.map_eq_some_iff.1 alive_dec
  refine Ev.bind (Ev.of (fun k => object_Decode.mono _ k) hbt) ?_
  have e1 : bt.1 = ⟨#[109]⟩ := congrArg Prod.fst he
  have e2 : bt.2.2.2.2.2.2 = 0 := congrArg Prod.snd he
  refine Ev.bind (needs_is _ _ _ _ [] aliveR (by decide)) ?_
  rw [alive_needs]
  refine Ev.congr (fun k => by rw [if_pos (by decide), if_pos (by decide), if_pos (by rw [e1, toList_bs]; rfl), if_pos e2, if_pos (by decide), if_pos (by decide), if_pos (by rw [toList_bs]; rfl), if_pos (by decide), if_pos (by rw [toList_bs]; rfl)]) ?_
  refine Ev.bind (Ev.of (fun k => object_Check.mono _ _ _ _ _ _ k) alive_c1) ?_
  refine Ev.congr (fun k => if_pos rfl) ?_
  refine Ev.bind (Ev.of (fun k => object_Check.mono _ _ _ _ _ _ k) alive_c2) ?_
  exact Ev.now _
end Go.Proofs.Ytenlmckahaniiaa.Obj
end
section
set_option linter.unusedVariables false
set_option linter.unusedSimpArgs false
namespace Go.Proofs.Ytenlmckahaniiaa.Obj
open Go Go.RowKit Go.Proofs.Ytenlmckahaniiaa.K Go.Proofs.YtenlmckahaniiaaW.PrintWords Go.Proofs.YtenlmckahaniiaaW.PrintMore Go.Proofs.Ytenlmckahaniiaa.MyBits Go.Proofs.Ytenlmckahaniiaa.MyStr Go.Proofs.Ytenlmckahaniiaa.Oct
theorem idx3 : ∀ c : Fin 256, decide (idxB (⟨#[95, 46, 36]⟩ : ByteArray) (c.val : Int) ≥ 0) = (decide ((c.val : Int) = 95) || decide ((c.val : Int) = 46) || decide ((c.val : Int) = 36)) := by decide +kernel
theorem idx3i (c : Int) (h0 : 0 ≤ c) (h1 : c < 256) : (idxB (⟨#[95, 46, 36]⟩ : ByteArray) c ≥ 0) ↔ (c = 95 ∨ c = 46 ∨ c = 36) := by
  have := idx3 ⟨c.toNat, by omega⟩
  simp only at this
  rw [show ((c.toNat : Nat) : Int) = c by omega] at this
  have h2 := Bool.eq_iff_iff.1 this
  simp only [decide_eq_true_eq, Bool.or_eq_true] at h2
  rw [h2, or_assoc]
theorem isName_step (k : Nat) (y : List Int) (n i : Int) (h0 : 0 ≤ i) (h1 : i < n) (h2 : i < (y.length : Int)) (r0 : 0 ≤ rd y i) (r1 : rd y i < 256) :
    object_isName.l0 (k + 1) y n i = if okc (rd y i) = true then object_isName.l0 k y n (wrap64 (i + 1)) else some false := by
  rw [object_isName.l0, if_pos h1, if_pos h0, if_pos h2]
  have e := idx3i (rd y i) r0 r1
  unfold strings_IndexByte.f
  simp only [Option.bind_some]
  generalize rd y i = c at *
  unfold okc
  simp only [Bool.or_eq_true, Bool.and_eq_true, decide_eq_true_eq]
  repeat' split
  all_goals first
    | rfl
    | (exfalso; omega)
theorem isName_loop (l : List UInt8) (hl : l.length < 9223372036854775807) (d : Nat) : ∀ i : Nat, i + d = l.length → Ev (fun k => object_isName.l0 k (ints l) (l.length : Int) (i : Int)) (((ints l).drop i).all okc) := by
  induction d with
  | zero =>
    intro i hi
    refine Ev.step (f := fun _ => some true) (fun k => by rw [object_isName.l0, if_neg (by omega)]) ?_
    rw [List.drop_eq_nil_of_le (by rw [ints_length]; omega)]
    exact Ev.now _
  | succ d ih =>
    intro i hi
    obtain ⟨e, r0, r1⟩ := rd_ints l i (by omega)
    refine Ev.step (f := fun k => if okc (rd (ints l) (i : Int)) = true then object_isName.l0 k (ints l) (l.length : Int) ((i + 1 : Nat) : Int) else some false) (fun k => by rw [isName_step k _ _ _ (by omega) (by omega) (by rw [ints_length]; omega) r0 r1, i64_nat i (by omega)]) ?_
    rw [drop_all _ _ _ (by rw [ints_length]; omega)]
    refine Ev.ite (fun h => ?_) (fun h => ?_)
    · rw [h, Bool.true_and]
      exact ih (i + 1) (by omega)
    · rw [Bool.not_eq_true] at h
      rw [h, Bool.false_and]
      exact Ev.now _
theorem isName_is (s : ByteArray) (hs : s.size ≤ 9223372036854775806) : Ev (fun k => object_isName.f k s) (isNm s) := by
  have hall : Ev (fun k => object_isName.j0 k s false) ((ints (bs s)).all okc) := by
    refine Ev.step (f := fun k => object_isName.l0 k (ints (bs s)) ((bs s).length : Int) 0) (fun k => ?_) (by have := isName_loop (bs s) (by rw [bs_length]; omega) (bs s).length 0 (by omega); simpa using this)
    rw [object_isName.j0, if_neg (by decide), if_pos (by omega)]
    simp only [Option.bind_some]
    rw [show bytesOf s = ints (bs s) from rfl, ints_length]
  have hno : Ev (fun k => object_isName.j0 k s true) false := Ev.step (f := fun _ => some false) (fun k => by rw [object_isName.j0, if_pos rfl]) (Ev.now _)
  unfold object_isName.f isNm nameL
  refine Ev.ite (fun h => ?_) (fun h => ?_)
  · rw [toList_nil] at h
    rw [h]; exact hno
  · rw [toList_nil] at h
    have hp : 0 < s.size := by rw [← bs_length]; exact List.length_pos_iff.2 h
    rw [decide_eq_true h, Bool.true_and, bs_length]
    refine Ev.ite (fun h1 => ?_) (fun h1 => ?_)
    · rw [decide_eq_false (show ¬ s.size ≤ 14 by omega)]; exact hno
    · rw [decide_eq_true (show s.size ≤ 14 by omega), Bool.true_and, ← show bt s 0 = byteAt (bs s) 0 from bt_bs s 0]
      refine Ev.congr (fun k => if_pos (by omega)) ?_
      refine Ev.ite (fun h2 => ?_) (fun h2 => ?_)
      · rw [decide_eq_true (show 48 ≤ bt s 0 from h2), Bool.true_and]
        by_cases h3 : bt s 0 ≤ 57
        · rw [decide_eq_true h3]; exact hno
        · rw [decide_eq_false h3]; exact hall
      · rw [decide_eq_false (show ¬ 48 ≤ bt s 0 from h2), Bool.false_and]; exact hall
theorem syms_loop (l : List S62) (hn : l.length ≤ 1000000) (hf : Fine62 l) (d : Nat) : ∀ (i : Nat) (m : List (List UInt8)), i + d = l.length → m.length ≤ i → Ev (fun k => object_checkSymbols.l0 k l m (i : Int)) (symsR m (l.drop i)) := by
  induction d with
  | zero =>
    intro i m hi _
    rw [List.drop_eq_nil_of_le (by omega)]
    exact Ev.step (f := fun _ => some 0) (fun k => by rw [object_checkSymbols.l0, if_neg (by omega)]) (Ev.now _)
  | succ d ih =>
    intro i m hi hm
    have hlt : i < l.length := by omega
    rw [List.drop_eq_getElem_cons hlt]
    unfold symsR
    refine Ev.step (f := fun k => (object_isName.f k l[i].f0).bind fun t => (if t = true then (if bs l[i].f0 ∈ m then some 6 else (if symOk l[i] = true then object_checkSymbols.l0 k l (m ++ [bs l[i].f0]) ((i + 1 : Nat) : Int) else some 2)) else some 4)) (fun k => ?_) ?_
    · rw [object_checkSymbols.l0, if_pos (by omega), if_pos (by omega), rd62 l i hlt, if_pos (show m.length < 1000000 by omega), i64_nat i (by omega)]
      rfl
    · refine Ev.bind (isName_is _ (hf _ (List.getElem_mem hlt))) ?_
      refine Ev.eq (Ev.ite (r := if isNm l[i].f0 = true then (if bs l[i].f0 ∈ m then 6 else if symOk l[i] = true then symsR (m ++ [bs l[i].f0]) (l.drop (i + 1)) else 2) else 4) (fun h => ?_) (fun h => ?_)) rfl
      · rw [if_pos h]
        refine Ev.ite (fun h2 => ?_) (fun h2 => ?_)
        · rw [if_pos h2]; exact Ev.now _
        · rw [if_neg h2]
          refine Ev.ite (fun h3 => ?_) (fun h3 => ?_)
          · rw [if_pos h3]
            exact ih (i + 1) _ (by omega) (by simp; omega)
          · rw [if_neg h3]; exact Ev.now _
      · rw [if_neg h]; exact Ev.now _
theorem syms_is (l : List S62) (hn : l.length ≤ 1000000) (hf : Fine62 l) : Ev (fun k => object_checkSymbols.f k l) (symsR [] l) := by
  have := syms_loop l hn hf l.length 0 [] (by omega) (Nat.le_refl _)
  rw [List.drop_zero] at this
  exact this
theorem rel_j3 (x : S43) (hs : x.f3.size ≤ 9223372036854775806) (b : Bool) : Ev (fun k => object_checkReloc.j3 k b x.f0 x.f1 x.f2 x.f3 x.f4) (if b = true then 2 else if x.f2 = 4 then (if isNm x.f3 = true then 0 else 4) else (if bs x.f3 = [] then 0 else 4)) := by
  refine Ev.step (f := fun k => if b = true then some 2 else (if x.f2 = 4 then ((object_isName.f k x.f3).bind fun t => (if t = true then some 0 else some 4)) else (if bs x.f3 = [] then some 0 else some 4))) (fun k => by rw [object_checkReloc.j3, toList_bs]) ?_
  refine Ev.ite (fun h => ?_) (fun h => ?_)
  · rw [if_pos h]; exact Ev.now _
  · rw [if_neg h]
    refine Ev.ite (fun h => ?_) (fun h => ?_)
    · rw [if_pos h]
      refine Ev.bind (isName_is _ hs) ?_
      refine Ev.ite (fun h => ?_) (fun h => ?_)
      · rw [if_pos h]; exact Ev.now _
      · rw [if_neg h]; exact Ev.now _
    · rw [if_neg h]
      refine Ev.ite (fun h => ?_) (fun h => ?_)
      · rw [if_pos h]; exact Ev.now _
      · rw [if_neg h]; exact Ev.now _
theorem rel_j2 (x : S43) (hs : x.f3.size ≤ 9223372036854775806) (b : Bool) : Ev (fun k => object_checkReloc.j2 k b x.f0 x.f1 x.f2 x.f3 x.f4) (if b = true then 2 else if x.f2 < 0 ∨ x.f2 > 4 ∨ (x.f2 = 0 ∧ x.f4 = false) then 2 else if x.f2 = 4 then (if isNm x.f3 = true then 0 else 4) else (if bs x.f3 = [] then 0 else 4)) := by
  have e := fun b' => rel_j3 x hs b'
  refine Ev.step (fun k => by rw [object_checkReloc.j2]) ?_
  refine Ev.ite (fun h => ?_) (fun h => ?_)
  · rw [if_pos h]; exact Ev.now _
  · rw [if_neg h]
    refine Ev.ite (fun h => ?_) (fun h => Ev.ite (fun h2 => ?_) (fun h2 => Ev.ite (fun h3 => ?_) (fun h3 => ?_)))
    · rw [if_pos (by omega)]; exact e true
    · rw [if_pos (by omega)]; exact e true
    · cases h4 : x.f4 with
      | true => rw [if_neg (by simp; omega)]; simpa [h4] using e false
      | false => rw [if_pos (by simp [h3])]; simpa [h4] using e true
    · rw [if_neg (by omega)]; exact e false
theorem rel_j1 (x y : S43) (hs : x.f3.size ≤ 9223372036854775806) (b : Bool) : Ev (fun k => object_checkReloc.j1 k b x.f0 x.f1 x.f2 x.f3 x.f4 y.f0 y.f1 y.f2 y.f3 y.f4) (if b = true then 2 else if x.f0 < y.f0 ∨ (x.f0 = y.f0 ∧ x.f1 ≤ y.f1) then 2 else if x.f2 < 0 ∨ x.f2 > 4 ∨ (x.f2 = 0 ∧ x.f4 = false) then 2 else if x.f2 = 4 then (if isNm x.f3 = true then 0 else 4) else (if bs x.f3 = [] then 0 else 4)) := by
  have e := fun b' => rel_j2 x hs b'
  refine Ev.step (fun k => by rw [object_checkReloc.j1]) ?_
  refine Ev.ite (fun h => ?_) (fun h => ?_)
  · rw [if_pos h]; exact Ev.now _
  · rw [if_neg h]
    refine Ev.ite (fun h => ?_) (fun h => Ev.ite (fun h2 => ?_) (fun h2 => ?_))
    · rw [if_pos (by omega)]; exact e true
    · by_cases h3 : x.f1 ≤ y.f1
      · rw [if_pos (by omega), decide_eq_true h3]; exact e true
      · rw [if_neg (by omega), decide_eq_false h3]; exact e false
    · rw [if_neg (by omega)]; exact e false
theorem rel_j0 (sz : Int) (x y : S43) (hs : x.f3.size ≤ 9223372036854775806) : Ev (fun k => object_checkReloc.j0 k sz x.f0 x.f1 x.f2 x.f3 x.f4 y.f0 y.f1 y.f2 y.f3 y.f4) (relT sz x y) := by
  have e := fun b' => rel_j1 x y hs b'
  unfold relT
  refine Ev.step (fun k => by rw [object_checkReloc.j0]) ?_
  refine Ev.ite (fun h => ?_) (fun h => Ev.ite (fun h2 => ?_) (fun h2 => ?_))
  · rw [if_pos (by omega)]; exact e true
  · by_cases h3 : x.f1 > wrap64 (sz - 2)
    · rw [if_pos (by omega), decide_eq_true h3]; exact e true
    · rw [if_neg (by omega), decide_eq_false h3]; exact e false
  · rw [if_pos (by omega)]; exact e true
theorem rel_is (a0 a1 a2 : ByteArray) (a3 : Int) (l4 : List S62) (l5 : List S43) (x y : S43) (hs : x.f3.size ≤ 9223372036854775806) :
    Ev (fun k => object_checkReloc.f k a0 a1 a2 a3 l4 l5 x.f0 x.f1 x.f2 x.f3 x.f4 y.f0 y.f1 y.f2 y.f3 y.f4) (relR (a1.size : Int) (a2.size : Int) x y) := by
  unfold object_checkReloc.f relR
  refine Ev.ite (fun h => ?_) (fun h => Ev.ite (fun h2 => ?_) (fun h2 => ?_))
  · rw [if_neg (by omega), if_neg (show ¬ x.f0 = 2 by omega)]; exact rel_j0 _ x y hs
  · rw [if_neg (by omega), if_pos h2]; exact rel_j0 _ x y hs
  · rw [if_pos (by omega)]; exact Ev.now _
theorem check_l0 (a0 a1 a2 : ByteArray) (a3 : Int) (l4 : List S62) (l5 : List S43) (hn : l5.length ≤ 1000000) (hf : Fine43 l5) (d : Nat) : ∀ (i : Nat) (b : S43), i + d = l5.length →
    Ev (fun k => object_Check.l0 k l5 (l5.length : Int) (i : Int) a0 a1 a2 a3 l4 l5 b.f0 b.f1 b.f2 b.f3 b.f4) (relsR (a1.size : Int) (a2.size : Int) b (l5.drop i)) := by
  induction d with
  | zero =>
    intro i b hi
    rw [List.drop_eq_nil_of_le (by omega)]
    exact Ev.step (f := fun _ => some 0) (fun k => by rw [object_Check.l0, if_neg (by omega)]) (Ev.now _)
  | succ d ih =>
    intro i b hi
    have hlt : i < l5.length := by omega
    rw [List.drop_eq_getElem_cons hlt]
    unfold relsR
    refine Ev.step (fun k => by rw [object_Check.l0, if_pos (by omega), if_pos (by omega), if_pos (by omega), rd43 l5 i hlt, i64_nat i (by omega)]) ?_
    refine Ev.bind (rel_is a0 a1 a2 a3 l4 l5 l5[i] b (hf _ (List.getElem_mem hlt))) ?_
    refine Ev.ite (fun h => ?_) (fun h => ?_)
    · rw [if_pos h]; exact ih (i + 1) l5[i] (by omega)
    · rw [if_neg h]; exact Ev.now _
theorem check_j0 (a0 a1 a2 : ByteArray) (a3 : Int) (l4 : List S62) (l5 : List S43) (hf : Fine a0 l4 l5) (b : Bool) (h4 : l4.length ≤ 1000000) (h5 : l5.length ≤ 1000000) :
    Ev (fun k => object_Check.j0 k b a0 a1 a2 a3 l4 l5) (if b = true then 7 else if a1.size % 2 ≠ 0 ∨ a3 < 0 then 1 else if symsR [] l4 = 0 then relsR (a1.size : Int) (a2.size : Int) b0 l5 else symsR [] l4) := by
  refine Ev.step (fun k => by rw [object_Check.j0]) ?_
  refine Ev.ite (fun h => ?_) (fun h => ?_)
  · rw [if_pos h]; exact Ev.now _
  · rw [if_neg h]
    refine Ev.ite (fun h => Ev.ite (fun h2 => ?_) (fun h2 => ?_)) (fun h => ?_)
    · rw [if_pos (by omega)]; exact Ev.now _
    · rw [if_neg (by omega)]
      refine Ev.bind (syms_is l4 h4 hf.h4) ?_
      refine Ev.ite (fun h => ?_) (fun h => ?_)
      · rw [if_pos h]
        have := check_l0 a0 a1 a2 a3 l4 l5 h5 hf.h5 l5.length 0 b0 (by omega)
        rw [List.drop_zero] at this
        exact this
      · rw [if_neg h]; exact Ev.now _
    · rw [if_pos (by omega)]; exact Ev.now _
theorem check_is (a0 a1 a2 : ByteArray) (a3 : Int) (l4 : List S62) (l5 : List S43) (hf : Fine a0 l4 l5) (h4 : l4.length ≤ 1000000) (h5 : l5.length ≤ 1000000) :
    Ev (fun k => object_Check.f k a0 a1 a2 a3 l4 l5) (checkR a0 a1 a2 a3 l4 l5) := by
  have e := fun b => check_j0 a0 a1 a2 a3 l4 l5 hf b h4 h5
  unfold object_Check.f checkR
  refine Ev.bind (isName_is a0 hf.h0) ?_
  refine Ev.ite (fun h => ?_) (fun h => ?_)
  · rw [if_pos h]
    refine Ev.ite (fun h => ?_) (fun h1 => Ev.ite (fun h => ?_) (fun h2 => Ev.ite (fun h => ?_) (fun h3 => Ev.ite (fun h => ?_) (fun h6 => ?_))))
    · rw [if_pos (by omega)]; exact e true
    · rw [if_pos (by omega)]; exact e true
    · rw [if_pos (by omega)]; exact e true
    · rw [if_pos (by omega)]; exact e true
    · by_cases h7 : (l5.length : Int) > 2048
      · rw [if_pos (by omega), decide_eq_true h7]; exact e true
      · rw [if_neg (by omega), decide_eq_false h7]; exact e false
  · rw [if_neg h]; exact Ev.now _
end Go.Proofs.Ytenlmckahaniiaa.Obj
end
section
set_option linter.unusedVariables false
set_option linter.unusedSimpArgs false
namespace Go.Proofs.Ytenlmckahaniiaa.Obj
open Go Go.RowKit Go.Proofs.Ytenlmckahaniiaa.K Go.Proofs.YtenlmckahaniiaaW.PrintWords Go.Proofs.YtenlmckahaniiaaW.PrintMore Go.Proofs.Ytenlmckahaniiaa.MyBits Go.Proofs.Ytenlmckahaniiaa.MyStr Go.Proofs.Ytenlmckahaniiaa.Oct
theorem truth_is (b : Bool) : object_truth.f b = some (mkS (bitB b)) := by cases b <;> rfl
theorem put1_is (n : Int) (h : 0 ≤ n) : Ev (fun k => octet_Put.f k n 1) (mkS (le n 1)) := by
  have := put_is n 1
  rwa [mx_id h] at this
theorem put2_is (n : Int) (h : 0 ≤ n) : Ev (fun k => octet_Put.f k n 2) (mkS (le n 2)) := by
  have := put_is n 2
  rwa [mx_id h] at this
theorem body_l0 (l : List S62) (hV : ∀ s ∈ l, SymV s) (hn : l.length ≤ 256) (P : List UInt8) (hP : P.length ≤ 1000000) (d : Nat) : ∀ i : Nat, i + d = l.length →
    Ev (fun k => object_body.l0 k l (mkS (P ++ symsB (l.take i))) (i : Int)) (mkS (P ++ symsB l)) := by
  induction d with
  | zero =>
    intro i hi
    rw [List.take_of_length_le (by omega)]
    exact Ev.step (f := fun _ => some _) (fun k => by rw [object_body.l0, if_neg (by omega)]) (Ev.now _)
  | succ d ih =>
    intro i hi
    have hlt : i < l.length := by omega
    have hs := hV _ (List.getElem_mem hlt)
    have h1 := symsB_length (l.take i)
    have h2 := symB_length l[i]
    rw [List.length_take] at h1
    have hI := ih (i + 1) (by omega)
    rw [symsB_take l i hlt, ← List.append_assoc] at hI
    refine Ev.step (fun k => by rw [object_body.l0, if_pos (by omega), if_pos (by omega), rd62 l i hlt, i64_nat i (by omega)]) ?_
    refine Ev.bind (putText_is _ (by have := hs.len; omega)) (Ev.bind (put1_is _ hs.h1.1) (Ev.bind (put2_is _ hs.h2.1) ?_))
    refine Ev.congr (fun k => by rw [truth_is, Option.bind_some]) ?_
    rw [mkS_append, mkS_append, mkS_append, mkS_append]
    refine Ev.congr (fun k => if_pos ?_) hI
    rw [mkS_size, mkS_size, List.length_append]
    unfold symB at h2
    omega
theorem body_l1 (l : List S43) (hV : ∀ s ∈ l, RelV s) (hn : l.length ≤ 2048) (P : List UInt8) (hP : P.length ≤ 100000000) (d : Nat) : ∀ i : Nat, i + d = l.length →
    Ev (fun k => object_body.l1 k l (mkS (P ++ relsB (l.take i))) (i : Int)) (mkS (P ++ relsB l)) := by
  induction d with
  | zero =>
    intro i hi
    rw [List.take_of_length_le (by omega)]
    exact Ev.step (f := fun _ => some _) (fun k => by rw [object_body.l1, if_neg (by omega)]) (Ev.now _)
  | succ d ih =>
    intro i hi
    have hlt : i < l.length := by omega
    have hs := hV _ (List.getElem_mem hlt)
    have h1 := relsB_length (l.take i)
    have h2 := relB_length l[i]
    have hs0 := hs.h0
    rw [List.length_take] at h1
    have hI := ih (i + 1) (by omega)
    rw [relsB_take l i hlt, ← List.append_assoc] at hI
    refine Ev.step (fun k => by rw [object_body.l1, if_pos (by omega), if_pos (by omega), rd43 l i hlt, i64_nat i (by omega)]) ?_
    refine Ev.bind (put1_is _ (by omega)) (Ev.bind (put2_is _ hs.h1.1) (Ev.bind (put1_is _ hs.h2.1) (Ev.bind (putText_is _ (by have := hs.len; omega)) ?_)))
    refine Ev.congr (fun k => by rw [truth_is, Option.bind_some]) ?_
    rw [mkS_append, mkS_append, mkS_append, mkS_append, mkS_append]
    refine Ev.congr (fun k => if_pos ?_) hI
    rw [mkS_size, mkS_size, List.length_append]
    unfold relB at h2
    omega
theorem body_is {m : Md} (hV : Valid m) : Ev (fun k => object_body.f k m.a0 m.a1 m.a2 m.a3 m.l4 m.l5) (mkS (bodyB m)) := by
  have hh := headB_length m
  have n4 := hV.n4
  have n5 := hV.n5
  have hsl := symsB_length m.l4
  unfold object_body.f
  refine Ev.bind (putText_is _ (by have := (nm_len hV.h0).2; omega)) (Ev.bind (putText_is _ (by have := hV.h1.1; omega)) (Ev.bind (putText_is _ (by have := hV.h2; omega)) (Ev.bind (put2_is _ hV.h3.1) ?_)))
  have e : ((((⟨#[79, 66, 74, 49]⟩ : ByteArray) ++ mkS (putT (bs m.a0))) ++ mkS (putT (bs m.a1))) ++ mkS (putT (bs m.a2))) ++ mkS (le m.a3 2) = mkS (headB m) := by
    rw [show (⟨#[79, 66, 74, 49]⟩ : ByteArray) = mkS [79, 66, 74, 49] from rfl, mkS_append, mkS_append, mkS_append, mkS_append]; rfl
  rw [e]
  refine Ev.congr (fun k => if_pos (by rw [mkS_size]; omega)) ?_
  refine Ev.bind (put2_is _ (by omega)) ?_
  refine Ev.congr (fun k => if_pos (by rw [mkS_size, mkS_size, le_length]; omega)) ?_
  rw [mkS_append]
  have h0 := body_l0 m.l4 hV.h4 n4 (headB m ++ le (m.l4.length : Int) 2) (by rw [List.length_append, le_length]; omega) m.l4.length 0 (by omega)
  rw [List.take_zero, show symsB [] = [] from rfl, List.append_nil] at h0
  refine Ev.bind h0 (Ev.bind (put2_is _ (by omega)) ?_)
  have hl : ((headB m ++ le (m.l4.length : Int) 2) ++ symsB m.l4).length ≤ 50000000 := by rw [List.length_append, List.length_append, le_length]; omega
  refine Ev.congr (fun k => if_pos (by rw [mkS_size, mkS_size, le_length]; show (headB m ++ le (m.l4.length : Int) 2 ++ symsB m.l4).length + 2 ≤ _; omega)) ?_
  rw [mkS_append]
  have h1 := body_l1 m.l5 hV.h5 n5 (headB m ++ le (m.l4.length : Int) 2 ++ symsB m.l4 ++ le (m.l5.length : Int) 2) (by rw [List.length_append, le_length]; omega) m.l5.length 0 (by omega)
  rw [List.take_zero, show relsB [] = [] from rfl, List.append_nil] at h1
  exact h1
theorem check_m {m : Md} (hf : Fine m.a0 m.l4 m.l5) (h4 : m.l4.length ≤ 1000000) (h5 : m.l5.length ≤ 1000000) : Ev (fun k => object_Check.f k m.a0 m.a1 m.a2 m.a3 m.l4 m.l5) m.check := check_is _ _ _ _ _ _ hf h4 h5
theorem encode_is {m : Md} (hf : Fine m.a0 m.l4 m.l5) (h4 : m.l4.length ≤ 1000000) (h5 : m.l5.length ≤ 1000000) : Ev (fun k => object_Encode.f k m.a0 m.a1 m.a2 m.a3 m.l4 m.l5) (mkS (encR m).1, (encR m).2) := by
  unfold object_Encode.f encR
  refine Ev.bind (check_m hf h4 h5) ?_
  by_cases h : m.check = 0
  · have hV := valid_of h
    have hb := bodyB_length hV
    rw [if_pos h]
    refine Ev.congr (fun k => if_pos h) ?_
    refine Ev.bind (body_is hV) ?_
    refine Ev.bind (seal_is _ (by rw [mkS_size]; omega)) ?_
    rw [bs_mkS]
    exact Ev.now _
  · rw [if_neg h]
    exact Ev.congr (fun k => if_neg h) (Ev.now _)
end Go.Proofs.Ytenlmckahaniiaa.Obj
end
