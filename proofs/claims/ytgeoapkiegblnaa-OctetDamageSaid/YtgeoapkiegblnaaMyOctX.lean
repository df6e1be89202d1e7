/- The law OctetDamage: its walk, by hand: a byte is stored into a row that a conversion has laid. -/
import Derived.Test.YtgeoapkiegblnaaMyW
import Derived.Test.YtgeoapkiegblnaaMyStr
import Derived.Test.YtgeoapkiegblnaaKx5
import Derived.Test.YtgeoapkiegblnaaKx8
import Derived.Test.YtgeoapkiegblnaaKx12
set_option linter.unusedVariables false
set_option linter.unusedSimpArgs false
namespace Go.Proofs.Ytgeoapkiegblnaa.K
open Go Go.RowKit Go.Proofs.YtgeoapkiegblnaaW.PrintWords Go.Proofs.YtgeoapkiegblnaaW.PrintLast

section
variable {P : Program} {ops : Array Oper} {rest : List Oper} {o : Oper} {a : Act} {Q : Exit → Act → World → Prop}
/-- '[]byte(s)': the row, its cells, none of them frozen. -/
theorem conv_own {w0 W : World} (base e : Nat) (hgd : o.guard = none) (src dst : TypeId) (x : Operand) (ho : o.op = .convert src dst x) (s : ByteArray) (hx : a.eval x = .string s)
    {u : TypeDesc} (hs : P.underlying src = some u) (hdst : P.underlying dst = some (.slice e)) (he : P.underlying e = some (.int .u8)) (HB : Below base w0 W) (hbase : base ≤ W.heap.size)
    (h : ∀ g cap w1, base ≤ g → (∀ j, j < s.size → w1.cell? ⟨g, j, none⟩ = some (.int .u8 (rd (bytesOf s) (j : Int)))) → (∀ j, j < s.size → w1.frozen? ⟨g, j, none⟩ = false) → Below base w0 w1 → wpList P ops Q rest (a.put o.dst (.slice (some ⟨g, 0, none⟩) s.size cap)) w1) : wpList P ops Q (o :: rest) a W := by
  have hrun : (execOp a.eval o).run P W = .ok (.value (.slice (some ⟨W.heap.size, 0, none⟩) s.size (grownCap W s.size 0 e))) (Lib.bytesWorld W e s) := by
    have hr := Lib.run_convert_string_bytes W src dst e s hs hdst he
    simp [execOp, ho, hx, hr]
  have hcap := grownCap_ge W s.size 0 e
  have hsz : (Lib.bytesCells W e s).size = grownCap W s.size 0 e := by simp [Lib.bytesCells]; omega
  refine Kd.event_run hgd hrun (h W.heap.size _ _ hbase (fun j hj => ?_) (fun j hj => ?_) (bytes_below HB hbase e s))
  · rw [Lib.bytesWorld_cell W e s j hj]
    congr 2
    unfold rd
    rw [show ((j : Int)).toNat = j by omega]
    unfold bytesOf
    rw [List.getD_eq_getElem?_getD, List.getD_eq_getElem?_getD, List.getElem?_map]
    cases s.data.toList[j]? <;> rfl
  · simp [World.frozen?, Lib.bytesWorld_at_new, hsz]
    omega
end
theorem under5 : Try.prog.underlying 5 = some (.int .u8) := by kernel_rfl
theorem under9 : Try.prog.underlying 9 = some .string := by kernel_rfl
theorem under35 : Try.prog.underlying 35 = some (.slice 5) := by kernel_rfl

theorem str_after {w2 : World} {g cap q : Nat} {s : ByteArray} (hc : ∀ j, j < s.size → w2.cell? ⟨g, j, none⟩ = some (.int .u8 (rd (bytesOf s) (j : Int)))) (hqs : q < s.size) (x : Int) :
    (convert 35 9 (.slice (some ⟨g, 0, none⟩) s.size cap)).run Try.prog (w2.setCell ⟨g, q, none⟩ (.int .u8 x)) = .ok (.string (strOfNums ((bytesOf s).set q x))) (w2.setCell ⟨g, q, none⟩ (.int .u8 x)) := by
  have hl : (bytesOf s).length = s.size := bytesOf_length s
  refine run_convert_bytes_arg _ 35 5 under35 under5 g 0 s.size cap ((bytesOf s).set q x) (by rw [List.length_set, hl]) (fun i hi => ?_) 9 under9
  rw [Nat.zero_add, List.getD_eq_getElem?_getD, List.getElem?_set]
  by_cases h : q = i
  · subst h
    rw [World.cell?_setCell_same' w2 _ _ (by rw [hc q hqs]; rfl), if_pos rfl, if_pos (by omega)]; rfl
  · have hne : (⟨g, q, none⟩ : Addr) ≠ ⟨g, i, none⟩ := by intro h'; injection h' with _ h2; exact h h2
    rw [World.cell?_setCell_other _ _ _ _ hne, hc i hi, if_neg h]
    congr 2
/-- The byte that is stored. -/
def dmgB (s : ByteArray) (q : Nat) (b : Int) : Int := Go.bits .xor .u8 (rd (bytesOf s) (q : Int)) (2 ^ (b % 8).toNat % 256)
def dmg (s : ByteArray) (q : Nat) (b : Int) : ByteArray := strOfNums ((bytesOf s).set q (dmgB s q b))

set_option maxHeartbeats 4000000 in
set_option maxRecDepth 100000 in
theorem damage_walk (k : Nat) (a0 s t1 : ByteArray) (a1 a2 t2 : Int) (q : Nat) (w : World) (h500 : a0.size ≤ 500) (hS : octet_Seal.f k a0 = some s) (hsz : s.size = a0.size + 4) (ha1 : 0 ≤ a1 ∧ a1 < 65536) (ha2 : 0 ≤ a2 ∧ a2 < 256) (hq : a1 % (s.size : Int) = (q : Int)) (hqs : q < s.size)
    (hO : octet_Open.f k (dmg s q a2) = some ((⟨#[]⟩ : ByteArray), 10)) (hA : emulatorlaw03_alive.f k = some true) :
    Calls Try.prog 6 #[.string a0, .int .u16 a1, .int .u8 a2] w fun e w' => e = .returned (.bool true) ∧ Below w.heap.size w w' := by
  have AS := Aside0.mk hS
  have AA := Aside0.mk hA
  clear hS hA
  have z1 : ¬ (500 : Int) < (a0.size : Int) := by omega
  have z2 : ((s.size : Int) != (a0.size : Int) + 4) = false := by rw [bne_eq_false_iff_eq]; omega
  have z3 : ¬ (s.size : Int) = 0 := by omega
  have z4 : (q : Int) < (s.size : Int) := by omega
  have z5 : (s.size : Int) ≤ 504 := by omega
  have z6 : (0 : Int) < (s.size : Int) := by omega
  clear hsz
  obtain ⟨b8, hb8⟩ : ∃ b8, b8 = dmgB s q a2 := ⟨_, rfl⟩
  have hbz : Go.bits .xor .u8 (rd (bytesOf s) (q : Int)) (2 ^ (a2 % 8).toNat % 256) = b8 := hb8.symm
  have hO2 : octet_Open.f k (strOfNums ((bytesOf s).set q b8)) = some ((⟨#[]⟩ : ByteArray), 10) := by rw [hb8]; exact hO
  have AO := Aside0.mk hO2
  clear hO hO2
  have AB := Aside0.mk hb8
  clear hb8
  go_enter Try.func6, Try.ntmps6
  go_wp2_with (first
    | (go_at_call 19; refine (octet_Seal.calls k a0 s _ AS.out).mono ?_; rintro e w1 ⟨rfl, hb1⟩)
    | ((with_reducible refine gate_dst (N := 17) rfl ?_); refine conv_own w.heap.size 5 rfl 9 35 _ rfl s (by go_simp) under9 under35 under5 hb1 hb1.size ?_; intro g cap w2 hg hc hf hb2; have hcq := hc q hqs; have hfq := hf q hqs; have hstr := str_after (cap := cap) hc hqs b8; clear hc hf)
    | (go_at_call 15; refine (octet_Open.calls k (strOfNums ((bytesOf s).set q b8)) _ _ _ AO.out).mono ?_; rintro e w3 ⟨rfl, hb3⟩)
    | (go_at_call 12; refine (emulatorlaw03_alive.calls k true _ AA.out).mono ?_; rintro e w4 ⟨rfl, hb4⟩))
  go_ret
  exact ⟨rfl, below_step (below_step (below_set hb2 hg) hb3) hb4⟩
set_option maxHeartbeats 4000000 in
set_option maxRecDepth 100000 in
theorem damage_long (k : Nat) (a0 : ByteArray) (a1 a2 : Int) (w : World) (h500 : ¬ a0.size ≤ 500) (hA : emulatorlaw03_alive.f k = some true) :
    Calls Try.prog 6 #[.string a0, .int .u16 a1, .int .u8 a2] w fun e w' => e = .returned (.bool true) ∧ Below w.heap.size w w' := by
  have AA := Aside0.mk hA
  clear hA
  have z1 : (500 : Int) < (a0.size : Int) := by omega
  go_enter Try.func6, Try.ntmps6
  go_wp2_with (first | (go_at_call 12; refine (emulatorlaw03_alive.calls k true _ AA.out).mono ?_; rintro e w4 ⟨rfl, hb4⟩))
  go_ret
  exact ⟨rfl, hb4⟩
/-- What the law says of the bytes. -/
def emulatorlaw03_OctetDamage.Pure : Prop := ∀ (a0 : ByteArray) (a1 a2 : Int), a0.size ≤ 140737488351232 → (Lit.int .u16 a1).wf = true → (Lit.int .u8 a2).wf = true →
  ∃ k, emulatorlaw03_alive.f k = some true ∧ (a0.size ≤ 500 → ∃ s q, octet_Seal.f k a0 = some s ∧ s.size = a0.size + 4 ∧ a1 % (s.size : Int) = ((q : Nat) : Int) ∧ q < s.size ∧ octet_Open.f k (dmg s q a2) = some ((⟨#[]⟩ : ByteArray), 10))
theorem wf16 {a : Int} (h : (Lit.int .u16 a).wf = true) : 0 ≤ a ∧ a < 65536 := by
  simp only [Lit.wf, IntKind.min, IntKind.max, IntKind.signed, IntKind.bits, Bool.and_eq_true, decide_eq_true_eq] at h
  have h5 := h.1; have h7 := h.2
  simp at h5 h7
  omega
theorem wf8 {a : Int} (h : (Lit.int .u8 a).wf = true) : 0 ≤ a ∧ a < 256 := by
  simp only [Lit.wf, IntKind.min, IntKind.max, IntKind.signed, IntKind.bits, Bool.and_eq_true, decide_eq_true_eq] at h
  have h5 := h.1; have h7 := h.2
  simp at h5 h7
  omega
theorem emulatorlaw03_OctetDamage.walk (P : emulatorlaw03_OctetDamage.Pure) (a0 : ByteArray) (a1 a2 : Int) (w : World) (w0 : a0.size ≤ 140737488351232) (w1 : (Lit.int .u16 a1).wf = true) (w2 : (Lit.int .u8 a2).wf = true) :
    Calls Try.prog 6 #[.string a0, .int .u16 a1, .int .u8 a2] w fun e w' => e = .returned (.bool true) ∧ Below w.heap.size w w' := by
  obtain ⟨k, hA, h⟩ := P a0 a1 a2 w0 w1 w2
  by_cases h500 : a0.size ≤ 500
  · obtain ⟨s, q, hS, hsz, hq, hqs, hO⟩ := h h500
    exact damage_walk k a0 s ⟨#[]⟩ a1 a2 0 q w h500 hS hsz (wf16 w1) (wf8 w2) hq hqs hO hA
  · exact damage_long k a0 a1 a2 w h500 hA
end Go.Proofs.Ytgeoapkiegblnaa.K
