/- Lemmas for the law ObjectRoundTrip: what its proof needs of this seat's texts, in one place. -/
import Derived.Test.YtenlmckahaniiaaZObjectRoundTrip3
section
namespace Go.Proofs.Ytenlmckahaniiaa.K
open Go.RowKit Go.Proofs.YtenlmckahaniiaaW.PrintWords Go.Proofs.YtenlmckahaniiaaW.PrintLast
set_option linter.unusedVariables false
set_option linter.unusedSimpArgs false
def symOk (s : S62) : Bool := !(decide (s.f1 < 0)) && !(decide (s.f1 > 3)) && !(bits .and .i64 s.f2 65535 != s.f2)
def object_checkSymbols.l0 : Nat → List (S62) → List (List UInt8) → Int → Option Int
  | 0, _, _, _ => none
  | k + 1, x0, m, x9 => if x9 < (x0.length : Int) then (if 0 ≤ x9 then ((object_isName.f k ((rd_T62 x0 x9).f0)).bind fun t => (if t = true then (if (rd_T62 x0 x9).f0.data.toList ∈ m then some 6 else (if symOk (rd_T62 x0 x9) = true then (if m.length < 1000000 then (object_checkSymbols.l0 k x0 (m ++ [(rd_T62 x0 x9).f0.data.toList]) (wrap64 (x9 + 1))) else none) else some 2)) else some 4)) else none) else some 0
def object_checkSymbols.f (k : Nat) (l0 : List (S62)) : Option Int := object_checkSymbols.l0 k l0 [] 0
theorem object_checkSymbols.mono_l : ∀ k, (∀ y0 y1 y2, LeO (object_checkSymbols.l0 k y0 y1 y2) (object_checkSymbols.l0 (k + 1) y0 y1 y2))
 | 0 => fun _ _ _ r h => by simp [object_checkSymbols.l0] at h
 | k + 1 => by
  have ih0 := object_checkSymbols.mono_l k
  intro y0 y1 y2
  unfold object_checkSymbols.l0
  repeat' first
   | exact ih0 _ _ _
   | exact object_isName.mono _ _
   | exact LeO.refl _
   | exact LeO.none _
   | refine LeO.ite ?_ ?_
   | refine LeO.bind ?_ (fun _ => ?_)
theorem object_checkSymbols.mono : ∀ a0 k, LeO (object_checkSymbols.f k a0) (object_checkSymbols.f (k + 1) a0) := fun a0 k => object_checkSymbols.mono_l k a0 [] 0
theorem isName_size {k : Nat} {a : ByteArray} (h : object_isName.f k a = some true) : a.size ≤ 14 := by
 unfold object_isName.f at h
 split at h
 ·rename_i h0
  have e : a.data.toList = [] := by rw [← Lib.toList_data]; exact h0
  show a.data.size ≤ 14
  rw [← Array.length_toList, e]
  exact Nat.zero_le _
 ·split at h
  ·cases k <;> simp [object_isName.j0] at h
  ·omega
theorem box62 {w : World} {g : Nat} {z0 z1 z2 z3 : Value} (h : w.heap[g]? = some (.cells #[z0, z1, z2, z3] 62 (0, 0))) (a b c d : Value) :
  ((((w.setCell ⟨g, 0, none⟩ a).setCell ⟨g, 1, none⟩ b).setCell ⟨g, 2, none⟩ c).setCell ⟨g, 3, none⟩ d).heap[g]? = some (.cells #[a, b, c, d] 62 (0, 0)) :=
 blk_put (blk_put (blk_put (blk_put h 0 a rfl) 1 b rfl) 2 c rfl) 3 d rfl
set_option maxHeartbeats 8000000 in
set_option maxRecDepth 100000 in
theorem object_checkSymbols.calls (k : Nat) (A0 : Option Addr) (c0 : Nat) (l0 : List (S62)) (r : Int) (w : World) (hr0 : Kd.C k62 w A0 l0.length l0) (hc0 : l0.length ≤ c0) (h : object_checkSymbols.f k l0 = some r) :
  Calls Try.prog 49 #[.slice A0 l0.length c0] w fun e w' => e = .returned (.int .i64 r) ∧ Below w.heap.size w w' := by
 have HR0 := Aside0.mk hr0
 clear hr0 hc0
 have H' := Aside0.mk (show object_checkSymbols.l0 k l0 [] 0 = some r from h)
 clear h
 have hmm := @run_makeMap Try.prog
 go_enter Try.func49, Try.ntmps49
 go_wp2
 clear hmm
 go_loopg [9] k (fun kq v9 w' => ∃ (m : List (List UInt8)) (x9 : Int), v9 = .int .i64 x9 ∧ Aside0 (object_checkSymbols.l0 kq l0 m x9 = some r) ∧ Aside0 (kq ≤ k) ∧ Aside0 (Seen w' w.heap.size m) ∧ Aside0 (Below w.heap.size w w'))
 case atStart => exact ⟨[], 0, rfl, H', ⟨Nat.le_refl _⟩, ⟨Seen.made w⟩, ⟨(Below.refl _ _).alloc (Nat.le_refl _) _⟩⟩
 case round =>
  clear H'
  obtain ⟨m, x9, rfl, HA, HK1, HS, HB⟩ := hrel
  cases gk with
  | zero => exact absurd HA.out (by simp [object_checkSymbols.l0])
  | succ k1 =>
   have H := HA.out
   clear HA
   simp only [object_checkSymbols.l0] at H
   by_cases c2 : x9 < (l0.length : Int)
   ·rw [if_pos c2] at H
    have c2b0 : decide (x9 < (l0.length : Int)) = true := decide_eq_true c2
    by_cases c3 : 0 ≤ x9
    ·rw [if_pos c3] at H
     have c3b0 : decide (0 ≤ x9) = true := decide_eq_true c3
     obtain ⟨t, A4, H⟩ := Option.bind_eq_some_iff.mp H
     obtain ⟨ad, ead, hx_0, hx_1, hx_2, hx_3⟩ := at_T62 HR0.out x9 c3 c2
     cases ead
     replace hx_0 := (HB.out.cell (World.block_lt_of_cell? w _ hx_0)).trans hx_0
     replace hx_1 := (HB.out.cell (World.block_lt_of_cell? w _ hx_1)).trans hx_1
     replace hx_2 := (HB.out.cell (World.block_lt_of_cell? w _ hx_2)).trans hx_2
     replace hx_3 := (HB.out.cell (World.block_lt_of_cell? w _ hx_3)).trans hx_3
     generalize hsym : rd_T62 l0 x9 = sy at *
     have c2' := eq_true c2
     have c3' := eq_true c3
     cases t with
     | false =>
      rw [if_neg (show ¬ (false = true) by decide)] at H
      obtain rfl := Option.some.inj H
      clear H
      go_wp2_with (first | ((with_reducible refine gate_dst (N := 5) rfl ?_); refine box_event ?hg (N := 5) ?hd (cs := #[.string (⟨#[]⟩ : ByteArray), .int .i64 0, .int .i64 0, .bool false]) (t := 62) ?hr ?_; (case hd => rfl); (case hg => rfl); (case hr => first | (go_simp; done) | (go_simp; rfl)); intro gb hg w1 hbox hb; have HB1 := Aside0.mk (below_step HB.out hb); have HS1 := Aside0.mk (HS.out.below hb); have GE : w.heap.size ≤ gb := (by rw [hg]; exact below_size HB.out); have NE : w.heap.size ≠ gb := (by have := HS.out.lt; omega); have hc_0 : w1.cell? ⟨gb, 0, none⟩ = some (.string (⟨#[]⟩ : ByteArray)) := (blk_cell hbox 0).trans rfl; have hc_1 : w1.cell? ⟨gb, 1, none⟩ = some (.int .i64 0) := (blk_cell hbox 1).trans rfl; have hc_2 : w1.cell? ⟨gb, 2, none⟩ = some (.int .i64 0) := (blk_cell hbox 2).trans rfl; have hc_3 : w1.cell? ⟨gb, 3, none⟩ = some (.bool false) := (blk_cell hbox 3).trans rfl; have hf_0 := blk_frozen hbox 0; have hf_1 := blk_frozen hbox 1; have hf_2 := blk_frozen hbox 2; have hf_3 := blk_frozen hbox 3; clear hb hg) | (go_at_call 48; (with_reducible refine (object_isName.calls k1 sy.f0 false _ A4).mono ?_); rintro e w2 ⟨rfl, hb2⟩; have BK2 := blk_below (box62 hbox _ _ _ _) hb2; have HB2 := Aside0.mk (below_step (below_set (below_set (below_set (below_set HB1.out GE) GE) GE) GE) hb2); have HS2 := Aside0.mk (Seen.below (Seen.set (Seen.set (Seen.set (Seen.set HS1.out NE _) NE _) NE _) NE _) hb2); have hd_0 : w2.cell? ⟨gb, 0, none⟩ = some (.string sy.f0) := (blk_cell BK2 0).trans rfl; have hd_1 : w2.cell? ⟨gb, 1, none⟩ = some (.int .i64 sy.f1) := (blk_cell BK2 1).trans rfl; have hd_2 : w2.cell? ⟨gb, 2, none⟩ = some (.int .i64 sy.f2) := (blk_cell BK2 2).trans rfl; have hd_3 : w2.cell? ⟨gb, 3, none⟩ = some (.bool sy.f3) := (blk_cell BK2 3).trans rfl; clear hb2))
      go_ret
      exact ⟨rfl, HB2.out⟩
     | true =>
      rw [if_pos rfl] at H
      have hsz : sy.f0.size ≤ maxLen := by have := isName_size A4; unfold maxLen; omega
      by_cases cm : sy.f0.data.toList ∈ m
      ·rw [if_pos cm] at H
       obtain rfl := Option.some.inj H
       clear H
       go_wp2_with (first | ((with_reducible refine gate_dst (N := 5) rfl ?_); refine box_event ?hg (N := 5) ?hd (cs := #[.string (⟨#[]⟩ : ByteArray), .int .i64 0, .int .i64 0, .bool false]) (t := 62) ?hr ?_; (case hd => rfl); (case hg => rfl); (case hr => first | (go_simp; done) | (go_simp; rfl)); intro gb hg w1 hbox hb; have HB1 := Aside0.mk (below_step HB.out hb); have HS1 := Aside0.mk (HS.out.below hb); have GE : w.heap.size ≤ gb := (by rw [hg]; exact below_size HB.out); have NE : w.heap.size ≠ gb := (by have := HS.out.lt; omega); have hc_0 : w1.cell? ⟨gb, 0, none⟩ = some (.string (⟨#[]⟩ : ByteArray)) := (blk_cell hbox 0).trans rfl; have hc_1 : w1.cell? ⟨gb, 1, none⟩ = some (.int .i64 0) := (blk_cell hbox 1).trans rfl; have hc_2 : w1.cell? ⟨gb, 2, none⟩ = some (.int .i64 0) := (blk_cell hbox 2).trans rfl; have hc_3 : w1.cell? ⟨gb, 3, none⟩ = some (.bool false) := (blk_cell hbox 3).trans rfl; have hf_0 := blk_frozen hbox 0; have hf_1 := blk_frozen hbox 1; have hf_2 := blk_frozen hbox 2; have hf_3 := blk_frozen hbox 3; clear hb hg) | (go_at_call 48; (with_reducible refine (object_isName.calls k1 sy.f0 true _ A4).mono ?_); rintro e w2 ⟨rfl, hb2⟩; have BK2 := blk_below (box62 hbox _ _ _ _) hb2; have HB2 := Aside0.mk (below_step (below_set (below_set (below_set (below_set HB1.out GE) GE) GE) GE) hb2); have HS2 := Aside0.mk (Seen.below (Seen.set (Seen.set (Seen.set (Seen.set HS1.out NE _) NE _) NE _) NE _) hb2); have hd_0 : w2.cell? ⟨gb, 0, none⟩ = some (.string sy.f0) := (blk_cell BK2 0).trans rfl; have hd_1 : w2.cell? ⟨gb, 1, none⟩ = some (.int .i64 sy.f1) := (blk_cell BK2 1).trans rfl; have hd_2 : w2.cell? ⟨gb, 2, none⟩ = some (.int .i64 sy.f2) := (blk_cell BK2 2).trans rfl; have hd_3 : w2.cell? ⟨gb, 3, none⟩ = some (.bool sy.f3) := (blk_cell BK2 3).trans rfl; clear hb2) | (at_lookup; refine wpList_seen rfl _ _ rfl _ m rfl HS2.out sy.f0 rfl hsz ?_; rw [show decide (sy.f0.data.toList ∈ m) = true from decide_eq_true cm]))
       go_ret
       exact ⟨rfl, HB2.out⟩
      ·rw [if_neg cm] at H
       unfold symOk at H
       cases e1 : decide (sy.f1 < 0) with
       | true =>
        have e1' : (sy.f1 < 0) = True := eq_true (of_decide_eq_true e1)
        rw [e1, if_neg (by simp)] at H
        obtain rfl := Option.some.inj H
        clear H
        go_wp2_with (first | ((with_reducible refine gate_dst (N := 5) rfl ?_); refine box_event ?hg (N := 5) ?hd (cs := #[.string (⟨#[]⟩ : ByteArray), .int .i64 0, .int .i64 0, .bool false]) (t := 62) ?hr ?_; (case hd => rfl); (case hg => rfl); (case hr => first | (go_simp; done) | (go_simp; rfl)); intro gb hg w1 hbox hb; have HB1 := Aside0.mk (below_step HB.out hb); have HS1 := Aside0.mk (HS.out.below hb); have GE : w.heap.size ≤ gb := (by rw [hg]; exact below_size HB.out); have NE : w.heap.size ≠ gb := (by have := HS.out.lt; omega); have hc_0 : w1.cell? ⟨gb, 0, none⟩ = some (.string (⟨#[]⟩ : ByteArray)) := (blk_cell hbox 0).trans rfl; have hc_1 : w1.cell? ⟨gb, 1, none⟩ = some (.int .i64 0) := (blk_cell hbox 1).trans rfl; have hc_2 : w1.cell? ⟨gb, 2, none⟩ = some (.int .i64 0) := (blk_cell hbox 2).trans rfl; have hc_3 : w1.cell? ⟨gb, 3, none⟩ = some (.bool false) := (blk_cell hbox 3).trans rfl; have hf_0 := blk_frozen hbox 0; have hf_1 := blk_frozen hbox 1; have hf_2 := blk_frozen hbox 2; have hf_3 := blk_frozen hbox 3; clear hb hg) | (go_at_call 48; (with_reducible refine (object_isName.calls k1 sy.f0 true _ A4).mono ?_); rintro e w2 ⟨rfl, hb2⟩; have BK2 := blk_below (box62 hbox _ _ _ _) hb2; have HB2 := Aside0.mk (below_step (below_set (below_set (below_set (below_set HB1.out GE) GE) GE) GE) hb2); have HS2 := Aside0.mk (Seen.below (Seen.set (Seen.set (Seen.set (Seen.set HS1.out NE _) NE _) NE _) NE _) hb2); have hd_0 : w2.cell? ⟨gb, 0, none⟩ = some (.string sy.f0) := (blk_cell BK2 0).trans rfl; have hd_1 : w2.cell? ⟨gb, 1, none⟩ = some (.int .i64 sy.f1) := (blk_cell BK2 1).trans rfl; have hd_2 : w2.cell? ⟨gb, 2, none⟩ = some (.int .i64 sy.f2) := (blk_cell BK2 2).trans rfl; have hd_3 : w2.cell? ⟨gb, 3, none⟩ = some (.bool sy.f3) := (blk_cell BK2 3).trans rfl; clear hb2) | (at_lookup; refine wpList_seen rfl _ _ rfl _ m rfl HS2.out sy.f0 rfl hsz ?_; rw [show decide (sy.f0.data.toList ∈ m) = false from decide_eq_false cm]))
        go_ret
        exact ⟨rfl, HB2.out⟩
       | false =>
        cases e2 : decide (sy.f1 > 3) with
        | true =>
         have e2' : decide (3 < sy.f1) = true := e2
         rw [e1, e2, if_neg (by simp)] at H
         obtain rfl := Option.some.inj H
         clear H
         go_wp2_with (first | ((with_reducible refine gate_dst (N := 5) rfl ?_); refine box_event ?hg (N := 5) ?hd (cs := #[.string (⟨#[]⟩ : ByteArray), .int .i64 0, .int .i64 0, .bool false]) (t := 62) ?hr ?_; (case hd => rfl); (case hg => rfl); (case hr => first | (go_simp; done) | (go_simp; rfl)); intro gb hg w1 hbox hb; have HB1 := Aside0.mk (below_step HB.out hb); have HS1 := Aside0.mk (HS.out.below hb); have GE : w.heap.size ≤ gb := (by rw [hg]; exact below_size HB.out); have NE : w.heap.size ≠ gb := (by have := HS.out.lt; omega); have hc_0 : w1.cell? ⟨gb, 0, none⟩ = some (.string (⟨#[]⟩ : ByteArray)) := (blk_cell hbox 0).trans rfl; have hc_1 : w1.cell? ⟨gb, 1, none⟩ = some (.int .i64 0) := (blk_cell hbox 1).trans rfl; have hc_2 : w1.cell? ⟨gb, 2, none⟩ = some (.int .i64 0) := (blk_cell hbox 2).trans rfl; have hc_3 : w1.cell? ⟨gb, 3, none⟩ = some (.bool false) := (blk_cell hbox 3).trans rfl; have hf_0 := blk_frozen hbox 0; have hf_1 := blk_frozen hbox 1; have hf_2 := blk_frozen hbox 2; have hf_3 := blk_frozen hbox 3; clear hb hg) | (go_at_call 48; (with_reducible refine (object_isName.calls k1 sy.f0 true _ A4).mono ?_); rintro e w2 ⟨rfl, hb2⟩; have BK2 := blk_below (box62 hbox _ _ _ _) hb2; have HB2 := Aside0.mk (below_step (below_set (below_set (below_set (below_set HB1.out GE) GE) GE) GE) hb2); have HS2 := Aside0.mk (Seen.below (Seen.set (Seen.set (Seen.set (Seen.set HS1.out NE _) NE _) NE _) NE _) hb2); have hd_0 : w2.cell? ⟨gb, 0, none⟩ = some (.string sy.f0) := (blk_cell BK2 0).trans rfl; have hd_1 : w2.cell? ⟨gb, 1, none⟩ = some (.int .i64 sy.f1) := (blk_cell BK2 1).trans rfl; have hd_2 : w2.cell? ⟨gb, 2, none⟩ = some (.int .i64 sy.f2) := (blk_cell BK2 2).trans rfl; have hd_3 : w2.cell? ⟨gb, 3, none⟩ = some (.bool sy.f3) := (blk_cell BK2 3).trans rfl; clear hb2) | (at_lookup; refine wpList_seen rfl _ _ rfl _ m rfl HS2.out sy.f0 rfl hsz ?_; rw [show decide (sy.f0.data.toList ∈ m) = false from decide_eq_false cm]))
         go_ret
         exact ⟨rfl, HB2.out⟩
        | false =>
         have e2' : decide (3 < sy.f1) = false := e2
         cases e3 : (bits .and .i64 sy.f2 65535 != sy.f2) with
         | true =>
          rw [e1, e2, e3, if_neg (by simp)] at H
          obtain rfl := Option.some.inj H
          clear H
          go_wp2_with (first | ((with_reducible refine gate_dst (N := 5) rfl ?_); refine box_event ?hg (N := 5) ?hd (cs := #[.string (⟨#[]⟩ : ByteArray), .int .i64 0, .int .i64 0, .bool false]) (t := 62) ?hr ?_; (case hd => rfl); (case hg => rfl); (case hr => first | (go_simp; done) | (go_simp; rfl)); intro gb hg w1 hbox hb; have HB1 := Aside0.mk (below_step HB.out hb); have HS1 := Aside0.mk (HS.out.below hb); have GE : w.heap.size ≤ gb := (by rw [hg]; exact below_size HB.out); have NE : w.heap.size ≠ gb := (by have := HS.out.lt; omega); have hc_0 : w1.cell? ⟨gb, 0, none⟩ = some (.string (⟨#[]⟩ : ByteArray)) := (blk_cell hbox 0).trans rfl; have hc_1 : w1.cell? ⟨gb, 1, none⟩ = some (.int .i64 0) := (blk_cell hbox 1).trans rfl; have hc_2 : w1.cell? ⟨gb, 2, none⟩ = some (.int .i64 0) := (blk_cell hbox 2).trans rfl; have hc_3 : w1.cell? ⟨gb, 3, none⟩ = some (.bool false) := (blk_cell hbox 3).trans rfl; have hf_0 := blk_frozen hbox 0; have hf_1 := blk_frozen hbox 1; have hf_2 := blk_frozen hbox 2; have hf_3 := blk_frozen hbox 3; clear hb hg) | (go_at_call 48; (with_reducible refine (object_isName.calls k1 sy.f0 true _ A4).mono ?_); rintro e w2 ⟨rfl, hb2⟩; have BK2 := blk_below (box62 hbox _ _ _ _) hb2; have HB2 := Aside0.mk (below_step (below_set (below_set (below_set (below_set HB1.out GE) GE) GE) GE) hb2); have HS2 := Aside0.mk (Seen.below (Seen.set (Seen.set (Seen.set (Seen.set HS1.out NE _) NE _) NE _) NE _) hb2); have hd_0 : w2.cell? ⟨gb, 0, none⟩ = some (.string sy.f0) := (blk_cell BK2 0).trans rfl; have hd_1 : w2.cell? ⟨gb, 1, none⟩ = some (.int .i64 sy.f1) := (blk_cell BK2 1).trans rfl; have hd_2 : w2.cell? ⟨gb, 2, none⟩ = some (.int .i64 sy.f2) := (blk_cell BK2 2).trans rfl; have hd_3 : w2.cell? ⟨gb, 3, none⟩ = some (.bool sy.f3) := (blk_cell BK2 3).trans rfl; clear hb2) | (at_lookup; refine wpList_seen rfl _ _ rfl _ m rfl HS2.out sy.f0 rfl hsz ?_; rw [show decide (sy.f0.data.toList ∈ m) = false from decide_eq_false cm]))
          go_ret
          exact ⟨rfl, HB2.out⟩
         | false =>
          rw [e1, e2, e3, if_pos (by simp)] at H
          by_cases cl : m.length < 1000000
          ·rw [if_pos cl] at H
           have H' := Aside0.mk H
           clear H
           go_wp2_with (first | ((with_reducible refine gate_dst (N := 5) rfl ?_); refine box_event ?hg (N := 5) ?hd (cs := #[.string (⟨#[]⟩ : ByteArray), .int .i64 0, .int .i64 0, .bool false]) (t := 62) ?hr ?_; (case hd => rfl); (case hg => rfl); (case hr => first | (go_simp; done) | (go_simp; rfl)); intro gb hg w1 hbox hb; have HB1 := Aside0.mk (below_step HB.out hb); have HS1 := Aside0.mk (HS.out.below hb); have GE : w.heap.size ≤ gb := (by rw [hg]; exact below_size HB.out); have NE : w.heap.size ≠ gb := (by have := HS.out.lt; omega); have hc_0 : w1.cell? ⟨gb, 0, none⟩ = some (.string (⟨#[]⟩ : ByteArray)) := (blk_cell hbox 0).trans rfl; have hc_1 : w1.cell? ⟨gb, 1, none⟩ = some (.int .i64 0) := (blk_cell hbox 1).trans rfl; have hc_2 : w1.cell? ⟨gb, 2, none⟩ = some (.int .i64 0) := (blk_cell hbox 2).trans rfl; have hc_3 : w1.cell? ⟨gb, 3, none⟩ = some (.bool false) := (blk_cell hbox 3).trans rfl; have hf_0 := blk_frozen hbox 0; have hf_1 := blk_frozen hbox 1; have hf_2 := blk_frozen hbox 2; have hf_3 := blk_frozen hbox 3; clear hb hg) | (go_at_call 48; (with_reducible refine (object_isName.calls k1 sy.f0 true _ A4).mono ?_); rintro e w2 ⟨rfl, hb2⟩; have BK2 := blk_below (box62 hbox _ _ _ _) hb2; have HB2 := Aside0.mk (below_step (below_set (below_set (below_set (below_set HB1.out GE) GE) GE) GE) hb2); have HS2 := Aside0.mk (Seen.below (Seen.set (Seen.set (Seen.set (Seen.set HS1.out NE _) NE _) NE _) NE _) hb2); have hd_0 : w2.cell? ⟨gb, 0, none⟩ = some (.string sy.f0) := (blk_cell BK2 0).trans rfl; have hd_1 : w2.cell? ⟨gb, 1, none⟩ = some (.int .i64 sy.f1) := (blk_cell BK2 1).trans rfl; have hd_2 : w2.cell? ⟨gb, 2, none⟩ = some (.int .i64 sy.f2) := (blk_cell BK2 2).trans rfl; have hd_3 : w2.cell? ⟨gb, 3, none⟩ = some (.bool sy.f3) := (blk_cell BK2 3).trans rfl; clear hb2) | (at_lookup; refine wpList_seen rfl _ _ rfl _ m rfl HS2.out sy.f0 rfl hsz ?_; rw [show decide (sy.f0.data.toList ∈ m) = false from decide_eq_false cm]) | (at_mapUpdate; refine wpList_see rfl _ _ _ rfl _ m rfl HS2.out (by unfold maxLen; omega) sy.f0 rfl rfl hsz ?_; intro w3 HS3 hgr))
           go_roundg k1
           case measure => omega
           case rel => exact ⟨_, _, rfl, H', ⟨by have := HK1.out; omega⟩, ⟨HS3⟩, ⟨HB2.out.grown hgr (below_size HB2.out) (fun j hj => by cases hj; exact Nat.le_refl _)⟩⟩
          ·rw [if_neg cl] at H
           exact absurd H (by simp)
    ·rw [if_neg c3] at H
     exact absurd H (by simp)
   ·rw [if_neg c2] at H
    have c2b0 : decide (x9 < (l0.length : Int)) = false := decide_eq_false c2
    obtain rfl := Option.some.inj H
    go_wp2
    go_ret
    exact ⟨rfl, HB.out⟩
end Go.Proofs.Ytenlmckahaniiaa.K
end
section
set_option linter.unusedVariables false
set_option linter.unusedSimpArgs false
namespace Go.Proofs.Ytenlmckahaniiaa.Obj
open Go Go.RowKit Go.Proofs.Ytenlmckahaniiaa.K Go.Proofs.YtenlmckahaniiaaW.PrintWords Go.Proofs.YtenlmckahaniiaaW.PrintMore Go.Proofs.Ytenlmckahaniiaa.MyBits Go.Proofs.Ytenlmckahaniiaa.MyStr Go.Proofs.Ytenlmckahaniiaa.Oct
theorem Ev.ite {α : Type} {c : Prop} [Decidable c] {g f : Nat → Option α} {r : α} (h1 : c → Ev g r) (h2 : ¬ c → Ev f r) : Ev (fun k => if c then g k else f k) r := by
  by_cases h : c
  · exact Ev.congr (fun k => if_pos h) (h1 h)
  · exact Ev.congr (fun k => if_neg h) (h2 h)
theorem Ev.eq {α : Type} {g : Nat → Option α} {r r' : α} (h : Ev g r) (e : r = r') : Ev g r' := e ▸ h
theorem i64_nat (i : Nat) (h : i < 9223372036854775807) : wrap64 ((i : Int) + 1) = ((i + 1 : Nat) : Int) := by unfold wrap64; omega
def okc (c : Int) : Bool := (decide (97 ≤ c) && decide (c ≤ 122)) || (decide (65 ≤ c) && decide (c ≤ 90)) || (decide (48 ≤ c) && decide (c ≤ 57)) || decide (c = 95) || decide (c = 46) || decide (c = 36)
def nameL (l : List UInt8) : Bool := decide (l ≠ []) && decide (l.length ≤ 14) && !(decide (48 ≤ byteAt l 0) && decide (byteAt l 0 ≤ 57)) && (ints l).all okc
def isNm (s : ByteArray) : Bool := nameL (bs s)
theorem rd_ints (l : List UInt8) (i : Nat) (h : i < l.length) : rd (ints l) (i : Int) = byteAt l i ∧ 0 ≤ rd (ints l) (i : Int) ∧ rd (ints l) (i : Int) < 256 := by
  have e : rd (ints l) (i : Int) = byteAt l i := by rw [byteAt_ints]; simp [rd]
  rw [e]
  exact ⟨rfl, byteAt_range l i⟩
theorem drop_all (p : Int → Bool) (l : List Int) (i : Nat) (h : i < l.length) : (l.drop i).all p = (p (rd l (i : Int)) && (l.drop (i + 1)).all p) := by
  rw [List.drop_eq_getElem_cons h, List.all_cons]
  have : rd l (i : Int) = l[i] := by simp [rd, h]
  rw [this]
theorem toList_nil (s : ByteArray) : s.toList = ([] : List UInt8) ↔ bs s = [] := by rw [toList_bs]
theorem nameL_len {l : List UInt8} (h : nameL l = true) : 1 ≤ l.length ∧ l.length ≤ 14 := by
  unfold nameL at h
  simp only [Bool.and_eq_true, decide_eq_true_eq] at h
  exact ⟨List.length_pos_iff.2 h.1.1.1, h.1.1.2⟩
def symsR : List (List UInt8) → List S62 → Int
  | _, [] => 0
  | m, s :: r => if isNm s.f0 = true then (if bs s.f0 ∈ m then 6 else if symOk s = true then symsR (m ++ [bs s.f0]) r else 2) else 4
theorem rd62 (l : List S62) (i : Nat) (h : i < l.length) : rd_T62 l (i : Int) = l[i] := by simp [rd_T62, List.getD_eq_getElem?_getD, h]
theorem rd43 (l : List S43) (i : Nat) (h : i < l.length) : rd_T43 l (i : Int) = l[i] := by simp [rd_T43, List.getD_eq_getElem?_getD, h]
def Fine62 (l : List S62) : Prop := ∀ s ∈ l, s.f0.size ≤ 9223372036854775806
theorem and16 (x : Int) : Go.bits .and .i64 x 65535 = x % 65536 := and_low x 65535 16 (by omega) (by decide)
theorem symOk_iff (s : S62) : symOk s = true ↔ (0 ≤ s.f1 ∧ s.f1 ≤ 3 ∧ 0 ≤ s.f2 ∧ s.f2 ≤ 65535) := by
  unfold symOk
  rw [and16]
  simp only [Bool.and_eq_true, Bool.not_eq_true', decide_eq_false_iff_not, bne_eq_false_iff_eq]
  omega
def relR (ts ds : Int) (x b : S43) : Int :=
  if x.f0 ≠ 1 ∧ x.f0 ≠ 2 then 2
  else if x.f1 < 0 ∨ Int.tmod x.f1 2 ≠ 0 ∨ x.f1 > wrap64 ((if x.f0 = 2 then ds else ts) - 2) then 2
  else if x.f0 < b.f0 ∨ (x.f0 = b.f0 ∧ x.f1 ≤ b.f1) then 2
  else if x.f2 < 0 ∨ x.f2 > 4 ∨ (x.f2 = 0 ∧ x.f4 = false) then 2
  else if x.f2 = 4 then (if isNm x.f3 = true then 0 else 4) else (if bs x.f3 = [] then 0 else 4)
def relT (sz : Int) (x b : S43) : Int :=
  if x.f1 < 0 ∨ Int.tmod x.f1 2 ≠ 0 ∨ x.f1 > wrap64 (sz - 2) then 2
  else if x.f0 < b.f0 ∨ (x.f0 = b.f0 ∧ x.f1 ≤ b.f1) then 2
  else if x.f2 < 0 ∨ x.f2 > 4 ∨ (x.f2 = 0 ∧ x.f4 = false) then 2
  else if x.f2 = 4 then (if isNm x.f3 = true then 0 else 4) else (if bs x.f3 = [] then 0 else 4)
def relsR (ts ds : Int) : S43 → List S43 → Int
  | _, [] => 0
  | b, x :: r => if relR ts ds x b = 0 then relsR ts ds x r else relR ts ds x b
def Fine43 (l : List S43) : Prop := ∀ s ∈ l, s.f3.size ≤ 9223372036854775806
def b0 : S43 := ⟨-1, 0, 0, ⟨#[]⟩, false⟩
def checkR (a0 a1 a2 : ByteArray) (a3 : Int) (l4 : List S62) (l5 : List S43) : Int :=
  if isNm a0 = true then
    (if a1.size > 16384 ∨ a2.size > 16384 ∨ a3 > 16384 ∨ l4.length > 256 ∨ l5.length > 2048 then 7
     else if a1.size % 2 ≠ 0 ∨ a3 < 0 then 1
     else if symsR [] l4 = 0 then relsR (a1.size : Int) (a2.size : Int) b0 l5 else symsR [] l4)
  else 4
structure Fine (a0 : ByteArray) (l4 : List S62) (l5 : List S43) : Prop where
  h0 : a0.size ≤ 9223372036854775806
  h4 : Fine62 l4
  h5 : Fine43 l5
structure Small (a0 a1 a2 : ByteArray) (l4 : List S62) (l5 : List S43) : Prop where
  h0 : a0.size ≤ 100
  h1 : a1.size ≤ 17000
  h2 : a2.size ≤ 17000
  h4 : l4.length ≤ 300
  h5 : l5.length ≤ 2100
  s4 : ∀ s ∈ l4, s.f0.size ≤ 100
  s5 : ∀ s ∈ l5, s.f3.size ≤ 100
theorem Small.fine {a0 a1 a2 : ByteArray} {l4 : List S62} {l5 : List S43} (h : Small a0 a1 a2 l4 l5) : Fine a0 l4 l5 := ⟨by have := h.h0; omega, fun s hs => by have := h.s4 s hs; omega, fun s hs => by have := h.s5 s hs; omega⟩
theorem small_l1 (l : List S43) (hn : l.length ≤ 1000000) (d : Nat) : ∀ i : Nat, i + d = l.length → ∃ b, Ev (fun k => emulatorlaw28_small.l1 k l (l.length : Int) (i : Int)) b ∧ (b = true → ∀ s ∈ l.drop i, s.f3.size ≤ 100) := by
  induction d with
  | zero =>
    intro i hi
    refine ⟨true, Ev.step (f := fun _ => some true) (fun k => by rw [emulatorlaw28_small.l1, if_neg (by omega)]) (Ev.now _), fun _ => ?_⟩
    rw [List.drop_eq_nil_of_le (by omega)]
    intro s hs; cases hs
  | succ d ih =>
    intro i hi
    have hlt : i < l.length := by omega
    obtain ⟨b, hb, hs⟩ := ih (i + 1) (by omega)
    by_cases h : (l[i].f3.size : Int) > 100
    · refine ⟨false, Ev.step (f := fun _ => some false) (fun k => by rw [emulatorlaw28_small.l1, if_pos (by omega), if_pos (by omega), if_pos (by omega), rd43 l i hlt, if_pos h]) (Ev.now _), fun h => by cases h⟩
    · refine ⟨b, Ev.step (fun k => by rw [emulatorlaw28_small.l1, if_pos (by omega), if_pos (by omega), if_pos (by omega), rd43 l i hlt, if_neg h, i64_nat i (by omega)]) hb, fun hb => ?_⟩
      rw [List.drop_eq_getElem_cons hlt]
      intro s hs'
      rcases List.mem_cons.1 hs' with rfl | hs'
      · omega
      · exact hs hb s hs'
theorem small_l0 (a0 a1 a2 : ByteArray) (a3 : Int) (l : List S62) (l5 : List S43) (hn : l.length ≤ 1000000) (hn5 : l5.length ≤ 1000000) (d : Nat) : ∀ i : Nat, i + d = l.length → ∃ b, Ev (fun k => emulatorlaw28_small.l0 k l (l.length : Int) (i : Int) a0 a1 a2 a3 l l5) b ∧ (b = true → (∀ s ∈ l.drop i, s.f0.size ≤ 100) ∧ (∀ s ∈ l5, s.f3.size ≤ 100)) := by
  induction d with
  | zero =>
    intro i hi
    obtain ⟨b, hb, hs⟩ := small_l1 l5 hn5 l5.length 0 (by omega)
    refine ⟨b, Ev.step (f := fun k => emulatorlaw28_small.l1 k l5 (l5.length : Int) 0) (fun k => by rw [emulatorlaw28_small.l0, if_neg (by omega)]) (by simpa using hb), fun h => ⟨?_, by simpa using hs h⟩⟩
    rw [List.drop_eq_nil_of_le (by omega)]
    intro s hs; cases hs
  | succ d ih =>
    intro i hi
    have hlt : i < l.length := by omega
    obtain ⟨b, hb, hs⟩ := ih (i + 1) (by omega)
    by_cases h : (l[i].f0.size : Int) > 100
    · refine ⟨false, Ev.step (f := fun _ => some false) (fun k => by rw [emulatorlaw28_small.l0, if_pos (by omega), if_pos (by omega), if_pos (by omega), rd62 l i hlt, if_pos h]) (Ev.now _), fun h => by cases h⟩
    · refine ⟨b, Ev.step (fun k => by rw [emulatorlaw28_small.l0, if_pos (by omega), if_pos (by omega), if_pos (by omega), rd62 l i hlt, if_neg h, i64_nat i (by omega)]) hb, fun hb => ⟨?_, (hs hb).2⟩⟩
      rw [List.drop_eq_getElem_cons hlt]
      intro s hs'
      rcases List.mem_cons.1 hs' with rfl | hs'
      · omega
      · exact (hs hb).1 s hs'
theorem small_is (a0 a1 a2 : ByteArray) (a3 : Int) (l4 : List S62) (l5 : List S43) : ∃ b, Ev (fun k => emulatorlaw28_small.f k a0 a1 a2 a3 l4 l5) b ∧ (b = true → Small a0 a1 a2 l4 l5) := by
  have hno : Ev (fun k => emulatorlaw28_small.j0 k true a0 a1 a2 a3 l4 l5) false := Ev.step (f := fun _ => some false) (fun k => by rw [emulatorlaw28_small.j0, if_pos rfl]) (Ev.now _)
  unfold emulatorlaw28_small.f
  by_cases h0 : (a0.size : Int) > 100
  · exact ⟨false, Ev.congr (fun k => if_pos h0) hno, fun h => by cases h⟩
  by_cases h1 : (a1.size : Int) > 17000
  · exact ⟨false, Ev.congr (fun k => by rw [if_neg h0, if_pos h1]) hno, fun h => by cases h⟩
  by_cases h2 : (a2.size : Int) > 17000
  · exact ⟨false, Ev.congr (fun k => by rw [if_neg h0, if_neg h1, if_pos h2]) hno, fun h => by cases h⟩
  by_cases h4 : (l4.length : Int) > 300
  · exact ⟨false, Ev.congr (fun k => by rw [if_neg h0, if_neg h1, if_neg h2, if_pos h4]) hno, fun h => by cases h⟩
  by_cases h5 : (l5.length : Int) > 2100
  · exact ⟨false, Ev.congr (fun k => by rw [if_neg h0, if_neg h1, if_neg h2, if_neg h4, decide_eq_true h5]) hno, fun h => by cases h⟩
  obtain ⟨b, hb, hs⟩ := small_l0 a0 a1 a2 a3 l4 l5 (by omega) (by omega) l4.length 0 (by omega)
  refine ⟨b, Ev.congr (fun k => by rw [if_neg h0, if_neg h1, if_neg h2, if_neg h4, decide_eq_false h5]) (Ev.step (fun k => by rw [emulatorlaw28_small.j0, if_neg (by decide)]; rfl) hb), fun h => ?_⟩
  obtain ⟨s4, s5⟩ := hs h
  exact ⟨by omega, by omega, by omega, by omega, by omega, by simpa using s4, s5⟩
end Go.Proofs.Ytenlmckahaniiaa.Obj
end
section
namespace Go.Proofs.Ytenlmckahaniiaa.K
open Go.RowKit Go.Proofs.YtenlmckahaniiaaW.PrintWords Go.Proofs.YtenlmckahaniiaaW.PrintLast
set_option linter.unusedVariables false
set_option linter.unusedSimpArgs false
def octet_Put.l0 : Nat → Int → List Int → Int → Int → Option (ByteArray)
  | 0, _, _, _, _ => none
  | k + 1, x0, x5, x12, x13 => if x13 < x12 then (if 0 ≤ (wrap64 (8 * x13)) then (if 0 ≤ x13 then (if x13 < (x5.length : Int) then (octet_Put.l0 k x0 (x5.set (x13 : Int).toNat ((shr .i64 (mx x0 0) (wrap64 (8 * x13))) % 256)) x12 (wrap64 (x13 + 1))) else (none)) else (none)) else (none)) else (some (strOfNums x5))
def octet_Put.f (k : Nat) (a0 : Int) (a1 : Int) : Option (ByteArray) := if 0 ≤ (mx 0 (mn a1 8)) then (if (mx 0 (mn a1 8) : Int).toNat ≤ 281474976710656 then ((some (List.replicate (mx 0 (mn a1 8) : Int).toNat 0 : List Int)).bind fun y148 => (octet_Put.l0 k a0 y148 (y148.length : Int) 0)) else (none)) else (none)
theorem octet_Put.mono_l : ∀ k, (∀ y0 y1 y2 y3, LeO (octet_Put.l0 k y0 y1 y2 y3) (octet_Put.l0 (k + 1) y0 y1 y2 y3))
 | 0 => fun _ _ _ _ r h => by simp [octet_Put.l0] at h
 | k + 1 => by
  have ih0 := octet_Put.mono_l k
  ·intro y0 y1 y2 y3
   unfold octet_Put.l0
   repeat' first
   | (with_reducible exact ih0 _ _ _ _)
   | (with_reducible exact LeO.refl _)
   | (with_reducible exact LeO.none _)
   | (with_reducible refine LeO.ite ?_ ?_)
   | (with_reducible refine LeO.bind ?_ (fun _ => ?_))
   | exact ih0 _ _ _ _
   | exact LeO.none _
   | refine LeO.ite ?_ ?_
   | refine LeO.bind ?_ (fun _ => ?_)
theorem octet_Put.mono : ∀ a0 a1 k, LeO (octet_Put.f k a0 a1) (octet_Put.f (k + 1) a0 a1) := by
 intro a0 a1 k
 have ih0 := octet_Put.mono_l k
 unfold octet_Put.f
 repeat' first
   | (with_reducible exact ih0 _ _ _ _)
   | (with_reducible exact LeO.refl _)
   | (with_reducible exact LeO.none _)
   | (with_reducible refine LeO.ite ?_ ?_)
   | (with_reducible refine LeO.bind ?_ (fun _ => ?_))
   | exact ih0 _ _ _ _
   | exact LeO.none _
   | refine LeO.ite ?_ ?_
   | refine LeO.bind ?_ (fun _ => ?_)
set_option maxHeartbeats 8000000 in
set_option maxRecDepth 100000 in
theorem octet_Put.calls (k : Nat) (a0 : Int) (a1 : Int) (r : ByteArray) (w : World) (h : octet_Put.f k a0 a1 = some r) :
  Calls Try.prog 78 #[.int .i64 a0, .int .i64 a1] w fun e w' => e = .returned (.string r) ∧ Below w.heap.size w w' := by
 have HB := Aside0.mk (Below.refl w.heap.size w)
 have H : (if 0 ≤ (mx 0 (mn a1 8)) then (if (mx 0 (mn a1 8) : Int).toNat ≤ 281474976710656 then ((some (List.replicate (mx 0 (mn a1 8) : Int).toNat 0 : List Int)).bind fun y148 => (octet_Put.l0 k a0 y148 (y148.length : Int) 0)) else (none)) else (none)) = some r := h
 clear h
 obtain ⟨ji3, hji3⟩ : ∃ j_ : Int, (mn a1 8) = j_ := ⟨_, rfl⟩
 replace H : (if 0 ≤ (mx 0 (ji3)) then (if (mx 0 (ji3) : Int).toNat ≤ 281474976710656 then ((some (List.replicate (mx 0 (ji3) : Int).toNat 0 : List Int)).bind fun y148 => (octet_Put.l0 k a0 y148 (y148.length : Int) 0)) else (none)) else (none)) = some r := by first | (rw [hji3] at H; exact H) | (simp only [hji3] at H ⊢; exact H)
 (try (have hji3h : ji3 ≤ 8 := by (rw [← hji3]; unfold mn; (repeat' split) <;> omega)))
 (try (have hji3g : ji3 ≤ 64 := by omega))
 have hji3_ : (if 8 < a1 then 8 else a1) = ji3 := hji3
 (try (have hji3w : min a1 8 = ji3 := by rw [← hji3]; unfold mn; (repeat' split) <;> omega))
 obtain ⟨ji4, hji4⟩ : ∃ j_ : Int, (mx 0 (ji3)) = j_ := ⟨_, rfl⟩
 replace H : (if 0 ≤ (ji4) then (if (ji4 : Int).toNat ≤ 281474976710656 then ((some (List.replicate (ji4 : Int).toNat 0 : List Int)).bind fun y148 => (octet_Put.l0 k a0 y148 (y148.length : Int) 0)) else (none)) else (none)) = some r := by first | (rw [hji4] at H; exact H) | (simp only [hji4] at H ⊢; exact H)
 have hji4_ : (if 0 < (ji3) then (ji3) else 0) = ji4 := hji4
 (try (have hji4w : max 0 (ji3) = ji4 := by rw [← hji4]; unfold mx; (repeat' split) <;> omega))
 by_cases c5 : 0 ≤ (ji4)
 ·rw [if_pos c5] at H
  have c5b0 := eq_true c5
  have c5b1 : decide (0 ≤ (ji4)) = true := decide_eq_true c5
  clear c5
  by_cases c6 : (ji4 : Int).toNat ≤ 281474976710656
  ·rw [if_pos c6] at H
   have c6b0 := eq_true c6
   have c6b1 : decide ((ji4 : Int).toNat ≤ 281474976710656) = true := decide_eq_true c6
   clear c6
   obtain ⟨y148, hy148⟩ : ∃ y_ : List Int, y_ = (List.replicate (ji4 : Int).toNat 0) := ⟨_, rfl⟩
   replace H : (octet_Put.l0 k a0 y148 (y148.length : Int) 0) = some r := by first | (rw [hy148]; with_reducible exact H) | (have H2_ := (Option.bind_some _ _).symm.trans H; rw [hy148]; with_reducible exact H2_) | (have H2_ := (Option.bind_some _ _).symm.trans H; with_reducible exact H2_) | with_reducible exact H | (rw [hy148]; exact H) | exact H
   have Ny148 := Aside0.mk hy148
   clear hy148
   have H' := Aside0.mk H
   clear H
   go_enter Try.func78, Try.ntmps78
   go_wp2_with (first | ((with_reducible refine gate_dst (N := 10) rfl ?_); refine Kd.R_make (Kd.int .u8) _ 5 rfl (N := 10) rfl 39 _ _ rfl ji4 rfl rfl Try.underlying39 (.int .u8 0) 1 info5 rfl (by decide) (by omega) 0 (ok := fun _ => True) (okp := fun _ => True) rfl (fun _ hk => hk) trivial (oa_) (Nat.le_trans (Nat.mul_le_mul_right _ (oa_ : ji4.toNat ≤ 281474976710656)) (by omega)) (Below.refl _ _) (Nat.le_refl _) ?_; intro v149 w7 ho8 hb hg_ hnew_; clear hg_ hnew_; (first | rw [← Ny148.out] at ho8 | (simp only [Int.reduceToNat] at ho8; rw [← Ny148.out] at ho8)); have n0_ := Aside0.mk (Kd.R_lower ho8 (below_size hb_)); have n1_ := Aside0.mk (below_step hb_ hb); clear HB; have HO150 := n0_; have HB := n1_; clear n0_ n1_; clear hb ho8; obtain ⟨Ao9, co9, eo9⟩ := Kd.R_slice HO150.out; subst eo9))
   go_loopg [13] k (fun kq v13 w' => ∃ (x5_1 : List Int) (x13_1 : Int), v13 = .int .i64 x13_1 ∧ Aside0 (octet_Put.l0 kq a0 x5_1 (y148.length : Int) x13_1 = some r) ∧ Aside0 (kq ≤ k) ∧ Aside0 (Kd.R (Kd.int .u8) 5 w' w.heap.size (fun _ => True) (.slice Ao9 y148.length co9) x5_1) ∧ Aside0 (Below w.heap.size w w'))
   case atStart => exact ⟨(y148), (0), cl_, H', ⟨Nat.le_refl _⟩, ⟨rk_ HO150.out⟩, ⟨hb_⟩⟩
   case round =>
    clear H'
    (try clear p2); (try clear c5); (try clear c5b0); (try clear c5b1); (try clear c6); (try clear c6b0); (try clear c6b1); (try clear c7)
    obtain ⟨x5_1, x13_1, rfl, HA, HK1, HO_5, HB⟩ := hrel
    have hl5_1 := (Kd.R_reads' HO_5.out).1
    rw [hl5_1] at HO_5
    (try simp only [hl5_1])
    cases gk with
    | zero => exact absurd HA.out (by simp [octet_Put.l0])
    | succ k1 =>
     have H := HA.out
     clear HA
     simp only [octet_Put.l0] at H
     by_cases c10 : x13_1 < (y148.length : Int)
     ·rw [if_pos c10] at H
      have c10b0 : decide (x13_1 < (y148.length : Int)) = true := decide_eq_true c10
      (try simp only [hl5_1] at c10b0)
      clear c10
      obtain ⟨ji11, hji11⟩ : ∃ j_ : Int, (mx a0 0) = j_ := ⟨_, rfl⟩
      replace H : (if 0 ≤ (wrap64 (8 * x13_1)) then (if 0 ≤ x13_1 then (if x13_1 < (x5_1.length : Int) then (octet_Put.l0 k1 a0 (x5_1.set (x13_1 : Int).toNat ((shr .i64 (ji11) (wrap64 (8 * x13_1))) % 256)) (y148.length : Int) (wrap64 (x13_1 + 1))) else (none)) else (none)) else (none)) = some r := by first | (rw [hji11] at H; exact H) | (simp only [hji11] at H ⊢; exact H)
      have hji11_ : (if a0 < 0 then 0 else a0) = ji11 := hji11
      (try (have hji11w : max a0 0 = ji11 := by rw [← hji11]; unfold mx; (repeat' split) <;> omega))
      obtain ⟨ji12, hji12⟩ : ∃ j_ : Int, (wrap64 (8 * x13_1)) = j_ := ⟨_, rfl⟩
      replace H : (if 0 ≤ (ji12) then (if 0 ≤ x13_1 then (if x13_1 < (x5_1.length : Int) then (octet_Put.l0 k1 a0 (x5_1.set (x13_1 : Int).toNat ((shr .i64 (ji11) (ji12)) % 256)) (y148.length : Int) (wrap64 (x13_1 + 1))) else (none)) else (none)) else (none)) = some r := by first | (rw [hji12] at H; exact H) | (simp only [hji12] at H ⊢; exact H)
      have hji12w : (IntKind.i64.wrap (8 * x13_1)) = ji12 := (i64_w _).trans hji12
      by_cases c13 : 0 ≤ (ji12)
      ·rw [if_pos c13] at H
       have c13b0 := eq_true c13
       have c13b1 : decide (0 ≤ (ji12)) = true := decide_eq_true c13
       clear c13
       obtain ⟨ji14, hji14⟩ : ∃ j_ : Int, (shr .i64 (ji11) (ji12)) = j_ := ⟨_, rfl⟩
       replace H : (if 0 ≤ x13_1 then (if x13_1 < (x5_1.length : Int) then (octet_Put.l0 k1 a0 (x5_1.set (x13_1 : Int).toNat ((ji14) % 256)) (y148.length : Int) (wrap64 (x13_1 + 1))) else (none)) else (none)) = some r := by first | (rw [hji14] at H; exact H) | (simp only [hji14] at H ⊢; exact H)
       have hji14_ : ((ji11) / 2 ^ min (ji12).toNat 64) = ji14 := hji14
       have hji14z : (ji12) ≤ 64 → ((ji11) / 2 ^ (ji12).toNat) = ji14 := shr_small hji14
       by_cases c15 : 0 ≤ x13_1
       ·rw [if_pos c15] at H
        have c15b0 : decide (0 ≤ x13_1) = true := decide_eq_true c15
        clear c15
        by_cases c16 : x13_1 < (x5_1.length : Int)
        ·rw [if_pos c16] at H
         have c16b0 : decide (x13_1 < (x5_1.length : Int)) = true := decide_eq_true c16
         (try simp only [hl5_1] at c16b0)
         clear c16
         obtain ⟨y151, hy151⟩ : ∃ y_ : List Int, y_ = (x5_1.set (x13_1 : Int).toNat ((ji14) % 256)) := ⟨_, rfl⟩
         replace H : (octet_Put.l0 k1 a0 y151 (y148.length : Int) (wrap64 (x13_1 + 1))) = some r := by first | (rw [hy151]; with_reducible exact H) | (have H2_ := (Option.bind_some _ _).symm.trans H; rw [hy151]; with_reducible exact H2_) | (have H2_ := (Option.bind_some _ _).symm.trans H; with_reducible exact H2_) | with_reducible exact H | (rw [hy151]; exact H) | exact H
         have Ny151 := Aside0.mk hy151
         clear hy151
         have H' := Aside0.mk H
         clear H
         have p17 : 0 ≤ (x13_1 : Int) := oa_
         have q17 : (x13_1 : Int) < ((x5_1.length : Int) : Int) := oa_
         obtain ⟨go17, co17, eo17, gb17, gl17, cl17, HG17⟩ := Kd.R_form HO_5.out (by omega)
         (first | cases eo17 | (injection eo17 with ea_ en_ ec_; (first | subst ea_ | (injection ea_ with ea_; subst ea_)); subst ec_; clear en_))
         have GB17 := Aside0.mk gb17
         have GG17 := Aside0.mk HG17
         clear gb17 gl17 HG17
         obtain ⟨hx17_0, hf17_0⟩ := Kd.R_celln 0 HO_5.out (x13_1 : Int) p17 q17
         replace p17 := eq_true p17
         replace q17 := eq_true q17
         have HP18 := Kd.R_putg HO_5.out (x13_1 : Int) ((ji14) % 256)
         go_wp2_with (first | ((with_reducible refine gate_store (t := 5) (p := 24) rfl ?_); refine store_event (t := 5) (p := 24) (v := ?vo_w19) (w1 := (wr.setCell ⟨go17, (x13_1 : Int).toNat, none⟩ (.int .u8 ((ji14) % 256)))) ?hg ?ho ?hn ?hr ?_; (case ho => rfl); (case hg => rfl); (case hn => rfl); (case hr => first | (go_simp; done) | (go_simp; rfl)); intro w19 hw; have hg : wr.grownBy w19 (some go17) := (by rw [hw]; exact HP18.2); have hp_ : Kd.R (Kd.int .u8) 5 w19 w.heap.size (fun _ => True) (.slice (some ⟨go17, 0, none⟩) x5_1.length co9) y151 := (by rw [hw, Ny151.out]; exact HP18.1); clear HP18; have n0_ := Aside0.mk (hp_); have n1_ := Aside0.mk ((by rw [hw]; exact below_set (HB.out) GB17.out : Below w.heap.size w w19)); clear HO_5 HB; have HO_5 := n0_; have HB := n1_; clear n0_ n1_; (try (have hck18 : w19.cell? ⟨go17, (x13_1 : Int).toNat, none⟩ = some (.int .u8 ((ji14) % 256)) := by rw [hw]; exact World.cell?_setCell_same _ _ _ hx18_0)); clear hg hw hp_))
         (try simp only [← hl5_1])
         go_roundg k1
         case measure => have := HK1.out; omega
         case rel => exact ⟨(y151), (wrap64 (x13_1 + 1)), cl_, H', ⟨by have := HK1.out; omega⟩, ⟨by (try simp only [hl5_1]); (with_reducible repeat (first | apply Kd.R_alloc | apply Kd.R_drewN | apply Kd.R_drew)); exact HO_5.out⟩, ⟨hb_⟩⟩
        ·rw [if_neg c16] at H
         exact absurd H (by simp)
       ·rw [if_neg c15] at H
        exact absurd H (by simp)
      ·rw [if_neg c13] at H
       exact absurd H (by simp)
     ·rw [if_neg c10] at H
      have c10b0 : decide (x13_1 < (y148.length : Int)) = false := decide_eq_false c10
      (try simp only [hl5_1] at c10b0)
      clear c10
      obtain rfl := Option.some.inj H
      have hcv20 := own_string (P := Try.prog) Try.underlying39 Try.underlying5 Try.underlying9 (Kd.own_of_R HO_5.out)
      go_wp2
      go_ret
      exact ⟨by first | rfl | (simp [errW_none, errW_some] <;> rfl) | (simp only [← hji3, ← hji4]; first | rfl | (simp [errW_none, errW_some] <;> rfl)) | (simp [*, errW_none, errW_some] <;> rfl), hb_⟩
  ·rw [if_neg c6] at H
   exact absurd H (by simp)
 ·rw [if_neg c5] at H
  exact absurd H (by simp)
def octet_joined.l0 : Nat → List Int → List ByteArray → Int → Int → Option (ByteArray)
  | 0, _, _, _, _ => none
  | k + 1, x3, x6, x7, x8 => if x8 < x7 then (if 0 ≤ x8 then (if x8 < (x6.length : Int) then (if x3.length + (rdOf ByteArray.empty x6 x8).size < 140737488355328 then (octet_joined.l0 k (x3 ++ bytesOf (rdOf ByteArray.empty x6 x8)) x6 x7 (wrap64 (x8 + 1))) else (none)) else (none)) else (none)) else (some (strOfNums x3))
def octet_joined.f (k : Nat) (l0 : List ByteArray) : Option (ByteArray) := octet_joined.l0 k ([] : List Int) l0 (l0.length : Int) 0
theorem octet_joined.mono_l : ∀ k, (∀ y0 y1 y2 y3, LeO (octet_joined.l0 k y0 y1 y2 y3) (octet_joined.l0 (k + 1) y0 y1 y2 y3))
 | 0 => fun _ _ _ _ r h => by simp [octet_joined.l0] at h
 | k + 1 => by
  have ih0 := octet_joined.mono_l k
  ·intro y0 y1 y2 y3
   unfold octet_joined.l0
   repeat' first
   | (with_reducible exact ih0 _ _ _ _)
   | (with_reducible exact LeO.refl _)
   | (with_reducible exact LeO.none _)
   | (with_reducible refine LeO.ite ?_ ?_)
   | (with_reducible refine LeO.bind ?_ (fun _ => ?_))
   | exact ih0 _ _ _ _
   | exact LeO.none _
   | refine LeO.ite ?_ ?_
   | refine LeO.bind ?_ (fun _ => ?_)
theorem octet_joined.mono : ∀ a0 k, LeO (octet_joined.f k a0) (octet_joined.f (k + 1) a0) := by
 intro a0 k
 have ih0 := octet_joined.mono_l k
 unfold octet_joined.f
 repeat' first
   | (with_reducible exact ih0 _ _ _ _)
   | (with_reducible exact LeO.refl _)
   | (with_reducible exact LeO.none _)
   | (with_reducible refine LeO.ite ?_ ?_)
   | (with_reducible refine LeO.bind ?_ (fun _ => ?_))
   | exact ih0 _ _ _ _
   | exact LeO.none _
   | refine LeO.ite ?_ ?_
   | refine LeO.bind ?_ (fun _ => ?_)
set_option maxHeartbeats 8000000 in
set_option maxRecDepth 100000 in
theorem octet_joined.calls (k : Nat) (A0 : Option Addr) (c0 : Nat) (l0 : List ByteArray) (r : ByteArray) (w : World) (hr0 : Kd.C Kd.string w A0 l0.length l0) (hc0 : l0.length ≤ c0) (h : octet_joined.f k l0 = some r) :
  Calls Try.prog 89 #[.slice A0 l0.length c0] w fun e w' => e = .returned (.string r) ∧ Below w.heap.size w w' := by
 have HR0 := Aside0.mk hr0
 have HC0 := Aside0.mk hc0
 clear hr0 hc0
 have HB := Aside0.mk (Below.refl w.heap.size w)
 have H : (octet_joined.l0 k ([] : List Int) l0 (l0.length : Int) 0) = some r := h
 clear h
 have H' := Aside0.mk H
 clear H
 go_enter Try.func89, Try.ntmps89
 go_wp2
 go_loopg [3, 8] k (fun kq v3 v8 w' => ∃ (x3_1 : List Int) (x8_1 : Int), v8 = .int .i64 x8_1 ∧ Aside0 (octet_joined.l0 kq x3_1 l0 (l0.length : Int) x8_1 = some r) ∧ Aside0 (kq ≤ k) ∧ Aside0 (Kd.R (Kd.int .u8) 5 w' w.heap.size (fun _ => True) v3 x3_1) ∧ Aside0 (Below w.heap.size w w'))
 case atStart => exact ⟨(([] : List Int)), (0), cl_, H', ⟨Nat.le_refl _⟩, ⟨by first | exact Kd.R_nil _ _ _ _ _ | exact Kd.N_nil _ _ _ _ _ | exact Kd.V_nil _ _ _ _ _ | exact Kd.Q_nil _ _ _ _ _ | exact Kd.S_nil _ _ _ _ _⟩, ⟨hb_⟩⟩
 case round =>
  clear H'
  obtain ⟨x3_1, x8_1, rfl, HA, HK1, HO_3, HB⟩ := hrel
  cases gk with
  | zero => exact absurd HA.out (by simp [octet_joined.l0])
  | succ k1 =>
   have H := HA.out
   clear HA
   simp only [octet_joined.l0] at H
   by_cases c2 : x8_1 < (l0.length : Int)
   ·rw [if_pos c2] at H
    have c2b0 : decide (x8_1 < (l0.length : Int)) = true := decide_eq_true c2
    clear c2
    by_cases c3 : 0 ≤ x8_1
    ·rw [if_pos c3] at H
     have c3b0 : decide (0 ≤ x8_1) = true := decide_eq_true c3
     clear c3
     by_cases c4 : x8_1 < (l0.length : Int)
     ·rw [if_pos c4] at H
      have c4b0 : decide (x8_1 < (l0.length : Int)) = true := decide_eq_true c4
      clear c4
      by_cases c5 : x3_1.length + (rdOf ByteArray.empty l0 x8_1).size < 140737488355328
      ·rw [if_pos c5] at H
       have LMc5 := Aside0.mk c5
       clear c5
       obtain ⟨y153, hy153⟩ : ∃ y_ : List Int, y_ = (x3_1 ++ bytesOf (rdOf ByteArray.empty l0 x8_1)) := ⟨_, rfl⟩
       replace H : (octet_joined.l0 k1 y153 l0 (l0.length : Int) (wrap64 (x8_1 + 1))) = some r := by first | (rw [hy153]; with_reducible exact H) | (have H2_ := (Option.bind_some _ _).symm.trans H; rw [hy153]; with_reducible exact H2_) | (have H2_ := (Option.bind_some _ _).symm.trans H; with_reducible exact H2_) | with_reducible exact H | (rw [hy153]; exact H) | exact H
       have Ny153 := Aside0.mk hy153
       clear hy153
       have H' := Aside0.mk H
       clear H
       have p152 : 0 ≤ (x8_1 : Int) := oa_
       have q152 : x8_1 < (l0.length : Int) := oa_
       obtain ⟨ad152, e152, hx152_0⟩ := Kd.at_string HR0.out x8_1 p152 q152
       cases e152
       replace hx152_0 := (HB.out.cell (World.block_lt_of_cell? w _ hx152_0)).trans hx152_0
       replace p152 := eq_true p152
       replace q152 := eq_true q152
       go_wp2_with (first | (at_builtin; refine print_append_str (w0 := w) w.heap.size rfl (.tmp 12) _ 39 9 5 rfl Try.underlying39 Try.underlying9 info5 u3 x3_1 (rdOf ByteArray.empty l0 x8_1) rfl rfl ?aO ?aB ?aS ?aL ?_; (case aB => exact hb_); (case aO => exact (Kd.own_of_R (rk_ HO_3.out))); (case aS => exact (below_size hb_)); (case aL => have := LMc5.out; omega); intro v154 w6 ho0 hb hg; have ho := Kd.R_of_own (h1 := fun _ => rfl) (ok := fun _ => True) ho0 (fun _ _ => trivial); clear ho0; have hat := True.intro; rw [← Ny153.out] at ho; change Kd.R (Kd.int .u8) 5 w6 w.heap.size (fun _ => True) v154 y153 at ho; have n0_ := Aside0.mk (hb); have n1_ := Aside0.mk (ho); clear HB HO_3; have HB := n0_; have HO155 := n1_; clear n0_ n1_; clear ho hb hg hat))
       go_roundg k1
       case measure => have := HK1.out; omega
       case rel => exact ⟨(y153), (wrap64 (x8_1 + 1)), cl_, H', ⟨by have := HK1.out; omega⟩, ⟨rk_ HO155.out⟩, ⟨hb_⟩⟩
      ·rw [if_neg c5] at H
       exact absurd H (by simp)
     ·rw [if_neg c4] at H
      exact absurd H (by simp)
    ·rw [if_neg c3] at H
     exact absurd H (by simp)
   ·rw [if_neg c2] at H
    have c2b0 : decide (x8_1 < (l0.length : Int)) = false := decide_eq_false c2
    clear c2
    obtain rfl := Option.some.inj H
    have hcv7 := own_string (P := Try.prog) Try.underlying39 Try.underlying5 Try.underlying9 (Kd.own_of_R HO_3.out)
    go_wp2
    go_ret
    exact ⟨ew_, hb_⟩
end Go.Proofs.Ytenlmckahaniiaa.K
end
section
namespace Go.Proofs.Ytenlmckahaniiaa.K
open Go.RowKit Go.Proofs.YtenlmckahaniiaaW.PrintWords Go.Proofs.YtenlmckahaniiaaW.PrintLast
set_option linter.unusedVariables false
set_option linter.unusedSimpArgs false
mutual
def octet_sum.l0 : Nat → Int → List ByteArray → Int → Int → Option (Int)
  | 0, _, _, _, _ => none
  | k + 1, x3, x8, x9, x10 => if x10 < x9 then (if 0 ≤ x10 then (if x10 < (x8.length : Int) then (octet_sum.l1 k x3 (rdOf ByteArray.empty x8 x10) x8 x9 x10 ((rdOf ByteArray.empty x8 x10).size : Int) 0) else (none)) else (none)) else (some (wrap64 (Go.bits .xor .u32 4294967295 x3)))
def octet_sum.l1 : Nat → Int → ByteArray → List ByteArray → Int → Int → Int → Int → Option (Int)
  | 0, _, _, _, _, _, _, _ => none
  | k + 1, x3, x5, x8, x9, x10, x15, x16 => if x16 < x15 then (if 0 ≤ x16 then (if x16 < (x5.size : Int) then (octet_sum.l2 k (Go.bits .xor .u32 x3 ((bt x5 x16) % 4294967296)) x5 x8 x9 x10 x15 x16 0) else (none)) else (none)) else (octet_sum.l0 k x3 x8 x9 (wrap64 (x10 + 1)))
def octet_sum.l2 : Nat → Int → ByteArray → List ByteArray → Int → Int → Int → Int → Int → Option (Int)
  | 0, _, _, _, _, _, _, _, _ => none
  | k + 1, x3, x5, x8, x9, x10, x15, x16, x25 => if x25 < 8 then (octet_sum.l2 k (Go.bits .xor .u32 (x3 / 2) (((Go.bits .and .u32 x3 1) * 3988292384) % 4294967296)) x5 x8 x9 x10 x15 x16 (wrap64 (x25 + 1))) else (octet_sum.l1 k x3 x5 x8 x9 x10 x15 (wrap64 (x16 + 1)))
end
def octet_sum.f (k : Nat) (l0 : List ByteArray) : Option (Int) := octet_sum.l0 k 4294967295 l0 (l0.length : Int) 0
theorem octet_sum.mono_l : ∀ k, (∀ y0 y1 y2 y3, LeO (octet_sum.l0 k y0 y1 y2 y3) (octet_sum.l0 (k + 1) y0 y1 y2 y3)) ∧ (∀ y0 y1 y2 y3 y4 y5 y6, LeO (octet_sum.l1 k y0 y1 y2 y3 y4 y5 y6) (octet_sum.l1 (k + 1) y0 y1 y2 y3 y4 y5 y6)) ∧ (∀ y0 y1 y2 y3 y4 y5 y6 y7, LeO (octet_sum.l2 k y0 y1 y2 y3 y4 y5 y6 y7) (octet_sum.l2 (k + 1) y0 y1 y2 y3 y4 y5 y6 y7))
 | 0 => ⟨fun _ _ _ _ r h => by simp [octet_sum.l0] at h, fun _ _ _ _ _ _ _ r h => by simp [octet_sum.l1] at h, fun _ _ _ _ _ _ _ _ r h => by simp [octet_sum.l2] at h⟩
 | k + 1 => by
  obtain ⟨ih0, ih1, ih2⟩ := octet_sum.mono_l k
  refine ⟨?_, ?_, ?_⟩
  ·intro y0 y1 y2 y3
   unfold octet_sum.l0
   repeat' first
   | (with_reducible exact ih0 _ _ _ _)
   | (with_reducible exact ih1 _ _ _ _ _ _ _)
   | (with_reducible exact ih2 _ _ _ _ _ _ _ _)
   | (with_reducible exact LeO.refl _)
   | (with_reducible exact LeO.none _)
   | (with_reducible refine LeO.ite ?_ ?_)
   | (with_reducible refine LeO.bind ?_ (fun _ => ?_))
   | exact ih0 _ _ _ _
   | exact ih1 _ _ _ _ _ _ _
   | exact ih2 _ _ _ _ _ _ _ _
   | exact LeO.none _
   | refine LeO.ite ?_ ?_
   | refine LeO.bind ?_ (fun _ => ?_)
  ·intro y0 y1 y2 y3 y4 y5 y6
   unfold octet_sum.l1
   repeat' first
   | (with_reducible exact ih0 _ _ _ _)
   | (with_reducible exact ih1 _ _ _ _ _ _ _)
   | (with_reducible exact ih2 _ _ _ _ _ _ _ _)
   | (with_reducible exact LeO.refl _)
   | (with_reducible exact LeO.none _)
   | (with_reducible refine LeO.ite ?_ ?_)
   | (with_reducible refine LeO.bind ?_ (fun _ => ?_))
   | exact ih0 _ _ _ _
   | exact ih1 _ _ _ _ _ _ _
   | exact ih2 _ _ _ _ _ _ _ _
   | exact LeO.none _
   | refine LeO.ite ?_ ?_
   | refine LeO.bind ?_ (fun _ => ?_)
  ·intro y0 y1 y2 y3 y4 y5 y6 y7
   unfold octet_sum.l2
   repeat' first
   | (with_reducible exact ih0 _ _ _ _)
   | (with_reducible exact ih1 _ _ _ _ _ _ _)
   | (with_reducible exact ih2 _ _ _ _ _ _ _ _)
   | (with_reducible exact LeO.refl _)
   | (with_reducible exact LeO.none _)
   | (with_reducible refine LeO.ite ?_ ?_)
   | (with_reducible refine LeO.bind ?_ (fun _ => ?_))
   | exact ih0 _ _ _ _
   | exact ih1 _ _ _ _ _ _ _
   | exact ih2 _ _ _ _ _ _ _ _
   | exact LeO.none _
   | refine LeO.ite ?_ ?_
   | refine LeO.bind ?_ (fun _ => ?_)
theorem octet_sum.mono : ∀ a0 k, LeO (octet_sum.f k a0) (octet_sum.f (k + 1) a0) := by
 intro a0 k
 obtain ⟨ih0, ih1, ih2⟩ := octet_sum.mono_l k
 unfold octet_sum.f
 repeat' first
   | (with_reducible exact ih0 _ _ _ _)
   | (with_reducible exact ih1 _ _ _ _ _ _ _)
   | (with_reducible exact ih2 _ _ _ _ _ _ _ _)
   | (with_reducible exact LeO.refl _)
   | (with_reducible exact LeO.none _)
   | (with_reducible refine LeO.ite ?_ ?_)
   | (with_reducible refine LeO.bind ?_ (fun _ => ?_))
   | exact ih0 _ _ _ _
   | exact ih1 _ _ _ _ _ _ _
   | exact ih2 _ _ _ _ _ _ _ _
   | exact LeO.none _
   | refine LeO.ite ?_ ?_
   | refine LeO.bind ?_ (fun _ => ?_)
set_option maxHeartbeats 8000000 in
set_option maxRecDepth 100000 in
theorem octet_sum.calls (k : Nat) (A0 : Option Addr) (c0 : Nat) (l0 : List ByteArray) (r : Int) (w : World) (hr0 : Kd.C Kd.string w A0 l0.length l0) (hc0 : l0.length ≤ c0) (h : octet_sum.f k l0 = some r) :
  Calls Try.prog 90 #[.slice A0 l0.length c0] w fun e w' => e = .returned (.int .i64 r) ∧ Drawn0 w w' := by
 have HR0 := Aside0.mk hr0
 have HC0 := Aside0.mk hc0
 clear hr0 hc0
 have H : (octet_sum.l0 k 4294967295 l0 (l0.length : Int) 0) = some r := h
 clear h
 have H' := Aside0.mk H
 clear H
 go_enter Try.func90, Try.ntmps90
 go_wp2
 go_loopg [3, 10] k (fun kq v3 v10 w' => ∃ (x3_1 : Int) (x10_1 : Int), v3 = .int .u32 x3_1 ∧ v10 = .int .i64 x10_1 ∧ Aside0 (octet_sum.l0 kq x3_1 l0 (l0.length : Int) x10_1 = some r) ∧ Aside0 (kq ≤ k) ∧ Drawn0 w w')
 case atStart => exact ⟨(4294967295), (0), cl_, cl_, H', ⟨Nat.le_refl _⟩, by repeat (first | exact Drawn0.refl _ | apply Drawn0.step)⟩
 case round =>
  clear H'
  obtain ⟨x3_1, x10_1, rfl, rfl, HA, HK1, ⟨m1, rfl⟩⟩ := hrel
  cases gk with
  | zero => exact absurd HA.out (by simp [octet_sum.l0])
  | succ k1 =>
   have H := HA.out
   clear HA
   simp only [octet_sum.l0] at H
   by_cases c2 : x10_1 < (l0.length : Int)
   ·rw [if_pos c2] at H
    have c2b0 : decide (x10_1 < (l0.length : Int)) = true := decide_eq_true c2
    clear c2
    by_cases c3 : 0 ≤ x10_1
    ·rw [if_pos c3] at H
     have c3b0 : decide (0 ≤ x10_1) = true := decide_eq_true c3
     clear c3
     by_cases c4 : x10_1 < (l0.length : Int)
     ·rw [if_pos c4] at H
      have c4b0 : decide (x10_1 < (l0.length : Int)) = true := decide_eq_true c4
      clear c4
      have H' := Aside0.mk H
      clear H
      have p156 : 0 ≤ (x10_1 : Int) := oa_
      have q156 : x10_1 < (l0.length : Int) := oa_
      obtain ⟨ad156, e156, hx156_0⟩ := Kd.at_string HR0.out x10_1 p156 q156
      cases e156
      replace p156 := eq_true p156
      replace q156 := eq_true q156
      go_wp2
      go_loopg [3, 16] k1 (fun kq v3 v16 w' => ∃ (x3_2 : Int) (x16_2 : Int), v3 = .int .u32 x3_2 ∧ v16 = .int .i64 x16_2 ∧ Aside0 (octet_sum.l1 kq x3_2 (rdOf ByteArray.empty l0 x10_1) l0 (l0.length : Int) x10_1 ((rdOf ByteArray.empty l0 x10_1).size : Int) x16_2 = some r) ∧ Aside0 (kq ≤ k1) ∧ Drawn0 w w')
      case atStart => exact ⟨(x3_1), (0), cl_, cl_, H', ⟨Nat.le_refl _⟩, by repeat (first | exact Drawn0.refl _ | apply Drawn0.step)⟩
      case round =>
       clear H'
       (try clear p1); (try clear q1); (try clear hx1); (try clear c2); (try clear c2b0); (try clear p2); (try clear c3); (try clear c3b0); (try clear c4); (try clear c4b0); (try clear hx156_0); (try clear p156); (try clear q156)
       obtain ⟨x3_2, x16_2, rfl, rfl, HA, HK2, ⟨m2, rfl⟩⟩ := hrel
       cases gk with
       | zero => exact absurd HA.out (by simp [octet_sum.l1])
       | succ k2 =>
        have H := HA.out
        clear HA
        simp only [octet_sum.l1] at H
        by_cases c5 : x16_2 < ((rdOf ByteArray.empty l0 x10_1).size : Int)
        ·rw [if_pos c5] at H
         have c5b0 : decide (x16_2 < ((rdOf ByteArray.empty l0 x10_1).size : Int)) = true := decide_eq_true c5
         clear c5
         by_cases c6 : 0 ≤ x16_2
         ·rw [if_pos c6] at H
          have c6b0 : decide (0 ≤ x16_2) = true := decide_eq_true c6
          clear c6
          by_cases c7 : x16_2 < ((rdOf ByteArray.empty l0 x10_1).size : Int)
          ·rw [if_pos c7] at H
           have c7b0 : decide (x16_2 < ((rdOf ByteArray.empty l0 x10_1).size : Int)) = true := decide_eq_true c7
           clear c7
           have H' := Aside0.mk H
           clear H
           have p8 : 0 ≤ (x16_2 : Int) := oa_
           have q8 : x16_2 < ((rdOf ByteArray.empty l0 x10_1).size : Int) := oa_
           have hx8 := bt_at (rdOf ByteArray.empty l0 x10_1) x16_2
           replace p8 := eq_true p8
           replace q8 := eq_true q8
           go_wp2
           go_loopg [3, 25] k2 (fun kq v3 v25 w' => ∃ (x3_3 : Int) (x25_3 : Int), v3 = .int .u32 x3_3 ∧ v25 = .int .i64 x25_3 ∧ Aside0 (octet_sum.l2 kq x3_3 (rdOf ByteArray.empty l0 x10_1) l0 (l0.length : Int) x10_1 ((rdOf ByteArray.empty l0 x10_1).size : Int) x16_2 x25_3 = some r) ∧ Aside0 (kq ≤ k2) ∧ Drawn0 w w')
           case atStart => exact ⟨(Go.bits .xor .u32 x3_2 ((bt (rdOf ByteArray.empty l0 x10_1) x16_2) % 4294967296)), (0), cl_, cl_, H', ⟨Nat.le_refl _⟩, by repeat (first | exact Drawn0.refl _ | apply Drawn0.step)⟩
           case round =>
            clear H'
            (try clear p1); (try clear q1); (try clear hx1); (try clear c2); (try clear c2b0); (try clear p2); (try clear c3); (try clear c3b0); (try clear c4); (try clear c4b0); (try clear c5); (try clear c5b0); (try clear c6); (try clear c6b0); (try clear c7); (try clear c7b0); (try clear p8); (try clear q8); (try clear hx8); (try clear hx156_0); (try clear p1); (try clear p156); (try clear p2); (try clear p8); (try clear q1); (try clear q156); (try clear q8)
            obtain ⟨x3_3, x25_3, rfl, rfl, HA, HK3, ⟨m3, rfl⟩⟩ := hrel
            cases gk with
            | zero => exact absurd HA.out (by simp [octet_sum.l2])
            | succ k3 =>
             have H := HA.out
             clear HA
             simp only [octet_sum.l2] at H
             by_cases c9 : x25_3 < 8
             ·rw [if_pos c9] at H
              have c9b0 : decide (x25_3 < 8) = true := decide_eq_true c9
              clear c9
              have H' := Aside0.mk H
              clear H
              go_wp2
              go_roundg k3
              case measure => have := HK1.out; have := HK2.out; have := HK3.out; omega
              case rel => exact ⟨(Go.bits .xor .u32 (x3_3 / 2) (((Go.bits .and .u32 x3_3 1) * 3988292384) % 4294967296)), (wrap64 (x25_3 + 1)), cl_, cl_, H', ⟨by have := HK1.out; have := HK2.out; have := HK3.out; omega⟩, by repeat (first | exact Drawn0.refl _ | apply Drawn0.step)⟩
             ·rw [if_neg c9] at H
              have c9b0 : decide (x25_3 < 8) = false := decide_eq_false c9
              clear c9
              have H' := Aside0.mk H
              clear H
              go_wp2
              go_roundg k3
              case measure => have := HK1.out; have := HK2.out; have := HK3.out; omega
              case rel => exact ⟨(x3_3), (wrap64 (x16_2 + 1)), cl_, cl_, H', ⟨by have := HK1.out; have := HK2.out; have := HK3.out; omega⟩, by repeat (first | exact Drawn0.refl _ | apply Drawn0.step)⟩
          ·rw [if_neg c7] at H
           exact absurd H (by simp)
         ·rw [if_neg c6] at H
          exact absurd H (by simp)
        ·rw [if_neg c5] at H
         have c5b0 : decide (x16_2 < ((rdOf ByteArray.empty l0 x10_1).size : Int)) = false := decide_eq_false c5
         clear c5
         have H' := Aside0.mk H
         clear H
         go_wp2
         go_roundg k2
         case measure => have := HK1.out; have := HK2.out; omega
         case rel => exact ⟨(x3_2), (wrap64 (x10_1 + 1)), cl_, cl_, H', ⟨by have := HK1.out; have := HK2.out; omega⟩, by repeat (first | exact Drawn0.refl _ | apply Drawn0.step)⟩
     ·rw [if_neg c4] at H
      exact absurd H (by simp)
    ·rw [if_neg c3] at H
     exact absurd H (by simp)
   ·rw [if_neg c2] at H
    have c2b0 : decide (x10_1 < (l0.length : Int)) = false := decide_eq_false c2
    clear c2
    obtain rfl := Option.some.inj H
    go_wp2
    go_ret
    exact ⟨by first | rfl | (simp; done) | (simp [isEmpty_ne]; done) | (simp [*]; done), by repeat (first | exact Drawn0.refl _ | apply Drawn0.step)⟩
end Go.Proofs.Ytenlmckahaniiaa.K
end
