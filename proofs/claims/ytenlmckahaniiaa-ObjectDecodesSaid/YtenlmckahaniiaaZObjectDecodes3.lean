/- Lemmas for the law ObjectDecodes: what its proof needs of this seat's texts, in one place. -/
import Derived.Test.YtenlmckahaniiaaZObjectDecodes2
section
namespace Go.Proofs.Ytenlmckahaniiaa.K
open Go.RowKit Go.Proofs.YtenlmckahaniiaaW.PrintWords Go.Proofs.YtenlmckahaniiaaW.PrintLast
set_option linter.unusedVariables false
set_option linter.unusedSimpArgs false
def symOk (s : S62) : Bool := !(decide (s.f1 < 0)) && !(decide (s.f1 > 3)) && !(bits .and .i64 s.f2 65535 != s.f2)
def object_checkSymbols.l0 : Nat → List (S62) → List (List UInt8) → Int → Option Int
  | 0, _, _, _ => none
  | k + 1, x0, m, x9 => if x9 < (x0.length : Int) then (if 0 ≤ x9 then ((object_isName.f k ((rd_T62 x0 x9).f0)).bind fun t => (if t = true then (if (rd_T62 x0 x9).f0.data.toList ∈ m then some 6 else (if symOk (rd_T62 x0 x9) = true then (if m.length < 1000000 then (object_checkSymbols.l0 k x0 (m ++ [(rd_T62 x0 x9).f0.data.toList]) (wrap64 (x9 + 1))) else none) else some 2)) else some 4)) else none) else some 0
def object_checkSymbols.f (k : Nat) (l0 : List (S62)) : Option Int := object_checkSymbols.l0 k l0 [] 0
theorem object_checkSymbols.mono_l : ∀ k, (∀ y0 y1 y2, LeO (object_checkSymbols.l0 k y0 y1 y2) (object_checkSymbols.l0 (k + 1) y0 y1 y2))
 | 0 => fun _ _ _ r h => by simp [object_checkSymbols.l0] at h
 | k + 1 => by
  have ih0 := object_checkSymbols.mono_l k
  intro y0 y1 y2
  unfold object_checkSymbols.l0
  repeat' first
   | exact ih0 _ _ _
   | exact object_isName.mono _ _
   | exact LeO.refl _
   | exact LeO.none _
   | refine LeO.ite ?_ ?_
   | refine LeO.bind ?_ (fun _ => ?_)
theorem object_checkSymbols.mono : ∀ a0 k, LeO (object_checkSymbols.f k a0) (object_checkSymbols.f (k + 1) a0) := fun a0 k => object_checkSymbols.mono_l k a0 [] 0
theorem isName_size {k : Nat} {a : ByteArray} (h : object_isName.f k a = some true) : a.size ≤ 14 := by
 unfold object_isName.f at h
 split at h
 ·rename_i h0
  have e : a.data.toList = [] := by rw [← Lib.toList_data]; exact h0
  show a.data.size ≤ 14
  rw [← Array.length_toList, e]
  exact Nat.zero_le _
 ·split at h
  ·cases k <;> simp [object_isName.j0] at h
  ·omega
theorem box62 {w : World} {g : Nat} {z0 z1 z2 z3 : Value} (h : w.heap[g]? = some (.cells #[z0, z1, z2, z3] 62 (0, 0))) (a b c d : Value) :
  ((((w.setCell ⟨g, 0, none⟩ a).setCell ⟨g, 1, none⟩ b).setCell ⟨g, 2, none⟩ c).setCell ⟨g, 3, none⟩ d).heap[g]? = some (.cells #[a, b, c, d] 62 (0, 0)) :=
 blk_put (blk_put (blk_put (blk_put h 0 a rfl) 1 b rfl) 2 c rfl) 3 d rfl
set_option maxHeartbeats 8000000 in
set_option maxRecDepth 100000 in
theorem object_checkSymbols.calls (k : Nat) (A0 : Option Addr) (c0 : Nat) (l0 : List (S62)) (r : Int) (w : World) (hr0 : Kd.C k62 w A0 l0.length l0) (hc0 : l0.length ≤ c0) (h : object_checkSymbols.f k l0 = some r) :
  Calls Try.prog 49 #[.slice A0 l0.length c0] w fun e w' => e = .returned (.int .i64 r) ∧ Below w.heap.size w w' := by
 have HR0 := Aside0.mk hr0
 clear hr0 hc0
 have H' := Aside0.mk (show object_checkSymbols.l0 k l0 [] 0 = some r from h)
 clear h
 have hmm := @run_makeMap Try.prog
 go_enter Try.func49, Try.ntmps49
 go_wp2
 clear hmm
 go_loopg [9] k (fun kq v9 w' => ∃ (m : List (List UInt8)) (x9 : Int), v9 = .int .i64 x9 ∧ Aside0 (object_checkSymbols.l0 kq l0 m x9 = some r) ∧ Aside0 (kq ≤ k) ∧ Aside0 (Seen w' w.heap.size m) ∧ Aside0 (Below w.heap.size w w'))
 case atStart => exact ⟨[], 0, rfl, H', ⟨Nat.le_refl _⟩, ⟨Seen.made w⟩, ⟨(Below.refl _ _).alloc (Nat.le_refl _) _⟩⟩
 case round =>
  clear H'
  obtain ⟨m, x9, rfl, HA, HK1, HS, HB⟩ := hrel
  cases gk with
  | zero => exact absurd HA.out (by simp [object_checkSymbols.l0])
  | succ k1 =>
   have H := HA.out
   clear HA
   simp only [object_checkSymbols.l0] at H
   by_cases c2 : x9 < (l0.length : Int)
   ·rw [if_pos c2] at H
    have c2b0 : decide (x9 < (l0.length : Int)) = true := decide_eq_true c2
    by_cases c3 : 0 ≤ x9
    ·rw [if_pos c3] at H
     have c3b0 : decide (0 ≤ x9) = true := decide_eq_true c3
     obtain ⟨t, A4, H⟩ := Option.bind_eq_some_iff.mp H
     obtain ⟨ad, ead, hx_0, hx_1, hx_2, hx_3⟩ := at_T62 HR0.out x9 c3 c2
     cases ead
     replace hx_0 := (HB.out.cell (World.block_lt_of_cell? w _ hx_0)).trans hx_0
     replace hx_1 := (HB.out.cell (World.block_lt_of_cell? w _ hx_1)).trans hx_1
     replace hx_2 := (HB.out.cell (World.block_lt_of_cell? w _ hx_2)).trans hx_2
     replace hx_3 := (HB.out.cell (World.block_lt_of_cell? w _ hx_3)).trans hx_3
     generalize hsym : rd_T62 l0 x9 = sy at *
     have c2' := eq_true c2
     have c3' := eq_true c3
     cases t with
     | false =>
      rw [if_neg (show ¬ (false = true) by decide)] at H
      obtain rfl := Option.some.inj H
      clear H
      go_wp2_with (first | ((with_reducible refine gate_dst (N := 5) rfl ?_); refine box_event ?hg (N := 5) ?hd (cs := #[.string (⟨#[]⟩ : ByteArray), .int .i64 0, .int .i64 0, .bool false]) (t := 62) ?hr ?_; (case hd => rfl); (case hg => rfl); (case hr => first | (go_simp; done) | (go_simp; rfl)); intro gb hg w1 hbox hb; have HB1 := Aside0.mk (below_step HB.out hb); have HS1 := Aside0.mk (HS.out.below hb); have GE : w.heap.size ≤ gb := (by rw [hg]; exact below_size HB.out); have NE : w.heap.size ≠ gb := (by have := HS.out.lt; omega); have hc_0 : w1.cell? ⟨gb, 0, none⟩ = some (.string (⟨#[]⟩ : ByteArray)) := (blk_cell hbox 0).trans rfl; have hc_1 : w1.cell? ⟨gb, 1, none⟩ = some (.int .i64 0) := (blk_cell hbox 1).trans rfl; have hc_2 : w1.cell? ⟨gb, 2, none⟩ = some (.int .i64 0) := (blk_cell hbox 2).trans rfl; have hc_3 : w1.cell? ⟨gb, 3, none⟩ = some (.bool false) := (blk_cell hbox 3).trans rfl; have hf_0 := blk_frozen hbox 0; have hf_1 := blk_frozen hbox 1; have hf_2 := blk_frozen hbox 2; have hf_3 := blk_frozen hbox 3; clear hb hg) | (go_at_call 48; (with_reducible refine (object_isName.calls k1 sy.f0 false _ A4).mono ?_); rintro e w2 ⟨rfl, hb2⟩; have BK2 := blk_below (box62 hbox _ _ _ _) hb2; have HB2 := Aside0.mk (below_step (below_set (below_set (below_set (below_set HB1.out GE) GE) GE) GE) hb2); have HS2 := Aside0.mk (Seen.below (Seen.set (Seen.set (Seen.set (Seen.set HS1.out NE _) NE _) NE _) NE _) hb2); have hd_0 : w2.cell? ⟨gb, 0, none⟩ = some (.string sy.f0) := (blk_cell BK2 0).trans rfl; have hd_1 : w2.cell? ⟨gb, 1, none⟩ = some (.int .i64 sy.f1) := (blk_cell BK2 1).trans rfl; have hd_2 : w2.cell? ⟨gb, 2, none⟩ = some (.int .i64 sy.f2) := (blk_cell BK2 2).trans rfl; have hd_3 : w2.cell? ⟨gb, 3, none⟩ = some (.bool sy.f3) := (blk_cell BK2 3).trans rfl; clear hb2))
      go_ret
      exact ⟨rfl, HB2.out⟩
     | true =>
      rw [if_pos rfl] at H
      have hsz : sy.f0.size ≤ maxLen := by have := isName_size A4; unfold maxLen; omega
      by_cases cm : sy.f0.data.toList ∈ m
      ·rw [if_pos cm] at H
       obtain rfl := Option.some.inj H
       clear H
       go_wp2_with (first | ((with_reducible refine gate_dst (N := 5) rfl ?_); refine box_event ?hg (N := 5) ?hd (cs := #[.string (⟨#[]⟩ : ByteArray), .int .i64 0, .int .i64 0, .bool false]) (t := 62) ?hr ?_; (case hd => rfl); (case hg => rfl); (case hr => first | (go_simp; done) | (go_simp; rfl)); intro gb hg w1 hbox hb; have HB1 := Aside0.mk (below_step HB.out hb); have HS1 := Aside0.mk (HS.out.below hb); have GE : w.heap.size ≤ gb := (by rw [hg]; exact below_size HB.out); have NE : w.heap.size ≠ gb := (by have := HS.out.lt; omega); have hc_0 : w1.cell? ⟨gb, 0, none⟩ = some (.string (⟨#[]⟩ : ByteArray)) := (blk_cell hbox 0).trans rfl; have hc_1 : w1.cell? ⟨gb, 1, none⟩ = some (.int .i64 0) := (blk_cell hbox 1).trans rfl; have hc_2 : w1.cell? ⟨gb, 2, none⟩ = some (.int .i64 0) := (blk_cell hbox 2).trans rfl; have hc_3 : w1.cell? ⟨gb, 3, none⟩ = some (.bool false) := (blk_cell hbox 3).trans rfl; have hf_0 := blk_frozen hbox 0; have hf_1 := blk_frozen hbox 1; have hf_2 := blk_frozen hbox 2; have hf_3 := blk_frozen hbox 3; clear hb hg) | (go_at_call 48; (with_reducible refine (object_isName.calls k1 sy.f0 true _ A4).mono ?_); rintro e w2 ⟨rfl, hb2⟩; have BK2 := blk_below (box62 hbox _ _ _ _) hb2; have HB2 := Aside0.mk (below_step (below_set (below_set (below_set (below_set HB1.out GE) GE) GE) GE) hb2); have HS2 := Aside0.mk (Seen.below (Seen.set (Seen.set (Seen.set (Seen.set HS1.out NE _) NE _) NE _) NE _) hb2); have hd_0 : w2.cell? ⟨gb, 0, none⟩ = some (.string sy.f0) := (blk_cell BK2 0).trans rfl; have hd_1 : w2.cell? ⟨gb, 1, none⟩ = some (.int .i64 sy.f1) := (blk_cell BK2 1).trans rfl; have hd_2 : w2.cell? ⟨gb, 2, none⟩ = some (.int .i64 sy.f2) := (blk_cell BK2 2).trans rfl; have hd_3 : w2.cell? ⟨gb, 3, none⟩ = some (.bool sy.f3) := (blk_cell BK2 3).trans rfl; clear hb2) | (at_lookup; refine wpList_seen rfl _ _ rfl _ m rfl HS2.out sy.f0 rfl hsz ?_; rw [show decide (sy.f0.data.toList ∈ m) = true from decide_eq_true cm]))
       go_ret
       exact ⟨rfl, HB2.out⟩
      ·rw [if_neg cm] at H
       unfold symOk at H
       cases e1 : decide (sy.f1 < 0) with
       | true =>
        have e1' : (sy.f1 < 0) = True := eq_true (of_decide_eq_true e1)
        rw [e1, if_neg (by simp)] at H
        obtain rfl := Option.some.inj H
        clear H
        go_wp2_with (first | ((with_reducible refine gate_dst (N := 5) rfl ?_); refine box_event ?hg (N := 5) ?hd (cs := #[.string (⟨#[]⟩ : ByteArray), .int .i64 0, .int .i64 0, .bool false]) (t := 62) ?hr ?_; (case hd => rfl); (case hg => rfl); (case hr => first | (go_simp; done) | (go_simp; rfl)); intro gb hg w1 hbox hb; have HB1 := Aside0.mk (below_step HB.out hb); have HS1 := Aside0.mk (HS.out.below hb); have GE : w.heap.size ≤ gb := (by rw [hg]; exact below_size HB.out); have NE : w.heap.size ≠ gb := (by have := HS.out.lt; omega); have hc_0 : w1.cell? ⟨gb, 0, none⟩ = some (.string (⟨#[]⟩ : ByteArray)) := (blk_cell hbox 0).trans rfl; have hc_1 : w1.cell? ⟨gb, 1, none⟩ = some (.int .i64 0) := (blk_cell hbox 1).trans rfl; have hc_2 : w1.cell? ⟨gb, 2, none⟩ = some (.int .i64 0) := (blk_cell hbox 2).trans rfl; have hc_3 : w1.cell? ⟨gb, 3, none⟩ = some (.bool false) := (blk_cell hbox 3).trans rfl; have hf_0 := blk_frozen hbox 0; have hf_1 := blk_frozen hbox 1; have hf_2 := blk_frozen hbox 2; have hf_3 := blk_frozen hbox 3; clear hb hg) | (go_at_call 48; (with_reducible refine (object_isName.calls k1 sy.f0 true _ A4).mono ?_); rintro e w2 ⟨rfl, hb2⟩; have BK2 := blk_below (box62 hbox _ _ _ _) hb2; have HB2 := Aside0.mk (below_step (below_set (below_set (below_set (below_set HB1.out GE) GE) GE) GE) hb2); have HS2 := Aside0.mk (Seen.below (Seen.set (Seen.set (Seen.set (Seen.set HS1.out NE _) NE _) NE _) NE _) hb2); have hd_0 : w2.cell? ⟨gb, 0, none⟩ = some (.string sy.f0) := (blk_cell BK2 0).trans rfl; have hd_1 : w2.cell? ⟨gb, 1, none⟩ = some (.int .i64 sy.f1) := (blk_cell BK2 1).trans rfl; have hd_2 : w2.cell? ⟨gb, 2, none⟩ = some (.int .i64 sy.f2) := (blk_cell BK2 2).trans rfl; have hd_3 : w2.cell? ⟨gb, 3, none⟩ = some (.bool sy.f3) := (blk_cell BK2 3).trans rfl; clear hb2) | (at_lookup; refine wpList_seen rfl _ _ rfl _ m rfl HS2.out sy.f0 rfl hsz ?_; rw [show decide (sy.f0.data.toList ∈ m) = false from decide_eq_false cm]))
        go_ret
        exact ⟨rfl, HB2.out⟩
       | false =>
        cases e2 : decide (sy.f1 > 3) with
        | true =>
         have e2' : decide (3 < sy.f1) = true := e2
         rw [e1, e2, if_neg (by simp)] at H
         obtain rfl := Option.some.inj H
         clear H
         go_wp2_with (first | ((with_reducible refine gate_dst (N := 5) rfl ?_); refine box_event ?hg (N := 5) ?hd (cs := #[.string (⟨#[]⟩ : ByteArray), .int .i64 0, .int .i64 0, .bool false]) (t := 62) ?hr ?_; (case hd => rfl); (case hg => rfl); (case hr => first | (go_simp; done) | (go_simp; rfl)); intro gb hg w1 hbox hb; have HB1 := Aside0.mk (below_step HB.out hb); have HS1 := Aside0.mk (HS.out.below hb); have GE : w.heap.size ≤ gb := (by rw [hg]; exact below_size HB.out); have NE : w.heap.size ≠ gb := (by have := HS.out.lt; omega); have hc_0 : w1.cell? ⟨gb, 0, none⟩ = some (.string (⟨#[]⟩ : ByteArray)) := (blk_cell hbox 0).trans rfl; have hc_1 : w1.cell? ⟨gb, 1, none⟩ = some (.int .i64 0) := (blk_cell hbox 1).trans rfl; have hc_2 : w1.cell? ⟨gb, 2, none⟩ = some (.int .i64 0) := (blk_cell hbox 2).trans rfl; have hc_3 : w1.cell? ⟨gb, 3, none⟩ = some (.bool false) := (blk_cell hbox 3).trans rfl; have hf_0 := blk_frozen hbox 0; have hf_1 := blk_frozen hbox 1; have hf_2 := blk_frozen hbox 2; have hf_3 := blk_frozen hbox 3; clear hb hg) | (go_at_call 48; (with_reducible refine (object_isName.calls k1 sy.f0 true _ A4).mono ?_); rintro e w2 ⟨rfl, hb2⟩; have BK2 := blk_below (box62 hbox _ _ _ _) hb2; have HB2 := Aside0.mk (below_step (below_set (below_set (below_set (below_set HB1.out GE) GE) GE) GE) hb2); have HS2 := Aside0.mk (Seen.below (Seen.set (Seen.set (Seen.set (Seen.set HS1.out NE _) NE _) NE _) NE _) hb2); have hd_0 : w2.cell? ⟨gb, 0, none⟩ = some (.string sy.f0) := (blk_cell BK2 0).trans rfl; have hd_1 : w2.cell? ⟨gb, 1, none⟩ = some (.int .i64 sy.f1) := (blk_cell BK2 1).trans rfl; have hd_2 : w2.cell? ⟨gb, 2, none⟩ = some (.int .i64 sy.f2) := (blk_cell BK2 2).trans rfl; have hd_3 : w2.cell? ⟨gb, 3, none⟩ = some (.bool sy.f3) := (blk_cell BK2 3).trans rfl; clear hb2) | (at_lookup; refine wpList_seen rfl _ _ rfl _ m rfl HS2.out sy.f0 rfl hsz ?_; rw [show decide (sy.f0.data.toList ∈ m) = false from decide_eq_false cm]))
         go_ret
         exact ⟨rfl, HB2.out⟩
        | false =>
         have e2' : decide (3 < sy.f1) = false := e2
         cases e3 : (bits .and .i64 sy.f2 65535 != sy.f2) with
         | true =>
          rw [e1, e2, e3, if_neg (by simp)] at H
          obtain rfl := Option.some.inj H
          clear H
          go_wp2_with (first | ((with_reducible refine gate_dst (N := 5) rfl ?_); refine box_event ?hg (N := 5) ?hd (cs := #[.string (⟨#[]⟩ : ByteArray), .int .i64 0, .int .i64 0, .bool false]) (t := 62) ?hr ?_; (case hd => rfl); (case hg => rfl); (case hr => first | (go_simp; done) | (go_simp; rfl)); intro gb hg w1 hbox hb; have HB1 := Aside0.mk (below_step HB.out hb); have HS1 := Aside0.mk (HS.out.below hb); have GE : w.heap.size ≤ gb := (by rw [hg]; exact below_size HB.out); have NE : w.heap.size ≠ gb := (by have := HS.out.lt; omega); have hc_0 : w1.cell? ⟨gb, 0, none⟩ = some (.string (⟨#[]⟩ : ByteArray)) := (blk_cell hbox 0).trans rfl; have hc_1 : w1.cell? ⟨gb, 1, none⟩ = some (.int .i64 0) := (blk_cell hbox 1).trans rfl; have hc_2 : w1.cell? ⟨gb, 2, none⟩ = some (.int .i64 0) := (blk_cell hbox 2).trans rfl; have hc_3 : w1.cell? ⟨gb, 3, none⟩ = some (.bool false) := (blk_cell hbox 3).trans rfl; have hf_0 := blk_frozen hbox 0; have hf_1 := blk_frozen hbox 1; have hf_2 := blk_frozen hbox 2; have hf_3 := blk_frozen hbox 3; clear hb hg) | (go_at_call 48; (with_reducible refine (object_isName.calls k1 sy.f0 true _ A4).mono ?_); rintro e w2 ⟨rfl, hb2⟩; have BK2 := blk_below (box62 hbox _ _ _ _) hb2; have HB2 := Aside0.mk (below_step (below_set (below_set (below_set (below_set HB1.out GE) GE) GE) GE) hb2); have HS2 := Aside0.mk (Seen.below (Seen.set (Seen.set (Seen.set (Seen.set HS1.out NE _) NE _) NE _) NE _) hb2); have hd_0 : w2.cell? ⟨gb, 0, none⟩ = some (.string sy.f0) := (blk_cell BK2 0).trans rfl; have hd_1 : w2.cell? ⟨gb, 1, none⟩ = some (.int .i64 sy.f1) := (blk_cell BK2 1).trans rfl; have hd_2 : w2.cell? ⟨gb, 2, none⟩ = some (.int .i64 sy.f2) := (blk_cell BK2 2).trans rfl; have hd_3 : w2.cell? ⟨gb, 3, none⟩ = some (.bool sy.f3) := (blk_cell BK2 3).trans rfl; clear hb2) | (at_lookup; refine wpList_seen rfl _ _ rfl _ m rfl HS2.out sy.f0 rfl hsz ?_; rw [show decide (sy.f0.data.toList ∈ m) = false from decide_eq_false cm]))
          go_ret
          exact ⟨rfl, HB2.out⟩
         | false =>
          rw [e1, e2, e3, if_pos (by simp)] at H
          by_cases cl : m.length < 1000000
          ·rw [if_pos cl] at H
           have H' := Aside0.mk H
           clear H
           go_wp2_with (first | ((with_reducible refine gate_dst (N := 5) rfl ?_); refine box_event ?hg (N := 5) ?hd (cs := #[.string (⟨#[]⟩ : ByteArray), .int .i64 0, .int .i64 0, .bool false]) (t := 62) ?hr ?_; (case hd => rfl); (case hg => rfl); (case hr => first | (go_simp; done) | (go_simp; rfl)); intro gb hg w1 hbox hb; have HB1 := Aside0.mk (below_step HB.out hb); have HS1 := Aside0.mk (HS.out.below hb); have GE : w.heap.size ≤ gb := (by rw [hg]; exact below_size HB.out); have NE : w.heap.size ≠ gb := (by have := HS.out.lt; omega); have hc_0 : w1.cell? ⟨gb, 0, none⟩ = some (.string (⟨#[]⟩ : ByteArray)) := (blk_cell hbox 0).trans rfl; have hc_1 : w1.cell? ⟨gb, 1, none⟩ = some (.int .i64 0) := (blk_cell hbox 1).trans rfl; have hc_2 : w1.cell? ⟨gb, 2, none⟩ = some (.int .i64 0) := (blk_cell hbox 2).trans rfl; have hc_3 : w1.cell? ⟨gb, 3, none⟩ = some (.bool false) := (blk_cell hbox 3).trans rfl; have hf_0 := blk_frozen hbox 0; have hf_1 := blk_frozen hbox 1; have hf_2 := blk_frozen hbox 2; have hf_3 := blk_frozen hbox 3; clear hb hg) | (go_at_call 48; (with_reducible refine (object_isName.calls k1 sy.f0 true _ A4).mono ?_); rintro e w2 ⟨rfl, hb2⟩; have BK2 := blk_below (box62 hbox _ _ _ _) hb2; have HB2 := Aside0.mk (below_step (below_set (below_set (below_set (below_set HB1.out GE) GE) GE) GE) hb2); have HS2 := Aside0.mk (Seen.below (Seen.set (Seen.set (Seen.set (Seen.set HS1.out NE _) NE _) NE _) NE _) hb2); have hd_0 : w2.cell? ⟨gb, 0, none⟩ = some (.string sy.f0) := (blk_cell BK2 0).trans rfl; have hd_1 : w2.cell? ⟨gb, 1, none⟩ = some (.int .i64 sy.f1) := (blk_cell BK2 1).trans rfl; have hd_2 : w2.cell? ⟨gb, 2, none⟩ = some (.int .i64 sy.f2) := (blk_cell BK2 2).trans rfl; have hd_3 : w2.cell? ⟨gb, 3, none⟩ = some (.bool sy.f3) := (blk_cell BK2 3).trans rfl; clear hb2) | (at_lookup; refine wpList_seen rfl _ _ rfl _ m rfl HS2.out sy.f0 rfl hsz ?_; rw [show decide (sy.f0.data.toList ∈ m) = false from decide_eq_false cm]) | (at_mapUpdate; refine wpList_see rfl _ _ _ rfl _ m rfl HS2.out (by unfold maxLen; omega) sy.f0 rfl rfl hsz ?_; intro w3 HS3 hgr))
           go_roundg k1
           case measure => omega
           case rel => exact ⟨_, _, rfl, H', ⟨by have := HK1.out; omega⟩, ⟨HS3⟩, ⟨HB2.out.grown hgr (below_size HB2.out) (fun j hj => by cases hj; exact Nat.le_refl _)⟩⟩
          ·rw [if_neg cl] at H
           exact absurd H (by simp)
    ·rw [if_neg c3] at H
     exact absurd H (by simp)
   ·rw [if_neg c2] at H
    have c2b0 : decide (x9 < (l0.length : Int)) = false := decide_eq_false c2
    obtain rfl := Option.some.inj H
    go_wp2
    go_ret
    exact ⟨rfl, HB.out⟩
end Go.Proofs.Ytenlmckahaniiaa.K
end
section
set_option linter.unusedVariables false
set_option linter.unusedSimpArgs false
namespace Go.Proofs.Ytenlmckahaniiaa.Obj
open Go Go.RowKit Go.Proofs.Ytenlmckahaniiaa.K Go.Proofs.YtenlmckahaniiaaW.PrintWords Go.Proofs.YtenlmckahaniiaaW.PrintMore Go.Proofs.Ytenlmckahaniiaa.MyBits Go.Proofs.Ytenlmckahaniiaa.MyStr Go.Proofs.Ytenlmckahaniiaa.Oct
theorem Ev.ite {α : Type} {c : Prop} [Decidable c] {g f : Nat → Option α} {r : α} (h1 : c → Ev g r) (h2 : ¬ c → Ev f r) : Ev (fun k => if c then g k else f k) r := by
  by_cases h : c
  · exact Ev.congr (fun k => if_pos h) (h1 h)
  · exact Ev.congr (fun k => if_neg h) (h2 h)
theorem Ev.eq {α : Type} {g : Nat → Option α} {r r' : α} (h : Ev g r) (e : r = r') : Ev g r' := e ▸ h
theorem i64_nat (i : Nat) (h : i < 9223372036854775807) : wrap64 ((i : Int) + 1) = ((i + 1 : Nat) : Int) := by unfold wrap64; omega
def okc (c : Int) : Bool := (decide (97 ≤ c) && decide (c ≤ 122)) || (decide (65 ≤ c) && decide (c ≤ 90)) || (decide (48 ≤ c) && decide (c ≤ 57)) || decide (c = 95) || decide (c = 46) || decide (c = 36)
def nameL (l : List UInt8) : Bool := decide (l ≠ []) && decide (l.length ≤ 14) && !(decide (48 ≤ byteAt l 0) && decide (byteAt l 0 ≤ 57)) && (ints l).all okc
def isNm (s : ByteArray) : Bool := nameL (bs s)
theorem rd_ints (l : List UInt8) (i : Nat) (h : i < l.length) : rd (ints l) (i : Int) = byteAt l i ∧ 0 ≤ rd (ints l) (i : Int) ∧ rd (ints l) (i : Int) < 256 := by
  have e : rd (ints l) (i : Int) = byteAt l i := by rw [byteAt_ints]; simp [rd]
  rw [e]
  exact ⟨rfl, byteAt_range l i⟩
theorem drop_all (p : Int → Bool) (l : List Int) (i : Nat) (h : i < l.length) : (l.drop i).all p = (p (rd l (i : Int)) && (l.drop (i + 1)).all p) := by
  rw [List.drop_eq_getElem_cons h, List.all_cons]
  have : rd l (i : Int) = l[i] := by simp [rd, h]
  rw [this]
theorem toList_nil (s : ByteArray) : s.toList = ([] : List UInt8) ↔ bs s = [] := by rw [toList_bs]
theorem nameL_len {l : List UInt8} (h : nameL l = true) : 1 ≤ l.length ∧ l.length ≤ 14 := by
  unfold nameL at h
  simp only [Bool.and_eq_true, decide_eq_true_eq] at h
  exact ⟨List.length_pos_iff.2 h.1.1.1, h.1.1.2⟩
def symsR : List (List UInt8) → List S62 → Int
  | _, [] => 0
  | m, s :: r => if isNm s.f0 = true then (if bs s.f0 ∈ m then 6 else if symOk s = true then symsR (m ++ [bs s.f0]) r else 2) else 4
theorem rd62 (l : List S62) (i : Nat) (h : i < l.length) : rd_T62 l (i : Int) = l[i] := by simp [rd_T62, List.getD_eq_getElem?_getD, h]
theorem rd43 (l : List S43) (i : Nat) (h : i < l.length) : rd_T43 l (i : Int) = l[i] := by simp [rd_T43, List.getD_eq_getElem?_getD, h]
def Fine62 (l : List S62) : Prop := ∀ s ∈ l, s.f0.size ≤ 9223372036854775806
def namesOf (l : List S62) : List (List UInt8) := l.map fun s => bs s.f0
theorem and16 (x : Int) : Go.bits .and .i64 x 65535 = x % 65536 := and_low x 65535 16 (by omega) (by decide)
theorem symOk_iff (s : S62) : symOk s = true ↔ (0 ≤ s.f1 ∧ s.f1 ≤ 3 ∧ 0 ≤ s.f2 ∧ s.f2 ≤ 65535) := by
  unfold symOk
  rw [and16]
  simp only [Bool.and_eq_true, Bool.not_eq_true', decide_eq_false_iff_not, bne_eq_false_iff_eq]
  omega
def relR (ts ds : Int) (x b : S43) : Int :=
  if x.f0 ≠ 1 ∧ x.f0 ≠ 2 then 2
  else if x.f1 < 0 ∨ Int.tmod x.f1 2 ≠ 0 ∨ x.f1 > wrap64 ((if x.f0 = 2 then ds else ts) - 2) then 2
  else if x.f0 < b.f0 ∨ (x.f0 = b.f0 ∧ x.f1 ≤ b.f1) then 2
  else if x.f2 < 0 ∨ x.f2 > 4 ∨ (x.f2 = 0 ∧ x.f4 = false) then 2
  else if x.f2 = 4 then (if isNm x.f3 = true then 0 else 4) else (if bs x.f3 = [] then 0 else 4)
def relT (sz : Int) (x b : S43) : Int :=
  if x.f1 < 0 ∨ Int.tmod x.f1 2 ≠ 0 ∨ x.f1 > wrap64 (sz - 2) then 2
  else if x.f0 < b.f0 ∨ (x.f0 = b.f0 ∧ x.f1 ≤ b.f1) then 2
  else if x.f2 < 0 ∨ x.f2 > 4 ∨ (x.f2 = 0 ∧ x.f4 = false) then 2
  else if x.f2 = 4 then (if isNm x.f3 = true then 0 else 4) else (if bs x.f3 = [] then 0 else 4)
def relsR (ts ds : Int) : S43 → List S43 → Int
  | _, [] => 0
  | b, x :: r => if relR ts ds x b = 0 then relsR ts ds x r else relR ts ds x b
def Fine43 (l : List S43) : Prop := ∀ s ∈ l, s.f3.size ≤ 9223372036854775806
def b0 : S43 := ⟨-1, 0, 0, ⟨#[]⟩, false⟩
def checkR (a0 a1 a2 : ByteArray) (a3 : Int) (l4 : List S62) (l5 : List S43) : Int :=
  if isNm a0 = true then
    (if a1.size > 16384 ∨ a2.size > 16384 ∨ a3 > 16384 ∨ l4.length > 256 ∨ l5.length > 2048 then 7
     else if a1.size % 2 ≠ 0 ∨ a3 < 0 then 1
     else if symsR [] l4 = 0 then relsR (a1.size : Int) (a2.size : Int) b0 l5 else symsR [] l4)
  else 4
structure Fine (a0 : ByteArray) (l4 : List S62) (l5 : List S43) : Prop where
  h0 : a0.size ≤ 9223372036854775806
  h4 : Fine62 l4
  h5 : Fine43 l5
end Go.Proofs.Ytenlmckahaniiaa.Obj
end
