-- Printed by a program of this session out of Lean's print of the translation. Lean checks it.
import Derived.Test.YtenlmckahaniiaaKx0
import Derived.Test.YtenlmckahaniiaaKx3
import Derived.Test.YtenlmckahaniiaaKx18
import Derived.Test.YtenlmckahaniiaaKx32
import Derived.Test.YtenlmckahaniiaaKx38
namespace Go.Proofs.Ytenlmckahaniiaa.K
open Go.RowKit Go.Proofs.YtenlmckahaniiaaW.PrintWords Go.Proofs.YtenlmckahaniiaaW.PrintLast
set_option linter.unusedVariables false
set_option linter.unusedSimpArgs false

/-! ### emulatorlaw28_ObjectEncodes: function 4 -/
def emulatorlaw28_ObjectEncodes.f (k : Nat) (a0_0 : ByteArray) (a0_1 : ByteArray) (a0_2 : ByteArray) (a0_3 : Int) (l0_4 : List (S62)) (l0_5 : List (S43)) : Option (Bool) := (emulatorlaw28_small.f k a0_0 a0_1 a0_2 a0_3 l0_4 l0_5).bind fun t465 => (if t465 = true then ((object_Encode.f k a0_0 a0_1 a0_2 a0_3 l0_4 l0_5).bind fun bt466 => ((emulatorref28_Encode.f k a0_0 a0_1 a0_2 a0_3 l0_4 l0_5).bind fun bt468 => (if bt466.1.toList = bt468.1.toList then (if bt466.2 = bt468.2 then ((emulatorlaw28_alive.f k).bind fun t470 => (some t470)) else (none)) else (none)))) else ((emulatorlaw28_alive.f k).bind fun t471 => (some t471)))
theorem emulatorlaw28_ObjectEncodes.mono : ∀ a0 a1 a2 a3 a4 a5 k, LeO (emulatorlaw28_ObjectEncodes.f k a0 a1 a2 a3 a4 a5) (emulatorlaw28_ObjectEncodes.f (k + 1) a0 a1 a2 a3 a4 a5) := by
 intro a0 a1 a2 a3 a4 a5 k
 unfold emulatorlaw28_ObjectEncodes.f
 repeat' first
   | (with_reducible exact emulatorlaw28_alive.mono _)
   | (with_reducible exact emulatorlaw28_small.mono _ _ _ _ _ _ _)
   | (with_reducible exact emulatorref28_Encode.mono _ _ _ _ _ _ _)
   | (with_reducible exact object_Encode.mono _ _ _ _ _ _ _)
   | (with_reducible exact LeO.refl _)
   | (with_reducible exact LeO.none _)
   | (with_reducible refine LeO.ite ?_ ?_)
   | (with_reducible refine LeO.bind ?_ (fun _ => ?_))
   | exact emulatorlaw28_alive.mono _
   | exact emulatorlaw28_small.mono _ _ _ _ _ _ _
   | exact emulatorref28_Encode.mono _ _ _ _ _ _ _
   | exact object_Encode.mono _ _ _ _ _ _ _
   | exact LeO.none _
   | refine LeO.ite ?_ ?_
   | refine LeO.bind ?_ (fun _ => ?_)
set_option maxHeartbeats 8000000 in
set_option maxRecDepth 100000 in
theorem emulatorlaw28_ObjectEncodes.calls (k : Nat) (a0_0 : ByteArray) (a0_1 : ByteArray) (a0_2 : ByteArray) (a0_3 : Int) (A0_4 : Option Addr) (c0_4 : Nat) (l0_4 : List (S62)) (A0_5 : Option Addr) (c0_5 : Nat) (l0_5 : List (S43)) (r : Bool) (w : World) (hr0_4 : Kd.C k62 w A0_4 l0_4.length l0_4) (hc0_4 : l0_4.length ≤ c0_4) (hr0_5 : Kd.C k43 w A0_5 l0_5.length l0_5) (hc0_5 : l0_5.length ≤ c0_5) (h : emulatorlaw28_ObjectEncodes.f k a0_0 a0_1 a0_2 a0_3 l0_4 l0_5 = some r) :
  Calls Try.prog 4 #[.agg #[.string a0_0, .string a0_1, .string a0_2, .int .i64 a0_3, .slice A0_4 l0_4.length c0_4, .slice A0_5 l0_5.length c0_5]] w fun e w' => e = .returned (.bool r) ∧ Below w.heap.size w w' := by
 have hu25 := Try.underlying25
 have HR0_4 := Aside0.mk hr0_4
 have HC0_4 := Aside0.mk hc0_4
 clear hr0_4 hc0_4
 have HR0_5 := Aside0.mk hr0_5
 have HC0_5 := Aside0.mk hc0_5
 clear hr0_5 hc0_5
 have HB := Aside0.mk (Below.refl w.heap.size w)
 have H : ((emulatorlaw28_small.f k a0_0 a0_1 a0_2 a0_3 l0_4 l0_5).bind fun t465 => (if t465 = true then ((object_Encode.f k a0_0 a0_1 a0_2 a0_3 l0_4 l0_5).bind fun bt466 => ((emulatorref28_Encode.f k a0_0 a0_1 a0_2 a0_3 l0_4 l0_5).bind fun bt468 => (if bt466.1.toList = bt468.1.toList then (if bt466.2 = bt468.2 then ((emulatorlaw28_alive.f k).bind fun t470 => (some t470)) else (none)) else (none)))) else ((emulatorlaw28_alive.f k).bind fun t471 => (some t471)))) = some r := h
 clear h
 replace H := Option.bind_eq_some_iff.mp H
 obtain ⟨t465, A20, H⟩ := H
 (try dsimp only at H)
 have A2 := Aside0.mk A20
 clear A20
 by_cases c3 : t465 = true
 ·subst c3
  have H1 : ((object_Encode.f k a0_0 a0_1 a0_2 a0_3 l0_4 l0_5).bind fun bt466 => ((emulatorref28_Encode.f k a0_0 a0_1 a0_2 a0_3 l0_4 l0_5).bind fun bt468 => (if bt466.1.toList = bt468.1.toList then (if bt466.2 = bt468.2 then ((emulatorlaw28_alive.f k).bind fun t470 => (some t470)) else (none)) else (none)))) = some r := by rw [if_pos rfl] at H; exact H
  clear H
  have H := H1
  clear H1
  replace H := Option.bind_eq_some_iff.mp H
  obtain ⟨⟨t466, t467⟩, A40, H⟩ := H
  (try dsimp only at H)
  have A4 := Aside0.mk A40
  clear A40
  replace H := Option.bind_eq_some_iff.mp H
  obtain ⟨⟨t468, t469⟩, A50, H⟩ := H
  (try dsimp only at H)
  have A5 := Aside0.mk A50
  clear A50
  by_cases c6 : t466.toList = t468.toList
  ·rw [if_pos c6] at H
   have c6b0 : (t466.toList == t468.toList) = true := beq_iff_eq.mpr c6
   have c6b1 : (t466.toList != t468.toList) = false := bne_eq_false_iff_eq.mpr c6
   clear c6
   by_cases c7 : t467 = t469
   ·rw [if_pos c7] at H
    have c7b0 : (t467 == t469) = true := beq_iff_eq.mpr c7
    have c7b1 : (t467 != t469) = false := bne_eq_false_iff_eq.mpr c7
    clear c7
    replace H := Option.bind_eq_some_iff.mp H
    obtain ⟨t470, A80, H⟩ := H
    (try dsimp only at H)
    have A8 := Aside0.mk A80
    clear A80
    obtain rfl := Option.some.inj H
    go_enter Try.func4, Try.ntmps4
    go_wp2_with (first | ((with_reducible refine gate_dst (N := 1) rfl ?_); refine box_event ?hg (N := 1) ?hd (cs := #[.string a0_0, .string a0_1, .string a0_2, .int .i64 a0_3, .slice A0_4 l0_4.length c0_4, .slice A0_5 l0_5.length c0_5]) (t := 25) ?hr ?_; (case hd => rfl); (case hg => rfl); (case hr => first | (go_simp; done) | (go_simp; rfl)); intro gb464 hg w9 hbox hb; have n0_ := Aside0.mk (below_step hb_ hb); have n1_ := Aside0.mk (hbox); have n2_ := Aside0.mk ((by rw [hg]; exact (below_size hb_) : w.heap.size ≤ gb464)); have n3_ := Aside0.mk ((by rw [hg]; exact (below_size hb_) : w.heap.size ≤ gb464)); clear HB; have HB := n0_; have BK464 := n1_; have GW464 := n2_; have GE464 := n3_; clear n0_ n1_ n2_ n3_; clear hb hbox hg; have hcz10_0 : w9.cell? ⟨gb464, 0, none⟩ = some (.string a0_0) := (blk_cell BK464.out 0).trans rfl; have hcz10_1 : w9.cell? ⟨gb464, 1, none⟩ = some (.string a0_1) := (blk_cell BK464.out 1).trans rfl; have hcz10_2 : w9.cell? ⟨gb464, 2, none⟩ = some (.string a0_2) := (blk_cell BK464.out 2).trans rfl; have hcz10_3 : w9.cell? ⟨gb464, 3, none⟩ = some (.int .i64 a0_3) := (blk_cell BK464.out 3).trans rfl; have hcz10_4 : w9.cell? ⟨gb464, 4, none⟩ = some (.slice A0_4 l0_4.length c0_4) := (blk_cell BK464.out 4).trans rfl; have hcz10_5 : w9.cell? ⟨gb464, 5, none⟩ = some (.slice A0_5 l0_5.length c0_5) := (blk_cell BK464.out 5).trans rfl; have hfz10_0 := blk_frozen BK464.out 0; have hfz10_1 := blk_frozen BK464.out 1; have hfz10_2 := blk_frozen BK464.out 2; have hfz10_3 := blk_frozen BK464.out 3; have hfz10_4 := blk_frozen BK464.out 4; have hfz10_5 := blk_frozen BK464.out 5) | ((with_reducible refine gate_callee (f := 17) rfl ?_); refine goesL_ (some 8) rfl rfl Try.func17 (by kernel_rfl) rfl #[.agg #[.string a0_0, .string a0_1, .string a0_2, .int .i64 a0_3, .slice A0_4 l0_4.length c0_4, .slice A0_5 l0_5.length c0_5]] rfl ar_ ?_; (with_reducible refine (emulatorlaw28_small.calls k a0_0 a0_1 a0_2 a0_3 _ _ l0_4 _ _ l0_5 true _ ?side1 ?side2 ?side3 ?side4 A2.out).mono ?_); (case side1 => repeat (first | exact (Kd.C_below HR0_4.out HB.out) | (with_reducible refine Kd.C_alloc ?_ _) | (with_reducible refine Kd.C_drewN ?_ _) | (with_reducible refine Kd.C_drew ?_))); (case side2 => exact HC0_4.out); (case side3 => repeat (first | exact (Kd.C_below HR0_5.out HB.out) | (with_reducible refine Kd.C_alloc ?_ _) | (with_reducible refine Kd.C_drewN ?_ _) | (with_reducible refine Kd.C_drew ?_))); (case side4 => exact HC0_5.out); rintro e w11 ⟨rfl, hb⟩; refine ⟨_, rfl, ?_⟩; have n0_ := Aside0.mk (blk_below (g := gb464) (o := .cells #[.string a0_0, .string a0_1, .string a0_2, .int .i64 a0_3, .slice A0_4 l0_4.length c0_4, .slice A0_5 l0_5.length c0_5] 25 (0, 0)) (bk_ BK464.out) hb); have n1_ := Aside0.mk (below_step hb_ hb); clear BK464 HB; have BK464 := n0_; have HB := n1_; clear n0_ n1_; (try clear hb); (try clear hb2); (try clear hk); (try clear hi); have hcz12_0 : w11.cell? ⟨gb464, 0, none⟩ = some (.string a0_0) := (blk_cell BK464.out 0).trans rfl; have hcz12_1 : w11.cell? ⟨gb464, 1, none⟩ = some (.string a0_1) := (blk_cell BK464.out 1).trans rfl; have hcz12_2 : w11.cell? ⟨gb464, 2, none⟩ = some (.string a0_2) := (blk_cell BK464.out 2).trans rfl; have hcz12_3 : w11.cell? ⟨gb464, 3, none⟩ = some (.int .i64 a0_3) := (blk_cell BK464.out 3).trans rfl; have hcz12_4 : w11.cell? ⟨gb464, 4, none⟩ = some (.slice A0_4 l0_4.length c0_4) := (blk_cell BK464.out 4).trans rfl; have hcz12_5 : w11.cell? ⟨gb464, 5, none⟩ = some (.slice A0_5 l0_5.length c0_5) := (blk_cell BK464.out 5).trans rfl; have hfz12_0 := blk_frozen BK464.out 0; have hfz12_1 := blk_frozen BK464.out 1; have hfz12_2 := blk_frozen BK464.out 2; have hfz12_3 := blk_frozen BK464.out 3; have hfz12_4 := blk_frozen BK464.out 4; have hfz12_5 := blk_frozen BK464.out 5) | ((with_reducible refine gate_callee (f := 21) rfl ?_); refine goesL_ (some 13) rfl rfl Try.func21 (by kernel_rfl) rfl #[.agg #[.string a0_0, .string a0_1, .string a0_2, .int .i64 a0_3, .slice A0_4 l0_4.length c0_4, .slice A0_5 l0_5.length c0_5]] rfl ar_ ?_; (with_reducible refine (object_Encode.calls k a0_0 a0_1 a0_2 a0_3 _ _ l0_4 _ _ l0_5 t466 t467 _ ?side1 ?side2 ?side3 ?side4 A4.out).mono ?_); (case side1 => repeat (first | exact (Kd.C_below HR0_4.out HB.out) | (with_reducible refine Kd.C_alloc ?_ _) | (with_reducible refine Kd.C_drewN ?_ _) | (with_reducible refine Kd.C_drew ?_))); (case side2 => exact HC0_4.out); (case side3 => repeat (first | exact (Kd.C_below HR0_5.out HB.out) | (with_reducible refine Kd.C_alloc ?_ _) | (with_reducible refine Kd.C_drewN ?_ _) | (with_reducible refine Kd.C_drew ?_))); (case side4 => exact HC0_5.out); rintro e w13 ⟨rfl, hb⟩; refine ⟨_, rfl, ?_⟩; have n0_ := Aside0.mk (blk_below (g := gb464) (o := .cells #[.string a0_0, .string a0_1, .string a0_2, .int .i64 a0_3, .slice A0_4 l0_4.length c0_4, .slice A0_5 l0_5.length c0_5] 25 (0, 0)) (bk_ BK464.out) hb); have n1_ := Aside0.mk (below_step hb_ hb); clear BK464 HB; have BK464 := n0_; have HB := n1_; clear n0_ n1_; (try clear hb); (try clear hb2); (try clear hk); (try clear hi); have hcz14_0 : w13.cell? ⟨gb464, 0, none⟩ = some (.string a0_0) := (blk_cell BK464.out 0).trans rfl; have hcz14_1 : w13.cell? ⟨gb464, 1, none⟩ = some (.string a0_1) := (blk_cell BK464.out 1).trans rfl; have hcz14_2 : w13.cell? ⟨gb464, 2, none⟩ = some (.string a0_2) := (blk_cell BK464.out 2).trans rfl; have hcz14_3 : w13.cell? ⟨gb464, 3, none⟩ = some (.int .i64 a0_3) := (blk_cell BK464.out 3).trans rfl; have hcz14_4 : w13.cell? ⟨gb464, 4, none⟩ = some (.slice A0_4 l0_4.length c0_4) := (blk_cell BK464.out 4).trans rfl; have hcz14_5 : w13.cell? ⟨gb464, 5, none⟩ = some (.slice A0_5 l0_5.length c0_5) := (blk_cell BK464.out 5).trans rfl; have hfz14_0 := blk_frozen BK464.out 0; have hfz14_1 := blk_frozen BK464.out 1; have hfz14_2 := blk_frozen BK464.out 2; have hfz14_3 := blk_frozen BK464.out 3; have hfz14_4 := blk_frozen BK464.out 4; have hfz14_5 := blk_frozen BK464.out 5) | ((with_reducible refine gate_callee (f := 22) rfl ?_); refine goesL_ (some 18) rfl rfl Try.func22 (by kernel_rfl) rfl #[.agg #[.string a0_0, .string a0_1, .string a0_2, .int .i64 a0_3, .slice A0_4 l0_4.length c0_4, .slice A0_5 l0_5.length c0_5]] rfl ar_ ?_; (with_reducible refine (emulatorref28_Encode.calls k a0_0 a0_1 a0_2 a0_3 _ _ l0_4 _ _ l0_5 t468 t469 _ ?side1 ?side2 ?side3 ?side4 A5.out).mono ?_); (case side1 => repeat (first | exact (Kd.C_below HR0_4.out HB.out) | (with_reducible refine Kd.C_alloc ?_ _) | (with_reducible refine Kd.C_drewN ?_ _) | (with_reducible refine Kd.C_drew ?_))); (case side2 => exact HC0_4.out); (case side3 => repeat (first | exact (Kd.C_below HR0_5.out HB.out) | (with_reducible refine Kd.C_alloc ?_ _) | (with_reducible refine Kd.C_drewN ?_ _) | (with_reducible refine Kd.C_drew ?_))); (case side4 => exact HC0_5.out); rintro e w15 ⟨rfl, hb⟩; refine ⟨_, rfl, ?_⟩; have n0_ := Aside0.mk (blk_below (g := gb464) (o := .cells #[.string a0_0, .string a0_1, .string a0_2, .int .i64 a0_3, .slice A0_4 l0_4.length c0_4, .slice A0_5 l0_5.length c0_5] 25 (0, 0)) (bk_ BK464.out) hb); have n1_ := Aside0.mk (below_step hb_ hb); clear BK464 HB; have BK464 := n0_; have HB := n1_; clear n0_ n1_; (try clear hb); (try clear hb2); (try clear hk); (try clear hi)) | (go_at_call 20; (with_reducible refine (emulatorlaw28_alive.calls k  t470 _ A8.out).mono ?_); rintro e w16 ⟨rfl, hb⟩; have n0_ := Aside0.mk (blk_below (g := gb464) (o := .cells #[.string a0_0, .string a0_1, .string a0_2, .int .i64 a0_3, .slice A0_4 l0_4.length c0_4, .slice A0_5 l0_5.length c0_5] 25 (0, 0)) (bk_ BK464.out) hb); have n1_ := Aside0.mk (below_step hb_ hb); clear BK464 HB; have BK464 := n0_; have HB := n1_; clear n0_ n1_; (try clear hb); (try clear hb2); (try clear hk); (try clear hi)))
    go_ret
    exact ⟨ew_, hb_⟩
   ·rw [if_neg c7] at H
    exact absurd H (by simp)
  ·rw [if_neg c6] at H
   exact absurd H (by simp)
 ·replace c3 := Bool.eq_false_iff.mpr c3
  subst c3
  have H1 : ((emulatorlaw28_alive.f k).bind fun t471 => (some t471)) = some r := by rw [if_neg (show ¬ (false = true) by decide)] at H; exact H
  clear H
  have H := H1
  clear H1
  replace H := Option.bind_eq_some_iff.mp H
  obtain ⟨t471, A170, H⟩ := H
  (try dsimp only at H)
  have A17 := Aside0.mk A170
  clear A170
  obtain rfl := Option.some.inj H
  go_enter Try.func4, Try.ntmps4
  go_wp2_with (first | ((with_reducible refine gate_dst (N := 1) rfl ?_); refine box_event ?hg (N := 1) ?hd (cs := #[.string a0_0, .string a0_1, .string a0_2, .int .i64 a0_3, .slice A0_4 l0_4.length c0_4, .slice A0_5 l0_5.length c0_5]) (t := 25) ?hr ?_; (case hd => rfl); (case hg => rfl); (case hr => first | (go_simp; done) | (go_simp; rfl)); intro gb464 hg w18 hbox hb; have n0_ := Aside0.mk (below_step hb_ hb); have n1_ := Aside0.mk (hbox); have n2_ := Aside0.mk ((by rw [hg]; exact (below_size hb_) : w.heap.size ≤ gb464)); have n3_ := Aside0.mk ((by rw [hg]; exact (below_size hb_) : w.heap.size ≤ gb464)); clear HB; have HB := n0_; have BK464 := n1_; have GW464 := n2_; have GE464 := n3_; clear n0_ n1_ n2_ n3_; clear hb hbox hg; have hcz19_0 : w18.cell? ⟨gb464, 0, none⟩ = some (.string a0_0) := (blk_cell BK464.out 0).trans rfl; have hcz19_1 : w18.cell? ⟨gb464, 1, none⟩ = some (.string a0_1) := (blk_cell BK464.out 1).trans rfl; have hcz19_2 : w18.cell? ⟨gb464, 2, none⟩ = some (.string a0_2) := (blk_cell BK464.out 2).trans rfl; have hcz19_3 : w18.cell? ⟨gb464, 3, none⟩ = some (.int .i64 a0_3) := (blk_cell BK464.out 3).trans rfl; have hcz19_4 : w18.cell? ⟨gb464, 4, none⟩ = some (.slice A0_4 l0_4.length c0_4) := (blk_cell BK464.out 4).trans rfl; have hcz19_5 : w18.cell? ⟨gb464, 5, none⟩ = some (.slice A0_5 l0_5.length c0_5) := (blk_cell BK464.out 5).trans rfl; have hfz19_0 := blk_frozen BK464.out 0; have hfz19_1 := blk_frozen BK464.out 1; have hfz19_2 := blk_frozen BK464.out 2; have hfz19_3 := blk_frozen BK464.out 3; have hfz19_4 := blk_frozen BK464.out 4; have hfz19_5 := blk_frozen BK464.out 5) | ((with_reducible refine gate_callee (f := 17) rfl ?_); refine goesL_ (some 8) rfl rfl Try.func17 (by kernel_rfl) rfl #[.agg #[.string a0_0, .string a0_1, .string a0_2, .int .i64 a0_3, .slice A0_4 l0_4.length c0_4, .slice A0_5 l0_5.length c0_5]] rfl ar_ ?_; (with_reducible refine (emulatorlaw28_small.calls k a0_0 a0_1 a0_2 a0_3 _ _ l0_4 _ _ l0_5 false _ ?side1 ?side2 ?side3 ?side4 A2.out).mono ?_); (case side1 => repeat (first | exact (Kd.C_below HR0_4.out HB.out) | (with_reducible refine Kd.C_alloc ?_ _) | (with_reducible refine Kd.C_drewN ?_ _) | (with_reducible refine Kd.C_drew ?_))); (case side2 => exact HC0_4.out); (case side3 => repeat (first | exact (Kd.C_below HR0_5.out HB.out) | (with_reducible refine Kd.C_alloc ?_ _) | (with_reducible refine Kd.C_drewN ?_ _) | (with_reducible refine Kd.C_drew ?_))); (case side4 => exact HC0_5.out); rintro e w20 ⟨rfl, hb⟩; refine ⟨_, rfl, ?_⟩; have n0_ := Aside0.mk (blk_below (g := gb464) (o := .cells #[.string a0_0, .string a0_1, .string a0_2, .int .i64 a0_3, .slice A0_4 l0_4.length c0_4, .slice A0_5 l0_5.length c0_5] 25 (0, 0)) (bk_ BK464.out) hb); have n1_ := Aside0.mk (below_step hb_ hb); clear BK464 HB; have BK464 := n0_; have HB := n1_; clear n0_ n1_; (try clear hb); (try clear hb2); (try clear hk); (try clear hi)) | ((with_reducible refine gate_callee (f := 20) rfl ?_); refine goesL_ (some 10) rfl rfl Try.func20 (by kernel_rfl) rfl #[] rfl ar_ ?_; (with_reducible refine (emulatorlaw28_alive.calls k  t471 _ A17.out).mono ?_); rintro e w21 ⟨rfl, hb⟩; refine ⟨_, rfl, ?_⟩; have n0_ := Aside0.mk (blk_below (g := gb464) (o := .cells #[.string a0_0, .string a0_1, .string a0_2, .int .i64 a0_3, .slice A0_4 l0_4.length c0_4, .slice A0_5 l0_5.length c0_5] 25 (0, 0)) (bk_ BK464.out) hb); have n1_ := Aside0.mk (below_step hb_ hb); clear BK464 HB; have BK464 := n0_; have HB := n1_; clear n0_ n1_; (try clear hb); (try clear hb2); (try clear hk); (try clear hi)))
  go_ret
  exact ⟨ew_, hb_⟩

end Go.Proofs.Ytenlmckahaniiaa.K
