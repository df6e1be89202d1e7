-- Printed by a program of this session out of Lean's print of the translation. Lean checks it.
import Derived.Test.YtenlmckahaniiaaKx0
import Derived.Test.YtenlmckahaniiaaKx3
import Derived.Test.YtenlmckahaniiaaKx32
import Derived.Test.YtenlmckahaniiaaKx49
import Derived.Test.YtenlmckahaniiaaKx50
namespace Go.Proofs.Ytenlmckahaniiaa.K
open Go.RowKit Go.Proofs.YtenlmckahaniiaaW.PrintWords Go.Proofs.YtenlmckahaniiaaW.PrintLast
set_option linter.unusedVariables false
set_option linter.unusedSimpArgs false

/-! ### emulatorlaw28_ObjectNames: function 9 -/
def emulatorlaw28_ObjectNames.l0 : Nat → ByteArray → List ByteArray → List ByteArray → Int → Int → ByteArray → ByteArray → ByteArray → Int → List (S62) → List (S43) → Option (Bool)
  | 0, _, _, _, _, _, _, _, _, _, _, _ => none
  | k + 1, x1, x5, x6, x27, x28, x744000, x744001, x744002, x744003, x744004, x744005 => if x28 < x27 then (if 0 ≤ x28 then (if x28 < (x5.length : Int) then (if x28 < (x6.length : Int) then (if (rdOf ByteArray.empty x5 x28).toList = (rdOf ByteArray.empty x6 x28).toList then (emulatorlaw28_ObjectNames.l0 k x1 x5 x6 x27 (wrap64 (x28 + 1)) x744000 x744001 x744002 x744003 x744004 x744005) else (none)) else (none)) else (none)) else (none)) else ((object_Defines.f x744000 x744001 x744002 x744003 x744004 x744005 x1).bind fun t754 => ((emulatorref28_Defines.f k x744000 x744001 x744002 x744003 x744004 x744005 x1).bind fun t755 => (if (t754 == t755) = true then ((emulatorlaw28_alive.f k).bind fun t756 => (some t756)) else (none))))
def emulatorlaw28_ObjectNames.f (k : Nat) (a0_0 : ByteArray) (a0_1 : ByteArray) (a0_2 : ByteArray) (a0_3 : Int) (l0_4 : List (S62)) (l0_5 : List (S43)) (a1 : ByteArray) : Option (Bool) := (emulatorlaw28_small.f k a0_0 a0_1 a0_2 a0_3 l0_4 l0_5).bind fun t744 => (if t744 = true then (if (a1.size : Int) > 100 then ((emulatorlaw28_alive.f k).bind fun t745 => (some t745)) else ((object_Needs.f k a0_0 a0_1 a0_2 a0_3 l0_4 l0_5).bind fun t746 => ((emulatorref28_Needs.f k a0_0 a0_1 a0_2 a0_3 l0_4 l0_5).bind fun t749 => (if (t746.length : Int) = (t749.length : Int) then (emulatorlaw28_ObjectNames.l0 k a1 t746 t749 (t746.length : Int) 0 a0_0 a0_1 a0_2 a0_3 l0_4 l0_5) else (none))))) else ((emulatorlaw28_alive.f k).bind fun t757 => (some t757)))
theorem emulatorlaw28_ObjectNames.mono_l : ∀ k, (∀ y0 y1 y2 y3 y4 y5 y6 y7 y8 y9 y10, LeO (emulatorlaw28_ObjectNames.l0 k y0 y1 y2 y3 y4 y5 y6 y7 y8 y9 y10) (emulatorlaw28_ObjectNames.l0 (k + 1) y0 y1 y2 y3 y4 y5 y6 y7 y8 y9 y10))
 | 0 => fun _ _ _ _ _ _ _ _ _ _ _ r h => by simp [emulatorlaw28_ObjectNames.l0] at h
 | k + 1 => by
  have ih0 := emulatorlaw28_ObjectNames.mono_l k
  ·intro y0 y1 y2 y3 y4 y5 y6 y7 y8 y9 y10
   unfold emulatorlaw28_ObjectNames.l0
   repeat' first
   | (with_reducible exact ih0 _ _ _ _ _ _ _ _ _ _ _)
   | (with_reducible exact emulatorlaw28_alive.mono _)
   | (with_reducible exact emulatorlaw28_small.mono _ _ _ _ _ _ _)
   | (with_reducible exact emulatorref28_Defines.mono _ _ _ _ _ _ _ _)
   | (with_reducible exact emulatorref28_Needs.mono _ _ _ _ _ _ _)
   | (with_reducible exact object_Needs.mono _ _ _ _ _ _ _)
   | (with_reducible exact LeO.refl _)
   | (with_reducible exact LeO.none _)
   | (with_reducible refine LeO.ite ?_ ?_)
   | (with_reducible refine LeO.bind ?_ (fun _ => ?_))
   | exact ih0 _ _ _ _ _ _ _ _ _ _ _
   | exact emulatorlaw28_alive.mono _
   | exact emulatorlaw28_small.mono _ _ _ _ _ _ _
   | exact emulatorref28_Defines.mono _ _ _ _ _ _ _ _
   | exact emulatorref28_Needs.mono _ _ _ _ _ _ _
   | exact object_Needs.mono _ _ _ _ _ _ _
   | exact LeO.none _
   | refine LeO.ite ?_ ?_
   | refine LeO.bind ?_ (fun _ => ?_)
theorem emulatorlaw28_ObjectNames.mono : ∀ a0 a1 a2 a3 a4 a5 a6 k, LeO (emulatorlaw28_ObjectNames.f k a0 a1 a2 a3 a4 a5 a6) (emulatorlaw28_ObjectNames.f (k + 1) a0 a1 a2 a3 a4 a5 a6) := by
 intro a0 a1 a2 a3 a4 a5 a6 k
 have ih0 := emulatorlaw28_ObjectNames.mono_l k
 unfold emulatorlaw28_ObjectNames.f
 repeat' first
   | (with_reducible exact ih0 _ _ _ _ _ _ _ _ _ _ _)
   | (with_reducible exact emulatorlaw28_alive.mono _)
   | (with_reducible exact emulatorlaw28_small.mono _ _ _ _ _ _ _)
   | (with_reducible exact emulatorref28_Defines.mono _ _ _ _ _ _ _ _)
   | (with_reducible exact emulatorref28_Needs.mono _ _ _ _ _ _ _)
   | (with_reducible exact object_Needs.mono _ _ _ _ _ _ _)
   | (with_reducible exact LeO.refl _)
   | (with_reducible exact LeO.none _)
   | (with_reducible refine LeO.ite ?_ ?_)
   | (with_reducible refine LeO.bind ?_ (fun _ => ?_))
   | exact ih0 _ _ _ _ _ _ _ _ _ _ _
   | exact emulatorlaw28_alive.mono _
   | exact emulatorlaw28_small.mono _ _ _ _ _ _ _
   | exact emulatorref28_Defines.mono _ _ _ _ _ _ _ _
   | exact emulatorref28_Needs.mono _ _ _ _ _ _ _
   | exact object_Needs.mono _ _ _ _ _ _ _
   | exact LeO.none _
   | refine LeO.ite ?_ ?_
   | refine LeO.bind ?_ (fun _ => ?_)
def emulatorlaw28_ObjectNames.T9 : Bool × List (List Nat × List Nat) := (true, [([], []), ([], []), ([0, 1], [0, 1]), ([2], [2]), ([], []), ([], []), ([4, 5], [4, 5]), ([6], [6]), ([3, 7], [3, 7])])
def emulatorlaw28_ObjectNames.B9 : List Nat := [0, 0, 3, 7, 0, 0, 48, 112, 255]
theorem emulatorlaw28_ObjectNames.tab9 : rtab .any (opsOf Try.f9 9) = emulatorlaw28_ObjectNames.T9 := by kernel_rfl
theorem emulatorlaw28_ObjectNames.bits9 : waitsOk emulatorlaw28_ObjectNames.T9.2 emulatorlaw28_ObjectNames.B9 = true := by kernel_rfl
def emulatorlaw28_ObjectNames.T12 : Bool × List (List Nat × List Nat) := (true, [([], []), ([], []), ([0, 1], [0, 1]), ([], []), ([], []), ([3, 4, 2], [3, 4]), ([2, 5], [2, 5]), ([6, 5], [6]), ([7, 7], [7]), ([7, 8], [7, 8]), ([9, 8, 0, 1, 2, 3, 4, 5, 6, 7, 8, 9], [9])])
def emulatorlaw28_ObjectNames.B12 : List Nat := [0, 0, 3, 0, 0, 31, 63, 127, 255, 511, 1023]
theorem emulatorlaw28_ObjectNames.tab12 : rtab .any (opsOf Try.f9 12) = emulatorlaw28_ObjectNames.T12 := by kernel_rfl
theorem emulatorlaw28_ObjectNames.bits12 : waitsOk emulatorlaw28_ObjectNames.T12.2 emulatorlaw28_ObjectNames.B12 = true := by kernel_rfl
set_option maxHeartbeats 8000000 in
set_option maxRecDepth 100000 in
theorem emulatorlaw28_ObjectNames.calls (k : Nat) (a0_0 : ByteArray) (a0_1 : ByteArray) (a0_2 : ByteArray) (a0_3 : Int) (A0_4 : Option Addr) (c0_4 : Nat) (l0_4 : List (S62)) (A0_5 : Option Addr) (c0_5 : Nat) (l0_5 : List (S43)) (a1 : ByteArray) (r : Bool) (w : World) (hr0_4 : Kd.C k62 w A0_4 l0_4.length l0_4) (hc0_4 : l0_4.length ≤ c0_4) (hr0_5 : Kd.C k43 w A0_5 l0_5.length l0_5) (hc0_5 : l0_5.length ≤ c0_5) (h : emulatorlaw28_ObjectNames.f k a0_0 a0_1 a0_2 a0_3 l0_4 l0_5 a1 = some r) :
  Calls Try.prog 9 #[.agg #[.string a0_0, .string a0_1, .string a0_2, .int .i64 a0_3, .slice A0_4 l0_4.length c0_4, .slice A0_5 l0_5.length c0_5], .string a1] w fun e w' => e = .returned (.bool r) ∧ Below w.heap.size w w' := by
 have hu25 := Try.underlying25
 have HR0_4 := Aside0.mk hr0_4
 have HC0_4 := Aside0.mk hc0_4
 clear hr0_4 hc0_4
 have HR0_5 := Aside0.mk hr0_5
 have HC0_5 := Aside0.mk hc0_5
 clear hr0_5 hc0_5
 have HB := Aside0.mk (Below.refl w.heap.size w)
 have H : ((emulatorlaw28_small.f k a0_0 a0_1 a0_2 a0_3 l0_4 l0_5).bind fun t744 => (if t744 = true then (if (a1.size : Int) > 100 then ((emulatorlaw28_alive.f k).bind fun t745 => (some t745)) else ((object_Needs.f k a0_0 a0_1 a0_2 a0_3 l0_4 l0_5).bind fun t746 => ((emulatorref28_Needs.f k a0_0 a0_1 a0_2 a0_3 l0_4 l0_5).bind fun t749 => (if (t746.length : Int) = (t749.length : Int) then (emulatorlaw28_ObjectNames.l0 k a1 t746 t749 (t746.length : Int) 0 a0_0 a0_1 a0_2 a0_3 l0_4 l0_5) else (none))))) else ((emulatorlaw28_alive.f k).bind fun t757 => (some t757)))) = some r := h
 clear h
 replace H := Option.bind_eq_some_iff.mp H
 obtain ⟨t744, A30, H⟩ := H
 replace H : (if t744 = true then (if (a1.size : Int) > 100 then ((emulatorlaw28_alive.f k).bind fun t745 => (some t745)) else ((object_Needs.f k a0_0 a0_1 a0_2 a0_3 l0_4 l0_5).bind fun t746 => ((emulatorref28_Needs.f k a0_0 a0_1 a0_2 a0_3 l0_4 l0_5).bind fun t749 => (if (t746.length : Int) = (t749.length : Int) then (emulatorlaw28_ObjectNames.l0 k a1 t746 t749 (t746.length : Int) 0 a0_0 a0_1 a0_2 a0_3 l0_4 l0_5) else (none))))) else ((emulatorlaw28_alive.f k).bind fun t757 => (some t757))) = some r := H
 have A3 := Aside0.mk A30
 clear A30
 by_cases c4 : t744 = true
 ·subst c4
  have H1 : (if (a1.size : Int) > 100 then ((emulatorlaw28_alive.f k).bind fun t745 => (some t745)) else ((object_Needs.f k a0_0 a0_1 a0_2 a0_3 l0_4 l0_5).bind fun t746 => ((emulatorref28_Needs.f k a0_0 a0_1 a0_2 a0_3 l0_4 l0_5).bind fun t749 => (if (t746.length : Int) = (t749.length : Int) then (emulatorlaw28_ObjectNames.l0 k a1 t746 t749 (t746.length : Int) 0 a0_0 a0_1 a0_2 a0_3 l0_4 l0_5) else (none))))) = some r := by rw [if_pos rfl] at H; exact H
  clear H
  have H := H1
  clear H1
  by_cases c5 : (a1.size : Int) > 100
  ·rw [if_pos c5] at H
   have c5b0 : decide (100 < (a1.size : Int)) = true := decide_eq_true c5
   have c5b1 : decide (100 < a1.size) = true := decide_eq_true (by omega)
   clear c5
   replace H := Option.bind_eq_some_iff.mp H
   obtain ⟨t745, A60, H⟩ := H
   replace H : (some t745) = some r := H
   have A6 := Aside0.mk A60
   clear A60
   obtain rfl := Option.some.inj H
   go_enter Try.func9, Try.ntmps9
   go_wp2_with (first | ((with_reducible refine gate_dst (N := 2) rfl ?_); (try (refine gate_guard (by rfl) ?_; dsimp only)); refine box_event ?hg (N := 2) ?hd (cs := #[.string a0_0, .string a0_1, .string a0_2, .int .i64 a0_3, .slice A0_4 l0_4.length c0_4, .slice A0_5 l0_5.length c0_5]) (t := 25) ?hr ?_; (case hd => rfl); (case hg => rfl); (case hr => first | (go_simp; done) | (go_simp; rfl)); intro gb743 hg w7 hbox hb; have n0_ := Aside0.mk (below_step (by repeat (first | (with_reducible first | exact HB.out | apply below_alloc | apply pw_below_drewN | apply below_drew1) | exact HB.out)) hb); have n1_ := Aside0.mk (hbox); have n2_ := Aside0.mk ((by rw [hg]; exact (below_size (by repeat (first | (with_reducible first | exact HB.out | apply below_alloc | apply pw_below_drewN | apply below_drew1) | exact HB.out))) : w.heap.size ≤ gb743)); have n3_ := Aside0.mk ((by rw [hg]; exact (below_size (by repeat (first | (with_reducible first | exact HB.out | apply below_alloc | apply pw_below_drewN | apply below_drew1) | exact HB.out))) : w.heap.size ≤ gb743)); clear HB; have HB := n0_; have BK743 := n1_; have GW743 := n2_; have GE743 := n3_; clear n0_ n1_ n2_ n3_; clear hb hbox hg; have hcz8_0 : w7.cell? ⟨gb743, 0, none⟩ = some (.string a0_0) := (blk_cell BK743.out 0).trans rfl; have hcz8_1 : w7.cell? ⟨gb743, 1, none⟩ = some (.string a0_1) := (blk_cell BK743.out 1).trans rfl; have hcz8_2 : w7.cell? ⟨gb743, 2, none⟩ = some (.string a0_2) := (blk_cell BK743.out 2).trans rfl; have hcz8_3 : w7.cell? ⟨gb743, 3, none⟩ = some (.int .i64 a0_3) := (blk_cell BK743.out 3).trans rfl; have hcz8_4 : w7.cell? ⟨gb743, 4, none⟩ = some (.slice A0_4 l0_4.length c0_4) := (blk_cell BK743.out 4).trans rfl; have hcz8_5 : w7.cell? ⟨gb743, 5, none⟩ = some (.slice A0_5 l0_5.length c0_5) := (blk_cell BK743.out 5).trans rfl; have hfz8_0 := blk_frozen BK743.out 0; have hfz8_1 := blk_frozen BK743.out 1; have hfz8_2 := blk_frozen BK743.out 2; have hfz8_3 := blk_frozen BK743.out 3; have hfz8_4 := blk_frozen BK743.out 4; have hfz8_5 := blk_frozen BK743.out 5) | ((with_reducible refine gate_callee (f := 17) rfl ?_); refine goesL_ (some 9) rfl rfl Try.func17 (by kernel_rfl) rfl #[.agg #[.string a0_0, .string a0_1, .string a0_2, .int .i64 a0_3, .slice A0_4 l0_4.length c0_4, .slice A0_5 l0_5.length c0_5]] rfl (by (try simp only [List.map_toArray, List.map_cons, List.map_nil]); first | done | rfl | (simp only [List.length_drop, List.length_take]; rfl)) ?_; (with_reducible refine (emulatorlaw28_small.calls k a0_0 a0_1 a0_2 a0_3 _ _ l0_4 _ _ l0_5 true _ ?side1 ?side2 ?side3 ?side4 A3.out).mono ?_); (case side1 => repeat (first | exact (Kd.C_below HR0_4.out HB.out) | (with_reducible refine Kd.C_alloc ?_ _) | (with_reducible refine Kd.C_drewN ?_ _) | (with_reducible refine Kd.C_drew ?_))); (case side2 => exact HC0_4.out); (case side3 => repeat (first | exact (Kd.C_below HR0_5.out HB.out) | (with_reducible refine Kd.C_alloc ?_ _) | (with_reducible refine Kd.C_drewN ?_ _) | (with_reducible refine Kd.C_drew ?_))); (case side4 => exact HC0_5.out); rintro e w9 ⟨rfl, hb⟩; refine ⟨_, rfl, ?_⟩; have n0_ := Aside0.mk (blk_below (g := gb743) (o := .cells #[.string a0_0, .string a0_1, .string a0_2, .int .i64 a0_3, .slice A0_4 l0_4.length c0_4, .slice A0_5 l0_5.length c0_5] 25 (0, 0)) (by (with_reducible repeat (first | refine blk_drewN ?_ _ | refine blk_drew ?_ | refine blk_alloc ?_ _)); exact BK743.out) hb); have n1_ := Aside0.mk (below_step (by repeat (first | (with_reducible first | exact HB.out | apply below_alloc | apply pw_below_drewN | apply below_drew1 | refine below_set ?_ GE743.out) | exact HB.out)) hb); clear BK743 HB; have BK743 := n0_; have HB := n1_; clear n0_ n1_; (try clear hb); (try clear hb2); (try clear hk); (try clear hi)) | ((with_reducible refine gate_callee (f := 20) rfl ?_); refine goesL_ (some 16) rfl rfl Try.func20 (by kernel_rfl) rfl #[] rfl (by (try simp only [List.map_toArray, List.map_cons, List.map_nil]); first | done | rfl | (simp only [List.length_drop, List.length_take]; rfl)) ?_; (with_reducible refine (emulatorlaw28_alive.calls k  t745 _ A6.out).mono ?_); rintro e w10 ⟨rfl, hb⟩; refine ⟨_, rfl, ?_⟩; have n0_ := Aside0.mk (blk_below (g := gb743) (o := .cells #[.string a0_0, .string a0_1, .string a0_2, .int .i64 a0_3, .slice A0_4 l0_4.length c0_4, .slice A0_5 l0_5.length c0_5] 25 (0, 0)) (by (with_reducible repeat (first | refine blk_drewN ?_ _ | refine blk_drew ?_ | refine blk_alloc ?_ _)); exact BK743.out) hb); have n1_ := Aside0.mk (below_step (by repeat (first | (with_reducible first | exact HB.out | apply below_alloc | apply pw_below_drewN | apply below_drew1 | refine below_set ?_ GE743.out) | exact HB.out)) hb); clear BK743 HB; have BK743 := n0_; have HB := n1_; clear n0_ n1_; (try clear hb); (try clear hb2); (try clear hk); (try clear hi)))
   go_ret
   exact ⟨by first | rfl | (simp [errW_none, errW_some] <;> rfl) | (simp [*, errW_none, errW_some] <;> rfl), by repeat (first | (with_reducible first | exact HB.out | apply below_alloc | apply pw_below_drewN | apply below_drew1 | refine below_set ?_ GE743.out) | exact HB.out)⟩
  ·rw [if_neg c5] at H
   have c5b0 : decide (100 < (a1.size : Int)) = false := decide_eq_false c5
   have c5b1 : decide (100 < a1.size) = false := decide_eq_false (by omega)
   clear c5
   replace H := Option.bind_eq_some_iff.mp H
   obtain ⟨t746, A110, H⟩ := H
   replace H : ((emulatorref28_Needs.f k a0_0 a0_1 a0_2 a0_3 l0_4 l0_5).bind fun t749 => (if (t746.length : Int) = (t749.length : Int) then (emulatorlaw28_ObjectNames.l0 k a1 t746 t749 (t746.length : Int) 0 a0_0 a0_1 a0_2 a0_3 l0_4 l0_5) else (none))) = some r := H
   have A11 := Aside0.mk A110
   clear A110
   replace H := Option.bind_eq_some_iff.mp H
   obtain ⟨t749, A120, H⟩ := H
   replace H : (if (t746.length : Int) = (t749.length : Int) then (emulatorlaw28_ObjectNames.l0 k a1 t746 t749 (t746.length : Int) 0 a0_0 a0_1 a0_2 a0_3 l0_4 l0_5) else (none)) = some r := H
   have A12 := Aside0.mk A120
   clear A120
   by_cases c13 : (t746.length : Int) = (t749.length : Int)
   ·rw [if_pos c13] at H
    have c13b0 : ((t746.length : Int) == (t749.length : Int)) = true := beq_iff_eq.mpr c13
    have c13b1 : ((t746.length : Int) != (t749.length : Int)) = false := bne_eq_false_iff_eq.mpr c13
    have c13b2 : (t746.length == t749.length) = true := by first | simpa using c13 | (simp at c13 ⊢; omega)
    clear c13
    have H' := Aside0.mk H
    clear H
    go_enter Try.func9, Try.ntmps9
    try go_wp2_with (first | ((with_reducible refine gate_dst (N := 2) rfl ?_); (try (refine gate_guard (by rfl) ?_; dsimp only)); refine box_event ?hg (N := 2) ?hd (cs := #[.string a0_0, .string a0_1, .string a0_2, .int .i64 a0_3, .slice A0_4 l0_4.length c0_4, .slice A0_5 l0_5.length c0_5]) (t := 25) ?hr ?_; (case hd => rfl); (case hg => rfl); (case hr => first | (go_simp; done) | (go_simp; rfl)); intro gb743 hg w14 hbox hb; have n0_ := Aside0.mk (below_step (by repeat (first | (with_reducible first | exact HB.out | apply below_alloc | apply pw_below_drewN | apply below_drew1) | exact HB.out)) hb); have n1_ := Aside0.mk (hbox); have n2_ := Aside0.mk ((by rw [hg]; exact (below_size (by repeat (first | (with_reducible first | exact HB.out | apply below_alloc | apply pw_below_drewN | apply below_drew1) | exact HB.out))) : w.heap.size ≤ gb743)); have n3_ := Aside0.mk ((by rw [hg]; exact (below_size (by repeat (first | (with_reducible first | exact HB.out | apply below_alloc | apply pw_below_drewN | apply below_drew1) | exact HB.out))) : w.heap.size ≤ gb743)); clear HB; have HB := n0_; have BK743 := n1_; have GW743 := n2_; have GE743 := n3_; clear n0_ n1_ n2_ n3_; clear hb hbox hg; have hcz15_0 : w14.cell? ⟨gb743, 0, none⟩ = some (.string a0_0) := (blk_cell BK743.out 0).trans rfl; have hcz15_1 : w14.cell? ⟨gb743, 1, none⟩ = some (.string a0_1) := (blk_cell BK743.out 1).trans rfl; have hcz15_2 : w14.cell? ⟨gb743, 2, none⟩ = some (.string a0_2) := (blk_cell BK743.out 2).trans rfl; have hcz15_3 : w14.cell? ⟨gb743, 3, none⟩ = some (.int .i64 a0_3) := (blk_cell BK743.out 3).trans rfl; have hcz15_4 : w14.cell? ⟨gb743, 4, none⟩ = some (.slice A0_4 l0_4.length c0_4) := (blk_cell BK743.out 4).trans rfl; have hcz15_5 : w14.cell? ⟨gb743, 5, none⟩ = some (.slice A0_5 l0_5.length c0_5) := (blk_cell BK743.out 5).trans rfl; have hfz15_0 := blk_frozen BK743.out 0; have hfz15_1 := blk_frozen BK743.out 1; have hfz15_2 := blk_frozen BK743.out 2; have hfz15_3 := blk_frozen BK743.out 3; have hfz15_4 := blk_frozen BK743.out 4; have hfz15_5 := blk_frozen BK743.out 5) | ((with_reducible refine gate_callee (f := 17) rfl ?_); refine goesL_ (some 9) rfl rfl Try.func17 (by kernel_rfl) rfl #[.agg #[.string a0_0, .string a0_1, .string a0_2, .int .i64 a0_3, .slice A0_4 l0_4.length c0_4, .slice A0_5 l0_5.length c0_5]] rfl (by (try simp only [List.map_toArray, List.map_cons, List.map_nil]); first | done | rfl | (simp only [List.length_drop, List.length_take]; rfl)) ?_; (with_reducible refine (emulatorlaw28_small.calls k a0_0 a0_1 a0_2 a0_3 _ _ l0_4 _ _ l0_5 true _ ?side1 ?side2 ?side3 ?side4 A3.out).mono ?_); (case side1 => repeat (first | exact (Kd.C_below HR0_4.out HB.out) | (with_reducible refine Kd.C_alloc ?_ _) | (with_reducible refine Kd.C_drewN ?_ _) | (with_reducible refine Kd.C_drew ?_))); (case side2 => exact HC0_4.out); (case side3 => repeat (first | exact (Kd.C_below HR0_5.out HB.out) | (with_reducible refine Kd.C_alloc ?_ _) | (with_reducible refine Kd.C_drewN ?_ _) | (with_reducible refine Kd.C_drew ?_))); (case side4 => exact HC0_5.out); rintro e w16 ⟨rfl, hb⟩; refine ⟨_, rfl, ?_⟩; have n0_ := Aside0.mk (blk_below (g := gb743) (o := .cells #[.string a0_0, .string a0_1, .string a0_2, .int .i64 a0_3, .slice A0_4 l0_4.length c0_4, .slice A0_5 l0_5.length c0_5] 25 (0, 0)) (by (with_reducible repeat (first | refine blk_drewN ?_ _ | refine blk_drew ?_ | refine blk_alloc ?_ _)); exact BK743.out) hb); have n1_ := Aside0.mk (below_step (by repeat (first | (with_reducible first | exact HB.out | apply below_alloc | apply pw_below_drewN | apply below_drew1 | refine below_set ?_ GE743.out) | exact HB.out)) hb); clear BK743 HB; have BK743 := n0_; have HB := n1_; clear n0_ n1_; (try clear hb); (try clear hb2); (try clear hk); (try clear hi)))
    have n0_ := Aside0.mk (blk_drew BK743.out)
    have n1_ := Aside0.mk (below_drew1 HB.out)
    clear BK743 HB
    have BK743 := n0_; have HB := n1_
    clear n0_ n1_
    refine start_ (n := 6) (S := fun w' => w'.cell? ⟨gb743, 0, none⟩ = some (.string a0_0) ∧ w'.cell? ⟨gb743, 1, none⟩ = some (.string a0_1) ∧ w'.cell? ⟨gb743, 2, none⟩ = some (.string a0_2) ∧ w'.cell? ⟨gb743, 3, none⟩ = some (.int .i64 a0_3) ∧ w'.cell? ⟨gb743, 4, none⟩ = some (.slice A0_4 l0_4.length c0_4) ∧ w'.cell? ⟨gb743, 5, none⟩ = some (.slice A0_5 l0_5.length c0_5)) (ds := []) #[false, false, false, false, false, false] (by kernel_rfl) rfl rfl ⟨(blk_cell BK743.out 0).trans rfl, (blk_cell BK743.out 1).trans rfl, (blk_cell BK743.out 2).trans rfl, (blk_cell BK743.out 3).trans rfl, (blk_cell BK743.out 4).trans rfl, (blk_cell BK743.out 5).trans rfl⟩ (fun hHeld => ?_)
    generalize w16.drew = w17 at BK743 HB hHeld ⊢
    refine take_ (i := 0) (N := some 17) (v := ?_) (a' := ?_) #[true, false, false, false, false, false] rfl rfl (by kernel_rfl) (fun _ _ _ h => h) (Or.inl ⟨by rfl, ?_⟩) hHeld ?_ ?_
    rotate_left
    ·rintro w' ⟨s0, s1, s2, s3, s4, s5⟩
     go_simp
     first | with_reducible rfl | (refine (if_neg ?_).trans ?_; (first | omega | (rw [← ByteArray.size_append]; first | omega | (rw [← ByteArray.size_append]; first | omega | (rw [← ByteArray.size_append]; first | omega | (rw [← ByteArray.size_append]; first | omega | (rw [← ByteArray.size_append]; first | omega | (rw [← ByteArray.size_append]; omega))))))); with_reducible rfl)
    rotate_left
    ·simp only [Act.put, List.setIfInBounds_toArray, List.set_cons_zero, List.set_cons_succ, i64_w, i32_w]
     rfl
    refine take_ (i := 2) (N := some 19) (v := ?_) (a' := ?_) #[true, false, true, false, false, false] rfl rfl (by kernel_rfl) (fun _ _ _ h => h) (Or.inl ⟨by rfl, ?_⟩) hHeld ?_ ?_
    rotate_left
    ·rintro w' ⟨s0, s1, s2, s3, s4, s5⟩
     go_simp
     first | with_reducible rfl | (refine (if_neg ?_).trans ?_; (first | omega | (rw [← ByteArray.size_append]; first | omega | (rw [← ByteArray.size_append]; first | omega | (rw [← ByteArray.size_append]; first | omega | (rw [← ByteArray.size_append]; first | omega | (rw [← ByteArray.size_append]; first | omega | (rw [← ByteArray.size_append]; omega))))))); with_reducible rfl)
    rotate_left
    ·simp only [Act.put, List.setIfInBounds_toArray, List.set_cons_zero, List.set_cons_succ, i64_w, i32_w]
     rfl
    refine one_ (i := 1) (N := some 18) #[true, true, true, false, false, false] rfl rfl (by kernel_rfl) (by decide) (fun K hK => ?_)
    refine goes_ Try.func27 (by kernel_rfl) rfl #[.agg #[.string a0_0, .string a0_1, .string a0_2, .int .i64 a0_3, .slice A0_4 l0_4.length c0_4, .slice A0_5 l0_5.length c0_5]] (by rfl) rfl rfl (by (try simp only [List.map_toArray, List.map_cons, List.map_nil]); first | done | rfl | (simp only [List.length_drop, List.length_take]; rfl)) ?_
    with_reducible refine (object_Needs.calls k a0_0 a0_1 a0_2 a0_3 _ _ l0_4 _ _ l0_5 t746 _ ?side1 ?side2 ?side3 ?side4 A11.out).mono ?_
    (case side1 => repeat (first | exact (Kd.C_below HR0_4.out HB.out) | (with_reducible refine Kd.C_alloc ?_ _) | (with_reducible refine Kd.C_drewN ?_ _) | (with_reducible refine Kd.C_drew ?_)))
    (case side2 => exact HC0_4.out)
    (case side3 => repeat (first | exact (Kd.C_below HR0_5.out HB.out) | (with_reducible refine Kd.C_alloc ?_ _) | (with_reducible refine Kd.C_drewN ?_ _) | (with_reducible refine Kd.C_drew ?_)))
    (case side4 => exact HC0_5.out)
    rintro e w18 ⟨v747, rfl, ho0, hb⟩
    refine ⟨_, rfl, ?_⟩
    have n0_ := Aside0.mk (Kd.R_lower ho0 (below_size (by repeat (first | (with_reducible first | exact HB.out | apply below_alloc | apply pw_below_drewN | apply below_drew1 | refine below_set ?_ GE743.out) | exact HB.out))))
    have n1_ := Aside0.mk (blk_below (g := gb743) (o := .cells #[.string a0_0, .string a0_1, .string a0_2, .int .i64 a0_3, .slice A0_4 l0_4.length c0_4, .slice A0_5 l0_5.length c0_5] 25 (0, 0)) (by (with_reducible repeat (first | refine blk_drewN ?_ _ | refine blk_drew ?_ | refine blk_alloc ?_ _)); exact BK743.out) hb)
    have n2_ := Aside0.mk (below_step (by repeat (first | (with_reducible first | exact HB.out | apply below_alloc | apply pw_below_drewN | apply below_drew1 | refine below_set ?_ GE743.out) | exact HB.out)) hb)
    clear BK743 HB
    have HO748 := n0_; have BK743 := n1_; have HB := n2_
    clear n0_ n1_ n2_
    (try clear hb); (try clear hb2); (try clear hk); (try clear hi); (try clear ho0)
    refine hK.out _ _ ⟨(blk_cell BK743.out 0).trans rfl, (blk_cell BK743.out 1).trans rfl, (blk_cell BK743.out 2).trans rfl, (blk_cell BK743.out 3).trans rfl, (blk_cell BK743.out 4).trans rfl, (blk_cell BK743.out 5).trans rfl⟩ (fun hHeld => ?_)
    clear hK K
    refine norm_ (a' := ?_) ?_ ?_
    rotate_left
    ·show Act.put _ (some 18) _ = _
     simp only [Act.put, List.setIfInBounds_toArray, List.set_cons_zero, List.set_cons_succ, i64_w, i32_w]
     rfl
    refine one_ (i := 3) (N := some 20) #[true, true, true, true, false, false] rfl rfl (by kernel_rfl) (by decide) (fun K hK => ?_)
    refine goes_ Try.func28 (by kernel_rfl) rfl #[.agg #[.string a0_0, .string a0_1, .string a0_2, .int .i64 a0_3, .slice A0_4 l0_4.length c0_4, .slice A0_5 l0_5.length c0_5]] (by rfl) rfl rfl (by (try simp only [List.map_toArray, List.map_cons, List.map_nil]); first | done | rfl | (simp only [List.length_drop, List.length_take]; rfl)) ?_
    with_reducible refine (emulatorref28_Needs.calls k a0_0 a0_1 a0_2 a0_3 _ _ l0_4 _ _ l0_5 t749 _ ?side1 ?side2 ?side3 ?side4 A12.out).mono ?_
    (case side1 => repeat (first | exact (Kd.C_below HR0_4.out HB.out) | (with_reducible refine Kd.C_alloc ?_ _) | (with_reducible refine Kd.C_drewN ?_ _) | (with_reducible refine Kd.C_drew ?_)))
    (case side2 => exact HC0_4.out)
    (case side3 => repeat (first | exact (Kd.C_below HR0_5.out HB.out) | (with_reducible refine Kd.C_alloc ?_ _) | (with_reducible refine Kd.C_drewN ?_ _) | (with_reducible refine Kd.C_drew ?_)))
    (case side4 => exact HC0_5.out)
    rintro e w19 ⟨v750, rfl, ho0, hb⟩
    refine ⟨_, rfl, ?_⟩
    have n0_ := Aside0.mk (Kd.R_elder' (by (with_reducible repeat (first | apply Kd.R_alloc | apply Kd.R_drewN | apply Kd.R_drew)); exact HO748.out) (Kd.R_base ho0) hb)
    have n1_ := Aside0.mk (Kd.R_lower (Kd.R_new' ho0 (Kd.R_lt (by (with_reducible repeat (first | apply Kd.R_alloc | apply Kd.R_drewN | apply Kd.R_drew)); exact HO748.out))) (below_size (by repeat (first | (with_reducible first | exact HB.out | apply below_alloc | apply pw_below_drewN | apply below_drew1 | refine below_set ?_ GE743.out) | exact HB.out))))
    have n2_ := Aside0.mk (blk_below (g := gb743) (o := .cells #[.string a0_0, .string a0_1, .string a0_2, .int .i64 a0_3, .slice A0_4 l0_4.length c0_4, .slice A0_5 l0_5.length c0_5] 25 (0, 0)) (by (with_reducible repeat (first | refine blk_drewN ?_ _ | refine blk_drew ?_ | refine blk_alloc ?_ _)); exact BK743.out) hb)
    have n3_ := Aside0.mk (below_step (by repeat (first | (with_reducible first | exact HB.out | apply below_alloc | apply pw_below_drewN | apply below_drew1 | refine below_set ?_ GE743.out) | exact HB.out)) hb)
    clear HO748 BK743 HB
    have HO748 := n0_; have HO751 := n1_; have BK743 := n2_; have HB := n3_
    clear n0_ n1_ n2_ n3_
    (try clear hb); (try clear hb2); (try clear hk); (try clear hi); (try clear ho0)
    refine hK.out _ _ ⟨(blk_cell BK743.out 0).trans rfl, (blk_cell BK743.out 1).trans rfl, (blk_cell BK743.out 2).trans rfl, (blk_cell BK743.out 3).trans rfl, (blk_cell BK743.out 4).trans rfl, (blk_cell BK743.out 5).trans rfl⟩ (fun hHeld => ?_)
    clear hK K
    refine norm_ (a' := ?_) ?_ ?_
    rotate_left
    ·show Act.put _ (some 20) _ = _
     simp only [Act.put, List.setIfInBounds_toArray, List.set_cons_zero, List.set_cons_succ, i64_w, i32_w]
     rfl
    refine pure_ (i := 4) (N := some 5) (v := ?_) (a' := ?_) #[true, true, true, true, true, false] rfl rfl (by kernel_rfl) (fun _ _ _ h => h) (Or.inl ⟨by rfl, ?_⟩) ?_ ?_
    rotate_left
    ·intro w'
     go_simp
     first | with_reducible rfl | (refine (if_neg ?_).trans ?_; (first | omega | (rw [← ByteArray.size_append]; first | omega | (rw [← ByteArray.size_append]; first | omega | (rw [← ByteArray.size_append]; first | omega | (rw [← ByteArray.size_append]; first | omega | (rw [← ByteArray.size_append]; first | omega | (rw [← ByteArray.size_append]; omega))))))); with_reducible rfl)
    rotate_left
    ·simp only [Act.put, List.setIfInBounds_toArray, List.set_cons_zero, List.set_cons_succ, i64_w, i32_w]
     rfl
    refine pure_ (i := 5) (N := some 6) (v := ?_) (a' := ?_) #[true, true, true, true, true, true] rfl rfl (by kernel_rfl) (fun _ _ _ h => h) (Or.inl ⟨by rfl, ?_⟩) ?_ ?_
    rotate_left
    ·intro w'
     go_simp
     first | with_reducible rfl | (refine (if_neg ?_).trans ?_; (first | omega | (rw [← ByteArray.size_append]; first | omega | (rw [← ByteArray.size_append]; first | omega | (rw [← ByteArray.size_append]; first | omega | (rw [← ByteArray.size_append]; first | omega | (rw [← ByteArray.size_append]; first | omega | (rw [← ByteArray.size_append]; omega))))))); with_reducible rfl)
    rotate_left
    ·simp only [Act.put, List.setIfInBounds_toArray, List.set_cons_zero, List.set_cons_succ, i64_w, i32_w]
     rfl
    refine done_ (by kernel_rfl) ?_
    obtain ⟨Ao20, co20, eo20⟩ := Kd.R_slice HO748.out
    subst eo20
    obtain ⟨Ao21, co21, eo21⟩ := Kd.R_slice HO751.out
    subst eo21
    try go_wp2
    go_loopg [28] k (fun kq v28 w' => ∃ (x28_1 : Int), v28 = .int .i64 x28_1 ∧ Aside0 (emulatorlaw28_ObjectNames.l0 kq a1 t746 t749 (t746.length : Int) x28_1 a0_0 a0_1 a0_2 a0_3 l0_4 l0_5 = some r) ∧ Aside0 (kq ≤ k) ∧ Aside0 (Kd.R Kd.string 9 w' w.heap.size (fun k_ => some k_ ≠ ((.slice Ao21 t749.length co21) : Value).ownBlock) (.slice Ao20 t746.length co20) t746) ∧ Aside0 (Kd.R Kd.string 9 w' w.heap.size (fun k_ => some k_ ≠ ((.slice Ao20 t746.length co20) : Value).ownBlock) (.slice Ao21 t749.length co21) t749) ∧ Aside0 (w'.heap[gb743]? = some (.cells #[.string a0_0, .string a0_1, .string a0_2, .int .i64 a0_3, (.slice A0_4 l0_4.length c0_4), (.slice A0_5 l0_5.length c0_5)] 25 (0, 0))) ∧ Aside0 (Below w.heap.size w w'))
    case atStart => exact ⟨(0), (by first | rfl | (simp; done) | (simp [isEmpty_ne]; done) | (simp [*]; done)), H', ⟨Nat.le_refl _⟩, ⟨by (with_reducible repeat (first | apply Kd.R_alloc | apply Kd.R_drewN | apply Kd.R_drew)); exact Kd.R_mono HO748.out (fun _ hk => hk.2)⟩, ⟨by (with_reducible repeat (first | apply Kd.R_alloc | apply Kd.R_drewN | apply Kd.R_drew)); exact Kd.R_mono HO751.out (fun _ hk => hk.2)⟩, ⟨by (with_reducible repeat (first | refine blk_drewN ?_ _ | refine blk_drew ?_ | refine blk_alloc ?_ _)); exact BK743.out⟩, ⟨by repeat (first | (with_reducible first | exact HB.out | apply below_alloc | apply pw_below_drewN | apply below_drew1 | refine below_set ?_ GE743.out) | exact HB.out)⟩⟩
    case round =>
     clear H'
     (try clear c1); (try clear c2); (try clear p2); (try clear c4); (try clear c5); (try clear c5b0); (try clear c5b1); (try clear c9); (try clear c13); (try clear c13b0); (try clear c13b1); (try clear c13b2); (try clear c17); (try clear c20); (try clear hcz15_0); (try clear hcz15_1); (try clear hcz15_2); (try clear hcz15_3); (try clear hcz15_4); (try clear hcz15_5); (try clear hcz8_0); (try clear hcz8_1); (try clear hcz8_2); (try clear hcz8_3); (try clear hcz8_4); (try clear hcz8_5); (try clear hfz15_0); (try clear hfz15_1); (try clear hfz15_2); (try clear hfz15_3); (try clear hfz15_4); (try clear hfz15_5); (try clear hfz8_0); (try clear hfz8_1); (try clear hfz8_2); (try clear hfz8_3); (try clear hfz8_4); (try clear hfz8_5)
     obtain ⟨x28_1, rfl, HA, HK1, HO_5, HO_6, BK743, HB⟩ := hrel
     cases gk with
     | zero => exact absurd HA.out (by simp [emulatorlaw28_ObjectNames.l0])
     | succ k1 =>
      have H := HA.out
      clear HA
      simp only [emulatorlaw28_ObjectNames.l0] at H
      by_cases c22 : x28_1 < (t746.length : Int)
      ·rw [if_pos c22] at H
       have c22b0 : decide (x28_1 < (t746.length : Int)) = true := decide_eq_true c22
       clear c22
       by_cases c23 : 0 ≤ x28_1
       ·rw [if_pos c23] at H
        have c23b0 : decide (0 ≤ x28_1) = true := decide_eq_true c23
        clear c23
        by_cases c24 : x28_1 < (t746.length : Int)
        ·rw [if_pos c24] at H
         have c24b0 : decide (x28_1 < (t746.length : Int)) = true := decide_eq_true c24
         clear c24
         by_cases c25 : x28_1 < (t749.length : Int)
         ·rw [if_pos c25] at H
          have c25b0 : decide (x28_1 < (t749.length : Int)) = true := decide_eq_true c25
          clear c25
          by_cases c26 : (rdOf ByteArray.empty t746 x28_1).toList = (rdOf ByteArray.empty t749 x28_1).toList
          ·rw [if_pos c26] at H
           have c26b0 : ((rdOf ByteArray.empty t746 x28_1).toList == (rdOf ByteArray.empty t749 x28_1).toList) = true := beq_iff_eq.mpr c26
           have c26b1 : ((rdOf ByteArray.empty t746 x28_1).toList != (rdOf ByteArray.empty t749 x28_1).toList) = false := bne_eq_false_iff_eq.mpr c26
           clear c26
           have H' := Aside0.mk H
           clear H
           try go_wp2
           have n0_ := Aside0.mk (Kd.R_drew HO_5.out)
           have n1_ := Aside0.mk (Kd.R_drew HO_6.out)
           have n2_ := Aside0.mk (blk_drew BK743.out)
           have n3_ := Aside0.mk (below_drew1 HB.out)
           clear HO_5 HO_6 BK743 HB
           have HO_5 := n0_; have HO_6 := n1_; have BK743 := n2_; have HB := n3_
           clear n0_ n1_ n2_ n3_
           have p752 : 0 ≤ (x28_1 : Int) := of_decide_eq_true (by first | (with_reducible assumption) | assumption)
           have q752 : x28_1 < (t746.length : Int) := of_decide_eq_true (by first | (with_reducible assumption) | assumption)
           obtain ⟨ad752, e752, hx752_0⟩ := Kd.at_string (Kd.R_reads' HO_5.out).2.2 x28_1 p752 q752
           cases e752
           replace p752 := eq_true p752
           replace q752 := eq_true q752
           have p753 : 0 ≤ (x28_1 : Int) := of_decide_eq_true (by first | (with_reducible assumption) | assumption)
           have q753 : x28_1 < (t749.length : Int) := of_decide_eq_true (by first | (with_reducible assumption) | assumption)
           obtain ⟨ad753, e753, hx753_0⟩ := Kd.at_string (Kd.R_reads' HO_6.out).2.2 x28_1 p753 q753
           cases e753
           replace p753 := eq_true p753
           replace q753 := eq_true q753
           refine start_ (n := 9) (S := fun w' => w'.cell? (ad752.add (x28_1).toNat) = some (.string (rdOf ByteArray.empty t746 x28_1)) ∧ w'.cell? (ad753.add (x28_1).toNat) = some (.string (rdOf ByteArray.empty t749 x28_1))) (ds := []) #[false, false, false, false, false, false, false, false, false] (by kernel_rfl) rfl rfl ⟨hx752_0, hx753_0⟩ (fun hHeld => ?_); refine with_tabW emulatorlaw28_ObjectNames.tab9 emulatorlaw28_ObjectNames.bits9 (fun HT_ HW_ => ?_)
           generalize wr.drew = w27 at HO_5 HO_6 BK743 HB hx752_0 hx753_0 hHeld ⊢
           refine pure_ (i := 0) (N := some 31) (v := ?_) (a' := ?_) #[true, false, false, false, false, false, false, false, false] rfl rfl (any_of HT_.out (by kernel_rfl)) (fun _ _ _ h => h) (Or.inl ⟨by rfl, ?_⟩) ?_ ?_
           rotate_left
           ·intro w'
            go_simp
            first | with_reducible rfl | (refine (if_neg ?_).trans ?_; (first | omega | (rw [← ByteArray.size_append]; first | omega | (rw [← ByteArray.size_append]; first | omega | (rw [← ByteArray.size_append]; first | omega | (rw [← ByteArray.size_append]; first | omega | (rw [← ByteArray.size_append]; first | omega | (rw [← ByteArray.size_append]; omega))))))); with_reducible rfl)
           rotate_left
           ·simp only [Act.put, List.setIfInBounds_toArray, List.set_cons_zero, List.set_cons_succ, i64_w, i32_w]
            rfl
           refine pure_ (i := 1) (N := some 32) (v := ?_) (a' := ?_) #[true, true, false, false, false, false, false, false, false] rfl rfl (any_of HT_.out (by kernel_rfl)) (fun _ _ _ h => h) (Or.inl ⟨by rfl, ?_⟩) ?_ ?_
           rotate_left
           ·intro w'
            go_simp
            first | with_reducible rfl | (refine (if_neg ?_).trans ?_; (first | omega | (rw [← ByteArray.size_append]; first | omega | (rw [← ByteArray.size_append]; first | omega | (rw [← ByteArray.size_append]; first | omega | (rw [← ByteArray.size_append]; first | omega | (rw [← ByteArray.size_append]; first | omega | (rw [← ByteArray.size_append]; omega))))))); with_reducible rfl)
           rotate_left
           ·simp only [Act.put, List.setIfInBounds_toArray, List.set_cons_zero, List.set_cons_succ, i64_w, i32_w]
            rfl
           refine pure_ (i := 2) (N := some 33) (v := ?_) (a' := ?_) #[true, true, true, false, false, false, false, false, false] rfl rfl (any_of HT_.out (by kernel_rfl)) (fun _ _ _ h => h) (Or.inl ⟨by rfl, ?_⟩) ?_ ?_
           rotate_left
           ·intro w'
            go_simp
            first | with_reducible rfl | (refine (if_neg ?_).trans ?_; (first | omega | (rw [← ByteArray.size_append]; first | omega | (rw [← ByteArray.size_append]; first | omega | (rw [← ByteArray.size_append]; first | omega | (rw [← ByteArray.size_append]; first | omega | (rw [← ByteArray.size_append]; first | omega | (rw [← ByteArray.size_append]; omega))))))); with_reducible rfl)
           rotate_left
           ·simp only [Act.put, List.setIfInBounds_toArray, List.set_cons_zero, List.set_cons_succ, i64_w, i32_w]
            rfl
           refine pure_ (i := 4) (N := some 35) (v := ?_) (a' := ?_) #[true, true, true, false, true, false, false, false, false] rfl rfl (any_of HT_.out (by kernel_rfl)) (fun _ _ _ h => h) (Or.inl ⟨by rfl, ?_⟩) ?_ ?_
           rotate_left
           ·intro w'
            go_simp
            first | with_reducible rfl | (refine (if_neg ?_).trans ?_; (first | omega | (rw [← ByteArray.size_append]; first | omega | (rw [← ByteArray.size_append]; first | omega | (rw [← ByteArray.size_append]; first | omega | (rw [← ByteArray.size_append]; first | omega | (rw [← ByteArray.size_append]; first | omega | (rw [← ByteArray.size_append]; omega))))))); with_reducible rfl)
           rotate_left
           ·simp only [Act.put, List.setIfInBounds_toArray, List.set_cons_zero, List.set_cons_succ, i64_w, i32_w]
            rfl
           refine pure_ (i := 5) (N := some 36) (v := ?_) (a' := ?_) #[true, true, true, false, true, true, false, false, false] rfl rfl (any_of HT_.out (by kernel_rfl)) (fun _ _ _ h => h) (Or.inl ⟨by rfl, ?_⟩) ?_ ?_
           rotate_left
           ·intro w'
            go_simp
            first | with_reducible rfl | (refine (if_neg ?_).trans ?_; (first | omega | (rw [← ByteArray.size_append]; first | omega | (rw [← ByteArray.size_append]; first | omega | (rw [← ByteArray.size_append]; first | omega | (rw [← ByteArray.size_append]; first | omega | (rw [← ByteArray.size_append]; first | omega | (rw [← ByteArray.size_append]; omega))))))); with_reducible rfl)
           rotate_left
           ·simp only [Act.put, List.setIfInBounds_toArray, List.set_cons_zero, List.set_cons_succ, i64_w, i32_w]
            rfl
           refine pure_ (i := 6) (N := some 37) (v := ?_) (a' := ?_) #[true, true, true, false, true, true, true, false, false] rfl rfl (any_of HT_.out (by kernel_rfl)) (fun _ _ _ h => h) (Or.inl ⟨by rfl, ?_⟩) ?_ ?_
           rotate_left
           ·intro w'
            go_simp
            first | with_reducible rfl | (refine (if_neg ?_).trans ?_; (first | omega | (rw [← ByteArray.size_append]; first | omega | (rw [← ByteArray.size_append]; first | omega | (rw [← ByteArray.size_append]; first | omega | (rw [← ByteArray.size_append]; first | omega | (rw [← ByteArray.size_append]; first | omega | (rw [← ByteArray.size_append]; omega))))))); with_reducible rfl)
           rotate_left
           ·simp only [Act.put, List.setIfInBounds_toArray, List.set_cons_zero, List.set_cons_succ, i64_w, i32_w]
            rfl
           refine take_ (i := 3) (N := some 34) (v := ?_) (a' := ?_) #[true, true, true, true, true, true, true, false, false] rfl rfl (take_ofW HT_.out HW_.out (by kernel_rfl)) (fun _ _ _ h => h) (Or.inl ⟨by rfl, ?_⟩) hHeld ?_ ?_
           rotate_left
           ·rintro w' ⟨s0, s1⟩
            go_simp
            first | with_reducible rfl | (refine (if_neg ?_).trans ?_; (first | omega | (rw [← ByteArray.size_append]; first | omega | (rw [← ByteArray.size_append]; first | omega | (rw [← ByteArray.size_append]; first | omega | (rw [← ByteArray.size_append]; first | omega | (rw [← ByteArray.size_append]; first | omega | (rw [← ByteArray.size_append]; omega))))))); with_reducible rfl)
           rotate_left
           ·simp only [Act.put, List.setIfInBounds_toArray, List.set_cons_zero, List.set_cons_succ, i64_w, i32_w]
            rfl
           refine take_ (i := 7) (N := some 38) (v := ?_) (a' := ?_) #[true, true, true, true, true, true, true, true, false] rfl rfl (take_ofW HT_.out HW_.out (by kernel_rfl)) (fun _ _ _ h => h) (Or.inl ⟨by rfl, ?_⟩) hHeld ?_ ?_
           rotate_left
           ·rintro w' ⟨s0, s1⟩
            go_simp
            first | with_reducible rfl | (refine (if_neg ?_).trans ?_; (first | omega | (rw [← ByteArray.size_append]; first | omega | (rw [← ByteArray.size_append]; first | omega | (rw [← ByteArray.size_append]; first | omega | (rw [← ByteArray.size_append]; first | omega | (rw [← ByteArray.size_append]; first | omega | (rw [← ByteArray.size_append]; omega))))))); with_reducible rfl)
           rotate_left
           ·simp only [Act.put, List.setIfInBounds_toArray, List.set_cons_zero, List.set_cons_succ, i64_w, i32_w]
            rfl
           refine pure_ (i := 8) (N := some 39) (v := ?_) (a' := ?_) #[true, true, true, true, true, true, true, true, true] rfl rfl (any_of HT_.out (by kernel_rfl)) (fun _ _ _ h => h) (Or.inl ⟨by rfl, ?_⟩) ?_ ?_
           rotate_left
           ·intro w'
            go_simp
            first | with_reducible rfl | (refine (if_neg ?_).trans ?_; (first | omega | (rw [← ByteArray.size_append]; first | omega | (rw [← ByteArray.size_append]; first | omega | (rw [← ByteArray.size_append]; first | omega | (rw [← ByteArray.size_append]; first | omega | (rw [← ByteArray.size_append]; first | omega | (rw [← ByteArray.size_append]; omega))))))); with_reducible rfl)
           rotate_left
           ·simp only [Act.put, List.setIfInBounds_toArray, List.set_cons_zero, List.set_cons_succ, i64_w, i32_w]
            rfl
           refine done_ (done_of HT_.out (by kernel_rfl)) ?_
           try go_wp2
           go_roundg k1
           case measure => have := HK1.out; omega
           case rel => exact ⟨(wrap64 (x28_1 + 1)), (by first | rfl | (simp; done) | (simp [isEmpty_ne]; done) | (simp [*]; done)), H', ⟨by have := HK1.out; omega⟩, ⟨by (with_reducible repeat (first | apply Kd.R_alloc | apply Kd.R_drewN | apply Kd.R_drew)); exact HO_5.out⟩, ⟨by (with_reducible repeat (first | apply Kd.R_alloc | apply Kd.R_drewN | apply Kd.R_drew)); exact HO_6.out⟩, ⟨by (with_reducible repeat (first | refine blk_drewN ?_ _ | refine blk_drew ?_ | refine blk_alloc ?_ _)); exact BK743.out⟩, ⟨by repeat (first | (with_reducible first | exact HB.out | apply below_alloc | apply pw_below_drewN | apply below_drew1 | refine below_set ?_ GE743.out) | exact HB.out)⟩⟩
          ·rw [if_neg c26] at H
           exact absurd H (by simp)
         ·rw [if_neg c25] at H
          exact absurd H (by simp)
        ·rw [if_neg c24] at H
         exact absurd H (by simp)
       ·rw [if_neg c23] at H
        exact absurd H (by simp)
      ·rw [if_neg c22] at H
       have c22b0 : decide (x28_1 < (t746.length : Int)) = false := decide_eq_false c22
       clear c22
       replace H := Option.bind_eq_some_iff.mp H
       obtain ⟨t754, A280, H⟩ := H
       replace H : ((emulatorref28_Defines.f k1 a0_0 a0_1 a0_2 a0_3 l0_4 l0_5 a1).bind fun t755 => (if (t754 == t755) = true then ((emulatorlaw28_alive.f k1).bind fun t756 => (some t756)) else (none))) = some r := H
       have A28 := Aside0.mk A280
       clear A280
       replace H := Option.bind_eq_some_iff.mp H
       obtain ⟨t755, A290, H⟩ := H
       replace H : (if (t754 == t755) = true then ((emulatorlaw28_alive.f k1).bind fun t756 => (some t756)) else (none)) = some r := H
       have A29 := Aside0.mk A290
       clear A290
       by_cases c30 : (t754 == t755) = true
       ·rw [if_pos c30] at H
        have c30b0 : (t754 == t755) = true := c30
        (try (have c30b1 : decide (t754 = t755) = true := by simpa using c30))
        (try (have c30b2 : (t754 == t755) = true := by simpa using c30))
        clear c30
        replace H := Option.bind_eq_some_iff.mp H
        obtain ⟨t756, A310, H⟩ := H
        replace H : (some t756) = some r := H
        have A31 := Aside0.mk A310
        clear A310
        obtain rfl := Option.some.inj H
        try go_wp2
        have n0_ := Aside0.mk (Kd.R_drew HO_5.out)
        have n1_ := Aside0.mk (Kd.R_drew HO_6.out)
        have n2_ := Aside0.mk (blk_drew BK743.out)
        have n3_ := Aside0.mk (below_drew1 HB.out)
        clear HO_5 HO_6 BK743 HB
        have HO_5 := n0_; have HO_6 := n1_; have BK743 := n2_; have HB := n3_
        clear n0_ n1_ n2_ n3_
        refine start_ (n := 11) (S := fun w' => w'.cell? ⟨gb743, 0, none⟩ = some (.string a0_0) ∧ w'.cell? ⟨gb743, 1, none⟩ = some (.string a0_1) ∧ w'.cell? ⟨gb743, 2, none⟩ = some (.string a0_2) ∧ w'.cell? ⟨gb743, 3, none⟩ = some (.int .i64 a0_3) ∧ w'.cell? ⟨gb743, 4, none⟩ = some (.slice A0_4 l0_4.length c0_4) ∧ w'.cell? ⟨gb743, 5, none⟩ = some (.slice A0_5 l0_5.length c0_5)) (ds := []) #[false, false, false, false, false, false, false, false, false, false, false] (by kernel_rfl) rfl rfl ⟨(blk_cell BK743.out 0).trans rfl, (blk_cell BK743.out 1).trans rfl, (blk_cell BK743.out 2).trans rfl, (blk_cell BK743.out 3).trans rfl, (blk_cell BK743.out 4).trans rfl, (blk_cell BK743.out 5).trans rfl⟩ (fun hHeld => ?_); refine with_tabW emulatorlaw28_ObjectNames.tab12 emulatorlaw28_ObjectNames.bits12 (fun HT_ HW_ => ?_)
        generalize wr.drew = w32 at HO_5 HO_6 BK743 HB hHeld ⊢
        refine pure_ (i := 1) (N := some 42) (v := ?_) (a' := ?_) #[false, true, false, false, false, false, false, false, false, false, false] rfl rfl (any_of HT_.out (by kernel_rfl)) (fun _ _ _ h => h) (Or.inl ⟨by rfl, ?_⟩) ?_ ?_
        rotate_left
        ·intro w'
         go_simp
         first | with_reducible rfl | (refine (if_neg ?_).trans ?_; (first | omega | (rw [← ByteArray.size_append]; first | omega | (rw [← ByteArray.size_append]; first | omega | (rw [← ByteArray.size_append]; first | omega | (rw [← ByteArray.size_append]; first | omega | (rw [← ByteArray.size_append]; first | omega | (rw [← ByteArray.size_append]; omega))))))); with_reducible rfl)
        rotate_left
        ·simp only [Act.put, List.setIfInBounds_toArray, List.set_cons_zero, List.set_cons_succ, i64_w, i32_w]
         rfl
        refine pure_ (i := 4) (N := some 45) (v := ?_) (a' := ?_) #[false, true, false, false, true, false, false, false, false, false, false] rfl rfl (any_of HT_.out (by kernel_rfl)) (fun _ _ _ h => h) (Or.inl ⟨by rfl, ?_⟩) ?_ ?_
        rotate_left
        ·intro w'
         go_simp
         first | with_reducible rfl | (refine (if_neg ?_).trans ?_; (first | omega | (rw [← ByteArray.size_append]; first | omega | (rw [← ByteArray.size_append]; first | omega | (rw [← ByteArray.size_append]; first | omega | (rw [← ByteArray.size_append]; first | omega | (rw [← ByteArray.size_append]; first | omega | (rw [← ByteArray.size_append]; omega))))))); with_reducible rfl)
        rotate_left
        ·simp only [Act.put, List.setIfInBounds_toArray, List.set_cons_zero, List.set_cons_succ, i64_w, i32_w]
         rfl
        refine take_ (i := 0) (N := some 41) (v := ?_) (a' := ?_) #[true, true, false, false, true, false, false, false, false, false, false] rfl rfl (take_ofW HT_.out HW_.out (by kernel_rfl)) (fun _ _ _ h => h) (Or.inl ⟨by rfl, ?_⟩) hHeld ?_ ?_
        rotate_left
        ·rintro w' ⟨s0, s1, s2, s3, s4, s5⟩
         go_simp
         first | with_reducible rfl | (refine (if_neg ?_).trans ?_; (first | omega | (rw [← ByteArray.size_append]; first | omega | (rw [← ByteArray.size_append]; first | omega | (rw [← ByteArray.size_append]; first | omega | (rw [← ByteArray.size_append]; first | omega | (rw [← ByteArray.size_append]; first | omega | (rw [← ByteArray.size_append]; omega))))))); with_reducible rfl)
        rotate_left
        ·simp only [Act.put, List.setIfInBounds_toArray, List.set_cons_zero, List.set_cons_succ, i64_w, i32_w]
         rfl
        refine take_ (i := 3) (N := some 44) (v := ?_) (a' := ?_) #[true, true, false, true, true, false, false, false, false, false, false] rfl rfl (take_ofW HT_.out HW_.out (by kernel_rfl)) (fun _ _ _ h => h) (Or.inl ⟨by rfl, ?_⟩) hHeld ?_ ?_
        rotate_left
        ·rintro w' ⟨s0, s1, s2, s3, s4, s5⟩
         go_simp
         first | with_reducible rfl | (refine (if_neg ?_).trans ?_; (first | omega | (rw [← ByteArray.size_append]; first | omega | (rw [← ByteArray.size_append]; first | omega | (rw [← ByteArray.size_append]; first | omega | (rw [← ByteArray.size_append]; first | omega | (rw [← ByteArray.size_append]; first | omega | (rw [← ByteArray.size_append]; omega))))))); with_reducible rfl)
        rotate_left
        ·simp only [Act.put, List.setIfInBounds_toArray, List.set_cons_zero, List.set_cons_succ, i64_w, i32_w]
         rfl
        refine one_ (i := 2) (N := some 43) #[true, true, true, true, true, false, false, false, false, false, false] rfl rfl (one_of HT_.out (by kernel_rfl)) (by decide) (fun K hK => ?_)
        refine goes_ Try.func29 (by kernel_rfl) rfl #[.agg #[.string a0_0, .string a0_1, .string a0_2, .int .i64 a0_3, .slice A0_4 l0_4.length c0_4, .slice A0_5 l0_5.length c0_5], .string a1] (by rfl) rfl rfl (by (try simp only [List.map_toArray, List.map_cons, List.map_nil]); first | done | rfl | (simp only [List.length_drop, List.length_take]; rfl)) ?_
        with_reducible refine (object_Defines.calls a0_0 a0_1 a0_2 a0_3 _ _ l0_4 _ _ l0_5 a1 t754 _ ?side1 ?side2 ?side3 ?side4 A28.out).mono ?_
        (case side1 => repeat (first | exact (Kd.C_below HR0_4.out HB.out) | (with_reducible refine Kd.C_alloc ?_ _) | (with_reducible refine Kd.C_drewN ?_ _) | (with_reducible refine Kd.C_drew ?_)))
        (case side2 => exact HC0_4.out)
        (case side3 => repeat (first | exact (Kd.C_below HR0_5.out HB.out) | (with_reducible refine Kd.C_alloc ?_ _) | (with_reducible refine Kd.C_drewN ?_ _) | (with_reducible refine Kd.C_drew ?_)))
        (case side4 => exact HC0_5.out)
        rintro e w33 ⟨rfl, hb⟩
        refine ⟨_, rfl, ?_⟩
        have n0_ := Aside0.mk (Kd.R_below (by (with_reducible repeat (first | apply Kd.R_alloc | apply Kd.R_drewN | apply Kd.R_drew)); exact HO_5.out) hb)
        have n1_ := Aside0.mk (Kd.R_below (by (with_reducible repeat (first | apply Kd.R_alloc | apply Kd.R_drewN | apply Kd.R_drew)); exact HO_6.out) hb)
        have n2_ := Aside0.mk (blk_below (g := gb743) (o := .cells #[.string a0_0, .string a0_1, .string a0_2, .int .i64 a0_3, .slice A0_4 l0_4.length c0_4, .slice A0_5 l0_5.length c0_5] 25 (0, 0)) (by (with_reducible repeat (first | refine blk_drewN ?_ _ | refine blk_drew ?_ | refine blk_alloc ?_ _)); exact BK743.out) hb)
        have n3_ := Aside0.mk (below_step (by repeat (first | (with_reducible first | exact HB.out | apply below_alloc | apply pw_below_drewN | apply below_drew1 | refine below_set ?_ GE743.out) | exact HB.out)) hb)
        clear HO_5 HO_6 BK743 HB
        have HO_5 := n0_; have HO_6 := n1_; have BK743 := n2_; have HB := n3_
        clear n0_ n1_ n2_ n3_
        (try clear hb); (try clear hb2); (try clear hk); (try clear hi)
        refine hK.out _ _ ⟨(blk_cell BK743.out 0).trans rfl, (blk_cell BK743.out 1).trans rfl, (blk_cell BK743.out 2).trans rfl, (blk_cell BK743.out 3).trans rfl, (blk_cell BK743.out 4).trans rfl, (blk_cell BK743.out 5).trans rfl⟩ (fun hHeld => ?_)
        clear hK K
        refine norm_ (a' := ?_) ?_ ?_
        rotate_left
        ·show Act.put _ (some 43) _ = _
         simp only [Act.put, List.setIfInBounds_toArray, List.set_cons_zero, List.set_cons_succ, i64_w, i32_w]
         rfl
        refine one_ (i := 5) (N := some 46) #[true, true, true, true, true, true, false, false, false, false, false] rfl rfl (one_of HT_.out (by kernel_rfl)) (by decide) (fun K hK => ?_)
        refine goes_ Try.func30 (by kernel_rfl) rfl #[.agg #[.string a0_0, .string a0_1, .string a0_2, .int .i64 a0_3, .slice A0_4 l0_4.length c0_4, .slice A0_5 l0_5.length c0_5], .string a1] (by rfl) rfl rfl (by (try simp only [List.map_toArray, List.map_cons, List.map_nil]); first | done | rfl | (simp only [List.length_drop, List.length_take]; rfl)) ?_
        with_reducible refine (emulatorref28_Defines.calls k1 a0_0 a0_1 a0_2 a0_3 _ _ l0_4 _ _ l0_5 a1 t755 _ ?side1 ?side2 ?side3 ?side4 A29.out).mono ?_
        (case side1 => repeat (first | exact (Kd.C_below HR0_4.out HB.out) | (with_reducible refine Kd.C_alloc ?_ _) | (with_reducible refine Kd.C_drewN ?_ _) | (with_reducible refine Kd.C_drew ?_)))
        (case side2 => exact HC0_4.out)
        (case side3 => repeat (first | exact (Kd.C_below HR0_5.out HB.out) | (with_reducible refine Kd.C_alloc ?_ _) | (with_reducible refine Kd.C_drewN ?_ _) | (with_reducible refine Kd.C_drew ?_)))
        (case side4 => exact HC0_5.out)
        rintro e w34 ⟨rfl, hb⟩
        refine ⟨_, rfl, ?_⟩
        have n0_ := Aside0.mk (Kd.R_below (by (with_reducible repeat (first | apply Kd.R_alloc | apply Kd.R_drewN | apply Kd.R_drew)); exact HO_5.out) hb)
        have n1_ := Aside0.mk (Kd.R_below (by (with_reducible repeat (first | apply Kd.R_alloc | apply Kd.R_drewN | apply Kd.R_drew)); exact HO_6.out) hb)
        have n2_ := Aside0.mk (blk_below (g := gb743) (o := .cells #[.string a0_0, .string a0_1, .string a0_2, .int .i64 a0_3, .slice A0_4 l0_4.length c0_4, .slice A0_5 l0_5.length c0_5] 25 (0, 0)) (by (with_reducible repeat (first | refine blk_drewN ?_ _ | refine blk_drew ?_ | refine blk_alloc ?_ _)); exact BK743.out) hb)
        have n3_ := Aside0.mk (below_step (by repeat (first | (with_reducible first | exact HB.out | apply below_alloc | apply pw_below_drewN | apply below_drew1 | refine below_set ?_ GE743.out) | exact HB.out)) hb)
        clear HO_5 HO_6 BK743 HB
        have HO_5 := n0_; have HO_6 := n1_; have BK743 := n2_; have HB := n3_
        clear n0_ n1_ n2_ n3_
        (try clear hb); (try clear hb2); (try clear hk); (try clear hi)
        refine hK.out _ _ ⟨(blk_cell BK743.out 0).trans rfl, (blk_cell BK743.out 1).trans rfl, (blk_cell BK743.out 2).trans rfl, (blk_cell BK743.out 3).trans rfl, (blk_cell BK743.out 4).trans rfl, (blk_cell BK743.out 5).trans rfl⟩ (fun hHeld => ?_)
        clear hK K
        refine norm_ (a' := ?_) ?_ ?_
        rotate_left
        ·show Act.put _ (some 46) _ = _
         simp only [Act.put, List.setIfInBounds_toArray, List.set_cons_zero, List.set_cons_succ, i64_w, i32_w]
         rfl
        refine pure_ (i := 6) (N := some 47) (v := ?_) (a' := ?_) #[true, true, true, true, true, true, true, false, false, false, false] rfl rfl (any_of HT_.out (by kernel_rfl)) (fun _ _ _ h => h) (Or.inl ⟨by rfl, ?_⟩) ?_ ?_
        rotate_left
        ·intro w'
         go_simp
         first | with_reducible rfl | (refine (if_neg ?_).trans ?_; (first | omega | (rw [← ByteArray.size_append]; first | omega | (rw [← ByteArray.size_append]; first | omega | (rw [← ByteArray.size_append]; first | omega | (rw [← ByteArray.size_append]; first | omega | (rw [← ByteArray.size_append]; first | omega | (rw [← ByteArray.size_append]; omega))))))); with_reducible rfl)
        rotate_left
        ·simp only [Act.put, List.setIfInBounds_toArray, List.set_cons_zero, List.set_cons_succ, i64_w, i32_w]
         rfl
        refine pure_ (i := 7) (N := some 48) (v := ?_) (a' := ?_) #[true, true, true, true, true, true, true, true, false, false, false] rfl rfl (any_of HT_.out (by kernel_rfl)) (fun _ _ _ h => h) (Or.inl ⟨by rfl, ?_⟩) ?_ ?_
        rotate_left
        ·intro w'
         go_simp
         first | with_reducible rfl | (refine (if_neg ?_).trans ?_; (first | omega | (rw [← ByteArray.size_append]; first | omega | (rw [← ByteArray.size_append]; first | omega | (rw [← ByteArray.size_append]; first | omega | (rw [← ByteArray.size_append]; first | omega | (rw [← ByteArray.size_append]; first | omega | (rw [← ByteArray.size_append]; omega))))))); with_reducible rfl)
        rotate_left
        ·simp only [Act.put, List.setIfInBounds_toArray, List.set_cons_zero, List.set_cons_succ, i64_w, i32_w]
         rfl
        refine one_ (i := 8) (N := some 49) #[true, true, true, true, true, true, true, true, true, false, false] rfl rfl (one_of HT_.out (by kernel_rfl)) (by decide) (fun K hK => ?_)
        refine goes_ Try.func20 (by kernel_rfl) rfl #[] (by rfl) rfl rfl (by (try simp only [List.map_toArray, List.map_cons, List.map_nil]); first | done | rfl | (simp only [List.length_drop, List.length_take]; rfl)) ?_
        with_reducible refine (emulatorlaw28_alive.calls k1  t756 _ A31.out).mono ?_
        rintro e w35 ⟨rfl, hb⟩
        refine ⟨_, rfl, ?_⟩
        have n0_ := Aside0.mk (Kd.R_below (by (with_reducible repeat (first | apply Kd.R_alloc | apply Kd.R_drewN | apply Kd.R_drew)); exact HO_5.out) hb)
        have n1_ := Aside0.mk (Kd.R_below (by (with_reducible repeat (first | apply Kd.R_alloc | apply Kd.R_drewN | apply Kd.R_drew)); exact HO_6.out) hb)
        have n2_ := Aside0.mk (blk_below (g := gb743) (o := .cells #[.string a0_0, .string a0_1, .string a0_2, .int .i64 a0_3, .slice A0_4 l0_4.length c0_4, .slice A0_5 l0_5.length c0_5] 25 (0, 0)) (by (with_reducible repeat (first | refine blk_drewN ?_ _ | refine blk_drew ?_ | refine blk_alloc ?_ _)); exact BK743.out) hb)
        have n3_ := Aside0.mk (below_step (by repeat (first | (with_reducible first | exact HB.out | apply below_alloc | apply pw_below_drewN | apply below_drew1 | refine below_set ?_ GE743.out) | exact HB.out)) hb)
        clear HO_5 HO_6 BK743 HB
        have HO_5 := n0_; have HO_6 := n1_; have BK743 := n2_; have HB := n3_
        clear n0_ n1_ n2_ n3_
        (try clear hb); (try clear hb2); (try clear hk); (try clear hi)
        refine hK.out _ _ ⟨(blk_cell BK743.out 0).trans rfl, (blk_cell BK743.out 1).trans rfl, (blk_cell BK743.out 2).trans rfl, (blk_cell BK743.out 3).trans rfl, (blk_cell BK743.out 4).trans rfl, (blk_cell BK743.out 5).trans rfl⟩ (fun hHeld => ?_)
        clear hK K
        refine norm_ (a' := ?_) ?_ ?_
        rotate_left
        ·show Act.put _ (some 49) _ = _
         simp only [Act.put, List.setIfInBounds_toArray, List.set_cons_zero, List.set_cons_succ, i64_w, i32_w]
         rfl
        refine pure_ (i := 9) (N := some 50) (v := ?_) (a' := ?_) #[true, true, true, true, true, true, true, true, true, true, false] rfl rfl (any_of HT_.out (by kernel_rfl)) (fun _ _ _ h => h) (Or.inl ⟨by rfl, ?_⟩) ?_ ?_
        rotate_left
        ·intro w'
         go_simp
         first | with_reducible rfl | (refine (if_neg ?_).trans ?_; (first | omega | (rw [← ByteArray.size_append]; first | omega | (rw [← ByteArray.size_append]; first | omega | (rw [← ByteArray.size_append]; first | omega | (rw [← ByteArray.size_append]; first | omega | (rw [← ByteArray.size_append]; first | omega | (rw [← ByteArray.size_append]; omega))))))); with_reducible rfl)
        rotate_left
        ·simp only [Act.put, List.setIfInBounds_toArray, List.set_cons_zero, List.set_cons_succ, i64_w, i32_w]
         rfl
        refine pure_ (i := 10) (N := some 4) (v := ?_) (a' := ?_) #[true, true, true, true, true, true, true, true, true, true, true] rfl rfl (any_of HT_.out (by kernel_rfl)) (fun _ _ _ h => h) (Or.inl ⟨by rfl, ?_⟩) ?_ ?_
        rotate_left
        ·intro w'
         go_simp
         first | with_reducible rfl | (refine (if_neg ?_).trans ?_; (first | omega | (rw [← ByteArray.size_append]; first | omega | (rw [← ByteArray.size_append]; first | omega | (rw [← ByteArray.size_append]; first | omega | (rw [← ByteArray.size_append]; first | omega | (rw [← ByteArray.size_append]; first | omega | (rw [← ByteArray.size_append]; omega))))))); with_reducible rfl)
        rotate_left
        ·simp only [Act.put, List.setIfInBounds_toArray, List.set_cons_zero, List.set_cons_succ, i64_w, i32_w]
         rfl
        refine done_ (done_of HT_.out (by kernel_rfl)) ?_
        try go_wp2
        go_ret
        exact ⟨by first | rfl | (simp [errW_none, errW_some] <;> rfl) | (simp [*, errW_none, errW_some] <;> rfl), by repeat (first | (with_reducible first | exact HB.out | apply below_alloc | apply pw_below_drewN | apply below_drew1 | refine below_set ?_ GE743.out) | exact HB.out)⟩
       ·rw [if_neg c30] at H
        exact absurd H (by simp)
   ·rw [if_neg c13] at H
    exact absurd H (by simp)
 ·replace c4 := Bool.eq_false_iff.mpr c4
  subst c4
  have H1 : ((emulatorlaw28_alive.f k).bind fun t757 => (some t757)) = some r := by rw [if_neg (show ¬ (false = true) by decide)] at H; exact H
  clear H
  have H := H1
  clear H1
  replace H := Option.bind_eq_some_iff.mp H
  obtain ⟨t757, A360, H⟩ := H
  replace H : (some t757) = some r := H
  have A36 := Aside0.mk A360
  clear A360
  obtain rfl := Option.some.inj H
  go_enter Try.func9, Try.ntmps9
  go_wp2_with (first | ((with_reducible refine gate_dst (N := 2) rfl ?_); (try (refine gate_guard (by rfl) ?_; dsimp only)); refine box_event ?hg (N := 2) ?hd (cs := #[.string a0_0, .string a0_1, .string a0_2, .int .i64 a0_3, .slice A0_4 l0_4.length c0_4, .slice A0_5 l0_5.length c0_5]) (t := 25) ?hr ?_; (case hd => rfl); (case hg => rfl); (case hr => first | (go_simp; done) | (go_simp; rfl)); intro gb743 hg w37 hbox hb; have n0_ := Aside0.mk (below_step (by repeat (first | (with_reducible first | exact HB.out | apply below_alloc | apply pw_below_drewN | apply below_drew1) | exact HB.out)) hb); have n1_ := Aside0.mk (hbox); have n2_ := Aside0.mk ((by rw [hg]; exact (below_size (by repeat (first | (with_reducible first | exact HB.out | apply below_alloc | apply pw_below_drewN | apply below_drew1) | exact HB.out))) : w.heap.size ≤ gb743)); have n3_ := Aside0.mk ((by rw [hg]; exact (below_size (by repeat (first | (with_reducible first | exact HB.out | apply below_alloc | apply pw_below_drewN | apply below_drew1) | exact HB.out))) : w.heap.size ≤ gb743)); clear HB; have HB := n0_; have BK743 := n1_; have GW743 := n2_; have GE743 := n3_; clear n0_ n1_ n2_ n3_; clear hb hbox hg; have hcz38_0 : w37.cell? ⟨gb743, 0, none⟩ = some (.string a0_0) := (blk_cell BK743.out 0).trans rfl; have hcz38_1 : w37.cell? ⟨gb743, 1, none⟩ = some (.string a0_1) := (blk_cell BK743.out 1).trans rfl; have hcz38_2 : w37.cell? ⟨gb743, 2, none⟩ = some (.string a0_2) := (blk_cell BK743.out 2).trans rfl; have hcz38_3 : w37.cell? ⟨gb743, 3, none⟩ = some (.int .i64 a0_3) := (blk_cell BK743.out 3).trans rfl; have hcz38_4 : w37.cell? ⟨gb743, 4, none⟩ = some (.slice A0_4 l0_4.length c0_4) := (blk_cell BK743.out 4).trans rfl; have hcz38_5 : w37.cell? ⟨gb743, 5, none⟩ = some (.slice A0_5 l0_5.length c0_5) := (blk_cell BK743.out 5).trans rfl; have hfz38_0 := blk_frozen BK743.out 0; have hfz38_1 := blk_frozen BK743.out 1; have hfz38_2 := blk_frozen BK743.out 2; have hfz38_3 := blk_frozen BK743.out 3; have hfz38_4 := blk_frozen BK743.out 4; have hfz38_5 := blk_frozen BK743.out 5) | ((with_reducible refine gate_callee (f := 17) rfl ?_); refine goesL_ (some 9) rfl rfl Try.func17 (by kernel_rfl) rfl #[.agg #[.string a0_0, .string a0_1, .string a0_2, .int .i64 a0_3, .slice A0_4 l0_4.length c0_4, .slice A0_5 l0_5.length c0_5]] rfl (by (try simp only [List.map_toArray, List.map_cons, List.map_nil]); first | done | rfl | (simp only [List.length_drop, List.length_take]; rfl)) ?_; (with_reducible refine (emulatorlaw28_small.calls k a0_0 a0_1 a0_2 a0_3 _ _ l0_4 _ _ l0_5 false _ ?side1 ?side2 ?side3 ?side4 A3.out).mono ?_); (case side1 => repeat (first | exact (Kd.C_below HR0_4.out HB.out) | (with_reducible refine Kd.C_alloc ?_ _) | (with_reducible refine Kd.C_drewN ?_ _) | (with_reducible refine Kd.C_drew ?_))); (case side2 => exact HC0_4.out); (case side3 => repeat (first | exact (Kd.C_below HR0_5.out HB.out) | (with_reducible refine Kd.C_alloc ?_ _) | (with_reducible refine Kd.C_drewN ?_ _) | (with_reducible refine Kd.C_drew ?_))); (case side4 => exact HC0_5.out); rintro e w39 ⟨rfl, hb⟩; refine ⟨_, rfl, ?_⟩; have n0_ := Aside0.mk (blk_below (g := gb743) (o := .cells #[.string a0_0, .string a0_1, .string a0_2, .int .i64 a0_3, .slice A0_4 l0_4.length c0_4, .slice A0_5 l0_5.length c0_5] 25 (0, 0)) (by (with_reducible repeat (first | refine blk_drewN ?_ _ | refine blk_drew ?_ | refine blk_alloc ?_ _)); exact BK743.out) hb); have n1_ := Aside0.mk (below_step (by repeat (first | (with_reducible first | exact HB.out | apply below_alloc | apply pw_below_drewN | apply below_drew1 | refine below_set ?_ GE743.out) | exact HB.out)) hb); clear BK743 HB; have BK743 := n0_; have HB := n1_; clear n0_ n1_; (try clear hb); (try clear hb2); (try clear hk); (try clear hi)) | ((with_reducible refine gate_callee (f := 20) rfl ?_); refine goesL_ (some 16) rfl rfl Try.func20 (by kernel_rfl) rfl #[] rfl (by (try simp only [List.map_toArray, List.map_cons, List.map_nil]); first | done | rfl | (simp only [List.length_drop, List.length_take]; rfl)) ?_; (with_reducible refine (emulatorlaw28_alive.calls k  t757 _ A36.out).mono ?_); rintro e w40 ⟨rfl, hb⟩; refine ⟨_, rfl, ?_⟩; have n0_ := Aside0.mk (blk_below (g := gb743) (o := .cells #[.string a0_0, .string a0_1, .string a0_2, .int .i64 a0_3, .slice A0_4 l0_4.length c0_4, .slice A0_5 l0_5.length c0_5] 25 (0, 0)) (by (with_reducible repeat (first | refine blk_drewN ?_ _ | refine blk_drew ?_ | refine blk_alloc ?_ _)); exact BK743.out) hb); have n1_ := Aside0.mk (below_step (by repeat (first | (with_reducible first | exact HB.out | apply below_alloc | apply pw_below_drewN | apply below_drew1 | refine below_set ?_ GE743.out) | exact HB.out)) hb); clear BK743 HB; have BK743 := n0_; have HB := n1_; clear n0_ n1_; (try clear hb); (try clear hb2); (try clear hk); (try clear hi)))
  go_ret
  exact ⟨by first | rfl | (simp [errW_none, errW_some] <;> rfl) | (simp [*, errW_none, errW_some] <;> rfl), by repeat (first | (with_reducible first | exact HB.out | apply below_alloc | apply pw_below_drewN | apply below_drew1 | refine below_set ?_ GE743.out) | exact HB.out)⟩

end Go.Proofs.Ytenlmckahaniiaa.K
