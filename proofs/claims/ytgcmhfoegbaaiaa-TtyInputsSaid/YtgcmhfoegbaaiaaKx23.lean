-- Printed by a program of this session out of Lean's print of the translation. Lean checks it.
import Derived.Test.YtgcmhfoegbaaiaaKx0
import Derived.Test.YtgcmhfoegbaaiaaKx4
import Derived.Test.YtgcmhfoegbaaiaaKx7
import Derived.Test.YtgcmhfoegbaaiaaKx11
import Derived.Test.YtgcmhfoegbaaiaaKx17
import Derived.Test.YtgcmhfoegbaaiaaKx18
import Derived.Test.YtgcmhfoegbaaiaaKx22
namespace Go.Proofs.Ytgcmhfoegbaaiaa.K
open Go.RowKit Go.Proofs.YtgcmhfoegbaaiaaW.PrintWords Go.Proofs.YtgcmhfoegbaaiaaW.PrintLast
set_option linter.unusedVariables false
set_option linter.unusedSimpArgs false

/-! ### emulatorlaw43_TtyInputs: function 7 -/
def emulatorlaw43_TtyInputs.f (k : Nat) (a0_0 : Bool) (a0_1 : ByteArray) (l0_2 : List ByteArray) (a0_3 : ByteArray) (a1 : Int) : Option (Bool) := (emulatorlaw43_good.f k a0_0 a0_1 l0_2 a0_3).bind fun t524 => (if t524 = true then ((tty_Input.f k a0_0 a0_1 l0_2 a0_3 a1).bind fun bt525 => ((emulatorref43_Input.f k a0_0 a0_1 l0_2 a0_3 a1).bind fun bt532 => ((emulatorref43_SameTty.f k bt525.1 bt525.2.1 bt525.2.2.1 bt525.2.2.2 bt532.1 bt532.2.1 bt532.2.2.1 bt532.2.2.2).bind fun t538 => (if t538 = true then ((tty_Right.f k bt525.1 bt525.2.1 bt525.2.2.1 bt525.2.2.2).bind fun t539 => (if t539 = true then ((emulatorlaw43_alive.f k).bind fun t540 => (some t540)) else (none))) else (none))))) else ((emulatorlaw43_alive.f k).bind fun t541 => (some t541)))
theorem emulatorlaw43_TtyInputs.mono : ∀ a0 a1 a2 a3 a4 k, LeO (emulatorlaw43_TtyInputs.f k a0 a1 a2 a3 a4) (emulatorlaw43_TtyInputs.f (k + 1) a0 a1 a2 a3 a4) := by
  intro a0 a1 a2 a3 a4 k
  unfold emulatorlaw43_TtyInputs.f
  repeat' first
      | (with_reducible exact emulatorlaw43_alive.mono _)
      | (with_reducible exact emulatorlaw43_good.mono _ _ _ _ _)
      | (with_reducible exact emulatorref43_Input.mono _ _ _ _ _ _)
      | (with_reducible exact emulatorref43_SameTty.mono _ _ _ _ _ _ _ _ _)
      | (with_reducible exact tty_Input.mono _ _ _ _ _ _)
      | (with_reducible exact tty_Right.mono _ _ _ _ _)
      | (with_reducible exact LeO.refl _)
      | (with_reducible exact LeO.none _)
      | (with_reducible refine LeO.ite ?_ ?_)
      | (with_reducible refine LeO.bind ?_ (fun _ => ?_))
      | exact emulatorlaw43_alive.mono _
      | exact emulatorlaw43_good.mono _ _ _ _ _
      | exact emulatorref43_Input.mono _ _ _ _ _ _
      | exact emulatorref43_SameTty.mono _ _ _ _ _ _ _ _ _
      | exact tty_Input.mono _ _ _ _ _ _
      | exact tty_Right.mono _ _ _ _ _
      | exact LeO.none _
      | refine LeO.ite ?_ ?_
      | refine LeO.bind ?_ (fun _ => ?_)
def emulatorlaw43_TtyInputs.T4 : Bool × List (List Nat × List Nat) := (true, [([], []), ([], []), ([], []), ([1, 2], [1, 2]), ([0, 3, 3], [0, 3]), ([4, 4], [4]), ([5], [5]), ([6, 5, 5], [5, 6]), ([5, 7], [5, 7]), ([8, 7], [8]), ([9, 9], [9]), ([9, 10], [9, 10]), ([11, 10, 0, 1, 2, 3, 4, 5, 6, 7, 8, 9, 10, 11], [11])])
def emulatorlaw43_TtyInputs.B4 : List Nat := [0, 0, 0, 6, 15, 31, 63, 127, 255, 511, 1023, 2047, 4095]
theorem emulatorlaw43_TtyInputs.tab4 : rtab .any (opsOf Try.f7 4) = emulatorlaw43_TtyInputs.T4 := by kernel_rfl
theorem emulatorlaw43_TtyInputs.bits4 : waitsOk emulatorlaw43_TtyInputs.T4.2 emulatorlaw43_TtyInputs.B4 = true := by kernel_rfl
set_option maxHeartbeats 8000000 in
set_option maxRecDepth 100000 in
theorem emulatorlaw43_TtyInputs.calls (k : Nat) (a0_0 : Bool) (a0_1 : ByteArray) (A0_2 : Option Addr) (c0_2 : Nat) (l0_2 : List ByteArray) (a0_3 : ByteArray) (a1 : Int) (r : Bool) (w : World) (hr0_2 : Kd.C Kd.string w A0_2 l0_2.length l0_2) (hc0_2 : l0_2.length ≤ c0_2) (h : emulatorlaw43_TtyInputs.f k a0_0 a0_1 l0_2 a0_3 a1 = some r) :
    Calls Try.prog 7 #[.agg #[.bool a0_0, .string a0_1, .slice A0_2 l0_2.length c0_2, .string a0_3], .int .i64 a1] w fun e w' => e = .returned (.bool r) ∧ Below w.heap.size w w' := by
  have hu24 := Try.underlying24
  have HR0_2 := Aside0.mk hr0_2
  have HC0_2 := Aside0.mk hc0_2
  clear hr0_2 hc0_2
  have HB := Aside0.mk (Below.refl w.heap.size w)
  have H : ((emulatorlaw43_good.f k a0_0 a0_1 l0_2 a0_3).bind fun t524 => (if t524 = true then ((tty_Input.f k a0_0 a0_1 l0_2 a0_3 a1).bind fun bt525 => ((emulatorref43_Input.f k a0_0 a0_1 l0_2 a0_3 a1).bind fun bt532 => ((emulatorref43_SameTty.f k bt525.1 bt525.2.1 bt525.2.2.1 bt525.2.2.2 bt532.1 bt532.2.1 bt532.2.2.1 bt532.2.2.2).bind fun t538 => (if t538 = true then ((tty_Right.f k bt525.1 bt525.2.1 bt525.2.2.1 bt525.2.2.2).bind fun t539 => (if t539 = true then ((emulatorlaw43_alive.f k).bind fun t540 => (some t540)) else (none))) else (none))))) else ((emulatorlaw43_alive.f k).bind fun t541 => (some t541)))) = some r := h
  clear h
  replace H := Option.bind_eq_some_iff.mp H
  obtain ⟨t524, A30, H⟩ := H
  replace H : (if t524 = true then ((tty_Input.f k a0_0 a0_1 l0_2 a0_3 a1).bind fun bt525 => ((emulatorref43_Input.f k a0_0 a0_1 l0_2 a0_3 a1).bind fun bt532 => ((emulatorref43_SameTty.f k bt525.1 bt525.2.1 bt525.2.2.1 bt525.2.2.2 bt532.1 bt532.2.1 bt532.2.2.1 bt532.2.2.2).bind fun t538 => (if t538 = true then ((tty_Right.f k bt525.1 bt525.2.1 bt525.2.2.1 bt525.2.2.2).bind fun t539 => (if t539 = true then ((emulatorlaw43_alive.f k).bind fun t540 => (some t540)) else (none))) else (none))))) else ((emulatorlaw43_alive.f k).bind fun t541 => (some t541))) = some r := H
  have A3 := Aside0.mk A30
  clear A30
  by_cases c4 : t524 = true
  · subst c4
    have H1 : ((tty_Input.f k a0_0 a0_1 l0_2 a0_3 a1).bind fun bt525 => ((emulatorref43_Input.f k a0_0 a0_1 l0_2 a0_3 a1).bind fun bt532 => ((emulatorref43_SameTty.f k bt525.1 bt525.2.1 bt525.2.2.1 bt525.2.2.2 bt532.1 bt532.2.1 bt532.2.2.1 bt532.2.2.2).bind fun t538 => (if t538 = true then ((tty_Right.f k bt525.1 bt525.2.1 bt525.2.2.1 bt525.2.2.2).bind fun t539 => (if t539 = true then ((emulatorlaw43_alive.f k).bind fun t540 => (some t540)) else (none))) else (none))))) = some r := by rw [if_pos rfl] at H; exact H
    clear H
    have H := H1
    clear H1
    replace H := Option.bind_eq_some_iff.mp H
    obtain ⟨⟨t525, t526, t527, t530⟩, A50, H⟩ := H
    replace H : ((emulatorref43_Input.f k a0_0 a0_1 l0_2 a0_3 a1).bind fun bt532 => ((emulatorref43_SameTty.f k t525 t526 t527 t530 bt532.1 bt532.2.1 bt532.2.2.1 bt532.2.2.2).bind fun t538 => (if t538 = true then ((tty_Right.f k t525 t526 t527 t530).bind fun t539 => (if t539 = true then ((emulatorlaw43_alive.f k).bind fun t540 => (some t540)) else (none))) else (none)))) = some r := H
    have A5 := Aside0.mk A50
    clear A50
    replace H := Option.bind_eq_some_iff.mp H
    obtain ⟨⟨t532, t533, t534, t537⟩, A60, H⟩ := H
    replace H : ((emulatorref43_SameTty.f k t525 t526 t527 t530 t532 t533 t534 t537).bind fun t538 => (if t538 = true then ((tty_Right.f k t525 t526 t527 t530).bind fun t539 => (if t539 = true then ((emulatorlaw43_alive.f k).bind fun t540 => (some t540)) else (none))) else (none))) = some r := H
    have A6 := Aside0.mk A60
    clear A60
    replace H := Option.bind_eq_some_iff.mp H
    obtain ⟨t538, A70, H⟩ := H
    replace H : (if t538 = true then ((tty_Right.f k t525 t526 t527 t530).bind fun t539 => (if t539 = true then ((emulatorlaw43_alive.f k).bind fun t540 => (some t540)) else (none))) else (none)) = some r := H
    have A7 := Aside0.mk A70
    clear A70
    by_cases c8 : t538 = true
    · subst c8
      have H1 : ((tty_Right.f k t525 t526 t527 t530).bind fun t539 => (if t539 = true then ((emulatorlaw43_alive.f k).bind fun t540 => (some t540)) else (none))) = some r := by rw [if_pos rfl] at H; exact H
      clear H
      have H := H1
      clear H1
      replace H := Option.bind_eq_some_iff.mp H
      obtain ⟨t539, A90, H⟩ := H
      replace H : (if t539 = true then ((emulatorlaw43_alive.f k).bind fun t540 => (some t540)) else (none)) = some r := H
      have A9 := Aside0.mk A90
      clear A90
      by_cases c10 : t539 = true
      · subst c10
        have H1 : ((emulatorlaw43_alive.f k).bind fun t540 => (some t540)) = some r := by rw [if_pos rfl] at H; exact H
        clear H
        have H := H1
        clear H1
        replace H := Option.bind_eq_some_iff.mp H
        obtain ⟨t540, A110, H⟩ := H
        replace H : (some t540) = some r := H
        have A11 := Aside0.mk A110
        clear A110
        obtain rfl := Option.some.inj H
        go_enter Try.func7, Try.ntmps7
        try go_wp2_with (first | ((with_reducible refine gate_dst (N := 2) rfl ?_); refine box_event ?hg (N := 2) ?hd (cs := #[.bool a0_0, .string a0_1, .slice A0_2 l0_2.length c0_2, .string a0_3]) (t := 24) ?hr ?_; (case hd => rfl); (case hg => rfl); (case hr => first | (go_simp; done) | (go_simp; rfl)); intro gb523 hg w12 hbox hb; have n0_ := Aside0.mk (below_step (by repeat (first | (with_reducible first | exact HB.out | apply below_alloc | apply pw_below_drewN | apply below_drew1) | exact HB.out)) hb); have n1_ := Aside0.mk (hbox); have n2_ := Aside0.mk ((by rw [hg]; exact (below_size (by repeat (first | (with_reducible first | exact HB.out | apply below_alloc | apply pw_below_drewN | apply below_drew1) | exact HB.out))) : w.heap.size ≤ gb523)); have n3_ := Aside0.mk ((by rw [hg]; exact (below_size (by repeat (first | (with_reducible first | exact HB.out | apply below_alloc | apply pw_below_drewN | apply below_drew1) | exact HB.out))) : w.heap.size ≤ gb523)); clear HB; have HB := n0_; have BK523 := n1_; have GW523 := n2_; have GE523 := n3_; clear n0_ n1_ n2_ n3_; clear hb hbox hg; have hcz13_0 : w12.cell? ⟨gb523, 0, none⟩ = some (.bool a0_0) := (blk_cell BK523.out 0).trans rfl; have hcz13_1 : w12.cell? ⟨gb523, 1, none⟩ = some (.string a0_1) := (blk_cell BK523.out 1).trans rfl; have hcz13_2 : w12.cell? ⟨gb523, 2, none⟩ = some (.slice A0_2 l0_2.length c0_2) := (blk_cell BK523.out 2).trans rfl; have hcz13_3 : w12.cell? ⟨gb523, 3, none⟩ = some (.string a0_3) := (blk_cell BK523.out 3).trans rfl; have hfz13_0 := blk_frozen BK523.out 0; have hfz13_1 := blk_frozen BK523.out 1; have hfz13_2 := blk_frozen BK523.out 2; have hfz13_3 := blk_frozen BK523.out 3) | ((with_reducible refine gate_callee (f := 10) rfl ?_); refine goesL_ (some 7) rfl rfl Try.func10 (by kernel_rfl) rfl #[.agg #[.bool a0_0, .string a0_1, .slice A0_2 l0_2.length c0_2, .string a0_3]] rfl (by (try simp only [List.map_toArray, List.map_cons, List.map_nil]); first | done | rfl | (simp only [List.length_drop, List.length_take]; rfl)) ?_; (with_reducible refine (emulatorlaw43_good.calls k a0_0 a0_1 _ _ l0_2 a0_3 true _ ?side1 ?side2 A3.out).mono ?_); (case side1 => repeat (first | exact (Kd.C_below HR0_2.out HB.out) | (with_reducible refine Kd.C_alloc ?_ _) | (with_reducible refine Kd.C_drewN ?_ _) | (with_reducible refine Kd.C_drew ?_))); (case side2 => exact HC0_2.out); rintro e w14 ⟨rfl, hb⟩; refine ⟨_, rfl, ?_⟩; have n0_ := Aside0.mk (blk_below (g := gb523) (o := .cells #[.bool a0_0, .string a0_1, .slice A0_2 l0_2.length c0_2, .string a0_3] 24 (0, 0)) (by (with_reducible repeat (first | refine blk_drewN ?_ _ | refine blk_drew ?_ | refine blk_alloc ?_ _)); exact BK523.out) hb); have n1_ := Aside0.mk (below_step (by repeat (first | (with_reducible first | exact HB.out | apply below_alloc | apply pw_below_drewN | apply below_drew1 | refine below_set ?_ GE523.out) | exact HB.out)) hb); clear BK523; clear HB; have BK523 := n0_; have HB := n1_; clear n0_ n1_; (try clear hb); (try clear hb2); (try clear hk); (try clear hi); have hcz15_0 : w14.cell? ⟨gb523, 0, none⟩ = some (.bool a0_0) := (blk_cell BK523.out 0).trans rfl; have hcz15_1 : w14.cell? ⟨gb523, 1, none⟩ = some (.string a0_1) := (blk_cell BK523.out 1).trans rfl; have hcz15_2 : w14.cell? ⟨gb523, 2, none⟩ = some (.slice A0_2 l0_2.length c0_2) := (blk_cell BK523.out 2).trans rfl; have hcz15_3 : w14.cell? ⟨gb523, 3, none⟩ = some (.string a0_3) := (blk_cell BK523.out 3).trans rfl; have hfz15_0 := blk_frozen BK523.out 0; have hfz15_1 := blk_frozen BK523.out 1; have hfz15_2 := blk_frozen BK523.out 2; have hfz15_3 := blk_frozen BK523.out 3) | ((with_reducible refine gate_callee (f := 23) rfl ?_); refine goesL_ (some 12) rfl rfl Try.func23 (by kernel_rfl) rfl #[.agg #[.bool a0_0, .string a0_1, .slice A0_2 l0_2.length c0_2, .string a0_3], .int .i64 a1] rfl (by (try simp only [List.map_toArray, List.map_cons, List.map_nil]); first | done | rfl | (simp only [List.length_drop, List.length_take]; rfl)) ?_; (with_reducible refine (tty_Input.calls k a0_0 a0_1 (fun k_ => k_ < w.heap.size) _ _ l0_2 a0_3 a1 t525 t526 t527 t530 _ ?side1 A5.out).mono ?_); (case side1 => exact Kd.V_mk HC0_2.out (Kd.F_below (Kd.C_F Kd.heap_string HR0_2.out) (by repeat (first | (with_reducible first | exact HB.out | apply below_alloc | apply pw_below_drewN | apply below_drew1 | refine below_set ?_ GE523.out) | exact HB.out)))); rintro e w16 ⟨v528, rfl, ho0, hb⟩; refine ⟨_, rfl, ?_⟩; have n0_ := Aside0.mk (Kd.V_lower (Kd.V_mono (ok' := fun k_ => k_ ≠ gb523) ho0 (fun k_ hk_ => Or.elim hk_ (fun hs_ => fun e_ => Nat.not_le.2 hs_ (by rw [e_]; exact GW523.out)) (fun hn_ => (Kd.freshB (g := gb523) (o := .cells #[.bool a0_0, .string a0_1, .slice A0_2 l0_2.length c0_2, .string a0_3] 24 (0, 0)) (by (with_reducible repeat (first | refine blk_drewN ?_ _ | refine blk_drew ?_ | refine blk_alloc ?_ _)); exact BK523.out) k_ hn_)))) (below_size (by repeat (first | (with_reducible first | exact HB.out | apply below_alloc | apply pw_below_drewN | apply below_drew1 | refine below_set ?_ GE523.out) | exact HB.out)))); have n1_ := Aside0.mk (blk_below (g := gb523) (o := .cells #[.bool a0_0, .string a0_1, .slice A0_2 l0_2.length c0_2, .string a0_3] 24 (0, 0)) (by (with_reducible repeat (first | refine blk_drewN ?_ _ | refine blk_drew ?_ | refine blk_alloc ?_ _)); exact BK523.out) hb); have n2_ := Aside0.mk (below_step (by repeat (first | (with_reducible first | exact HB.out | apply below_alloc | apply pw_below_drewN | apply below_drew1 | refine below_set ?_ GE523.out) | exact HB.out)) hb); clear BK523; clear HB; have HO529 := n0_; have BK523 := n1_; have HB := n2_; clear n0_ n1_ n2_; (try clear hb); (try clear hb2); (try clear hk); (try clear hi); (try clear ho0)) | ((with_reducible refine gate_dst (N := 5) rfl ?_); refine box_event ?hg (N := 5) ?hd (cs := #[.bool false, .string (⟨#[]⟩ : ByteArray), .slice none 0 0, .string (⟨#[]⟩ : ByteArray)]) (t := 24) ?hr ?_; (case hd => rfl); (case hg => rfl); (case hr => first | (go_simp; done) | (go_simp; rfl)); intro gb531 hg w17 hbox hb; have n0_ := Aside0.mk (Kd.V_below (Kd.V_elderB (by (with_reducible repeat (first | apply Kd.V_alloc | apply Kd.V_drewN | apply Kd.V_drew)); exact HO529.out) gb531 (Nat.le_of_eq hg.symm)) hb); have n1_ := Aside0.mk (blk_below (g := gb523) (o := .cells #[.bool a0_0, .string a0_1, .slice A0_2 l0_2.length c0_2, .string a0_3] 24 (0, 0)) (by (with_reducible repeat (first | refine blk_drewN ?_ _ | refine blk_drew ?_ | refine blk_alloc ?_ _)); exact BK523.out) hb); have n2_ := Aside0.mk (below_step (by repeat (first | (with_reducible first | exact HB.out | apply below_alloc | apply pw_below_drewN | apply below_drew1 | refine below_set ?_ GE523.out) | exact HB.out)) hb); have n3_ := Aside0.mk (hbox); have n4_ := Aside0.mk ((by rw [hg]; exact (below_size (by repeat (first | (with_reducible first | exact HB.out | apply below_alloc | apply pw_below_drewN | apply below_drew1 | refine below_set ?_ GE523.out) | exact HB.out))) : w.heap.size ≤ gb531)); have n5_ := Aside0.mk ((by rw [hg]; exact (below_size (by repeat (first | (with_reducible first | exact HB.out | apply below_alloc | apply pw_below_drewN | apply below_drew1 | refine below_set ?_ GE523.out) | exact HB.out))) : w.heap.size ≤ gb531)); have n6_ := Aside0.mk ((by rw [hg]; exact Nat.ne_of_lt (blk_lt (g := gb523) (o := .cells #[.bool a0_0, .string a0_1, .slice A0_2 l0_2.length c0_2, .string a0_3] 24 (0, 0)) (by (with_reducible repeat (first | refine blk_drewN ?_ _ | refine blk_drew ?_ | refine blk_alloc ?_ _)); exact BK523.out)) : gb523 ≠ gb531)); have n7_ := Aside0.mk ((by rw [hg]; exact Nat.ne_of_gt (blk_lt (g := gb523) (o := .cells #[.bool a0_0, .string a0_1, .slice A0_2 l0_2.length c0_2, .string a0_3] 24 (0, 0)) (by (with_reducible repeat (first | refine blk_drewN ?_ _ | refine blk_drew ?_ | refine blk_alloc ?_ _)); exact BK523.out)) : gb531 ≠ gb523)); clear HO529; clear BK523; clear HB; have HO529 := n0_; have BK523 := n1_; have HB := n2_; have BK531 := n3_; have GW531 := n4_; have GE531 := n5_; have NB523_531 := n6_; have NB531_523 := n7_; clear n0_ n1_ n2_ n3_ n4_ n5_ n6_ n7_; clear hb hbox hg; have hnb18 := NB531_523.out; have hnc18 := NB523_531.out; have hcz19_0 : w17.cell? ⟨gb531, 0, none⟩ = some (.bool false) := (blk_cell BK531.out 0).trans rfl; have hcz19_1 : w17.cell? ⟨gb531, 1, none⟩ = some (.string (⟨#[]⟩ : ByteArray)) := (blk_cell BK531.out 1).trans rfl; have hcz19_2 : w17.cell? ⟨gb531, 2, none⟩ = some (.slice none 0 0) := (blk_cell BK531.out 2).trans rfl; have hcz19_3 : w17.cell? ⟨gb531, 3, none⟩ = some (.string (⟨#[]⟩ : ByteArray)) := (blk_cell BK531.out 3).trans rfl; have hfz19_0 := blk_frozen BK531.out 0; have hfz19_1 := blk_frozen BK531.out 1; have hfz19_2 := blk_frozen BK531.out 2; have hfz19_3 := blk_frozen BK531.out 3; obtain ⟨Ao20, co20, eo20⟩ := Kd.V_slice HO529.out; subst eo20))
        have n0_ : Aside0 (Kd.V Kd.string 9 ((((w17.setCell ⟨gb531, 0, none⟩ (.bool t525)).setCell ⟨gb531, 1, none⟩ (.string t526)).setCell ⟨gb531, 2, none⟩ (.slice Ao20 t527.length co20)).setCell ⟨gb531, 3, none⟩ (.string t530)) w.heap.size (fun k_ => k_ ≠ gb523 ∧ k_ ≠ gb531) (.slice Ao20 t527.length co20) t527) := ⟨by (with_reducible repeat (first | apply Kd.V_alloc | apply Kd.V_drewN | apply Kd.V_drew)); exact Kd.V_mono (Kd.V_far (p := ⟨gb531, 3, none⟩) (Kd.V_far (p := ⟨gb531, 2, none⟩) (Kd.V_far (p := ⟨gb531, 1, none⟩) (Kd.V_far (p := ⟨gb531, 0, none⟩) (Kd.V_mono HO529.out (fun k_ hk => (⟨hk, hk.2⟩ : _ ∧ k_ ≠ gb531))) (fun _ hk => hk.2) (.bool t525)) (fun _ hk => hk.2) (.string t526)) (fun _ hk => hk.2) (.slice Ao20 t527.length co20)) (fun _ hk => hk.2) (.string t530)) (fun _ hk => ⟨hk.1.1, hk.1.2⟩)⟩
        have n1_ : Aside0 (((((w17.setCell ⟨gb531, 0, none⟩ (.bool t525)).setCell ⟨gb531, 1, none⟩ (.string t526)).setCell ⟨gb531, 2, none⟩ (.slice Ao20 t527.length co20)).setCell ⟨gb531, 3, none⟩ (.string t530)).heap[gb523]? = some (.cells #[.bool a0_0, .string a0_1, .slice A0_2 l0_2.length c0_2, .string a0_3] 24 (0, 0))) := ⟨by (with_reducible repeat (first | refine blk_drewN ?_ _ | refine blk_drew ?_ | refine blk_alloc ?_ _)); refine blk_far ?_ NB523_531.out _; (with_reducible repeat (first | refine blk_drewN ?_ _ | refine blk_drew ?_ | refine blk_alloc ?_ _)); refine blk_far ?_ NB523_531.out _; (with_reducible repeat (first | refine blk_drewN ?_ _ | refine blk_drew ?_ | refine blk_alloc ?_ _)); refine blk_far ?_ NB523_531.out _; (with_reducible repeat (first | refine blk_drewN ?_ _ | refine blk_drew ?_ | refine blk_alloc ?_ _)); refine blk_far ?_ NB523_531.out _; (with_reducible repeat (first | refine blk_drewN ?_ _ | refine blk_drew ?_ | refine blk_alloc ?_ _)); exact BK523.out⟩
        have n2_ : Aside0 (((((w17.setCell ⟨gb531, 0, none⟩ (.bool t525)).setCell ⟨gb531, 1, none⟩ (.string t526)).setCell ⟨gb531, 2, none⟩ (.slice Ao20 t527.length co20)).setCell ⟨gb531, 3, none⟩ (.string t530)).heap[gb531]? = some (.cells #[.bool t525, .string t526, .slice Ao20 t527.length co20, .string t530] 24 (0, 0))) := ⟨by (with_reducible repeat (first | refine blk_drewN ?_ _ | refine blk_drew ?_ | refine blk_alloc ?_ _)); refine blk_put (cs := #[.bool t525, .string t526, .slice Ao20 t527.length co20, .string (⟨#[]⟩ : ByteArray)]) ?_ 3 _ rfl; (with_reducible repeat (first | refine blk_drewN ?_ _ | refine blk_drew ?_ | refine blk_alloc ?_ _)); refine blk_put (cs := #[.bool t525, .string t526, .slice none 0 0, .string (⟨#[]⟩ : ByteArray)]) ?_ 2 _ rfl; (with_reducible repeat (first | refine blk_drewN ?_ _ | refine blk_drew ?_ | refine blk_alloc ?_ _)); refine blk_put (cs := #[.bool t525, .string (⟨#[]⟩ : ByteArray), .slice none 0 0, .string (⟨#[]⟩ : ByteArray)]) ?_ 1 _ rfl; (with_reducible repeat (first | refine blk_drewN ?_ _ | refine blk_drew ?_ | refine blk_alloc ?_ _)); refine blk_put (cs := #[.bool false, .string (⟨#[]⟩ : ByteArray), .slice none 0 0, .string (⟨#[]⟩ : ByteArray)]) ?_ 0 _ rfl; (with_reducible repeat (first | refine blk_drewN ?_ _ | refine blk_drew ?_ | refine blk_alloc ?_ _)); exact BK531.out⟩
        have n3_ : Aside0 (Below w.heap.size w ((((w17.setCell ⟨gb531, 0, none⟩ (.bool t525)).setCell ⟨gb531, 1, none⟩ (.string t526)).setCell ⟨gb531, 2, none⟩ (.slice Ao20 t527.length co20)).setCell ⟨gb531, 3, none⟩ (.string t530))) := ⟨by repeat (first | (with_reducible first | exact HB.out | apply below_alloc | apply pw_below_drewN | apply below_drew1 | refine below_set ?_ GE523.out | refine below_set ?_ GE531.out) | exact HB.out)⟩
        (try clear HO529)
        (try clear BK523)
        (try clear BK531)
        (try clear HB)
        (try (have hck_w21 : (((((w17.setCell ⟨gb531, 0, none⟩ (.bool t525)).setCell ⟨gb531, 1, none⟩ (.string t526)).setCell ⟨gb531, 2, none⟩ (.slice Ao20 t527.length co20)).setCell ⟨gb531, 3, none⟩ (.string t530))).cell? ⟨gb531, 3, none⟩ = some (.string t530) := World.cell?_setCell_same _ _ _ (by assumption)))
        (first | generalize ((((w17.setCell ⟨gb531, 0, none⟩ (.bool t525)).setCell ⟨gb531, 1, none⟩ (.string t526)).setCell ⟨gb531, 2, none⟩ (.slice Ao20 t527.length co20)).setCell ⟨gb531, 3, none⟩ (.string t530)) = w21 at n0_ n1_ n2_ n3_ hck_w21 ⊢ | generalize ((((w17.setCell ⟨gb531, 0, none⟩ (.bool t525)).setCell ⟨gb531, 1, none⟩ (.string t526)).setCell ⟨gb531, 2, none⟩ (.slice Ao20 t527.length co20)).setCell ⟨gb531, 3, none⟩ (.string t530)) = w21 at n0_ n1_ n2_ n3_ ⊢)
        have HO529 := n0_
        have BK523 := n1_
        have BK531 := n2_
        have HB := n3_
        clear n0_ n1_ n2_ n3_
        have n0_ := Aside0.mk (Kd.V_drew HO529.out)
        have n1_ := Aside0.mk (blk_drew BK523.out)
        have n2_ := Aside0.mk (blk_drew BK531.out)
        have n3_ := Aside0.mk (below_drew1 HB.out)
        clear HO529
        clear BK523
        clear BK531
        clear HB
        have HO529 := n0_
        have BK523 := n1_
        have BK531 := n2_
        have HB := n3_
        clear n0_ n1_ n2_ n3_
        refine start_ (n := 13) (S := fun w' => w'.cell? ⟨gb531, 0, none⟩ = some (.bool t525) ∧ w'.cell? ⟨gb531, 1, none⟩ = some (.string t526) ∧ w'.cell? ⟨gb531, 2, none⟩ = some (.slice Ao20 t527.length co20) ∧ w'.cell? ⟨gb531, 3, none⟩ = some (.string t530) ∧ w'.cell? ⟨gb523, 0, none⟩ = some (.bool a0_0) ∧ w'.cell? ⟨gb523, 1, none⟩ = some (.string a0_1) ∧ w'.cell? ⟨gb523, 2, none⟩ = some (.slice A0_2 l0_2.length c0_2) ∧ w'.cell? ⟨gb523, 3, none⟩ = some (.string a0_3)) (ds := []) #[false, false, false, false, false, false, false, false, false, false, false, false, false] (by kernel_rfl) rfl rfl ⟨(blk_cell BK531.out 0).trans rfl, (blk_cell BK531.out 1).trans rfl, (blk_cell BK531.out 2).trans rfl, (blk_cell BK531.out 3).trans rfl, (blk_cell BK523.out 0).trans rfl, (blk_cell BK523.out 1).trans rfl, (blk_cell BK523.out 2).trans rfl, (blk_cell BK523.out 3).trans rfl⟩ (fun hHeld => ?_); refine with_tabW emulatorlaw43_TtyInputs.tab4 emulatorlaw43_TtyInputs.bits4 (fun HT_ HW_ => ?_)
        generalize w21.drew = w22 at HO529 BK523 BK531 HB hHeld ⊢
        refine pure_ (i := 2) (N := some 15) (v := ?_) (a' := ?_) #[false, false, true, false, false, false, false, false, false, false, false, false, false] rfl rfl (any_of HT_.out (by kernel_rfl)) (fun _ _ _ h => h) (Or.inl ⟨by rfl, ?_⟩) ?_ ?_
        rotate_left
        · intro w'
          go_simp
          with_reducible rfl
        rotate_left
        · simp only [Act.put, List.setIfInBounds_toArray, List.set_cons_zero, List.set_cons_succ, i64_w, i32_w]
          rfl
        refine take_ (i := 0) (N := some 13) (v := ?_) (a' := ?_) #[true, false, true, false, false, false, false, false, false, false, false, false, false] rfl rfl (take_ofW HT_.out HW_.out (by kernel_rfl)) (fun _ _ _ h => h) (Or.inl ⟨by rfl, ?_⟩) hHeld ?_ ?_
        rotate_left
        · rintro w' ⟨s0, s1, s2, s3, s4, s5, s6, s7⟩
          go_simp
          with_reducible rfl
        rotate_left
        · simp only [Act.put, List.setIfInBounds_toArray, List.set_cons_zero, List.set_cons_succ, i64_w, i32_w]
          rfl
        refine take_ (i := 1) (N := some 14) (v := ?_) (a' := ?_) #[true, true, true, false, false, false, false, false, false, false, false, false, false] rfl rfl (take_ofW HT_.out HW_.out (by kernel_rfl)) (fun _ _ _ h => h) (Or.inl ⟨by rfl, ?_⟩) hHeld ?_ ?_
        rotate_left
        · rintro w' ⟨s0, s1, s2, s3, s4, s5, s6, s7⟩
          go_simp
          with_reducible rfl
        rotate_left
        · simp only [Act.put, List.setIfInBounds_toArray, List.set_cons_zero, List.set_cons_succ, i64_w, i32_w]
          rfl
        refine one_ (i := 3) (N := some 16) #[true, true, true, true, false, false, false, false, false, false, false, false, false] rfl rfl (one_of HT_.out (by kernel_rfl)) (by decide) (fun K hK => ?_)
        refine goes_ Try.func24 (by kernel_rfl) rfl #[.agg #[.bool a0_0, .string a0_1, .slice A0_2 l0_2.length c0_2, .string a0_3], .int .i64 a1] (by rfl) rfl rfl (by (try simp only [List.map_toArray, List.map_cons, List.map_nil]); first | done | rfl | (simp only [List.length_drop, List.length_take]; rfl)) ?_
        with_reducible refine (emulatorref43_Input.calls k a0_0 a0_1 (fun k_ => k_ < w.heap.size) _ _ l0_2 a0_3 a1 t532 t533 t534 t537 _ ?side1 A6.out).mono ?_
        (case side1 => exact Kd.V_mk HC0_2.out (Kd.F_below (Kd.C_F Kd.heap_string HR0_2.out) (by repeat (first | (with_reducible first | exact HB.out | apply below_alloc | apply pw_below_drewN | apply below_drew1 | refine below_set ?_ GE523.out | refine below_set ?_ GE531.out) | exact HB.out))))
        rintro e w23 ⟨v535, rfl, ho0, hb⟩
        refine ⟨_, rfl, ?_⟩
        have n0_ := Aside0.mk (Kd.V_below (by (with_reducible repeat (first | apply Kd.V_alloc | apply Kd.V_drewN | apply Kd.V_drew)); exact HO529.out) hb)
        have n1_ := Aside0.mk (Kd.V_lower (Kd.V_mono (ok' := fun k_ => k_ ≠ gb523 ∧ k_ ≠ gb531) ho0 (fun k_ hk_ => ⟨Or.elim hk_ (fun hs_ => fun e_ => Nat.not_le.2 hs_ (by rw [e_]; exact GW523.out)) (fun hn_ => (Kd.freshB (g := gb523) (o := .cells #[.bool a0_0, .string a0_1, .slice A0_2 l0_2.length c0_2, .string a0_3] 24 (0, 0)) (by (with_reducible repeat (first | refine blk_drewN ?_ _ | refine blk_drew ?_ | refine blk_alloc ?_ _)); exact BK523.out) k_ hn_)), Or.elim hk_ (fun hs_ => fun e_ => Nat.not_le.2 hs_ (by rw [e_]; exact GW531.out)) (fun hn_ => (Kd.freshB (g := gb531) (o := .cells #[.bool t525, .string t526, .slice Ao20 t527.length co20, .string t530] 24 (0, 0)) (by (with_reducible repeat (first | refine blk_drewN ?_ _ | refine blk_drew ?_ | refine blk_alloc ?_ _)); exact BK531.out) k_ hn_))⟩)) (below_size (by repeat (first | (with_reducible first | exact HB.out | apply below_alloc | apply pw_below_drewN | apply below_drew1 | refine below_set ?_ GE523.out | refine below_set ?_ GE531.out) | exact HB.out))))
        have n2_ := Aside0.mk (blk_below (g := gb523) (o := .cells #[.bool a0_0, .string a0_1, .slice A0_2 l0_2.length c0_2, .string a0_3] 24 (0, 0)) (by (with_reducible repeat (first | refine blk_drewN ?_ _ | refine blk_drew ?_ | refine blk_alloc ?_ _)); exact BK523.out) hb)
        have n3_ := Aside0.mk (blk_below (g := gb531) (o := .cells #[.bool t525, .string t526, .slice Ao20 t527.length co20, .string t530] 24 (0, 0)) (by (with_reducible repeat (first | refine blk_drewN ?_ _ | refine blk_drew ?_ | refine blk_alloc ?_ _)); exact BK531.out) hb)
        have n4_ := Aside0.mk (below_step (by repeat (first | (with_reducible first | exact HB.out | apply below_alloc | apply pw_below_drewN | apply below_drew1 | refine below_set ?_ GE523.out | refine below_set ?_ GE531.out) | exact HB.out)) hb)
        clear HO529
        clear BK523
        clear BK531
        clear HB
        have HO529 := n0_
        have HO536 := n1_
        have BK523 := n2_
        have BK531 := n3_
        have HB := n4_
        clear n0_ n1_ n2_ n3_ n4_
        (try clear hb)
        (try clear hb2)
        (try clear hk)
        (try clear hi)
        (try clear ho0)
        obtain ⟨Ao24, co24, eo24⟩ := Kd.V_slice HO536.out
        (first | subst eo24 | (injection eo24 with f1_ f2_ f3_; have f4_ := f1_.symm; have f5_ := f3_.symm; clear f1_ f2_ f3_; subst f4_; subst f5_))
        refine hK.out _ _ ⟨(blk_cell BK531.out 0).trans rfl, (blk_cell BK531.out 1).trans rfl, (blk_cell BK531.out 2).trans rfl, (blk_cell BK531.out 3).trans rfl, (blk_cell BK523.out 0).trans rfl, (blk_cell BK523.out 1).trans rfl, (blk_cell BK523.out 2).trans rfl, (blk_cell BK523.out 3).trans rfl⟩ (fun hHeld => ?_)
        clear hK K
        refine norm_ (a' := ?_) ?_ ?_
        rotate_left
        · show Act.put _ (some 16) _ = _
          simp only [Act.put, List.setIfInBounds_toArray, List.set_cons_zero, List.set_cons_succ, i64_w, i32_w]
          rfl
        refine one_ (i := 4) (N := some 17) #[true, true, true, true, true, false, false, false, false, false, false, false, false] rfl rfl (one_of HT_.out (by kernel_rfl)) (by decide) (fun K hK => ?_)
        refine goes_ Try.func21 (by kernel_rfl) rfl #[.agg #[.bool t525, .string t526, .slice Ao20 t527.length co20, .string t530], .agg #[.bool t532, .string t533, .slice Ao24 t534.length co24, .string t537]] (by rfl) rfl rfl (by (try simp only [List.map_toArray, List.map_cons, List.map_nil]); first | done | rfl | (simp only [List.length_drop, List.length_take]; rfl)) ?_
        with_reducible refine (emulatorref43_SameTty.calls k t525 t526 _ _ t527 t530 t532 t533 _ _ t534 t537 true _ ?side1 ?side2 ?side3 ?side4 A7.out).mono ?_
        (case side1 => repeat (first | exact (Kd.V_reads' HO529.out).2.2 | (with_reducible refine Kd.C_alloc ?_ _) | (with_reducible refine Kd.C_drewN ?_ _) | (with_reducible refine Kd.C_drew ?_)))
        (case side2 => exact (Kd.V_reads' HO529.out).2.1)
        (case side3 => repeat (first | exact (Kd.V_reads' HO536.out).2.2 | (with_reducible refine Kd.C_alloc ?_ _) | (with_reducible refine Kd.C_drewN ?_ _) | (with_reducible refine Kd.C_drew ?_)))
        (case side4 => exact (Kd.V_reads' HO536.out).2.1)
        rintro e w25 ⟨rfl, hb⟩
        refine ⟨_, rfl, ?_⟩
        have n0_ := Aside0.mk (Kd.V_below (by (with_reducible repeat (first | apply Kd.V_alloc | apply Kd.V_drewN | apply Kd.V_drew)); exact HO529.out) hb)
        have n1_ := Aside0.mk (Kd.V_below (by (with_reducible repeat (first | apply Kd.V_alloc | apply Kd.V_drewN | apply Kd.V_drew)); exact HO536.out) hb)
        have n2_ := Aside0.mk (blk_below (g := gb523) (o := .cells #[.bool a0_0, .string a0_1, .slice A0_2 l0_2.length c0_2, .string a0_3] 24 (0, 0)) (by (with_reducible repeat (first | refine blk_drewN ?_ _ | refine blk_drew ?_ | refine blk_alloc ?_ _)); exact BK523.out) hb)
        have n3_ := Aside0.mk (blk_below (g := gb531) (o := .cells #[.bool t525, .string t526, .slice Ao20 t527.length co20, .string t530] 24 (0, 0)) (by (with_reducible repeat (first | refine blk_drewN ?_ _ | refine blk_drew ?_ | refine blk_alloc ?_ _)); exact BK531.out) hb)
        have n4_ := Aside0.mk (below_step (by repeat (first | (with_reducible first | exact HB.out | apply below_alloc | apply pw_below_drewN | apply below_drew1 | refine below_set ?_ GE523.out | refine below_set ?_ GE531.out) | exact HB.out)) hb)
        clear HO529
        clear HO536
        clear BK523
        clear BK531
        clear HB
        have HO529 := n0_
        have HO536 := n1_
        have BK523 := n2_
        have BK531 := n3_
        have HB := n4_
        clear n0_ n1_ n2_ n3_ n4_
        (try clear hb)
        (try clear hb2)
        (try clear hk)
        (try clear hi)
        refine hK.out _ _ ⟨(blk_cell BK531.out 0).trans rfl, (blk_cell BK531.out 1).trans rfl, (blk_cell BK531.out 2).trans rfl, (blk_cell BK531.out 3).trans rfl, (blk_cell BK523.out 0).trans rfl, (blk_cell BK523.out 1).trans rfl, (blk_cell BK523.out 2).trans rfl, (blk_cell BK523.out 3).trans rfl⟩ (fun hHeld => ?_)
        clear hK K
        refine norm_ (a' := ?_) ?_ ?_
        rotate_left
        · show Act.put _ (some 17) _ = _
          simp only [Act.put, List.setIfInBounds_toArray, List.set_cons_zero, List.set_cons_succ, i64_w, i32_w]
          rfl
        refine pure_ (i := 5) (N := some 18) (v := ?_) (a' := ?_) #[true, true, true, true, true, true, false, false, false, false, false, false, false] rfl rfl (any_of HT_.out (by kernel_rfl)) (fun _ _ _ h => h) (Or.inl ⟨by rfl, ?_⟩) ?_ ?_
        rotate_left
        · intro w'
          go_simp
          with_reducible rfl
        rotate_left
        · simp only [Act.put, List.setIfInBounds_toArray, List.set_cons_zero, List.set_cons_succ, i64_w, i32_w]
          rfl
        refine take_ (i := 6) (N := some 19) (v := ?_) (a' := ?_) #[true, true, true, true, true, true, true, false, false, false, false, false, false] rfl rfl (take_ofW HT_.out HW_.out (by kernel_rfl)) (fun _ _ _ h => h) (Or.inl ⟨by rfl, ?_⟩) hHeld ?_ ?_
        rotate_left
        · rintro w' ⟨s0, s1, s2, s3, s4, s5, s6, s7⟩
          go_simp
          with_reducible rfl
        rotate_left
        · simp only [Act.put, List.setIfInBounds_toArray, List.set_cons_zero, List.set_cons_succ, i64_w, i32_w]
          rfl
        refine one_ (i := 7) (N := some 20) #[true, true, true, true, true, true, true, true, false, false, false, false, false] rfl rfl (one_of HT_.out (by kernel_rfl)) (by decide) (fun K hK => ?_)
        refine goes_ Try.func19 (by kernel_rfl) rfl #[.agg #[.bool t525, .string t526, .slice Ao20 t527.length co20, .string t530]] (by rfl) rfl rfl (by (try simp only [List.map_toArray, List.map_cons, List.map_nil]); first | done | rfl | (simp only [List.length_drop, List.length_take]; rfl)) ?_
        with_reducible refine (tty_Right.calls k t525 t526 _ _ t527 t530 true _ ?side1 ?side2 A9.out).mono ?_
        (case side1 => repeat (first | exact (Kd.V_reads' HO529.out).2.2 | (with_reducible refine Kd.C_alloc ?_ _) | (with_reducible refine Kd.C_drewN ?_ _) | (with_reducible refine Kd.C_drew ?_)))
        (case side2 => exact (Kd.V_reads' HO529.out).2.1)
        rintro e w26 ⟨rfl, hb⟩
        refine ⟨_, rfl, ?_⟩
        have n0_ := Aside0.mk (Kd.V_below (by (with_reducible repeat (first | apply Kd.V_alloc | apply Kd.V_drewN | apply Kd.V_drew)); exact HO529.out) hb)
        have n1_ := Aside0.mk (Kd.V_below (by (with_reducible repeat (first | apply Kd.V_alloc | apply Kd.V_drewN | apply Kd.V_drew)); exact HO536.out) hb)
        have n2_ := Aside0.mk (blk_below (g := gb523) (o := .cells #[.bool a0_0, .string a0_1, .slice A0_2 l0_2.length c0_2, .string a0_3] 24 (0, 0)) (by (with_reducible repeat (first | refine blk_drewN ?_ _ | refine blk_drew ?_ | refine blk_alloc ?_ _)); exact BK523.out) hb)
        have n3_ := Aside0.mk (blk_below (g := gb531) (o := .cells #[.bool t525, .string t526, .slice Ao20 t527.length co20, .string t530] 24 (0, 0)) (by (with_reducible repeat (first | refine blk_drewN ?_ _ | refine blk_drew ?_ | refine blk_alloc ?_ _)); exact BK531.out) hb)
        have n4_ := Aside0.mk (below_step (by repeat (first | (with_reducible first | exact HB.out | apply below_alloc | apply pw_below_drewN | apply below_drew1 | refine below_set ?_ GE523.out | refine below_set ?_ GE531.out) | exact HB.out)) hb)
        clear HO529
        clear HO536
        clear BK523
        clear BK531
        clear HB
        have HO529 := n0_
        have HO536 := n1_
        have BK523 := n2_
        have BK531 := n3_
        have HB := n4_
        clear n0_ n1_ n2_ n3_ n4_
        (try clear hb)
        (try clear hb2)
        (try clear hk)
        (try clear hi)
        refine hK.out _ _ ⟨(blk_cell BK531.out 0).trans rfl, (blk_cell BK531.out 1).trans rfl, (blk_cell BK531.out 2).trans rfl, (blk_cell BK531.out 3).trans rfl, (blk_cell BK523.out 0).trans rfl, (blk_cell BK523.out 1).trans rfl, (blk_cell BK523.out 2).trans rfl, (blk_cell BK523.out 3).trans rfl⟩ (fun hHeld => ?_)
        clear hK K
        refine norm_ (a' := ?_) ?_ ?_
        rotate_left
        · show Act.put _ (some 20) _ = _
          simp only [Act.put, List.setIfInBounds_toArray, List.set_cons_zero, List.set_cons_succ, i64_w, i32_w]
          rfl
        refine pure_ (i := 8) (N := some 21) (v := ?_) (a' := ?_) #[true, true, true, true, true, true, true, true, true, false, false, false, false] rfl rfl (any_of HT_.out (by kernel_rfl)) (fun _ _ _ h => h) (Or.inl ⟨by rfl, ?_⟩) ?_ ?_
        rotate_left
        · intro w'
          go_simp
          with_reducible rfl
        rotate_left
        · simp only [Act.put, List.setIfInBounds_toArray, List.set_cons_zero, List.set_cons_succ, i64_w, i32_w]
          rfl
        refine pure_ (i := 9) (N := some 22) (v := ?_) (a' := ?_) #[true, true, true, true, true, true, true, true, true, true, false, false, false] rfl rfl (any_of HT_.out (by kernel_rfl)) (fun _ _ _ h => h) (Or.inl ⟨by rfl, ?_⟩) ?_ ?_
        rotate_left
        · intro w'
          go_simp
          with_reducible rfl
        rotate_left
        · simp only [Act.put, List.setIfInBounds_toArray, List.set_cons_zero, List.set_cons_succ, i64_w, i32_w]
          rfl
        refine one_ (i := 10) (N := some 23) #[true, true, true, true, true, true, true, true, true, true, true, false, false] rfl rfl (one_of HT_.out (by kernel_rfl)) (by decide) (fun K hK => ?_)
        refine goes_ Try.func11 (by kernel_rfl) rfl #[] (by rfl) rfl rfl (by (try simp only [List.map_toArray, List.map_cons, List.map_nil]); first | done | rfl | (simp only [List.length_drop, List.length_take]; rfl)) ?_
        with_reducible refine (emulatorlaw43_alive.calls k  t540 _ A11.out).mono ?_
        rintro e w27 ⟨rfl, hb⟩
        refine ⟨_, rfl, ?_⟩
        have n0_ := Aside0.mk (Kd.V_below (by (with_reducible repeat (first | apply Kd.V_alloc | apply Kd.V_drewN | apply Kd.V_drew)); exact HO529.out) hb)
        have n1_ := Aside0.mk (Kd.V_below (by (with_reducible repeat (first | apply Kd.V_alloc | apply Kd.V_drewN | apply Kd.V_drew)); exact HO536.out) hb)
        have n2_ := Aside0.mk (blk_below (g := gb523) (o := .cells #[.bool a0_0, .string a0_1, .slice A0_2 l0_2.length c0_2, .string a0_3] 24 (0, 0)) (by (with_reducible repeat (first | refine blk_drewN ?_ _ | refine blk_drew ?_ | refine blk_alloc ?_ _)); exact BK523.out) hb)
        have n3_ := Aside0.mk (blk_below (g := gb531) (o := .cells #[.bool t525, .string t526, .slice Ao20 t527.length co20, .string t530] 24 (0, 0)) (by (with_reducible repeat (first | refine blk_drewN ?_ _ | refine blk_drew ?_ | refine blk_alloc ?_ _)); exact BK531.out) hb)
        have n4_ := Aside0.mk (below_step (by repeat (first | (with_reducible first | exact HB.out | apply below_alloc | apply pw_below_drewN | apply below_drew1 | refine below_set ?_ GE523.out | refine below_set ?_ GE531.out) | exact HB.out)) hb)
        clear HO529
        clear HO536
        clear BK523
        clear BK531
        clear HB
        have HO529 := n0_
        have HO536 := n1_
        have BK523 := n2_
        have BK531 := n3_
        have HB := n4_
        clear n0_ n1_ n2_ n3_ n4_
        (try clear hb)
        (try clear hb2)
        (try clear hk)
        (try clear hi)
        refine hK.out _ _ ⟨(blk_cell BK531.out 0).trans rfl, (blk_cell BK531.out 1).trans rfl, (blk_cell BK531.out 2).trans rfl, (blk_cell BK531.out 3).trans rfl, (blk_cell BK523.out 0).trans rfl, (blk_cell BK523.out 1).trans rfl, (blk_cell BK523.out 2).trans rfl, (blk_cell BK523.out 3).trans rfl⟩ (fun hHeld => ?_)
        clear hK K
        refine norm_ (a' := ?_) ?_ ?_
        rotate_left
        · show Act.put _ (some 23) _ = _
          simp only [Act.put, List.setIfInBounds_toArray, List.set_cons_zero, List.set_cons_succ, i64_w, i32_w]
          rfl
        refine pure_ (i := 11) (N := some 24) (v := ?_) (a' := ?_) #[true, true, true, true, true, true, true, true, true, true, true, true, false] rfl rfl (any_of HT_.out (by kernel_rfl)) (fun _ _ _ h => h) (Or.inl ⟨by rfl, ?_⟩) ?_ ?_
        rotate_left
        · intro w'
          go_simp
          with_reducible rfl
        rotate_left
        · simp only [Act.put, List.setIfInBounds_toArray, List.set_cons_zero, List.set_cons_succ, i64_w, i32_w]
          rfl
        refine pure_ (i := 12) (N := some 4) (v := ?_) (a' := ?_) #[true, true, true, true, true, true, true, true, true, true, true, true, true] rfl rfl (any_of HT_.out (by kernel_rfl)) (fun _ _ _ h => h) (Or.inl ⟨by rfl, ?_⟩) ?_ ?_
        rotate_left
        · intro w'
          go_simp
          with_reducible rfl
        rotate_left
        · simp only [Act.put, List.setIfInBounds_toArray, List.set_cons_zero, List.set_cons_succ, i64_w, i32_w]
          rfl
        refine done_ (done_of HT_.out (by kernel_rfl)) ?_
        try go_wp2
        go_ret
        exact ⟨by first | rfl | (simp [errW_none, errW_some] <;> rfl) | (simp [*, errW_none, errW_some] <;> rfl), by repeat (first | (with_reducible first | exact HB.out | apply below_alloc | apply pw_below_drewN | apply below_drew1 | refine below_set ?_ GE523.out | refine below_set ?_ GE531.out) | exact HB.out)⟩
      · replace c10 := Bool.eq_false_iff.mpr c10
        subst c10
        have H1 : (none) = some r := by rw [if_neg (show ¬ (false = true) by decide)] at H; exact H
        clear H
        have H := H1
        clear H1
        exact absurd H (by simp)
    · replace c8 := Bool.eq_false_iff.mpr c8
      subst c8
      have H1 : (none) = some r := by rw [if_neg (show ¬ (false = true) by decide)] at H; exact H
      clear H
      have H := H1
      clear H1
      exact absurd H (by simp)
  · replace c4 := Bool.eq_false_iff.mpr c4
    subst c4
    have H1 : ((emulatorlaw43_alive.f k).bind fun t541 => (some t541)) = some r := by rw [if_neg (show ¬ (false = true) by decide)] at H; exact H
    clear H
    have H := H1
    clear H1
    replace H := Option.bind_eq_some_iff.mp H
    obtain ⟨t541, A280, H⟩ := H
    replace H : (some t541) = some r := H
    have A28 := Aside0.mk A280
    clear A280
    obtain rfl := Option.some.inj H
    go_enter Try.func7, Try.ntmps7
    go_wp2_with (first | ((with_reducible refine gate_dst (N := 2) rfl ?_); refine box_event ?hg (N := 2) ?hd (cs := #[.bool a0_0, .string a0_1, .slice A0_2 l0_2.length c0_2, .string a0_3]) (t := 24) ?hr ?_; (case hd => rfl); (case hg => rfl); (case hr => first | (go_simp; done) | (go_simp; rfl)); intro gb523 hg w29 hbox hb; have n0_ := Aside0.mk (below_step (by repeat (first | (with_reducible first | exact HB.out | apply below_alloc | apply pw_below_drewN | apply below_drew1) | exact HB.out)) hb); have n1_ := Aside0.mk (hbox); have n2_ := Aside0.mk ((by rw [hg]; exact (below_size (by repeat (first | (with_reducible first | exact HB.out | apply below_alloc | apply pw_below_drewN | apply below_drew1) | exact HB.out))) : w.heap.size ≤ gb523)); have n3_ := Aside0.mk ((by rw [hg]; exact (below_size (by repeat (first | (with_reducible first | exact HB.out | apply below_alloc | apply pw_below_drewN | apply below_drew1) | exact HB.out))) : w.heap.size ≤ gb523)); clear HB; have HB := n0_; have BK523 := n1_; have GW523 := n2_; have GE523 := n3_; clear n0_ n1_ n2_ n3_; clear hb hbox hg; have hcz30_0 : w29.cell? ⟨gb523, 0, none⟩ = some (.bool a0_0) := (blk_cell BK523.out 0).trans rfl; have hcz30_1 : w29.cell? ⟨gb523, 1, none⟩ = some (.string a0_1) := (blk_cell BK523.out 1).trans rfl; have hcz30_2 : w29.cell? ⟨gb523, 2, none⟩ = some (.slice A0_2 l0_2.length c0_2) := (blk_cell BK523.out 2).trans rfl; have hcz30_3 : w29.cell? ⟨gb523, 3, none⟩ = some (.string a0_3) := (blk_cell BK523.out 3).trans rfl; have hfz30_0 := blk_frozen BK523.out 0; have hfz30_1 := blk_frozen BK523.out 1; have hfz30_2 := blk_frozen BK523.out 2; have hfz30_3 := blk_frozen BK523.out 3) | ((with_reducible refine gate_callee (f := 10) rfl ?_); refine goesL_ (some 7) rfl rfl Try.func10 (by kernel_rfl) rfl #[.agg #[.bool a0_0, .string a0_1, .slice A0_2 l0_2.length c0_2, .string a0_3]] rfl (by (try simp only [List.map_toArray, List.map_cons, List.map_nil]); first | done | rfl | (simp only [List.length_drop, List.length_take]; rfl)) ?_; (with_reducible refine (emulatorlaw43_good.calls k a0_0 a0_1 _ _ l0_2 a0_3 false _ ?side1 ?side2 A3.out).mono ?_); (case side1 => repeat (first | exact (Kd.C_below HR0_2.out HB.out) | (with_reducible refine Kd.C_alloc ?_ _) | (with_reducible refine Kd.C_drewN ?_ _) | (with_reducible refine Kd.C_drew ?_))); (case side2 => exact HC0_2.out); rintro e w31 ⟨rfl, hb⟩; refine ⟨_, rfl, ?_⟩; have n0_ := Aside0.mk (blk_below (g := gb523) (o := .cells #[.bool a0_0, .string a0_1, .slice A0_2 l0_2.length c0_2, .string a0_3] 24 (0, 0)) (by (with_reducible repeat (first | refine blk_drewN ?_ _ | refine blk_drew ?_ | refine blk_alloc ?_ _)); exact BK523.out) hb); have n1_ := Aside0.mk (below_step (by repeat (first | (with_reducible first | exact HB.out | apply below_alloc | apply pw_below_drewN | apply below_drew1 | refine below_set ?_ GE523.out) | exact HB.out)) hb); clear BK523; clear HB; have BK523 := n0_; have HB := n1_; clear n0_ n1_; (try clear hb); (try clear hb2); (try clear hk); (try clear hi)) | ((with_reducible refine gate_callee (f := 11) rfl ?_); refine goesL_ (some 9) rfl rfl Try.func11 (by kernel_rfl) rfl #[] rfl (by (try simp only [List.map_toArray, List.map_cons, List.map_nil]); first | done | rfl | (simp only [List.length_drop, List.length_take]; rfl)) ?_; (with_reducible refine (emulatorlaw43_alive.calls k  t541 _ A28.out).mono ?_); rintro e w32 ⟨rfl, hb⟩; refine ⟨_, rfl, ?_⟩; have n0_ := Aside0.mk (blk_below (g := gb523) (o := .cells #[.bool a0_0, .string a0_1, .slice A0_2 l0_2.length c0_2, .string a0_3] 24 (0, 0)) (by (with_reducible repeat (first | refine blk_drewN ?_ _ | refine blk_drew ?_ | refine blk_alloc ?_ _)); exact BK523.out) hb); have n1_ := Aside0.mk (below_step (by repeat (first | (with_reducible first | exact HB.out | apply below_alloc | apply pw_below_drewN | apply below_drew1 | refine below_set ?_ GE523.out) | exact HB.out)) hb); clear BK523; clear HB; have BK523 := n0_; have HB := n1_; clear n0_ n1_; (try clear hb); (try clear hb2); (try clear hk); (try clear hi)))
    go_ret
    exact ⟨by first | rfl | (simp [errW_none, errW_some] <;> rfl) | (simp [*, errW_none, errW_some] <;> rfl), by repeat (first | (with_reducible first | exact HB.out | apply below_alloc | apply pw_below_drewN | apply below_drew1 | refine below_set ?_ GE523.out) | exact HB.out)⟩

end Go.Proofs.Ytgcmhfoegbaaiaa.K
