-- Printed by a program of this session out of Lean's print of the translation. Lean checks it.
import Derived.Test.YtgcmhfoegbaaiaaKx0
import Derived.Test.YtgcmhfoegbaaiaaKx4
import Derived.Test.YtgcmhfoegbaaiaaKx10
import Derived.Test.YtgcmhfoegbaaiaaKx11
import Derived.Test.YtgcmhfoegbaaiaaKx14
namespace Go.Proofs.Ytgcmhfoegbaaiaa.K
open Go.RowKit Go.Proofs.YtgcmhfoegbaaiaaW.PrintWords Go.Proofs.YtgcmhfoegbaaiaaW.PrintLast
set_option linter.unusedVariables false
set_option linter.unusedSimpArgs false

/-! ### emulatorlaw43_TtyOut: function 5 -/
def emulatorlaw43_TtyOut.l0 : Nat → ByteArray → Int → ByteArray → Int → Bool → ByteArray → List ByteArray → ByteArray → Option (Bool)
  | 0, _, _, _, _, _, _, _, _ => none
  | k + 1, x1, x6, x7, x8, x401000, x401001, x401002, x401003 => if x8 < x6 then (if 0 ≤ x8 then (if x8 < (x1.size : Int) then (if (bt x1 x8) = 10 then (if x7.size + 2 ≤ 9223372036854775807 then (emulatorlaw43_TtyOut.l0 k x1 x6 (x7 ++ (⟨#[13, 10]⟩ : ByteArray)) (wrap64 (x8 + 1)) x401000 x401001 x401002 x401003) else (none)) else (if x8 ≤ (wrap64 (x8 + 1)) then (if (wrap64 (x8 + 1)) ≤ (x1.size : Int) then (if x7.size + (x1.extract (x8 : Int).toNat ((wrap64 (x8 + 1)) : Int).toNat).size ≤ 9223372036854775807 then (emulatorlaw43_TtyOut.l0 k x1 x6 (x7 ++ (x1.extract (x8 : Int).toNat ((wrap64 (x8 + 1)) : Int).toNat)) (wrap64 (x8 + 1)) x401000 x401001 x401002 x401003) else (none)) else (none)) else (none))) else (none)) else (none)) else ((emulatorlaw43_drain.f k x401000 x401001 x401002 x401003).bind fun t401 => (if t401.toList = x7.toList then (if x6 = (x1.size : Int) then ((emulatorlaw43_alive.f k).bind fun t402 => (some t402)) else (if (x401003.size : Int) ≥ 255 then ((emulatorlaw43_alive.f k).bind fun t403 => (some t403)) else (none))) else (none)))
def emulatorlaw43_TtyOut.f (k : Nat) (a0_0 : Bool) (a0_1 : ByteArray) (l0_2 : List ByteArray) (a0_3 : ByteArray) (a1 : ByteArray) : Option (Bool) := (emulatorlaw43_good.f k a0_0 a0_1 l0_2 a0_3).bind fun t391 => (if t391 = true then (if (a1.size : Int) > 600 then ((emulatorlaw43_alive.f k).bind fun t392 => (some t392)) else ((tty_Write.f k a0_0 a0_1 l0_2 a0_3 a1).bind fun bt393 => (if bt393.2.2.2.2 < 0 then (none) else (if bt393.2.2.2.2 > (a1.size : Int) then (none) else (emulatorlaw43_TtyOut.l0 k a1 bt393.2.2.2.2 a0_3 0 bt393.1 bt393.2.1 bt393.2.2.1 bt393.2.2.2.1))))) else ((emulatorlaw43_alive.f k).bind fun t404 => (some t404)))
theorem emulatorlaw43_TtyOut.mono_l : ∀ k, (∀ y0 y1 y2 y3 y4 y5 y6 y7, LeO (emulatorlaw43_TtyOut.l0 k y0 y1 y2 y3 y4 y5 y6 y7) (emulatorlaw43_TtyOut.l0 (k + 1) y0 y1 y2 y3 y4 y5 y6 y7))
  | 0 => fun _ _ _ _ _ _ _ _ r h => by simp [emulatorlaw43_TtyOut.l0] at h
  | k + 1 => by
    have ih0 := emulatorlaw43_TtyOut.mono_l k
    · intro y0 y1 y2 y3 y4 y5 y6 y7
      unfold emulatorlaw43_TtyOut.l0
      repeat' first
      | (with_reducible exact ih0 _ _ _ _ _ _ _ _)
      | (with_reducible exact emulatorlaw43_alive.mono _)
      | (with_reducible exact emulatorlaw43_drain.mono _ _ _ _ _)
      | (with_reducible exact emulatorlaw43_good.mono _ _ _ _ _)
      | (with_reducible exact tty_Write.mono _ _ _ _ _ _)
      | (with_reducible exact LeO.refl _)
      | (with_reducible exact LeO.none _)
      | (with_reducible refine LeO.ite ?_ ?_)
      | (with_reducible refine LeO.bind ?_ (fun _ => ?_))
      | exact ih0 _ _ _ _ _ _ _ _
      | exact emulatorlaw43_alive.mono _
      | exact emulatorlaw43_drain.mono _ _ _ _ _
      | exact emulatorlaw43_good.mono _ _ _ _ _
      | exact tty_Write.mono _ _ _ _ _ _
      | exact LeO.none _
      | refine LeO.ite ?_ ?_
      | refine LeO.bind ?_ (fun _ => ?_)
theorem emulatorlaw43_TtyOut.mono : ∀ a0 a1 a2 a3 a4 k, LeO (emulatorlaw43_TtyOut.f k a0 a1 a2 a3 a4) (emulatorlaw43_TtyOut.f (k + 1) a0 a1 a2 a3 a4) := by
  intro a0 a1 a2 a3 a4 k
  have ih0 := emulatorlaw43_TtyOut.mono_l k
  unfold emulatorlaw43_TtyOut.f
  repeat' first
      | (with_reducible exact ih0 _ _ _ _ _ _ _ _)
      | (with_reducible exact emulatorlaw43_alive.mono _)
      | (with_reducible exact emulatorlaw43_drain.mono _ _ _ _ _)
      | (with_reducible exact emulatorlaw43_good.mono _ _ _ _ _)
      | (with_reducible exact tty_Write.mono _ _ _ _ _ _)
      | (with_reducible exact LeO.refl _)
      | (with_reducible exact LeO.none _)
      | (with_reducible refine LeO.ite ?_ ?_)
      | (with_reducible refine LeO.bind ?_ (fun _ => ?_))
      | exact ih0 _ _ _ _ _ _ _ _
      | exact emulatorlaw43_alive.mono _
      | exact emulatorlaw43_drain.mono _ _ _ _ _
      | exact emulatorlaw43_good.mono _ _ _ _ _
      | exact tty_Write.mono _ _ _ _ _ _
      | exact LeO.none _
      | refine LeO.ite ?_ ?_
      | refine LeO.bind ?_ (fun _ => ?_)
set_option maxHeartbeats 8000000 in
set_option maxRecDepth 100000 in
theorem emulatorlaw43_TtyOut.calls (k : Nat) (a0_0 : Bool) (a0_1 : ByteArray) (A0_2 : Option Addr) (c0_2 : Nat) (l0_2 : List ByteArray) (a0_3 : ByteArray) (a1 : ByteArray) (r : Bool) (w : World) (hr0_2 : Kd.C Kd.string w A0_2 l0_2.length l0_2) (hc0_2 : l0_2.length ≤ c0_2) (h : emulatorlaw43_TtyOut.f k a0_0 a0_1 l0_2 a0_3 a1 = some r) :
    Calls Try.prog 5 #[.agg #[.bool a0_0, .string a0_1, .slice A0_2 l0_2.length c0_2, .string a0_3], .string a1] w fun e w' => e = .returned (.bool r) ∧ Below w.heap.size w w' := by
  have hu24 := Try.underlying24
  have HR0_2 := Aside0.mk hr0_2
  have HC0_2 := Aside0.mk hc0_2
  clear hr0_2 hc0_2
  have HB := Aside0.mk (Below.refl w.heap.size w)
  have H : ((emulatorlaw43_good.f k a0_0 a0_1 l0_2 a0_3).bind fun t391 => (if t391 = true then (if (a1.size : Int) > 600 then ((emulatorlaw43_alive.f k).bind fun t392 => (some t392)) else ((tty_Write.f k a0_0 a0_1 l0_2 a0_3 a1).bind fun bt393 => (if bt393.2.2.2.2 < 0 then (none) else (if bt393.2.2.2.2 > (a1.size : Int) then (none) else (emulatorlaw43_TtyOut.l0 k a1 bt393.2.2.2.2 a0_3 0 bt393.1 bt393.2.1 bt393.2.2.1 bt393.2.2.2.1))))) else ((emulatorlaw43_alive.f k).bind fun t404 => (some t404)))) = some r := h
  clear h
  replace H := Option.bind_eq_some_iff.mp H
  obtain ⟨t391, A30, H⟩ := H
  replace H : (if t391 = true then (if (a1.size : Int) > 600 then ((emulatorlaw43_alive.f k).bind fun t392 => (some t392)) else ((tty_Write.f k a0_0 a0_1 l0_2 a0_3 a1).bind fun bt393 => (if bt393.2.2.2.2 < 0 then (none) else (if bt393.2.2.2.2 > (a1.size : Int) then (none) else (emulatorlaw43_TtyOut.l0 k a1 bt393.2.2.2.2 a0_3 0 bt393.1 bt393.2.1 bt393.2.2.1 bt393.2.2.2.1))))) else ((emulatorlaw43_alive.f k).bind fun t404 => (some t404))) = some r := H
  have A3 := Aside0.mk A30
  clear A30
  by_cases c4 : t391 = true
  · subst c4
    have H1 : (if (a1.size : Int) > 600 then ((emulatorlaw43_alive.f k).bind fun t392 => (some t392)) else ((tty_Write.f k a0_0 a0_1 l0_2 a0_3 a1).bind fun bt393 => (if bt393.2.2.2.2 < 0 then (none) else (if bt393.2.2.2.2 > (a1.size : Int) then (none) else (emulatorlaw43_TtyOut.l0 k a1 bt393.2.2.2.2 a0_3 0 bt393.1 bt393.2.1 bt393.2.2.1 bt393.2.2.2.1))))) = some r := by rw [if_pos rfl] at H; exact H
    clear H
    have H := H1
    clear H1
    by_cases c5 : (a1.size : Int) > 600
    · rw [if_pos c5] at H
      have c5b0 : decide (600 < (a1.size : Int)) = true := decide_eq_true c5
      have c5b1 : decide (600 < a1.size) = true := decide_eq_true (by omega)
      clear c5
      replace H := Option.bind_eq_some_iff.mp H
      obtain ⟨t392, A60, H⟩ := H
      replace H : (some t392) = some r := H
      have A6 := Aside0.mk A60
      clear A60
      obtain rfl := Option.some.inj H
      go_enter Try.func5, Try.ntmps5
      go_wp2_with (first | ((with_reducible refine gate_dst (N := 2) rfl ?_); refine box_event ?hg (N := 2) ?hd (cs := #[.bool a0_0, .string a0_1, .slice A0_2 l0_2.length c0_2, .string a0_3]) (t := 24) ?hr ?_; (case hd => rfl); (case hg => rfl); (case hr => first | (go_simp; done) | (go_simp; rfl)); intro gb390 hg w7 hbox hb; have n0_ := Aside0.mk (below_step (by repeat (first | (with_reducible first | exact HB.out | apply below_alloc | apply pw_below_drewN | apply below_drew1) | exact HB.out)) hb); have n1_ := Aside0.mk (hbox); have n2_ := Aside0.mk ((by rw [hg]; exact (below_size (by repeat (first | (with_reducible first | exact HB.out | apply below_alloc | apply pw_below_drewN | apply below_drew1) | exact HB.out))) : w.heap.size ≤ gb390)); have n3_ := Aside0.mk ((by rw [hg]; exact (below_size (by repeat (first | (with_reducible first | exact HB.out | apply below_alloc | apply pw_below_drewN | apply below_drew1) | exact HB.out))) : w.heap.size ≤ gb390)); clear HB; have HB := n0_; have BK390 := n1_; have GW390 := n2_; have GE390 := n3_; clear n0_ n1_ n2_ n3_; clear hb hbox hg; have hcz8_0 : w7.cell? ⟨gb390, 0, none⟩ = some (.bool a0_0) := (blk_cell BK390.out 0).trans rfl; have hcz8_1 : w7.cell? ⟨gb390, 1, none⟩ = some (.string a0_1) := (blk_cell BK390.out 1).trans rfl; have hcz8_2 : w7.cell? ⟨gb390, 2, none⟩ = some (.slice A0_2 l0_2.length c0_2) := (blk_cell BK390.out 2).trans rfl; have hcz8_3 : w7.cell? ⟨gb390, 3, none⟩ = some (.string a0_3) := (blk_cell BK390.out 3).trans rfl; have hfz8_0 := blk_frozen BK390.out 0; have hfz8_1 := blk_frozen BK390.out 1; have hfz8_2 := blk_frozen BK390.out 2; have hfz8_3 := blk_frozen BK390.out 3) | ((with_reducible refine gate_callee (f := 10) rfl ?_); refine goesL_ (some 10) rfl rfl Try.func10 (by kernel_rfl) rfl #[.agg #[.bool a0_0, .string a0_1, .slice A0_2 l0_2.length c0_2, .string a0_3]] rfl (by (try simp only [List.map_toArray, List.map_cons, List.map_nil]); first | done | rfl | (simp only [List.length_drop, List.length_take]; rfl)) ?_; (with_reducible refine (emulatorlaw43_good.calls k a0_0 a0_1 _ _ l0_2 a0_3 true _ ?side1 ?side2 A3.out).mono ?_); (case side1 => repeat (first | exact (Kd.C_below HR0_2.out HB.out) | (with_reducible refine Kd.C_alloc ?_ _) | (with_reducible refine Kd.C_drewN ?_ _) | (with_reducible refine Kd.C_drew ?_))); (case side2 => exact HC0_2.out); rintro e w9 ⟨rfl, hb⟩; refine ⟨_, rfl, ?_⟩; have n0_ := Aside0.mk (blk_below (g := gb390) (o := .cells #[.bool a0_0, .string a0_1, .slice A0_2 l0_2.length c0_2, .string a0_3] 24 (0, 0)) (by (with_reducible repeat (first | refine blk_drewN ?_ _ | refine blk_drew ?_ | refine blk_alloc ?_ _)); exact BK390.out) hb); have n1_ := Aside0.mk (below_step (by repeat (first | (with_reducible first | exact HB.out | apply below_alloc | apply pw_below_drewN | apply below_drew1 | refine below_set ?_ GE390.out) | exact HB.out)) hb); clear BK390; clear HB; have BK390 := n0_; have HB := n1_; clear n0_ n1_; (try clear hb); (try clear hb2); (try clear hk); (try clear hi)) | ((with_reducible refine gate_callee (f := 11) rfl ?_); refine goesL_ (some 17) rfl rfl Try.func11 (by kernel_rfl) rfl #[] rfl (by (try simp only [List.map_toArray, List.map_cons, List.map_nil]); first | done | rfl | (simp only [List.length_drop, List.length_take]; rfl)) ?_; (with_reducible refine (emulatorlaw43_alive.calls k  t392 _ A6.out).mono ?_); rintro e w10 ⟨rfl, hb⟩; refine ⟨_, rfl, ?_⟩; have n0_ := Aside0.mk (blk_below (g := gb390) (o := .cells #[.bool a0_0, .string a0_1, .slice A0_2 l0_2.length c0_2, .string a0_3] 24 (0, 0)) (by (with_reducible repeat (first | refine blk_drewN ?_ _ | refine blk_drew ?_ | refine blk_alloc ?_ _)); exact BK390.out) hb); have n1_ := Aside0.mk (below_step (by repeat (first | (with_reducible first | exact HB.out | apply below_alloc | apply pw_below_drewN | apply below_drew1 | refine below_set ?_ GE390.out) | exact HB.out)) hb); clear BK390; clear HB; have BK390 := n0_; have HB := n1_; clear n0_ n1_; (try clear hb); (try clear hb2); (try clear hk); (try clear hi)))
      go_ret
      exact ⟨by first | rfl | (simp [errW_none, errW_some] <;> rfl) | (simp [*, errW_none, errW_some] <;> rfl), by repeat (first | (with_reducible first | exact HB.out | apply below_alloc | apply pw_below_drewN | apply below_drew1 | refine below_set ?_ GE390.out) | exact HB.out)⟩
    · rw [if_neg c5] at H
      have c5b0 : decide (600 < (a1.size : Int)) = false := decide_eq_false c5
      have c5b1 : decide (600 < a1.size) = false := decide_eq_false (by omega)
      clear c5
      replace H := Option.bind_eq_some_iff.mp H
      obtain ⟨⟨t393, t394, t395, t398, t399⟩, A110, H⟩ := H
      replace H : (if t399 < 0 then (none) else (if t399 > (a1.size : Int) then (none) else (emulatorlaw43_TtyOut.l0 k a1 t399 a0_3 0 t393 t394 t395 t398))) = some r := H
      have A11 := Aside0.mk A110
      clear A110
      by_cases c12 : t399 < 0
      · rw [if_pos c12] at H
        exact absurd H (by simp)
      · rw [if_neg c12] at H
        have c12b0 : decide (t399 < 0) = false := decide_eq_false c12
        clear c12
        by_cases c13 : t399 > (a1.size : Int)
        · rw [if_pos c13] at H
          exact absurd H (by simp)
        · rw [if_neg c13] at H
          have c13b0 : decide ((a1.size : Int) < t399) = false := decide_eq_false c13
          clear c13
          have H' := Aside0.mk H
          clear H
          go_enter Try.func5, Try.ntmps5
          go_wp2_with (first | ((with_reducible refine gate_dst (N := 2) rfl ?_); refine box_event ?hg (N := 2) ?hd (cs := #[.bool a0_0, .string a0_1, .slice A0_2 l0_2.length c0_2, .string a0_3]) (t := 24) ?hr ?_; (case hd => rfl); (case hg => rfl); (case hr => first | (go_simp; done) | (go_simp; rfl)); intro gb390 hg w14 hbox hb; have n0_ := Aside0.mk (below_step (by repeat (first | (with_reducible first | exact HB.out | apply below_alloc | apply pw_below_drewN | apply below_drew1) | exact HB.out)) hb); have n1_ := Aside0.mk (hbox); have n2_ := Aside0.mk ((by rw [hg]; exact (below_size (by repeat (first | (with_reducible first | exact HB.out | apply below_alloc | apply pw_below_drewN | apply below_drew1) | exact HB.out))) : w.heap.size ≤ gb390)); have n3_ := Aside0.mk ((by rw [hg]; exact (below_size (by repeat (first | (with_reducible first | exact HB.out | apply below_alloc | apply pw_below_drewN | apply below_drew1) | exact HB.out))) : w.heap.size ≤ gb390)); clear HB; have HB := n0_; have BK390 := n1_; have GW390 := n2_; have GE390 := n3_; clear n0_ n1_ n2_ n3_; clear hb hbox hg; have hcz15_0 : w14.cell? ⟨gb390, 0, none⟩ = some (.bool a0_0) := (blk_cell BK390.out 0).trans rfl; have hcz15_1 : w14.cell? ⟨gb390, 1, none⟩ = some (.string a0_1) := (blk_cell BK390.out 1).trans rfl; have hcz15_2 : w14.cell? ⟨gb390, 2, none⟩ = some (.slice A0_2 l0_2.length c0_2) := (blk_cell BK390.out 2).trans rfl; have hcz15_3 : w14.cell? ⟨gb390, 3, none⟩ = some (.string a0_3) := (blk_cell BK390.out 3).trans rfl; have hfz15_0 := blk_frozen BK390.out 0; have hfz15_1 := blk_frozen BK390.out 1; have hfz15_2 := blk_frozen BK390.out 2; have hfz15_3 := blk_frozen BK390.out 3) | ((with_reducible refine gate_callee (f := 10) rfl ?_); refine goesL_ (some 10) rfl rfl Try.func10 (by kernel_rfl) rfl #[.agg #[.bool a0_0, .string a0_1, .slice A0_2 l0_2.length c0_2, .string a0_3]] rfl (by (try simp only [List.map_toArray, List.map_cons, List.map_nil]); first | done | rfl | (simp only [List.length_drop, List.length_take]; rfl)) ?_; (with_reducible refine (emulatorlaw43_good.calls k a0_0 a0_1 _ _ l0_2 a0_3 true _ ?side1 ?side2 A3.out).mono ?_); (case side1 => repeat (first | exact (Kd.C_below HR0_2.out HB.out) | (with_reducible refine Kd.C_alloc ?_ _) | (with_reducible refine Kd.C_drewN ?_ _) | (with_reducible refine Kd.C_drew ?_))); (case side2 => exact HC0_2.out); rintro e w16 ⟨rfl, hb⟩; refine ⟨_, rfl, ?_⟩; have n0_ := Aside0.mk (blk_below (g := gb390) (o := .cells #[.bool a0_0, .string a0_1, .slice A0_2 l0_2.length c0_2, .string a0_3] 24 (0, 0)) (by (with_reducible repeat (first | refine blk_drewN ?_ _ | refine blk_drew ?_ | refine blk_alloc ?_ _)); exact BK390.out) hb); have n1_ := Aside0.mk (below_step (by repeat (first | (with_reducible first | exact HB.out | apply below_alloc | apply pw_below_drewN | apply below_drew1 | refine below_set ?_ GE390.out) | exact HB.out)) hb); clear BK390; clear HB; have BK390 := n0_; have HB := n1_; clear n0_ n1_; (try clear hb); (try clear hb2); (try clear hk); (try clear hi); have hcz17_0 : w16.cell? ⟨gb390, 0, none⟩ = some (.bool a0_0) := (blk_cell BK390.out 0).trans rfl; have hcz17_1 : w16.cell? ⟨gb390, 1, none⟩ = some (.string a0_1) := (blk_cell BK390.out 1).trans rfl; have hcz17_2 : w16.cell? ⟨gb390, 2, none⟩ = some (.slice A0_2 l0_2.length c0_2) := (blk_cell BK390.out 2).trans rfl; have hcz17_3 : w16.cell? ⟨gb390, 3, none⟩ = some (.string a0_3) := (blk_cell BK390.out 3).trans rfl; have hfz17_0 := blk_frozen BK390.out 0; have hfz17_1 := blk_frozen BK390.out 1; have hfz17_2 := blk_frozen BK390.out 2; have hfz17_3 := blk_frozen BK390.out 3) | ((with_reducible refine gate_callee (f := 16) rfl ?_); refine goesL_ (some 21) rfl rfl Try.func16 (by kernel_rfl) rfl #[.agg #[.bool a0_0, .string a0_1, .slice A0_2 l0_2.length c0_2, .string a0_3], .string a1] rfl (by (try simp only [List.map_toArray, List.map_cons, List.map_nil]); first | done | rfl | (simp only [List.length_drop, List.length_take]; rfl)) ?_; (with_reducible refine (tty_Write.calls k a0_0 a0_1 (fun k_ => k_ < w.heap.size) _ _ l0_2 a0_3 a1 t393 t394 t395 t398 t399 _ ?side1 A11.out).mono ?_); (case side1 => exact Kd.V_mk HC0_2.out (Kd.F_below (Kd.C_F Kd.heap_string HR0_2.out) (by repeat (first | (with_reducible first | exact HB.out | apply below_alloc | apply pw_below_drewN | apply below_drew1 | refine below_set ?_ GE390.out) | exact HB.out)))); rintro e w18 ⟨v396, rfl, ho0, hb⟩; refine ⟨_, rfl, ?_⟩; have n0_ := Aside0.mk (Kd.V_lower (Kd.V_mono (ok' := fun k_ => k_ ≠ gb390) ho0 (fun k_ hk_ => Or.elim hk_ (fun hs_ => fun e_ => Nat.not_le.2 hs_ (by rw [e_]; exact GW390.out)) (fun hn_ => (Kd.freshB (g := gb390) (o := .cells #[.bool a0_0, .string a0_1, .slice A0_2 l0_2.length c0_2, .string a0_3] 24 (0, 0)) (by (with_reducible repeat (first | refine blk_drewN ?_ _ | refine blk_drew ?_ | refine blk_alloc ?_ _)); exact BK390.out) k_ hn_)))) (below_size (by repeat (first | (with_reducible first | exact HB.out | apply below_alloc | apply pw_below_drewN | apply below_drew1 | refine below_set ?_ GE390.out) | exact HB.out)))); have n1_ := Aside0.mk (blk_below (g := gb390) (o := .cells #[.bool a0_0, .string a0_1, .slice A0_2 l0_2.length c0_2, .string a0_3] 24 (0, 0)) (by (with_reducible repeat (first | refine blk_drewN ?_ _ | refine blk_drew ?_ | refine blk_alloc ?_ _)); exact BK390.out) hb); have n2_ := Aside0.mk (below_step (by repeat (first | (with_reducible first | exact HB.out | apply below_alloc | apply pw_below_drewN | apply below_drew1 | refine below_set ?_ GE390.out) | exact HB.out)) hb); clear BK390; clear HB; have HO397 := n0_; have BK390 := n1_; have HB := n2_; clear n0_ n1_ n2_; (try clear hb); (try clear hb2); (try clear hk); (try clear hi); (try clear ho0)) | ((with_reducible refine gate_dst (N := 5) rfl ?_); refine box_event ?hg (N := 5) ?hd (cs := #[.bool false, .string (⟨#[]⟩ : ByteArray), .slice none 0 0, .string (⟨#[]⟩ : ByteArray)]) (t := 24) ?hr ?_; (case hd => rfl); (case hg => rfl); (case hr => first | (go_simp; done) | (go_simp; rfl)); intro gb400 hg w19 hbox hb; have n0_ := Aside0.mk (Kd.V_below (Kd.V_elderB (by (with_reducible repeat (first | apply Kd.V_alloc | apply Kd.V_drewN | apply Kd.V_drew)); exact HO397.out) gb400 (Nat.le_of_eq hg.symm)) hb); have n1_ := Aside0.mk (blk_below (g := gb390) (o := .cells #[.bool a0_0, .string a0_1, .slice A0_2 l0_2.length c0_2, .string a0_3] 24 (0, 0)) (by (with_reducible repeat (first | refine blk_drewN ?_ _ | refine blk_drew ?_ | refine blk_alloc ?_ _)); exact BK390.out) hb); have n2_ := Aside0.mk (below_step (by repeat (first | (with_reducible first | exact HB.out | apply below_alloc | apply pw_below_drewN | apply below_drew1 | refine below_set ?_ GE390.out) | exact HB.out)) hb); have n3_ := Aside0.mk (hbox); have n4_ := Aside0.mk ((by rw [hg]; exact (below_size (by repeat (first | (with_reducible first | exact HB.out | apply below_alloc | apply pw_below_drewN | apply below_drew1 | refine below_set ?_ GE390.out) | exact HB.out))) : w.heap.size ≤ gb400)); have n5_ := Aside0.mk ((by rw [hg]; exact (below_size (by repeat (first | (with_reducible first | exact HB.out | apply below_alloc | apply pw_below_drewN | apply below_drew1 | refine below_set ?_ GE390.out) | exact HB.out))) : w.heap.size ≤ gb400)); have n6_ := Aside0.mk ((by rw [hg]; exact Nat.ne_of_lt (blk_lt (g := gb390) (o := .cells #[.bool a0_0, .string a0_1, .slice A0_2 l0_2.length c0_2, .string a0_3] 24 (0, 0)) (by (with_reducible repeat (first | refine blk_drewN ?_ _ | refine blk_drew ?_ | refine blk_alloc ?_ _)); exact BK390.out)) : gb390 ≠ gb400)); have n7_ := Aside0.mk ((by rw [hg]; exact Nat.ne_of_gt (blk_lt (g := gb390) (o := .cells #[.bool a0_0, .string a0_1, .slice A0_2 l0_2.length c0_2, .string a0_3] 24 (0, 0)) (by (with_reducible repeat (first | refine blk_drewN ?_ _ | refine blk_drew ?_ | refine blk_alloc ?_ _)); exact BK390.out)) : gb400 ≠ gb390)); clear HO397; clear BK390; clear HB; have HO397 := n0_; have BK390 := n1_; have HB := n2_; have BK400 := n3_; have GW400 := n4_; have GE400 := n5_; have NB390_400 := n6_; have NB400_390 := n7_; clear n0_ n1_ n2_ n3_ n4_ n5_ n6_ n7_; clear hb hbox hg; have hnb20 := NB400_390.out; have hnc20 := NB390_400.out; have hcz21_0 : w19.cell? ⟨gb400, 0, none⟩ = some (.bool false) := (blk_cell BK400.out 0).trans rfl; have hcz21_1 : w19.cell? ⟨gb400, 1, none⟩ = some (.string (⟨#[]⟩ : ByteArray)) := (blk_cell BK400.out 1).trans rfl; have hcz21_2 : w19.cell? ⟨gb400, 2, none⟩ = some (.slice none 0 0) := (blk_cell BK400.out 2).trans rfl; have hcz21_3 : w19.cell? ⟨gb400, 3, none⟩ = some (.string (⟨#[]⟩ : ByteArray)) := (blk_cell BK400.out 3).trans rfl; have hfz21_0 := blk_frozen BK400.out 0; have hfz21_1 := blk_frozen BK400.out 1; have hfz21_2 := blk_frozen BK400.out 2; have hfz21_3 := blk_frozen BK400.out 3; obtain ⟨Ao22, co22, eo22⟩ := Kd.V_slice HO397.out; subst eo22; have hcz23_0 : w19.cell? ⟨gb390, 0, none⟩ = some (.bool a0_0) := (blk_cell BK390.out 0).trans rfl; have hcz23_1 : w19.cell? ⟨gb390, 1, none⟩ = some (.string a0_1) := (blk_cell BK390.out 1).trans rfl; have hcz23_2 : w19.cell? ⟨gb390, 2, none⟩ = some (.slice A0_2 l0_2.length c0_2) := (blk_cell BK390.out 2).trans rfl; have hcz23_3 : w19.cell? ⟨gb390, 3, none⟩ = some (.string a0_3) := (blk_cell BK390.out 3).trans rfl; have hfz23_0 := blk_frozen BK390.out 0; have hfz23_1 := blk_frozen BK390.out 1; have hfz23_2 := blk_frozen BK390.out 2; have hfz23_3 := blk_frozen BK390.out 3))
          go_loopg [7, 8] k (fun kq v7 v8 w' => ∃ (x7_1 : ByteArray) (x8_1 : Int), v7 = .string x7_1 ∧ v8 = .int .i64 x8_1 ∧ Aside0 (emulatorlaw43_TtyOut.l0 kq a1 t399 x7_1 x8_1 t393 t394 t395 t398 = some r) ∧ Aside0 (kq ≤ k) ∧ Aside0 (Kd.V Kd.string 9 w' w.heap.size (fun k_ => k_ ≠ gb390 ∧ k_ ≠ gb400) (.slice Ao22 t395.length co22) t395) ∧ Aside0 (w'.heap[gb390]? = some (.cells #[.bool a0_0, .string a0_1, (.slice A0_2 l0_2.length c0_2), .string a0_3] 24 (0, 0))) ∧ Aside0 (w'.heap[gb400]? = some (.cells #[.bool t393, .string t394, (.slice Ao22 t395.length co22), .string t398] 24 (0, 0))) ∧ Aside0 (Below w.heap.size w w'))
          case atStart => exact ⟨(a0_3), (0), (by first | rfl | (simp; done) | (simp [isEmpty_ne]; done) | (simp [*]; done)), (by first | rfl | (simp; done) | (simp [isEmpty_ne]; done) | (simp [*]; done)), H', ⟨Nat.le_refl _⟩, ⟨by (with_reducible repeat (first | apply Kd.V_alloc | apply Kd.V_drewN | apply Kd.V_drew)); exact Kd.V_mono (Kd.V_far (p := ⟨gb400, 3, none⟩) (Kd.V_far (p := ⟨gb400, 2, none⟩) (Kd.V_far (p := ⟨gb400, 1, none⟩) (Kd.V_far (p := ⟨gb400, 0, none⟩) (Kd.V_mono HO397.out (fun k_ hk => (⟨hk, hk.2⟩ : _ ∧ k_ ≠ gb400))) (fun _ hk => hk.2) (.bool t393)) (fun _ hk => hk.2) (.string t394)) (fun _ hk => hk.2) (.slice Ao22 t395.length co22)) (fun _ hk => hk.2) (.string t398)) (fun _ hk => ⟨hk.1.1, hk.1.2⟩)⟩, ⟨by (with_reducible repeat (first | refine blk_drewN ?_ _ | refine blk_drew ?_ | refine blk_alloc ?_ _)); refine blk_far ?_ NB390_400.out _; (with_reducible repeat (first | refine blk_drewN ?_ _ | refine blk_drew ?_ | refine blk_alloc ?_ _)); refine blk_far ?_ NB390_400.out _; (with_reducible repeat (first | refine blk_drewN ?_ _ | refine blk_drew ?_ | refine blk_alloc ?_ _)); refine blk_far ?_ NB390_400.out _; (with_reducible repeat (first | refine blk_drewN ?_ _ | refine blk_drew ?_ | refine blk_alloc ?_ _)); refine blk_far ?_ NB390_400.out _; (with_reducible repeat (first | refine blk_drewN ?_ _ | refine blk_drew ?_ | refine blk_alloc ?_ _)); exact BK390.out⟩, ⟨by (with_reducible repeat (first | refine blk_drewN ?_ _ | refine blk_drew ?_ | refine blk_alloc ?_ _)); refine blk_put (cs := #[.bool t393, .string t394, .slice Ao22 t395.length co22, .string (⟨#[]⟩ : ByteArray)]) ?_ 3 _ rfl; (with_reducible repeat (first | refine blk_drewN ?_ _ | refine blk_drew ?_ | refine blk_alloc ?_ _)); refine blk_put (cs := #[.bool t393, .string t394, .slice none 0 0, .string (⟨#[]⟩ : ByteArray)]) ?_ 2 _ rfl; (with_reducible repeat (first | refine blk_drewN ?_ _ | refine blk_drew ?_ | refine blk_alloc ?_ _)); refine blk_put (cs := #[.bool t393, .string (⟨#[]⟩ : ByteArray), .slice none 0 0, .string (⟨#[]⟩ : ByteArray)]) ?_ 1 _ rfl; (with_reducible repeat (first | refine blk_drewN ?_ _ | refine blk_drew ?_ | refine blk_alloc ?_ _)); refine blk_put (cs := #[.bool false, .string (⟨#[]⟩ : ByteArray), .slice none 0 0, .string (⟨#[]⟩ : ByteArray)]) ?_ 0 _ rfl; (with_reducible repeat (first | refine blk_drewN ?_ _ | refine blk_drew ?_ | refine blk_alloc ?_ _)); exact BK400.out⟩, ⟨by repeat (first | (with_reducible first | exact HB.out | apply below_alloc | apply pw_below_drewN | apply below_drew1 | refine below_set ?_ GE390.out | refine below_set ?_ GE400.out) | exact HB.out)⟩⟩
          case round =>
            clear H'
            try clear c1
            try clear c2
            try clear p2
            try clear c4
            try clear c5
            try clear c5b0
            try clear c5b1
            try clear c10
            try clear c11
            try clear c12
            try clear c12b0
            try clear c13
            try clear c13b0
            try clear c16
            try clear c20
            try clear hcz15_0
            try clear hcz15_1
            try clear hcz15_2
            try clear hcz15_3
            try clear hcz17_0
            try clear hcz17_1
            try clear hcz17_2
            try clear hcz17_3
            try clear hcz21_0
            try clear hcz21_1
            try clear hcz21_2
            try clear hcz21_3
            try clear hcz23_0
            try clear hcz23_1
            try clear hcz23_2
            try clear hcz23_3
            try clear hcz8_0
            try clear hcz8_1
            try clear hcz8_2
            try clear hcz8_3
            try clear hfz15_0
            try clear hfz15_1
            try clear hfz15_2
            try clear hfz15_3
            try clear hfz17_0
            try clear hfz17_1
            try clear hfz17_2
            try clear hfz17_3
            try clear hfz21_0
            try clear hfz21_1
            try clear hfz21_2
            try clear hfz21_3
            try clear hfz23_0
            try clear hfz23_1
            try clear hfz23_2
            try clear hfz23_3
            try clear hfz8_0
            try clear hfz8_1
            try clear hfz8_2
            try clear hfz8_3
            obtain ⟨x7_1, x8_1, rfl, rfl, HA, HK1, HO_401002, BK390, BK400, HB⟩ := hrel
            cases gk with
            | zero => exact absurd HA.out (by simp [emulatorlaw43_TtyOut.l0])
            | succ k1 =>
              have H := HA.out
              clear HA
              simp only [emulatorlaw43_TtyOut.l0] at H
              by_cases c24 : x8_1 < t399
              · rw [if_pos c24] at H
                have c24b0 : decide (x8_1 < t399) = true := decide_eq_true c24
                clear c24
                by_cases c25 : 0 ≤ x8_1
                · rw [if_pos c25] at H
                  have c25b0 : decide (0 ≤ x8_1) = true := decide_eq_true c25
                  clear c25
                  by_cases c26 : x8_1 < (a1.size : Int)
                  · rw [if_pos c26] at H
                    have c26b0 : decide (x8_1 < (a1.size : Int)) = true := decide_eq_true c26
                    clear c26
                    by_cases c28 : (bt a1 x8_1) = 10
                    · rw [if_pos c28] at H
                      have c28b0 : ((bt a1 x8_1) == 10) = true := beq_iff_eq.mpr c28
                      have c28b1 : ((bt a1 x8_1) != 10) = false := bne_eq_false_iff_eq.mpr c28
                      clear c28
                      by_cases c29 : x7_1.size + 2 ≤ 9223372036854775807
                      · rw [if_pos c29] at H
                        have c29b0 := eq_true c29
                        have c29b1 : decide (x7_1.size + 2 ≤ 9223372036854775807) = true := decide_eq_true c29
                        try have c29b2 : (9223372036854775807 < x7_1.size + 2) = False := eq_false (Nat.not_lt.2 c29)
                        have H' := Aside0.mk H
                        clear H
                        have p27 : 0 ≤ (x8_1 : Int) := of_decide_eq_true (by first | (with_reducible assumption) | assumption)
                        have q27 : x8_1 < (a1.size : Int) := of_decide_eq_true (by first | (with_reducible assumption) | assumption)
                        have hx27 := bt_at a1 x8_1
                        replace p27 := eq_true p27
                        replace q27 := eq_true q27
                        go_wp2
                        go_roundg k1
                        case measure => have := HK1.out; omega
                        case rel => exact ⟨(x7_1 ++ (⟨#[13, 10]⟩ : ByteArray)), (wrap64 (x8_1 + 1)), (by first | rfl | (simp; done) | (simp [isEmpty_ne]; done) | (simp [*]; done)), (by first | rfl | (simp; done) | (simp [isEmpty_ne]; done) | (simp [*]; done)), H', ⟨by have := HK1.out; omega⟩, ⟨by (with_reducible repeat (first | apply Kd.V_alloc | apply Kd.V_drewN | apply Kd.V_drew)); exact HO_401002.out⟩, ⟨by (with_reducible repeat (first | refine blk_drewN ?_ _ | refine blk_drew ?_ | refine blk_alloc ?_ _)); exact BK390.out⟩, ⟨by (with_reducible repeat (first | refine blk_drewN ?_ _ | refine blk_drew ?_ | refine blk_alloc ?_ _)); exact BK400.out⟩, ⟨by repeat (first | (with_reducible first | exact HB.out | apply below_alloc | apply pw_below_drewN | apply below_drew1 | refine below_set ?_ GE390.out | refine below_set ?_ GE400.out) | exact HB.out)⟩⟩
                      · rw [if_neg c29] at H
                        exact absurd H (by simp)
                    · rw [if_neg c28] at H
                      have c28b0 : ((bt a1 x8_1) == 10) = false := beq_eq_false_iff_ne.mpr c28
                      have c28b1 : ((bt a1 x8_1) != 10) = true := bne_iff_ne.mpr c28
                      have c30b0 := eq_true (of_decide_eq_true (by first | (with_reducible assumption) | assumption) : 0 ≤ x8_1)
                      by_cases c31 : x8_1 ≤ (wrap64 (x8_1 + 1))
                      · rw [if_pos c31] at H
                        have c31b0 := eq_true c31
                        have c31b1 : decide (x8_1 ≤ (wrap64 (x8_1 + 1))) = true := decide_eq_true c31
                        by_cases c32 : (wrap64 (x8_1 + 1)) ≤ (a1.size : Int)
                        · rw [if_pos c32] at H
                          have c32b0 := eq_true c32
                          have c32b1 : decide ((wrap64 (x8_1 + 1)) ≤ (a1.size : Int)) = true := decide_eq_true c32
                          by_cases c33 : x7_1.size + (a1.extract (x8_1 : Int).toNat ((wrap64 (x8_1 + 1)) : Int).toNat).size ≤ 9223372036854775807
                          · rw [if_pos c33] at H
                            have c33b0 := eq_true c33
                            have c33b1 : decide (x7_1.size + (a1.extract (x8_1 : Int).toNat ((wrap64 (x8_1 + 1)) : Int).toNat).size ≤ 9223372036854775807) = true := decide_eq_true c33
                            try have c33b2 : (9223372036854775807 < x7_1.size + (a1.extract (x8_1 : Int).toNat ((wrap64 (x8_1 + 1)) : Int).toNat).size) = False := eq_false (Nat.not_lt.2 c33)
                            (try (have c33b0x : (x7_1.size + (((wrap64 (x8_1 + 1)) : Int).toNat - (x8_1 : Int).toNat : Nat) ≤ 9223372036854775807) = True := by have h_ := c33b0; rw [show (a1.extract (x8_1 : Int).toNat ((wrap64 (x8_1 + 1)) : Int).toNat).size = (((wrap64 (x8_1 + 1)) : Int).toNat - (x8_1 : Int).toNat : Nat) by rw [ByteArray.size_extract]; omega] at h_; exact h_))
                            (try (have c33b1x : decide (x7_1.size + (((wrap64 (x8_1 + 1)) : Int).toNat - (x8_1 : Int).toNat : Nat) ≤ 9223372036854775807) = true := by have h_ := c33b1; rw [show (a1.extract (x8_1 : Int).toNat ((wrap64 (x8_1 + 1)) : Int).toNat).size = (((wrap64 (x8_1 + 1)) : Int).toNat - (x8_1 : Int).toNat : Nat) by rw [ByteArray.size_extract]; omega] at h_; exact h_))
                            (try (have c33b3 := c33b1; simp only [ByteArray.size_extract, Nat.min_self] at c33b3))
                            (try (have c33b4 := eq_true (of_decide_eq_true c33b3)))
                            (try (have c31b0w : x8_1 ≤ ((x8_1 + 1)) := by have h_ := c31b0; rw [show wrap64 (x8_1 + 1) = (x8_1 + 1) by unfold wrap64; omega] at h_; exact h_))
                            (try (have c31b1w : x8_1 ≤ ((x8_1 + 1)) := by have h_ := c31b1; rw [show wrap64 (x8_1 + 1) = (x8_1 + 1) by unfold wrap64; omega] at h_; exact h_))
                            (try (have c31w : x8_1 ≤ ((x8_1 + 1)) := by have h_ := c31; rw [show wrap64 (x8_1 + 1) = (x8_1 + 1) by unfold wrap64; omega] at h_; exact h_))
                            (try (have c32b0w : ((x8_1 + 1)) ≤ (a1.size : Int) := by have h_ := c32b0; rw [show wrap64 (x8_1 + 1) = (x8_1 + 1) by unfold wrap64; omega] at h_; exact h_))
                            (try (have c32b1w : ((x8_1 + 1)) ≤ (a1.size : Int) := by have h_ := c32b1; rw [show wrap64 (x8_1 + 1) = (x8_1 + 1) by unfold wrap64; omega] at h_; exact h_))
                            (try (have c32w : ((x8_1 + 1)) ≤ (a1.size : Int) := by have h_ := c32; rw [show wrap64 (x8_1 + 1) = (x8_1 + 1) by unfold wrap64; omega] at h_; exact h_))
                            have H' := Aside0.mk H
                            clear H
                            have p27 : 0 ≤ (x8_1 : Int) := of_decide_eq_true (by first | (with_reducible assumption) | assumption)
                            have q27 : x8_1 < (a1.size : Int) := of_decide_eq_true (by first | (with_reducible assumption) | assumption)
                            have hx27 := bt_at a1 x8_1
                            replace p27 := eq_true p27
                            replace q27 := eq_true q27
                            go_wp2
                            go_roundg k1
                            case measure => have := HK1.out; omega
                            case rel => exact ⟨(x7_1 ++ (a1.extract (x8_1 : Int).toNat ((wrap64 (x8_1 + 1)) : Int).toNat)), (wrap64 (x8_1 + 1)), (by first | rfl | (simp; done) | (simp [isEmpty_ne]; done) | (simp [*]; done)), (by first | rfl | (simp; done) | (simp [isEmpty_ne]; done) | (simp [*]; done)), H', ⟨by have := HK1.out; omega⟩, ⟨by (with_reducible repeat (first | apply Kd.V_alloc | apply Kd.V_drewN | apply Kd.V_drew)); exact HO_401002.out⟩, ⟨by (with_reducible repeat (first | refine blk_drewN ?_ _ | refine blk_drew ?_ | refine blk_alloc ?_ _)); exact BK390.out⟩, ⟨by (with_reducible repeat (first | refine blk_drewN ?_ _ | refine blk_drew ?_ | refine blk_alloc ?_ _)); exact BK400.out⟩, ⟨by repeat (first | (with_reducible first | exact HB.out | apply below_alloc | apply pw_below_drewN | apply below_drew1 | refine below_set ?_ GE390.out | refine below_set ?_ GE400.out) | exact HB.out)⟩⟩
                          · rw [if_neg c33] at H
                            exact absurd H (by simp)
                        · rw [if_neg c32] at H
                          exact absurd H (by simp)
                      · rw [if_neg c31] at H
                        exact absurd H (by simp)
                  · rw [if_neg c26] at H
                    exact absurd H (by simp)
                · rw [if_neg c25] at H
                  exact absurd H (by simp)
              · rw [if_neg c24] at H
                have c24b0 : decide (x8_1 < t399) = false := decide_eq_false c24
                clear c24
                replace H := Option.bind_eq_some_iff.mp H
                obtain ⟨t401, A340, H⟩ := H
                replace H : (if t401.toList = x7_1.toList then (if t399 = (a1.size : Int) then ((emulatorlaw43_alive.f k1).bind fun t402 => (some t402)) else (if (t398.size : Int) ≥ 255 then ((emulatorlaw43_alive.f k1).bind fun t403 => (some t403)) else (none))) else (none)) = some r := H
                have A34 := Aside0.mk A340
                clear A340
                by_cases c35 : t401.toList = x7_1.toList
                · rw [if_pos c35] at H
                  have c35b0 : (t401.toList == x7_1.toList) = true := beq_iff_eq.mpr c35
                  have c35b1 : (t401.toList != x7_1.toList) = false := bne_eq_false_iff_eq.mpr c35
                  clear c35
                  by_cases c36 : t399 = (a1.size : Int)
                  · rw [if_pos c36] at H
                    have c36b0 : (t399 == (a1.size : Int)) = true := beq_iff_eq.mpr c36
                    have c36b1 : (t399 != (a1.size : Int)) = false := bne_eq_false_iff_eq.mpr c36
                    clear c36
                    replace H := Option.bind_eq_some_iff.mp H
                    obtain ⟨t402, A370, H⟩ := H
                    replace H : (some t402) = some r := H
                    have A37 := Aside0.mk A370
                    clear A370
                    obtain rfl := Option.some.inj H
                    have hnb38 := NB400_390.out
                    have hnc38 := NB390_400.out
                    have hcz39_0 : wr.cell? ⟨gb400, 0, none⟩ = some (.bool t393) := (blk_cell BK400.out 0).trans rfl
                    have hcz39_1 : wr.cell? ⟨gb400, 1, none⟩ = some (.string t394) := (blk_cell BK400.out 1).trans rfl
                    have hcz39_2 : wr.cell? ⟨gb400, 2, none⟩ = some (.slice Ao22 t395.length co22) := (blk_cell BK400.out 2).trans rfl
                    have hcz39_3 : wr.cell? ⟨gb400, 3, none⟩ = some (.string t398) := (blk_cell BK400.out 3).trans rfl
                    have hfz39_0 := blk_frozen BK400.out 0
                    have hfz39_1 := blk_frozen BK400.out 1
                    have hfz39_2 := blk_frozen BK400.out 2
                    have hfz39_3 := blk_frozen BK400.out 3
                    go_wp2_with (first | ((with_reducible refine gate_callee (f := 17) rfl ?_); refine goesL_ (some 53) rfl rfl Try.func17 (by kernel_rfl) rfl #[.agg #[.bool t393, .string t394, .slice Ao22 t395.length co22, .string t398]] rfl (by (try simp only [List.map_toArray, List.map_cons, List.map_nil]); first | done | rfl | (simp only [List.length_drop, List.length_take]; rfl)) ?_; (with_reducible refine (emulatorlaw43_drain.calls k1 t393 t394 (fun k_ => (k_ ≠ gb390 ∧ k_ ≠ gb400)) _ _ t395 t398 t401 _ ?side1 A34.out).mono ?_); (case side1 => exact HO_401002.out); rintro e w40 ⟨rfl, hb⟩; refine ⟨_, rfl, ?_⟩; have n0_ := Aside0.mk (Kd.V_below (by (with_reducible repeat (first | apply Kd.V_alloc | apply Kd.V_drewN | apply Kd.V_drew)); exact HO_401002.out) hb); have n1_ := Aside0.mk (blk_below (g := gb390) (o := .cells #[.bool a0_0, .string a0_1, .slice A0_2 l0_2.length c0_2, .string a0_3] 24 (0, 0)) (by (with_reducible repeat (first | refine blk_drewN ?_ _ | refine blk_drew ?_ | refine blk_alloc ?_ _)); exact BK390.out) hb); have n2_ := Aside0.mk (blk_below (g := gb400) (o := .cells #[.bool t393, .string t394, .slice Ao22 t395.length co22, .string t398] 24 (0, 0)) (by (with_reducible repeat (first | refine blk_drewN ?_ _ | refine blk_drew ?_ | refine blk_alloc ?_ _)); exact BK400.out) hb); have n3_ := Aside0.mk (below_step (by repeat (first | (with_reducible first | exact HB.out | apply below_alloc | apply pw_below_drewN | apply below_drew1 | refine below_set ?_ GE390.out | refine below_set ?_ GE400.out) | exact HB.out)) hb); clear HO_401002; clear BK390; clear BK400; clear HB; have HO_401002 := n0_; have BK390 := n1_; have BK400 := n2_; have HB := n3_; clear n0_ n1_ n2_ n3_; (try clear hb); (try clear hb2); (try clear hk); (try clear hi)) | (go_at_call 11; (with_reducible refine (emulatorlaw43_alive.calls k1  t402 _ A37.out).mono ?_); rintro e w41 ⟨rfl, hb⟩; have n0_ := Aside0.mk (Kd.V_below (by (with_reducible repeat (first | apply Kd.V_alloc | apply Kd.V_drewN | apply Kd.V_drew)); exact HO_401002.out) hb); have n1_ := Aside0.mk (blk_below (g := gb390) (o := .cells #[.bool a0_0, .string a0_1, .slice A0_2 l0_2.length c0_2, .string a0_3] 24 (0, 0)) (by (with_reducible repeat (first | refine blk_drewN ?_ _ | refine blk_drew ?_ | refine blk_alloc ?_ _)); exact BK390.out) hb); have n2_ := Aside0.mk (blk_below (g := gb400) (o := .cells #[.bool t393, .string t394, .slice Ao22 t395.length co22, .string t398] 24 (0, 0)) (by (with_reducible repeat (first | refine blk_drewN ?_ _ | refine blk_drew ?_ | refine blk_alloc ?_ _)); exact BK400.out) hb); have n3_ := Aside0.mk (below_step (by repeat (first | (with_reducible first | exact HB.out | apply below_alloc | apply pw_below_drewN | apply below_drew1 | refine below_set ?_ GE390.out | refine below_set ?_ GE400.out) | exact HB.out)) hb); clear HO_401002; clear BK390; clear BK400; clear HB; have HO_401002 := n0_; have BK390 := n1_; have BK400 := n2_; have HB := n3_; clear n0_ n1_ n2_ n3_; (try clear hb); (try clear hb2); (try clear hk); (try clear hi)))
                    go_ret
                    exact ⟨by first | rfl | (simp [errW_none, errW_some] <;> rfl) | (simp [*, errW_none, errW_some] <;> rfl), by repeat (first | (with_reducible first | exact HB.out | apply below_alloc | apply pw_below_drewN | apply below_drew1 | refine below_set ?_ GE390.out | refine below_set ?_ GE400.out) | exact HB.out)⟩
                  · rw [if_neg c36] at H
                    have c36b0 : (t399 == (a1.size : Int)) = false := beq_eq_false_iff_ne.mpr c36
                    have c36b1 : (t399 != (a1.size : Int)) = true := bne_iff_ne.mpr c36
                    by_cases c42 : (t398.size : Int) ≥ 255
                    · rw [if_pos c42] at H
                      have c42b0 : decide (255 ≤ (t398.size : Int)) = true := decide_eq_true c42
                      have c42b1 : decide (255 ≤ t398.size) = true := decide_eq_true (by omega)
                      clear c42
                      replace H := Option.bind_eq_some_iff.mp H
                      obtain ⟨t403, A430, H⟩ := H
                      replace H : (some t403) = some r := H
                      have A43 := Aside0.mk A430
                      clear A430
                      obtain rfl := Option.some.inj H
                      have hnb44 := NB400_390.out
                      have hnc44 := NB390_400.out
                      have hcz45_0 : wr.cell? ⟨gb400, 0, none⟩ = some (.bool t393) := (blk_cell BK400.out 0).trans rfl
                      have hcz45_1 : wr.cell? ⟨gb400, 1, none⟩ = some (.string t394) := (blk_cell BK400.out 1).trans rfl
                      have hcz45_2 : wr.cell? ⟨gb400, 2, none⟩ = some (.slice Ao22 t395.length co22) := (blk_cell BK400.out 2).trans rfl
                      have hcz45_3 : wr.cell? ⟨gb400, 3, none⟩ = some (.string t398) := (blk_cell BK400.out 3).trans rfl
                      have hfz45_0 := blk_frozen BK400.out 0
                      have hfz45_1 := blk_frozen BK400.out 1
                      have hfz45_2 := blk_frozen BK400.out 2
                      have hfz45_3 := blk_frozen BK400.out 3
                      go_wp2_with (first | ((with_reducible refine gate_callee (f := 17) rfl ?_); refine goesL_ (some 53) rfl rfl Try.func17 (by kernel_rfl) rfl #[.agg #[.bool t393, .string t394, .slice Ao22 t395.length co22, .string t398]] rfl (by (try simp only [List.map_toArray, List.map_cons, List.map_nil]); first | done | rfl | (simp only [List.length_drop, List.length_take]; rfl)) ?_; (with_reducible refine (emulatorlaw43_drain.calls k1 t393 t394 (fun k_ => (k_ ≠ gb390 ∧ k_ ≠ gb400)) _ _ t395 t398 t401 _ ?side1 A34.out).mono ?_); (case side1 => exact HO_401002.out); rintro e w46 ⟨rfl, hb⟩; refine ⟨_, rfl, ?_⟩; have n0_ := Aside0.mk (Kd.V_below (by (with_reducible repeat (first | apply Kd.V_alloc | apply Kd.V_drewN | apply Kd.V_drew)); exact HO_401002.out) hb); have n1_ := Aside0.mk (blk_below (g := gb390) (o := .cells #[.bool a0_0, .string a0_1, .slice A0_2 l0_2.length c0_2, .string a0_3] 24 (0, 0)) (by (with_reducible repeat (first | refine blk_drewN ?_ _ | refine blk_drew ?_ | refine blk_alloc ?_ _)); exact BK390.out) hb); have n2_ := Aside0.mk (blk_below (g := gb400) (o := .cells #[.bool t393, .string t394, .slice Ao22 t395.length co22, .string t398] 24 (0, 0)) (by (with_reducible repeat (first | refine blk_drewN ?_ _ | refine blk_drew ?_ | refine blk_alloc ?_ _)); exact BK400.out) hb); have n3_ := Aside0.mk (below_step (by repeat (first | (with_reducible first | exact HB.out | apply below_alloc | apply pw_below_drewN | apply below_drew1 | refine below_set ?_ GE390.out | refine below_set ?_ GE400.out) | exact HB.out)) hb); clear HO_401002; clear BK390; clear BK400; clear HB; have HO_401002 := n0_; have BK390 := n1_; have BK400 := n2_; have HB := n3_; clear n0_ n1_ n2_ n3_; (try clear hb); (try clear hb2); (try clear hk); (try clear hi); have hcz47_0 : w46.cell? ⟨gb400, 0, none⟩ = some (.bool t393) := (blk_cell BK400.out 0).trans rfl; have hcz47_1 : w46.cell? ⟨gb400, 1, none⟩ = some (.string t394) := (blk_cell BK400.out 1).trans rfl; have hcz47_2 : w46.cell? ⟨gb400, 2, none⟩ = some (.slice Ao22 t395.length co22) := (blk_cell BK400.out 2).trans rfl; have hcz47_3 : w46.cell? ⟨gb400, 3, none⟩ = some (.string t398) := (blk_cell BK400.out 3).trans rfl; have hfz47_0 := blk_frozen BK400.out 0; have hfz47_1 := blk_frozen BK400.out 1; have hfz47_2 := blk_frozen BK400.out 2; have hfz47_3 := blk_frozen BK400.out 3) | (go_at_call 11; (with_reducible refine (emulatorlaw43_alive.calls k1  t403 _ A43.out).mono ?_); rintro e w48 ⟨rfl, hb⟩; have n0_ := Aside0.mk (Kd.V_below (by (with_reducible repeat (first | apply Kd.V_alloc | apply Kd.V_drewN | apply Kd.V_drew)); exact HO_401002.out) hb); have n1_ := Aside0.mk (blk_below (g := gb390) (o := .cells #[.bool a0_0, .string a0_1, .slice A0_2 l0_2.length c0_2, .string a0_3] 24 (0, 0)) (by (with_reducible repeat (first | refine blk_drewN ?_ _ | refine blk_drew ?_ | refine blk_alloc ?_ _)); exact BK390.out) hb); have n2_ := Aside0.mk (blk_below (g := gb400) (o := .cells #[.bool t393, .string t394, .slice Ao22 t395.length co22, .string t398] 24 (0, 0)) (by (with_reducible repeat (first | refine blk_drewN ?_ _ | refine blk_drew ?_ | refine blk_alloc ?_ _)); exact BK400.out) hb); have n3_ := Aside0.mk (below_step (by repeat (first | (with_reducible first | exact HB.out | apply below_alloc | apply pw_below_drewN | apply below_drew1 | refine below_set ?_ GE390.out | refine below_set ?_ GE400.out) | exact HB.out)) hb); clear HO_401002; clear BK390; clear BK400; clear HB; have HO_401002 := n0_; have BK390 := n1_; have BK400 := n2_; have HB := n3_; clear n0_ n1_ n2_ n3_; (try clear hb); (try clear hb2); (try clear hk); (try clear hi)))
                      go_ret
                      exact ⟨by first | rfl | (simp [errW_none, errW_some] <;> rfl) | (simp [*, errW_none, errW_some] <;> rfl), by repeat (first | (with_reducible first | exact HB.out | apply below_alloc | apply pw_below_drewN | apply below_drew1 | refine below_set ?_ GE390.out | refine below_set ?_ GE400.out) | exact HB.out)⟩
                    · rw [if_neg c42] at H
                      exact absurd H (by simp)
                · rw [if_neg c35] at H
                  exact absurd H (by simp)
  · replace c4 := Bool.eq_false_iff.mpr c4
    subst c4
    have H1 : ((emulatorlaw43_alive.f k).bind fun t404 => (some t404)) = some r := by rw [if_neg (show ¬ (false = true) by decide)] at H; exact H
    clear H
    have H := H1
    clear H1
    replace H := Option.bind_eq_some_iff.mp H
    obtain ⟨t404, A490, H⟩ := H
    replace H : (some t404) = some r := H
    have A49 := Aside0.mk A490
    clear A490
    obtain rfl := Option.some.inj H
    go_enter Try.func5, Try.ntmps5
    go_wp2_with (first | ((with_reducible refine gate_dst (N := 2) rfl ?_); refine box_event ?hg (N := 2) ?hd (cs := #[.bool a0_0, .string a0_1, .slice A0_2 l0_2.length c0_2, .string a0_3]) (t := 24) ?hr ?_; (case hd => rfl); (case hg => rfl); (case hr => first | (go_simp; done) | (go_simp; rfl)); intro gb390 hg w50 hbox hb; have n0_ := Aside0.mk (below_step (by repeat (first | (with_reducible first | exact HB.out | apply below_alloc | apply pw_below_drewN | apply below_drew1) | exact HB.out)) hb); have n1_ := Aside0.mk (hbox); have n2_ := Aside0.mk ((by rw [hg]; exact (below_size (by repeat (first | (with_reducible first | exact HB.out | apply below_alloc | apply pw_below_drewN | apply below_drew1) | exact HB.out))) : w.heap.size ≤ gb390)); have n3_ := Aside0.mk ((by rw [hg]; exact (below_size (by repeat (first | (with_reducible first | exact HB.out | apply below_alloc | apply pw_below_drewN | apply below_drew1) | exact HB.out))) : w.heap.size ≤ gb390)); clear HB; have HB := n0_; have BK390 := n1_; have GW390 := n2_; have GE390 := n3_; clear n0_ n1_ n2_ n3_; clear hb hbox hg; have hcz51_0 : w50.cell? ⟨gb390, 0, none⟩ = some (.bool a0_0) := (blk_cell BK390.out 0).trans rfl; have hcz51_1 : w50.cell? ⟨gb390, 1, none⟩ = some (.string a0_1) := (blk_cell BK390.out 1).trans rfl; have hcz51_2 : w50.cell? ⟨gb390, 2, none⟩ = some (.slice A0_2 l0_2.length c0_2) := (blk_cell BK390.out 2).trans rfl; have hcz51_3 : w50.cell? ⟨gb390, 3, none⟩ = some (.string a0_3) := (blk_cell BK390.out 3).trans rfl; have hfz51_0 := blk_frozen BK390.out 0; have hfz51_1 := blk_frozen BK390.out 1; have hfz51_2 := blk_frozen BK390.out 2; have hfz51_3 := blk_frozen BK390.out 3) | ((with_reducible refine gate_callee (f := 10) rfl ?_); refine goesL_ (some 10) rfl rfl Try.func10 (by kernel_rfl) rfl #[.agg #[.bool a0_0, .string a0_1, .slice A0_2 l0_2.length c0_2, .string a0_3]] rfl (by (try simp only [List.map_toArray, List.map_cons, List.map_nil]); first | done | rfl | (simp only [List.length_drop, List.length_take]; rfl)) ?_; (with_reducible refine (emulatorlaw43_good.calls k a0_0 a0_1 _ _ l0_2 a0_3 false _ ?side1 ?side2 A3.out).mono ?_); (case side1 => repeat (first | exact (Kd.C_below HR0_2.out HB.out) | (with_reducible refine Kd.C_alloc ?_ _) | (with_reducible refine Kd.C_drewN ?_ _) | (with_reducible refine Kd.C_drew ?_))); (case side2 => exact HC0_2.out); rintro e w52 ⟨rfl, hb⟩; refine ⟨_, rfl, ?_⟩; have n0_ := Aside0.mk (blk_below (g := gb390) (o := .cells #[.bool a0_0, .string a0_1, .slice A0_2 l0_2.length c0_2, .string a0_3] 24 (0, 0)) (by (with_reducible repeat (first | refine blk_drewN ?_ _ | refine blk_drew ?_ | refine blk_alloc ?_ _)); exact BK390.out) hb); have n1_ := Aside0.mk (below_step (by repeat (first | (with_reducible first | exact HB.out | apply below_alloc | apply pw_below_drewN | apply below_drew1 | refine below_set ?_ GE390.out) | exact HB.out)) hb); clear BK390; clear HB; have BK390 := n0_; have HB := n1_; clear n0_ n1_; (try clear hb); (try clear hb2); (try clear hk); (try clear hi)) | ((with_reducible refine gate_callee (f := 11) rfl ?_); refine goesL_ (some 17) rfl rfl Try.func11 (by kernel_rfl) rfl #[] rfl (by (try simp only [List.map_toArray, List.map_cons, List.map_nil]); first | done | rfl | (simp only [List.length_drop, List.length_take]; rfl)) ?_; (with_reducible refine (emulatorlaw43_alive.calls k  t404 _ A49.out).mono ?_); rintro e w53 ⟨rfl, hb⟩; refine ⟨_, rfl, ?_⟩; have n0_ := Aside0.mk (blk_below (g := gb390) (o := .cells #[.bool a0_0, .string a0_1, .slice A0_2 l0_2.length c0_2, .string a0_3] 24 (0, 0)) (by (with_reducible repeat (first | refine blk_drewN ?_ _ | refine blk_drew ?_ | refine blk_alloc ?_ _)); exact BK390.out) hb); have n1_ := Aside0.mk (below_step (by repeat (first | (with_reducible first | exact HB.out | apply below_alloc | apply pw_below_drewN | apply below_drew1 | refine below_set ?_ GE390.out) | exact HB.out)) hb); clear BK390; clear HB; have BK390 := n0_; have HB := n1_; clear n0_ n1_; (try clear hb); (try clear hb2); (try clear hk); (try clear hi)))
    go_ret
    exact ⟨by first | rfl | (simp [errW_none, errW_some] <;> rfl) | (simp [*, errW_none, errW_some] <;> rfl), by repeat (first | (with_reducible first | exact HB.out | apply below_alloc | apply pw_below_drewN | apply below_drew1 | refine below_set ?_ GE390.out) | exact HB.out)⟩

end Go.Proofs.Ytgcmhfoegbaaiaa.K
