-- Printed by a program of this session out of Lean's print of the translation. Lean checks it.
import Derived.Test.YtgcmhfoegbaaiaaKx0
import Derived.Test.YtgcmhfoegbaaiaaKx4
import Derived.Test.YtgcmhfoegbaaiaaKx8
import Derived.Test.YtgcmhfoegbaaiaaKx9
import Derived.Test.YtgcmhfoegbaaiaaKx11
namespace Go.Proofs.Ytgcmhfoegbaaiaa.K
open Go.RowKit Go.Proofs.YtgcmhfoegbaaiaaW.PrintWords Go.Proofs.YtgcmhfoegbaaiaaW.PrintLast
set_option linter.unusedVariables false
set_option linter.unusedSimpArgs false

/-! ### emulatorlaw43_TtyLines: function 3 -/
mutual
def emulatorlaw43_TtyLines.l0 : Nat → ByteArray → Int → Int → Bool → ByteArray → List ByteArray → ByteArray → Option (Bool)
  | 0, _, _, _, _, _, _, _ => none
  | k + 1, x1, x2, x7, x288000, x288001, x288002, x288003 => if x7 < (x1.size : Int) then (if 0 ≤ x7 then (if (bt x1 x7) < 32 then (if (bt x1 x7) = 9 then (emulatorlaw43_TtyLines.l0 k x1 x2 (wrap64 (x7 + 1)) x288000 x288001 x288002 x288003) else ((emulatorlaw43_alive.f k).bind fun t292 => (some t292))) else (if (bt x1 x7) > 126 then (if (bt x1 x7) = 9 then (emulatorlaw43_TtyLines.l0 k x1 x2 (wrap64 (x7 + 1)) x288000 x288001 x288002 x288003) else ((emulatorlaw43_alive.f k).bind fun t293 => (some t293))) else (emulatorlaw43_TtyLines.l0 k x1 x2 (wrap64 (x7 + 1)) x288000 x288001 x288002 x288003))) else (none)) else ((emulatorlaw43_typed.f k x288000 x288001 ([] : List ByteArray) x288003 x1).bind fun bt294 => ((emulatorlaw43_typed.f k bt294.1 bt294.2.1 bt294.2.2.1 bt294.2.2.2 (⟨#[113, 8]⟩ : ByteArray)).bind fun bt301 => ((emulatorlaw43_typed.f k bt301.1 bt301.2.1 bt301.2.2.1 bt301.2.2.2 (⟨#[10]⟩ : ByteArray)).bind fun bt308 => (emulatorlaw43_TtyLines.l1 k x1 x2 (⟨#[]⟩ : ByteArray) 0 bt294.1 bt294.2.1 bt294.2.2.1 bt294.2.2.2 bt301.1 bt301.2.1 bt301.2.2.1 bt301.2.2.2 bt308.1 bt308.2.1 bt308.2.2.1 bt308.2.2.2))))
def emulatorlaw43_TtyLines.l1 : Nat → ByteArray → Int → ByteArray → Int → Bool → ByteArray → List ByteArray → ByteArray → Bool → ByteArray → List ByteArray → ByteArray → Bool → ByteArray → List ByteArray → ByteArray → Option (Bool)
  | 0, _, _, _, _, _, _, _, _, _, _, _, _, _, _, _, _ => none
  | k + 1, x1, x2, x11, x12, x301000, x301001, x301002, x301003, x308000, x308001, x308002, x308003, x315000, x315001, x315002, x315003 => if x12 < 100 then (if (x315002.length : Int) > 0 then ((tty_Read.f x315000 x315001 x315002 x315003 (wrap64 (1 + (wrap64 (Int.tmod x2 20))))).bind fun bt315 => (if bt315.2.2.2.2.2 = 0 then (if x11.size + bt315.2.2.2.2.1.size ≤ 9223372036854775807 then (emulatorlaw43_TtyLines.l1 k x1 x2 (x11 ++ bt315.2.2.2.2.1) (wrap64 (x12 + 1)) x301000 x301001 x301002 x301003 x308000 x308001 x308002 x308003 bt315.1 bt315.2.1 bt315.2.2.1 bt315.2.2.2.1) else (none)) else (none))) else (if x301001.toList = x1.toList then (if x308001.toList = x1.toList then (if x1.size + 1 ≤ 9223372036854775807 then (if x11.toList = (x1 ++ (⟨#[10]⟩ : ByteArray)).toList then (if x315001.toList = ([] : List UInt8) then ((emulatorlaw43_alive.f k).bind fun t324 => (some t324)) else (none)) else (none)) else (none)) else (none)) else (none))) else (if x301001.toList = x1.toList then (if x308001.toList = x1.toList then (if x1.size + 1 ≤ 9223372036854775807 then (if x11.toList = (x1 ++ (⟨#[10]⟩ : ByteArray)).toList then (if x315001.toList = ([] : List UInt8) then ((emulatorlaw43_alive.f k).bind fun t325 => (some t325)) else (none)) else (none)) else (none)) else (none)) else (none))
end
def emulatorlaw43_TtyLines.f (k : Nat) (a0_0 : Bool) (a0_1 : ByteArray) (l0_2 : List ByteArray) (a0_3 : ByteArray) (a1 : ByteArray) (a2 : Int) : Option (Bool) := (emulatorlaw43_good.f k a0_0 a0_1 l0_2 a0_3).bind fun t288 => (if t288 = true then (if a0_0 = true then ((emulatorlaw43_alive.f k).bind fun t289 => (some t289)) else (if a0_1.toList = ([] : List UInt8) then (if (l0_2.length : Int) > 15 then ((emulatorlaw43_alive.f k).bind fun t290 => (some t290)) else (if (a1.size : Int) > 78 then ((emulatorlaw43_alive.f k).bind fun t291 => (some t291)) else (emulatorlaw43_TtyLines.l0 k a1 a2 0 a0_0 a0_1 l0_2 a0_3))) else ((emulatorlaw43_alive.f k).bind fun t326 => (some t326)))) else ((emulatorlaw43_alive.f k).bind fun t327 => (some t327)))
theorem emulatorlaw43_TtyLines.mono_l : ∀ k, (∀ y0 y1 y2 y3 y4 y5 y6, LeO (emulatorlaw43_TtyLines.l0 k y0 y1 y2 y3 y4 y5 y6) (emulatorlaw43_TtyLines.l0 (k + 1) y0 y1 y2 y3 y4 y5 y6)) ∧ (∀ y0 y1 y2 y3 y4 y5 y6 y7 y8 y9 y10 y11 y12 y13 y14 y15, LeO (emulatorlaw43_TtyLines.l1 k y0 y1 y2 y3 y4 y5 y6 y7 y8 y9 y10 y11 y12 y13 y14 y15) (emulatorlaw43_TtyLines.l1 (k + 1) y0 y1 y2 y3 y4 y5 y6 y7 y8 y9 y10 y11 y12 y13 y14 y15))
  | 0 => ⟨fun _ _ _ _ _ _ _ r h => by simp [emulatorlaw43_TtyLines.l0] at h, fun _ _ _ _ _ _ _ _ _ _ _ _ _ _ _ _ r h => by simp [emulatorlaw43_TtyLines.l1] at h⟩
  | k + 1 => by
    obtain ⟨ih0, ih1⟩ := emulatorlaw43_TtyLines.mono_l k
    refine ⟨?_, ?_⟩
    · intro y0 y1 y2 y3 y4 y5 y6
      unfold emulatorlaw43_TtyLines.l0
      repeat' first
      | (with_reducible exact ih0 _ _ _ _ _ _ _)
      | (with_reducible exact ih1 _ _ _ _ _ _ _ _ _ _ _ _ _ _ _ _)
      | (with_reducible exact emulatorlaw43_alive.mono _)
      | (with_reducible exact emulatorlaw43_good.mono _ _ _ _ _)
      | (with_reducible exact emulatorlaw43_typed.mono _ _ _ _ _ _)
      | (with_reducible exact LeO.refl _)
      | (with_reducible exact LeO.none _)
      | (with_reducible refine LeO.ite ?_ ?_)
      | (with_reducible refine LeO.bind ?_ (fun _ => ?_))
      | exact ih0 _ _ _ _ _ _ _
      | exact ih1 _ _ _ _ _ _ _ _ _ _ _ _ _ _ _ _
      | exact emulatorlaw43_alive.mono _
      | exact emulatorlaw43_good.mono _ _ _ _ _
      | exact emulatorlaw43_typed.mono _ _ _ _ _ _
      | exact LeO.none _
      | refine LeO.ite ?_ ?_
      | refine LeO.bind ?_ (fun _ => ?_)
    · intro y0 y1 y2 y3 y4 y5 y6 y7 y8 y9 y10 y11 y12 y13 y14 y15
      unfold emulatorlaw43_TtyLines.l1
      repeat' first
      | (with_reducible exact ih0 _ _ _ _ _ _ _)
      | (with_reducible exact ih1 _ _ _ _ _ _ _ _ _ _ _ _ _ _ _ _)
      | (with_reducible exact emulatorlaw43_alive.mono _)
      | (with_reducible exact emulatorlaw43_good.mono _ _ _ _ _)
      | (with_reducible exact emulatorlaw43_typed.mono _ _ _ _ _ _)
      | (with_reducible exact LeO.refl _)
      | (with_reducible exact LeO.none _)
      | (with_reducible refine LeO.ite ?_ ?_)
      | (with_reducible refine LeO.bind ?_ (fun _ => ?_))
      | exact ih0 _ _ _ _ _ _ _
      | exact ih1 _ _ _ _ _ _ _ _ _ _ _ _ _ _ _ _
      | exact emulatorlaw43_alive.mono _
      | exact emulatorlaw43_good.mono _ _ _ _ _
      | exact emulatorlaw43_typed.mono _ _ _ _ _ _
      | exact LeO.none _
      | refine LeO.ite ?_ ?_
      | refine LeO.bind ?_ (fun _ => ?_)
theorem emulatorlaw43_TtyLines.mono : ∀ a0 a1 a2 a3 a4 a5 k, LeO (emulatorlaw43_TtyLines.f k a0 a1 a2 a3 a4 a5) (emulatorlaw43_TtyLines.f (k + 1) a0 a1 a2 a3 a4 a5) := by
  intro a0 a1 a2 a3 a4 a5 k
  obtain ⟨ih0, ih1⟩ := emulatorlaw43_TtyLines.mono_l k
  unfold emulatorlaw43_TtyLines.f
  repeat' first
      | (with_reducible exact ih0 _ _ _ _ _ _ _)
      | (with_reducible exact ih1 _ _ _ _ _ _ _ _ _ _ _ _ _ _ _ _)
      | (with_reducible exact emulatorlaw43_alive.mono _)
      | (with_reducible exact emulatorlaw43_good.mono _ _ _ _ _)
      | (with_reducible exact emulatorlaw43_typed.mono _ _ _ _ _ _)
      | (with_reducible exact LeO.refl _)
      | (with_reducible exact LeO.none _)
      | (with_reducible refine LeO.ite ?_ ?_)
      | (with_reducible refine LeO.bind ?_ (fun _ => ?_))
      | exact ih0 _ _ _ _ _ _ _
      | exact ih1 _ _ _ _ _ _ _ _ _ _ _ _ _ _ _ _
      | exact emulatorlaw43_alive.mono _
      | exact emulatorlaw43_good.mono _ _ _ _ _
      | exact emulatorlaw43_typed.mono _ _ _ _ _ _
      | exact LeO.none _
      | refine LeO.ite ?_ ?_
      | refine LeO.bind ?_ (fun _ => ?_)
set_option maxHeartbeats 8000000 in
set_option maxRecDepth 100000 in
theorem emulatorlaw43_TtyLines.calls (k : Nat) (a0_0 : Bool) (a0_1 : ByteArray) (A0_2 : Option Addr) (c0_2 : Nat) (l0_2 : List ByteArray) (a0_3 : ByteArray) (a1 : ByteArray) (a2 : Int) (r : Bool) (w : World) (hr0_2 : Kd.C Kd.string w A0_2 l0_2.length l0_2) (hc0_2 : l0_2.length ≤ c0_2) (h : emulatorlaw43_TtyLines.f k a0_0 a0_1 l0_2 a0_3 a1 a2 = some r) :
    Calls Try.prog 3 #[.agg #[.bool a0_0, .string a0_1, .slice A0_2 l0_2.length c0_2, .string a0_3], .string a1, .int .u8 a2] w fun e w' => e = .returned (.bool r) ∧ Below w.heap.size w w' := by
  have hu24 := Try.underlying24
  have HR0_2 := Aside0.mk hr0_2
  have HC0_2 := Aside0.mk hc0_2
  clear hr0_2 hc0_2
  have HB := Aside0.mk (Below.refl w.heap.size w)
  have H : ((emulatorlaw43_good.f k a0_0 a0_1 l0_2 a0_3).bind fun t288 => (if t288 = true then (if a0_0 = true then ((emulatorlaw43_alive.f k).bind fun t289 => (some t289)) else (if a0_1.toList = ([] : List UInt8) then (if (l0_2.length : Int) > 15 then ((emulatorlaw43_alive.f k).bind fun t290 => (some t290)) else (if (a1.size : Int) > 78 then ((emulatorlaw43_alive.f k).bind fun t291 => (some t291)) else (emulatorlaw43_TtyLines.l0 k a1 a2 0 a0_0 a0_1 l0_2 a0_3))) else ((emulatorlaw43_alive.f k).bind fun t326 => (some t326)))) else ((emulatorlaw43_alive.f k).bind fun t327 => (some t327)))) = some r := h
  clear h
  replace H := Option.bind_eq_some_iff.mp H
  obtain ⟨t288, A40, H⟩ := H
  replace H : (if t288 = true then (if a0_0 = true then ((emulatorlaw43_alive.f k).bind fun t289 => (some t289)) else (if a0_1.toList = ([] : List UInt8) then (if (l0_2.length : Int) > 15 then ((emulatorlaw43_alive.f k).bind fun t290 => (some t290)) else (if (a1.size : Int) > 78 then ((emulatorlaw43_alive.f k).bind fun t291 => (some t291)) else (emulatorlaw43_TtyLines.l0 k a1 a2 0 a0_0 a0_1 l0_2 a0_3))) else ((emulatorlaw43_alive.f k).bind fun t326 => (some t326)))) else ((emulatorlaw43_alive.f k).bind fun t327 => (some t327))) = some r := H
  have A4 := Aside0.mk A40
  clear A40
  by_cases c5 : t288 = true
  · subst c5
    have H1 : (if a0_0 = true then ((emulatorlaw43_alive.f k).bind fun t289 => (some t289)) else (if a0_1.toList = ([] : List UInt8) then (if (l0_2.length : Int) > 15 then ((emulatorlaw43_alive.f k).bind fun t290 => (some t290)) else (if (a1.size : Int) > 78 then ((emulatorlaw43_alive.f k).bind fun t291 => (some t291)) else (emulatorlaw43_TtyLines.l0 k a1 a2 0 a0_0 a0_1 l0_2 a0_3))) else ((emulatorlaw43_alive.f k).bind fun t326 => (some t326)))) = some r := by rw [if_pos rfl] at H; exact H
    clear H
    have H := H1
    clear H1
    by_cases c6 : a0_0 = true
    · subst c6
      have H1 : ((emulatorlaw43_alive.f k).bind fun t289 => (some t289)) = some r := by rw [if_pos rfl] at H; exact H
      clear H
      have H := H1
      clear H1
      replace H := Option.bind_eq_some_iff.mp H
      obtain ⟨t289, A70, H⟩ := H
      replace H : (some t289) = some r := H
      have A7 := Aside0.mk A70
      clear A70
      obtain rfl := Option.some.inj H
      go_enter Try.func3, Try.ntmps3
      go_wp2_with (first | ((with_reducible refine gate_dst (N := 3) rfl ?_); refine box_event ?hg (N := 3) ?hd (cs := #[.bool true, .string a0_1, .slice A0_2 l0_2.length c0_2, .string a0_3]) (t := 24) ?hr ?_; (case hd => rfl); (case hg => rfl); (case hr => first | (go_simp; done) | (go_simp; rfl)); intro gb287 hg w8 hbox hb; have n0_ := Aside0.mk (below_step (by repeat (first | (with_reducible first | exact HB.out | apply below_alloc | apply pw_below_drewN | apply below_drew1) | exact HB.out)) hb); have n1_ := Aside0.mk (hbox); have n2_ := Aside0.mk ((by rw [hg]; exact (below_size (by repeat (first | (with_reducible first | exact HB.out | apply below_alloc | apply pw_below_drewN | apply below_drew1) | exact HB.out))) : w.heap.size ≤ gb287)); have n3_ := Aside0.mk ((by rw [hg]; exact (below_size (by repeat (first | (with_reducible first | exact HB.out | apply below_alloc | apply pw_below_drewN | apply below_drew1) | exact HB.out))) : w.heap.size ≤ gb287)); clear HB; have HB := n0_; have BK287 := n1_; have GW287 := n2_; have GE287 := n3_; clear n0_ n1_ n2_ n3_; clear hb hbox hg; have hcz9_0 : w8.cell? ⟨gb287, 0, none⟩ = some (.bool true) := (blk_cell BK287.out 0).trans rfl; have hcz9_1 : w8.cell? ⟨gb287, 1, none⟩ = some (.string a0_1) := (blk_cell BK287.out 1).trans rfl; have hcz9_2 : w8.cell? ⟨gb287, 2, none⟩ = some (.slice A0_2 l0_2.length c0_2) := (blk_cell BK287.out 2).trans rfl; have hcz9_3 : w8.cell? ⟨gb287, 3, none⟩ = some (.string a0_3) := (blk_cell BK287.out 3).trans rfl; have hfz9_0 := blk_frozen BK287.out 0; have hfz9_1 := blk_frozen BK287.out 1; have hfz9_2 := blk_frozen BK287.out 2; have hfz9_3 := blk_frozen BK287.out 3) | ((with_reducible refine gate_callee (f := 10) rfl ?_); refine goesL_ (some 17) rfl rfl Try.func10 (by kernel_rfl) rfl #[.agg #[.bool true, .string a0_1, .slice A0_2 l0_2.length c0_2, .string a0_3]] rfl (by (try simp only [List.map_toArray, List.map_cons, List.map_nil]); first | done | rfl | (simp only [List.length_drop, List.length_take]; rfl)) ?_; (with_reducible refine (emulatorlaw43_good.calls k true a0_1 _ _ l0_2 a0_3 true _ ?side1 ?side2 A4.out).mono ?_); (case side1 => repeat (first | exact (Kd.C_below HR0_2.out HB.out) | (with_reducible refine Kd.C_alloc ?_ _) | (with_reducible refine Kd.C_drewN ?_ _) | (with_reducible refine Kd.C_drew ?_))); (case side2 => exact HC0_2.out); rintro e w10 ⟨rfl, hb⟩; refine ⟨_, rfl, ?_⟩; have n0_ := Aside0.mk (blk_below (g := gb287) (o := .cells #[.bool true, .string a0_1, .slice A0_2 l0_2.length c0_2, .string a0_3] 24 (0, 0)) (by (with_reducible repeat (first | refine blk_drewN ?_ _ | refine blk_drew ?_ | refine blk_alloc ?_ _)); exact BK287.out) hb); have n1_ := Aside0.mk (below_step (by repeat (first | (with_reducible first | exact HB.out | apply below_alloc | apply pw_below_drewN | apply below_drew1 | refine below_set ?_ GE287.out) | exact HB.out)) hb); clear BK287; clear HB; have BK287 := n0_; have HB := n1_; clear n0_ n1_; (try clear hb); (try clear hb2); (try clear hk); (try clear hi); have hcz11_0 : w10.cell? ⟨gb287, 0, none⟩ = some (.bool true) := (blk_cell BK287.out 0).trans rfl; have hcz11_1 : w10.cell? ⟨gb287, 1, none⟩ = some (.string a0_1) := (blk_cell BK287.out 1).trans rfl; have hcz11_2 : w10.cell? ⟨gb287, 2, none⟩ = some (.slice A0_2 l0_2.length c0_2) := (blk_cell BK287.out 2).trans rfl; have hcz11_3 : w10.cell? ⟨gb287, 3, none⟩ = some (.string a0_3) := (blk_cell BK287.out 3).trans rfl; have hfz11_0 := blk_frozen BK287.out 0; have hfz11_1 := blk_frozen BK287.out 1; have hfz11_2 := blk_frozen BK287.out 2; have hfz11_3 := blk_frozen BK287.out 3) | ((with_reducible refine gate_callee (f := 11) rfl ?_); refine goesL_ (some 39) rfl rfl Try.func11 (by kernel_rfl) rfl #[] rfl (by (try simp only [List.map_toArray, List.map_cons, List.map_nil]); first | done | rfl | (simp only [List.length_drop, List.length_take]; rfl)) ?_; (with_reducible refine (emulatorlaw43_alive.calls k  t289 _ A7.out).mono ?_); rintro e w12 ⟨rfl, hb⟩; refine ⟨_, rfl, ?_⟩; have n0_ := Aside0.mk (blk_below (g := gb287) (o := .cells #[.bool true, .string a0_1, .slice A0_2 l0_2.length c0_2, .string a0_3] 24 (0, 0)) (by (with_reducible repeat (first | refine blk_drewN ?_ _ | refine blk_drew ?_ | refine blk_alloc ?_ _)); exact BK287.out) hb); have n1_ := Aside0.mk (below_step (by repeat (first | (with_reducible first | exact HB.out | apply below_alloc | apply pw_below_drewN | apply below_drew1 | refine below_set ?_ GE287.out) | exact HB.out)) hb); clear BK287; clear HB; have BK287 := n0_; have HB := n1_; clear n0_ n1_; (try clear hb); (try clear hb2); (try clear hk); (try clear hi)))
      go_ret
      exact ⟨by first | rfl | (simp [errW_none, errW_some] <;> rfl) | (simp [*, errW_none, errW_some] <;> rfl), by repeat (first | (with_reducible first | exact HB.out | apply below_alloc | apply pw_below_drewN | apply below_drew1 | refine below_set ?_ GE287.out) | exact HB.out)⟩
    · replace c6 := Bool.eq_false_iff.mpr c6
      subst c6
      have H1 : (if a0_1.toList = ([] : List UInt8) then (if (l0_2.length : Int) > 15 then ((emulatorlaw43_alive.f k).bind fun t290 => (some t290)) else (if (a1.size : Int) > 78 then ((emulatorlaw43_alive.f k).bind fun t291 => (some t291)) else (emulatorlaw43_TtyLines.l0 k a1 a2 0 false a0_1 l0_2 a0_3))) else ((emulatorlaw43_alive.f k).bind fun t326 => (some t326))) = some r := by rw [if_neg (show ¬ (false = true) by decide)] at H; exact H
      clear H
      have H := H1
      clear H1
      by_cases c13 : a0_1.toList = ([] : List UInt8)
      · rw [if_pos c13] at H
        have c13b0 : (a0_1.toList == ([] : List UInt8)) = true := beq_iff_eq.mpr c13
        have c13b1 : (a0_1.toList != ([] : List UInt8)) = false := bne_eq_false_iff_eq.mpr c13
        clear c13
        by_cases c14 : (l0_2.length : Int) > 15
        · rw [if_pos c14] at H
          have c14b0 : decide (15 < (l0_2.length : Int)) = true := decide_eq_true c14
          have c14b1 : decide (15 < l0_2.length) = true := decide_eq_true (by omega)
          clear c14
          replace H := Option.bind_eq_some_iff.mp H
          obtain ⟨t290, A150, H⟩ := H
          replace H : (some t290) = some r := H
          have A15 := Aside0.mk A150
          clear A150
          obtain rfl := Option.some.inj H
          go_enter Try.func3, Try.ntmps3
          go_wp2_with (first | ((with_reducible refine gate_dst (N := 3) rfl ?_); refine box_event ?hg (N := 3) ?hd (cs := #[.bool false, .string a0_1, .slice A0_2 l0_2.length c0_2, .string a0_3]) (t := 24) ?hr ?_; (case hd => rfl); (case hg => rfl); (case hr => first | (go_simp; done) | (go_simp; rfl)); intro gb287 hg w16 hbox hb; have n0_ := Aside0.mk (below_step (by repeat (first | (with_reducible first | exact HB.out | apply below_alloc | apply pw_below_drewN | apply below_drew1) | exact HB.out)) hb); have n1_ := Aside0.mk (hbox); have n2_ := Aside0.mk ((by rw [hg]; exact (below_size (by repeat (first | (with_reducible first | exact HB.out | apply below_alloc | apply pw_below_drewN | apply below_drew1) | exact HB.out))) : w.heap.size ≤ gb287)); have n3_ := Aside0.mk ((by rw [hg]; exact (below_size (by repeat (first | (with_reducible first | exact HB.out | apply below_alloc | apply pw_below_drewN | apply below_drew1) | exact HB.out))) : w.heap.size ≤ gb287)); clear HB; have HB := n0_; have BK287 := n1_; have GW287 := n2_; have GE287 := n3_; clear n0_ n1_ n2_ n3_; clear hb hbox hg; have hcz17_0 : w16.cell? ⟨gb287, 0, none⟩ = some (.bool false) := (blk_cell BK287.out 0).trans rfl; have hcz17_1 : w16.cell? ⟨gb287, 1, none⟩ = some (.string a0_1) := (blk_cell BK287.out 1).trans rfl; have hcz17_2 : w16.cell? ⟨gb287, 2, none⟩ = some (.slice A0_2 l0_2.length c0_2) := (blk_cell BK287.out 2).trans rfl; have hcz17_3 : w16.cell? ⟨gb287, 3, none⟩ = some (.string a0_3) := (blk_cell BK287.out 3).trans rfl; have hfz17_0 := blk_frozen BK287.out 0; have hfz17_1 := blk_frozen BK287.out 1; have hfz17_2 := blk_frozen BK287.out 2; have hfz17_3 := blk_frozen BK287.out 3) | ((with_reducible refine gate_callee (f := 10) rfl ?_); refine goesL_ (some 17) rfl rfl Try.func10 (by kernel_rfl) rfl #[.agg #[.bool false, .string a0_1, .slice A0_2 l0_2.length c0_2, .string a0_3]] rfl (by (try simp only [List.map_toArray, List.map_cons, List.map_nil]); first | done | rfl | (simp only [List.length_drop, List.length_take]; rfl)) ?_; (with_reducible refine (emulatorlaw43_good.calls k false a0_1 _ _ l0_2 a0_3 true _ ?side1 ?side2 A4.out).mono ?_); (case side1 => repeat (first | exact (Kd.C_below HR0_2.out HB.out) | (with_reducible refine Kd.C_alloc ?_ _) | (with_reducible refine Kd.C_drewN ?_ _) | (with_reducible refine Kd.C_drew ?_))); (case side2 => exact HC0_2.out); rintro e w18 ⟨rfl, hb⟩; refine ⟨_, rfl, ?_⟩; have n0_ := Aside0.mk (blk_below (g := gb287) (o := .cells #[.bool false, .string a0_1, .slice A0_2 l0_2.length c0_2, .string a0_3] 24 (0, 0)) (by (with_reducible repeat (first | refine blk_drewN ?_ _ | refine blk_drew ?_ | refine blk_alloc ?_ _)); exact BK287.out) hb); have n1_ := Aside0.mk (below_step (by repeat (first | (with_reducible first | exact HB.out | apply below_alloc | apply pw_below_drewN | apply below_drew1 | refine below_set ?_ GE287.out) | exact HB.out)) hb); clear BK287; clear HB; have BK287 := n0_; have HB := n1_; clear n0_ n1_; (try clear hb); (try clear hb2); (try clear hk); (try clear hi); have hcz19_0 : w18.cell? ⟨gb287, 0, none⟩ = some (.bool false) := (blk_cell BK287.out 0).trans rfl; have hcz19_1 : w18.cell? ⟨gb287, 1, none⟩ = some (.string a0_1) := (blk_cell BK287.out 1).trans rfl; have hcz19_2 : w18.cell? ⟨gb287, 2, none⟩ = some (.slice A0_2 l0_2.length c0_2) := (blk_cell BK287.out 2).trans rfl; have hcz19_3 : w18.cell? ⟨gb287, 3, none⟩ = some (.string a0_3) := (blk_cell BK287.out 3).trans rfl; have hfz19_0 := blk_frozen BK287.out 0; have hfz19_1 := blk_frozen BK287.out 1; have hfz19_2 := blk_frozen BK287.out 2; have hfz19_3 := blk_frozen BK287.out 3) | ((with_reducible refine gate_callee (f := 11) rfl ?_); refine goesL_ (some 39) rfl rfl Try.func11 (by kernel_rfl) rfl #[] rfl (by (try simp only [List.map_toArray, List.map_cons, List.map_nil]); first | done | rfl | (simp only [List.length_drop, List.length_take]; rfl)) ?_; (with_reducible refine (emulatorlaw43_alive.calls k  t290 _ A15.out).mono ?_); rintro e w20 ⟨rfl, hb⟩; refine ⟨_, rfl, ?_⟩; have n0_ := Aside0.mk (blk_below (g := gb287) (o := .cells #[.bool false, .string a0_1, .slice A0_2 l0_2.length c0_2, .string a0_3] 24 (0, 0)) (by (with_reducible repeat (first | refine blk_drewN ?_ _ | refine blk_drew ?_ | refine blk_alloc ?_ _)); exact BK287.out) hb); have n1_ := Aside0.mk (below_step (by repeat (first | (with_reducible first | exact HB.out | apply below_alloc | apply pw_below_drewN | apply below_drew1 | refine below_set ?_ GE287.out) | exact HB.out)) hb); clear BK287; clear HB; have BK287 := n0_; have HB := n1_; clear n0_ n1_; (try clear hb); (try clear hb2); (try clear hk); (try clear hi)))
          go_ret
          exact ⟨by first | rfl | (simp [errW_none, errW_some] <;> rfl) | (simp [*, errW_none, errW_some] <;> rfl), by repeat (first | (with_reducible first | exact HB.out | apply below_alloc | apply pw_below_drewN | apply below_drew1 | refine below_set ?_ GE287.out) | exact HB.out)⟩
        · rw [if_neg c14] at H
          have c14b0 : decide (15 < (l0_2.length : Int)) = false := decide_eq_false c14
          have c14b1 : decide (15 < l0_2.length) = false := decide_eq_false (by omega)
          clear c14
          by_cases c21 : (a1.size : Int) > 78
          · rw [if_pos c21] at H
            have c21b0 : decide (78 < (a1.size : Int)) = true := decide_eq_true c21
            have c21b1 : decide (78 < a1.size) = true := decide_eq_true (by omega)
            clear c21
            replace H := Option.bind_eq_some_iff.mp H
            obtain ⟨t291, A220, H⟩ := H
            replace H : (some t291) = some r := H
            have A22 := Aside0.mk A220
            clear A220
            obtain rfl := Option.some.inj H
            go_enter Try.func3, Try.ntmps3
            go_wp2_with (first | ((with_reducible refine gate_dst (N := 3) rfl ?_); refine box_event ?hg (N := 3) ?hd (cs := #[.bool false, .string a0_1, .slice A0_2 l0_2.length c0_2, .string a0_3]) (t := 24) ?hr ?_; (case hd => rfl); (case hg => rfl); (case hr => first | (go_simp; done) | (go_simp; rfl)); intro gb287 hg w23 hbox hb; have n0_ := Aside0.mk (below_step (by repeat (first | (with_reducible first | exact HB.out | apply below_alloc | apply pw_below_drewN | apply below_drew1) | exact HB.out)) hb); have n1_ := Aside0.mk (hbox); have n2_ := Aside0.mk ((by rw [hg]; exact (below_size (by repeat (first | (with_reducible first | exact HB.out | apply below_alloc | apply pw_below_drewN | apply below_drew1) | exact HB.out))) : w.heap.size ≤ gb287)); have n3_ := Aside0.mk ((by rw [hg]; exact (below_size (by repeat (first | (with_reducible first | exact HB.out | apply below_alloc | apply pw_below_drewN | apply below_drew1) | exact HB.out))) : w.heap.size ≤ gb287)); clear HB; have HB := n0_; have BK287 := n1_; have GW287 := n2_; have GE287 := n3_; clear n0_ n1_ n2_ n3_; clear hb hbox hg; have hcz24_0 : w23.cell? ⟨gb287, 0, none⟩ = some (.bool false) := (blk_cell BK287.out 0).trans rfl; have hcz24_1 : w23.cell? ⟨gb287, 1, none⟩ = some (.string a0_1) := (blk_cell BK287.out 1).trans rfl; have hcz24_2 : w23.cell? ⟨gb287, 2, none⟩ = some (.slice A0_2 l0_2.length c0_2) := (blk_cell BK287.out 2).trans rfl; have hcz24_3 : w23.cell? ⟨gb287, 3, none⟩ = some (.string a0_3) := (blk_cell BK287.out 3).trans rfl; have hfz24_0 := blk_frozen BK287.out 0; have hfz24_1 := blk_frozen BK287.out 1; have hfz24_2 := blk_frozen BK287.out 2; have hfz24_3 := blk_frozen BK287.out 3) | ((with_reducible refine gate_callee (f := 10) rfl ?_); refine goesL_ (some 17) rfl rfl Try.func10 (by kernel_rfl) rfl #[.agg #[.bool false, .string a0_1, .slice A0_2 l0_2.length c0_2, .string a0_3]] rfl (by (try simp only [List.map_toArray, List.map_cons, List.map_nil]); first | done | rfl | (simp only [List.length_drop, List.length_take]; rfl)) ?_; (with_reducible refine (emulatorlaw43_good.calls k false a0_1 _ _ l0_2 a0_3 true _ ?side1 ?side2 A4.out).mono ?_); (case side1 => repeat (first | exact (Kd.C_below HR0_2.out HB.out) | (with_reducible refine Kd.C_alloc ?_ _) | (with_reducible refine Kd.C_drewN ?_ _) | (with_reducible refine Kd.C_drew ?_))); (case side2 => exact HC0_2.out); rintro e w25 ⟨rfl, hb⟩; refine ⟨_, rfl, ?_⟩; have n0_ := Aside0.mk (blk_below (g := gb287) (o := .cells #[.bool false, .string a0_1, .slice A0_2 l0_2.length c0_2, .string a0_3] 24 (0, 0)) (by (with_reducible repeat (first | refine blk_drewN ?_ _ | refine blk_drew ?_ | refine blk_alloc ?_ _)); exact BK287.out) hb); have n1_ := Aside0.mk (below_step (by repeat (first | (with_reducible first | exact HB.out | apply below_alloc | apply pw_below_drewN | apply below_drew1 | refine below_set ?_ GE287.out) | exact HB.out)) hb); clear BK287; clear HB; have BK287 := n0_; have HB := n1_; clear n0_ n1_; (try clear hb); (try clear hb2); (try clear hk); (try clear hi); have hcz26_0 : w25.cell? ⟨gb287, 0, none⟩ = some (.bool false) := (blk_cell BK287.out 0).trans rfl; have hcz26_1 : w25.cell? ⟨gb287, 1, none⟩ = some (.string a0_1) := (blk_cell BK287.out 1).trans rfl; have hcz26_2 : w25.cell? ⟨gb287, 2, none⟩ = some (.slice A0_2 l0_2.length c0_2) := (blk_cell BK287.out 2).trans rfl; have hcz26_3 : w25.cell? ⟨gb287, 3, none⟩ = some (.string a0_3) := (blk_cell BK287.out 3).trans rfl; have hfz26_0 := blk_frozen BK287.out 0; have hfz26_1 := blk_frozen BK287.out 1; have hfz26_2 := blk_frozen BK287.out 2; have hfz26_3 := blk_frozen BK287.out 3) | ((with_reducible refine gate_callee (f := 11) rfl ?_); refine goesL_ (some 39) rfl rfl Try.func11 (by kernel_rfl) rfl #[] rfl (by (try simp only [List.map_toArray, List.map_cons, List.map_nil]); first | done | rfl | (simp only [List.length_drop, List.length_take]; rfl)) ?_; (with_reducible refine (emulatorlaw43_alive.calls k  t291 _ A22.out).mono ?_); rintro e w27 ⟨rfl, hb⟩; refine ⟨_, rfl, ?_⟩; have n0_ := Aside0.mk (blk_below (g := gb287) (o := .cells #[.bool false, .string a0_1, .slice A0_2 l0_2.length c0_2, .string a0_3] 24 (0, 0)) (by (with_reducible repeat (first | refine blk_drewN ?_ _ | refine blk_drew ?_ | refine blk_alloc ?_ _)); exact BK287.out) hb); have n1_ := Aside0.mk (below_step (by repeat (first | (with_reducible first | exact HB.out | apply below_alloc | apply pw_below_drewN | apply below_drew1 | refine below_set ?_ GE287.out) | exact HB.out)) hb); clear BK287; clear HB; have BK287 := n0_; have HB := n1_; clear n0_ n1_; (try clear hb); (try clear hb2); (try clear hk); (try clear hi)))
            go_ret
            exact ⟨by first | rfl | (simp [errW_none, errW_some] <;> rfl) | (simp [*, errW_none, errW_some] <;> rfl), by repeat (first | (with_reducible first | exact HB.out | apply below_alloc | apply pw_below_drewN | apply below_drew1 | refine below_set ?_ GE287.out) | exact HB.out)⟩
          · rw [if_neg c21] at H
            have c21b0 : decide (78 < (a1.size : Int)) = false := decide_eq_false c21
            have c21b1 : decide (78 < a1.size) = false := decide_eq_false (by omega)
            clear c21
            have H' := Aside0.mk H
            clear H
            go_enter Try.func3, Try.ntmps3
            go_wp2_with (first | ((with_reducible refine gate_dst (N := 3) rfl ?_); refine box_event ?hg (N := 3) ?hd (cs := #[.bool false, .string a0_1, .slice A0_2 l0_2.length c0_2, .string a0_3]) (t := 24) ?hr ?_; (case hd => rfl); (case hg => rfl); (case hr => first | (go_simp; done) | (go_simp; rfl)); intro gb287 hg w28 hbox hb; have n0_ := Aside0.mk (below_step (by repeat (first | (with_reducible first | exact HB.out | apply below_alloc | apply pw_below_drewN | apply below_drew1) | exact HB.out)) hb); have n1_ := Aside0.mk (hbox); have n2_ := Aside0.mk ((by rw [hg]; exact (below_size (by repeat (first | (with_reducible first | exact HB.out | apply below_alloc | apply pw_below_drewN | apply below_drew1) | exact HB.out))) : w.heap.size ≤ gb287)); have n3_ := Aside0.mk ((by rw [hg]; exact (below_size (by repeat (first | (with_reducible first | exact HB.out | apply below_alloc | apply pw_below_drewN | apply below_drew1) | exact HB.out))) : w.heap.size ≤ gb287)); clear HB; have HB := n0_; have BK287 := n1_; have GW287 := n2_; have GE287 := n3_; clear n0_ n1_ n2_ n3_; clear hb hbox hg; have hcz29_0 : w28.cell? ⟨gb287, 0, none⟩ = some (.bool false) := (blk_cell BK287.out 0).trans rfl; have hcz29_1 : w28.cell? ⟨gb287, 1, none⟩ = some (.string a0_1) := (blk_cell BK287.out 1).trans rfl; have hcz29_2 : w28.cell? ⟨gb287, 2, none⟩ = some (.slice A0_2 l0_2.length c0_2) := (blk_cell BK287.out 2).trans rfl; have hcz29_3 : w28.cell? ⟨gb287, 3, none⟩ = some (.string a0_3) := (blk_cell BK287.out 3).trans rfl; have hfz29_0 := blk_frozen BK287.out 0; have hfz29_1 := blk_frozen BK287.out 1; have hfz29_2 := blk_frozen BK287.out 2; have hfz29_3 := blk_frozen BK287.out 3) | ((with_reducible refine gate_callee (f := 10) rfl ?_); refine goesL_ (some 17) rfl rfl Try.func10 (by kernel_rfl) rfl #[.agg #[.bool false, .string a0_1, .slice A0_2 l0_2.length c0_2, .string a0_3]] rfl (by (try simp only [List.map_toArray, List.map_cons, List.map_nil]); first | done | rfl | (simp only [List.length_drop, List.length_take]; rfl)) ?_; (with_reducible refine (emulatorlaw43_good.calls k false a0_1 _ _ l0_2 a0_3 true _ ?side1 ?side2 A4.out).mono ?_); (case side1 => repeat (first | exact (Kd.C_below HR0_2.out HB.out) | (with_reducible refine Kd.C_alloc ?_ _) | (with_reducible refine Kd.C_drewN ?_ _) | (with_reducible refine Kd.C_drew ?_))); (case side2 => exact HC0_2.out); rintro e w30 ⟨rfl, hb⟩; refine ⟨_, rfl, ?_⟩; have n0_ := Aside0.mk (blk_below (g := gb287) (o := .cells #[.bool false, .string a0_1, .slice A0_2 l0_2.length c0_2, .string a0_3] 24 (0, 0)) (by (with_reducible repeat (first | refine blk_drewN ?_ _ | refine blk_drew ?_ | refine blk_alloc ?_ _)); exact BK287.out) hb); have n1_ := Aside0.mk (below_step (by repeat (first | (with_reducible first | exact HB.out | apply below_alloc | apply pw_below_drewN | apply below_drew1 | refine below_set ?_ GE287.out) | exact HB.out)) hb); clear BK287; clear HB; have BK287 := n0_; have HB := n1_; clear n0_ n1_; (try clear hb); (try clear hb2); (try clear hk); (try clear hi); have hcz31_0 : w30.cell? ⟨gb287, 0, none⟩ = some (.bool false) := (blk_cell BK287.out 0).trans rfl; have hcz31_1 : w30.cell? ⟨gb287, 1, none⟩ = some (.string a0_1) := (blk_cell BK287.out 1).trans rfl; have hcz31_2 : w30.cell? ⟨gb287, 2, none⟩ = some (.slice A0_2 l0_2.length c0_2) := (blk_cell BK287.out 2).trans rfl; have hcz31_3 : w30.cell? ⟨gb287, 3, none⟩ = some (.string a0_3) := (blk_cell BK287.out 3).trans rfl; have hfz31_0 := blk_frozen BK287.out 0; have hfz31_1 := blk_frozen BK287.out 1; have hfz31_2 := blk_frozen BK287.out 2; have hfz31_3 := blk_frozen BK287.out 3))
            go_loopg [7] k (fun kq v7 w' => ∃ (x7_1 : Int), v7 = .int .i64 x7_1 ∧ Aside0 (emulatorlaw43_TtyLines.l0 kq a1 a2 x7_1 false a0_1 l0_2 a0_3 = some r) ∧ Aside0 (kq ≤ k) ∧ Aside0 (w'.heap[gb287]? = some (.cells #[.bool false, .string a0_1, (.slice A0_2 l0_2.length c0_2), .string a0_3] 24 (0, 0))) ∧ Aside0 (Below w.heap.size w w'))
            case atStart => exact ⟨(0), (by first | rfl | (simp; done) | (simp [isEmpty_ne]; done) | (simp [*]; done)), H', ⟨Nat.le_refl _⟩, ⟨by (with_reducible repeat (first | refine blk_drewN ?_ _ | refine blk_drew ?_ | refine blk_alloc ?_ _)); exact BK287.out⟩, ⟨by repeat (first | (with_reducible first | exact HB.out | apply below_alloc | apply pw_below_drewN | apply below_drew1 | refine below_set ?_ GE287.out) | exact HB.out)⟩⟩
            case round =>
              clear H'
              try clear c1
              try clear c2
              try clear p2
              try clear c3
              try clear c5
              try clear c6
              try clear c10
              try clear c11
              try clear c13
              try clear c13b0
              try clear c13b1
              try clear c14
              try clear c14b0
              try clear c14b1
              try clear c21
              try clear c21b0
              try clear c21b1
              try clear hcz11_0
              try clear hcz11_1
              try clear hcz11_2
              try clear hcz11_3
              try clear hcz17_0
              try clear hcz17_1
              try clear hcz17_2
              try clear hcz17_3
              try clear hcz19_0
              try clear hcz19_1
              try clear hcz19_2
              try clear hcz19_3
              try clear hcz24_0
              try clear hcz24_1
              try clear hcz24_2
              try clear hcz24_3
              try clear hcz26_0
              try clear hcz26_1
              try clear hcz26_2
              try clear hcz26_3
              try clear hcz29_0
              try clear hcz29_1
              try clear hcz29_2
              try clear hcz29_3
              try clear hcz31_0
              try clear hcz31_1
              try clear hcz31_2
              try clear hcz31_3
              try clear hcz9_0
              try clear hcz9_1
              try clear hcz9_2
              try clear hcz9_3
              try clear hfz11_0
              try clear hfz11_1
              try clear hfz11_2
              try clear hfz11_3
              try clear hfz17_0
              try clear hfz17_1
              try clear hfz17_2
              try clear hfz17_3
              try clear hfz19_0
              try clear hfz19_1
              try clear hfz19_2
              try clear hfz19_3
              try clear hfz24_0
              try clear hfz24_1
              try clear hfz24_2
              try clear hfz24_3
              try clear hfz26_0
              try clear hfz26_1
              try clear hfz26_2
              try clear hfz26_3
              try clear hfz29_0
              try clear hfz29_1
              try clear hfz29_2
              try clear hfz29_3
              try clear hfz31_0
              try clear hfz31_1
              try clear hfz31_2
              try clear hfz31_3
              try clear hfz9_0
              try clear hfz9_1
              try clear hfz9_2
              try clear hfz9_3
              obtain ⟨x7_1, rfl, HA, HK1, BK287, HB⟩ := hrel
              cases gk with
              | zero => exact absurd HA.out (by simp [emulatorlaw43_TtyLines.l0])
              | succ k1 =>
                have H := HA.out
                clear HA
                simp only [emulatorlaw43_TtyLines.l0] at H
                by_cases c32 : x7_1 < (a1.size : Int)
                · rw [if_pos c32] at H
                  have c32b0 : decide (x7_1 < (a1.size : Int)) = true := decide_eq_true c32
                  clear c32
                  by_cases c33 : 0 ≤ x7_1
                  · rw [if_pos c33] at H
                    have c33b0 : decide (0 ≤ x7_1) = true := decide_eq_true c33
                    clear c33
                    by_cases c35 : (bt a1 x7_1) < 32
                    · rw [if_pos c35] at H
                      have c35b0 : decide ((bt a1 x7_1) < 32) = true := decide_eq_true c35
                      clear c35
                      by_cases c37 : (bt a1 x7_1) = 9
                      · rw [if_pos c37] at H
                        have c37b0 : ((bt a1 x7_1) == 9) = true := beq_iff_eq.mpr c37
                        have c37b1 : ((bt a1 x7_1) != 9) = false := bne_eq_false_iff_eq.mpr c37
                        clear c37
                        have H' := Aside0.mk H
                        clear H
                        have p34 : 0 ≤ (x7_1 : Int) := of_decide_eq_true (by first | (with_reducible assumption) | assumption)
                        have q34 : x7_1 < (a1.size : Int) := of_decide_eq_true (by first | (with_reducible assumption) | assumption)
                        have hx34 := bt_at a1 x7_1
                        replace p34 := eq_true p34
                        replace q34 := eq_true q34
                        have p36 : 0 ≤ (x7_1 : Int) := of_decide_eq_true (by first | (with_reducible assumption) | assumption)
                        have q36 : x7_1 < (a1.size : Int) := of_decide_eq_true (by first | (with_reducible assumption) | assumption)
                        have hx36 := bt_at a1 x7_1
                        replace p36 := eq_true p36
                        replace q36 := eq_true q36
                        go_wp2
                        go_roundg k1
                        case measure => have := HK1.out; omega
                        case rel => exact ⟨(wrap64 (x7_1 + 1)), (by first | rfl | (simp; done) | (simp [isEmpty_ne]; done) | (simp [*]; done)), H', ⟨by have := HK1.out; omega⟩, ⟨by (with_reducible repeat (first | refine blk_drewN ?_ _ | refine blk_drew ?_ | refine blk_alloc ?_ _)); exact BK287.out⟩, ⟨by repeat (first | (with_reducible first | exact HB.out | apply below_alloc | apply pw_below_drewN | apply below_drew1 | refine below_set ?_ GE287.out) | exact HB.out)⟩⟩
                      · rw [if_neg c37] at H
                        have c37b0 : ((bt a1 x7_1) == 9) = false := beq_eq_false_iff_ne.mpr c37
                        have c37b1 : ((bt a1 x7_1) != 9) = true := bne_iff_ne.mpr c37
                        replace H := Option.bind_eq_some_iff.mp H
                        obtain ⟨t292, A380, H⟩ := H
                        replace H : (some t292) = some r := H
                        have A38 := Aside0.mk A380
                        clear A380
                        obtain rfl := Option.some.inj H
                        have p34 : 0 ≤ (x7_1 : Int) := of_decide_eq_true (by first | (with_reducible assumption) | assumption)
                        have q34 : x7_1 < (a1.size : Int) := of_decide_eq_true (by first | (with_reducible assumption) | assumption)
                        have hx34 := bt_at a1 x7_1
                        replace p34 := eq_true p34
                        replace q34 := eq_true q34
                        have p36 : 0 ≤ (x7_1 : Int) := of_decide_eq_true (by first | (with_reducible assumption) | assumption)
                        have q36 : x7_1 < (a1.size : Int) := of_decide_eq_true (by first | (with_reducible assumption) | assumption)
                        have hx36 := bt_at a1 x7_1
                        replace p36 := eq_true p36
                        replace q36 := eq_true q36
                        go_wp2_with (first | ((with_reducible refine gate_callee (f := 11) rfl ?_); refine goesL_ (some 62) rfl rfl Try.func11 (by kernel_rfl) rfl #[] rfl (by (try simp only [List.map_toArray, List.map_cons, List.map_nil]); first | done | rfl | (simp only [List.length_drop, List.length_take]; rfl)) ?_; (with_reducible refine (emulatorlaw43_alive.calls k1  t292 _ A38.out).mono ?_); rintro e w39 ⟨rfl, hb⟩; refine ⟨_, rfl, ?_⟩; have n0_ := Aside0.mk (blk_below (g := gb287) (o := .cells #[.bool false, .string a0_1, .slice A0_2 l0_2.length c0_2, .string a0_3] 24 (0, 0)) (by (with_reducible repeat (first | refine blk_drewN ?_ _ | refine blk_drew ?_ | refine blk_alloc ?_ _)); exact BK287.out) hb); have n1_ := Aside0.mk (below_step (by repeat (first | (with_reducible first | exact HB.out | apply below_alloc | apply pw_below_drewN | apply below_drew1 | refine below_set ?_ GE287.out) | exact HB.out)) hb); clear BK287; clear HB; have BK287 := n0_; have HB := n1_; clear n0_ n1_; (try clear hb); (try clear hb2); (try clear hk); (try clear hi)))
                        go_ret
                        exact ⟨by first | rfl | (simp [errW_none, errW_some] <;> rfl) | (simp [*, errW_none, errW_some] <;> rfl), by repeat (first | (with_reducible first | exact HB.out | apply below_alloc | apply pw_below_drewN | apply below_drew1 | refine below_set ?_ GE287.out) | exact HB.out)⟩
                    · rw [if_neg c35] at H
                      have c35b0 : decide ((bt a1 x7_1) < 32) = false := decide_eq_false c35
                      clear c35
                      by_cases c41 : (bt a1 x7_1) > 126
                      · rw [if_pos c41] at H
                        have c41b0 : decide (126 < (bt a1 x7_1)) = true := decide_eq_true c41
                        clear c41
                        by_cases c43 : (bt a1 x7_1) = 9
                        · rw [if_pos c43] at H
                          have c43b0 : ((bt a1 x7_1) == 9) = true := beq_iff_eq.mpr c43
                          have c43b1 : ((bt a1 x7_1) != 9) = false := bne_eq_false_iff_eq.mpr c43
                          clear c43
                          have H' := Aside0.mk H
                          clear H
                          have p34 : 0 ≤ (x7_1 : Int) := of_decide_eq_true (by first | (with_reducible assumption) | assumption)
                          have q34 : x7_1 < (a1.size : Int) := of_decide_eq_true (by first | (with_reducible assumption) | assumption)
                          have hx34 := bt_at a1 x7_1
                          replace p34 := eq_true p34
                          replace q34 := eq_true q34
                          have p40 : 0 ≤ (x7_1 : Int) := of_decide_eq_true (by first | (with_reducible assumption) | assumption)
                          have q40 : x7_1 < (a1.size : Int) := of_decide_eq_true (by first | (with_reducible assumption) | assumption)
                          have hx40 := bt_at a1 x7_1
                          replace p40 := eq_true p40
                          replace q40 := eq_true q40
                          have p42 : 0 ≤ (x7_1 : Int) := of_decide_eq_true (by first | (with_reducible assumption) | assumption)
                          have q42 : x7_1 < (a1.size : Int) := of_decide_eq_true (by first | (with_reducible assumption) | assumption)
                          have hx42 := bt_at a1 x7_1
                          replace p42 := eq_true p42
                          replace q42 := eq_true q42
                          go_wp2
                          go_roundg k1
                          case measure => have := HK1.out; omega
                          case rel => exact ⟨(wrap64 (x7_1 + 1)), (by first | rfl | (simp; done) | (simp [isEmpty_ne]; done) | (simp [*]; done)), H', ⟨by have := HK1.out; omega⟩, ⟨by (with_reducible repeat (first | refine blk_drewN ?_ _ | refine blk_drew ?_ | refine blk_alloc ?_ _)); exact BK287.out⟩, ⟨by repeat (first | (with_reducible first | exact HB.out | apply below_alloc | apply pw_below_drewN | apply below_drew1 | refine below_set ?_ GE287.out) | exact HB.out)⟩⟩
                        · rw [if_neg c43] at H
                          have c43b0 : ((bt a1 x7_1) == 9) = false := beq_eq_false_iff_ne.mpr c43
                          have c43b1 : ((bt a1 x7_1) != 9) = true := bne_iff_ne.mpr c43
                          replace H := Option.bind_eq_some_iff.mp H
                          obtain ⟨t293, A440, H⟩ := H
                          replace H : (some t293) = some r := H
                          have A44 := Aside0.mk A440
                          clear A440
                          obtain rfl := Option.some.inj H
                          have p34 : 0 ≤ (x7_1 : Int) := of_decide_eq_true (by first | (with_reducible assumption) | assumption)
                          have q34 : x7_1 < (a1.size : Int) := of_decide_eq_true (by first | (with_reducible assumption) | assumption)
                          have hx34 := bt_at a1 x7_1
                          replace p34 := eq_true p34
                          replace q34 := eq_true q34
                          have p40 : 0 ≤ (x7_1 : Int) := of_decide_eq_true (by first | (with_reducible assumption) | assumption)
                          have q40 : x7_1 < (a1.size : Int) := of_decide_eq_true (by first | (with_reducible assumption) | assumption)
                          have hx40 := bt_at a1 x7_1
                          replace p40 := eq_true p40
                          replace q40 := eq_true q40
                          have p42 : 0 ≤ (x7_1 : Int) := of_decide_eq_true (by first | (with_reducible assumption) | assumption)
                          have q42 : x7_1 < (a1.size : Int) := of_decide_eq_true (by first | (with_reducible assumption) | assumption)
                          have hx42 := bt_at a1 x7_1
                          replace p42 := eq_true p42
                          replace q42 := eq_true q42
                          go_wp2_with (first | ((with_reducible refine gate_callee (f := 11) rfl ?_); refine goesL_ (some 62) rfl rfl Try.func11 (by kernel_rfl) rfl #[] rfl (by (try simp only [List.map_toArray, List.map_cons, List.map_nil]); first | done | rfl | (simp only [List.length_drop, List.length_take]; rfl)) ?_; (with_reducible refine (emulatorlaw43_alive.calls k1  t293 _ A44.out).mono ?_); rintro e w45 ⟨rfl, hb⟩; refine ⟨_, rfl, ?_⟩; have n0_ := Aside0.mk (blk_below (g := gb287) (o := .cells #[.bool false, .string a0_1, .slice A0_2 l0_2.length c0_2, .string a0_3] 24 (0, 0)) (by (with_reducible repeat (first | refine blk_drewN ?_ _ | refine blk_drew ?_ | refine blk_alloc ?_ _)); exact BK287.out) hb); have n1_ := Aside0.mk (below_step (by repeat (first | (with_reducible first | exact HB.out | apply below_alloc | apply pw_below_drewN | apply below_drew1 | refine below_set ?_ GE287.out) | exact HB.out)) hb); clear BK287; clear HB; have BK287 := n0_; have HB := n1_; clear n0_ n1_; (try clear hb); (try clear hb2); (try clear hk); (try clear hi)))
                          go_ret
                          exact ⟨by first | rfl | (simp [errW_none, errW_some] <;> rfl) | (simp [*, errW_none, errW_some] <;> rfl), by repeat (first | (with_reducible first | exact HB.out | apply below_alloc | apply pw_below_drewN | apply below_drew1 | refine below_set ?_ GE287.out) | exact HB.out)⟩
                      · rw [if_neg c41] at H
                        have c41b0 : decide (126 < (bt a1 x7_1)) = false := decide_eq_false c41
                        clear c41
                        have H' := Aside0.mk H
                        clear H
                        have p34 : 0 ≤ (x7_1 : Int) := of_decide_eq_true (by first | (with_reducible assumption) | assumption)
                        have q34 : x7_1 < (a1.size : Int) := of_decide_eq_true (by first | (with_reducible assumption) | assumption)
                        have hx34 := bt_at a1 x7_1
                        replace p34 := eq_true p34
                        replace q34 := eq_true q34
                        have p40 : 0 ≤ (x7_1 : Int) := of_decide_eq_true (by first | (with_reducible assumption) | assumption)
                        have q40 : x7_1 < (a1.size : Int) := of_decide_eq_true (by first | (with_reducible assumption) | assumption)
                        have hx40 := bt_at a1 x7_1
                        replace p40 := eq_true p40
                        replace q40 := eq_true q40
                        go_wp2
                        go_roundg k1
                        case measure => have := HK1.out; omega
                        case rel => exact ⟨(wrap64 (x7_1 + 1)), (by first | rfl | (simp; done) | (simp [isEmpty_ne]; done) | (simp [*]; done)), H', ⟨by have := HK1.out; omega⟩, ⟨by (with_reducible repeat (first | refine blk_drewN ?_ _ | refine blk_drew ?_ | refine blk_alloc ?_ _)); exact BK287.out⟩, ⟨by repeat (first | (with_reducible first | exact HB.out | apply below_alloc | apply pw_below_drewN | apply below_drew1 | refine below_set ?_ GE287.out) | exact HB.out)⟩⟩
                  · rw [if_neg c33] at H
                    exact absurd H (by simp)
                · rw [if_neg c32] at H
                  have c32b0 : decide (x7_1 < (a1.size : Int)) = false := decide_eq_false c32
                  clear c32
                  replace H := Option.bind_eq_some_iff.mp H
                  obtain ⟨⟨t294, t295, t296, t299⟩, A460, H⟩ := H
                  replace H : ((emulatorlaw43_typed.f k1 t294 t295 t296 t299 (⟨#[113, 8]⟩ : ByteArray)).bind fun bt301 => ((emulatorlaw43_typed.f k1 bt301.1 bt301.2.1 bt301.2.2.1 bt301.2.2.2 (⟨#[10]⟩ : ByteArray)).bind fun bt308 => (emulatorlaw43_TtyLines.l1 k1 a1 a2 (⟨#[]⟩ : ByteArray) 0 t294 t295 t296 t299 bt301.1 bt301.2.1 bt301.2.2.1 bt301.2.2.2 bt308.1 bt308.2.1 bt308.2.2.1 bt308.2.2.2))) = some r := H
                  have A46 := Aside0.mk A460
                  clear A460
                  replace H := Option.bind_eq_some_iff.mp H
                  obtain ⟨⟨t301, t302, t303, t306⟩, A470, H⟩ := H
                  replace H : ((emulatorlaw43_typed.f k1 t301 t302 t303 t306 (⟨#[10]⟩ : ByteArray)).bind fun bt308 => (emulatorlaw43_TtyLines.l1 k1 a1 a2 (⟨#[]⟩ : ByteArray) 0 t294 t295 t296 t299 t301 t302 t303 t306 bt308.1 bt308.2.1 bt308.2.2.1 bt308.2.2.2)) = some r := H
                  have A47 := Aside0.mk A470
                  clear A470
                  replace H := Option.bind_eq_some_iff.mp H
                  obtain ⟨⟨t308, t309, t310, t313⟩, A480, H⟩ := H
                  replace H : (emulatorlaw43_TtyLines.l1 k1 a1 a2 (⟨#[]⟩ : ByteArray) 0 t294 t295 t296 t299 t301 t302 t303 t306 t308 t309 t310 t313) = some r := H
                  have A48 := Aside0.mk A480
                  clear A480
                  have H' := Aside0.mk H
                  clear H
                  have hcz49_0 : wr.cell? ⟨gb287, 0, none⟩ = some (.bool false) := (blk_cell BK287.out 0).trans rfl
                  have hcz49_1 : wr.cell? ⟨gb287, 1, none⟩ = some (.string a0_1) := (blk_cell BK287.out 1).trans rfl
                  have hcz49_2 : wr.cell? ⟨gb287, 2, none⟩ = some (.slice A0_2 l0_2.length c0_2) := (blk_cell BK287.out 2).trans rfl
                  have hcz49_3 : wr.cell? ⟨gb287, 3, none⟩ = some (.string a0_3) := (blk_cell BK287.out 3).trans rfl
                  have hfz49_0 := blk_frozen BK287.out 0
                  have hfz49_1 := blk_frozen BK287.out 1
                  have hfz49_2 := blk_frozen BK287.out 2
                  have hfz49_3 := blk_frozen BK287.out 3
                  go_wp2_with (first | ((with_reducible refine gate_store (t := 22) (p := 63) rfl ?_); refine store_event (t := 22) (p := 63) (v := ?vo_w50) (w1 := (wr.setCell ⟨gb287, 2, none⟩ (.slice none 0 0))) ?hg ?ho ?hn ?hr ?_; (case ho => rfl); (case hg => rfl); (case hn => rfl); (case hr => first | (go_simp; done) | (go_simp; rfl)); intro w50 hw; have n0_ : Aside0 (w50.heap[gb287]? = some (.cells #[.bool false, .string a0_1, .slice none 0 0, .string a0_3] 24 (0, 0))) := ⟨(by rw [hw]; exact (by (with_reducible repeat (first | refine blk_drewN ?_ _ | refine blk_drew ?_ | refine blk_alloc ?_ _)); refine blk_put (cs := #[.bool false, .string a0_1, .slice A0_2 l0_2.length c0_2, .string a0_3]) ?_ 2 _ rfl; (with_reducible repeat (first | refine blk_drewN ?_ _ | refine blk_drew ?_ | refine blk_alloc ?_ _)); exact BK287.out))⟩; have n1_ : Aside0 (Below w.heap.size w w50) := ⟨(by rw [hw]; exact (by repeat (first | (with_reducible first | exact HB.out | apply below_alloc | apply pw_below_drewN | apply below_drew1 | refine below_set ?_ GE287.out) | exact HB.out)))⟩; clear hw; clear BK287; clear HB; have BK287 := n0_; have HB := n1_; clear n0_ n1_; have hcz51_0 : w50.cell? ⟨gb287, 0, none⟩ = some (.bool false) := (blk_cell BK287.out 0).trans rfl; have hcz51_1 : w50.cell? ⟨gb287, 1, none⟩ = some (.string a0_1) := (blk_cell BK287.out 1).trans rfl; have hcz51_2 : w50.cell? ⟨gb287, 2, none⟩ = some (.slice none 0 0) := (blk_cell BK287.out 2).trans rfl; have hcz51_3 : w50.cell? ⟨gb287, 3, none⟩ = some (.string a0_3) := (blk_cell BK287.out 3).trans rfl; have hfz51_0 := blk_frozen BK287.out 0; have hfz51_1 := blk_frozen BK287.out 1; have hfz51_2 := blk_frozen BK287.out 2; have hfz51_3 := blk_frozen BK287.out 3) | ((with_reducible refine gate_callee (f := 12) rfl ?_); refine goesL_ (some 66) rfl rfl Try.func12 (by kernel_rfl) rfl #[.agg #[.bool false, .string a0_1, .slice none 0 0, .string a0_3], .string a1] rfl (by (try simp only [List.map_toArray, List.map_cons, List.map_nil]); first | done | rfl | (simp only [List.length_drop, List.length_take]; rfl)) ?_; (refine (emulatorlaw43_typed.calls k1 false a0_1 (fun k_ => False) _ _ ([] : List ByteArray) a0_3 a1 t294 t295 t296 t299 _ ?side1 A46.out).mono ?_); (case side1 => exact Kd.V_nil _ _ _ _ _); rintro e w52 ⟨v297, rfl, ho0, hb⟩; refine ⟨_, rfl, ?_⟩; have n0_ := Aside0.mk (Kd.V_lower (Kd.V_mono (ok' := fun k_ => k_ ≠ gb287) ho0 (fun k_ hk_ => Or.elim hk_ (fun hs_ => (hs_).elim) (fun hn_ => (Kd.freshB (g := gb287) (o := .cells #[.bool false, .string a0_1, .slice none 0 0, .string a0_3] 24 (0, 0)) (by (with_reducible repeat (first | refine blk_drewN ?_ _ | refine blk_drew ?_ | refine blk_alloc ?_ _)); exact BK287.out) k_ hn_)))) (below_size (by repeat (first | (with_reducible first | exact HB.out | apply below_alloc | apply pw_below_drewN | apply below_drew1 | refine below_set ?_ GE287.out) | exact HB.out)))); have n1_ := Aside0.mk (blk_below (g := gb287) (o := .cells #[.bool false, .string a0_1, .slice none 0 0, .string a0_3] 24 (0, 0)) (by (with_reducible repeat (first | refine blk_drewN ?_ _ | refine blk_drew ?_ | refine blk_alloc ?_ _)); exact BK287.out) hb); have n2_ := Aside0.mk (below_step (by repeat (first | (with_reducible first | exact HB.out | apply below_alloc | apply pw_below_drewN | apply below_drew1 | refine below_set ?_ GE287.out) | exact HB.out)) hb); clear BK287; clear HB; have HO298 := n0_; have BK287 := n1_; have HB := n2_; clear n0_ n1_ n2_; (try clear hb); (try clear hb2); (try clear hk); (try clear hi); (try clear ho0)) | ((with_reducible refine gate_dst (N := 8) rfl ?_); refine box_event ?hg (N := 8) ?hd (cs := #[.bool false, .string (⟨#[]⟩ : ByteArray), .slice none 0 0, .string (⟨#[]⟩ : ByteArray)]) (t := 24) ?hr ?_; (case hd => rfl); (case hg => rfl); (case hr => first | (go_simp; done) | (go_simp; rfl)); intro gb300 hg w53 hbox hb; have n0_ := Aside0.mk (Kd.V_below (Kd.V_elderB (by (with_reducible repeat (first | apply Kd.V_alloc | apply Kd.V_drewN | apply Kd.V_drew)); exact HO298.out) gb300 (Nat.le_of_eq hg.symm)) hb); have n1_ := Aside0.mk (blk_below (g := gb287) (o := .cells #[.bool false, .string a0_1, .slice none 0 0, .string a0_3] 24 (0, 0)) (by (with_reducible repeat (first | refine blk_drewN ?_ _ | refine blk_drew ?_ | refine blk_alloc ?_ _)); exact BK287.out) hb); have n2_ := Aside0.mk (below_step (by repeat (first | (with_reducible first | exact HB.out | apply below_alloc | apply pw_below_drewN | apply below_drew1 | refine below_set ?_ GE287.out) | exact HB.out)) hb); have n3_ := Aside0.mk (hbox); have n4_ := Aside0.mk ((by rw [hg]; exact (below_size (by repeat (first | (with_reducible first | exact HB.out | apply below_alloc | apply pw_below_drewN | apply below_drew1 | refine below_set ?_ GE287.out) | exact HB.out))) : w.heap.size ≤ gb300)); have n5_ := Aside0.mk ((by rw [hg]; exact (below_size (by repeat (first | (with_reducible first | exact HB.out | apply below_alloc | apply pw_below_drewN | apply below_drew1 | refine below_set ?_ GE287.out) | exact HB.out))) : w.heap.size ≤ gb300)); have n6_ := Aside0.mk ((by rw [hg]; exact Nat.ne_of_lt (blk_lt (g := gb287) (o := .cells #[.bool false, .string a0_1, .slice none 0 0, .string a0_3] 24 (0, 0)) (by (with_reducible repeat (first | refine blk_drewN ?_ _ | refine blk_drew ?_ | refine blk_alloc ?_ _)); exact BK287.out)) : gb287 ≠ gb300)); have n7_ := Aside0.mk ((by rw [hg]; exact Nat.ne_of_gt (blk_lt (g := gb287) (o := .cells #[.bool false, .string a0_1, .slice none 0 0, .string a0_3] 24 (0, 0)) (by (with_reducible repeat (first | refine blk_drewN ?_ _ | refine blk_drew ?_ | refine blk_alloc ?_ _)); exact BK287.out)) : gb300 ≠ gb287)); clear HO298; clear BK287; clear HB; have HO298 := n0_; have BK287 := n1_; have HB := n2_; have BK300 := n3_; have GW300 := n4_; have GE300 := n5_; have NB287_300 := n6_; have NB300_287 := n7_; clear n0_ n1_ n2_ n3_ n4_ n5_ n6_ n7_; clear hb hbox hg; have hnb54 := NB300_287.out; have hnc54 := NB287_300.out; have hcz55_0 : w53.cell? ⟨gb300, 0, none⟩ = some (.bool false) := (blk_cell BK300.out 0).trans rfl; have hcz55_1 : w53.cell? ⟨gb300, 1, none⟩ = some (.string (⟨#[]⟩ : ByteArray)) := (blk_cell BK300.out 1).trans rfl; have hcz55_2 : w53.cell? ⟨gb300, 2, none⟩ = some (.slice none 0 0) := (blk_cell BK300.out 2).trans rfl; have hcz55_3 : w53.cell? ⟨gb300, 3, none⟩ = some (.string (⟨#[]⟩ : ByteArray)) := (blk_cell BK300.out 3).trans rfl; have hfz55_0 := blk_frozen BK300.out 0; have hfz55_1 := blk_frozen BK300.out 1; have hfz55_2 := blk_frozen BK300.out 2; have hfz55_3 := blk_frozen BK300.out 3; obtain ⟨Ao56, co56, eo56⟩ := Kd.V_slice HO298.out; subst eo56) | ((with_reducible refine gate_store (t := 24) (p := 8) rfl ?_); refine store_event (t := 24) (p := 8) (v := ?vo_w57) (w1 := ((((w53.setCell ⟨gb300, 0, none⟩ (.bool t294)).setCell ⟨gb300, 1, none⟩ (.string t295)).setCell ⟨gb300, 2, none⟩ (.slice Ao56 t296.length co56)).setCell ⟨gb300, 3, none⟩ (.string t299))) ?hg ?ho ?hn ?hr ?_; (case ho => rfl); (case hg => rfl); (case hn => rfl); (case hr => first | (go_simp; done) | (go_simp; rfl)); intro w57 hw; have n0_ : Aside0 (Kd.V Kd.string 9 w57 w.heap.size (fun k_ => k_ ≠ gb287 ∧ k_ ≠ gb300) (.slice Ao56 t296.length co56) t296) := ⟨(by rw [hw]; exact (by (with_reducible repeat (first | apply Kd.V_alloc | apply Kd.V_drewN | apply Kd.V_drew)); exact Kd.V_mono (Kd.V_far (p := ⟨gb300, 3, none⟩) (Kd.V_far (p := ⟨gb300, 2, none⟩) (Kd.V_far (p := ⟨gb300, 1, none⟩) (Kd.V_far (p := ⟨gb300, 0, none⟩) (Kd.V_mono HO298.out (fun k_ hk => (⟨hk, hk.2⟩ : _ ∧ k_ ≠ gb300))) (fun _ hk => hk.2) (.bool t294)) (fun _ hk => hk.2) (.string t295)) (fun _ hk => hk.2) (.slice Ao56 t296.length co56)) (fun _ hk => hk.2) (.string t299)) (fun _ hk => ⟨hk.1.1, hk.1.2⟩)))⟩; have n1_ : Aside0 (w57.heap[gb287]? = some (.cells #[.bool false, .string a0_1, .slice none 0 0, .string a0_3] 24 (0, 0))) := ⟨(by rw [hw]; exact (by (with_reducible repeat (first | refine blk_drewN ?_ _ | refine blk_drew ?_ | refine blk_alloc ?_ _)); refine blk_far ?_ NB287_300.out _; (with_reducible repeat (first | refine blk_drewN ?_ _ | refine blk_drew ?_ | refine blk_alloc ?_ _)); refine blk_far ?_ NB287_300.out _; (with_reducible repeat (first | refine blk_drewN ?_ _ | refine blk_drew ?_ | refine blk_alloc ?_ _)); refine blk_far ?_ NB287_300.out _; (with_reducible repeat (first | refine blk_drewN ?_ _ | refine blk_drew ?_ | refine blk_alloc ?_ _)); refine blk_far ?_ NB287_300.out _; (with_reducible repeat (first | refine blk_drewN ?_ _ | refine blk_drew ?_ | refine blk_alloc ?_ _)); exact BK287.out))⟩; have n2_ : Aside0 (w57.heap[gb300]? = some (.cells #[.bool t294, .string t295, .slice Ao56 t296.length co56, .string t299] 24 (0, 0))) := ⟨(by rw [hw]; exact (by (with_reducible repeat (first | refine blk_drewN ?_ _ | refine blk_drew ?_ | refine blk_alloc ?_ _)); refine blk_put (cs := #[.bool t294, .string t295, .slice Ao56 t296.length co56, .string (⟨#[]⟩ : ByteArray)]) ?_ 3 _ rfl; (with_reducible repeat (first | refine blk_drewN ?_ _ | refine blk_drew ?_ | refine blk_alloc ?_ _)); refine blk_put (cs := #[.bool t294, .string t295, .slice none 0 0, .string (⟨#[]⟩ : ByteArray)]) ?_ 2 _ rfl; (with_reducible repeat (first | refine blk_drewN ?_ _ | refine blk_drew ?_ | refine blk_alloc ?_ _)); refine blk_put (cs := #[.bool t294, .string (⟨#[]⟩ : ByteArray), .slice none 0 0, .string (⟨#[]⟩ : ByteArray)]) ?_ 1 _ rfl; (with_reducible repeat (first | refine blk_drewN ?_ _ | refine blk_drew ?_ | refine blk_alloc ?_ _)); refine blk_put (cs := #[.bool false, .string (⟨#[]⟩ : ByteArray), .slice none 0 0, .string (⟨#[]⟩ : ByteArray)]) ?_ 0 _ rfl; (with_reducible repeat (first | refine blk_drewN ?_ _ | refine blk_drew ?_ | refine blk_alloc ?_ _)); exact BK300.out))⟩; have n3_ : Aside0 (Below w.heap.size w w57) := ⟨(by rw [hw]; exact (by repeat (first | (with_reducible first | exact HB.out | apply below_alloc | apply pw_below_drewN | apply below_drew1 | refine below_set ?_ GE287.out | refine below_set ?_ GE300.out) | exact HB.out)))⟩; clear hw; clear HO298; clear BK287; clear BK300; clear HB; have HO298 := n0_; have BK287 := n1_; have BK300 := n2_; have HB := n3_; clear n0_ n1_ n2_ n3_; have hcz58_0 : w57.cell? ⟨gb300, 0, none⟩ = some (.bool t294) := (blk_cell BK300.out 0).trans rfl; have hcz58_1 : w57.cell? ⟨gb300, 1, none⟩ = some (.string t295) := (blk_cell BK300.out 1).trans rfl; have hcz58_2 : w57.cell? ⟨gb300, 2, none⟩ = some (.slice Ao56 t296.length co56) := (blk_cell BK300.out 2).trans rfl; have hcz58_3 : w57.cell? ⟨gb300, 3, none⟩ = some (.string t299) := (blk_cell BK300.out 3).trans rfl; have hfz58_0 := blk_frozen BK300.out 0; have hfz58_1 := blk_frozen BK300.out 1; have hfz58_2 := blk_frozen BK300.out 2; have hfz58_3 := blk_frozen BK300.out 3) | ((with_reducible refine gate_callee (f := 12) rfl ?_); refine goesL_ (some 68) rfl rfl Try.func12 (by kernel_rfl) rfl #[.agg #[.bool t294, .string t295, .slice Ao56 t296.length co56, .string t299], .string (⟨#[113, 8]⟩ : ByteArray)] rfl (by (try simp only [List.map_toArray, List.map_cons, List.map_nil]); first | done | rfl | (simp only [List.length_drop, List.length_take]; rfl)) ?_; (with_reducible refine (emulatorlaw43_typed.calls k1 t294 t295 (fun k_ => (k_ ≠ gb287 ∧ k_ ≠ gb300)) _ _ t296 t299 (⟨#[113, 8]⟩ : ByteArray) t301 t302 t303 t306 _ ?side1 A47.out).mono ?_); (case side1 => exact HO298.out); rintro e w59 ⟨v304, rfl, ho0, hb⟩; refine ⟨_, rfl, ?_⟩; have n0_ := Aside0.mk (Kd.V_below (by (with_reducible repeat (first | apply Kd.V_alloc | apply Kd.V_drewN | apply Kd.V_drew)); exact HO298.out) hb); have n1_ := Aside0.mk (Kd.V_lower (Kd.V_mono (ok' := fun k_ => k_ ≠ gb287 ∧ k_ ≠ gb300) ho0 (fun k_ hk_ => ⟨Or.elim hk_ (fun hs_ => hs_.1) (fun hn_ => (Kd.freshB (g := gb287) (o := .cells #[.bool false, .string a0_1, .slice none 0 0, .string a0_3] 24 (0, 0)) (by (with_reducible repeat (first | refine blk_drewN ?_ _ | refine blk_drew ?_ | refine blk_alloc ?_ _)); exact BK287.out) k_ hn_)), Or.elim hk_ (fun hs_ => hs_.2) (fun hn_ => (Kd.freshB (g := gb300) (o := .cells #[.bool t294, .string t295, .slice Ao56 t296.length co56, .string t299] 24 (0, 0)) (by (with_reducible repeat (first | refine blk_drewN ?_ _ | refine blk_drew ?_ | refine blk_alloc ?_ _)); exact BK300.out) k_ hn_))⟩)) (below_size (by repeat (first | (with_reducible first | exact HB.out | apply below_alloc | apply pw_below_drewN | apply below_drew1 | refine below_set ?_ GE287.out | refine below_set ?_ GE300.out) | exact HB.out)))); have n2_ := Aside0.mk (blk_below (g := gb287) (o := .cells #[.bool false, .string a0_1, .slice none 0 0, .string a0_3] 24 (0, 0)) (by (with_reducible repeat (first | refine blk_drewN ?_ _ | refine blk_drew ?_ | refine blk_alloc ?_ _)); exact BK287.out) hb); have n3_ := Aside0.mk (blk_below (g := gb300) (o := .cells #[.bool t294, .string t295, .slice Ao56 t296.length co56, .string t299] 24 (0, 0)) (by (with_reducible repeat (first | refine blk_drewN ?_ _ | refine blk_drew ?_ | refine blk_alloc ?_ _)); exact BK300.out) hb); have n4_ := Aside0.mk (below_step (by repeat (first | (with_reducible first | exact HB.out | apply below_alloc | apply pw_below_drewN | apply below_drew1 | refine below_set ?_ GE287.out | refine below_set ?_ GE300.out) | exact HB.out)) hb); clear HO298; clear BK287; clear BK300; clear HB; have HO298 := n0_; have HO305 := n1_; have BK287 := n2_; have BK300 := n3_; have HB := n4_; clear n0_ n1_ n2_ n3_ n4_; (try clear hb); (try clear hb2); (try clear hk); (try clear hi); (try clear ho0)) | ((with_reducible refine gate_dst (N := 9) rfl ?_); refine box_event ?hg (N := 9) ?hd (cs := #[.bool false, .string (⟨#[]⟩ : ByteArray), .slice none 0 0, .string (⟨#[]⟩ : ByteArray)]) (t := 24) ?hr ?_; (case hd => rfl); (case hg => rfl); (case hr => first | (go_simp; done) | (go_simp; rfl)); intro gb307 hg w60 hbox hb; have n0_ := Aside0.mk (Kd.V_below (Kd.V_elderB (by (with_reducible repeat (first | apply Kd.V_alloc | apply Kd.V_drewN | apply Kd.V_drew)); exact HO298.out) gb307 (Nat.le_of_eq hg.symm)) hb); have n1_ := Aside0.mk (Kd.V_below (Kd.V_elderB (by (with_reducible repeat (first | apply Kd.V_alloc | apply Kd.V_drewN | apply Kd.V_drew)); exact HO305.out) gb307 (Nat.le_of_eq hg.symm)) hb); have n2_ := Aside0.mk (blk_below (g := gb287) (o := .cells #[.bool false, .string a0_1, .slice none 0 0, .string a0_3] 24 (0, 0)) (by (with_reducible repeat (first | refine blk_drewN ?_ _ | refine blk_drew ?_ | refine blk_alloc ?_ _)); exact BK287.out) hb); have n3_ := Aside0.mk (blk_below (g := gb300) (o := .cells #[.bool t294, .string t295, .slice Ao56 t296.length co56, .string t299] 24 (0, 0)) (by (with_reducible repeat (first | refine blk_drewN ?_ _ | refine blk_drew ?_ | refine blk_alloc ?_ _)); exact BK300.out) hb); have n4_ := Aside0.mk (below_step (by repeat (first | (with_reducible first | exact HB.out | apply below_alloc | apply pw_below_drewN | apply below_drew1 | refine below_set ?_ GE287.out | refine below_set ?_ GE300.out) | exact HB.out)) hb); have n5_ := Aside0.mk (hbox); have n6_ := Aside0.mk ((by rw [hg]; exact (below_size (by repeat (first | (with_reducible first | exact HB.out | apply below_alloc | apply pw_below_drewN | apply below_drew1 | refine below_set ?_ GE287.out | refine below_set ?_ GE300.out) | exact HB.out))) : w.heap.size ≤ gb307)); have n7_ := Aside0.mk ((by rw [hg]; exact (below_size (by repeat (first | (with_reducible first | exact HB.out | apply below_alloc | apply pw_below_drewN | apply below_drew1 | refine below_set ?_ GE287.out | refine below_set ?_ GE300.out) | exact HB.out))) : w.heap.size ≤ gb307)); have n8_ := Aside0.mk ((by rw [hg]; exact Nat.ne_of_lt (blk_lt (g := gb287) (o := .cells #[.bool false, .string a0_1, .slice none 0 0, .string a0_3] 24 (0, 0)) (by (with_reducible repeat (first | refine blk_drewN ?_ _ | refine blk_drew ?_ | refine blk_alloc ?_ _)); exact BK287.out)) : gb287 ≠ gb307)); have n9_ := Aside0.mk ((by rw [hg]; exact Nat.ne_of_gt (blk_lt (g := gb287) (o := .cells #[.bool false, .string a0_1, .slice none 0 0, .string a0_3] 24 (0, 0)) (by (with_reducible repeat (first | refine blk_drewN ?_ _ | refine blk_drew ?_ | refine blk_alloc ?_ _)); exact BK287.out)) : gb307 ≠ gb287)); have n10_ := Aside0.mk ((by rw [hg]; exact Nat.ne_of_lt (blk_lt (g := gb300) (o := .cells #[.bool t294, .string t295, .slice Ao56 t296.length co56, .string t299] 24 (0, 0)) (by (with_reducible repeat (first | refine blk_drewN ?_ _ | refine blk_drew ?_ | refine blk_alloc ?_ _)); exact BK300.out)) : gb300 ≠ gb307)); have n11_ := Aside0.mk ((by rw [hg]; exact Nat.ne_of_gt (blk_lt (g := gb300) (o := .cells #[.bool t294, .string t295, .slice Ao56 t296.length co56, .string t299] 24 (0, 0)) (by (with_reducible repeat (first | refine blk_drewN ?_ _ | refine blk_drew ?_ | refine blk_alloc ?_ _)); exact BK300.out)) : gb307 ≠ gb300)); clear HO298; clear HO305; clear BK287; clear BK300; clear HB; have HO298 := n0_; have HO305 := n1_; have BK287 := n2_; have BK300 := n3_; have HB := n4_; have BK307 := n5_; have GW307 := n6_; have GE307 := n7_; have NB287_307 := n8_; have NB307_287 := n9_; have NB300_307 := n10_; have NB307_300 := n11_; clear n0_ n1_ n2_ n3_ n4_ n5_ n6_ n7_ n8_ n9_ n10_ n11_; clear hb hbox hg; have hnb61 := NB307_287.out; have hnc61 := NB287_307.out; have hnb62 := NB307_300.out; have hnc62 := NB300_307.out; have hcz63_0 : w60.cell? ⟨gb307, 0, none⟩ = some (.bool false) := (blk_cell BK307.out 0).trans rfl; have hcz63_1 : w60.cell? ⟨gb307, 1, none⟩ = some (.string (⟨#[]⟩ : ByteArray)) := (blk_cell BK307.out 1).trans rfl; have hcz63_2 : w60.cell? ⟨gb307, 2, none⟩ = some (.slice none 0 0) := (blk_cell BK307.out 2).trans rfl; have hcz63_3 : w60.cell? ⟨gb307, 3, none⟩ = some (.string (⟨#[]⟩ : ByteArray)) := (blk_cell BK307.out 3).trans rfl; have hfz63_0 := blk_frozen BK307.out 0; have hfz63_1 := blk_frozen BK307.out 1; have hfz63_2 := blk_frozen BK307.out 2; have hfz63_3 := blk_frozen BK307.out 3; obtain ⟨Ao64, co64, eo64⟩ := Kd.V_slice HO305.out; subst eo64) | ((with_reducible refine gate_store (t := 24) (p := 9) rfl ?_); refine store_event (t := 24) (p := 9) (v := ?vo_w65) (w1 := ((((w60.setCell ⟨gb307, 0, none⟩ (.bool t301)).setCell ⟨gb307, 1, none⟩ (.string t302)).setCell ⟨gb307, 2, none⟩ (.slice Ao64 t303.length co64)).setCell ⟨gb307, 3, none⟩ (.string t306))) ?hg ?ho ?hn ?hr ?_; (case ho => rfl); (case hg => rfl); (case hn => rfl); (case hr => first | (go_simp; done) | (go_simp; rfl)); intro w65 hw; have n0_ : Aside0 (Kd.V Kd.string 9 w65 w.heap.size (fun k_ => k_ ≠ gb287 ∧ k_ ≠ gb300 ∧ k_ ≠ gb307) (.slice Ao56 t296.length co56) t296) := ⟨(by rw [hw]; exact (by (with_reducible repeat (first | apply Kd.V_alloc | apply Kd.V_drewN | apply Kd.V_drew)); exact Kd.V_mono (Kd.V_far (p := ⟨gb307, 3, none⟩) (Kd.V_far (p := ⟨gb307, 2, none⟩) (Kd.V_far (p := ⟨gb307, 1, none⟩) (Kd.V_far (p := ⟨gb307, 0, none⟩) (Kd.V_mono HO298.out (fun k_ hk => (⟨hk, hk.2⟩ : _ ∧ k_ ≠ gb307))) (fun _ hk => hk.2) (.bool t301)) (fun _ hk => hk.2) (.string t302)) (fun _ hk => hk.2) (.slice Ao64 t303.length co64)) (fun _ hk => hk.2) (.string t306)) (fun _ hk => ⟨hk.1.1.1, ⟨hk.1.1.2, hk.1.2⟩⟩)))⟩; have n1_ : Aside0 (Kd.V Kd.string 9 w65 w.heap.size (fun k_ => k_ ≠ gb287 ∧ k_ ≠ gb300 ∧ k_ ≠ gb307) (.slice Ao64 t303.length co64) t303) := ⟨(by rw [hw]; exact (by (with_reducible repeat (first | apply Kd.V_alloc | apply Kd.V_drewN | apply Kd.V_drew)); exact Kd.V_mono (Kd.V_far (p := ⟨gb307, 3, none⟩) (Kd.V_far (p := ⟨gb307, 2, none⟩) (Kd.V_far (p := ⟨gb307, 1, none⟩) (Kd.V_far (p := ⟨gb307, 0, none⟩) (Kd.V_mono HO305.out (fun k_ hk => (⟨hk, hk.2⟩ : _ ∧ k_ ≠ gb307))) (fun _ hk => hk.2) (.bool t301)) (fun _ hk => hk.2) (.string t302)) (fun _ hk => hk.2) (.slice Ao64 t303.length co64)) (fun _ hk => hk.2) (.string t306)) (fun _ hk => ⟨hk.1.1.1, ⟨hk.1.1.2, hk.1.2⟩⟩)))⟩; have n2_ : Aside0 (w65.heap[gb287]? = some (.cells #[.bool false, .string a0_1, .slice none 0 0, .string a0_3] 24 (0, 0))) := ⟨(by rw [hw]; exact (by (with_reducible repeat (first | refine blk_drewN ?_ _ | refine blk_drew ?_ | refine blk_alloc ?_ _)); refine blk_far ?_ NB287_307.out _; (with_reducible repeat (first | refine blk_drewN ?_ _ | refine blk_drew ?_ | refine blk_alloc ?_ _)); refine blk_far ?_ NB287_307.out _; (with_reducible repeat (first | refine blk_drewN ?_ _ | refine blk_drew ?_ | refine blk_alloc ?_ _)); refine blk_far ?_ NB287_307.out _; (with_reducible repeat (first | refine blk_drewN ?_ _ | refine blk_drew ?_ | refine blk_alloc ?_ _)); refine blk_far ?_ NB287_307.out _; (with_reducible repeat (first | refine blk_drewN ?_ _ | refine blk_drew ?_ | refine blk_alloc ?_ _)); exact BK287.out))⟩; have n3_ : Aside0 (w65.heap[gb300]? = some (.cells #[.bool t294, .string t295, .slice Ao56 t296.length co56, .string t299] 24 (0, 0))) := ⟨(by rw [hw]; exact (by (with_reducible repeat (first | refine blk_drewN ?_ _ | refine blk_drew ?_ | refine blk_alloc ?_ _)); refine blk_far ?_ NB300_307.out _; (with_reducible repeat (first | refine blk_drewN ?_ _ | refine blk_drew ?_ | refine blk_alloc ?_ _)); refine blk_far ?_ NB300_307.out _; (with_reducible repeat (first | refine blk_drewN ?_ _ | refine blk_drew ?_ | refine blk_alloc ?_ _)); refine blk_far ?_ NB300_307.out _; (with_reducible repeat (first | refine blk_drewN ?_ _ | refine blk_drew ?_ | refine blk_alloc ?_ _)); refine blk_far ?_ NB300_307.out _; (with_reducible repeat (first | refine blk_drewN ?_ _ | refine blk_drew ?_ | refine blk_alloc ?_ _)); exact BK300.out))⟩; have n4_ : Aside0 (w65.heap[gb307]? = some (.cells #[.bool t301, .string t302, .slice Ao64 t303.length co64, .string t306] 24 (0, 0))) := ⟨(by rw [hw]; exact (by (with_reducible repeat (first | refine blk_drewN ?_ _ | refine blk_drew ?_ | refine blk_alloc ?_ _)); refine blk_put (cs := #[.bool t301, .string t302, .slice Ao64 t303.length co64, .string (⟨#[]⟩ : ByteArray)]) ?_ 3 _ rfl; (with_reducible repeat (first | refine blk_drewN ?_ _ | refine blk_drew ?_ | refine blk_alloc ?_ _)); refine blk_put (cs := #[.bool t301, .string t302, .slice none 0 0, .string (⟨#[]⟩ : ByteArray)]) ?_ 2 _ rfl; (with_reducible repeat (first | refine blk_drewN ?_ _ | refine blk_drew ?_ | refine blk_alloc ?_ _)); refine blk_put (cs := #[.bool t301, .string (⟨#[]⟩ : ByteArray), .slice none 0 0, .string (⟨#[]⟩ : ByteArray)]) ?_ 1 _ rfl; (with_reducible repeat (first | refine blk_drewN ?_ _ | refine blk_drew ?_ | refine blk_alloc ?_ _)); refine blk_put (cs := #[.bool false, .string (⟨#[]⟩ : ByteArray), .slice none 0 0, .string (⟨#[]⟩ : ByteArray)]) ?_ 0 _ rfl; (with_reducible repeat (first | refine blk_drewN ?_ _ | refine blk_drew ?_ | refine blk_alloc ?_ _)); exact BK307.out))⟩; have n5_ : Aside0 (Below w.heap.size w w65) := ⟨(by rw [hw]; exact (by repeat (first | (with_reducible first | exact HB.out | apply below_alloc | apply pw_below_drewN | apply below_drew1 | refine below_set ?_ GE287.out | refine below_set ?_ GE300.out | refine below_set ?_ GE307.out) | exact HB.out)))⟩; clear hw; clear HO298; clear HO305; clear BK287; clear BK300; clear BK307; clear HB; have HO298 := n0_; have HO305 := n1_; have BK287 := n2_; have BK300 := n3_; have BK307 := n4_; have HB := n5_; clear n0_ n1_ n2_ n3_ n4_ n5_; have hcz66_0 : w65.cell? ⟨gb307, 0, none⟩ = some (.bool t301) := (blk_cell BK307.out 0).trans rfl; have hcz66_1 : w65.cell? ⟨gb307, 1, none⟩ = some (.string t302) := (blk_cell BK307.out 1).trans rfl; have hcz66_2 : w65.cell? ⟨gb307, 2, none⟩ = some (.slice Ao64 t303.length co64) := (blk_cell BK307.out 2).trans rfl; have hcz66_3 : w65.cell? ⟨gb307, 3, none⟩ = some (.string t306) := (blk_cell BK307.out 3).trans rfl; have hfz66_0 := blk_frozen BK307.out 0; have hfz66_1 := blk_frozen BK307.out 1; have hfz66_2 := blk_frozen BK307.out 2; have hfz66_3 := blk_frozen BK307.out 3) | ((with_reducible refine gate_callee (f := 12) rfl ?_); refine goesL_ (some 70) rfl rfl Try.func12 (by kernel_rfl) rfl #[.agg #[.bool t301, .string t302, .slice Ao64 t303.length co64, .string t306], .string (⟨#[10]⟩ : ByteArray)] rfl (by (try simp only [List.map_toArray, List.map_cons, List.map_nil]); first | done | rfl | (simp only [List.length_drop, List.length_take]; rfl)) ?_; (with_reducible refine (emulatorlaw43_typed.calls k1 t301 t302 (fun k_ => (k_ ≠ gb287 ∧ (k_ ≠ gb300 ∧ k_ ≠ gb307))) _ _ t303 t306 (⟨#[10]⟩ : ByteArray) t308 t309 t310 t313 _ ?side1 A48.out).mono ?_); (case side1 => exact HO305.out); rintro e w67 ⟨v311, rfl, ho0, hb⟩; refine ⟨_, rfl, ?_⟩; have n0_ := Aside0.mk (Kd.V_below (by (with_reducible repeat (first | apply Kd.V_alloc | apply Kd.V_drewN | apply Kd.V_drew)); exact HO298.out) hb); have n1_ := Aside0.mk (Kd.V_below (by (with_reducible repeat (first | apply Kd.V_alloc | apply Kd.V_drewN | apply Kd.V_drew)); exact HO305.out) hb); have n2_ := Aside0.mk (Kd.V_lower (Kd.V_mono (ok' := fun k_ => k_ ≠ gb287 ∧ k_ ≠ gb300 ∧ k_ ≠ gb307) ho0 (fun k_ hk_ => ⟨Or.elim hk_ (fun hs_ => hs_.1) (fun hn_ => (Kd.freshB (g := gb287) (o := .cells #[.bool false, .string a0_1, .slice none 0 0, .string a0_3] 24 (0, 0)) (by (with_reducible repeat (first | refine blk_drewN ?_ _ | refine blk_drew ?_ | refine blk_alloc ?_ _)); exact BK287.out) k_ hn_)), Or.elim hk_ (fun hs_ => hs_.2.1) (fun hn_ => (Kd.freshB (g := gb300) (o := .cells #[.bool t294, .string t295, .slice Ao56 t296.length co56, .string t299] 24 (0, 0)) (by (with_reducible repeat (first | refine blk_drewN ?_ _ | refine blk_drew ?_ | refine blk_alloc ?_ _)); exact BK300.out) k_ hn_)), Or.elim hk_ (fun hs_ => hs_.2.2) (fun hn_ => (Kd.freshB (g := gb307) (o := .cells #[.bool t301, .string t302, .slice Ao64 t303.length co64, .string t306] 24 (0, 0)) (by (with_reducible repeat (first | refine blk_drewN ?_ _ | refine blk_drew ?_ | refine blk_alloc ?_ _)); exact BK307.out) k_ hn_))⟩)) (below_size (by repeat (first | (with_reducible first | exact HB.out | apply below_alloc | apply pw_below_drewN | apply below_drew1 | refine below_set ?_ GE287.out | refine below_set ?_ GE300.out | refine below_set ?_ GE307.out) | exact HB.out)))); have n3_ := Aside0.mk (blk_below (g := gb287) (o := .cells #[.bool false, .string a0_1, .slice none 0 0, .string a0_3] 24 (0, 0)) (by (with_reducible repeat (first | refine blk_drewN ?_ _ | refine blk_drew ?_ | refine blk_alloc ?_ _)); exact BK287.out) hb); have n4_ := Aside0.mk (blk_below (g := gb300) (o := .cells #[.bool t294, .string t295, .slice Ao56 t296.length co56, .string t299] 24 (0, 0)) (by (with_reducible repeat (first | refine blk_drewN ?_ _ | refine blk_drew ?_ | refine blk_alloc ?_ _)); exact BK300.out) hb); have n5_ := Aside0.mk (blk_below (g := gb307) (o := .cells #[.bool t301, .string t302, .slice Ao64 t303.length co64, .string t306] 24 (0, 0)) (by (with_reducible repeat (first | refine blk_drewN ?_ _ | refine blk_drew ?_ | refine blk_alloc ?_ _)); exact BK307.out) hb); have n6_ := Aside0.mk (below_step (by repeat (first | (with_reducible first | exact HB.out | apply below_alloc | apply pw_below_drewN | apply below_drew1 | refine below_set ?_ GE287.out | refine below_set ?_ GE300.out | refine below_set ?_ GE307.out) | exact HB.out)) hb); clear HO298; clear HO305; clear BK287; clear BK300; clear BK307; clear HB; have HO298 := n0_; have HO305 := n1_; have HO312 := n2_; have BK287 := n3_; have BK300 := n4_; have BK307 := n5_; have HB := n6_; clear n0_ n1_ n2_ n3_ n4_ n5_ n6_; (try clear hb); (try clear hb2); (try clear hk); (try clear hi); (try clear ho0)) | ((with_reducible refine gate_dst (N := 10) rfl ?_); refine box_event ?hg (N := 10) ?hd (cs := #[.bool false, .string (⟨#[]⟩ : ByteArray), .slice none 0 0, .string (⟨#[]⟩ : ByteArray)]) (t := 24) ?hr ?_; (case hd => rfl); (case hg => rfl); (case hr => first | (go_simp; done) | (go_simp; rfl)); intro gb314 hg w68 hbox hb; have n0_ := Aside0.mk (Kd.V_below (Kd.V_elderB (by (with_reducible repeat (first | apply Kd.V_alloc | apply Kd.V_drewN | apply Kd.V_drew)); exact HO298.out) gb314 (Nat.le_of_eq hg.symm)) hb); have n1_ := Aside0.mk (Kd.V_below (Kd.V_elderB (by (with_reducible repeat (first | apply Kd.V_alloc | apply Kd.V_drewN | apply Kd.V_drew)); exact HO305.out) gb314 (Nat.le_of_eq hg.symm)) hb); have n2_ := Aside0.mk (Kd.V_below (Kd.V_elderB (by (with_reducible repeat (first | apply Kd.V_alloc | apply Kd.V_drewN | apply Kd.V_drew)); exact HO312.out) gb314 (Nat.le_of_eq hg.symm)) hb); have n3_ := Aside0.mk (blk_below (g := gb287) (o := .cells #[.bool false, .string a0_1, .slice none 0 0, .string a0_3] 24 (0, 0)) (by (with_reducible repeat (first | refine blk_drewN ?_ _ | refine blk_drew ?_ | refine blk_alloc ?_ _)); exact BK287.out) hb); have n4_ := Aside0.mk (blk_below (g := gb300) (o := .cells #[.bool t294, .string t295, .slice Ao56 t296.length co56, .string t299] 24 (0, 0)) (by (with_reducible repeat (first | refine blk_drewN ?_ _ | refine blk_drew ?_ | refine blk_alloc ?_ _)); exact BK300.out) hb); have n5_ := Aside0.mk (blk_below (g := gb307) (o := .cells #[.bool t301, .string t302, .slice Ao64 t303.length co64, .string t306] 24 (0, 0)) (by (with_reducible repeat (first | refine blk_drewN ?_ _ | refine blk_drew ?_ | refine blk_alloc ?_ _)); exact BK307.out) hb); have n6_ := Aside0.mk (below_step (by repeat (first | (with_reducible first | exact HB.out | apply below_alloc | apply pw_below_drewN | apply below_drew1 | refine below_set ?_ GE287.out | refine below_set ?_ GE300.out | refine below_set ?_ GE307.out) | exact HB.out)) hb); have n7_ := Aside0.mk (hbox); have n8_ := Aside0.mk ((by rw [hg]; exact (below_size (by repeat (first | (with_reducible first | exact HB.out | apply below_alloc | apply pw_below_drewN | apply below_drew1 | refine below_set ?_ GE287.out | refine below_set ?_ GE300.out | refine below_set ?_ GE307.out) | exact HB.out))) : w.heap.size ≤ gb314)); have n9_ := Aside0.mk ((by rw [hg]; exact (below_size (by repeat (first | (with_reducible first | exact HB.out | apply below_alloc | apply pw_below_drewN | apply below_drew1 | refine below_set ?_ GE287.out | refine below_set ?_ GE300.out | refine below_set ?_ GE307.out) | exact HB.out))) : w.heap.size ≤ gb314)); have n10_ := Aside0.mk ((by rw [hg]; exact Nat.ne_of_lt (blk_lt (g := gb287) (o := .cells #[.bool false, .string a0_1, .slice none 0 0, .string a0_3] 24 (0, 0)) (by (with_reducible repeat (first | refine blk_drewN ?_ _ | refine blk_drew ?_ | refine blk_alloc ?_ _)); exact BK287.out)) : gb287 ≠ gb314)); have n11_ := Aside0.mk ((by rw [hg]; exact Nat.ne_of_gt (blk_lt (g := gb287) (o := .cells #[.bool false, .string a0_1, .slice none 0 0, .string a0_3] 24 (0, 0)) (by (with_reducible repeat (first | refine blk_drewN ?_ _ | refine blk_drew ?_ | refine blk_alloc ?_ _)); exact BK287.out)) : gb314 ≠ gb287)); have n12_ := Aside0.mk ((by rw [hg]; exact Nat.ne_of_lt (blk_lt (g := gb300) (o := .cells #[.bool t294, .string t295, .slice Ao56 t296.length co56, .string t299] 24 (0, 0)) (by (with_reducible repeat (first | refine blk_drewN ?_ _ | refine blk_drew ?_ | refine blk_alloc ?_ _)); exact BK300.out)) : gb300 ≠ gb314)); have n13_ := Aside0.mk ((by rw [hg]; exact Nat.ne_of_gt (blk_lt (g := gb300) (o := .cells #[.bool t294, .string t295, .slice Ao56 t296.length co56, .string t299] 24 (0, 0)) (by (with_reducible repeat (first | refine blk_drewN ?_ _ | refine blk_drew ?_ | refine blk_alloc ?_ _)); exact BK300.out)) : gb314 ≠ gb300)); have n14_ := Aside0.mk ((by rw [hg]; exact Nat.ne_of_lt (blk_lt (g := gb307) (o := .cells #[.bool t301, .string t302, .slice Ao64 t303.length co64, .string t306] 24 (0, 0)) (by (with_reducible repeat (first | refine blk_drewN ?_ _ | refine blk_drew ?_ | refine blk_alloc ?_ _)); exact BK307.out)) : gb307 ≠ gb314)); have n15_ := Aside0.mk ((by rw [hg]; exact Nat.ne_of_gt (blk_lt (g := gb307) (o := .cells #[.bool t301, .string t302, .slice Ao64 t303.length co64, .string t306] 24 (0, 0)) (by (with_reducible repeat (first | refine blk_drewN ?_ _ | refine blk_drew ?_ | refine blk_alloc ?_ _)); exact BK307.out)) : gb314 ≠ gb307)); clear HO298; clear HO305; clear HO312; clear BK287; clear BK300; clear BK307; clear HB; have HO298 := n0_; have HO305 := n1_; have HO312 := n2_; have BK287 := n3_; have BK300 := n4_; have BK307 := n5_; have HB := n6_; have BK314 := n7_; have GW314 := n8_; have GE314 := n9_; have NB287_314 := n10_; have NB314_287 := n11_; have NB300_314 := n12_; have NB314_300 := n13_; have NB307_314 := n14_; have NB314_307 := n15_; clear n0_ n1_ n2_ n3_ n4_ n5_ n6_ n7_ n8_ n9_ n10_ n11_ n12_ n13_ n14_ n15_; clear hb hbox hg; have hnb69 := NB314_287.out; have hnc69 := NB287_314.out; have hnb70 := NB314_300.out; have hnc70 := NB300_314.out; have hnb71 := NB314_307.out; have hnc71 := NB307_314.out; have hcz72_0 : w68.cell? ⟨gb314, 0, none⟩ = some (.bool false) := (blk_cell BK314.out 0).trans rfl; have hcz72_1 : w68.cell? ⟨gb314, 1, none⟩ = some (.string (⟨#[]⟩ : ByteArray)) := (blk_cell BK314.out 1).trans rfl; have hcz72_2 : w68.cell? ⟨gb314, 2, none⟩ = some (.slice none 0 0) := (blk_cell BK314.out 2).trans rfl; have hcz72_3 : w68.cell? ⟨gb314, 3, none⟩ = some (.string (⟨#[]⟩ : ByteArray)) := (blk_cell BK314.out 3).trans rfl; have hfz72_0 := blk_frozen BK314.out 0; have hfz72_1 := blk_frozen BK314.out 1; have hfz72_2 := blk_frozen BK314.out 2; have hfz72_3 := blk_frozen BK314.out 3; obtain ⟨Ao73, co73, eo73⟩ := Kd.V_slice HO312.out; subst eo73))
                  go_loopg [11, 12] k1 (fun kq v11 v12 w' => ∃ (x11_2 : ByteArray) (x12_2 : Int) (x315000_2 : Bool) (x315001_2 : ByteArray) (x315002_2 : List ByteArray) (x315003_2 : ByteArray) (u315002 : Value), v11 = .string x11_2 ∧ v12 = .int .i64 x12_2 ∧ Aside0 (emulatorlaw43_TtyLines.l1 kq a1 a2 x11_2 x12_2 t294 t295 t296 t299 t301 t302 t303 t306 x315000_2 x315001_2 x315002_2 x315003_2 = some r) ∧ Aside0 (kq ≤ k1) ∧ Aside0 (Kd.V Kd.string 9 w' w.heap.size (fun k_ => k_ ≠ gb287 ∧ k_ ≠ gb300 ∧ k_ ≠ gb307 ∧ k_ ≠ gb314) (.slice Ao56 t296.length co56) t296) ∧ Aside0 (Kd.V Kd.string 9 w' w.heap.size (fun k_ => k_ ≠ gb287 ∧ k_ ≠ gb300 ∧ k_ ≠ gb307 ∧ k_ ≠ gb314) (.slice Ao64 t303.length co64) t303) ∧ Aside0 (Kd.V Kd.string 9 w' w.heap.size (fun k_ => k_ ≠ gb287 ∧ k_ ≠ gb300 ∧ k_ ≠ gb307 ∧ k_ ≠ gb314) u315002 x315002_2) ∧ Aside0 (w'.heap[gb287]? = some (.cells #[.bool false, .string a0_1, (.slice none 0 0), .string a0_3] 24 (0, 0))) ∧ Aside0 (w'.heap[gb300]? = some (.cells #[.bool t294, .string t295, (.slice Ao56 t296.length co56), .string t299] 24 (0, 0))) ∧ Aside0 (w'.heap[gb307]? = some (.cells #[.bool t301, .string t302, (.slice Ao64 t303.length co64), .string t306] 24 (0, 0))) ∧ Aside0 (w'.heap[gb314]? = some (.cells #[.bool x315000_2, .string x315001_2, u315002, .string x315003_2] 24 (0, 0))) ∧ Aside0 (Below w.heap.size w w'))
                  case atStart => exact ⟨((⟨#[]⟩ : ByteArray)), (0), (t308), (t309), (t310), (t313), (.slice Ao73 t310.length co73), (by first | rfl | (simp; done) | (simp [isEmpty_ne]; done) | (simp [*]; done)), (by first | rfl | (simp; done) | (simp [isEmpty_ne]; done) | (simp [*]; done)), H', ⟨Nat.le_refl _⟩, ⟨by (with_reducible repeat (first | apply Kd.V_alloc | apply Kd.V_drewN | apply Kd.V_drew)); exact Kd.V_mono (Kd.V_far (p := ⟨gb314, 3, none⟩) (Kd.V_far (p := ⟨gb314, 2, none⟩) (Kd.V_far (p := ⟨gb314, 1, none⟩) (Kd.V_far (p := ⟨gb314, 0, none⟩) (Kd.V_mono HO298.out (fun k_ hk => (⟨hk, hk.2⟩ : _ ∧ k_ ≠ gb314))) (fun _ hk => hk.2) (.bool t308)) (fun _ hk => hk.2) (.string t309)) (fun _ hk => hk.2) (.slice Ao73 t310.length co73)) (fun _ hk => hk.2) (.string t313)) (fun _ hk => ⟨hk.1.1.1, ⟨hk.1.1.2.1, ⟨hk.1.1.2.2, hk.1.2⟩⟩⟩)⟩, ⟨by (with_reducible repeat (first | apply Kd.V_alloc | apply Kd.V_drewN | apply Kd.V_drew)); exact Kd.V_mono (Kd.V_far (p := ⟨gb314, 3, none⟩) (Kd.V_far (p := ⟨gb314, 2, none⟩) (Kd.V_far (p := ⟨gb314, 1, none⟩) (Kd.V_far (p := ⟨gb314, 0, none⟩) (Kd.V_mono HO305.out (fun k_ hk => (⟨hk, hk.2⟩ : _ ∧ k_ ≠ gb314))) (fun _ hk => hk.2) (.bool t308)) (fun _ hk => hk.2) (.string t309)) (fun _ hk => hk.2) (.slice Ao73 t310.length co73)) (fun _ hk => hk.2) (.string t313)) (fun _ hk => ⟨hk.1.1.1, ⟨hk.1.1.2.1, ⟨hk.1.1.2.2, hk.1.2⟩⟩⟩)⟩, ⟨by (with_reducible repeat (first | apply Kd.V_alloc | apply Kd.V_drewN | apply Kd.V_drew)); exact Kd.V_mono (Kd.V_far (p := ⟨gb314, 3, none⟩) (Kd.V_far (p := ⟨gb314, 2, none⟩) (Kd.V_far (p := ⟨gb314, 1, none⟩) (Kd.V_far (p := ⟨gb314, 0, none⟩) (Kd.V_mono HO312.out (fun k_ hk => (⟨hk, hk.2⟩ : _ ∧ k_ ≠ gb314))) (fun _ hk => hk.2) (.bool t308)) (fun _ hk => hk.2) (.string t309)) (fun _ hk => hk.2) (.slice Ao73 t310.length co73)) (fun _ hk => hk.2) (.string t313)) (fun _ hk => ⟨hk.1.1.1, ⟨hk.1.1.2.1, ⟨hk.1.1.2.2, hk.1.2⟩⟩⟩)⟩, ⟨by (with_reducible repeat (first | refine blk_drewN ?_ _ | refine blk_drew ?_ | refine blk_alloc ?_ _)); refine blk_far ?_ NB287_314.out _; (with_reducible repeat (first | refine blk_drewN ?_ _ | refine blk_drew ?_ | refine blk_alloc ?_ _)); refine blk_far ?_ NB287_314.out _; (with_reducible repeat (first | refine blk_drewN ?_ _ | refine blk_drew ?_ | refine blk_alloc ?_ _)); refine blk_far ?_ NB287_314.out _; (with_reducible repeat (first | refine blk_drewN ?_ _ | refine blk_drew ?_ | refine blk_alloc ?_ _)); refine blk_far ?_ NB287_314.out _; (with_reducible repeat (first | refine blk_drewN ?_ _ | refine blk_drew ?_ | refine blk_alloc ?_ _)); exact BK287.out⟩, ⟨by (with_reducible repeat (first | refine blk_drewN ?_ _ | refine blk_drew ?_ | refine blk_alloc ?_ _)); refine blk_far ?_ NB300_314.out _; (with_reducible repeat (first | refine blk_drewN ?_ _ | refine blk_drew ?_ | refine blk_alloc ?_ _)); refine blk_far ?_ NB300_314.out _; (with_reducible repeat (first | refine blk_drewN ?_ _ | refine blk_drew ?_ | refine blk_alloc ?_ _)); refine blk_far ?_ NB300_314.out _; (with_reducible repeat (first | refine blk_drewN ?_ _ | refine blk_drew ?_ | refine blk_alloc ?_ _)); refine blk_far ?_ NB300_314.out _; (with_reducible repeat (first | refine blk_drewN ?_ _ | refine blk_drew ?_ | refine blk_alloc ?_ _)); exact BK300.out⟩, ⟨by (with_reducible repeat (first | refine blk_drewN ?_ _ | refine blk_drew ?_ | refine blk_alloc ?_ _)); refine blk_far ?_ NB307_314.out _; (with_reducible repeat (first | refine blk_drewN ?_ _ | refine blk_drew ?_ | refine blk_alloc ?_ _)); refine blk_far ?_ NB307_314.out _; (with_reducible repeat (first | refine blk_drewN ?_ _ | refine blk_drew ?_ | refine blk_alloc ?_ _)); refine blk_far ?_ NB307_314.out _; (with_reducible repeat (first | refine blk_drewN ?_ _ | refine blk_drew ?_ | refine blk_alloc ?_ _)); refine blk_far ?_ NB307_314.out _; (with_reducible repeat (first | refine blk_drewN ?_ _ | refine blk_drew ?_ | refine blk_alloc ?_ _)); exact BK307.out⟩, ⟨by (with_reducible repeat (first | refine blk_drewN ?_ _ | refine blk_drew ?_ | refine blk_alloc ?_ _)); refine blk_put (cs := #[.bool t308, .string t309, .slice Ao73 t310.length co73, .string (⟨#[]⟩ : ByteArray)]) ?_ 3 _ rfl; (with_reducible repeat (first | refine blk_drewN ?_ _ | refine blk_drew ?_ | refine blk_alloc ?_ _)); refine blk_put (cs := #[.bool t308, .string t309, .slice none 0 0, .string (⟨#[]⟩ : ByteArray)]) ?_ 2 _ rfl; (with_reducible repeat (first | refine blk_drewN ?_ _ | refine blk_drew ?_ | refine blk_alloc ?_ _)); refine blk_put (cs := #[.bool t308, .string (⟨#[]⟩ : ByteArray), .slice none 0 0, .string (⟨#[]⟩ : ByteArray)]) ?_ 1 _ rfl; (with_reducible repeat (first | refine blk_drewN ?_ _ | refine blk_drew ?_ | refine blk_alloc ?_ _)); refine blk_put (cs := #[.bool false, .string (⟨#[]⟩ : ByteArray), .slice none 0 0, .string (⟨#[]⟩ : ByteArray)]) ?_ 0 _ rfl; (with_reducible repeat (first | refine blk_drewN ?_ _ | refine blk_drew ?_ | refine blk_alloc ?_ _)); exact BK314.out⟩, ⟨by repeat (first | (with_reducible first | exact HB.out | apply below_alloc | apply pw_below_drewN | apply below_drew1 | refine below_set ?_ GE287.out | refine below_set ?_ GE300.out | refine below_set ?_ GE307.out | refine below_set ?_ GE314.out) | exact HB.out)⟩⟩
                  case round =>
                    clear H'
                    try clear c1
                    try clear c2
                    try clear p2
                    try clear c3
                    try clear p3
                    try clear q3
                    try clear hx3
                    try clear c4
                    try clear p4
                    try clear q4
                    try clear hx4
                    try clear c5
                    try clear c6
                    try clear p6
                    try clear c7
                    try clear c10
                    try clear c11
                    try clear c12
                    try clear c13
                    try clear c13b0
                    try clear c13b1
                    try clear c14
                    try clear c14b0
                    try clear c14b1
                    try clear c21
                    try clear c21b0
                    try clear c21b1
                    try clear c32
                    try clear c32b0
                    try clear c33
                    try clear c33b0
                    try clear p34
                    try clear q34
                    try clear hx34
                    try clear c35
                    try clear c35b0
                    try clear p36
                    try clear q36
                    try clear hx36
                    try clear c37
                    try clear c37b0
                    try clear c37b1
                    try clear p40
                    try clear q40
                    try clear hx40
                    try clear c41
                    try clear c41b0
                    try clear p42
                    try clear q42
                    try clear hx42
                    try clear c43
                    try clear c43b0
                    try clear c43b1
                    try clear c54
                    try clear c61
                    try clear c62
                    try clear p64
                    try clear c69
                    try clear c70
                    try clear c71
                    try clear hcz11_0
                    try clear hcz11_1
                    try clear hcz11_2
                    try clear hcz11_3
                    try clear hcz17_0
                    try clear hcz17_1
                    try clear hcz17_2
                    try clear hcz17_3
                    try clear hcz19_0
                    try clear hcz19_1
                    try clear hcz19_2
                    try clear hcz19_3
                    try clear hcz24_0
                    try clear hcz24_1
                    try clear hcz24_2
                    try clear hcz24_3
                    try clear hcz26_0
                    try clear hcz26_1
                    try clear hcz26_2
                    try clear hcz26_3
                    try clear hcz29_0
                    try clear hcz29_1
                    try clear hcz29_2
                    try clear hcz29_3
                    try clear hcz31_0
                    try clear hcz31_1
                    try clear hcz31_2
                    try clear hcz31_3
                    try clear hcz49_0
                    try clear hcz49_1
                    try clear hcz49_2
                    try clear hcz49_3
                    try clear hcz51_0
                    try clear hcz51_1
                    try clear hcz51_2
                    try clear hcz51_3
                    try clear hcz55_0
                    try clear hcz55_1
                    try clear hcz55_2
                    try clear hcz55_3
                    try clear hcz58_0
                    try clear hcz58_1
                    try clear hcz58_2
                    try clear hcz58_3
                    try clear hcz63_0
                    try clear hcz63_1
                    try clear hcz63_2
                    try clear hcz63_3
                    try clear hcz66_0
                    try clear hcz66_1
                    try clear hcz66_2
                    try clear hcz66_3
                    try clear hcz72_0
                    try clear hcz72_1
                    try clear hcz72_2
                    try clear hcz72_3
                    try clear hcz9_0
                    try clear hcz9_1
                    try clear hcz9_2
                    try clear hcz9_3
                    try clear hfz11_0
                    try clear hfz11_1
                    try clear hfz11_2
                    try clear hfz11_3
                    try clear hfz17_0
                    try clear hfz17_1
                    try clear hfz17_2
                    try clear hfz17_3
                    try clear hfz19_0
                    try clear hfz19_1
                    try clear hfz19_2
                    try clear hfz19_3
                    try clear hfz24_0
                    try clear hfz24_1
                    try clear hfz24_2
                    try clear hfz24_3
                    try clear hfz26_0
                    try clear hfz26_1
                    try clear hfz26_2
                    try clear hfz26_3
                    try clear hfz29_0
                    try clear hfz29_1
                    try clear hfz29_2
                    try clear hfz29_3
                    try clear hfz31_0
                    try clear hfz31_1
                    try clear hfz31_2
                    try clear hfz31_3
                    try clear hfz49_0
                    try clear hfz49_1
                    try clear hfz49_2
                    try clear hfz49_3
                    try clear hfz51_0
                    try clear hfz51_1
                    try clear hfz51_2
                    try clear hfz51_3
                    try clear hfz55_0
                    try clear hfz55_1
                    try clear hfz55_2
                    try clear hfz55_3
                    try clear hfz58_0
                    try clear hfz58_1
                    try clear hfz58_2
                    try clear hfz58_3
                    try clear hfz63_0
                    try clear hfz63_1
                    try clear hfz63_2
                    try clear hfz63_3
                    try clear hfz66_0
                    try clear hfz66_1
                    try clear hfz66_2
                    try clear hfz66_3
                    try clear hfz72_0
                    try clear hfz72_1
                    try clear hfz72_2
                    try clear hfz72_3
                    try clear hfz9_0
                    try clear hfz9_1
                    try clear hfz9_2
                    try clear hfz9_3
                    try clear p2
                    try clear p34
                    try clear p36
                    try clear p40
                    try clear p42
                    try clear q34
                    try clear q36
                    try clear q40
                    try clear q42
                    obtain ⟨x11_2, x12_2, x315000_2, x315001_2, x315002_2, x315003_2, u315002, rfl, rfl, HA, HK2, HO_301002, HO_308002, HO_315002, BK287, BK300, BK307, BK314, HB⟩ := hrel
                    cases gk with
                    | zero => exact absurd HA.out (by simp [emulatorlaw43_TtyLines.l1])
                    | succ k2 =>
                      have H := HA.out
                      clear HA
                      simp only [emulatorlaw43_TtyLines.l1] at H
                      by_cases c74 : x12_2 < 100
                      · rw [if_pos c74] at H
                        have c74b0 : decide (x12_2 < 100) = true := decide_eq_true c74
                        clear c74
                        by_cases c75 : (x315002_2.length : Int) > 0
                        · rw [if_pos c75] at H
                          have c75b0 : decide (0 < (x315002_2.length : Int)) = true := decide_eq_true c75
                          have c75b1 : decide (0 < x315002_2.length) = true := decide_eq_true (by omega)
                          clear c75
                          replace H := Option.bind_eq_some_iff.mp H
                          obtain ⟨⟨t315, t316, t317, t320, t321, t322⟩, A760, H⟩ := H
                          replace H : (if t322 = 0 then (if x11_2.size + t321.size ≤ 9223372036854775807 then (emulatorlaw43_TtyLines.l1 k2 a1 a2 (x11_2 ++ t321) (wrap64 (x12_2 + 1)) t294 t295 t296 t299 t301 t302 t303 t306 t315 t316 t317 t320) else (none)) else (none)) = some r := H
                          have A76 := Aside0.mk A760
                          clear A760
                          by_cases c77 : t322 = 0
                          · rw [if_pos c77] at H
                            have c77b0 : (t322 == 0) = true := beq_iff_eq.mpr c77
                            have c77b1 : (t322 != 0) = false := bne_eq_false_iff_eq.mpr c77
                            clear c77
                            by_cases c78 : x11_2.size + t321.size ≤ 9223372036854775807
                            · rw [if_pos c78] at H
                              have c78b0 := eq_true c78
                              have c78b1 : decide (x11_2.size + t321.size ≤ 9223372036854775807) = true := decide_eq_true c78
                              try have c78b2 : (9223372036854775807 < x11_2.size + t321.size) = False := eq_false (Nat.not_lt.2 c78)
                              have H' := Aside0.mk H
                              clear H
                              have hnb79 := NB314_287.out
                              have hnc79 := NB287_314.out
                              have hnb80 := NB314_300.out
                              have hnc80 := NB300_314.out
                              have hnb81 := NB314_307.out
                              have hnc81 := NB307_314.out
                              have hcz82_0 : wr.cell? ⟨gb314, 0, none⟩ = some (.bool x315000_2) := (blk_cell BK314.out 0).trans rfl
                              have hcz82_1 : wr.cell? ⟨gb314, 1, none⟩ = some (.string x315001_2) := (blk_cell BK314.out 1).trans rfl
                              have hcz82_2 : wr.cell? ⟨gb314, 2, none⟩ = some (u315002) := (blk_cell BK314.out 2).trans rfl
                              have hcz82_3 : wr.cell? ⟨gb314, 3, none⟩ = some (.string x315003_2) := (blk_cell BK314.out 3).trans rfl
                              have hfz82_0 := blk_frozen BK314.out 0
                              have hfz82_1 := blk_frozen BK314.out 1
                              have hfz82_2 := blk_frozen BK314.out 2
                              have hfz82_3 := blk_frozen BK314.out 3
                              obtain ⟨Ao83, co83, eo83⟩ := Kd.V_slice HO_315002.out
                              subst eo83
                              go_wp2_with (first | ((with_reducible refine gate_callee (f := 13) rfl ?_); refine goesL_ (some 87) rfl rfl Try.func13 (by kernel_rfl) rfl #[.agg #[.bool x315000_2, .string x315001_2, .slice Ao83 x315002_2.length co83, .string x315003_2], .int .i64 (wrap64 (1 + (wrap64 (Int.tmod a2 20))))] rfl (by (try simp only [List.map_toArray, List.map_cons, List.map_nil]); first | done | rfl | (simp only [List.length_drop, List.length_take]; rfl)) ?_; (with_reducible refine (tty_Read.calls x315000_2 x315001_2 (fun k_ => (k_ ≠ gb287 ∧ (k_ ≠ gb300 ∧ (k_ ≠ gb307 ∧ k_ ≠ gb314)))) _ _ x315002_2 x315003_2 (wrap64 (1 + (wrap64 (Int.tmod a2 20)))) t315 t316 t317 t320 t321 t322 _ ?side1 A76.out).mono ?_); (case side1 => exact HO_315002.out); rintro e w84 ⟨v318, rfl, ho0, hb⟩; refine ⟨_, rfl, ?_⟩; have n0_ := Aside0.mk (Kd.V_below (by (with_reducible repeat (first | apply Kd.V_alloc | apply Kd.V_drewN | apply Kd.V_drew)); exact HO_301002.out) hb); have n1_ := Aside0.mk (Kd.V_below (by (with_reducible repeat (first | apply Kd.V_alloc | apply Kd.V_drewN | apply Kd.V_drew)); exact HO_308002.out) hb); have n2_ := Aside0.mk (Kd.V_below (by (with_reducible repeat (first | apply Kd.V_alloc | apply Kd.V_drewN | apply Kd.V_drew)); exact HO_315002.out) hb); have n3_ := Aside0.mk (Kd.V_lower (Kd.V_mono (ok' := fun k_ => k_ ≠ gb287 ∧ k_ ≠ gb300 ∧ k_ ≠ gb307 ∧ k_ ≠ gb314) ho0 (fun k_ hk_ => ⟨Or.elim hk_ (fun hs_ => hs_.1) (fun hn_ => (Kd.freshB (g := gb287) (o := .cells #[.bool false, .string a0_1, .slice none 0 0, .string a0_3] 24 (0, 0)) (by (with_reducible repeat (first | refine blk_drewN ?_ _ | refine blk_drew ?_ | refine blk_alloc ?_ _)); exact BK287.out) k_ hn_)), Or.elim hk_ (fun hs_ => hs_.2.1) (fun hn_ => (Kd.freshB (g := gb300) (o := .cells #[.bool t294, .string t295, .slice Ao56 t296.length co56, .string t299] 24 (0, 0)) (by (with_reducible repeat (first | refine blk_drewN ?_ _ | refine blk_drew ?_ | refine blk_alloc ?_ _)); exact BK300.out) k_ hn_)), Or.elim hk_ (fun hs_ => hs_.2.2.1) (fun hn_ => (Kd.freshB (g := gb307) (o := .cells #[.bool t301, .string t302, .slice Ao64 t303.length co64, .string t306] 24 (0, 0)) (by (with_reducible repeat (first | refine blk_drewN ?_ _ | refine blk_drew ?_ | refine blk_alloc ?_ _)); exact BK307.out) k_ hn_)), Or.elim hk_ (fun hs_ => hs_.2.2.2) (fun hn_ => (Kd.freshB (g := gb314) (o := .cells #[.bool x315000_2, .string x315001_2, .slice Ao83 x315002_2.length co83, .string x315003_2] 24 (0, 0)) (by (with_reducible repeat (first | refine blk_drewN ?_ _ | refine blk_drew ?_ | refine blk_alloc ?_ _)); exact BK314.out) k_ hn_))⟩)) (below_size (by repeat (first | (with_reducible first | exact HB.out | apply below_alloc | apply pw_below_drewN | apply below_drew1 | refine below_set ?_ GE287.out | refine below_set ?_ GE300.out | refine below_set ?_ GE307.out | refine below_set ?_ GE314.out) | exact HB.out)))); have n4_ := Aside0.mk (blk_below (g := gb287) (o := .cells #[.bool false, .string a0_1, .slice none 0 0, .string a0_3] 24 (0, 0)) (by (with_reducible repeat (first | refine blk_drewN ?_ _ | refine blk_drew ?_ | refine blk_alloc ?_ _)); exact BK287.out) hb); have n5_ := Aside0.mk (blk_below (g := gb300) (o := .cells #[.bool t294, .string t295, .slice Ao56 t296.length co56, .string t299] 24 (0, 0)) (by (with_reducible repeat (first | refine blk_drewN ?_ _ | refine blk_drew ?_ | refine blk_alloc ?_ _)); exact BK300.out) hb); have n6_ := Aside0.mk (blk_below (g := gb307) (o := .cells #[.bool t301, .string t302, .slice Ao64 t303.length co64, .string t306] 24 (0, 0)) (by (with_reducible repeat (first | refine blk_drewN ?_ _ | refine blk_drew ?_ | refine blk_alloc ?_ _)); exact BK307.out) hb); have n7_ := Aside0.mk (blk_below (g := gb314) (o := .cells #[.bool x315000_2, .string x315001_2, .slice Ao83 x315002_2.length co83, .string x315003_2] 24 (0, 0)) (by (with_reducible repeat (first | refine blk_drewN ?_ _ | refine blk_drew ?_ | refine blk_alloc ?_ _)); exact BK314.out) hb); have n8_ := Aside0.mk (below_step (by repeat (first | (with_reducible first | exact HB.out | apply below_alloc | apply pw_below_drewN | apply below_drew1 | refine below_set ?_ GE287.out | refine below_set ?_ GE300.out | refine below_set ?_ GE307.out | refine below_set ?_ GE314.out) | exact HB.out)) hb); clear HO_301002; clear HO_308002; clear HO_315002; clear BK287; clear BK300; clear BK307; clear BK314; clear HB; have HO_301002 := n0_; have HO_308002 := n1_; have HO_315002 := n2_; have HO319 := n3_; have BK287 := n4_; have BK300 := n5_; have BK307 := n6_; have BK314 := n7_; have HB := n8_; clear n0_ n1_ n2_ n3_ n4_ n5_ n6_ n7_ n8_; (try clear hb); (try clear hb2); (try clear hk); (try clear hi); (try clear ho0)) | ((with_reducible refine gate_dst (N := 13) rfl ?_); refine box_event ?hg (N := 13) ?hd (cs := #[.bool false, .string (⟨#[]⟩ : ByteArray), .slice none 0 0, .string (⟨#[]⟩ : ByteArray)]) (t := 24) ?hr ?_; (case hd => rfl); (case hg => rfl); (case hr => first | (go_simp; done) | (go_simp; rfl)); intro gb323 hg w85 hbox hb; have n0_ := Aside0.mk (Kd.V_below (Kd.V_elderB (by (with_reducible repeat (first | apply Kd.V_alloc | apply Kd.V_drewN | apply Kd.V_drew)); exact HO_301002.out) gb323 (Nat.le_of_eq hg.symm)) hb); have n1_ := Aside0.mk (Kd.V_below (Kd.V_elderB (by (with_reducible repeat (first | apply Kd.V_alloc | apply Kd.V_drewN | apply Kd.V_drew)); exact HO_308002.out) gb323 (Nat.le_of_eq hg.symm)) hb); have n2_ := Aside0.mk (Kd.V_below (Kd.V_elderB (by (with_reducible repeat (first | apply Kd.V_alloc | apply Kd.V_drewN | apply Kd.V_drew)); exact HO_315002.out) gb323 (Nat.le_of_eq hg.symm)) hb); have n3_ := Aside0.mk (Kd.V_below (Kd.V_elderB (by (with_reducible repeat (first | apply Kd.V_alloc | apply Kd.V_drewN | apply Kd.V_drew)); exact HO319.out) gb323 (Nat.le_of_eq hg.symm)) hb); have n4_ := Aside0.mk (blk_below (g := gb287) (o := .cells #[.bool false, .string a0_1, .slice none 0 0, .string a0_3] 24 (0, 0)) (by (with_reducible repeat (first | refine blk_drewN ?_ _ | refine blk_drew ?_ | refine blk_alloc ?_ _)); exact BK287.out) hb); have n5_ := Aside0.mk (blk_below (g := gb300) (o := .cells #[.bool t294, .string t295, .slice Ao56 t296.length co56, .string t299] 24 (0, 0)) (by (with_reducible repeat (first | refine blk_drewN ?_ _ | refine blk_drew ?_ | refine blk_alloc ?_ _)); exact BK300.out) hb); have n6_ := Aside0.mk (blk_below (g := gb307) (o := .cells #[.bool t301, .string t302, .slice Ao64 t303.length co64, .string t306] 24 (0, 0)) (by (with_reducible repeat (first | refine blk_drewN ?_ _ | refine blk_drew ?_ | refine blk_alloc ?_ _)); exact BK307.out) hb); have n7_ := Aside0.mk (blk_below (g := gb314) (o := .cells #[.bool x315000_2, .string x315001_2, .slice Ao83 x315002_2.length co83, .string x315003_2] 24 (0, 0)) (by (with_reducible repeat (first | refine blk_drewN ?_ _ | refine blk_drew ?_ | refine blk_alloc ?_ _)); exact BK314.out) hb); have n8_ := Aside0.mk (below_step (by repeat (first | (with_reducible first | exact HB.out | apply below_alloc | apply pw_below_drewN | apply below_drew1 | refine below_set ?_ GE287.out | refine below_set ?_ GE300.out | refine below_set ?_ GE307.out | refine below_set ?_ GE314.out) | exact HB.out)) hb); have n9_ := Aside0.mk (hbox); have n10_ := Aside0.mk ((by rw [hg]; exact (below_size (by repeat (first | (with_reducible first | exact HB.out | apply below_alloc | apply pw_below_drewN | apply below_drew1 | refine below_set ?_ GE287.out | refine below_set ?_ GE300.out | refine below_set ?_ GE307.out | refine below_set ?_ GE314.out) | exact HB.out))) : w.heap.size ≤ gb323)); have n11_ := Aside0.mk ((by rw [hg]; exact (below_size (by repeat (first | (with_reducible first | exact HB.out | apply below_alloc | apply pw_below_drewN | apply below_drew1 | refine below_set ?_ GE287.out | refine below_set ?_ GE300.out | refine below_set ?_ GE307.out | refine below_set ?_ GE314.out) | exact HB.out))) : w.heap.size ≤ gb323)); have n12_ := Aside0.mk ((by rw [hg]; exact Nat.ne_of_lt (blk_lt (g := gb287) (o := .cells #[.bool false, .string a0_1, .slice none 0 0, .string a0_3] 24 (0, 0)) (by (with_reducible repeat (first | refine blk_drewN ?_ _ | refine blk_drew ?_ | refine blk_alloc ?_ _)); exact BK287.out)) : gb287 ≠ gb323)); have n13_ := Aside0.mk ((by rw [hg]; exact Nat.ne_of_gt (blk_lt (g := gb287) (o := .cells #[.bool false, .string a0_1, .slice none 0 0, .string a0_3] 24 (0, 0)) (by (with_reducible repeat (first | refine blk_drewN ?_ _ | refine blk_drew ?_ | refine blk_alloc ?_ _)); exact BK287.out)) : gb323 ≠ gb287)); have n14_ := Aside0.mk ((by rw [hg]; exact Nat.ne_of_lt (blk_lt (g := gb300) (o := .cells #[.bool t294, .string t295, .slice Ao56 t296.length co56, .string t299] 24 (0, 0)) (by (with_reducible repeat (first | refine blk_drewN ?_ _ | refine blk_drew ?_ | refine blk_alloc ?_ _)); exact BK300.out)) : gb300 ≠ gb323)); have n15_ := Aside0.mk ((by rw [hg]; exact Nat.ne_of_gt (blk_lt (g := gb300) (o := .cells #[.bool t294, .string t295, .slice Ao56 t296.length co56, .string t299] 24 (0, 0)) (by (with_reducible repeat (first | refine blk_drewN ?_ _ | refine blk_drew ?_ | refine blk_alloc ?_ _)); exact BK300.out)) : gb323 ≠ gb300)); have n16_ := Aside0.mk ((by rw [hg]; exact Nat.ne_of_lt (blk_lt (g := gb307) (o := .cells #[.bool t301, .string t302, .slice Ao64 t303.length co64, .string t306] 24 (0, 0)) (by (with_reducible repeat (first | refine blk_drewN ?_ _ | refine blk_drew ?_ | refine blk_alloc ?_ _)); exact BK307.out)) : gb307 ≠ gb323)); have n17_ := Aside0.mk ((by rw [hg]; exact Nat.ne_of_gt (blk_lt (g := gb307) (o := .cells #[.bool t301, .string t302, .slice Ao64 t303.length co64, .string t306] 24 (0, 0)) (by (with_reducible repeat (first | refine blk_drewN ?_ _ | refine blk_drew ?_ | refine blk_alloc ?_ _)); exact BK307.out)) : gb323 ≠ gb307)); have n18_ := Aside0.mk ((by rw [hg]; exact Nat.ne_of_lt (blk_lt (g := gb314) (o := .cells #[.bool x315000_2, .string x315001_2, .slice Ao83 x315002_2.length co83, .string x315003_2] 24 (0, 0)) (by (with_reducible repeat (first | refine blk_drewN ?_ _ | refine blk_drew ?_ | refine blk_alloc ?_ _)); exact BK314.out)) : gb314 ≠ gb323)); have n19_ := Aside0.mk ((by rw [hg]; exact Nat.ne_of_gt (blk_lt (g := gb314) (o := .cells #[.bool x315000_2, .string x315001_2, .slice Ao83 x315002_2.length co83, .string x315003_2] 24 (0, 0)) (by (with_reducible repeat (first | refine blk_drewN ?_ _ | refine blk_drew ?_ | refine blk_alloc ?_ _)); exact BK314.out)) : gb323 ≠ gb314)); clear HO_301002; clear HO_308002; clear HO_315002; clear HO319; clear BK287; clear BK300; clear BK307; clear BK314; clear HB; have HO_301002 := n0_; have HO_308002 := n1_; have HO_315002 := n2_; have HO319 := n3_; have BK287 := n4_; have BK300 := n5_; have BK307 := n6_; have BK314 := n7_; have HB := n8_; have BK323 := n9_; have GW323 := n10_; have GE323 := n11_; have NB287_323 := n12_; have NB323_287 := n13_; have NB300_323 := n14_; have NB323_300 := n15_; have NB307_323 := n16_; have NB323_307 := n17_; have NB314_323 := n18_; have NB323_314 := n19_; clear n0_ n1_ n2_ n3_ n4_ n5_ n6_ n7_ n8_ n9_ n10_ n11_ n12_ n13_ n14_ n15_ n16_ n17_ n18_ n19_; clear hb hbox hg; have hnb86 := NB323_287.out; have hnc86 := NB287_323.out; have hnb87 := NB323_300.out; have hnc87 := NB300_323.out; have hnb88 := NB323_307.out; have hnc88 := NB307_323.out; have hnb89 := NB323_314.out; have hnc89 := NB314_323.out; have hcz90_0 : w85.cell? ⟨gb323, 0, none⟩ = some (.bool false) := (blk_cell BK323.out 0).trans rfl; have hcz90_1 : w85.cell? ⟨gb323, 1, none⟩ = some (.string (⟨#[]⟩ : ByteArray)) := (blk_cell BK323.out 1).trans rfl; have hcz90_2 : w85.cell? ⟨gb323, 2, none⟩ = some (.slice none 0 0) := (blk_cell BK323.out 2).trans rfl; have hcz90_3 : w85.cell? ⟨gb323, 3, none⟩ = some (.string (⟨#[]⟩ : ByteArray)) := (blk_cell BK323.out 3).trans rfl; have hfz90_0 := blk_frozen BK323.out 0; have hfz90_1 := blk_frozen BK323.out 1; have hfz90_2 := blk_frozen BK323.out 2; have hfz90_3 := blk_frozen BK323.out 3; obtain ⟨Ao91, co91, eo91⟩ := Kd.V_slice HO319.out; subst eo91; have hcz92_0 : w85.cell? ⟨gb314, 0, none⟩ = some (.bool x315000_2) := (blk_cell BK314.out 0).trans rfl; have hcz92_1 : w85.cell? ⟨gb314, 1, none⟩ = some (.string x315001_2) := (blk_cell BK314.out 1).trans rfl; have hcz92_2 : w85.cell? ⟨gb314, 2, none⟩ = some (.slice Ao83 x315002_2.length co83) := (blk_cell BK314.out 2).trans rfl; have hcz92_3 : w85.cell? ⟨gb314, 3, none⟩ = some (.string x315003_2) := (blk_cell BK314.out 3).trans rfl; have hfz92_0 := blk_frozen BK314.out 0; have hfz92_1 := blk_frozen BK314.out 1; have hfz92_2 := blk_frozen BK314.out 2; have hfz92_3 := blk_frozen BK314.out 3))
                              go_roundg k2
                              case measure => have := HK1.out; have := HK2.out; omega
                              case rel => exact ⟨(x11_2 ++ t321), (wrap64 (x12_2 + 1)), (t315), (t316), (t317), (t320), (.slice Ao91 t317.length co91), (by first | rfl | (simp; done) | (simp [isEmpty_ne]; done) | (simp [*]; done)), (by first | rfl | (simp; done) | (simp [isEmpty_ne]; done) | (simp [*]; done)), H', ⟨by have := HK1.out; have := HK2.out; omega⟩, ⟨by (with_reducible repeat (first | apply Kd.V_alloc | apply Kd.V_drewN | apply Kd.V_drew)); exact Kd.V_mono (Kd.V_far (p := ⟨gb314, 3, none⟩) (Kd.V_far (p := ⟨gb314, 2, none⟩) (Kd.V_far (p := ⟨gb314, 1, none⟩) (Kd.V_far (p := ⟨gb314, 0, none⟩) (Kd.V_far (p := ⟨gb323, 3, none⟩) (Kd.V_far (p := ⟨gb323, 2, none⟩) (Kd.V_far (p := ⟨gb323, 1, none⟩) (Kd.V_far (p := ⟨gb323, 0, none⟩) (Kd.V_mono (Kd.V_mono HO_301002.out (fun k_ hk => (⟨hk, hk.2⟩ : _ ∧ k_ ≠ gb323))) (fun k_ hk => (⟨hk, hk.1.1.2.2.2⟩ : _ ∧ k_ ≠ gb314))) (fun _ hk => hk.1.2) (.bool t315)) (fun _ hk => hk.1.2) (.string t316)) (fun _ hk => hk.1.2) (.slice Ao91 t317.length co91)) (fun _ hk => hk.1.2) (.string t320)) (fun _ hk => hk.2) (.bool t315)) (fun _ hk => hk.2) (.string t316)) (fun _ hk => hk.2) (.slice Ao91 t317.length co91)) (fun _ hk => hk.2) (.string t320)) (fun _ hk => ⟨hk.1.1.1.1, ⟨hk.1.1.1.2.1, ⟨hk.1.1.1.2.2.1, hk.1.1.1.2.2.2⟩⟩⟩)⟩, ⟨by (with_reducible repeat (first | apply Kd.V_alloc | apply Kd.V_drewN | apply Kd.V_drew)); exact Kd.V_mono (Kd.V_far (p := ⟨gb314, 3, none⟩) (Kd.V_far (p := ⟨gb314, 2, none⟩) (Kd.V_far (p := ⟨gb314, 1, none⟩) (Kd.V_far (p := ⟨gb314, 0, none⟩) (Kd.V_far (p := ⟨gb323, 3, none⟩) (Kd.V_far (p := ⟨gb323, 2, none⟩) (Kd.V_far (p := ⟨gb323, 1, none⟩) (Kd.V_far (p := ⟨gb323, 0, none⟩) (Kd.V_mono (Kd.V_mono HO_308002.out (fun k_ hk => (⟨hk, hk.2⟩ : _ ∧ k_ ≠ gb323))) (fun k_ hk => (⟨hk, hk.1.1.2.2.2⟩ : _ ∧ k_ ≠ gb314))) (fun _ hk => hk.1.2) (.bool t315)) (fun _ hk => hk.1.2) (.string t316)) (fun _ hk => hk.1.2) (.slice Ao91 t317.length co91)) (fun _ hk => hk.1.2) (.string t320)) (fun _ hk => hk.2) (.bool t315)) (fun _ hk => hk.2) (.string t316)) (fun _ hk => hk.2) (.slice Ao91 t317.length co91)) (fun _ hk => hk.2) (.string t320)) (fun _ hk => ⟨hk.1.1.1.1, ⟨hk.1.1.1.2.1, ⟨hk.1.1.1.2.2.1, hk.1.1.1.2.2.2⟩⟩⟩)⟩, ⟨by (with_reducible repeat (first | apply Kd.V_alloc | apply Kd.V_drewN | apply Kd.V_drew)); exact Kd.V_mono (Kd.V_far (p := ⟨gb314, 3, none⟩) (Kd.V_far (p := ⟨gb314, 2, none⟩) (Kd.V_far (p := ⟨gb314, 1, none⟩) (Kd.V_far (p := ⟨gb314, 0, none⟩) (Kd.V_far (p := ⟨gb323, 3, none⟩) (Kd.V_far (p := ⟨gb323, 2, none⟩) (Kd.V_far (p := ⟨gb323, 1, none⟩) (Kd.V_far (p := ⟨gb323, 0, none⟩) (Kd.V_mono (Kd.V_mono HO319.out (fun k_ hk => (⟨hk, hk.2⟩ : _ ∧ k_ ≠ gb323))) (fun k_ hk => (⟨hk, hk.1.1.2.2.2⟩ : _ ∧ k_ ≠ gb314))) (fun _ hk => hk.1.2) (.bool t315)) (fun _ hk => hk.1.2) (.string t316)) (fun _ hk => hk.1.2) (.slice Ao91 t317.length co91)) (fun _ hk => hk.1.2) (.string t320)) (fun _ hk => hk.2) (.bool t315)) (fun _ hk => hk.2) (.string t316)) (fun _ hk => hk.2) (.slice Ao91 t317.length co91)) (fun _ hk => hk.2) (.string t320)) (fun _ hk => ⟨hk.1.1.1.1, ⟨hk.1.1.1.2.1, ⟨hk.1.1.1.2.2.1, hk.1.1.1.2.2.2⟩⟩⟩)⟩, ⟨by (with_reducible repeat (first | refine blk_drewN ?_ _ | refine blk_drew ?_ | refine blk_alloc ?_ _)); refine blk_far ?_ NB287_314.out _; (with_reducible repeat (first | refine blk_drewN ?_ _ | refine blk_drew ?_ | refine blk_alloc ?_ _)); refine blk_far ?_ NB287_314.out _; (with_reducible repeat (first | refine blk_drewN ?_ _ | refine blk_drew ?_ | refine blk_alloc ?_ _)); refine blk_far ?_ NB287_314.out _; (with_reducible repeat (first | refine blk_drewN ?_ _ | refine blk_drew ?_ | refine blk_alloc ?_ _)); refine blk_far ?_ NB287_314.out _; (with_reducible repeat (first | refine blk_drewN ?_ _ | refine blk_drew ?_ | refine blk_alloc ?_ _)); refine blk_far ?_ NB287_323.out _; (with_reducible repeat (first | refine blk_drewN ?_ _ | refine blk_drew ?_ | refine blk_alloc ?_ _)); refine blk_far ?_ NB287_323.out _; (with_reducible repeat (first | refine blk_drewN ?_ _ | refine blk_drew ?_ | refine blk_alloc ?_ _)); refine blk_far ?_ NB287_323.out _; (with_reducible repeat (first | refine blk_drewN ?_ _ | refine blk_drew ?_ | refine blk_alloc ?_ _)); refine blk_far ?_ NB287_323.out _; (with_reducible repeat (first | refine blk_drewN ?_ _ | refine blk_drew ?_ | refine blk_alloc ?_ _)); exact BK287.out⟩, ⟨by (with_reducible repeat (first | refine blk_drewN ?_ _ | refine blk_drew ?_ | refine blk_alloc ?_ _)); refine blk_far ?_ NB300_314.out _; (with_reducible repeat (first | refine blk_drewN ?_ _ | refine blk_drew ?_ | refine blk_alloc ?_ _)); refine blk_far ?_ NB300_314.out _; (with_reducible repeat (first | refine blk_drewN ?_ _ | refine blk_drew ?_ | refine blk_alloc ?_ _)); refine blk_far ?_ NB300_314.out _; (with_reducible repeat (first | refine blk_drewN ?_ _ | refine blk_drew ?_ | refine blk_alloc ?_ _)); refine blk_far ?_ NB300_314.out _; (with_reducible repeat (first | refine blk_drewN ?_ _ | refine blk_drew ?_ | refine blk_alloc ?_ _)); refine blk_far ?_ NB300_323.out _; (with_reducible repeat (first | refine blk_drewN ?_ _ | refine blk_drew ?_ | refine blk_alloc ?_ _)); refine blk_far ?_ NB300_323.out _; (with_reducible repeat (first | refine blk_drewN ?_ _ | refine blk_drew ?_ | refine blk_alloc ?_ _)); refine blk_far ?_ NB300_323.out _; (with_reducible repeat (first | refine blk_drewN ?_ _ | refine blk_drew ?_ | refine blk_alloc ?_ _)); refine blk_far ?_ NB300_323.out _; (with_reducible repeat (first | refine blk_drewN ?_ _ | refine blk_drew ?_ | refine blk_alloc ?_ _)); exact BK300.out⟩, ⟨by (with_reducible repeat (first | refine blk_drewN ?_ _ | refine blk_drew ?_ | refine blk_alloc ?_ _)); refine blk_far ?_ NB307_314.out _; (with_reducible repeat (first | refine blk_drewN ?_ _ | refine blk_drew ?_ | refine blk_alloc ?_ _)); refine blk_far ?_ NB307_314.out _; (with_reducible repeat (first | refine blk_drewN ?_ _ | refine blk_drew ?_ | refine blk_alloc ?_ _)); refine blk_far ?_ NB307_314.out _; (with_reducible repeat (first | refine blk_drewN ?_ _ | refine blk_drew ?_ | refine blk_alloc ?_ _)); refine blk_far ?_ NB307_314.out _; (with_reducible repeat (first | refine blk_drewN ?_ _ | refine blk_drew ?_ | refine blk_alloc ?_ _)); refine blk_far ?_ NB307_323.out _; (with_reducible repeat (first | refine blk_drewN ?_ _ | refine blk_drew ?_ | refine blk_alloc ?_ _)); refine blk_far ?_ NB307_323.out _; (with_reducible repeat (first | refine blk_drewN ?_ _ | refine blk_drew ?_ | refine blk_alloc ?_ _)); refine blk_far ?_ NB307_323.out _; (with_reducible repeat (first | refine blk_drewN ?_ _ | refine blk_drew ?_ | refine blk_alloc ?_ _)); refine blk_far ?_ NB307_323.out _; (with_reducible repeat (first | refine blk_drewN ?_ _ | refine blk_drew ?_ | refine blk_alloc ?_ _)); exact BK307.out⟩, ⟨by (with_reducible repeat (first | refine blk_drewN ?_ _ | refine blk_drew ?_ | refine blk_alloc ?_ _)); refine blk_put (cs := #[.bool t315, .string t316, .slice Ao91 t317.length co91, .string x315003_2]) ?_ 3 _ rfl; (with_reducible repeat (first | refine blk_drewN ?_ _ | refine blk_drew ?_ | refine blk_alloc ?_ _)); refine blk_put (cs := #[.bool t315, .string t316, .slice Ao83 x315002_2.length co83, .string x315003_2]) ?_ 2 _ rfl; (with_reducible repeat (first | refine blk_drewN ?_ _ | refine blk_drew ?_ | refine blk_alloc ?_ _)); refine blk_put (cs := #[.bool t315, .string x315001_2, .slice Ao83 x315002_2.length co83, .string x315003_2]) ?_ 1 _ rfl; (with_reducible repeat (first | refine blk_drewN ?_ _ | refine blk_drew ?_ | refine blk_alloc ?_ _)); refine blk_put (cs := #[.bool x315000_2, .string x315001_2, .slice Ao83 x315002_2.length co83, .string x315003_2]) ?_ 0 _ rfl; (with_reducible repeat (first | refine blk_drewN ?_ _ | refine blk_drew ?_ | refine blk_alloc ?_ _)); refine blk_far ?_ NB314_323.out _; (with_reducible repeat (first | refine blk_drewN ?_ _ | refine blk_drew ?_ | refine blk_alloc ?_ _)); refine blk_far ?_ NB314_323.out _; (with_reducible repeat (first | refine blk_drewN ?_ _ | refine blk_drew ?_ | refine blk_alloc ?_ _)); refine blk_far ?_ NB314_323.out _; (with_reducible repeat (first | refine blk_drewN ?_ _ | refine blk_drew ?_ | refine blk_alloc ?_ _)); refine blk_far ?_ NB314_323.out _; (with_reducible repeat (first | refine blk_drewN ?_ _ | refine blk_drew ?_ | refine blk_alloc ?_ _)); exact BK314.out⟩, ⟨by repeat (first | (with_reducible first | exact HB.out | apply below_alloc | apply pw_below_drewN | apply below_drew1 | refine below_set ?_ GE287.out | refine below_set ?_ GE300.out | refine below_set ?_ GE307.out | refine below_set ?_ GE314.out | refine below_set ?_ GE323.out) | exact HB.out)⟩⟩
                            · rw [if_neg c78] at H
                              exact absurd H (by simp)
                          · rw [if_neg c77] at H
                            exact absurd H (by simp)
                        · rw [if_neg c75] at H
                          have c75b0 : decide (0 < (x315002_2.length : Int)) = false := decide_eq_false c75
                          have c75b1 : decide (0 < x315002_2.length) = false := decide_eq_false (by omega)
                          clear c75
                          by_cases c93 : t295.toList = a1.toList
                          · rw [if_pos c93] at H
                            have c93b0 : (t295.toList == a1.toList) = true := beq_iff_eq.mpr c93
                            have c93b1 : (t295.toList != a1.toList) = false := bne_eq_false_iff_eq.mpr c93
                            clear c93
                            by_cases c94 : t302.toList = a1.toList
                            · rw [if_pos c94] at H
                              have c94b0 : (t302.toList == a1.toList) = true := beq_iff_eq.mpr c94
                              have c94b1 : (t302.toList != a1.toList) = false := bne_eq_false_iff_eq.mpr c94
                              clear c94
                              by_cases c95 : a1.size + 1 ≤ 9223372036854775807
                              · rw [if_pos c95] at H
                                have c95b0 := eq_true c95
                                have c95b1 : decide (a1.size + 1 ≤ 9223372036854775807) = true := decide_eq_true c95
                                try have c95b2 : (9223372036854775807 < a1.size + 1) = False := eq_false (Nat.not_lt.2 c95)
                                by_cases c96 : x11_2.toList = (a1 ++ (⟨#[10]⟩ : ByteArray)).toList
                                · rw [if_pos c96] at H
                                  have c96b0 : (x11_2.toList == (a1 ++ (⟨#[10]⟩ : ByteArray)).toList) = true := beq_iff_eq.mpr c96
                                  have c96b1 : (x11_2.toList != (a1 ++ (⟨#[10]⟩ : ByteArray)).toList) = false := bne_eq_false_iff_eq.mpr c96
                                  clear c96
                                  by_cases c97 : x315001_2.toList = ([] : List UInt8)
                                  · rw [if_pos c97] at H
                                    have c97b0 : (x315001_2.toList == ([] : List UInt8)) = true := beq_iff_eq.mpr c97
                                    have c97b1 : (x315001_2.toList != ([] : List UInt8)) = false := bne_eq_false_iff_eq.mpr c97
                                    clear c97
                                    replace H := Option.bind_eq_some_iff.mp H
                                    obtain ⟨t324, A980, H⟩ := H
                                    replace H : (some t324) = some r := H
                                    have A98 := Aside0.mk A980
                                    clear A980
                                    obtain rfl := Option.some.inj H
                                    have hnb99 := NB314_287.out
                                    have hnc99 := NB287_314.out
                                    have hnb100 := NB314_300.out
                                    have hnc100 := NB300_314.out
                                    have hnb101 := NB314_307.out
                                    have hnc101 := NB307_314.out
                                    have hcz102_0 : wr.cell? ⟨gb314, 0, none⟩ = some (.bool x315000_2) := (blk_cell BK314.out 0).trans rfl
                                    have hcz102_1 : wr.cell? ⟨gb314, 1, none⟩ = some (.string x315001_2) := (blk_cell BK314.out 1).trans rfl
                                    have hcz102_2 : wr.cell? ⟨gb314, 2, none⟩ = some (u315002) := (blk_cell BK314.out 2).trans rfl
                                    have hcz102_3 : wr.cell? ⟨gb314, 3, none⟩ = some (.string x315003_2) := (blk_cell BK314.out 3).trans rfl
                                    have hfz102_0 := blk_frozen BK314.out 0
                                    have hfz102_1 := blk_frozen BK314.out 1
                                    have hfz102_2 := blk_frozen BK314.out 2
                                    have hfz102_3 := blk_frozen BK314.out 3
                                    obtain ⟨Ao103, co103, eo103⟩ := Kd.V_slice HO_315002.out
                                    subst eo103
                                    have hnb104 := NB300_287.out
                                    have hnc104 := NB287_300.out
                                    have hnb105 := NB300_307.out
                                    have hnc105 := NB307_300.out
                                    have hcz106_0 : wr.cell? ⟨gb300, 0, none⟩ = some (.bool t294) := (blk_cell BK300.out 0).trans rfl
                                    have hcz106_1 : wr.cell? ⟨gb300, 1, none⟩ = some (.string t295) := (blk_cell BK300.out 1).trans rfl
                                    have hcz106_2 : wr.cell? ⟨gb300, 2, none⟩ = some (.slice Ao56 t296.length co56) := (blk_cell BK300.out 2).trans rfl
                                    have hcz106_3 : wr.cell? ⟨gb300, 3, none⟩ = some (.string t299) := (blk_cell BK300.out 3).trans rfl
                                    have hfz106_0 := blk_frozen BK300.out 0
                                    have hfz106_1 := blk_frozen BK300.out 1
                                    have hfz106_2 := blk_frozen BK300.out 2
                                    have hfz106_3 := blk_frozen BK300.out 3
                                    have hnb107 := NB307_287.out
                                    have hnc107 := NB287_307.out
                                    have hcz108_0 : wr.cell? ⟨gb307, 0, none⟩ = some (.bool t301) := (blk_cell BK307.out 0).trans rfl
                                    have hcz108_1 : wr.cell? ⟨gb307, 1, none⟩ = some (.string t302) := (blk_cell BK307.out 1).trans rfl
                                    have hcz108_2 : wr.cell? ⟨gb307, 2, none⟩ = some (.slice Ao64 t303.length co64) := (blk_cell BK307.out 2).trans rfl
                                    have hcz108_3 : wr.cell? ⟨gb307, 3, none⟩ = some (.string t306) := (blk_cell BK307.out 3).trans rfl
                                    have hfz108_0 := blk_frozen BK307.out 0
                                    have hfz108_1 := blk_frozen BK307.out 1
                                    have hfz108_2 := blk_frozen BK307.out 2
                                    have hfz108_3 := blk_frozen BK307.out 3
                                    go_wp2_with (first | (go_at_call 11; (with_reducible refine (emulatorlaw43_alive.calls k2  t324 _ A98.out).mono ?_); rintro e w109 ⟨rfl, hb⟩; have n0_ := Aside0.mk (Kd.V_below (by (with_reducible repeat (first | apply Kd.V_alloc | apply Kd.V_drewN | apply Kd.V_drew)); exact HO_301002.out) hb); have n1_ := Aside0.mk (Kd.V_below (by (with_reducible repeat (first | apply Kd.V_alloc | apply Kd.V_drewN | apply Kd.V_drew)); exact HO_308002.out) hb); have n2_ := Aside0.mk (Kd.V_below (by (with_reducible repeat (first | apply Kd.V_alloc | apply Kd.V_drewN | apply Kd.V_drew)); exact HO_315002.out) hb); have n3_ := Aside0.mk (blk_below (g := gb287) (o := .cells #[.bool false, .string a0_1, .slice none 0 0, .string a0_3] 24 (0, 0)) (by (with_reducible repeat (first | refine blk_drewN ?_ _ | refine blk_drew ?_ | refine blk_alloc ?_ _)); exact BK287.out) hb); have n4_ := Aside0.mk (blk_below (g := gb300) (o := .cells #[.bool t294, .string t295, .slice Ao56 t296.length co56, .string t299] 24 (0, 0)) (by (with_reducible repeat (first | refine blk_drewN ?_ _ | refine blk_drew ?_ | refine blk_alloc ?_ _)); exact BK300.out) hb); have n5_ := Aside0.mk (blk_below (g := gb307) (o := .cells #[.bool t301, .string t302, .slice Ao64 t303.length co64, .string t306] 24 (0, 0)) (by (with_reducible repeat (first | refine blk_drewN ?_ _ | refine blk_drew ?_ | refine blk_alloc ?_ _)); exact BK307.out) hb); have n6_ := Aside0.mk (blk_below (g := gb314) (o := .cells #[.bool x315000_2, .string x315001_2, .slice Ao103 x315002_2.length co103, .string x315003_2] 24 (0, 0)) (by (with_reducible repeat (first | refine blk_drewN ?_ _ | refine blk_drew ?_ | refine blk_alloc ?_ _)); exact BK314.out) hb); have n7_ := Aside0.mk (below_step (by repeat (first | (with_reducible first | exact HB.out | apply below_alloc | apply pw_below_drewN | apply below_drew1 | refine below_set ?_ GE287.out | refine below_set ?_ GE300.out | refine below_set ?_ GE307.out | refine below_set ?_ GE314.out) | exact HB.out)) hb); clear HO_301002; clear HO_308002; clear HO_315002; clear BK287; clear BK300; clear BK307; clear BK314; clear HB; have HO_301002 := n0_; have HO_308002 := n1_; have HO_315002 := n2_; have BK287 := n3_; have BK300 := n4_; have BK307 := n5_; have BK314 := n6_; have HB := n7_; clear n0_ n1_ n2_ n3_ n4_ n5_ n6_ n7_; (try clear hb); (try clear hb2); (try clear hk); (try clear hi)))
                                    go_ret
                                    exact ⟨by first | rfl | (simp [errW_none, errW_some] <;> rfl) | (simp [*, errW_none, errW_some] <;> rfl), by repeat (first | (with_reducible first | exact HB.out | apply below_alloc | apply pw_below_drewN | apply below_drew1 | refine below_set ?_ GE287.out | refine below_set ?_ GE300.out | refine below_set ?_ GE307.out | refine below_set ?_ GE314.out) | exact HB.out)⟩
                                  · rw [if_neg c97] at H
                                    exact absurd H (by simp)
                                · rw [if_neg c96] at H
                                  exact absurd H (by simp)
                              · rw [if_neg c95] at H
                                exact absurd H (by simp)
                            · rw [if_neg c94] at H
                              exact absurd H (by simp)
                          · rw [if_neg c93] at H
                            exact absurd H (by simp)
                      · rw [if_neg c74] at H
                        have c74b0 : decide (x12_2 < 100) = false := decide_eq_false c74
                        clear c74
                        by_cases c110 : t295.toList = a1.toList
                        · rw [if_pos c110] at H
                          have c110b0 : (t295.toList == a1.toList) = true := beq_iff_eq.mpr c110
                          have c110b1 : (t295.toList != a1.toList) = false := bne_eq_false_iff_eq.mpr c110
                          clear c110
                          by_cases c111 : t302.toList = a1.toList
                          · rw [if_pos c111] at H
                            have c111b0 : (t302.toList == a1.toList) = true := beq_iff_eq.mpr c111
                            have c111b1 : (t302.toList != a1.toList) = false := bne_eq_false_iff_eq.mpr c111
                            clear c111
                            by_cases c112 : a1.size + 1 ≤ 9223372036854775807
                            · rw [if_pos c112] at H
                              have c112b0 := eq_true c112
                              have c112b1 : decide (a1.size + 1 ≤ 9223372036854775807) = true := decide_eq_true c112
                              try have c112b2 : (9223372036854775807 < a1.size + 1) = False := eq_false (Nat.not_lt.2 c112)
                              by_cases c113 : x11_2.toList = (a1 ++ (⟨#[10]⟩ : ByteArray)).toList
                              · rw [if_pos c113] at H
                                have c113b0 : (x11_2.toList == (a1 ++ (⟨#[10]⟩ : ByteArray)).toList) = true := beq_iff_eq.mpr c113
                                have c113b1 : (x11_2.toList != (a1 ++ (⟨#[10]⟩ : ByteArray)).toList) = false := bne_eq_false_iff_eq.mpr c113
                                clear c113
                                by_cases c114 : x315001_2.toList = ([] : List UInt8)
                                · rw [if_pos c114] at H
                                  have c114b0 : (x315001_2.toList == ([] : List UInt8)) = true := beq_iff_eq.mpr c114
                                  have c114b1 : (x315001_2.toList != ([] : List UInt8)) = false := bne_eq_false_iff_eq.mpr c114
                                  clear c114
                                  replace H := Option.bind_eq_some_iff.mp H
                                  obtain ⟨t325, A1150, H⟩ := H
                                  replace H : (some t325) = some r := H
                                  have A115 := Aside0.mk A1150
                                  clear A1150
                                  obtain rfl := Option.some.inj H
                                  have hnb116 := NB300_287.out
                                  have hnc116 := NB287_300.out
                                  have hnb117 := NB300_307.out
                                  have hnc117 := NB307_300.out
                                  have hnb118 := NB300_314.out
                                  have hnc118 := NB314_300.out
                                  have hcz119_0 : wr.cell? ⟨gb300, 0, none⟩ = some (.bool t294) := (blk_cell BK300.out 0).trans rfl
                                  have hcz119_1 : wr.cell? ⟨gb300, 1, none⟩ = some (.string t295) := (blk_cell BK300.out 1).trans rfl
                                  have hcz119_2 : wr.cell? ⟨gb300, 2, none⟩ = some (.slice Ao56 t296.length co56) := (blk_cell BK300.out 2).trans rfl
                                  have hcz119_3 : wr.cell? ⟨gb300, 3, none⟩ = some (.string t299) := (blk_cell BK300.out 3).trans rfl
                                  have hfz119_0 := blk_frozen BK300.out 0
                                  have hfz119_1 := blk_frozen BK300.out 1
                                  have hfz119_2 := blk_frozen BK300.out 2
                                  have hfz119_3 := blk_frozen BK300.out 3
                                  have hnb120 := NB307_287.out
                                  have hnc120 := NB287_307.out
                                  have hnb121 := NB307_314.out
                                  have hnc121 := NB314_307.out
                                  have hcz122_0 : wr.cell? ⟨gb307, 0, none⟩ = some (.bool t301) := (blk_cell BK307.out 0).trans rfl
                                  have hcz122_1 : wr.cell? ⟨gb307, 1, none⟩ = some (.string t302) := (blk_cell BK307.out 1).trans rfl
                                  have hcz122_2 : wr.cell? ⟨gb307, 2, none⟩ = some (.slice Ao64 t303.length co64) := (blk_cell BK307.out 2).trans rfl
                                  have hcz122_3 : wr.cell? ⟨gb307, 3, none⟩ = some (.string t306) := (blk_cell BK307.out 3).trans rfl
                                  have hfz122_0 := blk_frozen BK307.out 0
                                  have hfz122_1 := blk_frozen BK307.out 1
                                  have hfz122_2 := blk_frozen BK307.out 2
                                  have hfz122_3 := blk_frozen BK307.out 3
                                  have hnb123 := NB314_287.out
                                  have hnc123 := NB287_314.out
                                  have hcz124_0 : wr.cell? ⟨gb314, 0, none⟩ = some (.bool x315000_2) := (blk_cell BK314.out 0).trans rfl
                                  have hcz124_1 : wr.cell? ⟨gb314, 1, none⟩ = some (.string x315001_2) := (blk_cell BK314.out 1).trans rfl
                                  have hcz124_2 : wr.cell? ⟨gb314, 2, none⟩ = some (u315002) := (blk_cell BK314.out 2).trans rfl
                                  have hcz124_3 : wr.cell? ⟨gb314, 3, none⟩ = some (.string x315003_2) := (blk_cell BK314.out 3).trans rfl
                                  have hfz124_0 := blk_frozen BK314.out 0
                                  have hfz124_1 := blk_frozen BK314.out 1
                                  have hfz124_2 := blk_frozen BK314.out 2
                                  have hfz124_3 := blk_frozen BK314.out 3
                                  go_wp2_with (first | (go_at_call 11; (with_reducible refine (emulatorlaw43_alive.calls k2  t325 _ A115.out).mono ?_); rintro e w125 ⟨rfl, hb⟩; have n0_ := Aside0.mk (Kd.V_below (by (with_reducible repeat (first | apply Kd.V_alloc | apply Kd.V_drewN | apply Kd.V_drew)); exact HO_301002.out) hb); have n1_ := Aside0.mk (Kd.V_below (by (with_reducible repeat (first | apply Kd.V_alloc | apply Kd.V_drewN | apply Kd.V_drew)); exact HO_308002.out) hb); have n2_ := Aside0.mk (Kd.V_below (by (with_reducible repeat (first | apply Kd.V_alloc | apply Kd.V_drewN | apply Kd.V_drew)); exact HO_315002.out) hb); have n3_ := Aside0.mk (blk_below (g := gb287) (o := .cells #[.bool false, .string a0_1, .slice none 0 0, .string a0_3] 24 (0, 0)) (by (with_reducible repeat (first | refine blk_drewN ?_ _ | refine blk_drew ?_ | refine blk_alloc ?_ _)); exact BK287.out) hb); have n4_ := Aside0.mk (blk_below (g := gb300) (o := .cells #[.bool t294, .string t295, .slice Ao56 t296.length co56, .string t299] 24 (0, 0)) (by (with_reducible repeat (first | refine blk_drewN ?_ _ | refine blk_drew ?_ | refine blk_alloc ?_ _)); exact BK300.out) hb); have n5_ := Aside0.mk (blk_below (g := gb307) (o := .cells #[.bool t301, .string t302, .slice Ao64 t303.length co64, .string t306] 24 (0, 0)) (by (with_reducible repeat (first | refine blk_drewN ?_ _ | refine blk_drew ?_ | refine blk_alloc ?_ _)); exact BK307.out) hb); have n6_ := Aside0.mk (blk_below (g := gb314) (o := .cells #[.bool x315000_2, .string x315001_2, u315002, .string x315003_2] 24 (0, 0)) (by (with_reducible repeat (first | refine blk_drewN ?_ _ | refine blk_drew ?_ | refine blk_alloc ?_ _)); exact BK314.out) hb); have n7_ := Aside0.mk (below_step (by repeat (first | (with_reducible first | exact HB.out | apply below_alloc | apply pw_below_drewN | apply below_drew1 | refine below_set ?_ GE287.out | refine below_set ?_ GE300.out | refine below_set ?_ GE307.out | refine below_set ?_ GE314.out) | exact HB.out)) hb); clear HO_301002; clear HO_308002; clear HO_315002; clear BK287; clear BK300; clear BK307; clear BK314; clear HB; have HO_301002 := n0_; have HO_308002 := n1_; have HO_315002 := n2_; have BK287 := n3_; have BK300 := n4_; have BK307 := n5_; have BK314 := n6_; have HB := n7_; clear n0_ n1_ n2_ n3_ n4_ n5_ n6_ n7_; (try clear hb); (try clear hb2); (try clear hk); (try clear hi)))
                                  go_ret
                                  exact ⟨by first | rfl | (simp [errW_none, errW_some] <;> rfl) | (simp [*, errW_none, errW_some] <;> rfl), by repeat (first | (with_reducible first | exact HB.out | apply below_alloc | apply pw_below_drewN | apply below_drew1 | refine below_set ?_ GE287.out | refine below_set ?_ GE300.out | refine below_set ?_ GE307.out | refine below_set ?_ GE314.out) | exact HB.out)⟩
                                · rw [if_neg c114] at H
                                  exact absurd H (by simp)
                              · rw [if_neg c113] at H
                                exact absurd H (by simp)
                            · rw [if_neg c112] at H
                              exact absurd H (by simp)
                          · rw [if_neg c111] at H
                            exact absurd H (by simp)
                        · rw [if_neg c110] at H
                          exact absurd H (by simp)
      · rw [if_neg c13] at H
        have c13b0 : (a0_1.toList == ([] : List UInt8)) = false := beq_eq_false_iff_ne.mpr c13
        have c13b1 : (a0_1.toList != ([] : List UInt8)) = true := bne_iff_ne.mpr c13
        replace H := Option.bind_eq_some_iff.mp H
        obtain ⟨t326, A1260, H⟩ := H
        replace H : (some t326) = some r := H
        have A126 := Aside0.mk A1260
        clear A1260
        obtain rfl := Option.some.inj H
        go_enter Try.func3, Try.ntmps3
        go_wp2_with (first | ((with_reducible refine gate_dst (N := 3) rfl ?_); refine box_event ?hg (N := 3) ?hd (cs := #[.bool false, .string a0_1, .slice A0_2 l0_2.length c0_2, .string a0_3]) (t := 24) ?hr ?_; (case hd => rfl); (case hg => rfl); (case hr => first | (go_simp; done) | (go_simp; rfl)); intro gb287 hg w127 hbox hb; have n0_ := Aside0.mk (below_step (by repeat (first | (with_reducible first | exact HB.out | apply below_alloc | apply pw_below_drewN | apply below_drew1) | exact HB.out)) hb); have n1_ := Aside0.mk (hbox); have n2_ := Aside0.mk ((by rw [hg]; exact (below_size (by repeat (first | (with_reducible first | exact HB.out | apply below_alloc | apply pw_below_drewN | apply below_drew1) | exact HB.out))) : w.heap.size ≤ gb287)); have n3_ := Aside0.mk ((by rw [hg]; exact (below_size (by repeat (first | (with_reducible first | exact HB.out | apply below_alloc | apply pw_below_drewN | apply below_drew1) | exact HB.out))) : w.heap.size ≤ gb287)); clear HB; have HB := n0_; have BK287 := n1_; have GW287 := n2_; have GE287 := n3_; clear n0_ n1_ n2_ n3_; clear hb hbox hg; have hcz128_0 : w127.cell? ⟨gb287, 0, none⟩ = some (.bool false) := (blk_cell BK287.out 0).trans rfl; have hcz128_1 : w127.cell? ⟨gb287, 1, none⟩ = some (.string a0_1) := (blk_cell BK287.out 1).trans rfl; have hcz128_2 : w127.cell? ⟨gb287, 2, none⟩ = some (.slice A0_2 l0_2.length c0_2) := (blk_cell BK287.out 2).trans rfl; have hcz128_3 : w127.cell? ⟨gb287, 3, none⟩ = some (.string a0_3) := (blk_cell BK287.out 3).trans rfl; have hfz128_0 := blk_frozen BK287.out 0; have hfz128_1 := blk_frozen BK287.out 1; have hfz128_2 := blk_frozen BK287.out 2; have hfz128_3 := blk_frozen BK287.out 3) | ((with_reducible refine gate_callee (f := 10) rfl ?_); refine goesL_ (some 17) rfl rfl Try.func10 (by kernel_rfl) rfl #[.agg #[.bool false, .string a0_1, .slice A0_2 l0_2.length c0_2, .string a0_3]] rfl (by (try simp only [List.map_toArray, List.map_cons, List.map_nil]); first | done | rfl | (simp only [List.length_drop, List.length_take]; rfl)) ?_; (with_reducible refine (emulatorlaw43_good.calls k false a0_1 _ _ l0_2 a0_3 true _ ?side1 ?side2 A4.out).mono ?_); (case side1 => repeat (first | exact (Kd.C_below HR0_2.out HB.out) | (with_reducible refine Kd.C_alloc ?_ _) | (with_reducible refine Kd.C_drewN ?_ _) | (with_reducible refine Kd.C_drew ?_))); (case side2 => exact HC0_2.out); rintro e w129 ⟨rfl, hb⟩; refine ⟨_, rfl, ?_⟩; have n0_ := Aside0.mk (blk_below (g := gb287) (o := .cells #[.bool false, .string a0_1, .slice A0_2 l0_2.length c0_2, .string a0_3] 24 (0, 0)) (by (with_reducible repeat (first | refine blk_drewN ?_ _ | refine blk_drew ?_ | refine blk_alloc ?_ _)); exact BK287.out) hb); have n1_ := Aside0.mk (below_step (by repeat (first | (with_reducible first | exact HB.out | apply below_alloc | apply pw_below_drewN | apply below_drew1 | refine below_set ?_ GE287.out) | exact HB.out)) hb); clear BK287; clear HB; have BK287 := n0_; have HB := n1_; clear n0_ n1_; (try clear hb); (try clear hb2); (try clear hk); (try clear hi); have hcz130_0 : w129.cell? ⟨gb287, 0, none⟩ = some (.bool false) := (blk_cell BK287.out 0).trans rfl; have hcz130_1 : w129.cell? ⟨gb287, 1, none⟩ = some (.string a0_1) := (blk_cell BK287.out 1).trans rfl; have hcz130_2 : w129.cell? ⟨gb287, 2, none⟩ = some (.slice A0_2 l0_2.length c0_2) := (blk_cell BK287.out 2).trans rfl; have hcz130_3 : w129.cell? ⟨gb287, 3, none⟩ = some (.string a0_3) := (blk_cell BK287.out 3).trans rfl; have hfz130_0 := blk_frozen BK287.out 0; have hfz130_1 := blk_frozen BK287.out 1; have hfz130_2 := blk_frozen BK287.out 2; have hfz130_3 := blk_frozen BK287.out 3) | ((with_reducible refine gate_callee (f := 11) rfl ?_); refine goesL_ (some 39) rfl rfl Try.func11 (by kernel_rfl) rfl #[] rfl (by (try simp only [List.map_toArray, List.map_cons, List.map_nil]); first | done | rfl | (simp only [List.length_drop, List.length_take]; rfl)) ?_; (with_reducible refine (emulatorlaw43_alive.calls k  t326 _ A126.out).mono ?_); rintro e w131 ⟨rfl, hb⟩; refine ⟨_, rfl, ?_⟩; have n0_ := Aside0.mk (blk_below (g := gb287) (o := .cells #[.bool false, .string a0_1, .slice A0_2 l0_2.length c0_2, .string a0_3] 24 (0, 0)) (by (with_reducible repeat (first | refine blk_drewN ?_ _ | refine blk_drew ?_ | refine blk_alloc ?_ _)); exact BK287.out) hb); have n1_ := Aside0.mk (below_step (by repeat (first | (with_reducible first | exact HB.out | apply below_alloc | apply pw_below_drewN | apply below_drew1 | refine below_set ?_ GE287.out) | exact HB.out)) hb); clear BK287; clear HB; have BK287 := n0_; have HB := n1_; clear n0_ n1_; (try clear hb); (try clear hb2); (try clear hk); (try clear hi)))
        go_ret
        exact ⟨by first | rfl | (simp [errW_none, errW_some] <;> rfl) | (simp [*, errW_none, errW_some] <;> rfl), by repeat (first | (with_reducible first | exact HB.out | apply below_alloc | apply pw_below_drewN | apply below_drew1 | refine below_set ?_ GE287.out) | exact HB.out)⟩
  · replace c5 := Bool.eq_false_iff.mpr c5
    subst c5
    have H1 : ((emulatorlaw43_alive.f k).bind fun t327 => (some t327)) = some r := by rw [if_neg (show ¬ (false = true) by decide)] at H; exact H
    clear H
    have H := H1
    clear H1
    replace H := Option.bind_eq_some_iff.mp H
    obtain ⟨t327, A1320, H⟩ := H
    replace H : (some t327) = some r := H
    have A132 := Aside0.mk A1320
    clear A1320
    obtain rfl := Option.some.inj H
    go_enter Try.func3, Try.ntmps3
    go_wp2_with (first | ((with_reducible refine gate_dst (N := 3) rfl ?_); refine box_event ?hg (N := 3) ?hd (cs := #[.bool a0_0, .string a0_1, .slice A0_2 l0_2.length c0_2, .string a0_3]) (t := 24) ?hr ?_; (case hd => rfl); (case hg => rfl); (case hr => first | (go_simp; done) | (go_simp; rfl)); intro gb287 hg w133 hbox hb; have n0_ := Aside0.mk (below_step (by repeat (first | (with_reducible first | exact HB.out | apply below_alloc | apply pw_below_drewN | apply below_drew1) | exact HB.out)) hb); have n1_ := Aside0.mk (hbox); have n2_ := Aside0.mk ((by rw [hg]; exact (below_size (by repeat (first | (with_reducible first | exact HB.out | apply below_alloc | apply pw_below_drewN | apply below_drew1) | exact HB.out))) : w.heap.size ≤ gb287)); have n3_ := Aside0.mk ((by rw [hg]; exact (below_size (by repeat (first | (with_reducible first | exact HB.out | apply below_alloc | apply pw_below_drewN | apply below_drew1) | exact HB.out))) : w.heap.size ≤ gb287)); clear HB; have HB := n0_; have BK287 := n1_; have GW287 := n2_; have GE287 := n3_; clear n0_ n1_ n2_ n3_; clear hb hbox hg; have hcz134_0 : w133.cell? ⟨gb287, 0, none⟩ = some (.bool a0_0) := (blk_cell BK287.out 0).trans rfl; have hcz134_1 : w133.cell? ⟨gb287, 1, none⟩ = some (.string a0_1) := (blk_cell BK287.out 1).trans rfl; have hcz134_2 : w133.cell? ⟨gb287, 2, none⟩ = some (.slice A0_2 l0_2.length c0_2) := (blk_cell BK287.out 2).trans rfl; have hcz134_3 : w133.cell? ⟨gb287, 3, none⟩ = some (.string a0_3) := (blk_cell BK287.out 3).trans rfl; have hfz134_0 := blk_frozen BK287.out 0; have hfz134_1 := blk_frozen BK287.out 1; have hfz134_2 := blk_frozen BK287.out 2; have hfz134_3 := blk_frozen BK287.out 3) | ((with_reducible refine gate_callee (f := 10) rfl ?_); refine goesL_ (some 17) rfl rfl Try.func10 (by kernel_rfl) rfl #[.agg #[.bool a0_0, .string a0_1, .slice A0_2 l0_2.length c0_2, .string a0_3]] rfl (by (try simp only [List.map_toArray, List.map_cons, List.map_nil]); first | done | rfl | (simp only [List.length_drop, List.length_take]; rfl)) ?_; (with_reducible refine (emulatorlaw43_good.calls k a0_0 a0_1 _ _ l0_2 a0_3 false _ ?side1 ?side2 A4.out).mono ?_); (case side1 => repeat (first | exact (Kd.C_below HR0_2.out HB.out) | (with_reducible refine Kd.C_alloc ?_ _) | (with_reducible refine Kd.C_drewN ?_ _) | (with_reducible refine Kd.C_drew ?_))); (case side2 => exact HC0_2.out); rintro e w135 ⟨rfl, hb⟩; refine ⟨_, rfl, ?_⟩; have n0_ := Aside0.mk (blk_below (g := gb287) (o := .cells #[.bool a0_0, .string a0_1, .slice A0_2 l0_2.length c0_2, .string a0_3] 24 (0, 0)) (by (with_reducible repeat (first | refine blk_drewN ?_ _ | refine blk_drew ?_ | refine blk_alloc ?_ _)); exact BK287.out) hb); have n1_ := Aside0.mk (below_step (by repeat (first | (with_reducible first | exact HB.out | apply below_alloc | apply pw_below_drewN | apply below_drew1 | refine below_set ?_ GE287.out) | exact HB.out)) hb); clear BK287; clear HB; have BK287 := n0_; have HB := n1_; clear n0_ n1_; (try clear hb); (try clear hb2); (try clear hk); (try clear hi)) | ((with_reducible refine gate_callee (f := 11) rfl ?_); refine goesL_ (some 39) rfl rfl Try.func11 (by kernel_rfl) rfl #[] rfl (by (try simp only [List.map_toArray, List.map_cons, List.map_nil]); first | done | rfl | (simp only [List.length_drop, List.length_take]; rfl)) ?_; (with_reducible refine (emulatorlaw43_alive.calls k  t327 _ A132.out).mono ?_); rintro e w136 ⟨rfl, hb⟩; refine ⟨_, rfl, ?_⟩; have n0_ := Aside0.mk (blk_below (g := gb287) (o := .cells #[.bool a0_0, .string a0_1, .slice A0_2 l0_2.length c0_2, .string a0_3] 24 (0, 0)) (by (with_reducible repeat (first | refine blk_drewN ?_ _ | refine blk_drew ?_ | refine blk_alloc ?_ _)); exact BK287.out) hb); have n1_ := Aside0.mk (below_step (by repeat (first | (with_reducible first | exact HB.out | apply below_alloc | apply pw_below_drewN | apply below_drew1 | refine below_set ?_ GE287.out) | exact HB.out)) hb); clear BK287; clear HB; have BK287 := n0_; have HB := n1_; clear n0_ n1_; (try clear hb); (try clear hb2); (try clear hk); (try clear hi)))
    go_ret
    exact ⟨by first | rfl | (simp [errW_none, errW_some] <;> rfl) | (simp [*, errW_none, errW_some] <;> rfl), by repeat (first | (with_reducible first | exact HB.out | apply below_alloc | apply pw_below_drewN | apply below_drew1 | refine below_set ?_ GE287.out) | exact HB.out)⟩

end Go.Proofs.Ytgcmhfoegbaaiaa.K
