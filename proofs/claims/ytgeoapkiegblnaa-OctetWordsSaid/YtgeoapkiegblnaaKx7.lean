-- Printed by a program of this session out of Lean's print of the translation. Lean checks it.
import Derived.Test.YtgeoapkiegblnaaKx0
import Derived.Test.YtgeoapkiegblnaaKx1
import Derived.Test.YtgeoapkiegblnaaKx2
import Derived.Test.YtgeoapkiegblnaaKx3
import Derived.Test.YtgeoapkiegblnaaKx4
import Derived.Test.YtgeoapkiegblnaaKx5
import Derived.Test.YtgeoapkiegblnaaKx6
namespace Go.Proofs.Ytgeoapkiegblnaa.K
open Go.RowKit Go.Proofs.YtgeoapkiegblnaaW.PrintWords Go.Proofs.YtgeoapkiegblnaaW.PrintLast Go.Proofs.YtgeoapkiegblnaaW.PrintMore
attribute [local go_sem] max2_int min2_int max_two min_two max_three min_three max_four min_four   -- for this text's walks alone
set_option linter.unusedVariables false
set_option linter.unusedSimpArgs false

/-! ### emulatorlaw03_OctetBack: function 9 -/
mutual
def emulatorlaw03_OctetBack.j0 : Nat → ByteArray → ByteArray → ByteArray → Int → List Int → Bool → Option (Bool)
  | 0, _, _, _, _, _, _ => none
  | k + 1, x0, x1, x2, x3, x4, x40 => if x40 = true then ((emulatorlaw03_alive.f k).bind fun t251 => (some t251)) else (emulatorlaw03_OctetBack.l0 k x0 x1 x2 x3 x4 ([] : List Int) 0)
def emulatorlaw03_OctetBack.l0 : Nat → ByteArray → ByteArray → ByteArray → Int → List Int → List Int → Int → Option (Bool)
  | 0, _, _, _, _, _, _, _ => none
  | k + 1, x0, x1, x2, x3, x4, x11, x12 => if x12 < (x4.length : Int) then (if 0 ≤ x12 then (if x11.length < 17592186044416 then (emulatorlaw03_OctetBack.l0 k x0 x1 x2 x3 x4 (x11 ++ [wrap64 (rd x4 x12)]) (wrap64 (x12 + 1))) else (none)) else (none)) else ((octet_Put.f k (wrap64 (x3)) 5).bind fun t256 => (if x0.size + t256.size ≤ 9223372036854775807 then (if (x0 ++ t256).size + x2.size ≤ 9223372036854775807 then ((octet_Get.f k ((x0 ++ t256) ++ x2) (x0.size : Int) 5).bind fun bt257 => ((octet_PutText.f k x1).bind fun t260 => (if x0.size + t260.size ≤ 9223372036854775807 then (if (x0 ++ t260).size + x2.size ≤ 9223372036854775807 then ((octet_GetText.f k ((x0 ++ t260) ++ x2) (x0.size : Int)).bind fun bt261 => ((octet_PutWords.f k x11).bind fun t264 => ((octet_GetWords.f k t264).bind fun bt265 => ((octet_Seal.f k x1).bind fun t269 => ((octet_Open.f k t269).bind fun bt270 => (if bt257.2.2 = 0 then (if bt261.2.2 = 0 then (if bt265.2 = 0 then (emulatorlaw03_OctetBack.j2 k x0 x1 x3 x11 bt257.1 bt257.2.1 bt261.1 bt261.2.1 bt265.1 bt270.1 (bt270.2 != 0)) else (emulatorlaw03_OctetBack.j2 k x0 x1 x3 x11 bt257.1 bt257.2.1 bt261.1 bt261.2.1 bt265.1 bt270.1 true)) else (emulatorlaw03_OctetBack.j2 k x0 x1 x3 x11 bt257.1 bt257.2.1 bt261.1 bt261.2.1 bt265.1 bt270.1 true)) else (emulatorlaw03_OctetBack.j2 k x0 x1 x3 x11 bt257.1 bt257.2.1 bt261.1 bt261.2.1 bt265.1 bt270.1 true))))))) else (none)) else (none)))) else (none)) else (none)))
def emulatorlaw03_OctetBack.j2 : Nat → ByteArray → ByteArray → Int → List Int → Int → Int → ByteArray → Int → List Int → ByteArray → Bool → Option (Bool)
  | 0, _, _, _, _, _, _, _, _, _, _, _ => none
  | k + 1, x0, x1, x3, x11, x13, x14, x16, x17, x19, x21, x108 => if x108 = true then (some false) else (if x13 = (wrap64 (x3)) then (if x14 = (wrap64 ((x0.size : Int) + 5)) then (if x16.toList = x1.toList then (if x17 = (wrap64 ((wrap64 ((x0.size : Int) + 2)) + (x1.size : Int))) then ((emulatorref03_SameInts.f k x19 x11).bind fun t272 => (if t272 = true then (if x21.toList = x1.toList then ((emulatorlaw03_alive.f k).bind fun t273 => (some t273)) else (some false)) else (some false))) else (some false)) else (some false)) else (some false)) else (some false))
end
def emulatorlaw03_OctetBack.f (k : Nat) (a0 : ByteArray) (a1 : ByteArray) (a2 : ByteArray) (a3 : Int) (l4 : List Int) : Option (Bool) := if (a0.size : Int) > 500 then (emulatorlaw03_OctetBack.j0 k a0 a1 a2 a3 l4 true) else (if (a1.size : Int) > 500 then (emulatorlaw03_OctetBack.j0 k a0 a1 a2 a3 l4 true) else (if (a2.size : Int) > 500 then (emulatorlaw03_OctetBack.j0 k a0 a1 a2 a3 l4 true) else (emulatorlaw03_OctetBack.j0 k a0 a1 a2 a3 l4 (decide ((l4.length : Int) > 200)))))
theorem emulatorlaw03_OctetBack.mono_l : ∀ k, (∀ y0 y1 y2 y3 y4 y5, LeO (emulatorlaw03_OctetBack.j0 k y0 y1 y2 y3 y4 y5) (emulatorlaw03_OctetBack.j0 (k + 1) y0 y1 y2 y3 y4 y5)) ∧ (∀ y0 y1 y2 y3 y4 y5 y6, LeO (emulatorlaw03_OctetBack.l0 k y0 y1 y2 y3 y4 y5 y6) (emulatorlaw03_OctetBack.l0 (k + 1) y0 y1 y2 y3 y4 y5 y6)) ∧ (∀ y0 y1 y2 y3 y4 y5 y6 y7 y8 y9 y10, LeO (emulatorlaw03_OctetBack.j2 k y0 y1 y2 y3 y4 y5 y6 y7 y8 y9 y10) (emulatorlaw03_OctetBack.j2 (k + 1) y0 y1 y2 y3 y4 y5 y6 y7 y8 y9 y10))
  | 0 => ⟨fun _ _ _ _ _ _ r h => by simp [emulatorlaw03_OctetBack.j0] at h, fun _ _ _ _ _ _ _ r h => by simp [emulatorlaw03_OctetBack.l0] at h, fun _ _ _ _ _ _ _ _ _ _ _ r h => by simp [emulatorlaw03_OctetBack.j2] at h⟩
  | k + 1 => by
    obtain ⟨ih0, ih1, ih2⟩ := emulatorlaw03_OctetBack.mono_l k
    refine ⟨?_, ?_, ?_⟩
    · intro y0 y1 y2 y3 y4 y5
      unfold emulatorlaw03_OctetBack.j0
      repeat' first
      | (with_reducible exact ih0 _ _ _ _ _ _)
      | (with_reducible exact ih1 _ _ _ _ _ _ _)
      | (with_reducible exact ih2 _ _ _ _ _ _ _ _ _ _ _)
      | (with_reducible exact emulatorlaw03_alive.mono _)
      | (with_reducible exact emulatorref03_SameInts.mono _ _ _)
      | (with_reducible exact octet_Get.mono _ _ _ _)
      | (with_reducible exact octet_GetText.mono _ _ _)
      | (with_reducible exact octet_GetWords.mono _ _)
      | (with_reducible exact octet_Open.mono _ _)
      | (with_reducible exact octet_Put.mono _ _ _)
      | (with_reducible exact octet_PutText.mono _ _)
      | (with_reducible exact octet_PutWords.mono _ _)
      | (with_reducible exact octet_Seal.mono _ _)
      | (with_reducible exact LeO.refl _)
      | (with_reducible exact LeO.none _)
      | (with_reducible refine LeO.ite ?_ ?_)
      | (with_reducible refine LeO.bind ?_ (fun _ => ?_))
      | exact ih0 _ _ _ _ _ _
      | exact ih1 _ _ _ _ _ _ _
      | exact ih2 _ _ _ _ _ _ _ _ _ _ _
      | exact emulatorlaw03_alive.mono _
      | exact emulatorref03_SameInts.mono _ _ _
      | exact octet_Get.mono _ _ _ _
      | exact octet_GetText.mono _ _ _
      | exact octet_GetWords.mono _ _
      | exact octet_Open.mono _ _
      | exact octet_Put.mono _ _ _
      | exact octet_PutText.mono _ _
      | exact octet_PutWords.mono _ _
      | exact octet_Seal.mono _ _
      | exact LeO.none _
      | refine LeO.ite ?_ ?_
      | refine LeO.bind ?_ (fun _ => ?_)
    · intro y0 y1 y2 y3 y4 y5 y6
      unfold emulatorlaw03_OctetBack.l0
      repeat' first
      | (with_reducible exact ih0 _ _ _ _ _ _)
      | (with_reducible exact ih1 _ _ _ _ _ _ _)
      | (with_reducible exact ih2 _ _ _ _ _ _ _ _ _ _ _)
      | (with_reducible exact emulatorlaw03_alive.mono _)
      | (with_reducible exact emulatorref03_SameInts.mono _ _ _)
      | (with_reducible exact octet_Get.mono _ _ _ _)
      | (with_reducible exact octet_GetText.mono _ _ _)
      | (with_reducible exact octet_GetWords.mono _ _)
      | (with_reducible exact octet_Open.mono _ _)
      | (with_reducible exact octet_Put.mono _ _ _)
      | (with_reducible exact octet_PutText.mono _ _)
      | (with_reducible exact octet_PutWords.mono _ _)
      | (with_reducible exact octet_Seal.mono _ _)
      | (with_reducible exact LeO.refl _)
      | (with_reducible exact LeO.none _)
      | (with_reducible refine LeO.ite ?_ ?_)
      | (with_reducible refine LeO.bind ?_ (fun _ => ?_))
      | exact ih0 _ _ _ _ _ _
      | exact ih1 _ _ _ _ _ _ _
      | exact ih2 _ _ _ _ _ _ _ _ _ _ _
      | exact emulatorlaw03_alive.mono _
      | exact emulatorref03_SameInts.mono _ _ _
      | exact octet_Get.mono _ _ _ _
      | exact octet_GetText.mono _ _ _
      | exact octet_GetWords.mono _ _
      | exact octet_Open.mono _ _
      | exact octet_Put.mono _ _ _
      | exact octet_PutText.mono _ _
      | exact octet_PutWords.mono _ _
      | exact octet_Seal.mono _ _
      | exact LeO.none _
      | refine LeO.ite ?_ ?_
      | refine LeO.bind ?_ (fun _ => ?_)
    · intro y0 y1 y2 y3 y4 y5 y6 y7 y8 y9 y10
      unfold emulatorlaw03_OctetBack.j2
      repeat' first
      | (with_reducible exact ih0 _ _ _ _ _ _)
      | (with_reducible exact ih1 _ _ _ _ _ _ _)
      | (with_reducible exact ih2 _ _ _ _ _ _ _ _ _ _ _)
      | (with_reducible exact emulatorlaw03_alive.mono _)
      | (with_reducible exact emulatorref03_SameInts.mono _ _ _)
      | (with_reducible exact octet_Get.mono _ _ _ _)
      | (with_reducible exact octet_GetText.mono _ _ _)
      | (with_reducible exact octet_GetWords.mono _ _)
      | (with_reducible exact octet_Open.mono _ _)
      | (with_reducible exact octet_Put.mono _ _ _)
      | (with_reducible exact octet_PutText.mono _ _)
      | (with_reducible exact octet_PutWords.mono _ _)
      | (with_reducible exact octet_Seal.mono _ _)
      | (with_reducible exact LeO.refl _)
      | (with_reducible exact LeO.none _)
      | (with_reducible refine LeO.ite ?_ ?_)
      | (with_reducible refine LeO.bind ?_ (fun _ => ?_))
      | exact ih0 _ _ _ _ _ _
      | exact ih1 _ _ _ _ _ _ _
      | exact ih2 _ _ _ _ _ _ _ _ _ _ _
      | exact emulatorlaw03_alive.mono _
      | exact emulatorref03_SameInts.mono _ _ _
      | exact octet_Get.mono _ _ _ _
      | exact octet_GetText.mono _ _ _
      | exact octet_GetWords.mono _ _
      | exact octet_Open.mono _ _
      | exact octet_Put.mono _ _ _
      | exact octet_PutText.mono _ _
      | exact octet_PutWords.mono _ _
      | exact octet_Seal.mono _ _
      | exact LeO.none _
      | refine LeO.ite ?_ ?_
      | refine LeO.bind ?_ (fun _ => ?_)
theorem emulatorlaw03_OctetBack.mono : ∀ a0 a1 a2 a3 a4 k, LeO (emulatorlaw03_OctetBack.f k a0 a1 a2 a3 a4) (emulatorlaw03_OctetBack.f (k + 1) a0 a1 a2 a3 a4) := by
  intro a0 a1 a2 a3 a4 k
  obtain ⟨ih0, ih1, ih2⟩ := emulatorlaw03_OctetBack.mono_l k
  unfold emulatorlaw03_OctetBack.f
  repeat' first
      | (with_reducible exact ih0 _ _ _ _ _ _)
      | (with_reducible exact ih1 _ _ _ _ _ _ _)
      | (with_reducible exact ih2 _ _ _ _ _ _ _ _ _ _ _)
      | (with_reducible exact emulatorlaw03_alive.mono _)
      | (with_reducible exact emulatorref03_SameInts.mono _ _ _)
      | (with_reducible exact octet_Get.mono _ _ _ _)
      | (with_reducible exact octet_GetText.mono _ _ _)
      | (with_reducible exact octet_GetWords.mono _ _)
      | (with_reducible exact octet_Open.mono _ _)
      | (with_reducible exact octet_Put.mono _ _ _)
      | (with_reducible exact octet_PutText.mono _ _)
      | (with_reducible exact octet_PutWords.mono _ _)
      | (with_reducible exact octet_Seal.mono _ _)
      | (with_reducible exact LeO.refl _)
      | (with_reducible exact LeO.none _)
      | (with_reducible refine LeO.ite ?_ ?_)
      | (with_reducible refine LeO.bind ?_ (fun _ => ?_))
      | exact ih0 _ _ _ _ _ _
      | exact ih1 _ _ _ _ _ _ _
      | exact ih2 _ _ _ _ _ _ _ _ _ _ _
      | exact emulatorlaw03_alive.mono _
      | exact emulatorref03_SameInts.mono _ _ _
      | exact octet_Get.mono _ _ _ _
      | exact octet_GetText.mono _ _ _
      | exact octet_GetWords.mono _ _
      | exact octet_Open.mono _ _
      | exact octet_Put.mono _ _ _
      | exact octet_PutText.mono _ _
      | exact octet_PutWords.mono _ _
      | exact octet_Seal.mono _ _
      | exact LeO.none _
      | refine LeO.ite ?_ ?_
      | refine LeO.bind ?_ (fun _ => ?_)
set_option maxHeartbeats 8000000 in
set_option maxRecDepth 100000 in
theorem emulatorlaw03_OctetBack.calls (k : Nat) (a0 : ByteArray) (a1 : ByteArray) (a2 : ByteArray) (a3 : Int) (A4 : Option Addr) (c4 : Nat) (l4 : List Int) (r : Bool) (w : World) (hr4 : Kd.C (Kd.int .u16) w A4 l4.length l4) (hc4 : l4.length ≤ c4) (h : emulatorlaw03_OctetBack.f k a0 a1 a2 a3 l4 = some r) :
    Calls Try.prog 9 #[.string a0, .string a1, .string a2, .int .u32 a3, .slice A4 l4.length c4] w fun e w' => e = .returned (.bool r) ∧ Below w.heap.size w w' := by
  have HR4 := Aside0.mk hr4
  have HC4 := Aside0.mk hc4
  clear hr4 hc4
  have HB := Aside0.mk (Below.refl w.heap.size w)
  have H : (if (a0.size : Int) > 500 then (emulatorlaw03_OctetBack.j0 k a0 a1 a2 a3 l4 true) else (if (a1.size : Int) > 500 then (emulatorlaw03_OctetBack.j0 k a0 a1 a2 a3 l4 true) else (if (a2.size : Int) > 500 then (emulatorlaw03_OctetBack.j0 k a0 a1 a2 a3 l4 true) else (emulatorlaw03_OctetBack.j0 k a0 a1 a2 a3 l4 (decide ((l4.length : Int) > 200)))))) = some r := h
  clear h
  have HC6 := Aside0.mk H
  clear H
  go_enter Try.func9, Try.ntmps9
  go_upto_region 1 with (fail)
  go_cut [40] (fun v40 wc => ∃ (kq : Nat) (x40_5 : Bool), v40 = .bool x40_5 ∧ Aside0 (emulatorlaw03_OctetBack.j0 kq a0 a1 a2 a3 l4 x40_5 = some r) ∧ Aside0 (kq ≤ k) ∧ Aside0 (Below w.heap.size w wc))
  case first =>
    have H := HC6.out
    clear HC6
    by_cases c7 : (a0.size : Int) > 500
    · rw [if_pos c7] at H
      have c7b0 : decide (500 < (a0.size : Int)) = true := decide_eq_true c7
      have c7b1 : decide (500 < a0.size) = true := decide_eq_true (by omega)
      clear c7
      (first | rw [c7b0] | (simp only [i64_w, i32_w]; rw [c7b0]) | skip)
      have H' := Aside0.mk H
      clear H
      go_wp2
      go_meet
      case rel => exact ⟨_, (true), (by first | rfl | (simp; done) | (simp [isEmpty_ne]; done) | (simp [*]; done)), H', ⟨by first | omega | exact Nat.le_refl _⟩, ⟨by repeat (first | (with_reducible first | exact HB.out | apply below_alloc | apply pw_below_drewN | apply below_drew1) | exact HB.out)⟩⟩
    · rw [if_neg c7] at H
      have c7b0 : decide (500 < (a0.size : Int)) = false := decide_eq_false c7
      have c7b1 : decide (500 < a0.size) = false := decide_eq_false (by omega)
      clear c7
      (first | rw [c7b0] | (simp only [i64_w, i32_w]; rw [c7b0]) | skip)
      by_cases c8 : (a1.size : Int) > 500
      · rw [if_pos c8] at H
        have c8b0 : decide (500 < (a1.size : Int)) = true := decide_eq_true c8
        have c8b1 : decide (500 < a1.size) = true := decide_eq_true (by omega)
        clear c8
        have H' := Aside0.mk H
        clear H
        go_wp2
        go_meet
        case rel => exact ⟨_, (true), (by first | rfl | (simp; done) | (simp [isEmpty_ne]; done) | (simp [*]; done)), H', ⟨by first | omega | exact Nat.le_refl _⟩, ⟨by repeat (first | (with_reducible first | exact HB.out | apply below_alloc | apply pw_below_drewN | apply below_drew1) | exact HB.out)⟩⟩
      · rw [if_neg c8] at H
        have c8b0 : decide (500 < (a1.size : Int)) = false := decide_eq_false c8
        have c8b1 : decide (500 < a1.size) = false := decide_eq_false (by omega)
        clear c8
        by_cases c9 : (a2.size : Int) > 500
        · rw [if_pos c9] at H
          have c9b0 : decide (500 < (a2.size : Int)) = true := decide_eq_true c9
          have c9b1 : decide (500 < a2.size) = true := decide_eq_true (by omega)
          clear c9
          have H' := Aside0.mk H
          clear H
          go_wp2
          go_meet
          case rel => exact ⟨_, (true), (by first | rfl | (simp; done) | (simp [isEmpty_ne]; done) | (simp [*]; done)), H', ⟨by first | omega | exact Nat.le_refl _⟩, ⟨by repeat (first | (with_reducible first | exact HB.out | apply below_alloc | apply pw_below_drewN | apply below_drew1) | exact HB.out)⟩⟩
        · rw [if_neg c9] at H
          have c9b0 : decide (500 < (a2.size : Int)) = false := decide_eq_false c9
          have c9b1 : decide (500 < a2.size) = false := decide_eq_false (by omega)
          clear c9
          have H' := Aside0.mk H
          clear H
          go_wp2
          go_meet
          case rel => exact ⟨_, (decide ((l4.length : Int) > 200)), (by first | rfl | (simp; done) | (simp [isEmpty_ne]; done) | (simp [*]; done)), H', ⟨by first | omega | exact Nat.le_refl _⟩, ⟨by repeat (first | (with_reducible first | exact HB.out | apply below_alloc | apply pw_below_drewN | apply below_drew1) | exact HB.out)⟩⟩
  case rest =>
    clear HC6
    try clear p2
    try clear c4
    try clear c7
    try clear c7b0
    try clear c7b1
    try clear c8
    try clear c8b0
    try clear c8b1
    try clear c9
    try clear c9b0
    try clear c9b1
    obtain ⟨kq, x40_5, rfl, HA, HJ5, HB⟩ := hcut
    cases kq with
    | zero => exact absurd HA.out (by simp [emulatorlaw03_OctetBack.j0])
    | succ kj5 =>
      have H := HA.out
      clear HA
      simp only [emulatorlaw03_OctetBack.j0] at H
      by_cases c10 : x40_5 = true
      · subst c10
        have H1 : ((emulatorlaw03_alive.f kj5).bind fun t251 => (some t251)) = some r := by rw [if_pos rfl] at H; exact H
        clear H
        have H := H1
        clear H1
        replace H := Option.bind_eq_some_iff.mp H
        obtain ⟨t251, A110, H⟩ := H
        replace H : (some t251) = some r := H
        have A11 := Aside0.mk A110
        clear A110
        obtain rfl := Option.some.inj H
        go_wp2_with (first | ((with_reducible refine gate_callee (f := 12) rfl ?_); refine goesL_ (some 41) rfl rfl Try.func12 (by kernel_rfl) rfl #[] rfl (by (try simp only [List.map_toArray, List.map_cons, List.map_nil]); first | done | rfl | (simp only [List.length_drop, List.length_take]; rfl)) ?_; (with_reducible refine (emulatorlaw03_alive.calls kj5  t251 _ A11.out).mono ?_); rintro e w12 ⟨rfl, hb⟩; refine ⟨_, rfl, ?_⟩; have n0_ := Aside0.mk (below_step (by repeat (first | (with_reducible first | exact HB.out | apply below_alloc | apply pw_below_drewN | apply below_drew1) | exact HB.out)) hb); clear HB; have HB := n0_; clear n0_; (try clear hb); (try clear hb2); (try clear hk); (try clear hi)))
        go_ret
        exact ⟨by first | rfl | (simp [errW_none, errW_some] <;> rfl) | (simp [*, errW_none, errW_some] <;> rfl), by repeat (first | (with_reducible first | exact HB.out | apply below_alloc | apply pw_below_drewN | apply below_drew1) | exact HB.out)⟩
      · replace c10 := Bool.eq_false_iff.mpr c10
        subst c10
        have H1 : (emulatorlaw03_OctetBack.l0 kj5 a0 a1 a2 a3 l4 ([] : List Int) 0) = some r := by rw [if_neg (show ¬ (false = true) by decide)] at H; exact H
        clear H
        have H := H1
        clear H1
        have H' := Aside0.mk H
        clear H
        go_wp2
        go_loopg [11, 12] kj5 (fun kq v11 v12 w' => ∃ (x11_2 : List Int) (x12_2 : Int), v12 = .int .i64 x12_2 ∧ Aside0 (emulatorlaw03_OctetBack.l0 kq a0 a1 a2 a3 l4 x11_2 x12_2 = some r) ∧ Aside0 (kq ≤ kj5) ∧ Aside0 (Kd.R (Kd.int .i64) 3 w' w.heap.size (fun _ => True) v11 x11_2) ∧ Aside0 (Below w.heap.size w w'))
        case atStart => exact ⟨(([] : List Int)), (0), (by first | rfl | (simp; done) | (simp [isEmpty_ne]; done) | (simp [*]; done)), H', ⟨Nat.le_refl _⟩, ⟨by first | exact Kd.R_nil _ _ _ _ _ | exact Kd.N_nil _ _ _ _ _ | exact Kd.V_nil _ _ _ _ _ | exact Kd.Q_nil _ _ _ _ _ | exact Kd.S_nil _ _ _ _ _⟩, ⟨by repeat (first | (with_reducible first | exact HB.out | apply below_alloc | apply pw_below_drewN | apply below_drew1) | exact HB.out)⟩⟩
        case round =>
          clear H'
          try clear c1
          try clear p2
          try clear c4
          try clear c7
          try clear c7b0
          try clear c7b1
          try clear c8
          try clear c8b0
          try clear c8b1
          try clear c9
          try clear c9b0
          try clear c9b1
          try clear c10
          try clear c12
          try clear p2
          obtain ⟨x11_2, x12_2, rfl, HA, HK2, HO_11, HB⟩ := hrel
          cases gk with
          | zero => exact absurd HA.out (by simp [emulatorlaw03_OctetBack.l0])
          | succ k2 =>
            have H := HA.out
            clear HA
            simp only [emulatorlaw03_OctetBack.l0] at H
            by_cases c13 : x12_2 < (l4.length : Int)
            · rw [if_pos c13] at H
              have c13b0 : decide (x12_2 < (l4.length : Int)) = true := decide_eq_true c13
              clear c13
              by_cases c14 : 0 ≤ x12_2
              · rw [if_pos c14] at H
                have c14b0 : decide (0 ≤ x12_2) = true := decide_eq_true c14
                clear c14
                by_cases c15 : x11_2.length < 17592186044416
                · rw [if_pos c15] at H
                  have LMc15 := Aside0.mk c15
                  clear c15
                  obtain ⟨y253, hy253⟩ : ∃ y_ : List Int, y_ = (x11_2 ++ [wrap64 (rd l4 x12_2)]) := ⟨_, rfl⟩
                  replace H : (emulatorlaw03_OctetBack.l0 k2 a0 a1 a2 a3 l4 y253 (wrap64 (x12_2 + 1))) = some r := by first | (rw [hy253]; with_reducible exact H) | (have H2_ := (Option.bind_some _ _).symm.trans H; rw [hy253]; with_reducible exact H2_) | (have H2_ := (Option.bind_some _ _).symm.trans H; with_reducible exact H2_) | with_reducible exact H | (rw [hy253]; exact H) | exact H
                  have Ny253 := Aside0.mk hy253
                  clear hy253
                  have H' := Aside0.mk H
                  clear H
                  have p252 : 0 ≤ (x12_2 : Int) := of_decide_eq_true (by first | (with_reducible assumption) | assumption)
                  have q252 : x12_2 < (l4.length : Int) := of_decide_eq_true (by first | (with_reducible assumption) | assumption)
                  obtain ⟨ad252, e252, hx252_0⟩ := Kd.at_int HR4.out x12_2 p252 q252
                  cases e252
                  replace hx252_0 := (HB.out.cell (World.block_lt_of_cell? w _ hx252_0)).trans hx252_0
                  replace p252 := eq_true p252
                  replace q252 := eq_true q252
                  go_wp2_with (first | ((with_reducible refine gate_builtin (b := .append) (xs := #[.tmp 48, .tmp 54]) rfl ?_); (try (refine gate_guard (by rfl) ?_; dsimp only)); at_builtin; refine Kd.R_append (Kd.int .i64) (w0 := w) w.heap.size rfl (.tmp 48) (.tmp 54) 40 3 (.int .i64 0) 8 rfl Try.underlying40 info3 rfl (by decide) (by omega) u11 x11_2 (wrap64 (rd l4 x12_2)) [.int .i64 (wrap64 (rd l4 x12_2))] (fun _ => True) (fun _ => False) rfl rfl ?aP (fun _ hk => hk.elim) ?aF ?aO ?aB ?aS ?aL ?_; (case aP => exact rfl); (case aB => exact (by repeat (first | (with_reducible first | exact HB.out | apply below_alloc | apply pw_below_drewN | apply below_drew1) | exact HB.out))); (case aF => exact (fun _ _ => trivial)); (case aO => exact (by (with_reducible repeat (first | apply Kd.R_alloc | apply Kd.R_drewN | apply Kd.R_drew)); exact HO_11.out)); (case aS => exact (below_size (by repeat (first | (with_reducible first | exact HB.out | apply below_alloc | apply pw_below_drewN | apply below_drew1) | exact HB.out)))); (case aL => have := LMc15.out; omega); intro v254 w16 ho hb hg hat; rw [← Ny253.out] at ho; have n0_ := Aside0.mk (hb); have n1_ := Aside0.mk (ho); clear HB; clear HO_11; have HB := n0_; have HO255 := n1_; clear n0_ n1_; clear ho hb hg hat))
                  go_roundg k2
                  case measure => have := HJ5.out; have := HK2.out; omega
                  case rel => exact ⟨(y253), (wrap64 (x12_2 + 1)), (by first | rfl | (simp; done) | (simp [isEmpty_ne]; done) | (simp [*]; done)), H', ⟨by have := HJ5.out; have := HK2.out; omega⟩, ⟨by (with_reducible repeat (first | apply Kd.R_alloc | apply Kd.R_drewN | apply Kd.R_drew)); exact HO255.out⟩, ⟨by repeat (first | (with_reducible first | exact HB.out | apply below_alloc | apply pw_below_drewN | apply below_drew1) | exact HB.out)⟩⟩
                · rw [if_neg c15] at H
                  exact absurd H (by simp)
              · rw [if_neg c14] at H
                exact absurd H (by simp)
            · rw [if_neg c13] at H
              have c13b0 : decide (x12_2 < (l4.length : Int)) = false := decide_eq_false c13
              clear c13
              replace H := Option.bind_eq_some_iff.mp H
              obtain ⟨t256, A170, H⟩ := H
              replace H : (if a0.size + t256.size ≤ 9223372036854775807 then (if (a0 ++ t256).size + a2.size ≤ 9223372036854775807 then ((octet_Get.f k2 ((a0 ++ t256) ++ a2) (a0.size : Int) 5).bind fun bt257 => ((octet_PutText.f k2 a1).bind fun t260 => (if a0.size + t260.size ≤ 9223372036854775807 then (if (a0 ++ t260).size + a2.size ≤ 9223372036854775807 then ((octet_GetText.f k2 ((a0 ++ t260) ++ a2) (a0.size : Int)).bind fun bt261 => ((octet_PutWords.f k2 x11_2).bind fun t264 => ((octet_GetWords.f k2 t264).bind fun bt265 => ((octet_Seal.f k2 a1).bind fun t269 => ((octet_Open.f k2 t269).bind fun bt270 => (if bt257.2.2 = 0 then (if bt261.2.2 = 0 then (if bt265.2 = 0 then (emulatorlaw03_OctetBack.j2 k2 a0 a1 a3 x11_2 bt257.1 bt257.2.1 bt261.1 bt261.2.1 bt265.1 bt270.1 (bt270.2 != 0)) else (emulatorlaw03_OctetBack.j2 k2 a0 a1 a3 x11_2 bt257.1 bt257.2.1 bt261.1 bt261.2.1 bt265.1 bt270.1 true)) else (emulatorlaw03_OctetBack.j2 k2 a0 a1 a3 x11_2 bt257.1 bt257.2.1 bt261.1 bt261.2.1 bt265.1 bt270.1 true)) else (emulatorlaw03_OctetBack.j2 k2 a0 a1 a3 x11_2 bt257.1 bt257.2.1 bt261.1 bt261.2.1 bt265.1 bt270.1 true))))))) else (none)) else (none)))) else (none)) else (none)) = some r := H
              have A17 := Aside0.mk A170
              clear A170
              by_cases c18 : a0.size + t256.size ≤ 9223372036854775807
              · rw [if_pos c18] at H
                have c18b0 := eq_true c18
                have c18b1 : decide (a0.size + t256.size ≤ 9223372036854775807) = true := decide_eq_true c18
                try have c18b2 : (9223372036854775807 < a0.size + t256.size) = False := eq_false (Nat.not_lt.2 c18)
                by_cases c19 : (a0 ++ t256).size + a2.size ≤ 9223372036854775807
                · rw [if_pos c19] at H
                  have c19b0 := eq_true c19
                  have c19b1 : decide ((a0 ++ t256).size + a2.size ≤ 9223372036854775807) = true := decide_eq_true c19
                  try have c19b2 : (9223372036854775807 < (a0 ++ t256).size + a2.size) = False := eq_false (Nat.not_lt.2 c19)
                  replace H := Option.bind_eq_some_iff.mp H
                  obtain ⟨⟨t257, t258, t259⟩, A200, H⟩ := H
                  replace H : ((octet_PutText.f k2 a1).bind fun t260 => (if a0.size + t260.size ≤ 9223372036854775807 then (if (a0 ++ t260).size + a2.size ≤ 9223372036854775807 then ((octet_GetText.f k2 ((a0 ++ t260) ++ a2) (a0.size : Int)).bind fun bt261 => ((octet_PutWords.f k2 x11_2).bind fun t264 => ((octet_GetWords.f k2 t264).bind fun bt265 => ((octet_Seal.f k2 a1).bind fun t269 => ((octet_Open.f k2 t269).bind fun bt270 => (if t259 = 0 then (if bt261.2.2 = 0 then (if bt265.2 = 0 then (emulatorlaw03_OctetBack.j2 k2 a0 a1 a3 x11_2 t257 t258 bt261.1 bt261.2.1 bt265.1 bt270.1 (bt270.2 != 0)) else (emulatorlaw03_OctetBack.j2 k2 a0 a1 a3 x11_2 t257 t258 bt261.1 bt261.2.1 bt265.1 bt270.1 true)) else (emulatorlaw03_OctetBack.j2 k2 a0 a1 a3 x11_2 t257 t258 bt261.1 bt261.2.1 bt265.1 bt270.1 true)) else (emulatorlaw03_OctetBack.j2 k2 a0 a1 a3 x11_2 t257 t258 bt261.1 bt261.2.1 bt265.1 bt270.1 true))))))) else (none)) else (none))) = some r := H
                  have A20 := Aside0.mk A200
                  clear A200
                  replace H := Option.bind_eq_some_iff.mp H
                  obtain ⟨t260, A210, H⟩ := H
                  replace H : (if a0.size + t260.size ≤ 9223372036854775807 then (if (a0 ++ t260).size + a2.size ≤ 9223372036854775807 then ((octet_GetText.f k2 ((a0 ++ t260) ++ a2) (a0.size : Int)).bind fun bt261 => ((octet_PutWords.f k2 x11_2).bind fun t264 => ((octet_GetWords.f k2 t264).bind fun bt265 => ((octet_Seal.f k2 a1).bind fun t269 => ((octet_Open.f k2 t269).bind fun bt270 => (if t259 = 0 then (if bt261.2.2 = 0 then (if bt265.2 = 0 then (emulatorlaw03_OctetBack.j2 k2 a0 a1 a3 x11_2 t257 t258 bt261.1 bt261.2.1 bt265.1 bt270.1 (bt270.2 != 0)) else (emulatorlaw03_OctetBack.j2 k2 a0 a1 a3 x11_2 t257 t258 bt261.1 bt261.2.1 bt265.1 bt270.1 true)) else (emulatorlaw03_OctetBack.j2 k2 a0 a1 a3 x11_2 t257 t258 bt261.1 bt261.2.1 bt265.1 bt270.1 true)) else (emulatorlaw03_OctetBack.j2 k2 a0 a1 a3 x11_2 t257 t258 bt261.1 bt261.2.1 bt265.1 bt270.1 true))))))) else (none)) else (none)) = some r := H
                  have A21 := Aside0.mk A210
                  clear A210
                  by_cases c22 : a0.size + t260.size ≤ 9223372036854775807
                  · rw [if_pos c22] at H
                    have c22b0 := eq_true c22
                    have c22b1 : decide (a0.size + t260.size ≤ 9223372036854775807) = true := decide_eq_true c22
                    try have c22b2 : (9223372036854775807 < a0.size + t260.size) = False := eq_false (Nat.not_lt.2 c22)
                    by_cases c23 : (a0 ++ t260).size + a2.size ≤ 9223372036854775807
                    · rw [if_pos c23] at H
                      have c23b0 := eq_true c23
                      have c23b1 : decide ((a0 ++ t260).size + a2.size ≤ 9223372036854775807) = true := decide_eq_true c23
                      try have c23b2 : (9223372036854775807 < (a0 ++ t260).size + a2.size) = False := eq_false (Nat.not_lt.2 c23)
                      replace H := Option.bind_eq_some_iff.mp H
                      obtain ⟨⟨t261, t262, t263⟩, A240, H⟩ := H
                      replace H : ((octet_PutWords.f k2 x11_2).bind fun t264 => ((octet_GetWords.f k2 t264).bind fun bt265 => ((octet_Seal.f k2 a1).bind fun t269 => ((octet_Open.f k2 t269).bind fun bt270 => (if t259 = 0 then (if t263 = 0 then (if bt265.2 = 0 then (emulatorlaw03_OctetBack.j2 k2 a0 a1 a3 x11_2 t257 t258 t261 t262 bt265.1 bt270.1 (bt270.2 != 0)) else (emulatorlaw03_OctetBack.j2 k2 a0 a1 a3 x11_2 t257 t258 t261 t262 bt265.1 bt270.1 true)) else (emulatorlaw03_OctetBack.j2 k2 a0 a1 a3 x11_2 t257 t258 t261 t262 bt265.1 bt270.1 true)) else (emulatorlaw03_OctetBack.j2 k2 a0 a1 a3 x11_2 t257 t258 t261 t262 bt265.1 bt270.1 true)))))) = some r := H
                      have A24 := Aside0.mk A240
                      clear A240
                      replace H := Option.bind_eq_some_iff.mp H
                      obtain ⟨t264, A250, H⟩ := H
                      replace H : ((octet_GetWords.f k2 t264).bind fun bt265 => ((octet_Seal.f k2 a1).bind fun t269 => ((octet_Open.f k2 t269).bind fun bt270 => (if t259 = 0 then (if t263 = 0 then (if bt265.2 = 0 then (emulatorlaw03_OctetBack.j2 k2 a0 a1 a3 x11_2 t257 t258 t261 t262 bt265.1 bt270.1 (bt270.2 != 0)) else (emulatorlaw03_OctetBack.j2 k2 a0 a1 a3 x11_2 t257 t258 t261 t262 bt265.1 bt270.1 true)) else (emulatorlaw03_OctetBack.j2 k2 a0 a1 a3 x11_2 t257 t258 t261 t262 bt265.1 bt270.1 true)) else (emulatorlaw03_OctetBack.j2 k2 a0 a1 a3 x11_2 t257 t258 t261 t262 bt265.1 bt270.1 true))))) = some r := H
                      have A25 := Aside0.mk A250
                      clear A250
                      replace H := Option.bind_eq_some_iff.mp H
                      obtain ⟨⟨t265, t266⟩, A260, H⟩ := H
                      replace H : ((octet_Seal.f k2 a1).bind fun t269 => ((octet_Open.f k2 t269).bind fun bt270 => (if t259 = 0 then (if t263 = 0 then (if t266 = 0 then (emulatorlaw03_OctetBack.j2 k2 a0 a1 a3 x11_2 t257 t258 t261 t262 t265 bt270.1 (bt270.2 != 0)) else (emulatorlaw03_OctetBack.j2 k2 a0 a1 a3 x11_2 t257 t258 t261 t262 t265 bt270.1 true)) else (emulatorlaw03_OctetBack.j2 k2 a0 a1 a3 x11_2 t257 t258 t261 t262 t265 bt270.1 true)) else (emulatorlaw03_OctetBack.j2 k2 a0 a1 a3 x11_2 t257 t258 t261 t262 t265 bt270.1 true)))) = some r := H
                      have A26 := Aside0.mk A260
                      clear A260
                      replace H := Option.bind_eq_some_iff.mp H
                      obtain ⟨t269, A270, H⟩ := H
                      replace H : ((octet_Open.f k2 t269).bind fun bt270 => (if t259 = 0 then (if t263 = 0 then (if t266 = 0 then (emulatorlaw03_OctetBack.j2 k2 a0 a1 a3 x11_2 t257 t258 t261 t262 t265 bt270.1 (bt270.2 != 0)) else (emulatorlaw03_OctetBack.j2 k2 a0 a1 a3 x11_2 t257 t258 t261 t262 t265 bt270.1 true)) else (emulatorlaw03_OctetBack.j2 k2 a0 a1 a3 x11_2 t257 t258 t261 t262 t265 bt270.1 true)) else (emulatorlaw03_OctetBack.j2 k2 a0 a1 a3 x11_2 t257 t258 t261 t262 t265 bt270.1 true))) = some r := H
                      have A27 := Aside0.mk A270
                      clear A270
                      replace H := Option.bind_eq_some_iff.mp H
                      obtain ⟨⟨t270, t271⟩, A280, H⟩ := H
                      replace H : (if t259 = 0 then (if t263 = 0 then (if t266 = 0 then (emulatorlaw03_OctetBack.j2 k2 a0 a1 a3 x11_2 t257 t258 t261 t262 t265 t270 (t271 != 0)) else (emulatorlaw03_OctetBack.j2 k2 a0 a1 a3 x11_2 t257 t258 t261 t262 t265 t270 true)) else (emulatorlaw03_OctetBack.j2 k2 a0 a1 a3 x11_2 t257 t258 t261 t262 t265 t270 true)) else (emulatorlaw03_OctetBack.j2 k2 a0 a1 a3 x11_2 t257 t258 t261 t262 t265 t270 true)) = some r := H
                      have A28 := Aside0.mk A280
                      clear A280
                      have HC29 := Aside0.mk H
                      clear H
                      go_upto_region 12 with (first | ((with_reducible refine gate_callee (f := 10) rfl ?_); refine goesL_ (some 60) rfl rfl Try.func10 (by kernel_rfl) rfl #[.int .i64 (wrap64 (a3)), .int .i64 5] rfl (by (try simp only [List.map_toArray, List.map_cons, List.map_nil]); first | done | rfl | (simp only [List.length_drop, List.length_take]; rfl)) ?_; (with_reducible refine (octet_Put.calls k2 (wrap64 (a3)) 5 t256 _ A17.out).mono ?_); rintro e w30 ⟨rfl, hb⟩; refine ⟨_, rfl, ?_⟩; have n0_ := Aside0.mk (Kd.R_below (by (with_reducible repeat (first | apply Kd.R_alloc | apply Kd.R_drewN | apply Kd.R_drew)); exact HO_11.out) hb); have n1_ := Aside0.mk (below_step (by repeat (first | (with_reducible first | exact HB.out | apply below_alloc | apply pw_below_drewN | apply below_drew1) | exact HB.out)) hb); clear HO_11; clear HB; have HO_11 := n0_; have HB := n1_; clear n0_ n1_; (try clear hb); (try clear hb2); (try clear hk); (try clear hi)) | ((with_reducible refine gate_callee (f := 13) rfl ?_); refine goesL_ (some 66) rfl rfl Try.func13 (by kernel_rfl) rfl #[.string ((a0 ++ t256) ++ a2), .int .i64 (a0.size : Int), .int .i64 5] rfl (by (try simp only [List.map_toArray, List.map_cons, List.map_nil]); first | done | rfl | (simp only [List.length_drop, List.length_take]; rfl)) ?_; (with_reducible refine (octet_Get.calls k2 ((a0 ++ t256) ++ a2) (a0.size : Int) 5 t257 t258 t259 _ A20.out).mono ?_); rintro e w' ⟨rfl, ⟨nd, rfl⟩⟩; refine ⟨_, rfl, ?_⟩) | ((with_reducible refine gate_callee (f := 23) rfl ?_); refine goesL_ (some 73) rfl rfl Try.func23 (by kernel_rfl) rfl #[.string a1] rfl (by (try simp only [List.map_toArray, List.map_cons, List.map_nil]); first | done | rfl | (simp only [List.length_drop, List.length_take]; rfl)) ?_; (with_reducible refine (octet_PutText.calls k2 a1 t260 _ A21.out).mono ?_); rintro e w31 ⟨rfl, hb⟩; refine ⟨_, rfl, ?_⟩; have n0_ := Aside0.mk (Kd.R_below (by (with_reducible repeat (first | apply Kd.R_alloc | apply Kd.R_drewN | apply Kd.R_drew)); exact HO_11.out) hb); have n1_ := Aside0.mk (below_step (by repeat (first | (with_reducible first | exact HB.out | apply below_alloc | apply pw_below_drewN | apply below_drew1) | exact HB.out)) hb); clear HO_11; clear HB; have HO_11 := n0_; have HB := n1_; clear n0_ n1_; (try clear hb); (try clear hb2); (try clear hk); (try clear hi)) | ((with_reducible refine gate_callee (f := 21) rfl ?_); refine goesL_ (some 79) rfl rfl Try.func21 (by kernel_rfl) rfl #[.string ((a0 ++ t260) ++ a2), .int .i64 (a0.size : Int)] rfl (by (try simp only [List.map_toArray, List.map_cons, List.map_nil]); first | done | rfl | (simp only [List.length_drop, List.length_take]; rfl)) ?_; (with_reducible refine (octet_GetText.calls k2 ((a0 ++ t260) ++ a2) (a0.size : Int) t261 t262 t263 _ A24.out).mono ?_); rintro e w' ⟨rfl, ⟨nd, rfl⟩⟩; refine ⟨_, rfl, ?_⟩; obtain ⟨Ao32, co32, eo32⟩ := Kd.R_slice HO_11.out; subst eo32) | ((with_reducible refine gate_callee (f := 27) rfl ?_); refine goesL_ (some 85) rfl rfl Try.func27 (by kernel_rfl) rfl #[.slice Ao32 x11_2.length co32] rfl (by (try simp only [List.map_toArray, List.map_cons, List.map_nil]); first | done | rfl | (simp only [List.length_drop, List.length_take]; rfl)) ?_; (with_reducible refine (octet_PutWords.calls k2 _ _ x11_2 t264 _ ?side1 ?side2 A25.out).mono ?_); (case side1 => repeat (first | exact (Kd.R_reads' HO_11.out).2.2 | (with_reducible refine Kd.C_alloc ?_ _) | (with_reducible refine Kd.C_drewN ?_ _) | (with_reducible refine Kd.C_drew ?_))); (case side2 => exact (Kd.R_reads' HO_11.out).2.1); rintro e w33 ⟨rfl, hb⟩; refine ⟨_, rfl, ?_⟩; have n0_ := Aside0.mk (Kd.R_below (by (with_reducible repeat (first | apply Kd.R_alloc | apply Kd.R_drewN | apply Kd.R_drew)); exact HO_11.out) hb); have n1_ := Aside0.mk (below_step (by repeat (first | (with_reducible first | exact HB.out | apply below_alloc | apply pw_below_drewN | apply below_drew1) | exact HB.out)) hb); clear HO_11; clear HB; have HO_11 := n0_; have HB := n1_; clear n0_ n1_; (try clear hb); (try clear hb2); (try clear hk); (try clear hi)) | ((with_reducible refine gate_callee (f := 25) rfl ?_); refine goesL_ (some 86) rfl rfl Try.func25 (by kernel_rfl) rfl #[.string t264] rfl (by (try simp only [List.map_toArray, List.map_cons, List.map_nil]); first | done | rfl | (simp only [List.length_drop, List.length_take]; rfl)) ?_; (with_reducible refine (octet_GetWords.calls k2 t264 t265 t266 _ A26.out).mono ?_); rintro e w34 ⟨v267, rfl, ho0, hb⟩; refine ⟨_, rfl, ?_⟩; have n0_ := Aside0.mk (Kd.R_elder' (by (with_reducible repeat (first | apply Kd.R_alloc | apply Kd.R_drewN | apply Kd.R_drew)); exact HO_11.out) (Kd.R_base ho0) hb); have n1_ := Aside0.mk (Kd.R_lower (Kd.R_new' ho0 (Kd.R_lt (by (with_reducible repeat (first | apply Kd.R_alloc | apply Kd.R_drewN | apply Kd.R_drew)); exact HO_11.out))) (below_size (by repeat (first | (with_reducible first | exact HB.out | apply below_alloc | apply pw_below_drewN | apply below_drew1) | exact HB.out)))); have n2_ := Aside0.mk (below_step (by repeat (first | (with_reducible first | exact HB.out | apply below_alloc | apply pw_below_drewN | apply below_drew1) | exact HB.out)) hb); clear HO_11; clear HB; have HO_11 := n0_; have HO268 := n1_; have HB := n2_; clear n0_ n1_ n2_; (try clear hb); (try clear hb2); (try clear hk); (try clear hi); (try clear ho0)) | ((with_reducible refine gate_callee (f := 19) rfl ?_); refine goesL_ (some 91) rfl rfl Try.func19 (by kernel_rfl) rfl #[.string a1] rfl (by (try simp only [List.map_toArray, List.map_cons, List.map_nil]); first | done | rfl | (simp only [List.length_drop, List.length_take]; rfl)) ?_; (with_reducible refine (octet_Seal.calls k2 a1 t269 _ A27.out).mono ?_); rintro e w35 ⟨rfl, hb⟩; refine ⟨_, rfl, ?_⟩; have n0_ := Aside0.mk (Kd.R_below (by (with_reducible repeat (first | apply Kd.R_alloc | apply Kd.R_drewN | apply Kd.R_drew)); exact HO_11.out) hb); have n1_ := Aside0.mk (Kd.R_below (by (with_reducible repeat (first | apply Kd.R_alloc | apply Kd.R_drewN | apply Kd.R_drew)); exact HO268.out) hb); have n2_ := Aside0.mk (below_step (by repeat (first | (with_reducible first | exact HB.out | apply below_alloc | apply pw_below_drewN | apply below_drew1) | exact HB.out)) hb); clear HO_11; clear HO268; clear HB; have HO_11 := n0_; have HO268 := n1_; have HB := n2_; clear n0_ n1_ n2_; (try clear hb); (try clear hb2); (try clear hk); (try clear hi)) | ((with_reducible refine gate_callee (f := 15) rfl ?_); refine goesL_ (some 92) rfl rfl Try.func15 (by kernel_rfl) rfl #[.string t269] rfl (by (try simp only [List.map_toArray, List.map_cons, List.map_nil]); first | done | rfl | (simp only [List.length_drop, List.length_take]; rfl)) ?_; (with_reducible refine (octet_Open.calls k2 t269 t270 t271 _ A28.out).mono ?_); rintro e w36 ⟨rfl, hb⟩; refine ⟨_, rfl, ?_⟩; have n0_ := Aside0.mk (Kd.R_below (by (with_reducible repeat (first | apply Kd.R_alloc | apply Kd.R_drewN | apply Kd.R_drew)); exact HO_11.out) hb); have n1_ := Aside0.mk (Kd.R_below (by (with_reducible repeat (first | apply Kd.R_alloc | apply Kd.R_drewN | apply Kd.R_drew)); exact HO268.out) hb); have n2_ := Aside0.mk (below_step (by repeat (first | (with_reducible first | exact HB.out | apply below_alloc | apply pw_below_drewN | apply below_drew1) | exact HB.out)) hb); clear HO_11; clear HO268; clear HB; have HO_11 := n0_; have HO268 := n1_; have HB := n2_; clear n0_ n1_ n2_; (try clear hb); (try clear hb2); (try clear hk); (try clear hi)))
                      (try simp only [Act.put, List.setIfInBounds_toArray, List.set_cons_zero, List.set_cons_succ])
                      go_cut [108] (fun v108 wc => ∃ (kq : Nat) (x108_28 : Bool), v108 = .bool x108_28 ∧ Aside0 (emulatorlaw03_OctetBack.j2 kq a0 a1 a3 x11_2 t257 t258 t261 t262 t265 t270 x108_28 = some r) ∧ Aside0 (kq ≤ k2) ∧ Aside0 (Kd.R (Kd.int .i64) 3 wc w.heap.size (fun k_ => some k_ ≠ (v267 : Value).ownBlock) (.slice Ao32 x11_2.length co32) x11_2) ∧ Aside0 (Kd.R (Kd.int .i64) 3 wc w.heap.size (fun k_ => some k_ ≠ ((.slice Ao32 x11_2.length co32) : Value).ownBlock) v267 t265) ∧ Aside0 (Below w.heap.size w wc))
                      case first =>
                        have H := HC29.out
                        clear HC29
                        by_cases c37 : t259 = 0
                        · rw [if_pos c37] at H
                          have c37b0 : (t259 == 0) = true := beq_iff_eq.mpr c37
                          have c37b1 : (t259 != 0) = false := bne_eq_false_iff_eq.mpr c37
                          clear c37
                          (first | rw [c37b0] | (simp only [i64_w, i32_w]; rw [c37b0]) | skip)
                          by_cases c38 : t263 = 0
                          · rw [if_pos c38] at H
                            have c38b0 : (t263 == 0) = true := beq_iff_eq.mpr c38
                            have c38b1 : (t263 != 0) = false := bne_eq_false_iff_eq.mpr c38
                            clear c38
                            by_cases c39 : t266 = 0
                            · rw [if_pos c39] at H
                              have c39b0 : (t266 == 0) = true := beq_iff_eq.mpr c39
                              have c39b1 : (t266 != 0) = false := bne_eq_false_iff_eq.mpr c39
                              clear c39
                              have H' := Aside0.mk H
                              clear H
                              go_wp2
                              go_meet
                              case rel => exact ⟨_, ((t271 != 0)), (by first | rfl | (simp; done) | (simp [isEmpty_ne]; done) | (simp [*]; done)), H', ⟨by have := HJ5.out; have := HK2.out; first | omega | exact Nat.le_refl _⟩, ⟨by (with_reducible repeat (first | apply Kd.R_alloc | apply Kd.R_drewN | apply Kd.R_drew)); exact Kd.R_mono HO_11.out (fun _ hk => hk.2)⟩, ⟨by (with_reducible repeat (first | apply Kd.R_alloc | apply Kd.R_drewN | apply Kd.R_drew)); exact Kd.R_mono HO268.out (fun _ hk => hk.2)⟩, ⟨by repeat (first | (with_reducible first | exact HB.out | apply below_alloc | apply pw_below_drewN | apply below_drew1) | exact HB.out)⟩⟩
                            · rw [if_neg c39] at H
                              have c39b0 : (t266 == 0) = false := beq_eq_false_iff_ne.mpr c39
                              have c39b1 : (t266 != 0) = true := bne_iff_ne.mpr c39
                              have H' := Aside0.mk H
                              clear H
                              go_wp2
                              go_meet
                              case rel => exact ⟨_, (true), (by first | rfl | (simp; done) | (simp [isEmpty_ne]; done) | (simp [*]; done)), H', ⟨by have := HJ5.out; have := HK2.out; first | omega | exact Nat.le_refl _⟩, ⟨by (with_reducible repeat (first | apply Kd.R_alloc | apply Kd.R_drewN | apply Kd.R_drew)); exact Kd.R_mono HO_11.out (fun _ hk => hk.2)⟩, ⟨by (with_reducible repeat (first | apply Kd.R_alloc | apply Kd.R_drewN | apply Kd.R_drew)); exact Kd.R_mono HO268.out (fun _ hk => hk.2)⟩, ⟨by repeat (first | (with_reducible first | exact HB.out | apply below_alloc | apply pw_below_drewN | apply below_drew1) | exact HB.out)⟩⟩
                          · rw [if_neg c38] at H
                            have c38b0 : (t263 == 0) = false := beq_eq_false_iff_ne.mpr c38
                            have c38b1 : (t263 != 0) = true := bne_iff_ne.mpr c38
                            have H' := Aside0.mk H
                            clear H
                            go_wp2
                            go_meet
                            case rel => exact ⟨_, (true), (by first | rfl | (simp; done) | (simp [isEmpty_ne]; done) | (simp [*]; done)), H', ⟨by have := HJ5.out; have := HK2.out; first | omega | exact Nat.le_refl _⟩, ⟨by (with_reducible repeat (first | apply Kd.R_alloc | apply Kd.R_drewN | apply Kd.R_drew)); exact Kd.R_mono HO_11.out (fun _ hk => hk.2)⟩, ⟨by (with_reducible repeat (first | apply Kd.R_alloc | apply Kd.R_drewN | apply Kd.R_drew)); exact Kd.R_mono HO268.out (fun _ hk => hk.2)⟩, ⟨by repeat (first | (with_reducible first | exact HB.out | apply below_alloc | apply pw_below_drewN | apply below_drew1) | exact HB.out)⟩⟩
                        · rw [if_neg c37] at H
                          have c37b0 : (t259 == 0) = false := beq_eq_false_iff_ne.mpr c37
                          have c37b1 : (t259 != 0) = true := bne_iff_ne.mpr c37
                          (first | rw [c37b0] | (simp only [i64_w, i32_w]; rw [c37b0]) | skip)
                          have H' := Aside0.mk H
                          clear H
                          go_wp2
                          go_meet
                          case rel => exact ⟨_, (true), (by first | rfl | (simp; done) | (simp [isEmpty_ne]; done) | (simp [*]; done)), H', ⟨by have := HJ5.out; have := HK2.out; first | omega | exact Nat.le_refl _⟩, ⟨by (with_reducible repeat (first | apply Kd.R_alloc | apply Kd.R_drewN | apply Kd.R_drew)); exact Kd.R_mono HO_11.out (fun _ hk => hk.2)⟩, ⟨by (with_reducible repeat (first | apply Kd.R_alloc | apply Kd.R_drewN | apply Kd.R_drew)); exact Kd.R_mono HO268.out (fun _ hk => hk.2)⟩, ⟨by repeat (first | (with_reducible first | exact HB.out | apply below_alloc | apply pw_below_drewN | apply below_drew1) | exact HB.out)⟩⟩
                      case rest =>
                        clear HC29
                        try clear c1
                        try clear c2
                        try clear p2
                        try clear q2
                        try clear hx2
                        try clear c3
                        try clear c4
                        try clear p6
                        try clear c7
                        try clear c7b0
                        try clear c7b1
                        try clear c8
                        try clear c8b0
                        try clear c8b1
                        try clear c9
                        try clear c9b0
                        try clear c9b1
                        try clear c10
                        try clear c12
                        try clear c13
                        try clear c13b0
                        try clear c14
                        try clear c14b0
                        try clear c15
                        try clear c18
                        try clear c18b0
                        try clear c18b1
                        try clear c18b2
                        try clear c19
                        try clear c19b0
                        try clear c19b1
                        try clear c19b2
                        try clear c21
                        try clear c22
                        try clear c22b0
                        try clear c22b1
                        try clear c22b2
                        try clear c23
                        try clear c23b0
                        try clear c23b1
                        try clear c23b2
                        try clear c25
                        try clear p25
                        try clear q25
                        try clear hx25
                        try clear c27
                        try clear c37
                        try clear c37b0
                        try clear c37b1
                        try clear c38
                        try clear c38b0
                        try clear c38b1
                        try clear c39
                        try clear c39b0
                        try clear c39b1
                        try clear hx252_0
                        try clear p2
                        try clear p252
                        try clear q252
                        obtain ⟨kq, x108_28, rfl, HA, HJ28, HO_11, HO_19, HB⟩ := hcut
                        cases kq with
                        | zero => exact absurd HA.out (by simp [emulatorlaw03_OctetBack.j2])
                        | succ kj28 =>
                          have H := HA.out
                          clear HA
                          simp only [emulatorlaw03_OctetBack.j2] at H
                          by_cases c40 : x108_28 = true
                          · subst c40
                            have H1 : (some false) = some r := by rw [if_pos rfl] at H; exact H
                            clear H
                            have H := H1
                            clear H1
                            obtain rfl := Option.some.inj H
                            go_wp2
                            go_ret
                            exact ⟨by first | rfl | (simp [errW_none, errW_some] <;> rfl) | (simp [*, errW_none, errW_some] <;> rfl), by repeat (first | (with_reducible first | exact HB.out | apply below_alloc | apply pw_below_drewN | apply below_drew1) | exact HB.out)⟩
                          · replace c40 := Bool.eq_false_iff.mpr c40
                            subst c40
                            have H1 : (if t257 = (wrap64 (a3)) then (if t258 = (wrap64 ((a0.size : Int) + 5)) then (if t261.toList = a1.toList then (if t262 = (wrap64 ((wrap64 ((a0.size : Int) + 2)) + (a1.size : Int))) then ((emulatorref03_SameInts.f kj28 t265 x11_2).bind fun t272 => (if t272 = true then (if t270.toList = a1.toList then ((emulatorlaw03_alive.f kj28).bind fun t273 => (some t273)) else (some false)) else (some false))) else (some false)) else (some false)) else (some false)) else (some false)) = some r := by rw [if_neg (show ¬ (false = true) by decide)] at H; exact H
                            clear H
                            have H := H1
                            clear H1
                            by_cases c41 : t257 = (wrap64 (a3))
                            · rw [if_pos c41] at H
                              have c41b0 : (t257 == (wrap64 (a3))) = true := beq_iff_eq.mpr c41
                              have c41b1 : (t257 != (wrap64 (a3))) = false := bne_eq_false_iff_eq.mpr c41
                              clear c41
                              by_cases c42 : t258 = (wrap64 ((a0.size : Int) + 5))
                              · rw [if_pos c42] at H
                                have c42b0 : (t258 == (wrap64 ((a0.size : Int) + 5))) = true := beq_iff_eq.mpr c42
                                have c42b1 : (t258 != (wrap64 ((a0.size : Int) + 5))) = false := bne_eq_false_iff_eq.mpr c42
                                clear c42
                                by_cases c43 : t261.toList = a1.toList
                                · rw [if_pos c43] at H
                                  have c43b0 : (t261.toList == a1.toList) = true := beq_iff_eq.mpr c43
                                  have c43b1 : (t261.toList != a1.toList) = false := bne_eq_false_iff_eq.mpr c43
                                  clear c43
                                  by_cases c44 : t262 = (wrap64 ((wrap64 ((a0.size : Int) + 2)) + (a1.size : Int)))
                                  · rw [if_pos c44] at H
                                    have c44b0 : (t262 == (wrap64 ((wrap64 ((a0.size : Int) + 2)) + (a1.size : Int)))) = true := beq_iff_eq.mpr c44
                                    have c44b1 : (t262 != (wrap64 ((wrap64 ((a0.size : Int) + 2)) + (a1.size : Int)))) = false := bne_eq_false_iff_eq.mpr c44
                                    clear c44
                                    replace H := Option.bind_eq_some_iff.mp H
                                    obtain ⟨t272, A450, H⟩ := H
                                    replace H : (if t272 = true then (if t270.toList = a1.toList then ((emulatorlaw03_alive.f kj28).bind fun t273 => (some t273)) else (some false)) else (some false)) = some r := H
                                    have A45 := Aside0.mk A450
                                    clear A450
                                    by_cases c46 : t272 = true
                                    · subst c46
                                      have H1 : (if t270.toList = a1.toList then ((emulatorlaw03_alive.f kj28).bind fun t273 => (some t273)) else (some false)) = some r := by rw [if_pos rfl] at H; exact H
                                      clear H
                                      have H := H1
                                      clear H1
                                      by_cases c47 : t270.toList = a1.toList
                                      · rw [if_pos c47] at H
                                        have c47b0 : (t270.toList == a1.toList) = true := beq_iff_eq.mpr c47
                                        have c47b1 : (t270.toList != a1.toList) = false := bne_eq_false_iff_eq.mpr c47
                                        clear c47
                                        replace H := Option.bind_eq_some_iff.mp H
                                        obtain ⟨t273, A480, H⟩ := H
                                        replace H : (some t273) = some r := H
                                        have A48 := Aside0.mk A480
                                        clear A480
                                        obtain rfl := Option.some.inj H
                                        obtain ⟨Ao49, co49, eo49⟩ := Kd.R_slice HO_19.out
                                        subst eo49
                                        go_wp2_with (first | (go_at_call 29; (with_reducible refine (emulatorref03_SameInts.calls kj28 _ _ t265 _ _ x11_2 true _ ?side1 ?side2 ?side3 ?side4 A45.out).mono ?_); (case side1 => repeat (first | exact (Kd.R_reads' HO_19.out).2.2 | (with_reducible refine Kd.C_alloc ?_ _) | (with_reducible refine Kd.C_drewN ?_ _) | (with_reducible refine Kd.C_drew ?_))); (case side2 => exact (Kd.R_reads' HO_19.out).2.1); (case side3 => repeat (first | exact (Kd.R_reads' HO_11.out).2.2 | (with_reducible refine Kd.C_alloc ?_ _) | (with_reducible refine Kd.C_drewN ?_ _) | (with_reducible refine Kd.C_drew ?_))); (case side4 => exact (Kd.R_reads' HO_11.out).2.1); rintro e w' ⟨rfl, ⟨nd, rfl⟩⟩) | (go_at_call 12; (with_reducible refine (emulatorlaw03_alive.calls kj28  t273 _ A48.out).mono ?_); rintro e w50 ⟨rfl, hb⟩; have n0_ := Aside0.mk (Kd.R_below (by (with_reducible repeat (first | apply Kd.R_alloc | apply Kd.R_drewN | apply Kd.R_drew)); exact HO_11.out) hb); have n1_ := Aside0.mk (Kd.R_below (by (with_reducible repeat (first | apply Kd.R_alloc | apply Kd.R_drewN | apply Kd.R_drew)); exact HO_19.out) hb); have n2_ := Aside0.mk (below_step (by repeat (first | (with_reducible first | exact HB.out | apply below_alloc | apply pw_below_drewN | apply below_drew1) | exact HB.out)) hb); clear HO_11; clear HO_19; clear HB; have HO_11 := n0_; have HO_19 := n1_; have HB := n2_; clear n0_ n1_ n2_; (try clear hb); (try clear hb2); (try clear hk); (try clear hi)))
                                        go_ret
                                        exact ⟨by first | rfl | (simp [errW_none, errW_some] <;> rfl) | (simp [*, errW_none, errW_some] <;> rfl), by repeat (first | (with_reducible first | exact HB.out | apply below_alloc | apply pw_below_drewN | apply below_drew1) | exact HB.out)⟩
                                      · rw [if_neg c47] at H
                                        have c47b0 : (t270.toList == a1.toList) = false := beq_eq_false_iff_ne.mpr c47
                                        have c47b1 : (t270.toList != a1.toList) = true := bne_iff_ne.mpr c47
                                        obtain rfl := Option.some.inj H
                                        obtain ⟨Ao51, co51, eo51⟩ := Kd.R_slice HO_19.out
                                        subst eo51
                                        go_wp2_with (first | (go_at_call 29; (with_reducible refine (emulatorref03_SameInts.calls kj28 _ _ t265 _ _ x11_2 true _ ?side1 ?side2 ?side3 ?side4 A45.out).mono ?_); (case side1 => repeat (first | exact (Kd.R_reads' HO_19.out).2.2 | (with_reducible refine Kd.C_alloc ?_ _) | (with_reducible refine Kd.C_drewN ?_ _) | (with_reducible refine Kd.C_drew ?_))); (case side2 => exact (Kd.R_reads' HO_19.out).2.1); (case side3 => repeat (first | exact (Kd.R_reads' HO_11.out).2.2 | (with_reducible refine Kd.C_alloc ?_ _) | (with_reducible refine Kd.C_drewN ?_ _) | (with_reducible refine Kd.C_drew ?_))); (case side4 => exact (Kd.R_reads' HO_11.out).2.1); rintro e w' ⟨rfl, ⟨nd, rfl⟩⟩))
                                        go_ret
                                        exact ⟨by first | rfl | (simp [errW_none, errW_some] <;> rfl) | (simp [*, errW_none, errW_some] <;> rfl), by repeat (first | (with_reducible first | exact HB.out | apply below_alloc | apply pw_below_drewN | apply below_drew1) | exact HB.out)⟩
                                    · replace c46 := Bool.eq_false_iff.mpr c46
                                      subst c46
                                      have H1 : (some false) = some r := by rw [if_neg (show ¬ (false = true) by decide)] at H; exact H
                                      clear H
                                      have H := H1
                                      clear H1
                                      obtain rfl := Option.some.inj H
                                      obtain ⟨Ao52, co52, eo52⟩ := Kd.R_slice HO_19.out
                                      subst eo52
                                      go_wp2_with (first | (go_at_call 29; (with_reducible refine (emulatorref03_SameInts.calls kj28 _ _ t265 _ _ x11_2 false _ ?side1 ?side2 ?side3 ?side4 A45.out).mono ?_); (case side1 => repeat (first | exact (Kd.R_reads' HO_19.out).2.2 | (with_reducible refine Kd.C_alloc ?_ _) | (with_reducible refine Kd.C_drewN ?_ _) | (with_reducible refine Kd.C_drew ?_))); (case side2 => exact (Kd.R_reads' HO_19.out).2.1); (case side3 => repeat (first | exact (Kd.R_reads' HO_11.out).2.2 | (with_reducible refine Kd.C_alloc ?_ _) | (with_reducible refine Kd.C_drewN ?_ _) | (with_reducible refine Kd.C_drew ?_))); (case side4 => exact (Kd.R_reads' HO_11.out).2.1); rintro e w' ⟨rfl, ⟨nd, rfl⟩⟩))
                                      go_ret
                                      exact ⟨by first | rfl | (simp [errW_none, errW_some] <;> rfl) | (simp [*, errW_none, errW_some] <;> rfl), by repeat (first | (with_reducible first | exact HB.out | apply below_alloc | apply pw_below_drewN | apply below_drew1) | exact HB.out)⟩
                                  · rw [if_neg c44] at H
                                    have c44b0 : (t262 == (wrap64 ((wrap64 ((a0.size : Int) + 2)) + (a1.size : Int)))) = false := beq_eq_false_iff_ne.mpr c44
                                    have c44b1 : (t262 != (wrap64 ((wrap64 ((a0.size : Int) + 2)) + (a1.size : Int)))) = true := bne_iff_ne.mpr c44
                                    obtain rfl := Option.some.inj H
                                    go_wp2
                                    go_ret
                                    exact ⟨by first | rfl | (simp [errW_none, errW_some] <;> rfl) | (simp [*, errW_none, errW_some] <;> rfl), by repeat (first | (with_reducible first | exact HB.out | apply below_alloc | apply pw_below_drewN | apply below_drew1) | exact HB.out)⟩
                                · rw [if_neg c43] at H
                                  have c43b0 : (t261.toList == a1.toList) = false := beq_eq_false_iff_ne.mpr c43
                                  have c43b1 : (t261.toList != a1.toList) = true := bne_iff_ne.mpr c43
                                  obtain rfl := Option.some.inj H
                                  go_wp2
                                  go_ret
                                  exact ⟨by first | rfl | (simp [errW_none, errW_some] <;> rfl) | (simp [*, errW_none, errW_some] <;> rfl), by repeat (first | (with_reducible first | exact HB.out | apply below_alloc | apply pw_below_drewN | apply below_drew1) | exact HB.out)⟩
                              · rw [if_neg c42] at H
                                have c42b0 : (t258 == (wrap64 ((a0.size : Int) + 5))) = false := beq_eq_false_iff_ne.mpr c42
                                have c42b1 : (t258 != (wrap64 ((a0.size : Int) + 5))) = true := bne_iff_ne.mpr c42
                                obtain rfl := Option.some.inj H
                                go_wp2
                                go_ret
                                exact ⟨by first | rfl | (simp [errW_none, errW_some] <;> rfl) | (simp [*, errW_none, errW_some] <;> rfl), by repeat (first | (with_reducible first | exact HB.out | apply below_alloc | apply pw_below_drewN | apply below_drew1) | exact HB.out)⟩
                            · rw [if_neg c41] at H
                              have c41b0 : (t257 == (wrap64 (a3))) = false := beq_eq_false_iff_ne.mpr c41
                              have c41b1 : (t257 != (wrap64 (a3))) = true := bne_iff_ne.mpr c41
                              obtain rfl := Option.some.inj H
                              go_wp2
                              go_ret
                              exact ⟨by first | rfl | (simp [errW_none, errW_some] <;> rfl) | (simp [*, errW_none, errW_some] <;> rfl), by repeat (first | (with_reducible first | exact HB.out | apply below_alloc | apply pw_below_drewN | apply below_drew1) | exact HB.out)⟩
                    · rw [if_neg c23] at H
                      exact absurd H (by simp)
                  · rw [if_neg c22] at H
                    exact absurd H (by simp)
                · rw [if_neg c19] at H
                  exact absurd H (by simp)
              · rw [if_neg c18] at H
                exact absurd H (by simp)

/-- THE ONE PURE STATEMENT of emulatorlaw03_OctetBack: yours. -/
def emulatorlaw03_OctetBack.Pure : Prop := ∀ (a0 : ByteArray) (a1 : ByteArray) (a2 : ByteArray) (a3 : Int) (l4 : List Int), a0.size ≤ 140737488351232 → a1.size ≤ 140737488351232 → a2.size ≤ 140737488351232 → (Lit.int .u32 a3).wf = true → l4.length ≤ maxLen → l4.length * 2 ≤ 140737488351232 → (∀ x ∈ l4, (Lit.int .u16 x).wf = true) → ∃ k, emulatorlaw03_OctetBack.f k a0 a1 a2 a3 l4 = some true
theorem emulatorlaw03_OctetBack.walk (P : emulatorlaw03_OctetBack.Pure) (a0 : ByteArray) (a1 : ByteArray) (a2 : ByteArray) (a3 : Int) (a4 : Option Addr) (len4 cap4 : Nat) (z4 : List Int) (w : World) (w0 : a0.size ≤ 140737488351232) (w1 : a1.size ≤ 140737488351232) (w2 : a2.size ≤ 140737488351232) (w3 : (Lit.int .u32 a3).wf = true) (w4 : (a4 = none ∧ len4 = 0 ∧ cap4 = 0 ∧ z4 = []) ∨ ∃ x, a4 = some x ∧ len4 ≤ cap4 ∧ cap4 ≤ maxLen ∧ z4.length = cap4 ∧ (∀ i, i < z4.length → w.cell? (x.add i) = some (.int .u16 (z4.getD i 0))) ∧ ∀ n ∈ z4, (Lit.int .u16 n).wf = true) (y4 : len4 * 2 ≤ 140737488351232) :
    Calls Try.prog 9 #[.string a0, .string a1, .string a2, .int .u32 a3, .slice a4 len4 cap4] w fun e w' => e = .returned (.bool true) ∧ Below w.heap.size w w' := by
  obtain ⟨l4, rfl, hr4, hm4, hw4, hc4⟩ := ReadsInt.ofRowC w4
  obtain ⟨k, h⟩ := P a0 a1 a2 a3 l4 w0 w1 w2 w3 hm4 y4 hw4
  refine (emulatorlaw03_OctetBack.calls k a0 a1 a2 a3 _ _ l4 true w (Kd.C_of_reads (d := (0 : Int)) (h1 := fun _ => rfl) hr4) hc4 h).mono ?_
  rintro e w' ⟨rfl, hd⟩
  exact ⟨rfl, hd⟩

end Go.Proofs.Ytgeoapkiegblnaa.K
