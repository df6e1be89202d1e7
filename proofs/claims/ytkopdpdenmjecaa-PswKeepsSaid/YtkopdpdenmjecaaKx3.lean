-- Printed by a program of this session out of Lean's print of the translation. Lean checks it.
import Derived.Test.YtkopdpdenmjecaaKx0
import Derived.Test.YtkopdpdenmjecaaKx1
import Derived.Test.YtkopdpdenmjecaaKx2
namespace Go.Proofs.Ytkopdpdenmjecaa.K
open Go.RowKit Go.Proofs.YtkopdpdenmjecaaW.PrintWords Go.Proofs.YtkopdpdenmjecaaW.PrintLast Go.Proofs.YtkopdpdenmjecaaW.PrintMore
attribute [local go_sem] max2_int min2_int max_two min_two max_three min_three max_four min_four   -- for this text's walks alone
set_option linter.unusedVariables false
set_option linter.unusedSimpArgs false

/-! ### emulatorlaw04_PswKeeps: function 7 -/
mutual
def emulatorlaw04_PswKeeps.j0 : Nat → Int → Int → Int → Int → Int → Bool → Option (Bool)
  | 0, _, _, _, _, _, _ => none
  | k + 1, x0, x1, x5, x6, x7, x29 => if x29 = true then (some false) else ((psw_Flags.f x5).bind fun t169 => (if t169 = (Go.bits .and .i64 x1 15) then ((psw_Mode.f x5).bind fun t170 => ((psw_Mode.f x0).bind fun t171 => (if t170 = t171 then ((psw_Previous.f x5).bind fun t172 => ((psw_Previous.f x0).bind fun t173 => (if t172 = t173 then ((psw_Priority.f x5).bind fun t174 => ((psw_Priority.f x0).bind fun t175 => (if t174 = t175 then ((psw_Trace.f x5).bind fun t176 => ((psw_Trace.f x0).bind fun t177 => (emulatorlaw04_PswKeeps.j1 k x0 x1 x6 x7 (t176 != t177)))) else (emulatorlaw04_PswKeeps.j1 k x0 x1 x6 x7 true)))) else (emulatorlaw04_PswKeeps.j1 k x0 x1 x6 x7 true)))) else (emulatorlaw04_PswKeeps.j1 k x0 x1 x6 x7 true)))) else (emulatorlaw04_PswKeeps.j1 k x0 x1 x6 x7 true)))
def emulatorlaw04_PswKeeps.j1 : Nat → Int → Int → Int → Int → Bool → Option (Bool)
  | 0, _, _, _, _, _ => none
  | k + 1, x0, x1, x6, x7, x62 => if x62 = true then (some false) else ((psw_Previous.f x6).bind fun t178 => ((psw_Mode.f x0).bind fun t179 => (if t178 = t179 then ((psw_Mode.f x6).bind fun t180 => ((psw_Mode.f x1).bind fun t181 => (if t180 = t181 then ((psw_Priority.f x6).bind fun t182 => ((psw_Priority.f x1).bind fun t183 => (if t182 = t183 then ((psw_Flags.f x6).bind fun t184 => ((psw_Flags.f x1).bind fun t185 => (if t184 = t185 then ((psw_Trace.f x6).bind fun t186 => ((psw_Trace.f x1).bind fun t187 => (emulatorlaw04_PswKeeps.j2 k x0 x1 x7 (t186 != t187)))) else (emulatorlaw04_PswKeeps.j2 k x0 x1 x7 true)))) else (emulatorlaw04_PswKeeps.j2 k x0 x1 x7 true)))) else (emulatorlaw04_PswKeeps.j2 k x0 x1 x7 true)))) else (emulatorlaw04_PswKeeps.j2 k x0 x1 x7 true))))
def emulatorlaw04_PswKeeps.j2 : Nat → Int → Int → Int → Bool → Option (Bool)
  | 0, _, _, _, _ => none
  | k + 1, x0, x1, x7, x95 => if x95 = true then (some false) else ((psw_Flags.f x7).bind fun t188 => ((psw_Flags.f x1).bind fun t189 => (if t188 = t189 then ((psw_Trace.f x7).bind fun t190 => ((psw_Trace.f x1).bind fun t191 => (emulatorlaw04_PswKeeps.j3 k x0 x1 x7 (t190 != t191)))) else (emulatorlaw04_PswKeeps.j3 k x0 x1 x7 true))))
def emulatorlaw04_PswKeeps.j3 : Nat → Int → Int → Int → Bool → Option (Bool)
  | 0, _, _, _, _ => none
  | k + 1, x0, x1, x7, x107 => if x107 = true then (some false) else ((psw_Mode.f x0).bind fun t192 => (if t192 = 1 then ((psw_Mode.f x7).bind fun t193 => (if t193 = 1 then ((psw_Previous.f x7).bind fun t194 => ((psw_Previous.f x0).bind fun t195 => (if t194 = t195 then ((psw_Priority.f x7).bind fun t196 => ((psw_Priority.f x0).bind fun t197 => (if t196 = t197 then ((emulatorlaw04_alive.f k).bind fun t198 => (some t198)) else (some false)))) else (some false)))) else (some false))) else ((psw_Mode.f x7).bind fun t199 => ((psw_Mode.f x1).bind fun t200 => (if t199 = t200 then ((psw_Previous.f x7).bind fun t201 => ((psw_Previous.f x1).bind fun t202 => (if t201 = t202 then ((psw_Priority.f x7).bind fun t203 => ((psw_Priority.f x1).bind fun t204 => (if t203 = t204 then ((emulatorlaw04_alive.f k).bind fun t205 => (some t205)) else (some false)))) else (some false)))) else (some false))))))
end
def emulatorlaw04_PswKeeps.f (k : Nat) (a0 : Int) (a1 : Int) : Option (Bool) := (psw_WithFlags.f a0 a1).bind fun t163 => ((psw_Enter.f a0 a1).bind fun t164 => ((psw_Return.f a0 a1).bind fun t165 => ((psw_Valid.f t163).bind fun t166 => (if t166 = true then ((psw_Valid.f t164).bind fun t167 => (if t167 = true then ((psw_Valid.f t165).bind fun t168 => (emulatorlaw04_PswKeeps.j0 k a0 a1 t163 t164 t165 (!t168))) else (emulatorlaw04_PswKeeps.j0 k a0 a1 t163 t164 t165 true))) else (emulatorlaw04_PswKeeps.j0 k a0 a1 t163 t164 t165 true)))))
theorem emulatorlaw04_PswKeeps.mono_l : ∀ k, (∀ y0 y1 y2 y3 y4 y5, LeO (emulatorlaw04_PswKeeps.j0 k y0 y1 y2 y3 y4 y5) (emulatorlaw04_PswKeeps.j0 (k + 1) y0 y1 y2 y3 y4 y5)) ∧ (∀ y0 y1 y2 y3 y4, LeO (emulatorlaw04_PswKeeps.j1 k y0 y1 y2 y3 y4) (emulatorlaw04_PswKeeps.j1 (k + 1) y0 y1 y2 y3 y4)) ∧ (∀ y0 y1 y2 y3, LeO (emulatorlaw04_PswKeeps.j2 k y0 y1 y2 y3) (emulatorlaw04_PswKeeps.j2 (k + 1) y0 y1 y2 y3)) ∧ (∀ y0 y1 y2 y3, LeO (emulatorlaw04_PswKeeps.j3 k y0 y1 y2 y3) (emulatorlaw04_PswKeeps.j3 (k + 1) y0 y1 y2 y3))
  | 0 => ⟨fun _ _ _ _ _ _ r h => by simp [emulatorlaw04_PswKeeps.j0] at h, fun _ _ _ _ _ r h => by simp [emulatorlaw04_PswKeeps.j1] at h, fun _ _ _ _ r h => by simp [emulatorlaw04_PswKeeps.j2] at h, fun _ _ _ _ r h => by simp [emulatorlaw04_PswKeeps.j3] at h⟩
  | k + 1 => by
    obtain ⟨ih0, ih1, ih2, ih3⟩ := emulatorlaw04_PswKeeps.mono_l k
    refine ⟨?_, ?_, ?_, ?_⟩
    · intro y0 y1 y2 y3 y4 y5
      unfold emulatorlaw04_PswKeeps.j0
      repeat' first
      | (with_reducible exact ih0 _ _ _ _ _ _)
      | (with_reducible exact ih1 _ _ _ _ _)
      | (with_reducible exact ih2 _ _ _ _)
      | (with_reducible exact ih3 _ _ _ _)
      | (with_reducible exact emulatorlaw04_alive.mono _)
      | (with_reducible exact LeO.refl _)
      | (with_reducible exact LeO.none _)
      | (with_reducible refine LeO.ite ?_ ?_)
      | (with_reducible refine LeO.bind ?_ (fun _ => ?_))
      | exact ih0 _ _ _ _ _ _
      | exact ih1 _ _ _ _ _
      | exact ih2 _ _ _ _
      | exact ih3 _ _ _ _
      | exact emulatorlaw04_alive.mono _
      | exact LeO.none _
      | refine LeO.ite ?_ ?_
      | refine LeO.bind ?_ (fun _ => ?_)
    · intro y0 y1 y2 y3 y4
      unfold emulatorlaw04_PswKeeps.j1
      repeat' first
      | (with_reducible exact ih0 _ _ _ _ _ _)
      | (with_reducible exact ih1 _ _ _ _ _)
      | (with_reducible exact ih2 _ _ _ _)
      | (with_reducible exact ih3 _ _ _ _)
      | (with_reducible exact emulatorlaw04_alive.mono _)
      | (with_reducible exact LeO.refl _)
      | (with_reducible exact LeO.none _)
      | (with_reducible refine LeO.ite ?_ ?_)
      | (with_reducible refine LeO.bind ?_ (fun _ => ?_))
      | exact ih0 _ _ _ _ _ _
      | exact ih1 _ _ _ _ _
      | exact ih2 _ _ _ _
      | exact ih3 _ _ _ _
      | exact emulatorlaw04_alive.mono _
      | exact LeO.none _
      | refine LeO.ite ?_ ?_
      | refine LeO.bind ?_ (fun _ => ?_)
    · intro y0 y1 y2 y3
      unfold emulatorlaw04_PswKeeps.j2
      repeat' first
      | (with_reducible exact ih0 _ _ _ _ _ _)
      | (with_reducible exact ih1 _ _ _ _ _)
      | (with_reducible exact ih2 _ _ _ _)
      | (with_reducible exact ih3 _ _ _ _)
      | (with_reducible exact emulatorlaw04_alive.mono _)
      | (with_reducible exact LeO.refl _)
      | (with_reducible exact LeO.none _)
      | (with_reducible refine LeO.ite ?_ ?_)
      | (with_reducible refine LeO.bind ?_ (fun _ => ?_))
      | exact ih0 _ _ _ _ _ _
      | exact ih1 _ _ _ _ _
      | exact ih2 _ _ _ _
      | exact ih3 _ _ _ _
      | exact emulatorlaw04_alive.mono _
      | exact LeO.none _
      | refine LeO.ite ?_ ?_
      | refine LeO.bind ?_ (fun _ => ?_)
    · intro y0 y1 y2 y3
      unfold emulatorlaw04_PswKeeps.j3
      repeat' first
      | (with_reducible exact ih0 _ _ _ _ _ _)
      | (with_reducible exact ih1 _ _ _ _ _)
      | (with_reducible exact ih2 _ _ _ _)
      | (with_reducible exact ih3 _ _ _ _)
      | (with_reducible exact emulatorlaw04_alive.mono _)
      | (with_reducible exact LeO.refl _)
      | (with_reducible exact LeO.none _)
      | (with_reducible refine LeO.ite ?_ ?_)
      | (with_reducible refine LeO.bind ?_ (fun _ => ?_))
      | exact ih0 _ _ _ _ _ _
      | exact ih1 _ _ _ _ _
      | exact ih2 _ _ _ _
      | exact ih3 _ _ _ _
      | exact emulatorlaw04_alive.mono _
      | exact LeO.none _
      | refine LeO.ite ?_ ?_
      | refine LeO.bind ?_ (fun _ => ?_)
theorem emulatorlaw04_PswKeeps.mono : ∀ a0 a1 k, LeO (emulatorlaw04_PswKeeps.f k a0 a1) (emulatorlaw04_PswKeeps.f (k + 1) a0 a1) := by
  intro a0 a1 k
  obtain ⟨ih0, ih1, ih2, ih3⟩ := emulatorlaw04_PswKeeps.mono_l k
  unfold emulatorlaw04_PswKeeps.f
  repeat' first
      | (with_reducible exact ih0 _ _ _ _ _ _)
      | (with_reducible exact ih1 _ _ _ _ _)
      | (with_reducible exact ih2 _ _ _ _)
      | (with_reducible exact ih3 _ _ _ _)
      | (with_reducible exact emulatorlaw04_alive.mono _)
      | (with_reducible exact LeO.refl _)
      | (with_reducible exact LeO.none _)
      | (with_reducible refine LeO.ite ?_ ?_)
      | (with_reducible refine LeO.bind ?_ (fun _ => ?_))
      | exact ih0 _ _ _ _ _ _
      | exact ih1 _ _ _ _ _
      | exact ih2 _ _ _ _
      | exact ih3 _ _ _ _
      | exact emulatorlaw04_alive.mono _
      | exact LeO.none _
      | refine LeO.ite ?_ ?_
      | refine LeO.bind ?_ (fun _ => ?_)
set_option maxHeartbeats 8000000 in
set_option maxRecDepth 100000 in
theorem emulatorlaw04_PswKeeps.calls (k : Nat) (a0 : Int) (a1 : Int) (r : Bool) (w : World) (h : emulatorlaw04_PswKeeps.f k a0 a1 = some r) :
    Calls Try.prog 7 #[.int .i64 a0, .int .i64 a1] w fun e w' => e = .returned (.bool r) ∧ Below w.heap.size w w' := by
  have HB := Aside0.mk (Below.refl w.heap.size w)
  have H : ((psw_WithFlags.f a0 a1).bind fun t163 => ((psw_Enter.f a0 a1).bind fun t164 => ((psw_Return.f a0 a1).bind fun t165 => ((psw_Valid.f t163).bind fun t166 => (if t166 = true then ((psw_Valid.f t164).bind fun t167 => (if t167 = true then ((psw_Valid.f t165).bind fun t168 => (emulatorlaw04_PswKeeps.j0 k a0 a1 t163 t164 t165 (!t168))) else (emulatorlaw04_PswKeeps.j0 k a0 a1 t163 t164 t165 true))) else (emulatorlaw04_PswKeeps.j0 k a0 a1 t163 t164 t165 true)))))) = some r := h
  clear h
  replace H := Option.bind_eq_some_iff.mp H
  obtain ⟨t163, A30, H⟩ := H
  replace H : ((psw_Enter.f a0 a1).bind fun t164 => ((psw_Return.f a0 a1).bind fun t165 => ((psw_Valid.f t163).bind fun t166 => (if t166 = true then ((psw_Valid.f t164).bind fun t167 => (if t167 = true then ((psw_Valid.f t165).bind fun t168 => (emulatorlaw04_PswKeeps.j0 k a0 a1 t163 t164 t165 (!t168))) else (emulatorlaw04_PswKeeps.j0 k a0 a1 t163 t164 t165 true))) else (emulatorlaw04_PswKeeps.j0 k a0 a1 t163 t164 t165 true))))) = some r := H
  have A3 := Aside0.mk A30
  clear A30
  replace H := Option.bind_eq_some_iff.mp H
  obtain ⟨t164, A40, H⟩ := H
  replace H : ((psw_Return.f a0 a1).bind fun t165 => ((psw_Valid.f t163).bind fun t166 => (if t166 = true then ((psw_Valid.f t164).bind fun t167 => (if t167 = true then ((psw_Valid.f t165).bind fun t168 => (emulatorlaw04_PswKeeps.j0 k a0 a1 t163 t164 t165 (!t168))) else (emulatorlaw04_PswKeeps.j0 k a0 a1 t163 t164 t165 true))) else (emulatorlaw04_PswKeeps.j0 k a0 a1 t163 t164 t165 true)))) = some r := H
  have A4 := Aside0.mk A40
  clear A40
  replace H := Option.bind_eq_some_iff.mp H
  obtain ⟨t165, A50, H⟩ := H
  replace H : ((psw_Valid.f t163).bind fun t166 => (if t166 = true then ((psw_Valid.f t164).bind fun t167 => (if t167 = true then ((psw_Valid.f t165).bind fun t168 => (emulatorlaw04_PswKeeps.j0 k a0 a1 t163 t164 t165 (!t168))) else (emulatorlaw04_PswKeeps.j0 k a0 a1 t163 t164 t165 true))) else (emulatorlaw04_PswKeeps.j0 k a0 a1 t163 t164 t165 true))) = some r := H
  have A5 := Aside0.mk A50
  clear A50
  have HC6 := Aside0.mk H
  clear H
  go_enter Try.func7, Try.ntmps7
  go_upto_region 2 with (first | ((with_reducible refine gate_callee (f := 8) rfl ?_); refine goesL_ (some 10) rfl rfl Try.func8 (by kernel_rfl) rfl #[.int .i64 a0, .int .i64 a1] rfl (by (try simp only [List.map_toArray, List.map_cons, List.map_nil]); first | done | rfl | (simp only [List.length_drop, List.length_take]; rfl) | (simp only [ByteArray.size_extract, Nat.sub_zero]; rfl) | (simp only [ByteArray.size_extract, Nat.sub_zero]; done)) ?_; (with_reducible refine (psw_WithFlags.calls a0 a1 t163 _ A3.out).mono ?_); rintro e w' ⟨rfl, ⟨nd, rfl⟩⟩; refine ⟨_, rfl, ?_⟩) | ((with_reducible refine gate_callee (f := 10) rfl ?_); refine goesL_ (some 13) rfl rfl Try.func10 (by kernel_rfl) rfl #[.int .i64 a0, .int .i64 a1] rfl (by (try simp only [List.map_toArray, List.map_cons, List.map_nil]); first | done | rfl | (simp only [List.length_drop, List.length_take]; rfl) | (simp only [ByteArray.size_extract, Nat.sub_zero]; rfl) | (simp only [ByteArray.size_extract, Nat.sub_zero]; done)) ?_; (with_reducible refine (psw_Enter.calls a0 a1 t164 _ A4.out).mono ?_); rintro e w' ⟨rfl, ⟨nd, rfl⟩⟩; refine ⟨_, rfl, ?_⟩) | ((with_reducible refine gate_callee (f := 12) rfl ?_); refine goesL_ (some 16) rfl rfl Try.func12 (by kernel_rfl) rfl #[.int .i64 a0, .int .i64 a1] rfl (by (try simp only [List.map_toArray, List.map_cons, List.map_nil]); first | done | rfl | (simp only [List.length_drop, List.length_take]; rfl) | (simp only [ByteArray.size_extract, Nat.sub_zero]; rfl) | (simp only [ByteArray.size_extract, Nat.sub_zero]; done)) ?_; (with_reducible refine (psw_Return.calls a0 a1 t165 _ A5.out).mono ?_); rintro e w' ⟨rfl, ⟨nd, rfl⟩⟩; refine ⟨_, rfl, ?_⟩))
  (try simp only [Act.put, List.setIfInBounds_toArray, List.set_cons_zero, List.set_cons_succ])
  go_cut [29] (fun v29 wc => ∃ (kq : Nat) (x29_5 : Bool), v29 = .bool x29_5 ∧ Aside0 (emulatorlaw04_PswKeeps.j0 kq a0 a1 t163 t164 t165 x29_5 = some r) ∧ Aside0 (kq ≤ k) ∧ Aside0 (Below w.heap.size w wc))
  case first =>
    have H := HC6.out
    clear HC6
    replace H := Option.bind_eq_some_iff.mp H
    obtain ⟨t166, A70, H⟩ := H
    replace H : (if t166 = true then ((psw_Valid.f t164).bind fun t167 => (if t167 = true then ((psw_Valid.f t165).bind fun t168 => (emulatorlaw04_PswKeeps.j0 k a0 a1 t163 t164 t165 (!t168))) else (emulatorlaw04_PswKeeps.j0 k a0 a1 t163 t164 t165 true))) else (emulatorlaw04_PswKeeps.j0 k a0 a1 t163 t164 t165 true)) = some r := H
    have A7 := Aside0.mk A70
    clear A70
    by_cases c8 : t166 = true
    · subst c8
      have H1 : ((psw_Valid.f t164).bind fun t167 => (if t167 = true then ((psw_Valid.f t165).bind fun t168 => (emulatorlaw04_PswKeeps.j0 k a0 a1 t163 t164 t165 (!t168))) else (emulatorlaw04_PswKeeps.j0 k a0 a1 t163 t164 t165 true))) = some r := by rw [if_pos rfl] at H; exact H
      clear H
      have H := H1
      clear H1
      replace H := Option.bind_eq_some_iff.mp H
      obtain ⟨t167, A90, H⟩ := H
      replace H : (if t167 = true then ((psw_Valid.f t165).bind fun t168 => (emulatorlaw04_PswKeeps.j0 k a0 a1 t163 t164 t165 (!t168))) else (emulatorlaw04_PswKeeps.j0 k a0 a1 t163 t164 t165 true)) = some r := H
      have A9 := Aside0.mk A90
      clear A90
      by_cases c10 : t167 = true
      · subst c10
        have H1 : ((psw_Valid.f t165).bind fun t168 => (emulatorlaw04_PswKeeps.j0 k a0 a1 t163 t164 t165 (!t168))) = some r := by rw [if_pos rfl] at H; exact H
        clear H
        have H := H1
        clear H1
        replace H := Option.bind_eq_some_iff.mp H
        obtain ⟨t168, A110, H⟩ := H
        replace H : (emulatorlaw04_PswKeeps.j0 k a0 a1 t163 t164 t165 (!t168)) = some r := H
        have A11 := Aside0.mk A110
        clear A110
        have H' := Aside0.mk H
        clear H
        go_wp2_with (first | ((with_reducible refine gate_callee (f := 17) rfl ?_); refine goesL_ (some 18) rfl rfl Try.func17 (by kernel_rfl) rfl #[.int .i64 t163] rfl (by (try simp only [List.map_toArray, List.map_cons, List.map_nil]); first | done | rfl | (simp only [List.length_drop, List.length_take]; rfl) | (simp only [ByteArray.size_extract, Nat.sub_zero]; rfl) | (simp only [ByteArray.size_extract, Nat.sub_zero]; done)) ?_; (with_reducible refine (psw_Valid.calls t163 true _ A7.out).mono ?_); rintro e w' ⟨rfl, ⟨nd, rfl⟩⟩; refine ⟨_, rfl, ?_⟩) | (go_at_call 17; (with_reducible refine (psw_Valid.calls t164 true _ A9.out).mono ?_); rintro e w' ⟨rfl, ⟨nd, rfl⟩⟩) | (go_at_call 17; (with_reducible refine (psw_Valid.calls t165 t168 _ A11.out).mono ?_); rintro e w' ⟨rfl, ⟨nd, rfl⟩⟩))
        go_meet
        case rel => exact ⟨_, (!t168), (by first | rfl | (simp; done) | (simp [*]; done)), H', ⟨by first | omega | exact Nat.le_refl _⟩, ⟨by repeat (first | (with_reducible first | exact HB.out | apply below_alloc | apply pw_below_drewN | apply below_drew1) | exact HB.out)⟩⟩
      · replace c10 := Bool.eq_false_iff.mpr c10
        subst c10
        have H1 : (emulatorlaw04_PswKeeps.j0 k a0 a1 t163 t164 t165 true) = some r := by rw [if_neg (show ¬ (false = true) by decide)] at H; exact H
        clear H
        have H := H1
        clear H1
        have H' := Aside0.mk H
        clear H
        go_wp2_with (first | ((with_reducible refine gate_callee (f := 17) rfl ?_); refine goesL_ (some 18) rfl rfl Try.func17 (by kernel_rfl) rfl #[.int .i64 t163] rfl (by (try simp only [List.map_toArray, List.map_cons, List.map_nil]); first | done | rfl | (simp only [List.length_drop, List.length_take]; rfl) | (simp only [ByteArray.size_extract, Nat.sub_zero]; rfl) | (simp only [ByteArray.size_extract, Nat.sub_zero]; done)) ?_; (with_reducible refine (psw_Valid.calls t163 true _ A7.out).mono ?_); rintro e w' ⟨rfl, ⟨nd, rfl⟩⟩; refine ⟨_, rfl, ?_⟩) | (go_at_call 17; (with_reducible refine (psw_Valid.calls t164 false _ A9.out).mono ?_); rintro e w' ⟨rfl, ⟨nd, rfl⟩⟩))
        go_meet
        case rel => exact ⟨_, (true), (by first | rfl | (simp; done) | (simp [*]; done)), H', ⟨by first | omega | exact Nat.le_refl _⟩, ⟨by repeat (first | (with_reducible first | exact HB.out | apply below_alloc | apply pw_below_drewN | apply below_drew1) | exact HB.out)⟩⟩
    · replace c8 := Bool.eq_false_iff.mpr c8
      subst c8
      have H1 : (emulatorlaw04_PswKeeps.j0 k a0 a1 t163 t164 t165 true) = some r := by rw [if_neg (show ¬ (false = true) by decide)] at H; exact H
      clear H
      have H := H1
      clear H1
      have H' := Aside0.mk H
      clear H
      go_wp2_with (first | ((with_reducible refine gate_callee (f := 17) rfl ?_); refine goesL_ (some 18) rfl rfl Try.func17 (by kernel_rfl) rfl #[.int .i64 t163] rfl (by (try simp only [List.map_toArray, List.map_cons, List.map_nil]); first | done | rfl | (simp only [List.length_drop, List.length_take]; rfl) | (simp only [ByteArray.size_extract, Nat.sub_zero]; rfl) | (simp only [ByteArray.size_extract, Nat.sub_zero]; done)) ?_; (with_reducible refine (psw_Valid.calls t163 false _ A7.out).mono ?_); rintro e w' ⟨rfl, ⟨nd, rfl⟩⟩; refine ⟨_, rfl, ?_⟩))
      go_meet
      case rel => exact ⟨_, (true), (by first | rfl | (simp; done) | (simp [*]; done)), H', ⟨by first | omega | exact Nat.le_refl _⟩, ⟨by repeat (first | (with_reducible first | exact HB.out | apply below_alloc | apply pw_below_drewN | apply below_drew1) | exact HB.out)⟩⟩
  case rest =>
    clear HC6
    try clear c1
    try clear p2
    try clear c7
    try clear c8
    try clear c10
    obtain ⟨kq, x29_5, rfl, HA, HJ5, HB⟩ := hcut
    cases kq with
    | zero => exact absurd HA.out (by simp [emulatorlaw04_PswKeeps.j0])
    | succ kj5 =>
      have H := HA.out
      clear HA
      simp only [emulatorlaw04_PswKeeps.j0] at H
      by_cases c12 : x29_5 = true
      · subst c12
        have H1 : (some false) = some r := by rw [if_pos rfl] at H; exact H
        clear H
        have H := H1
        clear H1
        obtain rfl := Option.some.inj H
        go_wp2
        go_ret
        exact ⟨by first | rfl | (simp [errW_none, errW_some] <;> rfl) | (simp [*, errW_none, errW_some] <;> rfl), by repeat (first | (with_reducible first | exact HB.out | apply below_alloc | apply pw_below_drewN | apply below_drew1) | exact HB.out)⟩
      · replace c12 := Bool.eq_false_iff.mpr c12
        subst c12
        have H1 : ((psw_Flags.f t163).bind fun t169 => (if t169 = (Go.bits .and .i64 a1 15) then ((psw_Mode.f t163).bind fun t170 => ((psw_Mode.f a0).bind fun t171 => (if t170 = t171 then ((psw_Previous.f t163).bind fun t172 => ((psw_Previous.f a0).bind fun t173 => (if t172 = t173 then ((psw_Priority.f t163).bind fun t174 => ((psw_Priority.f a0).bind fun t175 => (if t174 = t175 then ((psw_Trace.f t163).bind fun t176 => ((psw_Trace.f a0).bind fun t177 => (emulatorlaw04_PswKeeps.j1 kj5 a0 a1 t164 t165 (t176 != t177)))) else (emulatorlaw04_PswKeeps.j1 kj5 a0 a1 t164 t165 true)))) else (emulatorlaw04_PswKeeps.j1 kj5 a0 a1 t164 t165 true)))) else (emulatorlaw04_PswKeeps.j1 kj5 a0 a1 t164 t165 true)))) else (emulatorlaw04_PswKeeps.j1 kj5 a0 a1 t164 t165 true))) = some r := by rw [if_neg (show ¬ (false = true) by decide)] at H; exact H
        clear H
        have H := H1
        clear H1
        have HC13 := Aside0.mk H
        clear H
        go_upto_region 4 with (fail)
        go_cut [62] (fun v62 wc => ∃ (kq : Nat) (x62_12 : Bool), v62 = .bool x62_12 ∧ Aside0 (emulatorlaw04_PswKeeps.j1 kq a0 a1 t164 t165 x62_12 = some r) ∧ Aside0 (kq ≤ kj5) ∧ Aside0 (Below w.heap.size w wc))
        case first =>
          have H := HC13.out
          clear HC13
          replace H := Option.bind_eq_some_iff.mp H
          obtain ⟨t169, A140, H⟩ := H
          replace H : (if t169 = (Go.bits .and .i64 a1 15) then ((psw_Mode.f t163).bind fun t170 => ((psw_Mode.f a0).bind fun t171 => (if t170 = t171 then ((psw_Previous.f t163).bind fun t172 => ((psw_Previous.f a0).bind fun t173 => (if t172 = t173 then ((psw_Priority.f t163).bind fun t174 => ((psw_Priority.f a0).bind fun t175 => (if t174 = t175 then ((psw_Trace.f t163).bind fun t176 => ((psw_Trace.f a0).bind fun t177 => (emulatorlaw04_PswKeeps.j1 kj5 a0 a1 t164 t165 (t176 != t177)))) else (emulatorlaw04_PswKeeps.j1 kj5 a0 a1 t164 t165 true)))) else (emulatorlaw04_PswKeeps.j1 kj5 a0 a1 t164 t165 true)))) else (emulatorlaw04_PswKeeps.j1 kj5 a0 a1 t164 t165 true)))) else (emulatorlaw04_PswKeeps.j1 kj5 a0 a1 t164 t165 true)) = some r := H
          have A14 := Aside0.mk A140
          clear A140
          by_cases c15 : t169 = (Go.bits .and .i64 a1 15)
          · rw [if_pos c15] at H
            have c15b0 : (t169 == (Go.bits .and .i64 a1 15)) = true := beq_iff_eq.mpr c15
            have c15b1 : (t169 != (Go.bits .and .i64 a1 15)) = false := bne_eq_false_iff_eq.mpr c15
            clear c15
            (first | rw [c15b0] | (simp only [i64_w, i32_w]; rw [c15b0]) | skip)
            replace H := Option.bind_eq_some_iff.mp H
            obtain ⟨t170, A160, H⟩ := H
            replace H : ((psw_Mode.f a0).bind fun t171 => (if t170 = t171 then ((psw_Previous.f t163).bind fun t172 => ((psw_Previous.f a0).bind fun t173 => (if t172 = t173 then ((psw_Priority.f t163).bind fun t174 => ((psw_Priority.f a0).bind fun t175 => (if t174 = t175 then ((psw_Trace.f t163).bind fun t176 => ((psw_Trace.f a0).bind fun t177 => (emulatorlaw04_PswKeeps.j1 kj5 a0 a1 t164 t165 (t176 != t177)))) else (emulatorlaw04_PswKeeps.j1 kj5 a0 a1 t164 t165 true)))) else (emulatorlaw04_PswKeeps.j1 kj5 a0 a1 t164 t165 true)))) else (emulatorlaw04_PswKeeps.j1 kj5 a0 a1 t164 t165 true))) = some r := H
            have A16 := Aside0.mk A160
            clear A160
            replace H := Option.bind_eq_some_iff.mp H
            obtain ⟨t171, A170, H⟩ := H
            replace H : (if t170 = t171 then ((psw_Previous.f t163).bind fun t172 => ((psw_Previous.f a0).bind fun t173 => (if t172 = t173 then ((psw_Priority.f t163).bind fun t174 => ((psw_Priority.f a0).bind fun t175 => (if t174 = t175 then ((psw_Trace.f t163).bind fun t176 => ((psw_Trace.f a0).bind fun t177 => (emulatorlaw04_PswKeeps.j1 kj5 a0 a1 t164 t165 (t176 != t177)))) else (emulatorlaw04_PswKeeps.j1 kj5 a0 a1 t164 t165 true)))) else (emulatorlaw04_PswKeeps.j1 kj5 a0 a1 t164 t165 true)))) else (emulatorlaw04_PswKeeps.j1 kj5 a0 a1 t164 t165 true)) = some r := H
            have A17 := Aside0.mk A170
            clear A170
            by_cases c18 : t170 = t171
            · rw [if_pos c18] at H
              have c18b0 : (t170 == t171) = true := beq_iff_eq.mpr c18
              have c18b1 : (t170 != t171) = false := bne_eq_false_iff_eq.mpr c18
              clear c18
              replace H := Option.bind_eq_some_iff.mp H
              obtain ⟨t172, A190, H⟩ := H
              replace H : ((psw_Previous.f a0).bind fun t173 => (if t172 = t173 then ((psw_Priority.f t163).bind fun t174 => ((psw_Priority.f a0).bind fun t175 => (if t174 = t175 then ((psw_Trace.f t163).bind fun t176 => ((psw_Trace.f a0).bind fun t177 => (emulatorlaw04_PswKeeps.j1 kj5 a0 a1 t164 t165 (t176 != t177)))) else (emulatorlaw04_PswKeeps.j1 kj5 a0 a1 t164 t165 true)))) else (emulatorlaw04_PswKeeps.j1 kj5 a0 a1 t164 t165 true))) = some r := H
              have A19 := Aside0.mk A190
              clear A190
              replace H := Option.bind_eq_some_iff.mp H
              obtain ⟨t173, A200, H⟩ := H
              replace H : (if t172 = t173 then ((psw_Priority.f t163).bind fun t174 => ((psw_Priority.f a0).bind fun t175 => (if t174 = t175 then ((psw_Trace.f t163).bind fun t176 => ((psw_Trace.f a0).bind fun t177 => (emulatorlaw04_PswKeeps.j1 kj5 a0 a1 t164 t165 (t176 != t177)))) else (emulatorlaw04_PswKeeps.j1 kj5 a0 a1 t164 t165 true)))) else (emulatorlaw04_PswKeeps.j1 kj5 a0 a1 t164 t165 true)) = some r := H
              have A20 := Aside0.mk A200
              clear A200
              by_cases c21 : t172 = t173
              · rw [if_pos c21] at H
                have c21b0 : (t172 == t173) = true := beq_iff_eq.mpr c21
                have c21b1 : (t172 != t173) = false := bne_eq_false_iff_eq.mpr c21
                clear c21
                replace H := Option.bind_eq_some_iff.mp H
                obtain ⟨t174, A220, H⟩ := H
                replace H : ((psw_Priority.f a0).bind fun t175 => (if t174 = t175 then ((psw_Trace.f t163).bind fun t176 => ((psw_Trace.f a0).bind fun t177 => (emulatorlaw04_PswKeeps.j1 kj5 a0 a1 t164 t165 (t176 != t177)))) else (emulatorlaw04_PswKeeps.j1 kj5 a0 a1 t164 t165 true))) = some r := H
                have A22 := Aside0.mk A220
                clear A220
                replace H := Option.bind_eq_some_iff.mp H
                obtain ⟨t175, A230, H⟩ := H
                replace H : (if t174 = t175 then ((psw_Trace.f t163).bind fun t176 => ((psw_Trace.f a0).bind fun t177 => (emulatorlaw04_PswKeeps.j1 kj5 a0 a1 t164 t165 (t176 != t177)))) else (emulatorlaw04_PswKeeps.j1 kj5 a0 a1 t164 t165 true)) = some r := H
                have A23 := Aside0.mk A230
                clear A230
                by_cases c24 : t174 = t175
                · rw [if_pos c24] at H
                  have c24b0 : (t174 == t175) = true := beq_iff_eq.mpr c24
                  have c24b1 : (t174 != t175) = false := bne_eq_false_iff_eq.mpr c24
                  clear c24
                  replace H := Option.bind_eq_some_iff.mp H
                  obtain ⟨t176, A250, H⟩ := H
                  replace H : ((psw_Trace.f a0).bind fun t177 => (emulatorlaw04_PswKeeps.j1 kj5 a0 a1 t164 t165 (t176 != t177))) = some r := H
                  have A25 := Aside0.mk A250
                  clear A250
                  replace H := Option.bind_eq_some_iff.mp H
                  obtain ⟨t177, A260, H⟩ := H
                  replace H : (emulatorlaw04_PswKeeps.j1 kj5 a0 a1 t164 t165 (t176 != t177)) = some r := H
                  have A26 := Aside0.mk A260
                  clear A260
                  have H' := Aside0.mk H
                  clear H
                  go_wp2_with (first | ((with_reducible refine gate_callee (f := 25) rfl ?_); refine goesL_ (some 31) rfl rfl Try.func25 (by kernel_rfl) rfl #[.int .i64 t163] rfl (by (try simp only [List.map_toArray, List.map_cons, List.map_nil]); first | done | rfl | (simp only [List.length_drop, List.length_take]; rfl) | (simp only [ByteArray.size_extract, Nat.sub_zero]; rfl) | (simp only [ByteArray.size_extract, Nat.sub_zero]; done)) ?_; (with_reducible refine (psw_Flags.calls t163 t169 _ A14.out).mono ?_); rintro e w' ⟨rfl, ⟨nd, rfl⟩⟩; refine ⟨_, rfl, ?_⟩) | (go_at_call 19; (with_reducible refine (psw_Mode.calls t163 t170 _ A16.out).mono ?_); rintro e w' ⟨rfl, ⟨nd, rfl⟩⟩) | (go_at_call 19; (with_reducible refine (psw_Mode.calls a0 t171 _ A17.out).mono ?_); rintro e w' ⟨rfl, ⟨nd, rfl⟩⟩) | (go_at_call 21; (with_reducible refine (psw_Previous.calls t163 t172 _ A19.out).mono ?_); rintro e w' ⟨rfl, ⟨nd, rfl⟩⟩) | (go_at_call 21; (with_reducible refine (psw_Previous.calls a0 t173 _ A20.out).mono ?_); rintro e w' ⟨rfl, ⟨nd, rfl⟩⟩) | (go_at_call 23; (with_reducible refine (psw_Priority.calls t163 t174 _ A22.out).mono ?_); rintro e w' ⟨rfl, ⟨nd, rfl⟩⟩) | (go_at_call 23; (with_reducible refine (psw_Priority.calls a0 t175 _ A23.out).mono ?_); rintro e w' ⟨rfl, ⟨nd, rfl⟩⟩) | (go_at_call 27; (with_reducible refine (psw_Trace.calls t163 t176 _ A25.out).mono ?_); rintro e w' ⟨rfl, ⟨nd, rfl⟩⟩) | (go_at_call 27; (with_reducible refine (psw_Trace.calls a0 t177 _ A26.out).mono ?_); rintro e w' ⟨rfl, ⟨nd, rfl⟩⟩))
                  go_meet
                  case rel => exact ⟨_, ((t176 != t177)), (by first | rfl | (simp; done) | (simp [*]; done)), H', ⟨by have := HJ5.out; first | omega | exact Nat.le_refl _⟩, ⟨by repeat (first | (with_reducible first | exact HB.out | apply below_alloc | apply pw_below_drewN | apply below_drew1) | exact HB.out)⟩⟩
                · rw [if_neg c24] at H
                  have c24b0 : (t174 == t175) = false := beq_eq_false_iff_ne.mpr c24
                  have c24b1 : (t174 != t175) = true := bne_iff_ne.mpr c24
                  have H' := Aside0.mk H
                  clear H
                  go_wp2_with (first | ((with_reducible refine gate_callee (f := 25) rfl ?_); refine goesL_ (some 31) rfl rfl Try.func25 (by kernel_rfl) rfl #[.int .i64 t163] rfl (by (try simp only [List.map_toArray, List.map_cons, List.map_nil]); first | done | rfl | (simp only [List.length_drop, List.length_take]; rfl) | (simp only [ByteArray.size_extract, Nat.sub_zero]; rfl) | (simp only [ByteArray.size_extract, Nat.sub_zero]; done)) ?_; (with_reducible refine (psw_Flags.calls t163 t169 _ A14.out).mono ?_); rintro e w' ⟨rfl, ⟨nd, rfl⟩⟩; refine ⟨_, rfl, ?_⟩) | (go_at_call 19; (with_reducible refine (psw_Mode.calls t163 t170 _ A16.out).mono ?_); rintro e w' ⟨rfl, ⟨nd, rfl⟩⟩) | (go_at_call 19; (with_reducible refine (psw_Mode.calls a0 t171 _ A17.out).mono ?_); rintro e w' ⟨rfl, ⟨nd, rfl⟩⟩) | (go_at_call 21; (with_reducible refine (psw_Previous.calls t163 t172 _ A19.out).mono ?_); rintro e w' ⟨rfl, ⟨nd, rfl⟩⟩) | (go_at_call 21; (with_reducible refine (psw_Previous.calls a0 t173 _ A20.out).mono ?_); rintro e w' ⟨rfl, ⟨nd, rfl⟩⟩) | (go_at_call 23; (with_reducible refine (psw_Priority.calls t163 t174 _ A22.out).mono ?_); rintro e w' ⟨rfl, ⟨nd, rfl⟩⟩) | (go_at_call 23; (with_reducible refine (psw_Priority.calls a0 t175 _ A23.out).mono ?_); rintro e w' ⟨rfl, ⟨nd, rfl⟩⟩))
                  go_meet
                  case rel => exact ⟨_, (true), (by first | rfl | (simp; done) | (simp [*]; done)), H', ⟨by have := HJ5.out; first | omega | exact Nat.le_refl _⟩, ⟨by repeat (first | (with_reducible first | exact HB.out | apply below_alloc | apply pw_below_drewN | apply below_drew1) | exact HB.out)⟩⟩
              · rw [if_neg c21] at H
                have c21b0 : (t172 == t173) = false := beq_eq_false_iff_ne.mpr c21
                have c21b1 : (t172 != t173) = true := bne_iff_ne.mpr c21
                have H' := Aside0.mk H
                clear H
                go_wp2_with (first | ((with_reducible refine gate_callee (f := 25) rfl ?_); refine goesL_ (some 31) rfl rfl Try.func25 (by kernel_rfl) rfl #[.int .i64 t163] rfl (by (try simp only [List.map_toArray, List.map_cons, List.map_nil]); first | done | rfl | (simp only [List.length_drop, List.length_take]; rfl) | (simp only [ByteArray.size_extract, Nat.sub_zero]; rfl) | (simp only [ByteArray.size_extract, Nat.sub_zero]; done)) ?_; (with_reducible refine (psw_Flags.calls t163 t169 _ A14.out).mono ?_); rintro e w' ⟨rfl, ⟨nd, rfl⟩⟩; refine ⟨_, rfl, ?_⟩) | (go_at_call 19; (with_reducible refine (psw_Mode.calls t163 t170 _ A16.out).mono ?_); rintro e w' ⟨rfl, ⟨nd, rfl⟩⟩) | (go_at_call 19; (with_reducible refine (psw_Mode.calls a0 t171 _ A17.out).mono ?_); rintro e w' ⟨rfl, ⟨nd, rfl⟩⟩) | (go_at_call 21; (with_reducible refine (psw_Previous.calls t163 t172 _ A19.out).mono ?_); rintro e w' ⟨rfl, ⟨nd, rfl⟩⟩) | (go_at_call 21; (with_reducible refine (psw_Previous.calls a0 t173 _ A20.out).mono ?_); rintro e w' ⟨rfl, ⟨nd, rfl⟩⟩))
                go_meet
                case rel => exact ⟨_, (true), (by first | rfl | (simp; done) | (simp [*]; done)), H', ⟨by have := HJ5.out; first | omega | exact Nat.le_refl _⟩, ⟨by repeat (first | (with_reducible first | exact HB.out | apply below_alloc | apply pw_below_drewN | apply below_drew1) | exact HB.out)⟩⟩
            · rw [if_neg c18] at H
              have c18b0 : (t170 == t171) = false := beq_eq_false_iff_ne.mpr c18
              have c18b1 : (t170 != t171) = true := bne_iff_ne.mpr c18
              have H' := Aside0.mk H
              clear H
              go_wp2_with (first | ((with_reducible refine gate_callee (f := 25) rfl ?_); refine goesL_ (some 31) rfl rfl Try.func25 (by kernel_rfl) rfl #[.int .i64 t163] rfl (by (try simp only [List.map_toArray, List.map_cons, List.map_nil]); first | done | rfl | (simp only [List.length_drop, List.length_take]; rfl) | (simp only [ByteArray.size_extract, Nat.sub_zero]; rfl) | (simp only [ByteArray.size_extract, Nat.sub_zero]; done)) ?_; (with_reducible refine (psw_Flags.calls t163 t169 _ A14.out).mono ?_); rintro e w' ⟨rfl, ⟨nd, rfl⟩⟩; refine ⟨_, rfl, ?_⟩) | (go_at_call 19; (with_reducible refine (psw_Mode.calls t163 t170 _ A16.out).mono ?_); rintro e w' ⟨rfl, ⟨nd, rfl⟩⟩) | (go_at_call 19; (with_reducible refine (psw_Mode.calls a0 t171 _ A17.out).mono ?_); rintro e w' ⟨rfl, ⟨nd, rfl⟩⟩))
              go_meet
              case rel => exact ⟨_, (true), (by first | rfl | (simp; done) | (simp [*]; done)), H', ⟨by have := HJ5.out; first | omega | exact Nat.le_refl _⟩, ⟨by repeat (first | (with_reducible first | exact HB.out | apply below_alloc | apply pw_below_drewN | apply below_drew1) | exact HB.out)⟩⟩
          · rw [if_neg c15] at H
            have c15b0 : (t169 == (Go.bits .and .i64 a1 15)) = false := beq_eq_false_iff_ne.mpr c15
            have c15b1 : (t169 != (Go.bits .and .i64 a1 15)) = true := bne_iff_ne.mpr c15
            (first | rw [c15b0] | (simp only [i64_w, i32_w]; rw [c15b0]) | skip)
            have H' := Aside0.mk H
            clear H
            go_wp2_with (first | ((with_reducible refine gate_callee (f := 25) rfl ?_); refine goesL_ (some 31) rfl rfl Try.func25 (by kernel_rfl) rfl #[.int .i64 t163] rfl (by (try simp only [List.map_toArray, List.map_cons, List.map_nil]); first | done | rfl | (simp only [List.length_drop, List.length_take]; rfl) | (simp only [ByteArray.size_extract, Nat.sub_zero]; rfl) | (simp only [ByteArray.size_extract, Nat.sub_zero]; done)) ?_; (with_reducible refine (psw_Flags.calls t163 t169 _ A14.out).mono ?_); rintro e w' ⟨rfl, ⟨nd, rfl⟩⟩; refine ⟨_, rfl, ?_⟩))
            go_meet
            case rel => exact ⟨_, (true), (by first | rfl | (simp; done) | (simp [*]; done)), H', ⟨by have := HJ5.out; first | omega | exact Nat.le_refl _⟩, ⟨by repeat (first | (with_reducible first | exact HB.out | apply below_alloc | apply pw_below_drewN | apply below_drew1) | exact HB.out)⟩⟩
        case rest =>
          clear HC13
          try clear c1
          try clear c2
          try clear p2
          try clear c7
          try clear c8
          try clear c10
          try clear c12
          try clear c15
          try clear c15b0
          try clear c15b1
          try clear c17
          try clear c18
          try clear c18b0
          try clear c18b1
          try clear c21
          try clear c21b0
          try clear c21b1
          try clear c24
          try clear c24b0
          try clear c24b1
          try clear c25
          try clear p2
          obtain ⟨kq, x62_12, rfl, HA, HJ12, HB⟩ := hcut
          cases kq with
          | zero => exact absurd HA.out (by simp [emulatorlaw04_PswKeeps.j1])
          | succ kj12 =>
            have H := HA.out
            clear HA
            simp only [emulatorlaw04_PswKeeps.j1] at H
            by_cases c27 : x62_12 = true
            · subst c27
              have H1 : (some false) = some r := by rw [if_pos rfl] at H; exact H
              clear H
              have H := H1
              clear H1
              obtain rfl := Option.some.inj H
              go_wp2
              go_ret
              exact ⟨by first | rfl | (simp [errW_none, errW_some] <;> rfl) | (simp [*, errW_none, errW_some] <;> rfl), by repeat (first | (with_reducible first | exact HB.out | apply below_alloc | apply pw_below_drewN | apply below_drew1) | exact HB.out)⟩
            · replace c27 := Bool.eq_false_iff.mpr c27
              subst c27
              have H1 : ((psw_Previous.f t164).bind fun t178 => ((psw_Mode.f a0).bind fun t179 => (if t178 = t179 then ((psw_Mode.f t164).bind fun t180 => ((psw_Mode.f a1).bind fun t181 => (if t180 = t181 then ((psw_Priority.f t164).bind fun t182 => ((psw_Priority.f a1).bind fun t183 => (if t182 = t183 then ((psw_Flags.f t164).bind fun t184 => ((psw_Flags.f a1).bind fun t185 => (if t184 = t185 then ((psw_Trace.f t164).bind fun t186 => ((psw_Trace.f a1).bind fun t187 => (emulatorlaw04_PswKeeps.j2 kj12 a0 a1 t165 (t186 != t187)))) else (emulatorlaw04_PswKeeps.j2 kj12 a0 a1 t165 true)))) else (emulatorlaw04_PswKeeps.j2 kj12 a0 a1 t165 true)))) else (emulatorlaw04_PswKeeps.j2 kj12 a0 a1 t165 true)))) else (emulatorlaw04_PswKeeps.j2 kj12 a0 a1 t165 true)))) = some r := by rw [if_neg (show ¬ (false = true) by decide)] at H; exact H
              clear H
              have H := H1
              clear H1
              have HC28 := Aside0.mk H
              clear H
              go_upto_region 6 with (fail)
              go_cut [95] (fun v95 wc => ∃ (kq : Nat) (x95_27 : Bool), v95 = .bool x95_27 ∧ Aside0 (emulatorlaw04_PswKeeps.j2 kq a0 a1 t165 x95_27 = some r) ∧ Aside0 (kq ≤ kj12) ∧ Aside0 (Below w.heap.size w wc))
              case first =>
                have H := HC28.out
                clear HC28
                replace H := Option.bind_eq_some_iff.mp H
                obtain ⟨t178, A290, H⟩ := H
                replace H : ((psw_Mode.f a0).bind fun t179 => (if t178 = t179 then ((psw_Mode.f t164).bind fun t180 => ((psw_Mode.f a1).bind fun t181 => (if t180 = t181 then ((psw_Priority.f t164).bind fun t182 => ((psw_Priority.f a1).bind fun t183 => (if t182 = t183 then ((psw_Flags.f t164).bind fun t184 => ((psw_Flags.f a1).bind fun t185 => (if t184 = t185 then ((psw_Trace.f t164).bind fun t186 => ((psw_Trace.f a1).bind fun t187 => (emulatorlaw04_PswKeeps.j2 kj12 a0 a1 t165 (t186 != t187)))) else (emulatorlaw04_PswKeeps.j2 kj12 a0 a1 t165 true)))) else (emulatorlaw04_PswKeeps.j2 kj12 a0 a1 t165 true)))) else (emulatorlaw04_PswKeeps.j2 kj12 a0 a1 t165 true)))) else (emulatorlaw04_PswKeeps.j2 kj12 a0 a1 t165 true))) = some r := H
                have A29 := Aside0.mk A290
                clear A290
                replace H := Option.bind_eq_some_iff.mp H
                obtain ⟨t179, A300, H⟩ := H
                replace H : (if t178 = t179 then ((psw_Mode.f t164).bind fun t180 => ((psw_Mode.f a1).bind fun t181 => (if t180 = t181 then ((psw_Priority.f t164).bind fun t182 => ((psw_Priority.f a1).bind fun t183 => (if t182 = t183 then ((psw_Flags.f t164).bind fun t184 => ((psw_Flags.f a1).bind fun t185 => (if t184 = t185 then ((psw_Trace.f t164).bind fun t186 => ((psw_Trace.f a1).bind fun t187 => (emulatorlaw04_PswKeeps.j2 kj12 a0 a1 t165 (t186 != t187)))) else (emulatorlaw04_PswKeeps.j2 kj12 a0 a1 t165 true)))) else (emulatorlaw04_PswKeeps.j2 kj12 a0 a1 t165 true)))) else (emulatorlaw04_PswKeeps.j2 kj12 a0 a1 t165 true)))) else (emulatorlaw04_PswKeeps.j2 kj12 a0 a1 t165 true)) = some r := H
                have A30 := Aside0.mk A300
                clear A300
                by_cases c31 : t178 = t179
                · rw [if_pos c31] at H
                  have c31b0 : (t178 == t179) = true := beq_iff_eq.mpr c31
                  have c31b1 : (t178 != t179) = false := bne_eq_false_iff_eq.mpr c31
                  clear c31
                  (first | rw [c31b0] | (simp only [i64_w, i32_w]; rw [c31b0]) | skip)
                  replace H := Option.bind_eq_some_iff.mp H
                  obtain ⟨t180, A320, H⟩ := H
                  replace H : ((psw_Mode.f a1).bind fun t181 => (if t180 = t181 then ((psw_Priority.f t164).bind fun t182 => ((psw_Priority.f a1).bind fun t183 => (if t182 = t183 then ((psw_Flags.f t164).bind fun t184 => ((psw_Flags.f a1).bind fun t185 => (if t184 = t185 then ((psw_Trace.f t164).bind fun t186 => ((psw_Trace.f a1).bind fun t187 => (emulatorlaw04_PswKeeps.j2 kj12 a0 a1 t165 (t186 != t187)))) else (emulatorlaw04_PswKeeps.j2 kj12 a0 a1 t165 true)))) else (emulatorlaw04_PswKeeps.j2 kj12 a0 a1 t165 true)))) else (emulatorlaw04_PswKeeps.j2 kj12 a0 a1 t165 true))) = some r := H
                  have A32 := Aside0.mk A320
                  clear A320
                  replace H := Option.bind_eq_some_iff.mp H
                  obtain ⟨t181, A330, H⟩ := H
                  replace H : (if t180 = t181 then ((psw_Priority.f t164).bind fun t182 => ((psw_Priority.f a1).bind fun t183 => (if t182 = t183 then ((psw_Flags.f t164).bind fun t184 => ((psw_Flags.f a1).bind fun t185 => (if t184 = t185 then ((psw_Trace.f t164).bind fun t186 => ((psw_Trace.f a1).bind fun t187 => (emulatorlaw04_PswKeeps.j2 kj12 a0 a1 t165 (t186 != t187)))) else (emulatorlaw04_PswKeeps.j2 kj12 a0 a1 t165 true)))) else (emulatorlaw04_PswKeeps.j2 kj12 a0 a1 t165 true)))) else (emulatorlaw04_PswKeeps.j2 kj12 a0 a1 t165 true)) = some r := H
                  have A33 := Aside0.mk A330
                  clear A330
                  by_cases c34 : t180 = t181
                  · rw [if_pos c34] at H
                    have c34b0 : (t180 == t181) = true := beq_iff_eq.mpr c34
                    have c34b1 : (t180 != t181) = false := bne_eq_false_iff_eq.mpr c34
                    clear c34
                    replace H := Option.bind_eq_some_iff.mp H
                    obtain ⟨t182, A350, H⟩ := H
                    replace H : ((psw_Priority.f a1).bind fun t183 => (if t182 = t183 then ((psw_Flags.f t164).bind fun t184 => ((psw_Flags.f a1).bind fun t185 => (if t184 = t185 then ((psw_Trace.f t164).bind fun t186 => ((psw_Trace.f a1).bind fun t187 => (emulatorlaw04_PswKeeps.j2 kj12 a0 a1 t165 (t186 != t187)))) else (emulatorlaw04_PswKeeps.j2 kj12 a0 a1 t165 true)))) else (emulatorlaw04_PswKeeps.j2 kj12 a0 a1 t165 true))) = some r := H
                    have A35 := Aside0.mk A350
                    clear A350
                    replace H := Option.bind_eq_some_iff.mp H
                    obtain ⟨t183, A360, H⟩ := H
                    replace H : (if t182 = t183 then ((psw_Flags.f t164).bind fun t184 => ((psw_Flags.f a1).bind fun t185 => (if t184 = t185 then ((psw_Trace.f t164).bind fun t186 => ((psw_Trace.f a1).bind fun t187 => (emulatorlaw04_PswKeeps.j2 kj12 a0 a1 t165 (t186 != t187)))) else (emulatorlaw04_PswKeeps.j2 kj12 a0 a1 t165 true)))) else (emulatorlaw04_PswKeeps.j2 kj12 a0 a1 t165 true)) = some r := H
                    have A36 := Aside0.mk A360
                    clear A360
                    by_cases c37 : t182 = t183
                    · rw [if_pos c37] at H
                      have c37b0 : (t182 == t183) = true := beq_iff_eq.mpr c37
                      have c37b1 : (t182 != t183) = false := bne_eq_false_iff_eq.mpr c37
                      clear c37
                      replace H := Option.bind_eq_some_iff.mp H
                      obtain ⟨t184, A380, H⟩ := H
                      replace H : ((psw_Flags.f a1).bind fun t185 => (if t184 = t185 then ((psw_Trace.f t164).bind fun t186 => ((psw_Trace.f a1).bind fun t187 => (emulatorlaw04_PswKeeps.j2 kj12 a0 a1 t165 (t186 != t187)))) else (emulatorlaw04_PswKeeps.j2 kj12 a0 a1 t165 true))) = some r := H
                      have A38 := Aside0.mk A380
                      clear A380
                      replace H := Option.bind_eq_some_iff.mp H
                      obtain ⟨t185, A390, H⟩ := H
                      replace H : (if t184 = t185 then ((psw_Trace.f t164).bind fun t186 => ((psw_Trace.f a1).bind fun t187 => (emulatorlaw04_PswKeeps.j2 kj12 a0 a1 t165 (t186 != t187)))) else (emulatorlaw04_PswKeeps.j2 kj12 a0 a1 t165 true)) = some r := H
                      have A39 := Aside0.mk A390
                      clear A390
                      by_cases c40 : t184 = t185
                      · rw [if_pos c40] at H
                        have c40b0 : (t184 == t185) = true := beq_iff_eq.mpr c40
                        have c40b1 : (t184 != t185) = false := bne_eq_false_iff_eq.mpr c40
                        clear c40
                        replace H := Option.bind_eq_some_iff.mp H
                        obtain ⟨t186, A410, H⟩ := H
                        replace H : ((psw_Trace.f a1).bind fun t187 => (emulatorlaw04_PswKeeps.j2 kj12 a0 a1 t165 (t186 != t187))) = some r := H
                        have A41 := Aside0.mk A410
                        clear A410
                        replace H := Option.bind_eq_some_iff.mp H
                        obtain ⟨t187, A420, H⟩ := H
                        replace H : (emulatorlaw04_PswKeeps.j2 kj12 a0 a1 t165 (t186 != t187)) = some r := H
                        have A42 := Aside0.mk A420
                        clear A420
                        have H' := Aside0.mk H
                        clear H
                        go_wp2_with (first | ((with_reducible refine gate_callee (f := 21) rfl ?_); refine goesL_ (some 64) rfl rfl Try.func21 (by kernel_rfl) rfl #[.int .i64 t164] rfl (by (try simp only [List.map_toArray, List.map_cons, List.map_nil]); first | done | rfl | (simp only [List.length_drop, List.length_take]; rfl) | (simp only [ByteArray.size_extract, Nat.sub_zero]; rfl) | (simp only [ByteArray.size_extract, Nat.sub_zero]; done)) ?_; (with_reducible refine (psw_Previous.calls t164 t178 _ A29.out).mono ?_); rintro e w' ⟨rfl, ⟨nd, rfl⟩⟩; refine ⟨_, rfl, ?_⟩) | ((with_reducible refine gate_callee (f := 19) rfl ?_); refine goesL_ (some 66) rfl rfl Try.func19 (by kernel_rfl) rfl #[.int .i64 a0] rfl (by (try simp only [List.map_toArray, List.map_cons, List.map_nil]); first | done | rfl | (simp only [List.length_drop, List.length_take]; rfl) | (simp only [ByteArray.size_extract, Nat.sub_zero]; rfl) | (simp only [ByteArray.size_extract, Nat.sub_zero]; done)) ?_; (with_reducible refine (psw_Mode.calls a0 t179 _ A30.out).mono ?_); rintro e w' ⟨rfl, ⟨nd, rfl⟩⟩; refine ⟨_, rfl, ?_⟩) | (go_at_call 19; (with_reducible refine (psw_Mode.calls t164 t180 _ A32.out).mono ?_); rintro e w' ⟨rfl, ⟨nd, rfl⟩⟩) | (go_at_call 19; (with_reducible refine (psw_Mode.calls a1 t181 _ A33.out).mono ?_); rintro e w' ⟨rfl, ⟨nd, rfl⟩⟩) | (go_at_call 23; (with_reducible refine (psw_Priority.calls t164 t182 _ A35.out).mono ?_); rintro e w' ⟨rfl, ⟨nd, rfl⟩⟩) | (go_at_call 23; (with_reducible refine (psw_Priority.calls a1 t183 _ A36.out).mono ?_); rintro e w' ⟨rfl, ⟨nd, rfl⟩⟩) | (go_at_call 25; (with_reducible refine (psw_Flags.calls t164 t184 _ A38.out).mono ?_); rintro e w' ⟨rfl, ⟨nd, rfl⟩⟩) | (go_at_call 25; (with_reducible refine (psw_Flags.calls a1 t185 _ A39.out).mono ?_); rintro e w' ⟨rfl, ⟨nd, rfl⟩⟩) | (go_at_call 27; (with_reducible refine (psw_Trace.calls t164 t186 _ A41.out).mono ?_); rintro e w' ⟨rfl, ⟨nd, rfl⟩⟩) | (go_at_call 27; (with_reducible refine (psw_Trace.calls a1 t187 _ A42.out).mono ?_); rintro e w' ⟨rfl, ⟨nd, rfl⟩⟩))
                        go_meet
                        case rel => exact ⟨_, ((t186 != t187)), (by first | rfl | (simp; done) | (simp [*]; done)), H', ⟨by have := HJ5.out; have := HJ12.out; first | omega | exact Nat.le_refl _⟩, ⟨by repeat (first | (with_reducible first | exact HB.out | apply below_alloc | apply pw_below_drewN | apply below_drew1) | exact HB.out)⟩⟩
                      · rw [if_neg c40] at H
                        have c40b0 : (t184 == t185) = false := beq_eq_false_iff_ne.mpr c40
                        have c40b1 : (t184 != t185) = true := bne_iff_ne.mpr c40
                        have H' := Aside0.mk H
                        clear H
                        go_wp2_with (first | ((with_reducible refine gate_callee (f := 21) rfl ?_); refine goesL_ (some 64) rfl rfl Try.func21 (by kernel_rfl) rfl #[.int .i64 t164] rfl (by (try simp only [List.map_toArray, List.map_cons, List.map_nil]); first | done | rfl | (simp only [List.length_drop, List.length_take]; rfl) | (simp only [ByteArray.size_extract, Nat.sub_zero]; rfl) | (simp only [ByteArray.size_extract, Nat.sub_zero]; done)) ?_; (with_reducible refine (psw_Previous.calls t164 t178 _ A29.out).mono ?_); rintro e w' ⟨rfl, ⟨nd, rfl⟩⟩; refine ⟨_, rfl, ?_⟩) | ((with_reducible refine gate_callee (f := 19) rfl ?_); refine goesL_ (some 66) rfl rfl Try.func19 (by kernel_rfl) rfl #[.int .i64 a0] rfl (by (try simp only [List.map_toArray, List.map_cons, List.map_nil]); first | done | rfl | (simp only [List.length_drop, List.length_take]; rfl) | (simp only [ByteArray.size_extract, Nat.sub_zero]; rfl) | (simp only [ByteArray.size_extract, Nat.sub_zero]; done)) ?_; (with_reducible refine (psw_Mode.calls a0 t179 _ A30.out).mono ?_); rintro e w' ⟨rfl, ⟨nd, rfl⟩⟩; refine ⟨_, rfl, ?_⟩) | (go_at_call 19; (with_reducible refine (psw_Mode.calls t164 t180 _ A32.out).mono ?_); rintro e w' ⟨rfl, ⟨nd, rfl⟩⟩) | (go_at_call 19; (with_reducible refine (psw_Mode.calls a1 t181 _ A33.out).mono ?_); rintro e w' ⟨rfl, ⟨nd, rfl⟩⟩) | (go_at_call 23; (with_reducible refine (psw_Priority.calls t164 t182 _ A35.out).mono ?_); rintro e w' ⟨rfl, ⟨nd, rfl⟩⟩) | (go_at_call 23; (with_reducible refine (psw_Priority.calls a1 t183 _ A36.out).mono ?_); rintro e w' ⟨rfl, ⟨nd, rfl⟩⟩) | (go_at_call 25; (with_reducible refine (psw_Flags.calls t164 t184 _ A38.out).mono ?_); rintro e w' ⟨rfl, ⟨nd, rfl⟩⟩) | (go_at_call 25; (with_reducible refine (psw_Flags.calls a1 t185 _ A39.out).mono ?_); rintro e w' ⟨rfl, ⟨nd, rfl⟩⟩))
                        go_meet
                        case rel => exact ⟨_, (true), (by first | rfl | (simp; done) | (simp [*]; done)), H', ⟨by have := HJ5.out; have := HJ12.out; first | omega | exact Nat.le_refl _⟩, ⟨by repeat (first | (with_reducible first | exact HB.out | apply below_alloc | apply pw_below_drewN | apply below_drew1) | exact HB.out)⟩⟩
                    · rw [if_neg c37] at H
                      have c37b0 : (t182 == t183) = false := beq_eq_false_iff_ne.mpr c37
                      have c37b1 : (t182 != t183) = true := bne_iff_ne.mpr c37
                      have H' := Aside0.mk H
                      clear H
                      go_wp2_with (first | ((with_reducible refine gate_callee (f := 21) rfl ?_); refine goesL_ (some 64) rfl rfl Try.func21 (by kernel_rfl) rfl #[.int .i64 t164] rfl (by (try simp only [List.map_toArray, List.map_cons, List.map_nil]); first | done | rfl | (simp only [List.length_drop, List.length_take]; rfl) | (simp only [ByteArray.size_extract, Nat.sub_zero]; rfl) | (simp only [ByteArray.size_extract, Nat.sub_zero]; done)) ?_; (with_reducible refine (psw_Previous.calls t164 t178 _ A29.out).mono ?_); rintro e w' ⟨rfl, ⟨nd, rfl⟩⟩; refine ⟨_, rfl, ?_⟩) | ((with_reducible refine gate_callee (f := 19) rfl ?_); refine goesL_ (some 66) rfl rfl Try.func19 (by kernel_rfl) rfl #[.int .i64 a0] rfl (by (try simp only [List.map_toArray, List.map_cons, List.map_nil]); first | done | rfl | (simp only [List.length_drop, List.length_take]; rfl) | (simp only [ByteArray.size_extract, Nat.sub_zero]; rfl) | (simp only [ByteArray.size_extract, Nat.sub_zero]; done)) ?_; (with_reducible refine (psw_Mode.calls a0 t179 _ A30.out).mono ?_); rintro e w' ⟨rfl, ⟨nd, rfl⟩⟩; refine ⟨_, rfl, ?_⟩) | (go_at_call 19; (with_reducible refine (psw_Mode.calls t164 t180 _ A32.out).mono ?_); rintro e w' ⟨rfl, ⟨nd, rfl⟩⟩) | (go_at_call 19; (with_reducible refine (psw_Mode.calls a1 t181 _ A33.out).mono ?_); rintro e w' ⟨rfl, ⟨nd, rfl⟩⟩) | (go_at_call 23; (with_reducible refine (psw_Priority.calls t164 t182 _ A35.out).mono ?_); rintro e w' ⟨rfl, ⟨nd, rfl⟩⟩) | (go_at_call 23; (with_reducible refine (psw_Priority.calls a1 t183 _ A36.out).mono ?_); rintro e w' ⟨rfl, ⟨nd, rfl⟩⟩))
                      go_meet
                      case rel => exact ⟨_, (true), (by first | rfl | (simp; done) | (simp [*]; done)), H', ⟨by have := HJ5.out; have := HJ12.out; first | omega | exact Nat.le_refl _⟩, ⟨by repeat (first | (with_reducible first | exact HB.out | apply below_alloc | apply pw_below_drewN | apply below_drew1) | exact HB.out)⟩⟩
                  · rw [if_neg c34] at H
                    have c34b0 : (t180 == t181) = false := beq_eq_false_iff_ne.mpr c34
                    have c34b1 : (t180 != t181) = true := bne_iff_ne.mpr c34
                    have H' := Aside0.mk H
                    clear H
                    go_wp2_with (first | ((with_reducible refine gate_callee (f := 21) rfl ?_); refine goesL_ (some 64) rfl rfl Try.func21 (by kernel_rfl) rfl #[.int .i64 t164] rfl (by (try simp only [List.map_toArray, List.map_cons, List.map_nil]); first | done | rfl | (simp only [List.length_drop, List.length_take]; rfl) | (simp only [ByteArray.size_extract, Nat.sub_zero]; rfl) | (simp only [ByteArray.size_extract, Nat.sub_zero]; done)) ?_; (with_reducible refine (psw_Previous.calls t164 t178 _ A29.out).mono ?_); rintro e w' ⟨rfl, ⟨nd, rfl⟩⟩; refine ⟨_, rfl, ?_⟩) | ((with_reducible refine gate_callee (f := 19) rfl ?_); refine goesL_ (some 66) rfl rfl Try.func19 (by kernel_rfl) rfl #[.int .i64 a0] rfl (by (try simp only [List.map_toArray, List.map_cons, List.map_nil]); first | done | rfl | (simp only [List.length_drop, List.length_take]; rfl) | (simp only [ByteArray.size_extract, Nat.sub_zero]; rfl) | (simp only [ByteArray.size_extract, Nat.sub_zero]; done)) ?_; (with_reducible refine (psw_Mode.calls a0 t179 _ A30.out).mono ?_); rintro e w' ⟨rfl, ⟨nd, rfl⟩⟩; refine ⟨_, rfl, ?_⟩) | (go_at_call 19; (with_reducible refine (psw_Mode.calls t164 t180 _ A32.out).mono ?_); rintro e w' ⟨rfl, ⟨nd, rfl⟩⟩) | (go_at_call 19; (with_reducible refine (psw_Mode.calls a1 t181 _ A33.out).mono ?_); rintro e w' ⟨rfl, ⟨nd, rfl⟩⟩))
                    go_meet
                    case rel => exact ⟨_, (true), (by first | rfl | (simp; done) | (simp [*]; done)), H', ⟨by have := HJ5.out; have := HJ12.out; first | omega | exact Nat.le_refl _⟩, ⟨by repeat (first | (with_reducible first | exact HB.out | apply below_alloc | apply pw_below_drewN | apply below_drew1) | exact HB.out)⟩⟩
                · rw [if_neg c31] at H
                  have c31b0 : (t178 == t179) = false := beq_eq_false_iff_ne.mpr c31
                  have c31b1 : (t178 != t179) = true := bne_iff_ne.mpr c31
                  (first | rw [c31b0] | (simp only [i64_w, i32_w]; rw [c31b0]) | skip)
                  have H' := Aside0.mk H
                  clear H
                  go_wp2_with (first | ((with_reducible refine gate_callee (f := 21) rfl ?_); refine goesL_ (some 64) rfl rfl Try.func21 (by kernel_rfl) rfl #[.int .i64 t164] rfl (by (try simp only [List.map_toArray, List.map_cons, List.map_nil]); first | done | rfl | (simp only [List.length_drop, List.length_take]; rfl) | (simp only [ByteArray.size_extract, Nat.sub_zero]; rfl) | (simp only [ByteArray.size_extract, Nat.sub_zero]; done)) ?_; (with_reducible refine (psw_Previous.calls t164 t178 _ A29.out).mono ?_); rintro e w' ⟨rfl, ⟨nd, rfl⟩⟩; refine ⟨_, rfl, ?_⟩) | ((with_reducible refine gate_callee (f := 19) rfl ?_); refine goesL_ (some 66) rfl rfl Try.func19 (by kernel_rfl) rfl #[.int .i64 a0] rfl (by (try simp only [List.map_toArray, List.map_cons, List.map_nil]); first | done | rfl | (simp only [List.length_drop, List.length_take]; rfl) | (simp only [ByteArray.size_extract, Nat.sub_zero]; rfl) | (simp only [ByteArray.size_extract, Nat.sub_zero]; done)) ?_; (with_reducible refine (psw_Mode.calls a0 t179 _ A30.out).mono ?_); rintro e w' ⟨rfl, ⟨nd, rfl⟩⟩; refine ⟨_, rfl, ?_⟩))
                  go_meet
                  case rel => exact ⟨_, (true), (by first | rfl | (simp; done) | (simp [*]; done)), H', ⟨by have := HJ5.out; have := HJ12.out; first | omega | exact Nat.le_refl _⟩, ⟨by repeat (first | (with_reducible first | exact HB.out | apply below_alloc | apply pw_below_drewN | apply below_drew1) | exact HB.out)⟩⟩
              case rest =>
                clear HC28
                try clear c1
                try clear c2
                try clear p2
                try clear c3
                try clear c4
                try clear c7
                try clear c8
                try clear c10
                try clear c12
                try clear c15
                try clear c15b0
                try clear c15b1
                try clear c17
                try clear c18
                try clear c18b0
                try clear c18b1
                try clear c19
                try clear c21
                try clear c21b0
                try clear c21b1
                try clear c24
                try clear c24b0
                try clear c24b1
                try clear c25
                try clear c27
                try clear c31
                try clear c31b0
                try clear c31b1
                try clear c34
                try clear c34b0
                try clear c34b1
                try clear c37
                try clear c37b0
                try clear c37b1
                try clear c40
                try clear c40b0
                try clear c40b1
                try clear p2
                obtain ⟨kq, x95_27, rfl, HA, HJ27, HB⟩ := hcut
                cases kq with
                | zero => exact absurd HA.out (by simp [emulatorlaw04_PswKeeps.j2])
                | succ kj27 =>
                  have H := HA.out
                  clear HA
                  simp only [emulatorlaw04_PswKeeps.j2] at H
                  by_cases c43 : x95_27 = true
                  · subst c43
                    have H1 : (some false) = some r := by rw [if_pos rfl] at H; exact H
                    clear H
                    have H := H1
                    clear H1
                    obtain rfl := Option.some.inj H
                    go_wp2
                    go_ret
                    exact ⟨by first | rfl | (simp [errW_none, errW_some] <;> rfl) | (simp [*, errW_none, errW_some] <;> rfl), by repeat (first | (with_reducible first | exact HB.out | apply below_alloc | apply pw_below_drewN | apply below_drew1) | exact HB.out)⟩
                  · replace c43 := Bool.eq_false_iff.mpr c43
                    subst c43
                    have H1 : ((psw_Flags.f t165).bind fun t188 => ((psw_Flags.f a1).bind fun t189 => (if t188 = t189 then ((psw_Trace.f t165).bind fun t190 => ((psw_Trace.f a1).bind fun t191 => (emulatorlaw04_PswKeeps.j3 kj27 a0 a1 t165 (t190 != t191)))) else (emulatorlaw04_PswKeeps.j3 kj27 a0 a1 t165 true)))) = some r := by rw [if_neg (show ¬ (false = true) by decide)] at H; exact H
                    clear H
                    have H := H1
                    clear H1
                    have HC44 := Aside0.mk H
                    clear H
                    go_upto_region 8 with (fail)
                    go_cut [107] (fun v107 wc => ∃ (kq : Nat) (x107_43 : Bool), v107 = .bool x107_43 ∧ Aside0 (emulatorlaw04_PswKeeps.j3 kq a0 a1 t165 x107_43 = some r) ∧ Aside0 (kq ≤ kj27) ∧ Aside0 (Below w.heap.size w wc))
                    case first =>
                      have H := HC44.out
                      clear HC44
                      replace H := Option.bind_eq_some_iff.mp H
                      obtain ⟨t188, A450, H⟩ := H
                      replace H : ((psw_Flags.f a1).bind fun t189 => (if t188 = t189 then ((psw_Trace.f t165).bind fun t190 => ((psw_Trace.f a1).bind fun t191 => (emulatorlaw04_PswKeeps.j3 kj27 a0 a1 t165 (t190 != t191)))) else (emulatorlaw04_PswKeeps.j3 kj27 a0 a1 t165 true))) = some r := H
                      have A45 := Aside0.mk A450
                      clear A450
                      replace H := Option.bind_eq_some_iff.mp H
                      obtain ⟨t189, A460, H⟩ := H
                      replace H : (if t188 = t189 then ((psw_Trace.f t165).bind fun t190 => ((psw_Trace.f a1).bind fun t191 => (emulatorlaw04_PswKeeps.j3 kj27 a0 a1 t165 (t190 != t191)))) else (emulatorlaw04_PswKeeps.j3 kj27 a0 a1 t165 true)) = some r := H
                      have A46 := Aside0.mk A460
                      clear A460
                      by_cases c47 : t188 = t189
                      · rw [if_pos c47] at H
                        have c47b0 : (t188 == t189) = true := beq_iff_eq.mpr c47
                        have c47b1 : (t188 != t189) = false := bne_eq_false_iff_eq.mpr c47
                        clear c47
                        (first | rw [c47b0] | (simp only [i64_w, i32_w]; rw [c47b0]) | skip)
                        replace H := Option.bind_eq_some_iff.mp H
                        obtain ⟨t190, A480, H⟩ := H
                        replace H : ((psw_Trace.f a1).bind fun t191 => (emulatorlaw04_PswKeeps.j3 kj27 a0 a1 t165 (t190 != t191))) = some r := H
                        have A48 := Aside0.mk A480
                        clear A480
                        replace H := Option.bind_eq_some_iff.mp H
                        obtain ⟨t191, A490, H⟩ := H
                        replace H : (emulatorlaw04_PswKeeps.j3 kj27 a0 a1 t165 (t190 != t191)) = some r := H
                        have A49 := Aside0.mk A490
                        clear A490
                        have H' := Aside0.mk H
                        clear H
                        go_wp2_with (first | ((with_reducible refine gate_callee (f := 25) rfl ?_); refine goesL_ (some 97) rfl rfl Try.func25 (by kernel_rfl) rfl #[.int .i64 t165] rfl (by (try simp only [List.map_toArray, List.map_cons, List.map_nil]); first | done | rfl | (simp only [List.length_drop, List.length_take]; rfl) | (simp only [ByteArray.size_extract, Nat.sub_zero]; rfl) | (simp only [ByteArray.size_extract, Nat.sub_zero]; done)) ?_; (with_reducible refine (psw_Flags.calls t165 t188 _ A45.out).mono ?_); rintro e w' ⟨rfl, ⟨nd, rfl⟩⟩; refine ⟨_, rfl, ?_⟩) | ((with_reducible refine gate_callee (f := 25) rfl ?_); refine goesL_ (some 99) rfl rfl Try.func25 (by kernel_rfl) rfl #[.int .i64 a1] rfl (by (try simp only [List.map_toArray, List.map_cons, List.map_nil]); first | done | rfl | (simp only [List.length_drop, List.length_take]; rfl) | (simp only [ByteArray.size_extract, Nat.sub_zero]; rfl) | (simp only [ByteArray.size_extract, Nat.sub_zero]; done)) ?_; (with_reducible refine (psw_Flags.calls a1 t189 _ A46.out).mono ?_); rintro e w' ⟨rfl, ⟨nd, rfl⟩⟩; refine ⟨_, rfl, ?_⟩) | (go_at_call 27; (with_reducible refine (psw_Trace.calls t165 t190 _ A48.out).mono ?_); rintro e w' ⟨rfl, ⟨nd, rfl⟩⟩) | (go_at_call 27; (with_reducible refine (psw_Trace.calls a1 t191 _ A49.out).mono ?_); rintro e w' ⟨rfl, ⟨nd, rfl⟩⟩))
                        go_meet
                        case rel => exact ⟨_, ((t190 != t191)), (by first | rfl | (simp; done) | (simp [*]; done)), H', ⟨by have := HJ5.out; have := HJ12.out; have := HJ27.out; first | omega | exact Nat.le_refl _⟩, ⟨by repeat (first | (with_reducible first | exact HB.out | apply below_alloc | apply pw_below_drewN | apply below_drew1) | exact HB.out)⟩⟩
                      · rw [if_neg c47] at H
                        have c47b0 : (t188 == t189) = false := beq_eq_false_iff_ne.mpr c47
                        have c47b1 : (t188 != t189) = true := bne_iff_ne.mpr c47
                        (first | rw [c47b0] | (simp only [i64_w, i32_w]; rw [c47b0]) | skip)
                        have H' := Aside0.mk H
                        clear H
                        go_wp2_with (first | ((with_reducible refine gate_callee (f := 25) rfl ?_); refine goesL_ (some 97) rfl rfl Try.func25 (by kernel_rfl) rfl #[.int .i64 t165] rfl (by (try simp only [List.map_toArray, List.map_cons, List.map_nil]); first | done | rfl | (simp only [List.length_drop, List.length_take]; rfl) | (simp only [ByteArray.size_extract, Nat.sub_zero]; rfl) | (simp only [ByteArray.size_extract, Nat.sub_zero]; done)) ?_; (with_reducible refine (psw_Flags.calls t165 t188 _ A45.out).mono ?_); rintro e w' ⟨rfl, ⟨nd, rfl⟩⟩; refine ⟨_, rfl, ?_⟩) | ((with_reducible refine gate_callee (f := 25) rfl ?_); refine goesL_ (some 99) rfl rfl Try.func25 (by kernel_rfl) rfl #[.int .i64 a1] rfl (by (try simp only [List.map_toArray, List.map_cons, List.map_nil]); first | done | rfl | (simp only [List.length_drop, List.length_take]; rfl) | (simp only [ByteArray.size_extract, Nat.sub_zero]; rfl) | (simp only [ByteArray.size_extract, Nat.sub_zero]; done)) ?_; (with_reducible refine (psw_Flags.calls a1 t189 _ A46.out).mono ?_); rintro e w' ⟨rfl, ⟨nd, rfl⟩⟩; refine ⟨_, rfl, ?_⟩))
                        go_meet
                        case rel => exact ⟨_, (true), (by first | rfl | (simp; done) | (simp [*]; done)), H', ⟨by have := HJ5.out; have := HJ12.out; have := HJ27.out; first | omega | exact Nat.le_refl _⟩, ⟨by repeat (first | (with_reducible first | exact HB.out | apply below_alloc | apply pw_below_drewN | apply below_drew1) | exact HB.out)⟩⟩
                    case rest =>
                      clear HC44
                      try clear c1
                      try clear c2
                      try clear p2
                      try clear c3
                      try clear c4
                      try clear c7
                      try clear c8
                      try clear c10
                      try clear c12
                      try clear c15
                      try clear c15b0
                      try clear c15b1
                      try clear c17
                      try clear c18
                      try clear c18b0
                      try clear c18b1
                      try clear c19
                      try clear c21
                      try clear c21b0
                      try clear c21b1
                      try clear c24
                      try clear c24b0
                      try clear c24b1
                      try clear c25
                      try clear c27
                      try clear c31
                      try clear c31b0
                      try clear c31b1
                      try clear c34
                      try clear c34b0
                      try clear c34b1
                      try clear c37
                      try clear c37b0
                      try clear c37b1
                      try clear c40
                      try clear c40b0
                      try clear c40b1
                      try clear c43
                      try clear c47
                      try clear c47b0
                      try clear c47b1
                      try clear p2
                      obtain ⟨kq, x107_43, rfl, HA, HJ43, HB⟩ := hcut
                      cases kq with
                      | zero => exact absurd HA.out (by simp [emulatorlaw04_PswKeeps.j3])
                      | succ kj43 =>
                        have H := HA.out
                        clear HA
                        simp only [emulatorlaw04_PswKeeps.j3] at H
                        by_cases c50 : x107_43 = true
                        · subst c50
                          have H1 : (some false) = some r := by rw [if_pos rfl] at H; exact H
                          clear H
                          have H := H1
                          clear H1
                          obtain rfl := Option.some.inj H
                          go_wp2
                          go_ret
                          exact ⟨by first | rfl | (simp [errW_none, errW_some] <;> rfl) | (simp [*, errW_none, errW_some] <;> rfl), by repeat (first | (with_reducible first | exact HB.out | apply below_alloc | apply pw_below_drewN | apply below_drew1) | exact HB.out)⟩
                        · replace c50 := Bool.eq_false_iff.mpr c50
                          subst c50
                          have H1 : ((psw_Mode.f a0).bind fun t192 => (if t192 = 1 then ((psw_Mode.f t165).bind fun t193 => (if t193 = 1 then ((psw_Previous.f t165).bind fun t194 => ((psw_Previous.f a0).bind fun t195 => (if t194 = t195 then ((psw_Priority.f t165).bind fun t196 => ((psw_Priority.f a0).bind fun t197 => (if t196 = t197 then ((emulatorlaw04_alive.f kj43).bind fun t198 => (some t198)) else (some false)))) else (some false)))) else (some false))) else ((psw_Mode.f t165).bind fun t199 => ((psw_Mode.f a1).bind fun t200 => (if t199 = t200 then ((psw_Previous.f t165).bind fun t201 => ((psw_Previous.f a1).bind fun t202 => (if t201 = t202 then ((psw_Priority.f t165).bind fun t203 => ((psw_Priority.f a1).bind fun t204 => (if t203 = t204 then ((emulatorlaw04_alive.f kj43).bind fun t205 => (some t205)) else (some false)))) else (some false)))) else (some false)))))) = some r := by rw [if_neg (show ¬ (false = true) by decide)] at H; exact H
                          clear H
                          have H := H1
                          clear H1
                          replace H := Option.bind_eq_some_iff.mp H
                          obtain ⟨t192, A510, H⟩ := H
                          replace H : (if t192 = 1 then ((psw_Mode.f t165).bind fun t193 => (if t193 = 1 then ((psw_Previous.f t165).bind fun t194 => ((psw_Previous.f a0).bind fun t195 => (if t194 = t195 then ((psw_Priority.f t165).bind fun t196 => ((psw_Priority.f a0).bind fun t197 => (if t196 = t197 then ((emulatorlaw04_alive.f kj43).bind fun t198 => (some t198)) else (some false)))) else (some false)))) else (some false))) else ((psw_Mode.f t165).bind fun t199 => ((psw_Mode.f a1).bind fun t200 => (if t199 = t200 then ((psw_Previous.f t165).bind fun t201 => ((psw_Previous.f a1).bind fun t202 => (if t201 = t202 then ((psw_Priority.f t165).bind fun t203 => ((psw_Priority.f a1).bind fun t204 => (if t203 = t204 then ((emulatorlaw04_alive.f kj43).bind fun t205 => (some t205)) else (some false)))) else (some false)))) else (some false))))) = some r := H
                          have A51 := Aside0.mk A510
                          clear A510
                          by_cases c52 : t192 = 1
                          · rw [if_pos c52] at H
                            have c52b0 : (t192 == 1) = true := beq_iff_eq.mpr c52
                            have c52b1 : (t192 != 1) = false := bne_eq_false_iff_eq.mpr c52
                            clear c52
                            replace H := Option.bind_eq_some_iff.mp H
                            obtain ⟨t193, A530, H⟩ := H
                            replace H : (if t193 = 1 then ((psw_Previous.f t165).bind fun t194 => ((psw_Previous.f a0).bind fun t195 => (if t194 = t195 then ((psw_Priority.f t165).bind fun t196 => ((psw_Priority.f a0).bind fun t197 => (if t196 = t197 then ((emulatorlaw04_alive.f kj43).bind fun t198 => (some t198)) else (some false)))) else (some false)))) else (some false)) = some r := H
                            have A53 := Aside0.mk A530
                            clear A530
                            by_cases c54 : t193 = 1
                            · rw [if_pos c54] at H
                              have c54b0 : (t193 == 1) = true := beq_iff_eq.mpr c54
                              have c54b1 : (t193 != 1) = false := bne_eq_false_iff_eq.mpr c54
                              clear c54
                              replace H := Option.bind_eq_some_iff.mp H
                              obtain ⟨t194, A550, H⟩ := H
                              replace H : ((psw_Previous.f a0).bind fun t195 => (if t194 = t195 then ((psw_Priority.f t165).bind fun t196 => ((psw_Priority.f a0).bind fun t197 => (if t196 = t197 then ((emulatorlaw04_alive.f kj43).bind fun t198 => (some t198)) else (some false)))) else (some false))) = some r := H
                              have A55 := Aside0.mk A550
                              clear A550
                              replace H := Option.bind_eq_some_iff.mp H
                              obtain ⟨t195, A560, H⟩ := H
                              replace H : (if t194 = t195 then ((psw_Priority.f t165).bind fun t196 => ((psw_Priority.f a0).bind fun t197 => (if t196 = t197 then ((emulatorlaw04_alive.f kj43).bind fun t198 => (some t198)) else (some false)))) else (some false)) = some r := H
                              have A56 := Aside0.mk A560
                              clear A560
                              by_cases c57 : t194 = t195
                              · rw [if_pos c57] at H
                                have c57b0 : (t194 == t195) = true := beq_iff_eq.mpr c57
                                have c57b1 : (t194 != t195) = false := bne_eq_false_iff_eq.mpr c57
                                clear c57
                                replace H := Option.bind_eq_some_iff.mp H
                                obtain ⟨t196, A580, H⟩ := H
                                replace H : ((psw_Priority.f a0).bind fun t197 => (if t196 = t197 then ((emulatorlaw04_alive.f kj43).bind fun t198 => (some t198)) else (some false))) = some r := H
                                have A58 := Aside0.mk A580
                                clear A580
                                replace H := Option.bind_eq_some_iff.mp H
                                obtain ⟨t197, A590, H⟩ := H
                                replace H : (if t196 = t197 then ((emulatorlaw04_alive.f kj43).bind fun t198 => (some t198)) else (some false)) = some r := H
                                have A59 := Aside0.mk A590
                                clear A590
                                by_cases c60 : t196 = t197
                                · rw [if_pos c60] at H
                                  have c60b0 : (t196 == t197) = true := beq_iff_eq.mpr c60
                                  have c60b1 : (t196 != t197) = false := bne_eq_false_iff_eq.mpr c60
                                  clear c60
                                  replace H := Option.bind_eq_some_iff.mp H
                                  obtain ⟨t198, A610, H⟩ := H
                                  replace H : (some t198) = some r := H
                                  have A61 := Aside0.mk A610
                                  clear A610
                                  obtain rfl := Option.some.inj H
                                  go_wp2_with (first | ((with_reducible refine gate_callee (f := 19) rfl ?_); refine goesL_ (some 109) rfl rfl Try.func19 (by kernel_rfl) rfl #[.int .i64 a0] rfl (by (try simp only [List.map_toArray, List.map_cons, List.map_nil]); first | done | rfl | (simp only [List.length_drop, List.length_take]; rfl) | (simp only [ByteArray.size_extract, Nat.sub_zero]; rfl) | (simp only [ByteArray.size_extract, Nat.sub_zero]; done)) ?_; (with_reducible refine (psw_Mode.calls a0 t192 _ A51.out).mono ?_); rintro e w' ⟨rfl, ⟨nd, rfl⟩⟩; refine ⟨_, rfl, ?_⟩) | ((with_reducible refine gate_callee (f := 19) rfl ?_); refine goesL_ (some 112) rfl rfl Try.func19 (by kernel_rfl) rfl #[.int .i64 t165] rfl (by (try simp only [List.map_toArray, List.map_cons, List.map_nil]); first | done | rfl | (simp only [List.length_drop, List.length_take]; rfl) | (simp only [ByteArray.size_extract, Nat.sub_zero]; rfl) | (simp only [ByteArray.size_extract, Nat.sub_zero]; done)) ?_; (with_reducible refine (psw_Mode.calls t165 t193 _ A53.out).mono ?_); rintro e w' ⟨rfl, ⟨nd, rfl⟩⟩; refine ⟨_, rfl, ?_⟩) | (go_at_call 21; (with_reducible refine (psw_Previous.calls t165 t194 _ A55.out).mono ?_); rintro e w' ⟨rfl, ⟨nd, rfl⟩⟩) | (go_at_call 21; (with_reducible refine (psw_Previous.calls a0 t195 _ A56.out).mono ?_); rintro e w' ⟨rfl, ⟨nd, rfl⟩⟩) | (go_at_call 23; (with_reducible refine (psw_Priority.calls t165 t196 _ A58.out).mono ?_); rintro e w' ⟨rfl, ⟨nd, rfl⟩⟩) | (go_at_call 23; (with_reducible refine (psw_Priority.calls a0 t197 _ A59.out).mono ?_); rintro e w' ⟨rfl, ⟨nd, rfl⟩⟩) | (go_at_call 14; (with_reducible refine (emulatorlaw04_alive.calls kj43  t198 _ A61.out).mono ?_); rintro e w62 ⟨rfl, hb⟩; have n0_ := Aside0.mk (below_step (by repeat (first | (with_reducible first | exact HB.out | apply below_alloc | apply pw_below_drewN | apply below_drew1) | exact HB.out)) hb); clear HB; have HB := n0_; clear n0_; (try clear hb); (try clear hb2); (try clear hk); (try clear hi)))
                                  go_ret
                                  exact ⟨by first | rfl | (simp [errW_none, errW_some] <;> rfl) | (simp [*, errW_none, errW_some] <;> rfl), by repeat (first | (with_reducible first | exact HB.out | apply below_alloc | apply pw_below_drewN | apply below_drew1) | exact HB.out)⟩
                                · rw [if_neg c60] at H
                                  have c60b0 : (t196 == t197) = false := beq_eq_false_iff_ne.mpr c60
                                  have c60b1 : (t196 != t197) = true := bne_iff_ne.mpr c60
                                  obtain rfl := Option.some.inj H
                                  go_wp2_with (first | ((with_reducible refine gate_callee (f := 19) rfl ?_); refine goesL_ (some 109) rfl rfl Try.func19 (by kernel_rfl) rfl #[.int .i64 a0] rfl (by (try simp only [List.map_toArray, List.map_cons, List.map_nil]); first | done | rfl | (simp only [List.length_drop, List.length_take]; rfl) | (simp only [ByteArray.size_extract, Nat.sub_zero]; rfl) | (simp only [ByteArray.size_extract, Nat.sub_zero]; done)) ?_; (with_reducible refine (psw_Mode.calls a0 t192 _ A51.out).mono ?_); rintro e w' ⟨rfl, ⟨nd, rfl⟩⟩; refine ⟨_, rfl, ?_⟩) | ((with_reducible refine gate_callee (f := 19) rfl ?_); refine goesL_ (some 112) rfl rfl Try.func19 (by kernel_rfl) rfl #[.int .i64 t165] rfl (by (try simp only [List.map_toArray, List.map_cons, List.map_nil]); first | done | rfl | (simp only [List.length_drop, List.length_take]; rfl) | (simp only [ByteArray.size_extract, Nat.sub_zero]; rfl) | (simp only [ByteArray.size_extract, Nat.sub_zero]; done)) ?_; (with_reducible refine (psw_Mode.calls t165 t193 _ A53.out).mono ?_); rintro e w' ⟨rfl, ⟨nd, rfl⟩⟩; refine ⟨_, rfl, ?_⟩) | (go_at_call 21; (with_reducible refine (psw_Previous.calls t165 t194 _ A55.out).mono ?_); rintro e w' ⟨rfl, ⟨nd, rfl⟩⟩) | (go_at_call 21; (with_reducible refine (psw_Previous.calls a0 t195 _ A56.out).mono ?_); rintro e w' ⟨rfl, ⟨nd, rfl⟩⟩) | (go_at_call 23; (with_reducible refine (psw_Priority.calls t165 t196 _ A58.out).mono ?_); rintro e w' ⟨rfl, ⟨nd, rfl⟩⟩) | (go_at_call 23; (with_reducible refine (psw_Priority.calls a0 t197 _ A59.out).mono ?_); rintro e w' ⟨rfl, ⟨nd, rfl⟩⟩))
                                  go_ret
                                  exact ⟨by first | rfl | (simp [errW_none, errW_some] <;> rfl) | (simp [*, errW_none, errW_some] <;> rfl), by repeat (first | (with_reducible first | exact HB.out | apply below_alloc | apply pw_below_drewN | apply below_drew1) | exact HB.out)⟩
                              · rw [if_neg c57] at H
                                have c57b0 : (t194 == t195) = false := beq_eq_false_iff_ne.mpr c57
                                have c57b1 : (t194 != t195) = true := bne_iff_ne.mpr c57
                                obtain rfl := Option.some.inj H
                                go_wp2_with (first | ((with_reducible refine gate_callee (f := 19) rfl ?_); refine goesL_ (some 109) rfl rfl Try.func19 (by kernel_rfl) rfl #[.int .i64 a0] rfl (by (try simp only [List.map_toArray, List.map_cons, List.map_nil]); first | done | rfl | (simp only [List.length_drop, List.length_take]; rfl) | (simp only [ByteArray.size_extract, Nat.sub_zero]; rfl) | (simp only [ByteArray.size_extract, Nat.sub_zero]; done)) ?_; (with_reducible refine (psw_Mode.calls a0 t192 _ A51.out).mono ?_); rintro e w' ⟨rfl, ⟨nd, rfl⟩⟩; refine ⟨_, rfl, ?_⟩) | ((with_reducible refine gate_callee (f := 19) rfl ?_); refine goesL_ (some 112) rfl rfl Try.func19 (by kernel_rfl) rfl #[.int .i64 t165] rfl (by (try simp only [List.map_toArray, List.map_cons, List.map_nil]); first | done | rfl | (simp only [List.length_drop, List.length_take]; rfl) | (simp only [ByteArray.size_extract, Nat.sub_zero]; rfl) | (simp only [ByteArray.size_extract, Nat.sub_zero]; done)) ?_; (with_reducible refine (psw_Mode.calls t165 t193 _ A53.out).mono ?_); rintro e w' ⟨rfl, ⟨nd, rfl⟩⟩; refine ⟨_, rfl, ?_⟩) | (go_at_call 21; (with_reducible refine (psw_Previous.calls t165 t194 _ A55.out).mono ?_); rintro e w' ⟨rfl, ⟨nd, rfl⟩⟩) | (go_at_call 21; (with_reducible refine (psw_Previous.calls a0 t195 _ A56.out).mono ?_); rintro e w' ⟨rfl, ⟨nd, rfl⟩⟩))
                                go_ret
                                exact ⟨by first | rfl | (simp [errW_none, errW_some] <;> rfl) | (simp [*, errW_none, errW_some] <;> rfl), by repeat (first | (with_reducible first | exact HB.out | apply below_alloc | apply pw_below_drewN | apply below_drew1) | exact HB.out)⟩
                            · rw [if_neg c54] at H
                              have c54b0 : (t193 == 1) = false := beq_eq_false_iff_ne.mpr c54
                              have c54b1 : (t193 != 1) = true := bne_iff_ne.mpr c54
                              obtain rfl := Option.some.inj H
                              go_wp2_with (first | ((with_reducible refine gate_callee (f := 19) rfl ?_); refine goesL_ (some 109) rfl rfl Try.func19 (by kernel_rfl) rfl #[.int .i64 a0] rfl (by (try simp only [List.map_toArray, List.map_cons, List.map_nil]); first | done | rfl | (simp only [List.length_drop, List.length_take]; rfl) | (simp only [ByteArray.size_extract, Nat.sub_zero]; rfl) | (simp only [ByteArray.size_extract, Nat.sub_zero]; done)) ?_; (with_reducible refine (psw_Mode.calls a0 t192 _ A51.out).mono ?_); rintro e w' ⟨rfl, ⟨nd, rfl⟩⟩; refine ⟨_, rfl, ?_⟩) | ((with_reducible refine gate_callee (f := 19) rfl ?_); refine goesL_ (some 112) rfl rfl Try.func19 (by kernel_rfl) rfl #[.int .i64 t165] rfl (by (try simp only [List.map_toArray, List.map_cons, List.map_nil]); first | done | rfl | (simp only [List.length_drop, List.length_take]; rfl) | (simp only [ByteArray.size_extract, Nat.sub_zero]; rfl) | (simp only [ByteArray.size_extract, Nat.sub_zero]; done)) ?_; (with_reducible refine (psw_Mode.calls t165 t193 _ A53.out).mono ?_); rintro e w' ⟨rfl, ⟨nd, rfl⟩⟩; refine ⟨_, rfl, ?_⟩))
                              go_ret
                              exact ⟨by first | rfl | (simp [errW_none, errW_some] <;> rfl) | (simp [*, errW_none, errW_some] <;> rfl), by repeat (first | (with_reducible first | exact HB.out | apply below_alloc | apply pw_below_drewN | apply below_drew1) | exact HB.out)⟩
                          · rw [if_neg c52] at H
                            have c52b0 : (t192 == 1) = false := beq_eq_false_iff_ne.mpr c52
                            have c52b1 : (t192 != 1) = true := bne_iff_ne.mpr c52
                            replace H := Option.bind_eq_some_iff.mp H
                            obtain ⟨t199, A630, H⟩ := H
                            replace H : ((psw_Mode.f a1).bind fun t200 => (if t199 = t200 then ((psw_Previous.f t165).bind fun t201 => ((psw_Previous.f a1).bind fun t202 => (if t201 = t202 then ((psw_Priority.f t165).bind fun t203 => ((psw_Priority.f a1).bind fun t204 => (if t203 = t204 then ((emulatorlaw04_alive.f kj43).bind fun t205 => (some t205)) else (some false)))) else (some false)))) else (some false))) = some r := H
                            have A63 := Aside0.mk A630
                            clear A630
                            replace H := Option.bind_eq_some_iff.mp H
                            obtain ⟨t200, A640, H⟩ := H
                            replace H : (if t199 = t200 then ((psw_Previous.f t165).bind fun t201 => ((psw_Previous.f a1).bind fun t202 => (if t201 = t202 then ((psw_Priority.f t165).bind fun t203 => ((psw_Priority.f a1).bind fun t204 => (if t203 = t204 then ((emulatorlaw04_alive.f kj43).bind fun t205 => (some t205)) else (some false)))) else (some false)))) else (some false)) = some r := H
                            have A64 := Aside0.mk A640
                            clear A640
                            by_cases c65 : t199 = t200
                            · rw [if_pos c65] at H
                              have c65b0 : (t199 == t200) = true := beq_iff_eq.mpr c65
                              have c65b1 : (t199 != t200) = false := bne_eq_false_iff_eq.mpr c65
                              clear c65
                              replace H := Option.bind_eq_some_iff.mp H
                              obtain ⟨t201, A660, H⟩ := H
                              replace H : ((psw_Previous.f a1).bind fun t202 => (if t201 = t202 then ((psw_Priority.f t165).bind fun t203 => ((psw_Priority.f a1).bind fun t204 => (if t203 = t204 then ((emulatorlaw04_alive.f kj43).bind fun t205 => (some t205)) else (some false)))) else (some false))) = some r := H
                              have A66 := Aside0.mk A660
                              clear A660
                              replace H := Option.bind_eq_some_iff.mp H
                              obtain ⟨t202, A670, H⟩ := H
                              replace H : (if t201 = t202 then ((psw_Priority.f t165).bind fun t203 => ((psw_Priority.f a1).bind fun t204 => (if t203 = t204 then ((emulatorlaw04_alive.f kj43).bind fun t205 => (some t205)) else (some false)))) else (some false)) = some r := H
                              have A67 := Aside0.mk A670
                              clear A670
                              by_cases c68 : t201 = t202
                              · rw [if_pos c68] at H
                                have c68b0 : (t201 == t202) = true := beq_iff_eq.mpr c68
                                have c68b1 : (t201 != t202) = false := bne_eq_false_iff_eq.mpr c68
                                clear c68
                                replace H := Option.bind_eq_some_iff.mp H
                                obtain ⟨t203, A690, H⟩ := H
                                replace H : ((psw_Priority.f a1).bind fun t204 => (if t203 = t204 then ((emulatorlaw04_alive.f kj43).bind fun t205 => (some t205)) else (some false))) = some r := H
                                have A69 := Aside0.mk A690
                                clear A690
                                replace H := Option.bind_eq_some_iff.mp H
                                obtain ⟨t204, A700, H⟩ := H
                                replace H : (if t203 = t204 then ((emulatorlaw04_alive.f kj43).bind fun t205 => (some t205)) else (some false)) = some r := H
                                have A70 := Aside0.mk A700
                                clear A700
                                by_cases c71 : t203 = t204
                                · rw [if_pos c71] at H
                                  have c71b0 : (t203 == t204) = true := beq_iff_eq.mpr c71
                                  have c71b1 : (t203 != t204) = false := bne_eq_false_iff_eq.mpr c71
                                  clear c71
                                  replace H := Option.bind_eq_some_iff.mp H
                                  obtain ⟨t205, A720, H⟩ := H
                                  replace H : (some t205) = some r := H
                                  have A72 := Aside0.mk A720
                                  clear A720
                                  obtain rfl := Option.some.inj H
                                  go_wp2_with (first | ((with_reducible refine gate_callee (f := 19) rfl ?_); refine goesL_ (some 109) rfl rfl Try.func19 (by kernel_rfl) rfl #[.int .i64 a0] rfl (by (try simp only [List.map_toArray, List.map_cons, List.map_nil]); first | done | rfl | (simp only [List.length_drop, List.length_take]; rfl) | (simp only [ByteArray.size_extract, Nat.sub_zero]; rfl) | (simp only [ByteArray.size_extract, Nat.sub_zero]; done)) ?_; (with_reducible refine (psw_Mode.calls a0 t192 _ A51.out).mono ?_); rintro e w' ⟨rfl, ⟨nd, rfl⟩⟩; refine ⟨_, rfl, ?_⟩) | ((with_reducible refine gate_callee (f := 19) rfl ?_); refine goesL_ (some 132) rfl rfl Try.func19 (by kernel_rfl) rfl #[.int .i64 t165] rfl (by (try simp only [List.map_toArray, List.map_cons, List.map_nil]); first | done | rfl | (simp only [List.length_drop, List.length_take]; rfl) | (simp only [ByteArray.size_extract, Nat.sub_zero]; rfl) | (simp only [ByteArray.size_extract, Nat.sub_zero]; done)) ?_; (with_reducible refine (psw_Mode.calls t165 t199 _ A63.out).mono ?_); rintro e w' ⟨rfl, ⟨nd, rfl⟩⟩; refine ⟨_, rfl, ?_⟩) | ((with_reducible refine gate_callee (f := 19) rfl ?_); refine goesL_ (some 134) rfl rfl Try.func19 (by kernel_rfl) rfl #[.int .i64 a1] rfl (by (try simp only [List.map_toArray, List.map_cons, List.map_nil]); first | done | rfl | (simp only [List.length_drop, List.length_take]; rfl) | (simp only [ByteArray.size_extract, Nat.sub_zero]; rfl) | (simp only [ByteArray.size_extract, Nat.sub_zero]; done)) ?_; (with_reducible refine (psw_Mode.calls a1 t200 _ A64.out).mono ?_); rintro e w' ⟨rfl, ⟨nd, rfl⟩⟩; refine ⟨_, rfl, ?_⟩) | (go_at_call 21; (with_reducible refine (psw_Previous.calls t165 t201 _ A66.out).mono ?_); rintro e w' ⟨rfl, ⟨nd, rfl⟩⟩) | (go_at_call 21; (with_reducible refine (psw_Previous.calls a1 t202 _ A67.out).mono ?_); rintro e w' ⟨rfl, ⟨nd, rfl⟩⟩) | (go_at_call 23; (with_reducible refine (psw_Priority.calls t165 t203 _ A69.out).mono ?_); rintro e w' ⟨rfl, ⟨nd, rfl⟩⟩) | (go_at_call 23; (with_reducible refine (psw_Priority.calls a1 t204 _ A70.out).mono ?_); rintro e w' ⟨rfl, ⟨nd, rfl⟩⟩) | (go_at_call 14; (with_reducible refine (emulatorlaw04_alive.calls kj43  t205 _ A72.out).mono ?_); rintro e w73 ⟨rfl, hb⟩; have n0_ := Aside0.mk (below_step (by repeat (first | (with_reducible first | exact HB.out | apply below_alloc | apply pw_below_drewN | apply below_drew1) | exact HB.out)) hb); clear HB; have HB := n0_; clear n0_; (try clear hb); (try clear hb2); (try clear hk); (try clear hi)))
                                  go_ret
                                  exact ⟨by first | rfl | (simp [errW_none, errW_some] <;> rfl) | (simp [*, errW_none, errW_some] <;> rfl), by repeat (first | (with_reducible first | exact HB.out | apply below_alloc | apply pw_below_drewN | apply below_drew1) | exact HB.out)⟩
                                · rw [if_neg c71] at H
                                  have c71b0 : (t203 == t204) = false := beq_eq_false_iff_ne.mpr c71
                                  have c71b1 : (t203 != t204) = true := bne_iff_ne.mpr c71
                                  obtain rfl := Option.some.inj H
                                  go_wp2_with (first | ((with_reducible refine gate_callee (f := 19) rfl ?_); refine goesL_ (some 109) rfl rfl Try.func19 (by kernel_rfl) rfl #[.int .i64 a0] rfl (by (try simp only [List.map_toArray, List.map_cons, List.map_nil]); first | done | rfl | (simp only [List.length_drop, List.length_take]; rfl) | (simp only [ByteArray.size_extract, Nat.sub_zero]; rfl) | (simp only [ByteArray.size_extract, Nat.sub_zero]; done)) ?_; (with_reducible refine (psw_Mode.calls a0 t192 _ A51.out).mono ?_); rintro e w' ⟨rfl, ⟨nd, rfl⟩⟩; refine ⟨_, rfl, ?_⟩) | ((with_reducible refine gate_callee (f := 19) rfl ?_); refine goesL_ (some 132) rfl rfl Try.func19 (by kernel_rfl) rfl #[.int .i64 t165] rfl (by (try simp only [List.map_toArray, List.map_cons, List.map_nil]); first | done | rfl | (simp only [List.length_drop, List.length_take]; rfl) | (simp only [ByteArray.size_extract, Nat.sub_zero]; rfl) | (simp only [ByteArray.size_extract, Nat.sub_zero]; done)) ?_; (with_reducible refine (psw_Mode.calls t165 t199 _ A63.out).mono ?_); rintro e w' ⟨rfl, ⟨nd, rfl⟩⟩; refine ⟨_, rfl, ?_⟩) | ((with_reducible refine gate_callee (f := 19) rfl ?_); refine goesL_ (some 134) rfl rfl Try.func19 (by kernel_rfl) rfl #[.int .i64 a1] rfl (by (try simp only [List.map_toArray, List.map_cons, List.map_nil]); first | done | rfl | (simp only [List.length_drop, List.length_take]; rfl) | (simp only [ByteArray.size_extract, Nat.sub_zero]; rfl) | (simp only [ByteArray.size_extract, Nat.sub_zero]; done)) ?_; (with_reducible refine (psw_Mode.calls a1 t200 _ A64.out).mono ?_); rintro e w' ⟨rfl, ⟨nd, rfl⟩⟩; refine ⟨_, rfl, ?_⟩) | (go_at_call 21; (with_reducible refine (psw_Previous.calls t165 t201 _ A66.out).mono ?_); rintro e w' ⟨rfl, ⟨nd, rfl⟩⟩) | (go_at_call 21; (with_reducible refine (psw_Previous.calls a1 t202 _ A67.out).mono ?_); rintro e w' ⟨rfl, ⟨nd, rfl⟩⟩) | (go_at_call 23; (with_reducible refine (psw_Priority.calls t165 t203 _ A69.out).mono ?_); rintro e w' ⟨rfl, ⟨nd, rfl⟩⟩) | (go_at_call 23; (with_reducible refine (psw_Priority.calls a1 t204 _ A70.out).mono ?_); rintro e w' ⟨rfl, ⟨nd, rfl⟩⟩))
                                  go_ret
                                  exact ⟨by first | rfl | (simp [errW_none, errW_some] <;> rfl) | (simp [*, errW_none, errW_some] <;> rfl), by repeat (first | (with_reducible first | exact HB.out | apply below_alloc | apply pw_below_drewN | apply below_drew1) | exact HB.out)⟩
                              · rw [if_neg c68] at H
                                have c68b0 : (t201 == t202) = false := beq_eq_false_iff_ne.mpr c68
                                have c68b1 : (t201 != t202) = true := bne_iff_ne.mpr c68
                                obtain rfl := Option.some.inj H
                                go_wp2_with (first | ((with_reducible refine gate_callee (f := 19) rfl ?_); refine goesL_ (some 109) rfl rfl Try.func19 (by kernel_rfl) rfl #[.int .i64 a0] rfl (by (try simp only [List.map_toArray, List.map_cons, List.map_nil]); first | done | rfl | (simp only [List.length_drop, List.length_take]; rfl) | (simp only [ByteArray.size_extract, Nat.sub_zero]; rfl) | (simp only [ByteArray.size_extract, Nat.sub_zero]; done)) ?_; (with_reducible refine (psw_Mode.calls a0 t192 _ A51.out).mono ?_); rintro e w' ⟨rfl, ⟨nd, rfl⟩⟩; refine ⟨_, rfl, ?_⟩) | ((with_reducible refine gate_callee (f := 19) rfl ?_); refine goesL_ (some 132) rfl rfl Try.func19 (by kernel_rfl) rfl #[.int .i64 t165] rfl (by (try simp only [List.map_toArray, List.map_cons, List.map_nil]); first | done | rfl | (simp only [List.length_drop, List.length_take]; rfl) | (simp only [ByteArray.size_extract, Nat.sub_zero]; rfl) | (simp only [ByteArray.size_extract, Nat.sub_zero]; done)) ?_; (with_reducible refine (psw_Mode.calls t165 t199 _ A63.out).mono ?_); rintro e w' ⟨rfl, ⟨nd, rfl⟩⟩; refine ⟨_, rfl, ?_⟩) | ((with_reducible refine gate_callee (f := 19) rfl ?_); refine goesL_ (some 134) rfl rfl Try.func19 (by kernel_rfl) rfl #[.int .i64 a1] rfl (by (try simp only [List.map_toArray, List.map_cons, List.map_nil]); first | done | rfl | (simp only [List.length_drop, List.length_take]; rfl) | (simp only [ByteArray.size_extract, Nat.sub_zero]; rfl) | (simp only [ByteArray.size_extract, Nat.sub_zero]; done)) ?_; (with_reducible refine (psw_Mode.calls a1 t200 _ A64.out).mono ?_); rintro e w' ⟨rfl, ⟨nd, rfl⟩⟩; refine ⟨_, rfl, ?_⟩) | (go_at_call 21; (with_reducible refine (psw_Previous.calls t165 t201 _ A66.out).mono ?_); rintro e w' ⟨rfl, ⟨nd, rfl⟩⟩) | (go_at_call 21; (with_reducible refine (psw_Previous.calls a1 t202 _ A67.out).mono ?_); rintro e w' ⟨rfl, ⟨nd, rfl⟩⟩))
                                go_ret
                                exact ⟨by first | rfl | (simp [errW_none, errW_some] <;> rfl) | (simp [*, errW_none, errW_some] <;> rfl), by repeat (first | (with_reducible first | exact HB.out | apply below_alloc | apply pw_below_drewN | apply below_drew1) | exact HB.out)⟩
                            · rw [if_neg c65] at H
                              have c65b0 : (t199 == t200) = false := beq_eq_false_iff_ne.mpr c65
                              have c65b1 : (t199 != t200) = true := bne_iff_ne.mpr c65
                              obtain rfl := Option.some.inj H
                              go_wp2_with (first | ((with_reducible refine gate_callee (f := 19) rfl ?_); refine goesL_ (some 109) rfl rfl Try.func19 (by kernel_rfl) rfl #[.int .i64 a0] rfl (by (try simp only [List.map_toArray, List.map_cons, List.map_nil]); first | done | rfl | (simp only [List.length_drop, List.length_take]; rfl) | (simp only [ByteArray.size_extract, Nat.sub_zero]; rfl) | (simp only [ByteArray.size_extract, Nat.sub_zero]; done)) ?_; (with_reducible refine (psw_Mode.calls a0 t192 _ A51.out).mono ?_); rintro e w' ⟨rfl, ⟨nd, rfl⟩⟩; refine ⟨_, rfl, ?_⟩) | ((with_reducible refine gate_callee (f := 19) rfl ?_); refine goesL_ (some 132) rfl rfl Try.func19 (by kernel_rfl) rfl #[.int .i64 t165] rfl (by (try simp only [List.map_toArray, List.map_cons, List.map_nil]); first | done | rfl | (simp only [List.length_drop, List.length_take]; rfl) | (simp only [ByteArray.size_extract, Nat.sub_zero]; rfl) | (simp only [ByteArray.size_extract, Nat.sub_zero]; done)) ?_; (with_reducible refine (psw_Mode.calls t165 t199 _ A63.out).mono ?_); rintro e w' ⟨rfl, ⟨nd, rfl⟩⟩; refine ⟨_, rfl, ?_⟩) | ((with_reducible refine gate_callee (f := 19) rfl ?_); refine goesL_ (some 134) rfl rfl Try.func19 (by kernel_rfl) rfl #[.int .i64 a1] rfl (by (try simp only [List.map_toArray, List.map_cons, List.map_nil]); first | done | rfl | (simp only [List.length_drop, List.length_take]; rfl) | (simp only [ByteArray.size_extract, Nat.sub_zero]; rfl) | (simp only [ByteArray.size_extract, Nat.sub_zero]; done)) ?_; (with_reducible refine (psw_Mode.calls a1 t200 _ A64.out).mono ?_); rintro e w' ⟨rfl, ⟨nd, rfl⟩⟩; refine ⟨_, rfl, ?_⟩))
                              go_ret
                              exact ⟨by first | rfl | (simp [errW_none, errW_some] <;> rfl) | (simp [*, errW_none, errW_some] <;> rfl), by repeat (first | (with_reducible first | exact HB.out | apply below_alloc | apply pw_below_drewN | apply below_drew1) | exact HB.out)⟩

/-- THE ONE PURE STATEMENT of emulatorlaw04_PswKeeps: yours. -/
def emulatorlaw04_PswKeeps.Pure : Prop := ∀ (a0 : Int) (a1 : Int), (Lit.int .i64 a0).wf = true → (Lit.int .i64 a1).wf = true → ∃ k, emulatorlaw04_PswKeeps.f k a0 a1 = some true
theorem emulatorlaw04_PswKeeps.walk (P : emulatorlaw04_PswKeeps.Pure) (a0 : Int) (a1 : Int) (w : World) (w0 : (Lit.int .i64 a0).wf = true) (w1 : (Lit.int .i64 a1).wf = true) :
    Calls Try.prog 7 #[.int .i64 a0, .int .i64 a1] w fun e w' => e = .returned (.bool true) ∧ Below w.heap.size w w' := by
  obtain ⟨k, h⟩ := P a0 a1 w0 w1
  refine (emulatorlaw04_PswKeeps.calls k a0 a1 true w h).mono ?_
  rintro e w' ⟨rfl, hd⟩
  exact ⟨rfl, hd⟩

end Go.Proofs.Ytkopdpdenmjecaa.K
