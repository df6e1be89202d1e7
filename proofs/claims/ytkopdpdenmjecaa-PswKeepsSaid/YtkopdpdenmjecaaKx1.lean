-- Printed by a program of this session out of Lean's print of the translation. Lean checks it.
import Derived.Test.YtkopdpdenmjecaaKx0
namespace Go.Proofs.Ytkopdpdenmjecaa.K
open Go.RowKit Go.Proofs.YtkopdpdenmjecaaW.PrintWords Go.Proofs.YtkopdpdenmjecaaW.PrintLast Go.Proofs.YtkopdpdenmjecaaW.PrintMore
attribute [local go_sem] max2_int min2_int max_two min_two max_three min_three max_four min_four   -- for this text's walks alone
set_option linter.unusedVariables false
set_option linter.unusedSimpArgs false

/-! ### psw_WithFlags: function 8 -/
def psw_WithFlags.f (a0 : Int) (a1 : Int) : Option (Int) := some (Go.bits .or .i64 (Go.bits .and .i64 a0 49392) (Go.bits .and .i64 a1 15))
set_option maxHeartbeats 8000000 in
set_option maxRecDepth 100000 in
theorem psw_WithFlags.calls (a0 : Int) (a1 : Int) (r : Int) (w : World) (h : psw_WithFlags.f a0 a1 = some r) :
    Calls Try.prog 8 #[.int .i64 a0, .int .i64 a1] w fun e w' => e = .returned (.int .i64 r) ∧ Drawn0 w w' := by
  have H : (some (Go.bits .or .i64 (Go.bits .and .i64 a0 49392) (Go.bits .and .i64 a1 15))) = some r := h
  clear h
  obtain rfl := Option.some.inj H
  go_enter Try.func8, Try.ntmps8
  go_wp2
  go_ret
  exact ⟨by first | rfl | (simp; done) | (simp [*]; done), by repeat (first | exact Drawn0.refl _ | apply Drawn0.step)⟩

/-! ### emulatorref04_WithFlags: function 9 -/
def emulatorref04_WithFlags.f (a0 : Int) (a1 : Int) : Option (Int) := some (wrap64 ((Go.bits .andNot .i64 (Go.bits .and .i64 a0 49407) 15) + (Go.bits .and .i64 a1 15)))
set_option maxHeartbeats 8000000 in
set_option maxRecDepth 100000 in
theorem emulatorref04_WithFlags.calls (a0 : Int) (a1 : Int) (r : Int) (w : World) (h : emulatorref04_WithFlags.f a0 a1 = some r) :
    Calls Try.prog 9 #[.int .i64 a0, .int .i64 a1] w fun e w' => e = .returned (.int .i64 r) ∧ Drawn0 w w' := by
  have H : (some (wrap64 ((Go.bits .andNot .i64 (Go.bits .and .i64 a0 49407) 15) + (Go.bits .and .i64 a1 15)))) = some r := h
  clear h
  obtain rfl := Option.some.inj H
  go_enter Try.func9, Try.ntmps9
  go_wp2
  go_ret
  exact ⟨by first | rfl | (simp; done) | (simp [*]; done), by repeat (first | exact Drawn0.refl _ | apply Drawn0.step)⟩

/-! ### psw_Enter: function 10 -/
def psw_Enter.f (a0 : Int) (a1 : Int) : Option (Int) := some (Go.bits .or .i64 (Go.bits .and .i64 a1 33023) ((Go.bits .and .i64 a0 32768) / 2))
set_option maxHeartbeats 8000000 in
set_option maxRecDepth 100000 in
theorem psw_Enter.calls (a0 : Int) (a1 : Int) (r : Int) (w : World) (h : psw_Enter.f a0 a1 = some r) :
    Calls Try.prog 10 #[.int .i64 a0, .int .i64 a1] w fun e w' => e = .returned (.int .i64 r) ∧ Drawn0 w w' := by
  have H : (some (Go.bits .or .i64 (Go.bits .and .i64 a1 33023) ((Go.bits .and .i64 a0 32768) / 2))) = some r := h
  clear h
  obtain rfl := Option.some.inj H
  go_enter Try.func10, Try.ntmps10
  go_wp2
  go_ret
  exact ⟨by first | rfl | (simp; done) | (simp [*]; done), by repeat (first | exact Drawn0.refl _ | apply Drawn0.step)⟩

/-! ### emulatorref04_Mode: function 20 -/
def emulatorref04_Mode.f (a0 : Int) : Option (Int) := some (Go.bits .and .i64 (a0 / 32768) 1)
set_option maxHeartbeats 8000000 in
set_option maxRecDepth 100000 in
theorem emulatorref04_Mode.calls (a0 : Int) (r : Int) (w : World) (h : emulatorref04_Mode.f a0 = some r) :
    Calls Try.prog 20 #[.int .i64 a0] w fun e w' => e = .returned (.int .i64 r) ∧ Drawn0 w w' := by
  have H : (some (Go.bits .and .i64 (a0 / 32768) 1)) = some r := h
  clear h
  obtain rfl := Option.some.inj H
  go_enter Try.func20, Try.ntmps20
  go_wp2
  go_ret
  exact ⟨by first | rfl | (simp; done) | (simp [*]; done), by repeat (first | exact Drawn0.refl _ | apply Drawn0.step)⟩

/-! ### emulatorref04_Enter: function 11 -/
def emulatorref04_Enter.f (a0 : Int) (a1 : Int) : Option (Int) := (emulatorref04_Mode.f a0).bind fun t101 => (some (wrap64 ((Go.bits .and .i64 a1 33023) + (wrap64 (t101 * 16384)))))
set_option maxHeartbeats 8000000 in
set_option maxRecDepth 100000 in
theorem emulatorref04_Enter.calls (a0 : Int) (a1 : Int) (r : Int) (w : World) (h : emulatorref04_Enter.f a0 a1 = some r) :
    Calls Try.prog 11 #[.int .i64 a0, .int .i64 a1] w fun e w' => e = .returned (.int .i64 r) ∧ Drawn0 w w' := by
  have H : ((emulatorref04_Mode.f a0).bind fun t101 => (some (wrap64 ((Go.bits .and .i64 a1 33023) + (wrap64 (t101 * 16384)))))) = some r := h
  clear h
  replace H := Option.bind_eq_some_iff.mp H
  obtain ⟨t101, A30, H⟩ := H
  replace H : (some (wrap64 ((Go.bits .and .i64 a1 33023) + (wrap64 (t101 * 16384))))) = some r := H
  have A3 := Aside0.mk A30
  clear A30
  obtain rfl := Option.some.inj H
  go_enter Try.func11, Try.ntmps11
  go_wp2_with (first | ((with_reducible refine gate_callee (f := 20) rfl ?_); refine goesL_ (some 8) rfl rfl Try.func20 (by kernel_rfl) rfl #[.int .i64 a0] rfl (by (try simp only [List.map_toArray, List.map_cons, List.map_nil]); first | done | rfl | (simp only [List.length_drop, List.length_take]; rfl) | (simp only [ByteArray.size_extract, Nat.sub_zero]; rfl) | (simp only [ByteArray.size_extract, Nat.sub_zero]; done)) ?_; (with_reducible refine (emulatorref04_Mode.calls a0 t101 _ A3.out).mono ?_); rintro e w' ⟨rfl, ⟨nd, rfl⟩⟩; refine ⟨_, rfl, ?_⟩))
  go_ret
  exact ⟨by first | rfl | (simp; done) | (simp [*]; done), by repeat (first | exact Drawn0.refl _ | apply Drawn0.step)⟩

/-! ### psw_Mode: function 19 -/
def psw_Mode.f (a0 : Int) : Option (Int) := some (Go.bits .and .i64 (a0 / 32768) 1)
set_option maxHeartbeats 8000000 in
set_option maxRecDepth 100000 in
theorem psw_Mode.calls (a0 : Int) (r : Int) (w : World) (h : psw_Mode.f a0 = some r) :
    Calls Try.prog 19 #[.int .i64 a0] w fun e w' => e = .returned (.int .i64 r) ∧ Drawn0 w w' := by
  have H : (some (Go.bits .and .i64 (a0 / 32768) 1)) = some r := h
  clear h
  obtain rfl := Option.some.inj H
  go_enter Try.func19, Try.ntmps19
  go_wp2
  go_ret
  exact ⟨by first | rfl | (simp; done) | (simp [*]; done), by repeat (first | exact Drawn0.refl _ | apply Drawn0.step)⟩

/-! ### psw_Return: function 12 -/
def psw_Return.f (a0 : Int) (a1 : Int) : Option (Int) := (psw_Mode.f a0).bind fun t102 => (if t102 = 0 then (some (Go.bits .and .i64 a1 49407)) else (some (Go.bits .or .i64 (Go.bits .and .i64 a0 49376) (Go.bits .and .i64 a1 31))))
set_option maxHeartbeats 8000000 in
set_option maxRecDepth 100000 in
theorem psw_Return.calls (a0 : Int) (a1 : Int) (r : Int) (w : World) (h : psw_Return.f a0 a1 = some r) :
    Calls Try.prog 12 #[.int .i64 a0, .int .i64 a1] w fun e w' => e = .returned (.int .i64 r) ∧ Drawn0 w w' := by
  have H : ((psw_Mode.f a0).bind fun t102 => (if t102 = 0 then (some (Go.bits .and .i64 a1 49407)) else (some (Go.bits .or .i64 (Go.bits .and .i64 a0 49376) (Go.bits .and .i64 a1 31))))) = some r := h
  clear h
  replace H := Option.bind_eq_some_iff.mp H
  obtain ⟨t102, A30, H⟩ := H
  replace H : (if t102 = 0 then (some (Go.bits .and .i64 a1 49407)) else (some (Go.bits .or .i64 (Go.bits .and .i64 a0 49376) (Go.bits .and .i64 a1 31)))) = some r := H
  have A3 := Aside0.mk A30
  clear A30
  by_cases c4 : t102 = 0
  · rw [if_pos c4] at H
    have c4b0 : (t102 == 0) = true := beq_iff_eq.mpr c4
    have c4b1 : (t102 != 0) = false := bne_eq_false_iff_eq.mpr c4
    clear c4
    obtain rfl := Option.some.inj H
    go_enter Try.func12, Try.ntmps12
    go_wp2_with (first | ((with_reducible refine gate_callee (f := 19) rfl ?_); refine goesL_ (some 6) rfl rfl Try.func19 (by kernel_rfl) rfl #[.int .i64 a0] rfl (by (try simp only [List.map_toArray, List.map_cons, List.map_nil]); first | done | rfl | (simp only [List.length_drop, List.length_take]; rfl) | (simp only [ByteArray.size_extract, Nat.sub_zero]; rfl) | (simp only [ByteArray.size_extract, Nat.sub_zero]; done)) ?_; (with_reducible refine (psw_Mode.calls a0 t102 _ A3.out).mono ?_); rintro e w' ⟨rfl, ⟨nd, rfl⟩⟩; refine ⟨_, rfl, ?_⟩))
    go_ret
    exact ⟨by first | rfl | (simp; done) | (simp [*]; done), by repeat (first | exact Drawn0.refl _ | apply Drawn0.step)⟩
  · rw [if_neg c4] at H
    have c4b0 : (t102 == 0) = false := beq_eq_false_iff_ne.mpr c4
    have c4b1 : (t102 != 0) = true := bne_iff_ne.mpr c4
    obtain rfl := Option.some.inj H
    go_enter Try.func12, Try.ntmps12
    go_wp2_with (first | ((with_reducible refine gate_callee (f := 19) rfl ?_); refine goesL_ (some 6) rfl rfl Try.func19 (by kernel_rfl) rfl #[.int .i64 a0] rfl (by (try simp only [List.map_toArray, List.map_cons, List.map_nil]); first | done | rfl | (simp only [List.length_drop, List.length_take]; rfl) | (simp only [ByteArray.size_extract, Nat.sub_zero]; rfl) | (simp only [ByteArray.size_extract, Nat.sub_zero]; done)) ?_; (with_reducible refine (psw_Mode.calls a0 t102 _ A3.out).mono ?_); rintro e w' ⟨rfl, ⟨nd, rfl⟩⟩; refine ⟨_, rfl, ?_⟩))
    go_ret
    exact ⟨by first | rfl | (simp; done) | (simp [*]; done), by repeat (first | exact Drawn0.refl _ | apply Drawn0.step)⟩

/-! ### emulatorref04_Return: function 13 -/
def emulatorref04_Return.f (a0 : Int) (a1 : Int) : Option (Int) := (emulatorref04_Mode.f a0).bind fun t103 => (if t103 = 0 then (some (Go.bits .and .i64 a1 49407)) else (some (wrap64 ((Go.bits .andNot .i64 (Go.bits .and .i64 a0 49407) 31) + (Go.bits .and .i64 a1 31)))))
set_option maxHeartbeats 8000000 in
set_option maxRecDepth 100000 in
theorem emulatorref04_Return.calls (a0 : Int) (a1 : Int) (r : Int) (w : World) (h : emulatorref04_Return.f a0 a1 = some r) :
    Calls Try.prog 13 #[.int .i64 a0, .int .i64 a1] w fun e w' => e = .returned (.int .i64 r) ∧ Drawn0 w w' := by
  have H : ((emulatorref04_Mode.f a0).bind fun t103 => (if t103 = 0 then (some (Go.bits .and .i64 a1 49407)) else (some (wrap64 ((Go.bits .andNot .i64 (Go.bits .and .i64 a0 49407) 31) + (Go.bits .and .i64 a1 31)))))) = some r := h
  clear h
  replace H := Option.bind_eq_some_iff.mp H
  obtain ⟨t103, A30, H⟩ := H
  replace H : (if t103 = 0 then (some (Go.bits .and .i64 a1 49407)) else (some (wrap64 ((Go.bits .andNot .i64 (Go.bits .and .i64 a0 49407) 31) + (Go.bits .and .i64 a1 31))))) = some r := H
  have A3 := Aside0.mk A30
  clear A30
  by_cases c4 : t103 = 0
  · rw [if_pos c4] at H
    have c4b0 : (t103 == 0) = true := beq_iff_eq.mpr c4
    have c4b1 : (t103 != 0) = false := bne_eq_false_iff_eq.mpr c4
    clear c4
    obtain rfl := Option.some.inj H
    go_enter Try.func13, Try.ntmps13
    go_wp2_with (first | ((with_reducible refine gate_callee (f := 20) rfl ?_); refine goesL_ (some 6) rfl rfl Try.func20 (by kernel_rfl) rfl #[.int .i64 a0] rfl (by (try simp only [List.map_toArray, List.map_cons, List.map_nil]); first | done | rfl | (simp only [List.length_drop, List.length_take]; rfl) | (simp only [ByteArray.size_extract, Nat.sub_zero]; rfl) | (simp only [ByteArray.size_extract, Nat.sub_zero]; done)) ?_; (with_reducible refine (emulatorref04_Mode.calls a0 t103 _ A3.out).mono ?_); rintro e w' ⟨rfl, ⟨nd, rfl⟩⟩; refine ⟨_, rfl, ?_⟩))
    go_ret
    exact ⟨by first | rfl | (simp; done) | (simp [*]; done), by repeat (first | exact Drawn0.refl _ | apply Drawn0.step)⟩
  · rw [if_neg c4] at H
    have c4b0 : (t103 == 0) = false := beq_eq_false_iff_ne.mpr c4
    have c4b1 : (t103 != 0) = true := bne_iff_ne.mpr c4
    obtain rfl := Option.some.inj H
    go_enter Try.func13, Try.ntmps13
    go_wp2_with (first | ((with_reducible refine gate_callee (f := 20) rfl ?_); refine goesL_ (some 6) rfl rfl Try.func20 (by kernel_rfl) rfl #[.int .i64 a0] rfl (by (try simp only [List.map_toArray, List.map_cons, List.map_nil]); first | done | rfl | (simp only [List.length_drop, List.length_take]; rfl) | (simp only [ByteArray.size_extract, Nat.sub_zero]; rfl) | (simp only [ByteArray.size_extract, Nat.sub_zero]; done)) ?_; (with_reducible refine (emulatorref04_Mode.calls a0 t103 _ A3.out).mono ?_); rintro e w' ⟨rfl, ⟨nd, rfl⟩⟩; refine ⟨_, rfl, ?_⟩))
    go_ret
    exact ⟨by first | rfl | (simp; done) | (simp [*]; done), by repeat (first | exact Drawn0.refl _ | apply Drawn0.step)⟩

/-! ### psw_Previous: function 21 -/
def psw_Previous.f (a0 : Int) : Option (Int) := some (Go.bits .and .i64 (a0 / 16384) 1)
set_option maxHeartbeats 8000000 in
set_option maxRecDepth 100000 in
theorem psw_Previous.calls (a0 : Int) (r : Int) (w : World) (h : psw_Previous.f a0 = some r) :
    Calls Try.prog 21 #[.int .i64 a0] w fun e w' => e = .returned (.int .i64 r) ∧ Drawn0 w w' := by
  have H : (some (Go.bits .and .i64 (a0 / 16384) 1)) = some r := h
  clear h
  obtain rfl := Option.some.inj H
  go_enter Try.func21, Try.ntmps21
  go_wp2
  go_ret
  exact ⟨by first | rfl | (simp; done) | (simp [*]; done), by repeat (first | exact Drawn0.refl _ | apply Drawn0.step)⟩

/-! ### psw_Priority: function 23 -/
def psw_Priority.f (a0 : Int) : Option (Int) := some ((Go.bits .and .i64 a0 224) / 32)
set_option maxHeartbeats 8000000 in
set_option maxRecDepth 100000 in
theorem psw_Priority.calls (a0 : Int) (r : Int) (w : World) (h : psw_Priority.f a0 = some r) :
    Calls Try.prog 23 #[.int .i64 a0] w fun e w' => e = .returned (.int .i64 r) ∧ Drawn0 w w' := by
  have H : (some ((Go.bits .and .i64 a0 224) / 32)) = some r := h
  clear h
  obtain rfl := Option.some.inj H
  go_enter Try.func23, Try.ntmps23
  go_wp2
  go_ret
  exact ⟨by first | rfl | (simp; done) | (simp [*]; done), by repeat (first | exact Drawn0.refl _ | apply Drawn0.step)⟩

/-! ### psw_Text: function 15 -/
def psw_Text.l0 : Nat → Int → List Int → List Int → Int → Int → Option (ByteArray)
  | 0, _, _, _, _, _ => none
  | k + 1, x0, x3, x18, x19, x20 => if x20 < x19 then (if 0 ≤ x20 then (if x20 < (x18.length : Int) then (if 0 ≤ (wrap64 (4 - x20)) then (if (Go.bits .and .i64 (shr .i64 x0 (wrap64 (4 - x20))) 1) = 0 then (if x3.length < 140737488355328 then (psw_Text.l0 k x0 (x3 ++ [45]) x18 x19 (wrap64 (x20 + 1))) else (none)) else (if x3.length < 140737488355328 then (psw_Text.l0 k x0 (x3 ++ [rd x18 x20]) x18 x19 (wrap64 (x20 + 1))) else (none))) else (none)) else (none)) else (none)) else (some (strOfNums x3))
def psw_Text.f (k : Nat) (a0 : Int) : Option (ByteArray) := (psw_Mode.f a0).bind fun t104 => (if 0 ≤ t104 then (if t104 < 2 then ((psw_Previous.f a0).bind fun t105 => (if 0 ≤ t105 then (if t105 < 2 then ((psw_Priority.f a0).bind fun t106 => ((some (([84, 78, 90, 86, 67] : List Int) : List Int)).bind fun y110 => (psw_Text.l0 k a0 (([bt (⟨#[107, 117]⟩ : ByteArray) t104, bt (⟨#[107, 117]⟩ : ByteArray) t105, (wrap64 (48 + t106)) % 256] : List Int)) y110 (y110.length : Int) 0))) else (none)) else (none))) else (none)) else (none))
theorem psw_Text.mono_l : ∀ k, (∀ y0 y1 y2 y3 y4, LeO (psw_Text.l0 k y0 y1 y2 y3 y4) (psw_Text.l0 (k + 1) y0 y1 y2 y3 y4))
  | 0 => fun _ _ _ _ _ r h => by simp [psw_Text.l0] at h
  | k + 1 => by
    have ih0 := psw_Text.mono_l k
    · intro y0 y1 y2 y3 y4
      unfold psw_Text.l0
      repeat' first
      | (with_reducible exact ih0 _ _ _ _ _)
      | (with_reducible exact LeO.refl _)
      | (with_reducible exact LeO.none _)
      | (with_reducible refine LeO.ite ?_ ?_)
      | (with_reducible refine LeO.bind ?_ (fun _ => ?_))
      | exact ih0 _ _ _ _ _
      | exact LeO.none _
      | refine LeO.ite ?_ ?_
      | refine LeO.bind ?_ (fun _ => ?_)
theorem psw_Text.mono : ∀ a0 k, LeO (psw_Text.f k a0) (psw_Text.f (k + 1) a0) := by
  intro a0 k
  have ih0 := psw_Text.mono_l k
  unfold psw_Text.f
  repeat' first
      | (with_reducible exact ih0 _ _ _ _ _)
      | (with_reducible exact LeO.refl _)
      | (with_reducible exact LeO.none _)
      | (with_reducible refine LeO.ite ?_ ?_)
      | (with_reducible refine LeO.bind ?_ (fun _ => ?_))
      | exact ih0 _ _ _ _ _
      | exact LeO.none _
      | refine LeO.ite ?_ ?_
      | refine LeO.bind ?_ (fun _ => ?_)
def psw_Text.T1 : Bool × List (List Nat × List Nat) := (true, [([], []), ([0], [0]), ([1], [1]), ([], []), ([3, 1], [3]), ([4], [4]), ([], []), ([6, 4], [6]), ([7], [7]), ([8], [8]), ([2, 5, 9], [2, 5, 9]), ([10, 7, 0, 1, 2, 3, 4, 5, 6, 7, 8, 9, 10], [10])])
def psw_Text.B1 : List Nat := [0, 1, 3, 0, 11, 27, 0, 91, 219, 475, 1023, 2047]
theorem psw_Text.tab1 : rtab .any (opsOf Try.f15 1) = psw_Text.T1 := by kernel_rfl
theorem psw_Text.bits1 : waitsOk psw_Text.T1.2 psw_Text.B1 = true := by kernel_rfl
set_option maxHeartbeats 8000000 in
set_option maxRecDepth 100000 in
theorem psw_Text.calls (k : Nat) (a0 : Int) (r : ByteArray) (w : World) (h : psw_Text.f k a0 = some r) :
    Calls Try.prog 15 #[.int .i64 a0] w fun e w' => e = .returned (.string r) ∧ Below w.heap.size w w' := by
  have HB := Aside0.mk (Below.refl w.heap.size w)
  have H : ((psw_Mode.f a0).bind fun t104 => (if 0 ≤ t104 then (if t104 < 2 then ((psw_Previous.f a0).bind fun t105 => (if 0 ≤ t105 then (if t105 < 2 then ((psw_Priority.f a0).bind fun t106 => ((some (([84, 78, 90, 86, 67] : List Int) : List Int)).bind fun y110 => (psw_Text.l0 k a0 (([bt (⟨#[107, 117]⟩ : ByteArray) t104, bt (⟨#[107, 117]⟩ : ByteArray) t105, (wrap64 (48 + t106)) % 256] : List Int)) y110 (y110.length : Int) 0))) else (none)) else (none))) else (none)) else (none))) = some r := h
  clear h
  replace H := Option.bind_eq_some_iff.mp H
  obtain ⟨t104, A20, H⟩ := H
  replace H : (if 0 ≤ t104 then (if t104 < 2 then ((psw_Previous.f a0).bind fun t105 => (if 0 ≤ t105 then (if t105 < 2 then ((psw_Priority.f a0).bind fun t106 => ((some (([84, 78, 90, 86, 67] : List Int) : List Int)).bind fun y110 => (psw_Text.l0 k a0 (([bt (⟨#[107, 117]⟩ : ByteArray) t104, bt (⟨#[107, 117]⟩ : ByteArray) t105, (wrap64 (48 + t106)) % 256] : List Int)) y110 (y110.length : Int) 0))) else (none)) else (none))) else (none)) else (none)) = some r := H
  have A2 := Aside0.mk A20
  clear A20
  by_cases c3 : 0 ≤ t104
  · rw [if_pos c3] at H
    have c3b0 : decide (0 ≤ t104) = true := decide_eq_true c3
    clear c3
    by_cases c4 : t104 < 2
    · rw [if_pos c4] at H
      have c4b0 : decide (t104 < 2) = true := decide_eq_true c4
      clear c4
      replace H := Option.bind_eq_some_iff.mp H
      obtain ⟨t105, A60, H⟩ := H
      replace H : (if 0 ≤ t105 then (if t105 < 2 then ((psw_Priority.f a0).bind fun t106 => ((some (([84, 78, 90, 86, 67] : List Int) : List Int)).bind fun y110 => (psw_Text.l0 k a0 (([bt (⟨#[107, 117]⟩ : ByteArray) t104, bt (⟨#[107, 117]⟩ : ByteArray) t105, (wrap64 (48 + t106)) % 256] : List Int)) y110 (y110.length : Int) 0))) else (none)) else (none)) = some r := H
      have A6 := Aside0.mk A60
      clear A60
      by_cases c7 : 0 ≤ t105
      · rw [if_pos c7] at H
        have c7b0 : decide (0 ≤ t105) = true := decide_eq_true c7
        clear c7
        by_cases c8 : t105 < 2
        · rw [if_pos c8] at H
          have c8b0 : decide (t105 < 2) = true := decide_eq_true c8
          clear c8
          replace H := Option.bind_eq_some_iff.mp H
          obtain ⟨t106, A100, H⟩ := H
          replace H : ((some (([84, 78, 90, 86, 67] : List Int) : List Int)).bind fun y110 => (psw_Text.l0 k a0 (([bt (⟨#[107, 117]⟩ : ByteArray) t104, bt (⟨#[107, 117]⟩ : ByteArray) t105, (wrap64 (48 + t106)) % 256] : List Int)) y110 (y110.length : Int) 0)) = some r := H
          have A10 := Aside0.mk A100
          clear A100
          obtain ⟨y107, hy107⟩ : ∃ y_ : List Int, y_ = (([bt (⟨#[107, 117]⟩ : ByteArray) t104, bt (⟨#[107, 117]⟩ : ByteArray) t105, (wrap64 (48 + t106)) % 256] : List Int)) := ⟨_, rfl⟩
          replace H : ((some (([84, 78, 90, 86, 67] : List Int) : List Int)).bind fun y110 => (psw_Text.l0 k a0 y107 y110 (y110.length : Int) 0)) = some r := by first | (rw [hy107]; with_reducible exact H) | (have H2_ := (Option.bind_some _ _).symm.trans H; rw [hy107]; with_reducible exact H2_) | (have H2_ := (Option.bind_some _ _).symm.trans H; with_reducible exact H2_) | with_reducible exact H | (rw [hy107]; exact H) | exact H
          have Ny107 := Aside0.mk hy107
          clear hy107
          obtain ⟨y110, hy110⟩ : ∃ y_ : List Int, y_ = (([84, 78, 90, 86, 67] : List Int)) := ⟨_, rfl⟩
          replace H : (psw_Text.l0 k a0 y107 y110 (y110.length : Int) 0) = some r := by first | (rw [hy110]; with_reducible exact H) | (have H2_ := (Option.bind_some _ _).symm.trans H; rw [hy110]; with_reducible exact H2_) | (have H2_ := (Option.bind_some _ _).symm.trans H; with_reducible exact H2_) | with_reducible exact H | (rw [hy110]; exact H) | exact H
          have Ny110 := Aside0.mk hy110
          clear hy110
          have H' := Aside0.mk H
          clear H
          go_enter Try.func15, Try.ntmps15
          try go_wp2
          have n0_ := Aside0.mk (below_drew1 HB.out)
          clear HB
          have HB := n0_
          clear n0_
          refine start_ (n := 12) (S := fun w' => True) (ds := []) #[false, false, false, false, false, false, false, false, false, false, false, false] (by kernel_rfl) rfl rfl trivial (fun hHeld => ?_); refine with_tabW psw_Text.tab1 psw_Text.bits1 (fun HT_ HW_ => ?_)
          generalize w.drew = w11 at HB hHeld ⊢
          refine pure_ (i := 0) (N := some 6) (v := ?_) (a' := ?_) #[true, false, false, false, false, false, false, false, false, false, false, false] rfl rfl (any_of HT_.out (by kernel_rfl)) (fun _ _ _ h => h) (Or.inl ⟨by rfl, ?_⟩) ?_ ?_
          rotate_left
          · intro w'
            go_simp
            with_reducible rfl
          rotate_left
          · simp only [Act.put, List.setIfInBounds_toArray, List.set_cons_zero, List.set_cons_succ, i64_w, i32_w]
            rfl
          refine pure_ (i := 3) (N := some 9) (v := ?_) (a' := ?_) #[true, false, false, true, false, false, false, false, false, false, false, false] rfl rfl (any_of HT_.out (by kernel_rfl)) (fun _ _ _ h => h) (Or.inl ⟨by rfl, ?_⟩) ?_ ?_
          rotate_left
          · intro w'
            go_simp
            with_reducible rfl
          rotate_left
          · simp only [Act.put, List.setIfInBounds_toArray, List.set_cons_zero, List.set_cons_succ, i64_w, i32_w]
            rfl
          refine pure_ (i := 6) (N := some 12) (v := ?_) (a' := ?_) #[true, false, false, true, false, false, true, false, false, false, false, false] rfl rfl (any_of HT_.out (by kernel_rfl)) (fun _ _ _ h => h) (Or.inl ⟨by rfl, ?_⟩) ?_ ?_
          rotate_left
          · intro w'
            go_simp
            with_reducible rfl
          rotate_left
          · simp only [Act.put, List.setIfInBounds_toArray, List.set_cons_zero, List.set_cons_succ, i64_w, i32_w]
            rfl
          refine one_ (i := 1) (N := some 7) #[true, true, false, true, false, false, true, false, false, false, false, false] rfl rfl (one_of HT_.out (by kernel_rfl)) (by decide) (fun K hK => ?_)
          refine goes_ Try.func19 (by kernel_rfl) rfl #[.int .i64 a0] (by rfl) rfl rfl (by (try simp only [List.map_toArray, List.map_cons, List.map_nil]); first | done | rfl | (simp only [List.length_drop, List.length_take]; rfl) | (simp only [ByteArray.size_extract, Nat.sub_zero]; rfl) | (simp only [ByteArray.size_extract, Nat.sub_zero]; done)) ?_
          with_reducible refine (psw_Mode.calls a0 t104 _ A2.out).mono ?_
          rintro e w' ⟨rfl, ⟨nd, rfl⟩⟩
          refine ⟨_, rfl, ?_⟩
          have p5 : 0 ≤ (t104 : Int) := of_decide_eq_true (by first | (with_reducible assumption) | assumption)
          have q5 : t104 < (2 : Int) := of_decide_eq_true (by first | (with_reducible assumption) | assumption)
          have hx5 := bt_at (⟨#[107, 117]⟩ : ByteArray) t104
          replace p5 := eq_true p5
          replace q5 := eq_true q5
          refine hK.out _ _ trivial (fun hHeld => ?_)
          clear hK K
          refine norm_ (a' := ?_) ?_ ?_
          rotate_left
          · show Act.put _ (some 7) _ = _
            simp only [Act.put, List.setIfInBounds_toArray, List.set_cons_zero, List.set_cons_succ, i64_w, i32_w]
            rfl
          refine take_ (i := 2) (N := some 8) (v := ?_) (a' := ?_) #[true, true, true, true, false, false, true, false, false, false, false, false] rfl rfl (take_ofW HT_.out HW_.out (by kernel_rfl)) (fun _ _ _ h => h) (Or.inl ⟨by rfl, ?_⟩) hHeld ?_ ?_
          rotate_left
          · intro w' _
            go_simp
            with_reducible rfl
          rotate_left
          · simp only [Act.put, List.setIfInBounds_toArray, List.set_cons_zero, List.set_cons_succ, i64_w, i32_w]
            rfl
          refine one_ (i := 4) (N := some 10) #[true, true, true, true, true, false, true, false, false, false, false, false] rfl rfl (one_of HT_.out (by kernel_rfl)) (by decide) (fun K hK => ?_)
          refine goes_ Try.func21 (by kernel_rfl) rfl #[.int .i64 a0] (by rfl) rfl rfl (by (try simp only [List.map_toArray, List.map_cons, List.map_nil]); first | done | rfl | (simp only [List.length_drop, List.length_take]; rfl) | (simp only [ByteArray.size_extract, Nat.sub_zero]; rfl) | (simp only [ByteArray.size_extract, Nat.sub_zero]; done)) ?_
          with_reducible refine (psw_Previous.calls a0 t105 _ A6.out).mono ?_
          rintro e w' ⟨rfl, ⟨nd, rfl⟩⟩
          refine ⟨_, rfl, ?_⟩
          have p9 : 0 ≤ (t105 : Int) := of_decide_eq_true (by first | (with_reducible assumption) | assumption)
          have q9 : t105 < (2 : Int) := of_decide_eq_true (by first | (with_reducible assumption) | assumption)
          have hx9 := bt_at (⟨#[107, 117]⟩ : ByteArray) t105
          replace p9 := eq_true p9
          replace q9 := eq_true q9
          refine hK.out _ _ trivial (fun hHeld => ?_)
          clear hK K
          refine norm_ (a' := ?_) ?_ ?_
          rotate_left
          · show Act.put _ (some 10) _ = _
            simp only [Act.put, List.setIfInBounds_toArray, List.set_cons_zero, List.set_cons_succ, i64_w, i32_w]
            rfl
          refine take_ (i := 5) (N := some 11) (v := ?_) (a' := ?_) #[true, true, true, true, true, true, true, false, false, false, false, false] rfl rfl (take_ofW HT_.out HW_.out (by kernel_rfl)) (fun _ _ _ h => h) (Or.inl ⟨by rfl, ?_⟩) hHeld ?_ ?_
          rotate_left
          · intro w' _
            go_simp
            with_reducible rfl
          rotate_left
          · simp only [Act.put, List.setIfInBounds_toArray, List.set_cons_zero, List.set_cons_succ, i64_w, i32_w]
            rfl
          refine one_ (i := 7) (N := some 13) #[true, true, true, true, true, true, true, true, false, false, false, false] rfl rfl (one_of HT_.out (by kernel_rfl)) (by decide) (fun K hK => ?_)
          refine goes_ Try.func23 (by kernel_rfl) rfl #[.int .i64 a0] (by rfl) rfl rfl (by (try simp only [List.map_toArray, List.map_cons, List.map_nil]); first | done | rfl | (simp only [List.length_drop, List.length_take]; rfl) | (simp only [ByteArray.size_extract, Nat.sub_zero]; rfl) | (simp only [ByteArray.size_extract, Nat.sub_zero]; done)) ?_
          with_reducible refine (psw_Priority.calls a0 t106 _ A10.out).mono ?_
          rintro e w' ⟨rfl, ⟨nd, rfl⟩⟩
          refine ⟨_, rfl, ?_⟩
          refine hK.out _ _ trivial (fun hHeld => ?_)
          clear hK K
          refine norm_ (a' := ?_) ?_ ?_
          rotate_left
          · show Act.put _ (some 13) _ = _
            simp only [Act.put, List.setIfInBounds_toArray, List.set_cons_zero, List.set_cons_succ, i64_w, i32_w]
            rfl
          refine pure_ (i := 8) (N := some 14) (v := ?_) (a' := ?_) #[true, true, true, true, true, true, true, true, true, false, false, false] rfl rfl (any_of HT_.out (by kernel_rfl)) (fun _ _ _ h => h) (Or.inl ⟨by rfl, ?_⟩) ?_ ?_
          rotate_left
          · intro w'
            go_simp
            with_reducible rfl
          rotate_left
          · simp only [Act.put, List.setIfInBounds_toArray, List.set_cons_zero, List.set_cons_succ, i64_w, i32_w]
            rfl
          refine pure_ (i := 9) (N := some 15) (v := ?_) (a' := ?_) #[true, true, true, true, true, true, true, true, true, true, false, false] rfl rfl (any_of HT_.out (by kernel_rfl)) (fun _ _ _ h => h) (Or.inl ⟨by rfl, ?_⟩) ?_ ?_
          rotate_left
          · intro w'
            go_simp
            with_reducible rfl
          rotate_left
          · simp only [Act.put, List.setIfInBounds_toArray, List.set_cons_zero, List.set_cons_succ, i64_w, i32_w]
            rfl
          refine one_ (i := 10) (N := some 16) #[true, true, true, true, true, true, true, true, true, true, true, false] rfl rfl (one_of HT_.out (by kernel_rfl)) (by decide) (fun K hK => ?_)
          refine Kd.R_lit_step (Kd.int .u8) _ 5 ?hg (N := 16) ?hd (xs := ([bt (⟨#[107, 117]⟩ : ByteArray) t104, bt (⟨#[107, 117]⟩ : ByteArray) t105, (wrap64 (48 + t106)) % 256] : List Int)) (inner := [.int .u8 (bt (⟨#[107, 117]⟩ : ByteArray) t104), .int .u8 (bt (⟨#[107, 117]⟩ : ByteArray) t105), .int .u8 ((wrap64 (48 + t106)) % 256)]) (ok := fun _ => True) (okp := fun _ => True) ?hr ?hp (fun _ hk => hk) trivial (Below.refl _ _) (Nat.le_refl _) (by simp) ?_; (case hd => rfl); (case hg => rfl); (case hr => first | (go_simp; done) | (go_simp; rfl)); (case hp => exact (Reps.one (show Kd.M (Kd.int .u8) _ _ _ (bt (⟨#[107, 117]⟩ : ByteArray) t104) [.int .u8 (bt (⟨#[107, 117]⟩ : ByteArray) t104)] from rfl) (Reps.one (show Kd.M (Kd.int .u8) _ _ _ (bt (⟨#[107, 117]⟩ : ByteArray) t105) [.int .u8 (bt (⟨#[107, 117]⟩ : ByteArray) t105)] from rfl) (Reps.one (show Kd.M (Kd.int .u8) _ _ _ ((wrap64 (48 + t106)) % 256) [.int .u8 ((wrap64 (48 + t106)) % 256)] from rfl) (Reps.none _ _)))))
          intro v108 w12 ho13 hb hg_ hnew_
          clear hg_ hnew_
          (first | rw [← Ny107.out] at ho13 | (simp only [Int.reduceToNat] at ho13; rw [← Ny107.out] at ho13))
          have n0_ := Aside0.mk (Kd.R_lower ho13 (below_size (by repeat (first | (with_reducible first | exact HB.out | apply below_alloc | apply pw_below_drewN | apply below_drew1) | exact HB.out))))
          have n1_ := Aside0.mk (below_step (by repeat (first | (with_reducible first | exact HB.out | apply below_alloc | apply pw_below_drewN | apply below_drew1) | exact HB.out)) hb)
          clear HB
          have HO109 := n0_
          have HB := n1_
          clear n0_ n1_
          clear hb ho13
          refine hK.out _ _ trivial (fun hHeld => ?_)
          clear hK K
          refine norm_ (a' := ?_) ?_ ?_
          rotate_left
          · show Act.put _ (some 16) _ = _
            simp only [Act.put, List.setIfInBounds_toArray, List.set_cons_zero, List.set_cons_succ, i64_w, i32_w]
            rfl
          refine pure_ (i := 11) (N := some 3) (v := ?_) (a' := ?_) #[true, true, true, true, true, true, true, true, true, true, true, true] rfl rfl (any_of HT_.out (by kernel_rfl)) (fun _ _ _ h => h) (Or.inl ⟨by rfl, ?_⟩) ?_ ?_
          rotate_left
          · intro w'
            go_simp
            with_reducible rfl
          rotate_left
          · simp only [Act.put, List.setIfInBounds_toArray, List.set_cons_zero, List.set_cons_succ, i64_w, i32_w]
            rfl
          refine done_ (done_of HT_.out (by kernel_rfl)) ?_
          try go_wp2_with (first | ((with_reducible refine gate_dst (N := 17) rfl ?_); refine Kd.V_litconv _ 5 rfl (N := 17) (M := 18) rfl rfl rfl 29 rfl (xs := ([84, 78, 90, 86, 67] : List Int)) (inner := [.int .u8 84, .int .u8 78, .int .u8 90, .int .u8 86, .int .u8 67]) rfl ?hr ?hn Try.underlying29 Try.underlying5 (by simp) (Below.refl _ _) (Nat.le_refl _) ?_; (case hr => first | (go_simp; done) | (go_simp; rfl)); (case hn => first | rfl | (go_simp; done) | (go_simp; rfl)); intro v111 w14 ho15 hb hg_ hnew_; clear hg_ hnew_; (first | rw [← Ny110.out] at ho15 | (simp only [Int.reduceToNat] at ho15; rw [← Ny110.out] at ho15)); have n0_ := Aside0.mk (Kd.R_below (by (with_reducible repeat (first | apply Kd.R_alloc | apply Kd.R_drewN | apply Kd.R_drew)); exact HO109.out) hb); have n1_ := Aside0.mk (Kd.V_lower (Kd.V_mono (ok' := fun k_ => some k_ ≠ (v108 : Value).ownBlock) ho15 (fun k_ hk_ => (Kd.fresh' (Kd.R_lt (by (with_reducible repeat (first | apply Kd.R_alloc | apply Kd.R_drewN | apply Kd.R_drew)); exact HO109.out)) k_ hk_))) (below_size (by repeat (first | (with_reducible first | exact HB.out | apply below_alloc | apply pw_below_drewN | apply below_drew1) | exact HB.out)))); have n2_ := Aside0.mk (below_step (by repeat (first | (with_reducible first | exact HB.out | apply below_alloc | apply pw_below_drewN | apply below_drew1) | exact HB.out)) hb); clear HO109; clear HB; have HO109 := n0_; have HO112 := n1_; have HB := n2_; clear n0_ n1_ n2_; clear hb ho15; obtain ⟨Ao16, co16, eo16⟩ := Kd.V_slice HO112.out; subst eo16))
          go_loopg [3, 20] k (fun kq v3 v20 w' => ∃ (x3_1 : List Int) (x20_1 : Int), v20 = .int .i64 x20_1 ∧ Aside0 (psw_Text.l0 kq a0 x3_1 y110 (y110.length : Int) x20_1 = some r) ∧ Aside0 (kq ≤ k) ∧ Aside0 (Kd.R (Kd.int .u8) 5 w' w.heap.size (fun _ => True) v3 x3_1) ∧ Aside0 (Kd.V (Kd.int .u8) 5 w' w.heap.size (fun k_ => some k_ ≠ (v3 : Value).ownBlock) (.slice Ao16 y110.length co16) y110) ∧ Aside0 (Below w.heap.size w w'))
          case atStart => exact ⟨(y107), (0), (by first | rfl | (simp; done) | (simp [*]; done)), H', ⟨Nat.le_refl _⟩, ⟨by (with_reducible repeat (first | apply Kd.R_alloc | apply Kd.R_drewN | apply Kd.R_drew)); exact HO109.out⟩, ⟨by (with_reducible repeat (first | apply Kd.V_alloc | apply Kd.V_drewN | apply Kd.V_drew)); exact HO112.out⟩, ⟨by repeat (first | (with_reducible first | exact HB.out | apply below_alloc | apply pw_below_drewN | apply below_drew1) | exact HB.out)⟩⟩
          case round =>
            clear H'
            try clear c1
            try clear c2
            try clear p2
            try clear c3
            try clear c3b0
            try clear c4
            try clear c4b0
            try clear p5
            try clear q5
            try clear hx5
            try clear p6
            try clear c7
            try clear c7b0
            try clear c8
            try clear c8b0
            try clear p9
            try clear q9
            try clear hx9
            try clear c15
            try clear p5
            try clear p9
            try clear q5
            try clear q9
            obtain ⟨x3_1, x20_1, rfl, HA, HK1, HO_3, HO_18, HB⟩ := hrel
            cases gk with
            | zero => exact absurd HA.out (by simp [psw_Text.l0])
            | succ k1 =>
              have H := HA.out
              clear HA
              simp only [psw_Text.l0] at H
              by_cases c17 : x20_1 < (y110.length : Int)
              · rw [if_pos c17] at H
                have c17b0 : decide (x20_1 < (y110.length : Int)) = true := decide_eq_true c17
                clear c17
                by_cases c18 : 0 ≤ x20_1
                · rw [if_pos c18] at H
                  have c18b0 : decide (0 ≤ x20_1) = true := decide_eq_true c18
                  clear c18
                  by_cases c19 : x20_1 < (y110.length : Int)
                  · rw [if_pos c19] at H
                    have c19b0 : decide (x20_1 < (y110.length : Int)) = true := decide_eq_true c19
                    clear c19
                    obtain ⟨ji20, hji20⟩ : ∃ j_ : Int, (wrap64 (4 - x20_1)) = j_ := ⟨_, rfl⟩
                    replace H : (if 0 ≤ (ji20) then (if (Go.bits .and .i64 (shr .i64 a0 (ji20)) 1) = 0 then (if x3_1.length < 140737488355328 then (psw_Text.l0 k1 a0 (x3_1 ++ [45]) y110 (y110.length : Int) (wrap64 (x20_1 + 1))) else (none)) else (if x3_1.length < 140737488355328 then (psw_Text.l0 k1 a0 (x3_1 ++ [rd y110 x20_1]) y110 (y110.length : Int) (wrap64 (x20_1 + 1))) else (none))) else (none)) = some r := by first | (rw [hji20] at H; exact H) | (simp only [hji20] at H ⊢; exact H)
                    have hji20w : (IntKind.i64.wrap (4 - x20_1)) = ji20 := (i64_w _).trans hji20
                    by_cases c21 : 0 ≤ (ji20)
                    · rw [if_pos c21] at H
                      have c21b0 := eq_true c21
                      have c21b1 : decide (0 ≤ (ji20)) = true := decide_eq_true c21
                      clear c21
                      obtain ⟨ji22, hji22⟩ : ∃ j_ : Int, (shr .i64 a0 (ji20)) = j_ := ⟨_, rfl⟩
                      replace H : (if (Go.bits .and .i64 (ji22) 1) = 0 then (if x3_1.length < 140737488355328 then (psw_Text.l0 k1 a0 (x3_1 ++ [45]) y110 (y110.length : Int) (wrap64 (x20_1 + 1))) else (none)) else (if x3_1.length < 140737488355328 then (psw_Text.l0 k1 a0 (x3_1 ++ [rd y110 x20_1]) y110 (y110.length : Int) (wrap64 (x20_1 + 1))) else (none))) = some r := by first | (rw [hji22] at H; exact H) | (simp only [hji22] at H ⊢; exact H)
                      have hji22_ : (a0 / 2 ^ min (ji20).toNat 64) = ji22 := hji22
                      have hji22z : (ji20) ≤ 64 → (a0 / 2 ^ (ji20).toNat) = ji22 := shr_small hji22
                      by_cases c23 : (Go.bits .and .i64 (ji22) 1) = 0
                      · rw [if_pos c23] at H
                        have c23b0 : ((Go.bits .and .i64 (ji22) 1) == 0) = true := beq_iff_eq.mpr c23
                        have c23b1 : ((Go.bits .and .i64 (ji22) 1) != 0) = false := bne_eq_false_iff_eq.mpr c23
                        clear c23
                        by_cases c24 : x3_1.length < 140737488355328
                        · rw [if_pos c24] at H
                          have LMc24 := Aside0.mk c24
                          clear c24
                          obtain ⟨y114, hy114⟩ : ∃ y_ : List Int, y_ = (x3_1 ++ [45]) := ⟨_, rfl⟩
                          replace H : (psw_Text.l0 k1 a0 y114 y110 (y110.length : Int) (wrap64 (x20_1 + 1))) = some r := by first | (rw [hy114]; with_reducible exact H) | (have H2_ := (Option.bind_some _ _).symm.trans H; rw [hy114]; with_reducible exact H2_) | (have H2_ := (Option.bind_some _ _).symm.trans H; with_reducible exact H2_) | with_reducible exact H | (rw [hy114]; exact H) | exact H
                          have Ny114 := Aside0.mk hy114
                          clear hy114
                          have H' := Aside0.mk H
                          clear H
                          have p113 : 0 ≤ (x20_1 : Int) := of_decide_eq_true (by first | (with_reducible assumption) | assumption)
                          have q113 : x20_1 < (y110.length : Int) := of_decide_eq_true (by first | (with_reducible assumption) | assumption)
                          obtain ⟨ad113, e113, hx113_0⟩ := Kd.at_int (Kd.V_reads' HO_18.out).2.2 x20_1 p113 q113
                          cases e113
                          replace p113 := eq_true p113
                          replace q113 := eq_true q113
                          go_wp2_with (first | ((with_reducible refine gate_builtin (b := .append) (xs := #[.tmp 31, .tmp 33]) rfl ?_); at_builtin; refine Kd.R_append (Kd.int .u8) (w0 := w) w.heap.size rfl (.tmp 31) (.tmp 33) 29 5 (.int .u8 0) 1 rfl Try.underlying29 info5 rfl (by decide) (by omega) u3 x3_1 45 [.int .u8 45] (fun _ => True) (fun _ => False) rfl rfl ?aP (fun _ hk => hk.elim) ?aF ?aO ?aB ?aS ?aL ?_; (case aP => exact rfl); (case aB => exact (by repeat (first | (with_reducible first | exact HB.out | apply below_alloc | apply pw_below_drewN | apply below_drew1) | exact HB.out))); (case aF => exact (fun _ _ => trivial)); (case aO => exact (by (with_reducible repeat (first | apply Kd.R_alloc | apply Kd.R_drewN | apply Kd.R_drew)); exact HO_3.out)); (case aS => exact (below_size (by repeat (first | (with_reducible first | exact HB.out | apply below_alloc | apply pw_below_drewN | apply below_drew1) | exact HB.out)))); (case aL => have := LMc24.out; omega); intro v115 w25 ho hb hg hat; rw [← Ny114.out] at ho; have n0_ := Aside0.mk (Kd.V_afterv (ok := (fun _ => True)) (by (with_reducible repeat (first | apply Kd.V_alloc | apply Kd.V_drewN | apply Kd.V_drew)); exact Kd.V_mono HO_18.out (fun _ hk => ⟨trivial, hk⟩)) hg hat); have n1_ := Aside0.mk (hb); have n2_ := Aside0.mk (ho); clear HO_18; clear HB; clear HO_3; have HO_18 := n0_; have HB := n1_; have HO116 := n2_; clear n0_ n1_ n2_; clear ho hb hg hat))
                          go_roundg k1
                          case measure => have := HK1.out; omega
                          case rel => exact ⟨(y114), (wrap64 (x20_1 + 1)), (by first | rfl | (simp; done) | (simp [*]; done)), H', ⟨by have := HK1.out; omega⟩, ⟨by (with_reducible repeat (first | apply Kd.R_alloc | apply Kd.R_drewN | apply Kd.R_drew)); exact HO116.out⟩, ⟨by (with_reducible repeat (first | apply Kd.V_alloc | apply Kd.V_drewN | apply Kd.V_drew)); exact Kd.V_mono HO_18.out (fun _ hk => hk.2)⟩, ⟨by repeat (first | (with_reducible first | exact HB.out | apply below_alloc | apply pw_below_drewN | apply below_drew1) | exact HB.out)⟩⟩
                        · rw [if_neg c24] at H
                          exact absurd H (by simp)
                      · rw [if_neg c23] at H
                        have c23b0 : ((Go.bits .and .i64 (ji22) 1) == 0) = false := beq_eq_false_iff_ne.mpr c23
                        have c23b1 : ((Go.bits .and .i64 (ji22) 1) != 0) = true := bne_iff_ne.mpr c23
                        by_cases c26 : x3_1.length < 140737488355328
                        · rw [if_pos c26] at H
                          have LMc26 := Aside0.mk c26
                          clear c26
                          obtain ⟨y117, hy117⟩ : ∃ y_ : List Int, y_ = (x3_1 ++ [rd y110 x20_1]) := ⟨_, rfl⟩
                          replace H : (psw_Text.l0 k1 a0 y117 y110 (y110.length : Int) (wrap64 (x20_1 + 1))) = some r := by first | (rw [hy117]; with_reducible exact H) | (have H2_ := (Option.bind_some _ _).symm.trans H; rw [hy117]; with_reducible exact H2_) | (have H2_ := (Option.bind_some _ _).symm.trans H; with_reducible exact H2_) | with_reducible exact H | (rw [hy117]; exact H) | exact H
                          have Ny117 := Aside0.mk hy117
                          clear hy117
                          have H' := Aside0.mk H
                          clear H
                          have p113 : 0 ≤ (x20_1 : Int) := of_decide_eq_true (by first | (with_reducible assumption) | assumption)
                          have q113 : x20_1 < (y110.length : Int) := of_decide_eq_true (by first | (with_reducible assumption) | assumption)
                          obtain ⟨ad113, e113, hx113_0⟩ := Kd.at_int (Kd.V_reads' HO_18.out).2.2 x20_1 p113 q113
                          cases e113
                          replace p113 := eq_true p113
                          replace q113 := eq_true q113
                          go_wp2_with (first | ((with_reducible refine gate_builtin (b := .append) (xs := #[.tmp 31, .tmp 33]) rfl ?_); at_builtin; refine Kd.R_append (Kd.int .u8) (w0 := w) w.heap.size rfl (.tmp 31) (.tmp 33) 29 5 (.int .u8 0) 1 rfl Try.underlying29 info5 rfl (by decide) (by omega) u3 x3_1 (rd y110 x20_1) [.int .u8 (rd y110 x20_1)] (fun _ => True) (fun _ => False) rfl rfl ?aP (fun _ hk => hk.elim) ?aF ?aO ?aB ?aS ?aL ?_; (case aP => exact rfl); (case aB => exact (by repeat (first | (with_reducible first | exact HB.out | apply below_alloc | apply pw_below_drewN | apply below_drew1) | exact HB.out))); (case aF => exact (fun _ _ => trivial)); (case aO => exact (by (with_reducible repeat (first | apply Kd.R_alloc | apply Kd.R_drewN | apply Kd.R_drew)); exact HO_3.out)); (case aS => exact (below_size (by repeat (first | (with_reducible first | exact HB.out | apply below_alloc | apply pw_below_drewN | apply below_drew1) | exact HB.out)))); (case aL => have := LMc26.out; omega); intro v118 w27 ho hb hg hat; rw [← Ny117.out] at ho; have n0_ := Aside0.mk (Kd.V_afterv (ok := (fun _ => True)) (by (with_reducible repeat (first | apply Kd.V_alloc | apply Kd.V_drewN | apply Kd.V_drew)); exact Kd.V_mono HO_18.out (fun _ hk => ⟨trivial, hk⟩)) hg hat); have n1_ := Aside0.mk (hb); have n2_ := Aside0.mk (ho); clear HO_18; clear HB; clear HO_3; have HO_18 := n0_; have HB := n1_; have HO119 := n2_; clear n0_ n1_ n2_; clear ho hb hg hat))
                          go_roundg k1
                          case measure => have := HK1.out; omega
                          case rel => exact ⟨(y117), (wrap64 (x20_1 + 1)), (by first | rfl | (simp; done) | (simp [*]; done)), H', ⟨by have := HK1.out; omega⟩, ⟨by (with_reducible repeat (first | apply Kd.R_alloc | apply Kd.R_drewN | apply Kd.R_drew)); exact HO119.out⟩, ⟨by (with_reducible repeat (first | apply Kd.V_alloc | apply Kd.V_drewN | apply Kd.V_drew)); exact Kd.V_mono HO_18.out (fun _ hk => hk.2)⟩, ⟨by repeat (first | (with_reducible first | exact HB.out | apply below_alloc | apply pw_below_drewN | apply below_drew1) | exact HB.out)⟩⟩
                        · rw [if_neg c26] at H
                          exact absurd H (by simp)
                    · rw [if_neg c21] at H
                      exact absurd H (by simp)
                  · rw [if_neg c19] at H
                    exact absurd H (by simp)
                · rw [if_neg c18] at H
                  exact absurd H (by simp)
              · rw [if_neg c17] at H
                have c17b0 : decide (x20_1 < (y110.length : Int)) = false := decide_eq_false c17
                clear c17
                obtain rfl := Option.some.inj H
                have hcv28 := own_string (P := Try.prog) Try.underlying29 Try.underlying5 Try.underlying9 (Kd.own_of_R HO_3.out)
                go_wp2
                go_ret
                exact ⟨by first | rfl | (simp [errW_none, errW_some] <;> rfl) | (simp [*, errW_none, errW_some] <;> rfl), by repeat (first | (with_reducible first | exact HB.out | apply below_alloc | apply pw_below_drewN | apply below_drew1) | exact HB.out)⟩
        · rw [if_neg c8] at H
          exact absurd H (by simp)
      · rw [if_neg c7] at H
        exact absurd H (by simp)
    · rw [if_neg c4] at H
      exact absurd H (by simp)
  · rw [if_neg c3] at H
    exact absurd H (by simp)

/-! ### psw_Valid: function 17 -/
def psw_Valid.f (a0 : Int) : Option (Bool) := some ((Go.bits .and .i64 a0 49407) == a0)
set_option maxHeartbeats 8000000 in
set_option maxRecDepth 100000 in
theorem psw_Valid.calls (a0 : Int) (r : Bool) (w : World) (h : psw_Valid.f a0 = some r) :
    Calls Try.prog 17 #[.int .i64 a0] w fun e w' => e = .returned (.bool r) ∧ Drawn0 w w' := by
  have H : (some ((Go.bits .and .i64 a0 49407) == a0)) = some r := h
  clear h
  obtain rfl := Option.some.inj H
  go_enter Try.func17, Try.ntmps17
  go_wp2
  go_ret
  exact ⟨by first | rfl | (simp; done) | (simp [*]; done), by repeat (first | exact Drawn0.refl _ | apply Drawn0.step)⟩

/-! ### emulatorlaw04_alive: function 14 -/
def emulatorlaw04_alive.f (k : Nat)  : Option (Bool) := (psw_Valid.f 49407).bind fun t120 => (if t120 = true then ((psw_Valid.f 256).bind fun t121 => (if t121 = true then (some false) else ((psw_Enter.f 49167 224).bind fun t122 => (if t122 = 16608 then ((psw_Return.f 49152 255).bind fun t123 => (if t123 = 49183 then ((psw_Text.f k 49397).bind fun t124 => (if t124.toList = ([117, 117, 55, 84, 45, 90, 45, 67] : List UInt8) then ((psw_WithFlags.f 0 5).bind fun t125 => (some (t125 == 5))) else (some false))) else (some false))) else (some false))))) else (some false))
theorem emulatorlaw04_alive.mono : ∀ k, LeO (emulatorlaw04_alive.f k ) (emulatorlaw04_alive.f (k + 1) ) := by
  intro  k
  unfold emulatorlaw04_alive.f
  repeat' first
      | (with_reducible exact psw_Text.mono _ _)
      | (with_reducible exact LeO.refl _)
      | (with_reducible exact LeO.none _)
      | (with_reducible refine LeO.ite ?_ ?_)
      | (with_reducible refine LeO.bind ?_ (fun _ => ?_))
      | exact psw_Text.mono _ _
      | exact LeO.none _
      | refine LeO.ite ?_ ?_
      | refine LeO.bind ?_ (fun _ => ?_)
set_option maxHeartbeats 8000000 in
set_option maxRecDepth 100000 in
theorem emulatorlaw04_alive.calls (k : Nat)  (r : Bool) (w : World) (h : emulatorlaw04_alive.f k  = some r) :
    Calls Try.prog 14 #[] w fun e w' => e = .returned (.bool r) ∧ Below w.heap.size w w' := by
  have HB := Aside0.mk (Below.refl w.heap.size w)
  have H : ((psw_Valid.f 49407).bind fun t120 => (if t120 = true then ((psw_Valid.f 256).bind fun t121 => (if t121 = true then (some false) else ((psw_Enter.f 49167 224).bind fun t122 => (if t122 = 16608 then ((psw_Return.f 49152 255).bind fun t123 => (if t123 = 49183 then ((psw_Text.f k 49397).bind fun t124 => (if t124.toList = ([117, 117, 55, 84, 45, 90, 45, 67] : List UInt8) then ((psw_WithFlags.f 0 5).bind fun t125 => (some (t125 == 5))) else (some false))) else (some false))) else (some false))))) else (some false))) = some r := h
  clear h
  replace H := Option.bind_eq_some_iff.mp H
  obtain ⟨t120, A10, H⟩ := H
  replace H : (if t120 = true then ((psw_Valid.f 256).bind fun t121 => (if t121 = true then (some false) else ((psw_Enter.f 49167 224).bind fun t122 => (if t122 = 16608 then ((psw_Return.f 49152 255).bind fun t123 => (if t123 = 49183 then ((psw_Text.f k 49397).bind fun t124 => (if t124.toList = ([117, 117, 55, 84, 45, 90, 45, 67] : List UInt8) then ((psw_WithFlags.f 0 5).bind fun t125 => (some (t125 == 5))) else (some false))) else (some false))) else (some false))))) else (some false)) = some r := H
  have A1 := Aside0.mk A10
  clear A10
  by_cases c2 : t120 = true
  · subst c2
    have H1 : ((psw_Valid.f 256).bind fun t121 => (if t121 = true then (some false) else ((psw_Enter.f 49167 224).bind fun t122 => (if t122 = 16608 then ((psw_Return.f 49152 255).bind fun t123 => (if t123 = 49183 then ((psw_Text.f k 49397).bind fun t124 => (if t124.toList = ([117, 117, 55, 84, 45, 90, 45, 67] : List UInt8) then ((psw_WithFlags.f 0 5).bind fun t125 => (some (t125 == 5))) else (some false))) else (some false))) else (some false))))) = some r := by rw [if_pos rfl] at H; exact H
    clear H
    have H := H1
    clear H1
    replace H := Option.bind_eq_some_iff.mp H
    obtain ⟨t121, A30, H⟩ := H
    replace H : (if t121 = true then (some false) else ((psw_Enter.f 49167 224).bind fun t122 => (if t122 = 16608 then ((psw_Return.f 49152 255).bind fun t123 => (if t123 = 49183 then ((psw_Text.f k 49397).bind fun t124 => (if t124.toList = ([117, 117, 55, 84, 45, 90, 45, 67] : List UInt8) then ((psw_WithFlags.f 0 5).bind fun t125 => (some (t125 == 5))) else (some false))) else (some false))) else (some false)))) = some r := H
    have A3 := Aside0.mk A30
    clear A30
    by_cases c4 : t121 = true
    · subst c4
      have H1 : (some false) = some r := by rw [if_pos rfl] at H; exact H
      clear H
      have H := H1
      clear H1
      obtain rfl := Option.some.inj H
      go_enter Try.func14, Try.ntmps14
      go_wp2_with (first | ((with_reducible refine gate_callee (f := 17) rfl ?_); refine goesL_ (some 1) rfl rfl Try.func17 (by kernel_rfl) rfl #[.int .i64 49407] rfl (by (try simp only [List.map_toArray, List.map_cons, List.map_nil]); first | done | rfl | (simp only [List.length_drop, List.length_take]; rfl) | (simp only [ByteArray.size_extract, Nat.sub_zero]; rfl) | (simp only [ByteArray.size_extract, Nat.sub_zero]; done)) ?_; (with_reducible refine (psw_Valid.calls 49407 true _ A1.out).mono ?_); rintro e w' ⟨rfl, ⟨nd, rfl⟩⟩; refine ⟨_, rfl, ?_⟩) | (go_at_call 17; (with_reducible refine (psw_Valid.calls 256 true _ A3.out).mono ?_); rintro e w' ⟨rfl, ⟨nd, rfl⟩⟩))
      go_ret
      exact ⟨by first | rfl | (simp [errW_none, errW_some] <;> rfl) | (simp [*, errW_none, errW_some] <;> rfl), by repeat (first | (with_reducible first | exact HB.out | apply below_alloc | apply pw_below_drewN | apply below_drew1) | exact HB.out)⟩
    · replace c4 := Bool.eq_false_iff.mpr c4
      subst c4
      have H1 : ((psw_Enter.f 49167 224).bind fun t122 => (if t122 = 16608 then ((psw_Return.f 49152 255).bind fun t123 => (if t123 = 49183 then ((psw_Text.f k 49397).bind fun t124 => (if t124.toList = ([117, 117, 55, 84, 45, 90, 45, 67] : List UInt8) then ((psw_WithFlags.f 0 5).bind fun t125 => (some (t125 == 5))) else (some false))) else (some false))) else (some false))) = some r := by rw [if_neg (show ¬ (false = true) by decide)] at H; exact H
      clear H
      have H := H1
      clear H1
      replace H := Option.bind_eq_some_iff.mp H
      obtain ⟨t122, A50, H⟩ := H
      replace H : (if t122 = 16608 then ((psw_Return.f 49152 255).bind fun t123 => (if t123 = 49183 then ((psw_Text.f k 49397).bind fun t124 => (if t124.toList = ([117, 117, 55, 84, 45, 90, 45, 67] : List UInt8) then ((psw_WithFlags.f 0 5).bind fun t125 => (some (t125 == 5))) else (some false))) else (some false))) else (some false)) = some r := H
      have A5 := Aside0.mk A50
      clear A50
      by_cases c6 : t122 = 16608
      · rw [if_pos c6] at H
        have c6b0 : (t122 == 16608) = true := beq_iff_eq.mpr c6
        have c6b1 : (t122 != 16608) = false := bne_eq_false_iff_eq.mpr c6
        clear c6
        replace H := Option.bind_eq_some_iff.mp H
        obtain ⟨t123, A70, H⟩ := H
        replace H : (if t123 = 49183 then ((psw_Text.f k 49397).bind fun t124 => (if t124.toList = ([117, 117, 55, 84, 45, 90, 45, 67] : List UInt8) then ((psw_WithFlags.f 0 5).bind fun t125 => (some (t125 == 5))) else (some false))) else (some false)) = some r := H
        have A7 := Aside0.mk A70
        clear A70
        by_cases c8 : t123 = 49183
        · rw [if_pos c8] at H
          have c8b0 : (t123 == 49183) = true := beq_iff_eq.mpr c8
          have c8b1 : (t123 != 49183) = false := bne_eq_false_iff_eq.mpr c8
          clear c8
          replace H := Option.bind_eq_some_iff.mp H
          obtain ⟨t124, A90, H⟩ := H
          replace H : (if t124.toList = ([117, 117, 55, 84, 45, 90, 45, 67] : List UInt8) then ((psw_WithFlags.f 0 5).bind fun t125 => (some (t125 == 5))) else (some false)) = some r := H
          have A9 := Aside0.mk A90
          clear A90
          by_cases c10 : t124.toList = ([117, 117, 55, 84, 45, 90, 45, 67] : List UInt8)
          · rw [if_pos c10] at H
            have c10b0 : (t124.toList == ([117, 117, 55, 84, 45, 90, 45, 67] : List UInt8)) = true := beq_iff_eq.mpr c10
            have c10b1 : (t124.toList != ([117, 117, 55, 84, 45, 90, 45, 67] : List UInt8)) = false := bne_eq_false_iff_eq.mpr c10
            clear c10
            replace H := Option.bind_eq_some_iff.mp H
            obtain ⟨t125, A110, H⟩ := H
            replace H : (some (t125 == 5)) = some r := H
            have A11 := Aside0.mk A110
            clear A110
            obtain rfl := Option.some.inj H
            go_enter Try.func14, Try.ntmps14
            go_wp2_with (first | ((with_reducible refine gate_callee (f := 17) rfl ?_); refine goesL_ (some 1) rfl rfl Try.func17 (by kernel_rfl) rfl #[.int .i64 49407] rfl (by (try simp only [List.map_toArray, List.map_cons, List.map_nil]); first | done | rfl | (simp only [List.length_drop, List.length_take]; rfl) | (simp only [ByteArray.size_extract, Nat.sub_zero]; rfl) | (simp only [ByteArray.size_extract, Nat.sub_zero]; done)) ?_; (with_reducible refine (psw_Valid.calls 49407 true _ A1.out).mono ?_); rintro e w' ⟨rfl, ⟨nd, rfl⟩⟩; refine ⟨_, rfl, ?_⟩) | (go_at_call 17; (with_reducible refine (psw_Valid.calls 256 false _ A3.out).mono ?_); rintro e w' ⟨rfl, ⟨nd, rfl⟩⟩) | (go_at_call 10; (with_reducible refine (psw_Enter.calls 49167 224 t122 _ A5.out).mono ?_); rintro e w' ⟨rfl, ⟨nd, rfl⟩⟩) | (go_at_call 12; (with_reducible refine (psw_Return.calls 49152 255 t123 _ A7.out).mono ?_); rintro e w' ⟨rfl, ⟨nd, rfl⟩⟩) | (go_at_call 15; (with_reducible refine (psw_Text.calls k 49397 t124 _ A9.out).mono ?_); rintro e w12 ⟨rfl, hb⟩; have n0_ := Aside0.mk (below_step (by repeat (first | (with_reducible first | exact HB.out | apply below_alloc | apply pw_below_drewN | apply below_drew1) | exact HB.out)) hb); clear HB; have HB := n0_; clear n0_; (try clear hb); (try clear hb2); (try clear hk); (try clear hi)) | (go_at_call 8; (with_reducible refine (psw_WithFlags.calls 0 5 t125 _ A11.out).mono ?_); rintro e w' ⟨rfl, ⟨nd, rfl⟩⟩))
            go_ret
            exact ⟨by first | rfl | (simp [errW_none, errW_some] <;> rfl) | (simp [*, errW_none, errW_some] <;> rfl), by repeat (first | (with_reducible first | exact HB.out | apply below_alloc | apply pw_below_drewN | apply below_drew1) | exact HB.out)⟩
          · rw [if_neg c10] at H
            have c10b0 : (t124.toList == ([117, 117, 55, 84, 45, 90, 45, 67] : List UInt8)) = false := beq_eq_false_iff_ne.mpr c10
            have c10b1 : (t124.toList != ([117, 117, 55, 84, 45, 90, 45, 67] : List UInt8)) = true := bne_iff_ne.mpr c10
            obtain rfl := Option.some.inj H
            go_enter Try.func14, Try.ntmps14
            go_wp2_with (first | ((with_reducible refine gate_callee (f := 17) rfl ?_); refine goesL_ (some 1) rfl rfl Try.func17 (by kernel_rfl) rfl #[.int .i64 49407] rfl (by (try simp only [List.map_toArray, List.map_cons, List.map_nil]); first | done | rfl | (simp only [List.length_drop, List.length_take]; rfl) | (simp only [ByteArray.size_extract, Nat.sub_zero]; rfl) | (simp only [ByteArray.size_extract, Nat.sub_zero]; done)) ?_; (with_reducible refine (psw_Valid.calls 49407 true _ A1.out).mono ?_); rintro e w' ⟨rfl, ⟨nd, rfl⟩⟩; refine ⟨_, rfl, ?_⟩) | (go_at_call 17; (with_reducible refine (psw_Valid.calls 256 false _ A3.out).mono ?_); rintro e w' ⟨rfl, ⟨nd, rfl⟩⟩) | (go_at_call 10; (with_reducible refine (psw_Enter.calls 49167 224 t122 _ A5.out).mono ?_); rintro e w' ⟨rfl, ⟨nd, rfl⟩⟩) | (go_at_call 12; (with_reducible refine (psw_Return.calls 49152 255 t123 _ A7.out).mono ?_); rintro e w' ⟨rfl, ⟨nd, rfl⟩⟩) | (go_at_call 15; (with_reducible refine (psw_Text.calls k 49397 t124 _ A9.out).mono ?_); rintro e w13 ⟨rfl, hb⟩; have n0_ := Aside0.mk (below_step (by repeat (first | (with_reducible first | exact HB.out | apply below_alloc | apply pw_below_drewN | apply below_drew1) | exact HB.out)) hb); clear HB; have HB := n0_; clear n0_; (try clear hb); (try clear hb2); (try clear hk); (try clear hi)))
            go_ret
            exact ⟨by first | rfl | (simp [errW_none, errW_some] <;> rfl) | (simp [*, errW_none, errW_some] <;> rfl), by repeat (first | (with_reducible first | exact HB.out | apply below_alloc | apply pw_below_drewN | apply below_drew1) | exact HB.out)⟩
        · rw [if_neg c8] at H
          have c8b0 : (t123 == 49183) = false := beq_eq_false_iff_ne.mpr c8
          have c8b1 : (t123 != 49183) = true := bne_iff_ne.mpr c8
          obtain rfl := Option.some.inj H
          go_enter Try.func14, Try.ntmps14
          go_wp2_with (first | ((with_reducible refine gate_callee (f := 17) rfl ?_); refine goesL_ (some 1) rfl rfl Try.func17 (by kernel_rfl) rfl #[.int .i64 49407] rfl (by (try simp only [List.map_toArray, List.map_cons, List.map_nil]); first | done | rfl | (simp only [List.length_drop, List.length_take]; rfl) | (simp only [ByteArray.size_extract, Nat.sub_zero]; rfl) | (simp only [ByteArray.size_extract, Nat.sub_zero]; done)) ?_; (with_reducible refine (psw_Valid.calls 49407 true _ A1.out).mono ?_); rintro e w' ⟨rfl, ⟨nd, rfl⟩⟩; refine ⟨_, rfl, ?_⟩) | (go_at_call 17; (with_reducible refine (psw_Valid.calls 256 false _ A3.out).mono ?_); rintro e w' ⟨rfl, ⟨nd, rfl⟩⟩) | (go_at_call 10; (with_reducible refine (psw_Enter.calls 49167 224 t122 _ A5.out).mono ?_); rintro e w' ⟨rfl, ⟨nd, rfl⟩⟩) | (go_at_call 12; (with_reducible refine (psw_Return.calls 49152 255 t123 _ A7.out).mono ?_); rintro e w' ⟨rfl, ⟨nd, rfl⟩⟩))
          go_ret
          exact ⟨by first | rfl | (simp [errW_none, errW_some] <;> rfl) | (simp [*, errW_none, errW_some] <;> rfl), by repeat (first | (with_reducible first | exact HB.out | apply below_alloc | apply pw_below_drewN | apply below_drew1) | exact HB.out)⟩
      · rw [if_neg c6] at H
        have c6b0 : (t122 == 16608) = false := beq_eq_false_iff_ne.mpr c6
        have c6b1 : (t122 != 16608) = true := bne_iff_ne.mpr c6
        obtain rfl := Option.some.inj H
        go_enter Try.func14, Try.ntmps14
        go_wp2_with (first | ((with_reducible refine gate_callee (f := 17) rfl ?_); refine goesL_ (some 1) rfl rfl Try.func17 (by kernel_rfl) rfl #[.int .i64 49407] rfl (by (try simp only [List.map_toArray, List.map_cons, List.map_nil]); first | done | rfl | (simp only [List.length_drop, List.length_take]; rfl) | (simp only [ByteArray.size_extract, Nat.sub_zero]; rfl) | (simp only [ByteArray.size_extract, Nat.sub_zero]; done)) ?_; (with_reducible refine (psw_Valid.calls 49407 true _ A1.out).mono ?_); rintro e w' ⟨rfl, ⟨nd, rfl⟩⟩; refine ⟨_, rfl, ?_⟩) | (go_at_call 17; (with_reducible refine (psw_Valid.calls 256 false _ A3.out).mono ?_); rintro e w' ⟨rfl, ⟨nd, rfl⟩⟩) | (go_at_call 10; (with_reducible refine (psw_Enter.calls 49167 224 t122 _ A5.out).mono ?_); rintro e w' ⟨rfl, ⟨nd, rfl⟩⟩))
        go_ret
        exact ⟨by first | rfl | (simp [errW_none, errW_some] <;> rfl) | (simp [*, errW_none, errW_some] <;> rfl), by repeat (first | (with_reducible first | exact HB.out | apply below_alloc | apply pw_below_drewN | apply below_drew1) | exact HB.out)⟩
  · replace c2 := Bool.eq_false_iff.mpr c2
    subst c2
    have H1 : (some false) = some r := by rw [if_neg (show ¬ (false = true) by decide)] at H; exact H
    clear H
    have H := H1
    clear H1
    obtain rfl := Option.some.inj H
    go_enter Try.func14, Try.ntmps14
    go_wp2_with (first | ((with_reducible refine gate_callee (f := 17) rfl ?_); refine goesL_ (some 1) rfl rfl Try.func17 (by kernel_rfl) rfl #[.int .i64 49407] rfl (by (try simp only [List.map_toArray, List.map_cons, List.map_nil]); first | done | rfl | (simp only [List.length_drop, List.length_take]; rfl) | (simp only [ByteArray.size_extract, Nat.sub_zero]; rfl) | (simp only [ByteArray.size_extract, Nat.sub_zero]; done)) ?_; (with_reducible refine (psw_Valid.calls 49407 false _ A1.out).mono ?_); rintro e w' ⟨rfl, ⟨nd, rfl⟩⟩; refine ⟨_, rfl, ?_⟩))
    go_ret
    exact ⟨by first | rfl | (simp [errW_none, errW_some] <;> rfl) | (simp [*, errW_none, errW_some] <;> rfl), by repeat (first | (with_reducible first | exact HB.out | apply below_alloc | apply pw_below_drewN | apply below_drew1) | exact HB.out)⟩

/-! ### emulatorlaw04_PswForms: function 3 -/
def emulatorlaw04_PswForms.f (k : Nat) (a0 : Int) (a1 : Int) : Option (Bool) := (psw_WithFlags.f a0 a1).bind fun t126 => ((emulatorref04_WithFlags.f a0 a1).bind fun t127 => (if t126 = t127 then ((psw_Enter.f a0 a1).bind fun t128 => ((emulatorref04_Enter.f a0 a1).bind fun t129 => (if t128 = t129 then ((psw_Return.f a0 a1).bind fun t130 => ((emulatorref04_Return.f a0 a1).bind fun t131 => (if t130 = t131 then ((emulatorlaw04_alive.f k).bind fun t132 => (some t132)) else (some false)))) else (some false)))) else (some false)))
theorem emulatorlaw04_PswForms.mono : ∀ a0 a1 k, LeO (emulatorlaw04_PswForms.f k a0 a1) (emulatorlaw04_PswForms.f (k + 1) a0 a1) := by
  intro a0 a1 k
  unfold emulatorlaw04_PswForms.f
  repeat' first
      | (with_reducible exact emulatorlaw04_alive.mono _)
      | (with_reducible exact LeO.refl _)
      | (with_reducible exact LeO.none _)
      | (with_reducible refine LeO.ite ?_ ?_)
      | (with_reducible refine LeO.bind ?_ (fun _ => ?_))
      | exact emulatorlaw04_alive.mono _
      | exact LeO.none _
      | refine LeO.ite ?_ ?_
      | refine LeO.bind ?_ (fun _ => ?_)
set_option maxHeartbeats 8000000 in
set_option maxRecDepth 100000 in
theorem emulatorlaw04_PswForms.calls (k : Nat) (a0 : Int) (a1 : Int) (r : Bool) (w : World) (h : emulatorlaw04_PswForms.f k a0 a1 = some r) :
    Calls Try.prog 3 #[.int .i64 a0, .int .i64 a1] w fun e w' => e = .returned (.bool r) ∧ Below w.heap.size w w' := by
  have HB := Aside0.mk (Below.refl w.heap.size w)
  have H : ((psw_WithFlags.f a0 a1).bind fun t126 => ((emulatorref04_WithFlags.f a0 a1).bind fun t127 => (if t126 = t127 then ((psw_Enter.f a0 a1).bind fun t128 => ((emulatorref04_Enter.f a0 a1).bind fun t129 => (if t128 = t129 then ((psw_Return.f a0 a1).bind fun t130 => ((emulatorref04_Return.f a0 a1).bind fun t131 => (if t130 = t131 then ((emulatorlaw04_alive.f k).bind fun t132 => (some t132)) else (some false)))) else (some false)))) else (some false)))) = some r := h
  clear h
  replace H := Option.bind_eq_some_iff.mp H
  obtain ⟨t126, A30, H⟩ := H
  replace H : ((emulatorref04_WithFlags.f a0 a1).bind fun t127 => (if t126 = t127 then ((psw_Enter.f a0 a1).bind fun t128 => ((emulatorref04_Enter.f a0 a1).bind fun t129 => (if t128 = t129 then ((psw_Return.f a0 a1).bind fun t130 => ((emulatorref04_Return.f a0 a1).bind fun t131 => (if t130 = t131 then ((emulatorlaw04_alive.f k).bind fun t132 => (some t132)) else (some false)))) else (some false)))) else (some false))) = some r := H
  have A3 := Aside0.mk A30
  clear A30
  replace H := Option.bind_eq_some_iff.mp H
  obtain ⟨t127, A40, H⟩ := H
  replace H : (if t126 = t127 then ((psw_Enter.f a0 a1).bind fun t128 => ((emulatorref04_Enter.f a0 a1).bind fun t129 => (if t128 = t129 then ((psw_Return.f a0 a1).bind fun t130 => ((emulatorref04_Return.f a0 a1).bind fun t131 => (if t130 = t131 then ((emulatorlaw04_alive.f k).bind fun t132 => (some t132)) else (some false)))) else (some false)))) else (some false)) = some r := H
  have A4 := Aside0.mk A40
  clear A40
  by_cases c5 : t126 = t127
  · rw [if_pos c5] at H
    have c5b0 : (t126 == t127) = true := beq_iff_eq.mpr c5
    have c5b1 : (t126 != t127) = false := bne_eq_false_iff_eq.mpr c5
    clear c5
    replace H := Option.bind_eq_some_iff.mp H
    obtain ⟨t128, A60, H⟩ := H
    replace H : ((emulatorref04_Enter.f a0 a1).bind fun t129 => (if t128 = t129 then ((psw_Return.f a0 a1).bind fun t130 => ((emulatorref04_Return.f a0 a1).bind fun t131 => (if t130 = t131 then ((emulatorlaw04_alive.f k).bind fun t132 => (some t132)) else (some false)))) else (some false))) = some r := H
    have A6 := Aside0.mk A60
    clear A60
    replace H := Option.bind_eq_some_iff.mp H
    obtain ⟨t129, A70, H⟩ := H
    replace H : (if t128 = t129 then ((psw_Return.f a0 a1).bind fun t130 => ((emulatorref04_Return.f a0 a1).bind fun t131 => (if t130 = t131 then ((emulatorlaw04_alive.f k).bind fun t132 => (some t132)) else (some false)))) else (some false)) = some r := H
    have A7 := Aside0.mk A70
    clear A70
    by_cases c8 : t128 = t129
    · rw [if_pos c8] at H
      have c8b0 : (t128 == t129) = true := beq_iff_eq.mpr c8
      have c8b1 : (t128 != t129) = false := bne_eq_false_iff_eq.mpr c8
      clear c8
      replace H := Option.bind_eq_some_iff.mp H
      obtain ⟨t130, A90, H⟩ := H
      replace H : ((emulatorref04_Return.f a0 a1).bind fun t131 => (if t130 = t131 then ((emulatorlaw04_alive.f k).bind fun t132 => (some t132)) else (some false))) = some r := H
      have A9 := Aside0.mk A90
      clear A90
      replace H := Option.bind_eq_some_iff.mp H
      obtain ⟨t131, A100, H⟩ := H
      replace H : (if t130 = t131 then ((emulatorlaw04_alive.f k).bind fun t132 => (some t132)) else (some false)) = some r := H
      have A10 := Aside0.mk A100
      clear A100
      by_cases c11 : t130 = t131
      · rw [if_pos c11] at H
        have c11b0 : (t130 == t131) = true := beq_iff_eq.mpr c11
        have c11b1 : (t130 != t131) = false := bne_eq_false_iff_eq.mpr c11
        clear c11
        replace H := Option.bind_eq_some_iff.mp H
        obtain ⟨t132, A120, H⟩ := H
        replace H : (some t132) = some r := H
        have A12 := Aside0.mk A120
        clear A120
        obtain rfl := Option.some.inj H
        go_enter Try.func3, Try.ntmps3
        go_wp2_with (first | ((with_reducible refine gate_callee (f := 8) rfl ?_); refine goesL_ (some 7) rfl rfl Try.func8 (by kernel_rfl) rfl #[.int .i64 a0, .int .i64 a1] rfl (by (try simp only [List.map_toArray, List.map_cons, List.map_nil]); first | done | rfl | (simp only [List.length_drop, List.length_take]; rfl) | (simp only [ByteArray.size_extract, Nat.sub_zero]; rfl) | (simp only [ByteArray.size_extract, Nat.sub_zero]; done)) ?_; (with_reducible refine (psw_WithFlags.calls a0 a1 t126 _ A3.out).mono ?_); rintro e w' ⟨rfl, ⟨nd, rfl⟩⟩; refine ⟨_, rfl, ?_⟩) | ((with_reducible refine gate_callee (f := 9) rfl ?_); refine goesL_ (some 10) rfl rfl Try.func9 (by kernel_rfl) rfl #[.int .i64 a0, .int .i64 a1] rfl (by (try simp only [List.map_toArray, List.map_cons, List.map_nil]); first | done | rfl | (simp only [List.length_drop, List.length_take]; rfl) | (simp only [ByteArray.size_extract, Nat.sub_zero]; rfl) | (simp only [ByteArray.size_extract, Nat.sub_zero]; done)) ?_; (with_reducible refine (emulatorref04_WithFlags.calls a0 a1 t127 _ A4.out).mono ?_); rintro e w' ⟨rfl, ⟨nd, rfl⟩⟩; refine ⟨_, rfl, ?_⟩) | (go_at_call 10; (with_reducible refine (psw_Enter.calls a0 a1 t128 _ A6.out).mono ?_); rintro e w' ⟨rfl, ⟨nd, rfl⟩⟩) | (go_at_call 11; (with_reducible refine (emulatorref04_Enter.calls a0 a1 t129 _ A7.out).mono ?_); rintro e w' ⟨rfl, ⟨nd, rfl⟩⟩) | (go_at_call 12; (with_reducible refine (psw_Return.calls a0 a1 t130 _ A9.out).mono ?_); rintro e w' ⟨rfl, ⟨nd, rfl⟩⟩) | (go_at_call 13; (with_reducible refine (emulatorref04_Return.calls a0 a1 t131 _ A10.out).mono ?_); rintro e w' ⟨rfl, ⟨nd, rfl⟩⟩) | (go_at_call 14; (with_reducible refine (emulatorlaw04_alive.calls k  t132 _ A12.out).mono ?_); rintro e w13 ⟨rfl, hb⟩; have n0_ := Aside0.mk (below_step (by repeat (first | (with_reducible first | exact HB.out | apply below_alloc | apply pw_below_drewN | apply below_drew1) | exact HB.out)) hb); clear HB; have HB := n0_; clear n0_; (try clear hb); (try clear hb2); (try clear hk); (try clear hi)))
        go_ret
        exact ⟨by first | rfl | (simp [errW_none, errW_some] <;> rfl) | (simp [*, errW_none, errW_some] <;> rfl), by repeat (first | (with_reducible first | exact HB.out | apply below_alloc | apply pw_below_drewN | apply below_drew1) | exact HB.out)⟩
      · rw [if_neg c11] at H
        have c11b0 : (t130 == t131) = false := beq_eq_false_iff_ne.mpr c11
        have c11b1 : (t130 != t131) = true := bne_iff_ne.mpr c11
        obtain rfl := Option.some.inj H
        go_enter Try.func3, Try.ntmps3
        go_wp2_with (first | ((with_reducible refine gate_callee (f := 8) rfl ?_); refine goesL_ (some 7) rfl rfl Try.func8 (by kernel_rfl) rfl #[.int .i64 a0, .int .i64 a1] rfl (by (try simp only [List.map_toArray, List.map_cons, List.map_nil]); first | done | rfl | (simp only [List.length_drop, List.length_take]; rfl) | (simp only [ByteArray.size_extract, Nat.sub_zero]; rfl) | (simp only [ByteArray.size_extract, Nat.sub_zero]; done)) ?_; (with_reducible refine (psw_WithFlags.calls a0 a1 t126 _ A3.out).mono ?_); rintro e w' ⟨rfl, ⟨nd, rfl⟩⟩; refine ⟨_, rfl, ?_⟩) | ((with_reducible refine gate_callee (f := 9) rfl ?_); refine goesL_ (some 10) rfl rfl Try.func9 (by kernel_rfl) rfl #[.int .i64 a0, .int .i64 a1] rfl (by (try simp only [List.map_toArray, List.map_cons, List.map_nil]); first | done | rfl | (simp only [List.length_drop, List.length_take]; rfl) | (simp only [ByteArray.size_extract, Nat.sub_zero]; rfl) | (simp only [ByteArray.size_extract, Nat.sub_zero]; done)) ?_; (with_reducible refine (emulatorref04_WithFlags.calls a0 a1 t127 _ A4.out).mono ?_); rintro e w' ⟨rfl, ⟨nd, rfl⟩⟩; refine ⟨_, rfl, ?_⟩) | (go_at_call 10; (with_reducible refine (psw_Enter.calls a0 a1 t128 _ A6.out).mono ?_); rintro e w' ⟨rfl, ⟨nd, rfl⟩⟩) | (go_at_call 11; (with_reducible refine (emulatorref04_Enter.calls a0 a1 t129 _ A7.out).mono ?_); rintro e w' ⟨rfl, ⟨nd, rfl⟩⟩) | (go_at_call 12; (with_reducible refine (psw_Return.calls a0 a1 t130 _ A9.out).mono ?_); rintro e w' ⟨rfl, ⟨nd, rfl⟩⟩) | (go_at_call 13; (with_reducible refine (emulatorref04_Return.calls a0 a1 t131 _ A10.out).mono ?_); rintro e w' ⟨rfl, ⟨nd, rfl⟩⟩))
        go_ret
        exact ⟨by first | rfl | (simp [errW_none, errW_some] <;> rfl) | (simp [*, errW_none, errW_some] <;> rfl), by repeat (first | (with_reducible first | exact HB.out | apply below_alloc | apply pw_below_drewN | apply below_drew1) | exact HB.out)⟩
    · rw [if_neg c8] at H
      have c8b0 : (t128 == t129) = false := beq_eq_false_iff_ne.mpr c8
      have c8b1 : (t128 != t129) = true := bne_iff_ne.mpr c8
      obtain rfl := Option.some.inj H
      go_enter Try.func3, Try.ntmps3
      go_wp2_with (first | ((with_reducible refine gate_callee (f := 8) rfl ?_); refine goesL_ (some 7) rfl rfl Try.func8 (by kernel_rfl) rfl #[.int .i64 a0, .int .i64 a1] rfl (by (try simp only [List.map_toArray, List.map_cons, List.map_nil]); first | done | rfl | (simp only [List.length_drop, List.length_take]; rfl) | (simp only [ByteArray.size_extract, Nat.sub_zero]; rfl) | (simp only [ByteArray.size_extract, Nat.sub_zero]; done)) ?_; (with_reducible refine (psw_WithFlags.calls a0 a1 t126 _ A3.out).mono ?_); rintro e w' ⟨rfl, ⟨nd, rfl⟩⟩; refine ⟨_, rfl, ?_⟩) | ((with_reducible refine gate_callee (f := 9) rfl ?_); refine goesL_ (some 10) rfl rfl Try.func9 (by kernel_rfl) rfl #[.int .i64 a0, .int .i64 a1] rfl (by (try simp only [List.map_toArray, List.map_cons, List.map_nil]); first | done | rfl | (simp only [List.length_drop, List.length_take]; rfl) | (simp only [ByteArray.size_extract, Nat.sub_zero]; rfl) | (simp only [ByteArray.size_extract, Nat.sub_zero]; done)) ?_; (with_reducible refine (emulatorref04_WithFlags.calls a0 a1 t127 _ A4.out).mono ?_); rintro e w' ⟨rfl, ⟨nd, rfl⟩⟩; refine ⟨_, rfl, ?_⟩) | (go_at_call 10; (with_reducible refine (psw_Enter.calls a0 a1 t128 _ A6.out).mono ?_); rintro e w' ⟨rfl, ⟨nd, rfl⟩⟩) | (go_at_call 11; (with_reducible refine (emulatorref04_Enter.calls a0 a1 t129 _ A7.out).mono ?_); rintro e w' ⟨rfl, ⟨nd, rfl⟩⟩))
      go_ret
      exact ⟨by first | rfl | (simp [errW_none, errW_some] <;> rfl) | (simp [*, errW_none, errW_some] <;> rfl), by repeat (first | (with_reducible first | exact HB.out | apply below_alloc | apply pw_below_drewN | apply below_drew1) | exact HB.out)⟩
  · rw [if_neg c5] at H
    have c5b0 : (t126 == t127) = false := beq_eq_false_iff_ne.mpr c5
    have c5b1 : (t126 != t127) = true := bne_iff_ne.mpr c5
    obtain rfl := Option.some.inj H
    go_enter Try.func3, Try.ntmps3
    go_wp2_with (first | ((with_reducible refine gate_callee (f := 8) rfl ?_); refine goesL_ (some 7) rfl rfl Try.func8 (by kernel_rfl) rfl #[.int .i64 a0, .int .i64 a1] rfl (by (try simp only [List.map_toArray, List.map_cons, List.map_nil]); first | done | rfl | (simp only [List.length_drop, List.length_take]; rfl) | (simp only [ByteArray.size_extract, Nat.sub_zero]; rfl) | (simp only [ByteArray.size_extract, Nat.sub_zero]; done)) ?_; (with_reducible refine (psw_WithFlags.calls a0 a1 t126 _ A3.out).mono ?_); rintro e w' ⟨rfl, ⟨nd, rfl⟩⟩; refine ⟨_, rfl, ?_⟩) | ((with_reducible refine gate_callee (f := 9) rfl ?_); refine goesL_ (some 10) rfl rfl Try.func9 (by kernel_rfl) rfl #[.int .i64 a0, .int .i64 a1] rfl (by (try simp only [List.map_toArray, List.map_cons, List.map_nil]); first | done | rfl | (simp only [List.length_drop, List.length_take]; rfl) | (simp only [ByteArray.size_extract, Nat.sub_zero]; rfl) | (simp only [ByteArray.size_extract, Nat.sub_zero]; done)) ?_; (with_reducible refine (emulatorref04_WithFlags.calls a0 a1 t127 _ A4.out).mono ?_); rintro e w' ⟨rfl, ⟨nd, rfl⟩⟩; refine ⟨_, rfl, ?_⟩))
    go_ret
    exact ⟨by first | rfl | (simp [errW_none, errW_some] <;> rfl) | (simp [*, errW_none, errW_some] <;> rfl), by repeat (first | (with_reducible first | exact HB.out | apply below_alloc | apply pw_below_drewN | apply below_drew1) | exact HB.out)⟩

/-- THE ONE PURE STATEMENT of emulatorlaw04_PswForms: yours. -/
def emulatorlaw04_PswForms.Pure : Prop := ∀ (a0 : Int) (a1 : Int), (Lit.int .i64 a0).wf = true → (Lit.int .i64 a1).wf = true → ∃ k, emulatorlaw04_PswForms.f k a0 a1 = some true
theorem emulatorlaw04_PswForms.walk (P : emulatorlaw04_PswForms.Pure) (a0 : Int) (a1 : Int) (w : World) (w0 : (Lit.int .i64 a0).wf = true) (w1 : (Lit.int .i64 a1).wf = true) :
    Calls Try.prog 3 #[.int .i64 a0, .int .i64 a1] w fun e w' => e = .returned (.bool true) ∧ Below w.heap.size w w' := by
  obtain ⟨k, h⟩ := P a0 a1 w0 w1
  refine (emulatorlaw04_PswForms.calls k a0 a1 true w h).mono ?_
  rintro e w' ⟨rfl, hd⟩
  exact ⟨rfl, hd⟩

/-! ### emulatorref04_Previous: function 22 -/
def emulatorref04_Previous.f (a0 : Int) : Option (Int) := some (Go.bits .and .i64 (a0 / 16384) 1)
set_option maxHeartbeats 8000000 in
set_option maxRecDepth 100000 in
theorem emulatorref04_Previous.calls (a0 : Int) (r : Int) (w : World) (h : emulatorref04_Previous.f a0 = some r) :
    Calls Try.prog 22 #[.int .i64 a0] w fun e w' => e = .returned (.int .i64 r) ∧ Drawn0 w w' := by
  have H : (some (Go.bits .and .i64 (a0 / 16384) 1)) = some r := h
  clear h
  obtain rfl := Option.some.inj H
  go_enter Try.func22, Try.ntmps22
  go_wp2
  go_ret
  exact ⟨by first | rfl | (simp; done) | (simp [*]; done), by repeat (first | exact Drawn0.refl _ | apply Drawn0.step)⟩

/-! ### emulatorref04_Priority: function 24 -/
def emulatorref04_Priority.f (a0 : Int) : Option (Int) := some (Go.bits .and .i64 (a0 / 32) 7)
set_option maxHeartbeats 8000000 in
set_option maxRecDepth 100000 in
theorem emulatorref04_Priority.calls (a0 : Int) (r : Int) (w : World) (h : emulatorref04_Priority.f a0 = some r) :
    Calls Try.prog 24 #[.int .i64 a0] w fun e w' => e = .returned (.int .i64 r) ∧ Drawn0 w w' := by
  have H : (some (Go.bits .and .i64 (a0 / 32) 7)) = some r := h
  clear h
  obtain rfl := Option.some.inj H
  go_enter Try.func24, Try.ntmps24
  go_wp2
  go_ret
  exact ⟨by first | rfl | (simp; done) | (simp [*]; done), by repeat (first | exact Drawn0.refl _ | apply Drawn0.step)⟩

/-! ### emulatorref04_letter: function 29 -/
def emulatorref04_letter.f (a0 : Int) (a1 : Int) (a2 : ByteArray) : Option (ByteArray) := if 0 ≤ a1 then (if (Go.bits .and .i64 (shr .i64 a0 a1) 1) = 1 then (some a2) else (some (⟨#[45]⟩ : ByteArray))) else (none)
set_option maxHeartbeats 8000000 in
set_option maxRecDepth 100000 in
theorem emulatorref04_letter.calls (a0 : Int) (a1 : Int) (a2 : ByteArray) (r : ByteArray) (w : World) (h : emulatorref04_letter.f a0 a1 a2 = some r) :
    Calls Try.prog 29 #[.int .i64 a0, .int .i64 a1, .string a2] w fun e w' => e = .returned (.string r) ∧ Drawn0 w w' := by
  have H : (if 0 ≤ a1 then (if (Go.bits .and .i64 (shr .i64 a0 a1) 1) = 1 then (some a2) else (some (⟨#[45]⟩ : ByteArray))) else (none)) = some r := h
  clear h
  by_cases c4 : 0 ≤ a1
  · rw [if_pos c4] at H
    have c4b0 := eq_true c4
    have c4b1 : decide (0 ≤ a1) = true := decide_eq_true c4
    clear c4
    obtain ⟨ji5, hji5⟩ : ∃ j_ : Int, (shr .i64 a0 a1) = j_ := ⟨_, rfl⟩
    replace H : (if (Go.bits .and .i64 (ji5) 1) = 1 then (some a2) else (some (⟨#[45]⟩ : ByteArray))) = some r := by first | (rw [hji5] at H; exact H) | (simp only [hji5] at H ⊢; exact H)
    have hji5_ : (a0 / 2 ^ min a1.toNat 64) = ji5 := hji5
    have hji5z : a1 ≤ 64 → (a0 / 2 ^ a1.toNat) = ji5 := shr_small hji5
    by_cases c6 : (Go.bits .and .i64 (ji5) 1) = 1
    · rw [if_pos c6] at H
      have c6b0 : ((Go.bits .and .i64 (ji5) 1) == 1) = true := beq_iff_eq.mpr c6
      have c6b1 : ((Go.bits .and .i64 (ji5) 1) != 1) = false := bne_eq_false_iff_eq.mpr c6
      clear c6
      obtain rfl := Option.some.inj H
      go_enter Try.func29, Try.ntmps29
      go_wp2
      go_ret
      exact ⟨by first | rfl | (simp; done) | (simp [isEmpty_ne]; done) | (simp only [← hji5] <;> (first | rfl | simp)) | (simp [*]; done), by repeat (first | exact Drawn0.refl _ | apply Drawn0.step)⟩
    · rw [if_neg c6] at H
      have c6b0 : ((Go.bits .and .i64 (ji5) 1) == 1) = false := beq_eq_false_iff_ne.mpr c6
      have c6b1 : ((Go.bits .and .i64 (ji5) 1) != 1) = true := bne_iff_ne.mpr c6
      obtain rfl := Option.some.inj H
      go_enter Try.func29, Try.ntmps29
      go_wp2
      go_ret
      exact ⟨by first | rfl | (simp; done) | (simp [isEmpty_ne]; done) | (simp only [← hji5] <;> (first | rfl | simp)) | (simp [*]; done), by repeat (first | exact Drawn0.refl _ | apply Drawn0.step)⟩
  · rw [if_neg c4] at H
    exact absurd H (by simp)

end Go.Proofs.Ytkopdpdenmjecaa.K
