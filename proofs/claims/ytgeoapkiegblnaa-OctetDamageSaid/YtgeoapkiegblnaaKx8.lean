-- Printed by a program of this session out of Lean's print of the translation. Lean checks it.
import Derived.Test.YtgeoapkiegblnaaKx0
import Derived.Test.YtgeoapkiegblnaaKx1
import Derived.Test.YtgeoapkiegblnaaKx2
import Derived.Test.YtgeoapkiegblnaaKx3
import Derived.Test.YtgeoapkiegblnaaKx5
import Derived.Test.YtgeoapkiegblnaaKx6
import Derived.Test.YtgeoapkiegblnaaKx7
namespace Go.Proofs.Ytgeoapkiegblnaa.K
open Go.RowKit Go.Proofs.YtgeoapkiegblnaaW.PrintWords Go.Proofs.YtgeoapkiegblnaaW.PrintLast
set_option linter.unusedVariables false
set_option linter.unusedSimpArgs false

/-! ### emulatorlaw03_alive: function 12 -/
def emulatorlaw03_alive.f (k : Nat)  : Option (Bool) := (octet_Get.f k (⟨#[2, 1, 0]⟩ : ByteArray) 0 2).bind fun bt137 => ((octet_Get.f k (⟨#[2, 1, 0]⟩ : ByteArray) 0 4).bind fun bt140 => ((octet_Get.f k (⟨#[2, 1, 0]⟩ : ByteArray) 0 8).bind fun bt143 => ((octet_Open.f k (⟨#[97, 98, 99]⟩ : ByteArray)).bind fun bt146 => ((octet_Open.f k (⟨#[0, 0, 0, 0]⟩ : ByteArray)).bind fun bt148 => (if bt137.1 = 258 then (if bt137.2.1 = 2 then (if bt137.2.2 = 0 then (if bt140.2.2 = 8 then (if bt143.2.2 = 1 then (if bt146.2 = 8 then (if bt148.1.toList = ([] : List UInt8) then (if bt148.2 = 0 then ((octet_Put.f k 258 3).bind fun t150 => (if t150.toList = ([2, 1, 0] : List UInt8) then ((octet_PutText.f k (⟨#[97, 98]⟩ : ByteArray)).bind fun t151 => (if t151.toList = ([2, 0, 97, 98] : List UInt8) then ((octet_PutWords.f k (([65, (-1)] : List Int))).bind fun t155 => (if t155.toList = ([65, 0, 255, 255] : List UInt8) then ((octet_Crc.f k (⟨#[]⟩ : ByteArray)).bind fun t156 => (if t156 = 0 then ((octet_Crc.f k (⟨#[49, 50, 51, 52, 53, 54, 55, 56, 57]⟩ : ByteArray)).bind fun t157 => (some (t157 == 3421780262))) else (none))) else (none))) else (none))) else (none))) else (none)) else (none)) else (none)) else (none)) else (none)) else (none)) else (none)) else (none))))))
theorem emulatorlaw03_alive.mono : ∀ k, LeO (emulatorlaw03_alive.f k ) (emulatorlaw03_alive.f (k + 1) ) := by
  intro  k
  unfold emulatorlaw03_alive.f
  repeat' first
      | (with_reducible exact octet_Crc.mono _ _)
      | (with_reducible exact octet_Get.mono _ _ _ _)
      | (with_reducible exact octet_Open.mono _ _)
      | (with_reducible exact octet_Put.mono _ _ _)
      | (with_reducible exact octet_PutText.mono _ _)
      | (with_reducible exact octet_PutWords.mono _ _)
      | (with_reducible exact LeO.refl _)
      | (with_reducible exact LeO.none _)
      | (with_reducible refine LeO.ite ?_ ?_)
      | (with_reducible refine LeO.bind ?_ (fun _ => ?_))
      | exact octet_Crc.mono _ _
      | exact octet_Get.mono _ _ _ _
      | exact octet_Open.mono _ _
      | exact octet_Put.mono _ _ _
      | exact octet_PutText.mono _ _
      | exact octet_PutWords.mono _ _
      | exact LeO.none _
      | refine LeO.ite ?_ ?_
      | refine LeO.bind ?_ (fun _ => ?_)
set_option maxHeartbeats 8000000 in
set_option maxRecDepth 100000 in
theorem emulatorlaw03_alive.calls (k : Nat)  (r : Bool) (w : World) (h : emulatorlaw03_alive.f k  = some r) :
    Calls Try.prog 12 #[] w fun e w' => e = .returned (.bool r) ∧ Below w.heap.size w w' := by
  have HB := Aside0.mk (Below.refl w.heap.size w)
  have H : ((octet_Get.f k (⟨#[2, 1, 0]⟩ : ByteArray) 0 2).bind fun bt137 => ((octet_Get.f k (⟨#[2, 1, 0]⟩ : ByteArray) 0 4).bind fun bt140 => ((octet_Get.f k (⟨#[2, 1, 0]⟩ : ByteArray) 0 8).bind fun bt143 => ((octet_Open.f k (⟨#[97, 98, 99]⟩ : ByteArray)).bind fun bt146 => ((octet_Open.f k (⟨#[0, 0, 0, 0]⟩ : ByteArray)).bind fun bt148 => (if bt137.1 = 258 then (if bt137.2.1 = 2 then (if bt137.2.2 = 0 then (if bt140.2.2 = 8 then (if bt143.2.2 = 1 then (if bt146.2 = 8 then (if bt148.1.toList = ([] : List UInt8) then (if bt148.2 = 0 then ((octet_Put.f k 258 3).bind fun t150 => (if t150.toList = ([2, 1, 0] : List UInt8) then ((octet_PutText.f k (⟨#[97, 98]⟩ : ByteArray)).bind fun t151 => (if t151.toList = ([2, 0, 97, 98] : List UInt8) then ((octet_PutWords.f k (([65, (-1)] : List Int))).bind fun t155 => (if t155.toList = ([65, 0, 255, 255] : List UInt8) then ((octet_Crc.f k (⟨#[]⟩ : ByteArray)).bind fun t156 => (if t156 = 0 then ((octet_Crc.f k (⟨#[49, 50, 51, 52, 53, 54, 55, 56, 57]⟩ : ByteArray)).bind fun t157 => (some (t157 == 3421780262))) else (none))) else (none))) else (none))) else (none))) else (none)) else (none)) else (none)) else (none)) else (none)) else (none)) else (none)) else (none))))))) = some r := h
  clear h
  replace H := Option.bind_eq_some_iff.mp H
  obtain ⟨⟨t137, t138, t139⟩, A10, H⟩ := H
  replace H : ((octet_Get.f k (⟨#[2, 1, 0]⟩ : ByteArray) 0 4).bind fun bt140 => ((octet_Get.f k (⟨#[2, 1, 0]⟩ : ByteArray) 0 8).bind fun bt143 => ((octet_Open.f k (⟨#[97, 98, 99]⟩ : ByteArray)).bind fun bt146 => ((octet_Open.f k (⟨#[0, 0, 0, 0]⟩ : ByteArray)).bind fun bt148 => (if t137 = 258 then (if t138 = 2 then (if t139 = 0 then (if bt140.2.2 = 8 then (if bt143.2.2 = 1 then (if bt146.2 = 8 then (if bt148.1.toList = ([] : List UInt8) then (if bt148.2 = 0 then ((octet_Put.f k 258 3).bind fun t150 => (if t150.toList = ([2, 1, 0] : List UInt8) then ((octet_PutText.f k (⟨#[97, 98]⟩ : ByteArray)).bind fun t151 => (if t151.toList = ([2, 0, 97, 98] : List UInt8) then ((octet_PutWords.f k (([65, (-1)] : List Int))).bind fun t155 => (if t155.toList = ([65, 0, 255, 255] : List UInt8) then ((octet_Crc.f k (⟨#[]⟩ : ByteArray)).bind fun t156 => (if t156 = 0 then ((octet_Crc.f k (⟨#[49, 50, 51, 52, 53, 54, 55, 56, 57]⟩ : ByteArray)).bind fun t157 => (some (t157 == 3421780262))) else (none))) else (none))) else (none))) else (none))) else (none)) else (none)) else (none)) else (none)) else (none)) else (none)) else (none)) else (none)))))) = some r := H
  have A1 := Aside0.mk A10
  clear A10
  replace H := Option.bind_eq_some_iff.mp H
  obtain ⟨⟨t140, t141, t142⟩, A20, H⟩ := H
  replace H : ((octet_Get.f k (⟨#[2, 1, 0]⟩ : ByteArray) 0 8).bind fun bt143 => ((octet_Open.f k (⟨#[97, 98, 99]⟩ : ByteArray)).bind fun bt146 => ((octet_Open.f k (⟨#[0, 0, 0, 0]⟩ : ByteArray)).bind fun bt148 => (if t137 = 258 then (if t138 = 2 then (if t139 = 0 then (if t142 = 8 then (if bt143.2.2 = 1 then (if bt146.2 = 8 then (if bt148.1.toList = ([] : List UInt8) then (if bt148.2 = 0 then ((octet_Put.f k 258 3).bind fun t150 => (if t150.toList = ([2, 1, 0] : List UInt8) then ((octet_PutText.f k (⟨#[97, 98]⟩ : ByteArray)).bind fun t151 => (if t151.toList = ([2, 0, 97, 98] : List UInt8) then ((octet_PutWords.f k (([65, (-1)] : List Int))).bind fun t155 => (if t155.toList = ([65, 0, 255, 255] : List UInt8) then ((octet_Crc.f k (⟨#[]⟩ : ByteArray)).bind fun t156 => (if t156 = 0 then ((octet_Crc.f k (⟨#[49, 50, 51, 52, 53, 54, 55, 56, 57]⟩ : ByteArray)).bind fun t157 => (some (t157 == 3421780262))) else (none))) else (none))) else (none))) else (none))) else (none)) else (none)) else (none)) else (none)) else (none)) else (none)) else (none)) else (none))))) = some r := H
  have A2 := Aside0.mk A20
  clear A20
  replace H := Option.bind_eq_some_iff.mp H
  obtain ⟨⟨t143, t144, t145⟩, A30, H⟩ := H
  replace H : ((octet_Open.f k (⟨#[97, 98, 99]⟩ : ByteArray)).bind fun bt146 => ((octet_Open.f k (⟨#[0, 0, 0, 0]⟩ : ByteArray)).bind fun bt148 => (if t137 = 258 then (if t138 = 2 then (if t139 = 0 then (if t142 = 8 then (if t145 = 1 then (if bt146.2 = 8 then (if bt148.1.toList = ([] : List UInt8) then (if bt148.2 = 0 then ((octet_Put.f k 258 3).bind fun t150 => (if t150.toList = ([2, 1, 0] : List UInt8) then ((octet_PutText.f k (⟨#[97, 98]⟩ : ByteArray)).bind fun t151 => (if t151.toList = ([2, 0, 97, 98] : List UInt8) then ((octet_PutWords.f k (([65, (-1)] : List Int))).bind fun t155 => (if t155.toList = ([65, 0, 255, 255] : List UInt8) then ((octet_Crc.f k (⟨#[]⟩ : ByteArray)).bind fun t156 => (if t156 = 0 then ((octet_Crc.f k (⟨#[49, 50, 51, 52, 53, 54, 55, 56, 57]⟩ : ByteArray)).bind fun t157 => (some (t157 == 3421780262))) else (none))) else (none))) else (none))) else (none))) else (none)) else (none)) else (none)) else (none)) else (none)) else (none)) else (none)) else (none)))) = some r := H
  have A3 := Aside0.mk A30
  clear A30
  replace H := Option.bind_eq_some_iff.mp H
  obtain ⟨⟨t146, t147⟩, A40, H⟩ := H
  replace H : ((octet_Open.f k (⟨#[0, 0, 0, 0]⟩ : ByteArray)).bind fun bt148 => (if t137 = 258 then (if t138 = 2 then (if t139 = 0 then (if t142 = 8 then (if t145 = 1 then (if t147 = 8 then (if bt148.1.toList = ([] : List UInt8) then (if bt148.2 = 0 then ((octet_Put.f k 258 3).bind fun t150 => (if t150.toList = ([2, 1, 0] : List UInt8) then ((octet_PutText.f k (⟨#[97, 98]⟩ : ByteArray)).bind fun t151 => (if t151.toList = ([2, 0, 97, 98] : List UInt8) then ((octet_PutWords.f k (([65, (-1)] : List Int))).bind fun t155 => (if t155.toList = ([65, 0, 255, 255] : List UInt8) then ((octet_Crc.f k (⟨#[]⟩ : ByteArray)).bind fun t156 => (if t156 = 0 then ((octet_Crc.f k (⟨#[49, 50, 51, 52, 53, 54, 55, 56, 57]⟩ : ByteArray)).bind fun t157 => (some (t157 == 3421780262))) else (none))) else (none))) else (none))) else (none))) else (none)) else (none)) else (none)) else (none)) else (none)) else (none)) else (none)) else (none))) = some r := H
  have A4 := Aside0.mk A40
  clear A40
  replace H := Option.bind_eq_some_iff.mp H
  obtain ⟨⟨t148, t149⟩, A50, H⟩ := H
  replace H : (if t137 = 258 then (if t138 = 2 then (if t139 = 0 then (if t142 = 8 then (if t145 = 1 then (if t147 = 8 then (if t148.toList = ([] : List UInt8) then (if t149 = 0 then ((octet_Put.f k 258 3).bind fun t150 => (if t150.toList = ([2, 1, 0] : List UInt8) then ((octet_PutText.f k (⟨#[97, 98]⟩ : ByteArray)).bind fun t151 => (if t151.toList = ([2, 0, 97, 98] : List UInt8) then ((octet_PutWords.f k (([65, (-1)] : List Int))).bind fun t155 => (if t155.toList = ([65, 0, 255, 255] : List UInt8) then ((octet_Crc.f k (⟨#[]⟩ : ByteArray)).bind fun t156 => (if t156 = 0 then ((octet_Crc.f k (⟨#[49, 50, 51, 52, 53, 54, 55, 56, 57]⟩ : ByteArray)).bind fun t157 => (some (t157 == 3421780262))) else (none))) else (none))) else (none))) else (none))) else (none)) else (none)) else (none)) else (none)) else (none)) else (none)) else (none)) else (none)) = some r := H
  have A5 := Aside0.mk A50
  clear A50
  by_cases c6 : t137 = 258
  · rw [if_pos c6] at H
    have c6b0 : (t137 == 258) = true := beq_iff_eq.mpr c6
    have c6b1 : (t137 != 258) = false := bne_eq_false_iff_eq.mpr c6
    clear c6
    by_cases c7 : t138 = 2
    · rw [if_pos c7] at H
      have c7b0 : (t138 == 2) = true := beq_iff_eq.mpr c7
      have c7b1 : (t138 != 2) = false := bne_eq_false_iff_eq.mpr c7
      clear c7
      by_cases c8 : t139 = 0
      · rw [if_pos c8] at H
        have c8b0 : (t139 == 0) = true := beq_iff_eq.mpr c8
        have c8b1 : (t139 != 0) = false := bne_eq_false_iff_eq.mpr c8
        clear c8
        by_cases c9 : t142 = 8
        · rw [if_pos c9] at H
          have c9b0 : (t142 == 8) = true := beq_iff_eq.mpr c9
          have c9b1 : (t142 != 8) = false := bne_eq_false_iff_eq.mpr c9
          clear c9
          by_cases c10 : t145 = 1
          · rw [if_pos c10] at H
            have c10b0 : (t145 == 1) = true := beq_iff_eq.mpr c10
            have c10b1 : (t145 != 1) = false := bne_eq_false_iff_eq.mpr c10
            clear c10
            by_cases c11 : t147 = 8
            · rw [if_pos c11] at H
              have c11b0 : (t147 == 8) = true := beq_iff_eq.mpr c11
              have c11b1 : (t147 != 8) = false := bne_eq_false_iff_eq.mpr c11
              clear c11
              by_cases c12 : t148.toList = ([] : List UInt8)
              · rw [if_pos c12] at H
                have c12b0 : (t148.toList == ([] : List UInt8)) = true := beq_iff_eq.mpr c12
                have c12b1 : (t148.toList != ([] : List UInt8)) = false := bne_eq_false_iff_eq.mpr c12
                clear c12
                by_cases c13 : t149 = 0
                · rw [if_pos c13] at H
                  have c13b0 : (t149 == 0) = true := beq_iff_eq.mpr c13
                  have c13b1 : (t149 != 0) = false := bne_eq_false_iff_eq.mpr c13
                  clear c13
                  replace H := Option.bind_eq_some_iff.mp H
                  obtain ⟨t150, A140, H⟩ := H
                  replace H : (if t150.toList = ([2, 1, 0] : List UInt8) then ((octet_PutText.f k (⟨#[97, 98]⟩ : ByteArray)).bind fun t151 => (if t151.toList = ([2, 0, 97, 98] : List UInt8) then ((octet_PutWords.f k (([65, (-1)] : List Int))).bind fun t155 => (if t155.toList = ([65, 0, 255, 255] : List UInt8) then ((octet_Crc.f k (⟨#[]⟩ : ByteArray)).bind fun t156 => (if t156 = 0 then ((octet_Crc.f k (⟨#[49, 50, 51, 52, 53, 54, 55, 56, 57]⟩ : ByteArray)).bind fun t157 => (some (t157 == 3421780262))) else (none))) else (none))) else (none))) else (none)) = some r := H
                  have A14 := Aside0.mk A140
                  clear A140
                  by_cases c15 : t150.toList = ([2, 1, 0] : List UInt8)
                  · rw [if_pos c15] at H
                    have c15b0 : (t150.toList == ([2, 1, 0] : List UInt8)) = true := beq_iff_eq.mpr c15
                    have c15b1 : (t150.toList != ([2, 1, 0] : List UInt8)) = false := bne_eq_false_iff_eq.mpr c15
                    clear c15
                    replace H := Option.bind_eq_some_iff.mp H
                    obtain ⟨t151, A160, H⟩ := H
                    replace H : (if t151.toList = ([2, 0, 97, 98] : List UInt8) then ((octet_PutWords.f k (([65, (-1)] : List Int))).bind fun t155 => (if t155.toList = ([65, 0, 255, 255] : List UInt8) then ((octet_Crc.f k (⟨#[]⟩ : ByteArray)).bind fun t156 => (if t156 = 0 then ((octet_Crc.f k (⟨#[49, 50, 51, 52, 53, 54, 55, 56, 57]⟩ : ByteArray)).bind fun t157 => (some (t157 == 3421780262))) else (none))) else (none))) else (none)) = some r := H
                    have A16 := Aside0.mk A160
                    clear A160
                    by_cases c17 : t151.toList = ([2, 0, 97, 98] : List UInt8)
                    · rw [if_pos c17] at H
                      have c17b0 : (t151.toList == ([2, 0, 97, 98] : List UInt8)) = true := beq_iff_eq.mpr c17
                      have c17b1 : (t151.toList != ([2, 0, 97, 98] : List UInt8)) = false := bne_eq_false_iff_eq.mpr c17
                      clear c17
                      obtain ⟨y152, hy152⟩ : ∃ y_ : List Int, y_ = (([65, (-1)] : List Int)) := ⟨_, rfl⟩
                      replace H : ((octet_PutWords.f k y152).bind fun t155 => (if t155.toList = ([65, 0, 255, 255] : List UInt8) then ((octet_Crc.f k (⟨#[]⟩ : ByteArray)).bind fun t156 => (if t156 = 0 then ((octet_Crc.f k (⟨#[49, 50, 51, 52, 53, 54, 55, 56, 57]⟩ : ByteArray)).bind fun t157 => (some (t157 == 3421780262))) else (none))) else (none))) = some r := by first | (rw [hy152]; with_reducible exact H) | (have H2_ := (Option.bind_some _ _).symm.trans H; rw [hy152]; with_reducible exact H2_) | (have H2_ := (Option.bind_some _ _).symm.trans H; with_reducible exact H2_) | with_reducible exact H | (rw [hy152]; exact H) | exact H
                      have Ny152 := Aside0.mk hy152
                      clear hy152
                      replace H := Option.bind_eq_some_iff.mp H
                      obtain ⟨t155, A180, H⟩ := H
                      replace H : (if t155.toList = ([65, 0, 255, 255] : List UInt8) then ((octet_Crc.f k (⟨#[]⟩ : ByteArray)).bind fun t156 => (if t156 = 0 then ((octet_Crc.f k (⟨#[49, 50, 51, 52, 53, 54, 55, 56, 57]⟩ : ByteArray)).bind fun t157 => (some (t157 == 3421780262))) else (none))) else (none)) = some r := H
                      have A18 := Aside0.mk A180
                      clear A180
                      by_cases c19 : t155.toList = ([65, 0, 255, 255] : List UInt8)
                      · rw [if_pos c19] at H
                        have c19b0 : (t155.toList == ([65, 0, 255, 255] : List UInt8)) = true := beq_iff_eq.mpr c19
                        have c19b1 : (t155.toList != ([65, 0, 255, 255] : List UInt8)) = false := bne_eq_false_iff_eq.mpr c19
                        clear c19
                        replace H := Option.bind_eq_some_iff.mp H
                        obtain ⟨t156, A200, H⟩ := H
                        replace H : (if t156 = 0 then ((octet_Crc.f k (⟨#[49, 50, 51, 52, 53, 54, 55, 56, 57]⟩ : ByteArray)).bind fun t157 => (some (t157 == 3421780262))) else (none)) = some r := H
                        have A20 := Aside0.mk A200
                        clear A200
                        by_cases c21 : t156 = 0
                        · rw [if_pos c21] at H
                          have c21b0 : (t156 == 0) = true := beq_iff_eq.mpr c21
                          have c21b1 : (t156 != 0) = false := bne_eq_false_iff_eq.mpr c21
                          clear c21
                          replace H := Option.bind_eq_some_iff.mp H
                          obtain ⟨t157, A220, H⟩ := H
                          replace H : (some (t157 == 3421780262)) = some r := H
                          have A22 := Aside0.mk A220
                          clear A220
                          obtain rfl := Option.some.inj H
                          go_enter Try.func12, Try.ntmps12
                          go_wp2_with (first | ((with_reducible refine gate_callee (f := 13) rfl ?_); refine goesL_ (some 15) rfl rfl Try.func13 (by kernel_rfl) rfl #[.string (⟨#[2, 1, 0]⟩ : ByteArray), .int .i64 0, .int .i64 2] rfl (by (try simp only [List.map_toArray, List.map_cons, List.map_nil]); first | done | rfl | (simp only [List.length_drop, List.length_take]; rfl)) ?_; (with_reducible refine (octet_Get.calls k (⟨#[2, 1, 0]⟩ : ByteArray) 0 2 t137 t138 t139 _ A1.out).mono ?_); rintro e w' ⟨rfl, ⟨nd, rfl⟩⟩; refine ⟨_, rfl, ?_⟩) | ((with_reducible refine gate_callee (f := 13) rfl ?_); refine goesL_ (some 20) rfl rfl Try.func13 (by kernel_rfl) rfl #[.string (⟨#[2, 1, 0]⟩ : ByteArray), .int .i64 0, .int .i64 4] rfl (by (try simp only [List.map_toArray, List.map_cons, List.map_nil]); first | done | rfl | (simp only [List.length_drop, List.length_take]; rfl)) ?_; (with_reducible refine (octet_Get.calls k (⟨#[2, 1, 0]⟩ : ByteArray) 0 4 t140 t141 t142 _ A2.out).mono ?_); rintro e w' ⟨rfl, ⟨nd, rfl⟩⟩; refine ⟨_, rfl, ?_⟩) | ((with_reducible refine gate_callee (f := 13) rfl ?_); refine goesL_ (some 25) rfl rfl Try.func13 (by kernel_rfl) rfl #[.string (⟨#[2, 1, 0]⟩ : ByteArray), .int .i64 0, .int .i64 8] rfl (by (try simp only [List.map_toArray, List.map_cons, List.map_nil]); first | done | rfl | (simp only [List.length_drop, List.length_take]; rfl)) ?_; (with_reducible refine (octet_Get.calls k (⟨#[2, 1, 0]⟩ : ByteArray) 0 8 t143 t144 t145 _ A3.out).mono ?_); rintro e w' ⟨rfl, ⟨nd, rfl⟩⟩; refine ⟨_, rfl, ?_⟩) | ((with_reducible refine gate_callee (f := 15) rfl ?_); refine goesL_ (some 30) rfl rfl Try.func15 (by kernel_rfl) rfl #[.string (⟨#[97, 98, 99]⟩ : ByteArray)] rfl (by (try simp only [List.map_toArray, List.map_cons, List.map_nil]); first | done | rfl | (simp only [List.length_drop, List.length_take]; rfl)) ?_; (with_reducible refine (octet_Open.calls k (⟨#[97, 98, 99]⟩ : ByteArray) t146 t147 _ A4.out).mono ?_); rintro e w23 ⟨rfl, hb⟩; refine ⟨_, rfl, ?_⟩; have n0_ := Aside0.mk (below_step (by repeat (first | (with_reducible first | exact HB.out | apply below_alloc | apply pw_below_drewN | apply below_drew1) | exact HB.out)) hb); clear HB; have HB := n0_; clear n0_; (try clear hb); (try clear hb2); (try clear hk); (try clear hi)) | ((with_reducible refine gate_callee (f := 15) rfl ?_); refine goesL_ (some 34) rfl rfl Try.func15 (by kernel_rfl) rfl #[.string (⟨#[0, 0, 0, 0]⟩ : ByteArray)] rfl (by (try simp only [List.map_toArray, List.map_cons, List.map_nil]); first | done | rfl | (simp only [List.length_drop, List.length_take]; rfl)) ?_; (with_reducible refine (octet_Open.calls k (⟨#[0, 0, 0, 0]⟩ : ByteArray) t148 t149 _ A5.out).mono ?_); rintro e w24 ⟨rfl, hb⟩; refine ⟨_, rfl, ?_⟩; have n0_ := Aside0.mk (below_step (by repeat (first | (with_reducible first | exact HB.out | apply below_alloc | apply pw_below_drewN | apply below_drew1) | exact HB.out)) hb); clear HB; have HB := n0_; clear n0_; (try clear hb); (try clear hb2); (try clear hk); (try clear hi)) | ((with_reducible refine gate_callee (f := 10) rfl ?_); refine goesL_ (some 67) rfl rfl Try.func10 (by kernel_rfl) rfl #[.int .i64 258, .int .i64 3] rfl (by (try simp only [List.map_toArray, List.map_cons, List.map_nil]); first | done | rfl | (simp only [List.length_drop, List.length_take]; rfl)) ?_; (with_reducible refine (octet_Put.calls k 258 3 t150 _ A14.out).mono ?_); rintro e w25 ⟨rfl, hb⟩; refine ⟨_, rfl, ?_⟩; have n0_ := Aside0.mk (below_step (by repeat (first | (with_reducible first | exact HB.out | apply below_alloc | apply pw_below_drewN | apply below_drew1) | exact HB.out)) hb); clear HB; have HB := n0_; clear n0_; (try clear hb); (try clear hb2); (try clear hk); (try clear hi)) | (go_at_call 23; (with_reducible refine (octet_PutText.calls k (⟨#[97, 98]⟩ : ByteArray) t151 _ A16.out).mono ?_); rintro e w26 ⟨rfl, hb⟩; have n0_ := Aside0.mk (below_step (by repeat (first | (with_reducible first | exact HB.out | apply below_alloc | apply pw_below_drewN | apply below_drew1) | exact HB.out)) hb); clear HB; have HB := n0_; clear n0_; (try clear hb); (try clear hb2); (try clear hk); (try clear hi)) | ((with_reducible refine gate_dst (N := 74) rfl ?_); (try (refine gate_guard (by rfl) ?_; dsimp only)); refine Kd.R_lit (Kd.int .i64) _ 3 ?hg (N := 74) ?hd (xs := ([65, (-1)] : List Int)) (inner := [.int .i64 65, .int .i64 (-1)]) (ok := fun _ => True) (okp := fun _ => True) ?hr ?hp (fun _ hk => hk) trivial (Below.refl _ _) (Nat.le_refl _) (by simp) ?_; (case hd => rfl); (case hg => rfl); (case hr => first | (go_simp; done) | (go_simp; rfl)); (case hp => exact (Reps.one (show Kd.M (Kd.int .i64) _ _ _ 65 [.int .i64 65] from rfl) (Reps.one (show Kd.M (Kd.int .i64) _ _ _ (-1) [.int .i64 (-1)] from rfl) (Reps.none _ _)))); intro v153 w27 ho28 hb hg_ hnew_; clear hg_ hnew_; (first | rw [← Ny152.out] at ho28 | (simp only [Int.reduceToNat] at ho28; rw [← Ny152.out] at ho28)); have n0_ := Aside0.mk (Kd.R_lower ho28 (below_size (by repeat (first | (with_reducible first | exact HB.out | apply below_alloc | apply pw_below_drewN | apply below_drew1) | exact HB.out)))); have n1_ := Aside0.mk (below_step (by repeat (first | (with_reducible first | exact HB.out | apply below_alloc | apply pw_below_drewN | apply below_drew1) | exact HB.out)) hb); clear HB; have HO154 := n0_; have HB := n1_; clear n0_ n1_; clear hb ho28; obtain ⟨Ao29, co29, eo29⟩ := Kd.R_slice HO154.out; subst eo29) | (go_at_call 27; (with_reducible refine (octet_PutWords.calls k _ _ y152 t155 _ ?side1 ?side2 A18.out).mono ?_); (case side1 => repeat (first | exact (Kd.R_reads' HO154.out).2.2 | (with_reducible refine Kd.C_alloc ?_ _) | (with_reducible refine Kd.C_drewN ?_ _) | (with_reducible refine Kd.C_drew ?_))); (case side2 => exact (Kd.R_reads' HO154.out).2.1); rintro e w30 ⟨rfl, hb⟩; have n0_ := Aside0.mk (Kd.R_below (by (with_reducible repeat (first | apply Kd.R_alloc | apply Kd.R_drewN | apply Kd.R_drew)); exact HO154.out) hb); have n1_ := Aside0.mk (below_step (by repeat (first | (with_reducible first | exact HB.out | apply below_alloc | apply pw_below_drewN | apply below_drew1) | exact HB.out)) hb); clear HO154; clear HB; have HO154 := n0_; have HB := n1_; clear n0_ n1_; (try clear hb); (try clear hb2); (try clear hk); (try clear hi)) | (go_at_call 17; (with_reducible refine (octet_Crc.calls k (⟨#[]⟩ : ByteArray) t156 _ A20.out).mono ?_); rintro e w31 ⟨rfl, hb⟩; have n0_ := Aside0.mk (Kd.R_below (by (with_reducible repeat (first | apply Kd.R_alloc | apply Kd.R_drewN | apply Kd.R_drew)); exact HO154.out) hb); have n1_ := Aside0.mk (below_step (by repeat (first | (with_reducible first | exact HB.out | apply below_alloc | apply pw_below_drewN | apply below_drew1) | exact HB.out)) hb); clear HO154; clear HB; have HO154 := n0_; have HB := n1_; clear n0_ n1_; (try clear hb); (try clear hb2); (try clear hk); (try clear hi)) | (go_at_call 17; (with_reducible refine (octet_Crc.calls k (⟨#[49, 50, 51, 52, 53, 54, 55, 56, 57]⟩ : ByteArray) t157 _ A22.out).mono ?_); rintro e w32 ⟨rfl, hb⟩; have n0_ := Aside0.mk (Kd.R_below (by (with_reducible repeat (first | apply Kd.R_alloc | apply Kd.R_drewN | apply Kd.R_drew)); exact HO154.out) hb); have n1_ := Aside0.mk (below_step (by repeat (first | (with_reducible first | exact HB.out | apply below_alloc | apply pw_below_drewN | apply below_drew1) | exact HB.out)) hb); clear HO154; clear HB; have HO154 := n0_; have HB := n1_; clear n0_ n1_; (try clear hb); (try clear hb2); (try clear hk); (try clear hi)))
                          go_ret
                          exact ⟨by first | rfl | (simp [errW_none, errW_some] <;> rfl) | (simp [*, errW_none, errW_some] <;> rfl), by repeat (first | (with_reducible first | exact HB.out | apply below_alloc | apply pw_below_drewN | apply below_drew1) | exact HB.out)⟩
                        · rw [if_neg c21] at H
                          exact absurd H (by simp)
                      · rw [if_neg c19] at H
                        exact absurd H (by simp)
                    · rw [if_neg c17] at H
                      exact absurd H (by simp)
                  · rw [if_neg c15] at H
                    exact absurd H (by simp)
                · rw [if_neg c13] at H
                  exact absurd H (by simp)
              · rw [if_neg c12] at H
                exact absurd H (by simp)
            · rw [if_neg c11] at H
              exact absurd H (by simp)
          · rw [if_neg c10] at H
            exact absurd H (by simp)
        · rw [if_neg c9] at H
          exact absurd H (by simp)
      · rw [if_neg c8] at H
        exact absurd H (by simp)
    · rw [if_neg c7] at H
      exact absurd H (by simp)
  · rw [if_neg c6] at H
    exact absurd H (by simp)

/-! ### emulatorlaw03_OctetPuts: function 3 -/
def emulatorlaw03_OctetPuts.f (k : Nat) (a0 : Int) (a1 : Int) : Option (Bool) := (octet_Put.f k a0 a1).bind fun t158 => ((emulatorref03_Put.f k a0 a1).bind fun t159 => (if t158.toList = t159.toList then ((emulatorlaw03_alive.f k).bind fun t160 => (some t160)) else (none)))
theorem emulatorlaw03_OctetPuts.mono : ∀ a0 a1 k, LeO (emulatorlaw03_OctetPuts.f k a0 a1) (emulatorlaw03_OctetPuts.f (k + 1) a0 a1) := by
  intro a0 a1 k
  unfold emulatorlaw03_OctetPuts.f
  repeat' first
      | (with_reducible exact emulatorlaw03_alive.mono _)
      | (with_reducible exact emulatorref03_Put.mono _ _ _)
      | (with_reducible exact octet_Put.mono _ _ _)
      | (with_reducible exact LeO.refl _)
      | (with_reducible exact LeO.none _)
      | (with_reducible refine LeO.ite ?_ ?_)
      | (with_reducible refine LeO.bind ?_ (fun _ => ?_))
      | exact emulatorlaw03_alive.mono _
      | exact emulatorref03_Put.mono _ _ _
      | exact octet_Put.mono _ _ _
      | exact LeO.none _
      | refine LeO.ite ?_ ?_
      | refine LeO.bind ?_ (fun _ => ?_)
set_option maxHeartbeats 8000000 in
set_option maxRecDepth 100000 in
theorem emulatorlaw03_OctetPuts.calls (k : Nat) (a0 : Int) (a1 : Int) (r : Bool) (w : World) (h : emulatorlaw03_OctetPuts.f k a0 a1 = some r) :
    Calls Try.prog 3 #[.int .i64 a0, .int .i64 a1] w fun e w' => e = .returned (.bool r) ∧ Below w.heap.size w w' := by
  have HB := Aside0.mk (Below.refl w.heap.size w)
  have H : ((octet_Put.f k a0 a1).bind fun t158 => ((emulatorref03_Put.f k a0 a1).bind fun t159 => (if t158.toList = t159.toList then ((emulatorlaw03_alive.f k).bind fun t160 => (some t160)) else (none)))) = some r := h
  clear h
  replace H := Option.bind_eq_some_iff.mp H
  obtain ⟨t158, A30, H⟩ := H
  replace H : ((emulatorref03_Put.f k a0 a1).bind fun t159 => (if t158.toList = t159.toList then ((emulatorlaw03_alive.f k).bind fun t160 => (some t160)) else (none))) = some r := H
  have A3 := Aside0.mk A30
  clear A30
  replace H := Option.bind_eq_some_iff.mp H
  obtain ⟨t159, A40, H⟩ := H
  replace H : (if t158.toList = t159.toList then ((emulatorlaw03_alive.f k).bind fun t160 => (some t160)) else (none)) = some r := H
  have A4 := Aside0.mk A40
  clear A40
  by_cases c5 : t158.toList = t159.toList
  · rw [if_pos c5] at H
    have c5b0 : (t158.toList == t159.toList) = true := beq_iff_eq.mpr c5
    have c5b1 : (t158.toList != t159.toList) = false := bne_eq_false_iff_eq.mpr c5
    clear c5
    replace H := Option.bind_eq_some_iff.mp H
    obtain ⟨t160, A60, H⟩ := H
    replace H : (some t160) = some r := H
    have A6 := Aside0.mk A60
    clear A60
    obtain rfl := Option.some.inj H
    go_enter Try.func3, Try.ntmps3
    go_wp2_with (first | ((with_reducible refine gate_callee (f := 10) rfl ?_); refine goesL_ (some 7) rfl rfl Try.func10 (by kernel_rfl) rfl #[.int .i64 a0, .int .i64 a1] rfl (by (try simp only [List.map_toArray, List.map_cons, List.map_nil]); first | done | rfl | (simp only [List.length_drop, List.length_take]; rfl)) ?_; (with_reducible refine (octet_Put.calls k a0 a1 t158 _ A3.out).mono ?_); rintro e w7 ⟨rfl, hb⟩; refine ⟨_, rfl, ?_⟩; have n0_ := Aside0.mk (below_step (by repeat (first | (with_reducible first | exact HB.out | apply below_alloc | apply pw_below_drewN | apply below_drew1) | exact HB.out)) hb); clear HB; have HB := n0_; clear n0_; (try clear hb); (try clear hb2); (try clear hk); (try clear hi)) | ((with_reducible refine gate_callee (f := 11) rfl ?_); refine goesL_ (some 10) rfl rfl Try.func11 (by kernel_rfl) rfl #[.int .i64 a0, .int .i64 a1] rfl (by (try simp only [List.map_toArray, List.map_cons, List.map_nil]); first | done | rfl | (simp only [List.length_drop, List.length_take]; rfl)) ?_; (with_reducible refine (emulatorref03_Put.calls k a0 a1 t159 _ A4.out).mono ?_); rintro e w8 ⟨rfl, hb⟩; refine ⟨_, rfl, ?_⟩; have n0_ := Aside0.mk (below_step (by repeat (first | (with_reducible first | exact HB.out | apply below_alloc | apply pw_below_drewN | apply below_drew1) | exact HB.out)) hb); clear HB; have HB := n0_; clear n0_; (try clear hb); (try clear hb2); (try clear hk); (try clear hi)) | (go_at_call 12; (with_reducible refine (emulatorlaw03_alive.calls k  t160 _ A6.out).mono ?_); rintro e w9 ⟨rfl, hb⟩; have n0_ := Aside0.mk (below_step (by repeat (first | (with_reducible first | exact HB.out | apply below_alloc | apply pw_below_drewN | apply below_drew1) | exact HB.out)) hb); clear HB; have HB := n0_; clear n0_; (try clear hb); (try clear hb2); (try clear hk); (try clear hi)))
    go_ret
    exact ⟨by first | rfl | (simp [errW_none, errW_some] <;> rfl) | (simp [*, errW_none, errW_some] <;> rfl), by repeat (first | (with_reducible first | exact HB.out | apply below_alloc | apply pw_below_drewN | apply below_drew1) | exact HB.out)⟩
  · rw [if_neg c5] at H
    exact absurd H (by simp)

/-- THE ONE PURE STATEMENT of emulatorlaw03_OctetPuts: yours. -/
def emulatorlaw03_OctetPuts.Pure : Prop := ∀ (a0 : Int) (a1 : Int), (Lit.int .i64 a0).wf = true → (Lit.int .i64 a1).wf = true → ∃ k, emulatorlaw03_OctetPuts.f k a0 a1 = some true
theorem emulatorlaw03_OctetPuts.walk (P : emulatorlaw03_OctetPuts.Pure) (a0 : Int) (a1 : Int) (w : World) (w0 : (Lit.int .i64 a0).wf = true) (w1 : (Lit.int .i64 a1).wf = true) :
    Calls Try.prog 3 #[.int .i64 a0, .int .i64 a1] w fun e w' => e = .returned (.bool true) ∧ Below w.heap.size w w' := by
  obtain ⟨k, h⟩ := P a0 a1 w0 w1
  refine (emulatorlaw03_OctetPuts.calls k a0 a1 true w h).mono ?_
  rintro e w' ⟨rfl, hd⟩
  exact ⟨rfl, hd⟩

end Go.Proofs.Ytgeoapkiegblnaa.K
