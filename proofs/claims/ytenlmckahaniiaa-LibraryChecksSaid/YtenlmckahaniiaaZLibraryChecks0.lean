/- Lemmas for the law LibraryChecks: what its proof needs beyond what it shares. -/
import Derived.Test.YtenlmckahaniiaaZcLc1
set_option linter.unusedVariables false
set_option linter.unusedSimpArgs false
set_option linter.unusedSectionVars false
set_option maxHeartbeats 8000000
set_option maxRecDepth 100000
section
namespace Go.Proofs.Ytenlmckahaniiaa.K
open Go.RowKit Go.Proofs.YtenlmckahaniiaaW.PrintWords Go.Proofs.YtenlmckahaniiaaW.PrintLast
mutual
def zqc.j0 : Nat → ByteArray → Bool → Option (Bool)
  | 0, _, _ => none
  | k + 1, x0, x21 => if x21 = true then (some false) else (zqc.l0 k x0 0)
def zqc.l0 : Nat → ByteArray → Int → Option (Bool)
  | 0, _, _ => none
  | k + 1, x0, x3 => if x3 < (x0.size : Int) then (if 0 ≤ x3 then (if (bt x0 x3) ≥ 97 then (if (bt x0 x3) ≤ 122 then (zqc.l0 k x0 (wrap64 (x3 + 1))) else (if (bt x0 x3) ≥ 65 then (if (bt x0 x3) ≤ 90 then (zqc.l0 k x0 (wrap64 (x3 + 1))) else (if (bt x0 x3) ≥ 48 then (if (bt x0 x3) ≤ 57 then (zqc.l0 k x0 (wrap64 (x3 + 1))) else (if (bt x0 x3) = 95 then (zqc.l0 k x0 (wrap64 (x3 + 1))) else (if (bt x0 x3) = 46 then (zqc.l0 k x0 (wrap64 (x3 + 1))) else (if ((bt x0 x3) = 36) then (zqc.l0 k x0 (wrap64 (x3 + 1))) else (some false))))) else (if (bt x0 x3) = 95 then (zqc.l0 k x0 (wrap64 (x3 + 1))) else (if (bt x0 x3) = 46 then (zqc.l0 k x0 (wrap64 (x3 + 1))) else (if ((bt x0 x3) = 36) then (zqc.l0 k x0 (wrap64 (x3 + 1))) else (some false)))))) else (if (bt x0 x3) ≥ 48 then (if (bt x0 x3) ≤ 57 then (zqc.l0 k x0 (wrap64 (x3 + 1))) else (if (bt x0 x3) = 95 then (zqc.l0 k x0 (wrap64 (x3 + 1))) else (if (bt x0 x3) = 46 then (zqc.l0 k x0 (wrap64 (x3 + 1))) else (if ((bt x0 x3) = 36) then (zqc.l0 k x0 (wrap64 (x3 + 1))) else (some false))))) else (if (bt x0 x3) = 95 then (zqc.l0 k x0 (wrap64 (x3 + 1))) else (if (bt x0 x3) = 46 then (zqc.l0 k x0 (wrap64 (x3 + 1))) else (if ((bt x0 x3) = 36) then (zqc.l0 k x0 (wrap64 (x3 + 1))) else (some false))))))) else (if (bt x0 x3) ≥ 65 then (if (bt x0 x3) ≤ 90 then (zqc.l0 k x0 (wrap64 (x3 + 1))) else (if (bt x0 x3) ≥ 48 then (if (bt x0 x3) ≤ 57 then (zqc.l0 k x0 (wrap64 (x3 + 1))) else (if (bt x0 x3) = 95 then (zqc.l0 k x0 (wrap64 (x3 + 1))) else (if (bt x0 x3) = 46 then (zqc.l0 k x0 (wrap64 (x3 + 1))) else (if ((bt x0 x3) = 36) then (zqc.l0 k x0 (wrap64 (x3 + 1))) else (some false))))) else (if (bt x0 x3) = 95 then (zqc.l0 k x0 (wrap64 (x3 + 1))) else (if (bt x0 x3) = 46 then (zqc.l0 k x0 (wrap64 (x3 + 1))) else (if ((bt x0 x3) = 36) then (zqc.l0 k x0 (wrap64 (x3 + 1))) else (some false)))))) else (if (bt x0 x3) ≥ 48 then (if (bt x0 x3) ≤ 57 then (zqc.l0 k x0 (wrap64 (x3 + 1))) else (if (bt x0 x3) = 95 then (zqc.l0 k x0 (wrap64 (x3 + 1))) else (if (bt x0 x3) = 46 then (zqc.l0 k x0 (wrap64 (x3 + 1))) else (if ((bt x0 x3) = 36) then (zqc.l0 k x0 (wrap64 (x3 + 1))) else (some false))))) else (if (bt x0 x3) = 95 then (zqc.l0 k x0 (wrap64 (x3 + 1))) else (if (bt x0 x3) = 46 then (zqc.l0 k x0 (wrap64 (x3 + 1))) else (if ((bt x0 x3) = 36) then (zqc.l0 k x0 (wrap64 (x3 + 1))) else (some false))))))) else (none)) else (some true)
end
def zqc.f (k : Nat) (a0 : ByteArray) : Option (Bool) := if a0.toList = ([] : List UInt8) then (zqc.j0 k a0 true) else (if (a0.size : Int) > 14 then (zqc.j0 k a0 true) else (if 0 < (a0.size : Int) then (if (bt a0 0) ≥ 48 then (zqc.j0 k a0 (decide ((bt a0 0) ≤ 57))) else (zqc.j0 k a0 false)) else (none)))
theorem zqc.calls (k : Nat) (a0 : ByteArray) (r : Bool) (w : World) (h : zqc.f k a0 = some r) :
  Calls Try.prog 51 #[.string a0] w fun e w' => e = .returned (.bool r) ∧ Drawn0 w w' := by
 have H : (if a0.toList = ([] : List UInt8) then (zqc.j0 k a0 true) else (if (a0.size : Int) > 14 then (zqc.j0 k a0 true) else (if 0 < (a0.size : Int) then (if (bt a0 0) ≥ 48 then (zqc.j0 k a0 (decide ((bt a0 0) ≤ 57))) else (zqc.j0 k a0 false)) else (none)))) = some r := h
 clear h
 have HC2 := q_ H
 clear H
 go_enter Try.func51, Try.ntmps51
 go_upto_region 1 with (fail)
 go_cut [21] (fun v21 wc => ∃ (kq : Nat) (x21_1 : Bool), v21 = .bool x21_1 ∧ Aside0 (zqc.j0 kq a0 x21_1 = some r) ∧ Aside0 (kq ≤ k) ∧ Drawn0 w wc)
 case first =>
  have H := HC2.out
  clear HC2
  by_cases c3 : a0.toList = ([] : List UInt8)
  ·rw [if_pos c3] at H
   have c3b0 : (a0.toList == ([] : List UInt8)) = true := beq_iff_eq.mpr c3
   have c3b1 : (a0.toList != ([] : List UInt8)) = false := bne_eq_false_iff_eq.mpr c3
   clear c3
   (first | rw [c3b0] | (simp only [i64_w, i32_w]; rw [c3b0]) | skip)
   have H' := q_ H
   clear H
   go_wp2
   go_meet
   case rel => exact ⟨_, (true), cl_, H', ⟨by first | omega | exact Nat.le_refl _⟩, by repeat (first | exact Drawn0.refl _ | apply Drawn0.step)⟩
  rw [if_neg c3] at H
  have c3b0 : (a0.toList == ([] : List UInt8)) = false := beq_eq_false_iff_ne.mpr c3
  have c3b1 : (a0.toList != ([] : List UInt8)) = true := bne_iff_ne.mpr c3
  (first | rw [c3b0] | (simp only [i64_w, i32_w]; rw [c3b0]) | skip)
  by_cases c4 : (a0.size : Int) > 14
  ·rw [if_pos c4] at H
   have c4b0 : decide (14 < (a0.size : Int)) = true := decide_eq_true c4
   have c4b1 : decide (14 < a0.size) = true := decide_eq_true (by omega)
   clear c4
   have H' := q_ H
   clear H
   go_wp2
   go_meet
   case rel => exact ⟨_, (true), cl_, H', ⟨by first | omega | exact Nat.le_refl _⟩, by repeat (first | exact Drawn0.refl _ | apply Drawn0.step)⟩
  rw [if_neg c4] at H
  have c4b0 : decide (14 < (a0.size : Int)) = false := decide_eq_false c4
  have c4b1 : decide (14 < a0.size) = false := decide_eq_false (by omega)
  clear c4
  by_cases c5 : 0 < (a0.size : Int)
  rotate_left
  ·rw [if_neg c5] at H
   exact absurd H (by simp)
  rw [if_pos c5] at H
  have c5b0 : decide (0 < (a0.size : Int)) = true := decide_eq_true c5
  have c5b1 : decide (0 < a0.size) = true := decide_eq_true (by omega)
  clear c5
  by_cases c7 : (bt a0 0) ≥ 48
  rotate_left
  ·rw [if_neg c7] at H
   have c7b0 : decide (48 ≤ (bt a0 0)) = false := decide_eq_false c7
   clear c7
   have H' := q_ H
   clear H
   have p6 : 0 ≤ (0 : Int) := (by omega)
   have q6 : 0 < a0.size := (by have : (0 : Int) < (a0.size : Int) := oa_; omega)
   have hx6 : ∀ h : 0 < a0.size, ((a0[0]'h).toNat : Int) = bt a0 0 := bt_at a0 0
   clear p6
   have qi6 : (0 < (a0.size : Int)) = True := eq_true (oa_)
   replace q6 := eq_true q6
   go_wp2
   go_meet
   case rel => exact ⟨_, (false), cl_, H', ⟨by first | omega | exact Nat.le_refl _⟩, by repeat (first | exact Drawn0.refl _ | apply Drawn0.step)⟩
  rw [if_pos c7] at H
  have c7b0 : decide (48 ≤ (bt a0 0)) = true := decide_eq_true c7
  clear c7
  have H' := q_ H
  clear H
  have p6 : 0 ≤ (0 : Int) := (by omega)
  have q6 : 0 < a0.size := (by have : (0 : Int) < (a0.size : Int) := oa_; omega)
  have hx6 : ∀ h : 0 < a0.size, ((a0[0]'h).toNat : Int) = bt a0 0 := bt_at a0 0
  clear p6
  have qi6 : (0 < (a0.size : Int)) = True := eq_true (oa_)
  replace q6 := eq_true q6
  have p8 : 0 ≤ (0 : Int) := (by omega)
  have q8 : 0 < a0.size := (by have : (0 : Int) < (a0.size : Int) := oa_; omega)
  have hx8 : ∀ h : 0 < a0.size, ((a0[0]'h).toNat : Int) = bt a0 0 := bt_at a0 0
  clear p8
  have qi8 : (0 < (a0.size : Int)) = True := eq_true (oa_)
  replace q8 := eq_true q8
  go_wp2
  go_meet
  case rel => exact ⟨_, (decide ((bt a0 0) ≤ 57)), cl_, H', ⟨by first | omega | exact Nat.le_refl _⟩, by repeat (first | exact Drawn0.refl _ | apply Drawn0.step)⟩
 case rest =>
  clear HC2
  obtain ⟨kq, x21_1, rfl, HA, HJ1, ⟨mc1, rfl⟩⟩ := hcut
  cases kq with
  | zero => exact absurd HA.out (by simp [zqc.j0])
  | succ kj1 =>
   have H := HA.out
   clear HA
   simp only [zqc.j0] at H
   by_cases c9 : x21_1 = true
   ·subst c9
    rw [if_pos rfl] at H
    obtain rfl := Option.some.inj H
    go_wp2
    go_ret
    exact ⟨by first | rfl | (simp; done) | (simp [y0m]; done) | (simp [*]; done), by repeat (first | exact Drawn0.refl _ | apply Drawn0.step)⟩
   replace c9 := Bool.eq_false_iff.mpr c9
   subst c9
   rw [if_neg (show ¬ (false = true) by decide)] at H
   have H' := q_ H
   clear H
   go_wp2
   go_loopg [3] kj1 (fun kq v3 w' => ∃ (x3_2 : Int), v3 = .int .i64 x3_2 ∧ Aside0 (zqc.l0 kq a0 x3_2 = some r) ∧ Aside0 (kq ≤ kj1) ∧ Drawn0 w w')
   case atStart => exact ⟨(0), cl_, H', ⟨Nat.le_refl _⟩, by repeat (first | exact Drawn0.refl _ | apply Drawn0.step)⟩
   case round =>
    clear H'
    obtain ⟨x3_2, rfl, HA, HK2, ⟨m2, rfl⟩⟩ := hrel
    cases gk with
    | zero => exact absurd HA.out (by simp [zqc.l0])
    | succ k2 =>
     have H := HA.out
     clear HA
     simp only [zqc.l0] at H
     by_cases c10 : x3_2 < (a0.size : Int)
     rotate_left
     ·rw [if_neg c10] at H
      have c10b0 : decide (x3_2 < (a0.size : Int)) = false := decide_eq_false c10
      clear c10
      obtain rfl := Option.some.inj H
      go_wp2
      go_ret
      exact ⟨by first | rfl | (simp; done) | (simp [y0m]; done) | (simp [*]; done), by repeat (first | exact Drawn0.refl _ | apply Drawn0.step)⟩
     rw [if_pos c10] at H
     have c10b0 : decide (x3_2 < (a0.size : Int)) = true := decide_eq_true c10
     clear c10
     by_cases c11 : 0 ≤ x3_2
     rotate_left
     ·rw [if_neg c11] at H
      exact absurd H (by simp)
     rw [if_pos c11] at H
     have c11b0 : decide (0 ≤ x3_2) = true := decide_eq_true c11
     clear c11
     by_cases c13 : (bt a0 x3_2) ≥ 97
     rotate_left
     ·rw [if_neg c13] at H
      have c13b0 : decide (97 ≤ (bt a0 x3_2)) = false := decide_eq_false c13
      clear c13
      by_cases c33 : (bt a0 x3_2) ≥ 65
      rotate_left
      ·rw [if_neg c33] at H
       have c33b0 : decide (65 ≤ (bt a0 x3_2)) = false := decide_eq_false c33
       clear c33
       by_cases c43 : (bt a0 x3_2) ≥ 48
       rotate_left
       ·rw [if_neg c43] at H
        have c43b0 : decide (48 ≤ (bt a0 x3_2)) = false := decide_eq_false c43
        clear c43
        by_cases c48 : (bt a0 x3_2) = 95
        ·rw [if_pos c48] at H
         have c48b0 : ((bt a0 x3_2) == 95) = true := beq_iff_eq.mpr c48
         have c48b1 : ((bt a0 x3_2) != 95) = false := bne_eq_false_iff_eq.mpr c48
         clear c48
         have H' := q_ H
         clear H
         have p12 : 0 ≤ (x3_2 : Int) := oa_
         have q12 : x3_2 < (a0.size : Int) := oa_
         have hx12 := bt_at a0 x3_2
         replace p12 := eq_true p12
         replace q12 := eq_true q12
         go_wp2
         go_roundg k2
         case measure => have := HJ1.out; have := HK2.out; omega
         case rel => exact ⟨(wrap64 (x3_2 + 1)), cl_, H', ⟨by have := HJ1.out; have := HK2.out; omega⟩, by repeat (first | exact Drawn0.refl _ | apply Drawn0.step)⟩
        rw [if_neg c48] at H
        have c48b0 : ((bt a0 x3_2) == 95) = false := beq_eq_false_iff_ne.mpr c48
        have c48b1 : ((bt a0 x3_2) != 95) = true := bne_iff_ne.mpr c48
        by_cases c49 : (bt a0 x3_2) = 46
        ·rw [if_pos c49] at H
         have c49b0 : ((bt a0 x3_2) == 46) = true := beq_iff_eq.mpr c49
         have c49b1 : ((bt a0 x3_2) != 46) = false := bne_eq_false_iff_eq.mpr c49
         clear c49
         have H' := q_ H
         clear H
         have p12 : 0 ≤ (x3_2 : Int) := oa_
         have q12 : x3_2 < (a0.size : Int) := oa_
         have hx12 := bt_at a0 x3_2
         replace p12 := eq_true p12
         replace q12 := eq_true q12
         go_wp2
         go_roundg k2
         case measure => have := HJ1.out; have := HK2.out; omega
         case rel => exact ⟨(wrap64 (x3_2 + 1)), cl_, H', ⟨by have := HJ1.out; have := HK2.out; omega⟩, by repeat (first | exact Drawn0.refl _ | apply Drawn0.step)⟩
        rw [if_neg c49] at H
        have c49b0 : ((bt a0 x3_2) == 46) = false := beq_eq_false_iff_ne.mpr c49
        have c49b1 : ((bt a0 x3_2) != 46) = true := bne_iff_ne.mpr c49
        by_cases c50 : ((bt a0 x3_2) = 36)
        rotate_left
        ·rw [if_neg c50] at H
         have c50b0 : ((bt a0 x3_2) == 36) = false := beq_eq_false_iff_ne.mpr c50
         have c50b1 : ((bt a0 x3_2) != 36) = true := bne_iff_ne.mpr c50
         obtain rfl := Option.some.inj H
         have p12 : 0 ≤ (x3_2 : Int) := oa_
         have q12 : x3_2 < (a0.size : Int) := oa_
         have hx12 := bt_at a0 x3_2
         replace p12 := eq_true p12
         replace q12 := eq_true q12
         go_wp2
         go_ret
         exact ⟨by first | rfl | (simp; done) | (simp [y0m]; done) | (simp [*]; done), by repeat (first | exact Drawn0.refl _ | apply Drawn0.step)⟩
        rw [if_pos c50] at H
        have c50b0 : ((bt a0 x3_2) == 36) = true := beq_iff_eq.mpr c50
        have c50b1 : ((bt a0 x3_2) != 36) = false := bne_eq_false_iff_eq.mpr c50
        clear c50
        have H' := q_ H
        clear H
        have p12 : 0 ≤ (x3_2 : Int) := oa_
        have q12 : x3_2 < (a0.size : Int) := oa_
        have hx12 := bt_at a0 x3_2
        replace p12 := eq_true p12
        replace q12 := eq_true q12
        go_wp2
        go_roundg k2
        case measure => have := HJ1.out; have := HK2.out; omega
        case rel => exact ⟨(wrap64 (x3_2 + 1)), cl_, H', ⟨by have := HJ1.out; have := HK2.out; omega⟩, by repeat (first | exact Drawn0.refl _ | apply Drawn0.step)⟩
       rw [if_pos c43] at H
       have c43b0 : decide (48 ≤ (bt a0 x3_2)) = true := decide_eq_true c43
       clear c43
       by_cases c44 : (bt a0 x3_2) ≤ 57
       ·rw [if_pos c44] at H
        have c44b0 : decide ((bt a0 x3_2) ≤ 57) = true := decide_eq_true c44
        clear c44
        have H' := q_ H
        clear H
        have p12 : 0 ≤ (x3_2 : Int) := oa_
        have q12 : x3_2 < (a0.size : Int) := oa_
        have hx12 := bt_at a0 x3_2
        replace p12 := eq_true p12
        replace q12 := eq_true q12
        go_wp2
        go_roundg k2
        case measure => have := HJ1.out; have := HK2.out; omega
        case rel => exact ⟨(wrap64 (x3_2 + 1)), cl_, H', ⟨by have := HJ1.out; have := HK2.out; omega⟩, by repeat (first | exact Drawn0.refl _ | apply Drawn0.step)⟩
       rw [if_neg c44] at H
       have c44b0 : decide ((bt a0 x3_2) ≤ 57) = false := decide_eq_false c44
       clear c44
       by_cases c45 : (bt a0 x3_2) = 95
       ·rw [if_pos c45] at H
        have c45b0 : ((bt a0 x3_2) == 95) = true := beq_iff_eq.mpr c45
        have c45b1 : ((bt a0 x3_2) != 95) = false := bne_eq_false_iff_eq.mpr c45
        clear c45
        have H' := q_ H
        clear H
        have p12 : 0 ≤ (x3_2 : Int) := oa_
        have q12 : x3_2 < (a0.size : Int) := oa_
        have hx12 := bt_at a0 x3_2
        replace p12 := eq_true p12
        replace q12 := eq_true q12
        go_wp2
        go_roundg k2
        case measure => have := HJ1.out; have := HK2.out; omega
        case rel => exact ⟨(wrap64 (x3_2 + 1)), cl_, H', ⟨by have := HJ1.out; have := HK2.out; omega⟩, by repeat (first | exact Drawn0.refl _ | apply Drawn0.step)⟩
       rw [if_neg c45] at H
       have c45b0 : ((bt a0 x3_2) == 95) = false := beq_eq_false_iff_ne.mpr c45
       have c45b1 : ((bt a0 x3_2) != 95) = true := bne_iff_ne.mpr c45
       by_cases c46 : (bt a0 x3_2) = 46
       ·rw [if_pos c46] at H
        have c46b0 : ((bt a0 x3_2) == 46) = true := beq_iff_eq.mpr c46
        have c46b1 : ((bt a0 x3_2) != 46) = false := bne_eq_false_iff_eq.mpr c46
        clear c46
        have H' := q_ H
        clear H
        have p12 : 0 ≤ (x3_2 : Int) := oa_
        have q12 : x3_2 < (a0.size : Int) := oa_
        have hx12 := bt_at a0 x3_2
        replace p12 := eq_true p12
        replace q12 := eq_true q12
        go_wp2
        go_roundg k2
        case measure => have := HJ1.out; have := HK2.out; omega
        case rel => exact ⟨(wrap64 (x3_2 + 1)), cl_, H', ⟨by have := HJ1.out; have := HK2.out; omega⟩, by repeat (first | exact Drawn0.refl _ | apply Drawn0.step)⟩
       rw [if_neg c46] at H
       have c46b0 : ((bt a0 x3_2) == 46) = false := beq_eq_false_iff_ne.mpr c46
       have c46b1 : ((bt a0 x3_2) != 46) = true := bne_iff_ne.mpr c46
       by_cases c47 : ((bt a0 x3_2) = 36)
       rotate_left
       ·rw [if_neg c47] at H
        have c47b0 : ((bt a0 x3_2) == 36) = false := beq_eq_false_iff_ne.mpr c47
        have c47b1 : ((bt a0 x3_2) != 36) = true := bne_iff_ne.mpr c47
        obtain rfl := Option.some.inj H
        have p12 : 0 ≤ (x3_2 : Int) := oa_
        have q12 : x3_2 < (a0.size : Int) := oa_
        have hx12 := bt_at a0 x3_2
        replace p12 := eq_true p12
        replace q12 := eq_true q12
        go_wp2
        go_ret
        exact ⟨by first | rfl | (simp; done) | (simp [y0m]; done) | (simp [*]; done), by repeat (first | exact Drawn0.refl _ | apply Drawn0.step)⟩
       rw [if_pos c47] at H
       have c47b0 : ((bt a0 x3_2) == 36) = true := beq_iff_eq.mpr c47
       have c47b1 : ((bt a0 x3_2) != 36) = false := bne_eq_false_iff_eq.mpr c47
       clear c47
       have H' := q_ H
       clear H
       have p12 : 0 ≤ (x3_2 : Int) := oa_
       have q12 : x3_2 < (a0.size : Int) := oa_
       have hx12 := bt_at a0 x3_2
       replace p12 := eq_true p12
       replace q12 := eq_true q12
       go_wp2
       go_roundg k2
       case measure => have := HJ1.out; have := HK2.out; omega
       case rel => exact ⟨(wrap64 (x3_2 + 1)), cl_, H', ⟨by have := HJ1.out; have := HK2.out; omega⟩, by repeat (first | exact Drawn0.refl _ | apply Drawn0.step)⟩
      rw [if_pos c33] at H
      have c33b0 : decide (65 ≤ (bt a0 x3_2)) = true := decide_eq_true c33
      clear c33
      by_cases c34 : (bt a0 x3_2) ≤ 90
      ·rw [if_pos c34] at H
       have c34b0 : decide ((bt a0 x3_2) ≤ 90) = true := decide_eq_true c34
       clear c34
       have H' := q_ H
       clear H
       have p12 : 0 ≤ (x3_2 : Int) := oa_
       have q12 : x3_2 < (a0.size : Int) := oa_
       have hx12 := bt_at a0 x3_2
       replace p12 := eq_true p12
       replace q12 := eq_true q12
       go_wp2
       go_roundg k2
       case measure => have := HJ1.out; have := HK2.out; omega
       case rel => exact ⟨(wrap64 (x3_2 + 1)), cl_, H', ⟨by have := HJ1.out; have := HK2.out; omega⟩, by repeat (first | exact Drawn0.refl _ | apply Drawn0.step)⟩
      rw [if_neg c34] at H
      have c34b0 : decide ((bt a0 x3_2) ≤ 90) = false := decide_eq_false c34
      clear c34
      by_cases c35 : (bt a0 x3_2) ≥ 48
      rotate_left
      ·rw [if_neg c35] at H
       have c35b0 : decide (48 ≤ (bt a0 x3_2)) = false := decide_eq_false c35
       clear c35
       by_cases c40 : (bt a0 x3_2) = 95
       ·rw [if_pos c40] at H
        have c40b0 : ((bt a0 x3_2) == 95) = true := beq_iff_eq.mpr c40
        have c40b1 : ((bt a0 x3_2) != 95) = false := bne_eq_false_iff_eq.mpr c40
        clear c40
        have H' := q_ H
        clear H
        have p12 : 0 ≤ (x3_2 : Int) := oa_
        have q12 : x3_2 < (a0.size : Int) := oa_
        have hx12 := bt_at a0 x3_2
        replace p12 := eq_true p12
        replace q12 := eq_true q12
        go_wp2
        go_roundg k2
        case measure => have := HJ1.out; have := HK2.out; omega
        case rel => exact ⟨(wrap64 (x3_2 + 1)), cl_, H', ⟨by have := HJ1.out; have := HK2.out; omega⟩, by repeat (first | exact Drawn0.refl _ | apply Drawn0.step)⟩
       rw [if_neg c40] at H
       have c40b0 : ((bt a0 x3_2) == 95) = false := beq_eq_false_iff_ne.mpr c40
       have c40b1 : ((bt a0 x3_2) != 95) = true := bne_iff_ne.mpr c40
       by_cases c41 : (bt a0 x3_2) = 46
       ·rw [if_pos c41] at H
        have c41b0 : ((bt a0 x3_2) == 46) = true := beq_iff_eq.mpr c41
        have c41b1 : ((bt a0 x3_2) != 46) = false := bne_eq_false_iff_eq.mpr c41
        clear c41
        have H' := q_ H
        clear H
        have p12 : 0 ≤ (x3_2 : Int) := oa_
        have q12 : x3_2 < (a0.size : Int) := oa_
        have hx12 := bt_at a0 x3_2
        replace p12 := eq_true p12
        replace q12 := eq_true q12
        go_wp2
        go_roundg k2
        case measure => have := HJ1.out; have := HK2.out; omega
        case rel => exact ⟨(wrap64 (x3_2 + 1)), cl_, H', ⟨by have := HJ1.out; have := HK2.out; omega⟩, by repeat (first | exact Drawn0.refl _ | apply Drawn0.step)⟩
       rw [if_neg c41] at H
       have c41b0 : ((bt a0 x3_2) == 46) = false := beq_eq_false_iff_ne.mpr c41
       have c41b1 : ((bt a0 x3_2) != 46) = true := bne_iff_ne.mpr c41
       by_cases c42 : ((bt a0 x3_2) = 36)
       rotate_left
       ·rw [if_neg c42] at H
        have c42b0 : ((bt a0 x3_2) == 36) = false := beq_eq_false_iff_ne.mpr c42
        have c42b1 : ((bt a0 x3_2) != 36) = true := bne_iff_ne.mpr c42
        obtain rfl := Option.some.inj H
        have p12 : 0 ≤ (x3_2 : Int) := oa_
        have q12 : x3_2 < (a0.size : Int) := oa_
        have hx12 := bt_at a0 x3_2
        replace p12 := eq_true p12
        replace q12 := eq_true q12
        go_wp2
        go_ret
        exact ⟨by first | rfl | (simp; done) | (simp [y0m]; done) | (simp [*]; done), by repeat (first | exact Drawn0.refl _ | apply Drawn0.step)⟩
       rw [if_pos c42] at H
       have c42b0 : ((bt a0 x3_2) == 36) = true := beq_iff_eq.mpr c42
       have c42b1 : ((bt a0 x3_2) != 36) = false := bne_eq_false_iff_eq.mpr c42
       clear c42
       have H' := q_ H
       clear H
       have p12 : 0 ≤ (x3_2 : Int) := oa_
       have q12 : x3_2 < (a0.size : Int) := oa_
       have hx12 := bt_at a0 x3_2
       replace p12 := eq_true p12
       replace q12 := eq_true q12
       go_wp2
       go_roundg k2
       case measure => have := HJ1.out; have := HK2.out; omega
       case rel => exact ⟨(wrap64 (x3_2 + 1)), cl_, H', ⟨by have := HJ1.out; have := HK2.out; omega⟩, by repeat (first | exact Drawn0.refl _ | apply Drawn0.step)⟩
      rw [if_pos c35] at H
      have c35b0 : decide (48 ≤ (bt a0 x3_2)) = true := decide_eq_true c35
      clear c35
      by_cases c36 : (bt a0 x3_2) ≤ 57
      ·rw [if_pos c36] at H
       have c36b0 : decide ((bt a0 x3_2) ≤ 57) = true := decide_eq_true c36
       clear c36
       have H' := q_ H
       clear H
       have p12 : 0 ≤ (x3_2 : Int) := oa_
       have q12 : x3_2 < (a0.size : Int) := oa_
       have hx12 := bt_at a0 x3_2
       replace p12 := eq_true p12
       replace q12 := eq_true q12
       go_wp2
       go_roundg k2
       case measure => have := HJ1.out; have := HK2.out; omega
       case rel => exact ⟨(wrap64 (x3_2 + 1)), cl_, H', ⟨by have := HJ1.out; have := HK2.out; omega⟩, by repeat (first | exact Drawn0.refl _ | apply Drawn0.step)⟩
      rw [if_neg c36] at H
      have c36b0 : decide ((bt a0 x3_2) ≤ 57) = false := decide_eq_false c36
      clear c36
      by_cases c37 : (bt a0 x3_2) = 95
      ·rw [if_pos c37] at H
       have c37b0 : ((bt a0 x3_2) == 95) = true := beq_iff_eq.mpr c37
       have c37b1 : ((bt a0 x3_2) != 95) = false := bne_eq_false_iff_eq.mpr c37
       clear c37
       have H' := q_ H
       clear H
       have p12 : 0 ≤ (x3_2 : Int) := oa_
       have q12 : x3_2 < (a0.size : Int) := oa_
       have hx12 := bt_at a0 x3_2
       replace p12 := eq_true p12
       replace q12 := eq_true q12
       go_wp2
       go_roundg k2
       case measure => have := HJ1.out; have := HK2.out; omega
       case rel => exact ⟨(wrap64 (x3_2 + 1)), cl_, H', ⟨by have := HJ1.out; have := HK2.out; omega⟩, by repeat (first | exact Drawn0.refl _ | apply Drawn0.step)⟩
      rw [if_neg c37] at H
      have c37b0 : ((bt a0 x3_2) == 95) = false := beq_eq_false_iff_ne.mpr c37
      have c37b1 : ((bt a0 x3_2) != 95) = true := bne_iff_ne.mpr c37
      by_cases c38 : (bt a0 x3_2) = 46
      ·rw [if_pos c38] at H
       have c38b0 : ((bt a0 x3_2) == 46) = true := beq_iff_eq.mpr c38
       have c38b1 : ((bt a0 x3_2) != 46) = false := bne_eq_false_iff_eq.mpr c38
       clear c38
       have H' := q_ H
       clear H
       have p12 : 0 ≤ (x3_2 : Int) := oa_
       have q12 : x3_2 < (a0.size : Int) := oa_
       have hx12 := bt_at a0 x3_2
       replace p12 := eq_true p12
       replace q12 := eq_true q12
       go_wp2
       go_roundg k2
       case measure => have := HJ1.out; have := HK2.out; omega
       case rel => exact ⟨(wrap64 (x3_2 + 1)), cl_, H', ⟨by have := HJ1.out; have := HK2.out; omega⟩, by repeat (first | exact Drawn0.refl _ | apply Drawn0.step)⟩
      rw [if_neg c38] at H
      have c38b0 : ((bt a0 x3_2) == 46) = false := beq_eq_false_iff_ne.mpr c38
      have c38b1 : ((bt a0 x3_2) != 46) = true := bne_iff_ne.mpr c38
      by_cases c39 : ((bt a0 x3_2) = 36)
      rotate_left
      ·rw [if_neg c39] at H
       have c39b0 : ((bt a0 x3_2) == 36) = false := beq_eq_false_iff_ne.mpr c39
       have c39b1 : ((bt a0 x3_2) != 36) = true := bne_iff_ne.mpr c39
       obtain rfl := Option.some.inj H
       have p12 : 0 ≤ (x3_2 : Int) := oa_
       have q12 : x3_2 < (a0.size : Int) := oa_
       have hx12 := bt_at a0 x3_2
       replace p12 := eq_true p12
       replace q12 := eq_true q12
       go_wp2
       go_ret
       exact ⟨by first | rfl | (simp; done) | (simp [y0m]; done) | (simp [*]; done), by repeat (first | exact Drawn0.refl _ | apply Drawn0.step)⟩
      rw [if_pos c39] at H
      have c39b0 : ((bt a0 x3_2) == 36) = true := beq_iff_eq.mpr c39
      have c39b1 : ((bt a0 x3_2) != 36) = false := bne_eq_false_iff_eq.mpr c39
      clear c39
      have H' := q_ H
      clear H
      have p12 : 0 ≤ (x3_2 : Int) := oa_
      have q12 : x3_2 < (a0.size : Int) := oa_
      have hx12 := bt_at a0 x3_2
      replace p12 := eq_true p12
      replace q12 := eq_true q12
      go_wp2
      go_roundg k2
      case measure => have := HJ1.out; have := HK2.out; omega
      case rel => exact ⟨(wrap64 (x3_2 + 1)), cl_, H', ⟨by have := HJ1.out; have := HK2.out; omega⟩, by repeat (first | exact Drawn0.refl _ | apply Drawn0.step)⟩
     rw [if_pos c13] at H
     have c13b0 : decide (97 ≤ (bt a0 x3_2)) = true := decide_eq_true c13
     clear c13
     by_cases c14 : (bt a0 x3_2) ≤ 122
     ·rw [if_pos c14] at H
      have c14b0 : decide ((bt a0 x3_2) ≤ 122) = true := decide_eq_true c14
      clear c14
      have H' := q_ H
      clear H
      have p12 : 0 ≤ (x3_2 : Int) := oa_
      have q12 : x3_2 < (a0.size : Int) := oa_
      have hx12 := bt_at a0 x3_2
      replace p12 := eq_true p12
      replace q12 := eq_true q12
      go_wp2
      go_roundg k2
      case measure => have := HJ1.out; have := HK2.out; omega
      case rel => exact ⟨(wrap64 (x3_2 + 1)), cl_, H', ⟨by have := HJ1.out; have := HK2.out; omega⟩, by repeat (first | exact Drawn0.refl _ | apply Drawn0.step)⟩
     rw [if_neg c14] at H
     have c14b0 : decide ((bt a0 x3_2) ≤ 122) = false := decide_eq_false c14
     clear c14
     by_cases c15 : (bt a0 x3_2) ≥ 65
     rotate_left
     ·rw [if_neg c15] at H
      have c15b0 : decide (65 ≤ (bt a0 x3_2)) = false := decide_eq_false c15
      clear c15
      by_cases c25 : (bt a0 x3_2) ≥ 48
      rotate_left
      ·rw [if_neg c25] at H
       have c25b0 : decide (48 ≤ (bt a0 x3_2)) = false := decide_eq_false c25
       clear c25
       by_cases c30 : (bt a0 x3_2) = 95
       ·rw [if_pos c30] at H
        have c30b0 : ((bt a0 x3_2) == 95) = true := beq_iff_eq.mpr c30
        have c30b1 : ((bt a0 x3_2) != 95) = false := bne_eq_false_iff_eq.mpr c30
        clear c30
        have H' := q_ H
        clear H
        have p12 : 0 ≤ (x3_2 : Int) := oa_
        have q12 : x3_2 < (a0.size : Int) := oa_
        have hx12 := bt_at a0 x3_2
        replace p12 := eq_true p12
        replace q12 := eq_true q12
        go_wp2
        go_roundg k2
        case measure => have := HJ1.out; have := HK2.out; omega
        case rel => exact ⟨(wrap64 (x3_2 + 1)), cl_, H', ⟨by have := HJ1.out; have := HK2.out; omega⟩, by repeat (first | exact Drawn0.refl _ | apply Drawn0.step)⟩
       rw [if_neg c30] at H
       have c30b0 : ((bt a0 x3_2) == 95) = false := beq_eq_false_iff_ne.mpr c30
       have c30b1 : ((bt a0 x3_2) != 95) = true := bne_iff_ne.mpr c30
       by_cases c31 : (bt a0 x3_2) = 46
       ·rw [if_pos c31] at H
        have c31b0 : ((bt a0 x3_2) == 46) = true := beq_iff_eq.mpr c31
        have c31b1 : ((bt a0 x3_2) != 46) = false := bne_eq_false_iff_eq.mpr c31
        clear c31
        have H' := q_ H
        clear H
        have p12 : 0 ≤ (x3_2 : Int) := oa_
        have q12 : x3_2 < (a0.size : Int) := oa_
        have hx12 := bt_at a0 x3_2
        replace p12 := eq_true p12
        replace q12 := eq_true q12
        go_wp2
        go_roundg k2
        case measure => have := HJ1.out; have := HK2.out; omega
        case rel => exact ⟨(wrap64 (x3_2 + 1)), cl_, H', ⟨by have := HJ1.out; have := HK2.out; omega⟩, by repeat (first | exact Drawn0.refl _ | apply Drawn0.step)⟩
       rw [if_neg c31] at H
       have c31b0 : ((bt a0 x3_2) == 46) = false := beq_eq_false_iff_ne.mpr c31
       have c31b1 : ((bt a0 x3_2) != 46) = true := bne_iff_ne.mpr c31
       by_cases c32 : ((bt a0 x3_2) = 36)
       rotate_left
       ·rw [if_neg c32] at H
        have c32b0 : ((bt a0 x3_2) == 36) = false := beq_eq_false_iff_ne.mpr c32
        have c32b1 : ((bt a0 x3_2) != 36) = true := bne_iff_ne.mpr c32
        obtain rfl := Option.some.inj H
        have p12 : 0 ≤ (x3_2 : Int) := oa_
        have q12 : x3_2 < (a0.size : Int) := oa_
        have hx12 := bt_at a0 x3_2
        replace p12 := eq_true p12
        replace q12 := eq_true q12
        go_wp2
        go_ret
        exact ⟨by first | rfl | (simp; done) | (simp [y0m]; done) | (simp [*]; done), by repeat (first | exact Drawn0.refl _ | apply Drawn0.step)⟩
       rw [if_pos c32] at H
       have c32b0 : ((bt a0 x3_2) == 36) = true := beq_iff_eq.mpr c32
       have c32b1 : ((bt a0 x3_2) != 36) = false := bne_eq_false_iff_eq.mpr c32
       clear c32
       have H' := q_ H
       clear H
       have p12 : 0 ≤ (x3_2 : Int) := oa_
       have q12 : x3_2 < (a0.size : Int) := oa_
       have hx12 := bt_at a0 x3_2
       replace p12 := eq_true p12
       replace q12 := eq_true q12
       go_wp2
       go_roundg k2
       case measure => have := HJ1.out; have := HK2.out; omega
       case rel => exact ⟨(wrap64 (x3_2 + 1)), cl_, H', ⟨by have := HJ1.out; have := HK2.out; omega⟩, by repeat (first | exact Drawn0.refl _ | apply Drawn0.step)⟩
      rw [if_pos c25] at H
      have c25b0 : decide (48 ≤ (bt a0 x3_2)) = true := decide_eq_true c25
      clear c25
      by_cases c26 : (bt a0 x3_2) ≤ 57
      ·rw [if_pos c26] at H
       have c26b0 : decide ((bt a0 x3_2) ≤ 57) = true := decide_eq_true c26
       clear c26
       have H' := q_ H
       clear H
       have p12 : 0 ≤ (x3_2 : Int) := oa_
       have q12 : x3_2 < (a0.size : Int) := oa_
       have hx12 := bt_at a0 x3_2
       replace p12 := eq_true p12
       replace q12 := eq_true q12
       go_wp2
       go_roundg k2
       case measure => have := HJ1.out; have := HK2.out; omega
       case rel => exact ⟨(wrap64 (x3_2 + 1)), cl_, H', ⟨by have := HJ1.out; have := HK2.out; omega⟩, by repeat (first | exact Drawn0.refl _ | apply Drawn0.step)⟩
      rw [if_neg c26] at H
      have c26b0 : decide ((bt a0 x3_2) ≤ 57) = false := decide_eq_false c26
      clear c26
      by_cases c27 : (bt a0 x3_2) = 95
      ·rw [if_pos c27] at H
       have c27b0 : ((bt a0 x3_2) == 95) = true := beq_iff_eq.mpr c27
       have c27b1 : ((bt a0 x3_2) != 95) = false := bne_eq_false_iff_eq.mpr c27
       clear c27
       have H' := q_ H
       clear H
       have p12 : 0 ≤ (x3_2 : Int) := oa_
       have q12 : x3_2 < (a0.size : Int) := oa_
       have hx12 := bt_at a0 x3_2
       replace p12 := eq_true p12
       replace q12 := eq_true q12
       go_wp2
       go_roundg k2
       case measure => have := HJ1.out; have := HK2.out; omega
       case rel => exact ⟨(wrap64 (x3_2 + 1)), cl_, H', ⟨by have := HJ1.out; have := HK2.out; omega⟩, by repeat (first | exact Drawn0.refl _ | apply Drawn0.step)⟩
      rw [if_neg c27] at H
      have c27b0 : ((bt a0 x3_2) == 95) = false := beq_eq_false_iff_ne.mpr c27
      have c27b1 : ((bt a0 x3_2) != 95) = true := bne_iff_ne.mpr c27
      by_cases c28 : (bt a0 x3_2) = 46
      ·rw [if_pos c28] at H
       have c28b0 : ((bt a0 x3_2) == 46) = true := beq_iff_eq.mpr c28
       have c28b1 : ((bt a0 x3_2) != 46) = false := bne_eq_false_iff_eq.mpr c28
       clear c28
       have H' := q_ H
       clear H
       have p12 : 0 ≤ (x3_2 : Int) := oa_
       have q12 : x3_2 < (a0.size : Int) := oa_
       have hx12 := bt_at a0 x3_2
       replace p12 := eq_true p12
       replace q12 := eq_true q12
       go_wp2
       go_roundg k2
       case measure => have := HJ1.out; have := HK2.out; omega
       case rel => exact ⟨(wrap64 (x3_2 + 1)), cl_, H', ⟨by have := HJ1.out; have := HK2.out; omega⟩, by repeat (first | exact Drawn0.refl _ | apply Drawn0.step)⟩
      rw [if_neg c28] at H
      have c28b0 : ((bt a0 x3_2) == 46) = false := beq_eq_false_iff_ne.mpr c28
      have c28b1 : ((bt a0 x3_2) != 46) = true := bne_iff_ne.mpr c28
      by_cases c29 : ((bt a0 x3_2) = 36)
      rotate_left
      ·rw [if_neg c29] at H
       have c29b0 : ((bt a0 x3_2) == 36) = false := beq_eq_false_iff_ne.mpr c29
       have c29b1 : ((bt a0 x3_2) != 36) = true := bne_iff_ne.mpr c29
       obtain rfl := Option.some.inj H
       have p12 : 0 ≤ (x3_2 : Int) := oa_
       have q12 : x3_2 < (a0.size : Int) := oa_
       have hx12 := bt_at a0 x3_2
       replace p12 := eq_true p12
       replace q12 := eq_true q12
       go_wp2
       go_ret
       exact ⟨by first | rfl | (simp; done) | (simp [y0m]; done) | (simp [*]; done), by repeat (first | exact Drawn0.refl _ | apply Drawn0.step)⟩
      rw [if_pos c29] at H
      have c29b0 : ((bt a0 x3_2) == 36) = true := beq_iff_eq.mpr c29
      have c29b1 : ((bt a0 x3_2) != 36) = false := bne_eq_false_iff_eq.mpr c29
      clear c29
      have H' := q_ H
      clear H
      have p12 : 0 ≤ (x3_2 : Int) := oa_
      have q12 : x3_2 < (a0.size : Int) := oa_
      have hx12 := bt_at a0 x3_2
      replace p12 := eq_true p12
      replace q12 := eq_true q12
      go_wp2
      go_roundg k2
      case measure => have := HJ1.out; have := HK2.out; omega
      case rel => exact ⟨(wrap64 (x3_2 + 1)), cl_, H', ⟨by have := HJ1.out; have := HK2.out; omega⟩, by repeat (first | exact Drawn0.refl _ | apply Drawn0.step)⟩
     rw [if_pos c15] at H
     have c15b0 : decide (65 ≤ (bt a0 x3_2)) = true := decide_eq_true c15
     clear c15
     by_cases c16 : (bt a0 x3_2) ≤ 90
     ·rw [if_pos c16] at H
      have c16b0 : decide ((bt a0 x3_2) ≤ 90) = true := decide_eq_true c16
      clear c16
      have H' := q_ H
      clear H
      have p12 : 0 ≤ (x3_2 : Int) := oa_
      have q12 : x3_2 < (a0.size : Int) := oa_
      have hx12 := bt_at a0 x3_2
      replace p12 := eq_true p12
      replace q12 := eq_true q12
      go_wp2
      go_roundg k2
      case measure => have := HJ1.out; have := HK2.out; omega
      case rel => exact ⟨(wrap64 (x3_2 + 1)), cl_, H', ⟨by have := HJ1.out; have := HK2.out; omega⟩, by repeat (first | exact Drawn0.refl _ | apply Drawn0.step)⟩
     rw [if_neg c16] at H
     have c16b0 : decide ((bt a0 x3_2) ≤ 90) = false := decide_eq_false c16
     clear c16
     by_cases c17 : (bt a0 x3_2) ≥ 48
     rotate_left
     ·rw [if_neg c17] at H
      have c17b0 : decide (48 ≤ (bt a0 x3_2)) = false := decide_eq_false c17
      clear c17
      by_cases c22 : (bt a0 x3_2) = 95
      ·rw [if_pos c22] at H
       have c22b0 : ((bt a0 x3_2) == 95) = true := beq_iff_eq.mpr c22
       have c22b1 : ((bt a0 x3_2) != 95) = false := bne_eq_false_iff_eq.mpr c22
       clear c22
       have H' := q_ H
       clear H
       have p12 : 0 ≤ (x3_2 : Int) := oa_
       have q12 : x3_2 < (a0.size : Int) := oa_
       have hx12 := bt_at a0 x3_2
       replace p12 := eq_true p12
       replace q12 := eq_true q12
       go_wp2
       go_roundg k2
       case measure => have := HJ1.out; have := HK2.out; omega
       case rel => exact ⟨(wrap64 (x3_2 + 1)), cl_, H', ⟨by have := HJ1.out; have := HK2.out; omega⟩, by repeat (first | exact Drawn0.refl _ | apply Drawn0.step)⟩
      rw [if_neg c22] at H
      have c22b0 : ((bt a0 x3_2) == 95) = false := beq_eq_false_iff_ne.mpr c22
      have c22b1 : ((bt a0 x3_2) != 95) = true := bne_iff_ne.mpr c22
      by_cases c23 : (bt a0 x3_2) = 46
      ·rw [if_pos c23] at H
       have c23b0 : ((bt a0 x3_2) == 46) = true := beq_iff_eq.mpr c23
       have c23b1 : ((bt a0 x3_2) != 46) = false := bne_eq_false_iff_eq.mpr c23
       clear c23
       have H' := q_ H
       clear H
       have p12 : 0 ≤ (x3_2 : Int) := oa_
       have q12 : x3_2 < (a0.size : Int) := oa_
       have hx12 := bt_at a0 x3_2
       replace p12 := eq_true p12
       replace q12 := eq_true q12
       go_wp2
       go_roundg k2
       case measure => have := HJ1.out; have := HK2.out; omega
       case rel => exact ⟨(wrap64 (x3_2 + 1)), cl_, H', ⟨by have := HJ1.out; have := HK2.out; omega⟩, by repeat (first | exact Drawn0.refl _ | apply Drawn0.step)⟩
      rw [if_neg c23] at H
      have c23b0 : ((bt a0 x3_2) == 46) = false := beq_eq_false_iff_ne.mpr c23
      have c23b1 : ((bt a0 x3_2) != 46) = true := bne_iff_ne.mpr c23
      by_cases c24 : ((bt a0 x3_2) = 36)
      rotate_left
      ·rw [if_neg c24] at H
       have c24b0 : ((bt a0 x3_2) == 36) = false := beq_eq_false_iff_ne.mpr c24
       have c24b1 : ((bt a0 x3_2) != 36) = true := bne_iff_ne.mpr c24
       obtain rfl := Option.some.inj H
       have p12 : 0 ≤ (x3_2 : Int) := oa_
       have q12 : x3_2 < (a0.size : Int) := oa_
       have hx12 := bt_at a0 x3_2
       replace p12 := eq_true p12
       replace q12 := eq_true q12
       go_wp2
       go_ret
       exact ⟨by first | rfl | (simp; done) | (simp [y0m]; done) | (simp [*]; done), by repeat (first | exact Drawn0.refl _ | apply Drawn0.step)⟩
      rw [if_pos c24] at H
      have c24b0 : ((bt a0 x3_2) == 36) = true := beq_iff_eq.mpr c24
      have c24b1 : ((bt a0 x3_2) != 36) = false := bne_eq_false_iff_eq.mpr c24
      clear c24
      have H' := q_ H
      clear H
      have p12 : 0 ≤ (x3_2 : Int) := oa_
      have q12 : x3_2 < (a0.size : Int) := oa_
      have hx12 := bt_at a0 x3_2
      replace p12 := eq_true p12
      replace q12 := eq_true q12
      go_wp2
      go_roundg k2
      case measure => have := HJ1.out; have := HK2.out; omega
      case rel => exact ⟨(wrap64 (x3_2 + 1)), cl_, H', ⟨by have := HJ1.out; have := HK2.out; omega⟩, by repeat (first | exact Drawn0.refl _ | apply Drawn0.step)⟩
     rw [if_pos c17] at H
     have c17b0 : decide (48 ≤ (bt a0 x3_2)) = true := decide_eq_true c17
     clear c17
     by_cases c18 : (bt a0 x3_2) ≤ 57
     ·rw [if_pos c18] at H
      have c18b0 : decide ((bt a0 x3_2) ≤ 57) = true := decide_eq_true c18
      clear c18
      have H' := q_ H
      clear H
      have p12 : 0 ≤ (x3_2 : Int) := oa_
      have q12 : x3_2 < (a0.size : Int) := oa_
      have hx12 := bt_at a0 x3_2
      replace p12 := eq_true p12
      replace q12 := eq_true q12
      go_wp2
      go_roundg k2
      case measure => have := HJ1.out; have := HK2.out; omega
      case rel => exact ⟨(wrap64 (x3_2 + 1)), cl_, H', ⟨by have := HJ1.out; have := HK2.out; omega⟩, by repeat (first | exact Drawn0.refl _ | apply Drawn0.step)⟩
     rw [if_neg c18] at H
     have c18b0 : decide ((bt a0 x3_2) ≤ 57) = false := decide_eq_false c18
     clear c18
     by_cases c19 : (bt a0 x3_2) = 95
     ·rw [if_pos c19] at H
      have c19b0 : ((bt a0 x3_2) == 95) = true := beq_iff_eq.mpr c19
      have c19b1 : ((bt a0 x3_2) != 95) = false := bne_eq_false_iff_eq.mpr c19
      clear c19
      have H' := q_ H
      clear H
      have p12 : 0 ≤ (x3_2 : Int) := oa_
      have q12 : x3_2 < (a0.size : Int) := oa_
      have hx12 := bt_at a0 x3_2
      replace p12 := eq_true p12
      replace q12 := eq_true q12
      go_wp2
      go_roundg k2
      case measure => have := HJ1.out; have := HK2.out; omega
      case rel => exact ⟨(wrap64 (x3_2 + 1)), cl_, H', ⟨by have := HJ1.out; have := HK2.out; omega⟩, by repeat (first | exact Drawn0.refl _ | apply Drawn0.step)⟩
     rw [if_neg c19] at H
     have c19b0 : ((bt a0 x3_2) == 95) = false := beq_eq_false_iff_ne.mpr c19
     have c19b1 : ((bt a0 x3_2) != 95) = true := bne_iff_ne.mpr c19
     by_cases c20 : (bt a0 x3_2) = 46
     ·rw [if_pos c20] at H
      have c20b0 : ((bt a0 x3_2) == 46) = true := beq_iff_eq.mpr c20
      have c20b1 : ((bt a0 x3_2) != 46) = false := bne_eq_false_iff_eq.mpr c20
      clear c20
      have H' := q_ H
      clear H
      have p12 : 0 ≤ (x3_2 : Int) := oa_
      have q12 : x3_2 < (a0.size : Int) := oa_
      have hx12 := bt_at a0 x3_2
      replace p12 := eq_true p12
      replace q12 := eq_true q12
      go_wp2
      go_roundg k2
      case measure => have := HJ1.out; have := HK2.out; omega
      case rel => exact ⟨(wrap64 (x3_2 + 1)), cl_, H', ⟨by have := HJ1.out; have := HK2.out; omega⟩, by repeat (first | exact Drawn0.refl _ | apply Drawn0.step)⟩
     rw [if_neg c20] at H
     have c20b0 : ((bt a0 x3_2) == 46) = false := beq_eq_false_iff_ne.mpr c20
     have c20b1 : ((bt a0 x3_2) != 46) = true := bne_iff_ne.mpr c20
     by_cases c21 : ((bt a0 x3_2) = 36)
     rotate_left
     ·rw [if_neg c21] at H
      have c21b0 : ((bt a0 x3_2) == 36) = false := beq_eq_false_iff_ne.mpr c21
      have c21b1 : ((bt a0 x3_2) != 36) = true := bne_iff_ne.mpr c21
      obtain rfl := Option.some.inj H
      have p12 : 0 ≤ (x3_2 : Int) := oa_
      have q12 : x3_2 < (a0.size : Int) := oa_
      have hx12 := bt_at a0 x3_2
      replace p12 := eq_true p12
      replace q12 := eq_true q12
      go_wp2
      go_ret
      exact ⟨by first | rfl | (simp; done) | (simp [y0m]; done) | (simp [*]; done), by repeat (first | exact Drawn0.refl _ | apply Drawn0.step)⟩
     rw [if_pos c21] at H
     have c21b0 : ((bt a0 x3_2) == 36) = true := beq_iff_eq.mpr c21
     have c21b1 : ((bt a0 x3_2) != 36) = false := bne_eq_false_iff_eq.mpr c21
     clear c21
     have H' := q_ H
     clear H
     have p12 : 0 ≤ (x3_2 : Int) := oa_
     have q12 : x3_2 < (a0.size : Int) := oa_
     have hx12 := bt_at a0 x3_2
     replace p12 := eq_true p12
     replace q12 := eq_true q12
     go_wp2
     go_roundg k2
     case measure => have := HJ1.out; have := HK2.out; omega
     case rel => exact ⟨(wrap64 (x3_2 + 1)), cl_, H', ⟨by have := HJ1.out; have := HK2.out; omega⟩, by repeat (first | exact Drawn0.refl _ | apply Drawn0.step)⟩
end Go.Proofs.Ytenlmckahaniiaa.K
end
section
namespace Go.Proofs.Ytenlmckahaniiaa.K
open Go.RowKit Go.Proofs.YtenlmckahaniiaaW.PrintWords Go.Proofs.YtenlmckahaniiaaW.PrintLast
def zqs.f (a0 : Int) : Option (Bool) := if a0 ≥ 0 then (some (decide (a0 ≤ 65535))) else (some false)
theorem zqs.calls (a0 : Int) (r : Bool) (w : World) (h : zqs.f a0 = some r) :
    Calls Try.prog 88 #[.int .i64 a0] w fun e w' => e = .returned (.bool r) ∧ Drawn0 w w' := by
  have H : (if a0 ≥ 0 then (some (decide (a0 ≤ 65535))) else (some false)) = some r := h
  clear h
  by_cases c2 : a0 ≥ 0
  · rw [if_pos c2] at H
    have c2b0 : decide (0 ≤ a0) = true := decide_eq_true c2
    clear c2
    obtain rfl := Option.some.inj H
    go_enter Try.func88, Try.ntmps88
    go_wp2
    go_ret
    exact ⟨by first | rfl | (simp; done) | (simp [y0m]; done) | (simp [*]; done), by repeat (first | exact Drawn0.refl _ | apply Drawn0.step)⟩
  rw [if_neg c2] at H
  have c2b0 : decide (0 ≤ a0) = false := decide_eq_false c2
  clear c2
  obtain rfl := Option.some.inj H
  go_enter Try.func88, Try.ntmps88
  go_wp2
  go_ret
  exact ⟨by first | rfl | (simp; done) | (simp [y0m]; done) | (simp [*]; done), by repeat (first | exact Drawn0.refl _ | apply Drawn0.step)⟩
end Go.Proofs.Ytenlmckahaniiaa.K
end
