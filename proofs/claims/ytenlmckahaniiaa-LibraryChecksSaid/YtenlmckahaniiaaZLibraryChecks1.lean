/- Lemmas for the law LibraryChecks: what its proof needs beyond what it shares. -/
import Derived.Test.YtenlmckahaniiaaZLibraryChecks0
set_option linter.unusedVariables false
set_option linter.unusedSimpArgs false
set_option linter.unusedSectionVars false
set_option maxHeartbeats 8000000
set_option maxRecDepth 100000
section
namespace Go.Proofs.Ytenlmckahaniiaa.K
open Go.RowKit Go.Proofs.YtenlmckahaniiaaW.PrintWords Go.Proofs.YtenlmckahaniiaaW.PrintLast
mutual
def zq8.l0 : Nat → List (S62) → Int → Option (Int)
  | 0, _, _ => none
  | k + 1, x0, x3 => if x3 < (x0.length : Int) then (if 0 ≤ x3 then ((zqc.f k ((y0s x0 x3).f0)).bind fun t130 => (if t130 = true then (zq8.l1 k x0 x3 0) else (some 4))) else (none)) else (some 0)
def zq8.l1 : Nat → List (S62) → Int → Int → Option (Int)
  | 0, _, _, _ => none
  | k + 1, x0, x3, x4 => if x4 < x3 then (if 0 ≤ x4 then (if x4 < (x0.length : Int) then (if 0 ≤ x3 then (if x3 < (x0.length : Int) then (if ((y0s x0 x4).f0).toList = ((y0s x0 x3).f0).toList then (some 6) else (zq8.l1 k x0 x3 (wrap64 (x4 + 1)))) else (none)) else (none)) else (none)) else (none)) else (if 0 ≤ x3 then (if x3 < (x0.length : Int) then (if ((y0s x0 x3).f1) < 0 then (some 2) else (if ((y0s x0 x3).f1) > 3 then (some 2) else ((zqs.f ((y0s x0 x3).f2)).bind fun t136 => (if t136 = true then (zq8.l0 k x0 (wrap64 (x3 + 1))) else (some 2))))) else (none)) else (none))
end
def zq8.f (k : Nat) (l0 : List (S62)) : Option (Int) := zq8.l0 k l0 0
theorem zq8.calls (k : Nat) (A0 : Option Addr) (c0 : Nat) (l0 : List (S62)) (r : Int) (w : World) (hr0 : Kd.C k62 w A0 l0.length l0) (hc0 : l0.length ≤ c0) (h : zq8.f k l0 = some r) :
  Calls Try.prog 52 #[.slice A0 l0.length c0] w fun e w' => e = .returned (.int .i64 r) ∧ Drawn0 w w' := by
 have HR0 := q_ hr0
 have HC0 := q_ hc0
 clear hr0 hc0
 have H : (zq8.l0 k l0 0) = some r := h
 clear h
 have H' := q_ H
 clear H
 go_enter Try.func52, Try.ntmps52
 go_wp2
 repeat (go_quiet (fail); try go_wp2)
 go_loopg [3] k (fun kq v3 w' => ∃ (x3_1 : Int), v3 = .int .i64 x3_1 ∧ Aside0 (zq8.l0 kq l0 x3_1 = some r) ∧ Aside0 (kq ≤ k) ∧ Drawn0 w w')
 case atStart => exact ⟨(0), cl_, H', ⟨Nat.le_refl _⟩, by repeat (first | exact Drawn0.refl _ | apply Drawn0.step)⟩
 case round =>
  clear H'
  obtain ⟨x3_1, rfl, HA, HK1, ⟨m1, rfl⟩⟩ := hrel
  cases gk with
  | zero => exact absurd HA.out (by simp [zq8.l0])
  | succ k1 =>
   have H := HA.out
   clear HA
   simp only [zq8.l0] at H
   by_cases c2 : x3_1 < (l0.length : Int)
   rotate_left
   ·rw [if_neg c2] at H
    have c2b0 : decide (x3_1 < (l0.length : Int)) = false := decide_eq_false c2
    clear c2
    obtain rfl := Option.some.inj H
    go_wp2
    repeat (go_quiet (fail); try go_wp2)
    go_ret
    exact ⟨by first | rfl | (simp; done) | (simp [y0m]; done) | (simp [*]; done), by repeat (first | exact Drawn0.refl _ | apply Drawn0.step)⟩
   rw [if_pos c2] at H
   have c2b0 : decide (x3_1 < (l0.length : Int)) = true := decide_eq_true c2
   clear c2
   by_cases c3 : 0 ≤ x3_1
   rotate_left
   ·rw [if_neg c3] at H
    exact absurd H (by simp)
   rw [if_pos c3] at H
   have c3b0 : decide (0 ≤ x3_1) = true := decide_eq_true c3
   clear c3
   replace H := Option.bind_eq_some_iff.mp H
   obtain ⟨t130, A40, H⟩ := H
   (try dsimp only at H)
   have A4 := q_ A40
   clear A40
   by_cases c5 : t130 = true
   rotate_left
   ·replace c5 := Bool.eq_false_iff.mpr c5
    subst c5
    rw [if_neg (show ¬ (false = true) by decide)] at H
    obtain rfl := Option.some.inj H
    have p129 : 0 ≤ (x3_1 : Int) := oa_
    have q129 : x3_1 < (l0.length : Int) := oa_
    obtain ⟨ad129, e129, hx129_0, hx129_1, hx129_2, hx129_3⟩ := at_T62 HR0.out x3_1 p129 q129
    cases e129
    replace p129 := eq_true p129
    replace q129 := eq_true q129
    go_wp2_with (first | (go_at_call 51; (with_reducible refine (zqc.calls k1 ((y0s l0 x3_1).f0) false _ A4.out).mono ?_); rintro e w' ⟨rfl, ⟨nd, rfl⟩⟩; (try first | exact ⟨rfl, _, World.drewN_drewN _ _ _⟩ | exact ⟨rfl, _, Eq.trans (World.drewN_drewN _ _ _) (congrArg (World.drewN _) (Nat.add_assoc _ _ _))⟩)))
    repeat (go_quiet (first | (go_at_call 51; (with_reducible refine (zqc.calls k1 ((y0s l0 x3_1).f0) false _ A4.out).mono ?_); rintro e w' ⟨rfl, ⟨nd, rfl⟩⟩; (try first | exact ⟨rfl, _, World.drewN_drewN _ _ _⟩ | exact ⟨rfl, _, Eq.trans (World.drewN_drewN _ _ _) (congrArg (World.drewN _) (Nat.add_assoc _ _ _))⟩))); try go_wp2_with (first | (go_at_call 51; (with_reducible refine (zqc.calls k1 ((y0s l0 x3_1).f0) false _ A4.out).mono ?_); rintro e w' ⟨rfl, ⟨nd, rfl⟩⟩; (try first | exact ⟨rfl, _, World.drewN_drewN _ _ _⟩ | exact ⟨rfl, _, Eq.trans (World.drewN_drewN _ _ _) (congrArg (World.drewN _) (Nat.add_assoc _ _ _))⟩))))
    go_ret
    exact ⟨by first | rfl | (simp; done) | (simp [y0m]; done) | (simp [*]; done), by repeat (first | exact Drawn0.refl _ | apply Drawn0.step)⟩
   subst c5
   rw [if_pos rfl] at H
   have H' := q_ H
   clear H
   have p129 : 0 ≤ (x3_1 : Int) := oa_
   have q129 : x3_1 < (l0.length : Int) := oa_
   obtain ⟨ad129, e129, hx129_0, hx129_1, hx129_2, hx129_3⟩ := at_T62 HR0.out x3_1 p129 q129
   cases e129
   replace p129 := eq_true p129
   replace q129 := eq_true q129
   go_wp2_with (first | (go_at_call 51; (with_reducible refine (zqc.calls k1 ((y0s l0 x3_1).f0) true _ A4.out).mono ?_); rintro e w' ⟨rfl, ⟨nd, rfl⟩⟩; (try first | exact ⟨rfl, _, World.drewN_drewN _ _ _⟩ | exact ⟨rfl, _, Eq.trans (World.drewN_drewN _ _ _) (congrArg (World.drewN _) (Nat.add_assoc _ _ _))⟩)))
   repeat (go_quiet (first | (go_at_call 51; (with_reducible refine (zqc.calls k1 ((y0s l0 x3_1).f0) true _ A4.out).mono ?_); rintro e w' ⟨rfl, ⟨nd, rfl⟩⟩; (try first | exact ⟨rfl, _, World.drewN_drewN _ _ _⟩ | exact ⟨rfl, _, Eq.trans (World.drewN_drewN _ _ _) (congrArg (World.drewN _) (Nat.add_assoc _ _ _))⟩))); try go_wp2_with (first | (go_at_call 51; (with_reducible refine (zqc.calls k1 ((y0s l0 x3_1).f0) true _ A4.out).mono ?_); rintro e w' ⟨rfl, ⟨nd, rfl⟩⟩; (try first | exact ⟨rfl, _, World.drewN_drewN _ _ _⟩ | exact ⟨rfl, _, Eq.trans (World.drewN_drewN _ _ _) (congrArg (World.drewN _) (Nat.add_assoc _ _ _))⟩))))
   go_loopg [4] k1 (fun kq v4 w' => ∃ (x4_2 : Int), v4 = .int .i64 x4_2 ∧ Aside0 (zq8.l1 kq l0 x3_1 x4_2 = some r) ∧ Aside0 (kq ≤ k1) ∧ Drawn0 w w')
   case atStart => exact ⟨(0), cl_, H', ⟨Nat.le_refl _⟩, by repeat (first | exact Drawn0.refl _ | apply Drawn0.step)⟩
   case round =>
    clear H'
    (try clear p1); (try clear q1); (try clear hx1); (try clear c2); (try clear c2b0); (try clear p2); (try clear c3); (try clear c3b0); (try clear c5); (try clear hx129_0); (try clear hx129_1); (try clear hx129_2); (try clear hx129_3); (try clear p129); (try clear q129)
    obtain ⟨x4_2, rfl, HA, HK2, ⟨m2, rfl⟩⟩ := hrel
    cases gk with
    | zero => exact absurd HA.out (by simp [zq8.l1])
    | succ k2 =>
     have H := HA.out
     clear HA
     simp only [zq8.l1] at H
     by_cases c6 : x4_2 < x3_1
     ·rw [if_pos c6] at H
      have c6b0 : decide (x4_2 < x3_1) = true := decide_eq_true c6
      clear c6
      by_cases c7 : 0 ≤ x4_2
      rotate_left
      ·rw [if_neg c7] at H
       exact absurd H (by simp)
      rw [if_pos c7] at H
      have c7b0 : decide (0 ≤ x4_2) = true := decide_eq_true c7
      clear c7
      by_cases c8 : x4_2 < (l0.length : Int)
      rotate_left
      ·rw [if_neg c8] at H
       exact absurd H (by simp)
      rw [if_pos c8] at H
      have c8b0 : decide (x4_2 < (l0.length : Int)) = true := decide_eq_true c8
      clear c8
      by_cases c9 : 0 ≤ x3_1
      rotate_left
      ·rw [if_neg c9] at H
       exact absurd H (by simp)
      rw [if_pos c9] at H
      have c9b0 : decide (0 ≤ x3_1) = true := decide_eq_true c9
      clear c9
      by_cases c10 : x3_1 < (l0.length : Int)
      rotate_left
      ·rw [if_neg c10] at H
       exact absurd H (by simp)
      rw [if_pos c10] at H
      have c10b0 : decide (x3_1 < (l0.length : Int)) = true := decide_eq_true c10
      clear c10
      by_cases c11 : ((y0s l0 x4_2).f0).toList = ((y0s l0 x3_1).f0).toList
      ·rw [if_pos c11] at H
       have c11b0 : (((y0s l0 x4_2).f0).toList == ((y0s l0 x3_1).f0).toList) = true := beq_iff_eq.mpr c11
       have c11b1 : (((y0s l0 x4_2).f0).toList != ((y0s l0 x3_1).f0).toList) = false := bne_eq_false_iff_eq.mpr c11
       clear c11
       obtain rfl := Option.some.inj H
       have p131 : 0 ≤ (x4_2 : Int) := oa_
       have q131 : x4_2 < (l0.length : Int) := oa_
       obtain ⟨ad131, e131, hx131_0, hx131_1, hx131_2, hx131_3⟩ := at_T62 HR0.out x4_2 p131 q131
       obtain rfl : ad129 = ad131 := (by injection e131)
       replace p131 := eq_true p131
       replace q131 := eq_true q131
       have p132 : 0 ≤ (x3_1 : Int) := oa_
       have q132 : x3_1 < (l0.length : Int) := oa_
       obtain ⟨ad132, e132, hx132_0, hx132_1, hx132_2, hx132_3⟩ := at_T62 HR0.out x3_1 p132 q132
       obtain rfl : ad129 = ad132 := (by injection e132)
       replace p132 := eq_true p132
       replace q132 := eq_true q132
       go_wp2
       repeat (go_quiet (fail); try go_wp2)
       go_ret
       exact ⟨by first | rfl | (simp; done) | (simp [y0m]; done) | (simp [*]; done), by repeat (first | exact Drawn0.refl _ | apply Drawn0.step)⟩
      rw [if_neg c11] at H
      have c11b0 : (((y0s l0 x4_2).f0).toList == ((y0s l0 x3_1).f0).toList) = false := beq_eq_false_iff_ne.mpr c11
      have c11b1 : (((y0s l0 x4_2).f0).toList != ((y0s l0 x3_1).f0).toList) = true := bne_iff_ne.mpr c11
      have H' := q_ H
      clear H
      have p131 : 0 ≤ (x4_2 : Int) := oa_
      have q131 : x4_2 < (l0.length : Int) := oa_
      obtain ⟨ad131, e131, hx131_0, hx131_1, hx131_2, hx131_3⟩ := at_T62 HR0.out x4_2 p131 q131
      obtain rfl : ad129 = ad131 := (by injection e131)
      replace p131 := eq_true p131
      replace q131 := eq_true q131
      have p132 : 0 ≤ (x3_1 : Int) := oa_
      have q132 : x3_1 < (l0.length : Int) := oa_
      obtain ⟨ad132, e132, hx132_0, hx132_1, hx132_2, hx132_3⟩ := at_T62 HR0.out x3_1 p132 q132
      obtain rfl : ad129 = ad132 := (by injection e132)
      replace p132 := eq_true p132
      replace q132 := eq_true q132
      go_wp2
      repeat (go_quiet (fail); try go_wp2)
      go_roundg k2
      case measure => have := HK1.out; have := HK2.out; omega
      case rel => exact ⟨(wrap64 (x4_2 + 1)), cl_, H', ⟨by have := HK1.out; have := HK2.out; omega⟩, by repeat (first | exact Drawn0.refl _ | apply Drawn0.step)⟩
     rw [if_neg c6] at H
     have c6b0 : decide (x4_2 < x3_1) = false := decide_eq_false c6
     clear c6
     by_cases c12 : 0 ≤ x3_1
     rotate_left
     ·rw [if_neg c12] at H
      exact absurd H (by simp)
     rw [if_pos c12] at H
     have c12b0 : decide (0 ≤ x3_1) = true := decide_eq_true c12
     clear c12
     by_cases c13 : x3_1 < (l0.length : Int)
     rotate_left
     ·rw [if_neg c13] at H
      exact absurd H (by simp)
     rw [if_pos c13] at H
     have c13b0 : decide (x3_1 < (l0.length : Int)) = true := decide_eq_true c13
     clear c13
     by_cases c14 : ((y0s l0 x3_1).f1) < 0
     ·rw [if_pos c14] at H
      have c14b0 : decide (((y0s l0 x3_1).f1) < 0) = true := decide_eq_true c14
      clear c14
      obtain rfl := Option.some.inj H
      have p133 : 0 ≤ (x3_1 : Int) := oa_
      have q133 : x3_1 < (l0.length : Int) := oa_
      obtain ⟨ad133, e133, hx133_0, hx133_1, hx133_2, hx133_3⟩ := at_T62 HR0.out x3_1 p133 q133
      obtain rfl : ad129 = ad133 := (by injection e133)
      replace p133 := eq_true p133
      replace q133 := eq_true q133
      go_wp2
      repeat (go_quiet (fail); try go_wp2)
      go_ret
      exact ⟨by first | rfl | (simp; done) | (simp [y0m]; done) | (simp [*]; done), by repeat (first | exact Drawn0.refl _ | apply Drawn0.step)⟩
     rw [if_neg c14] at H
     have c14b0 : decide (((y0s l0 x3_1).f1) < 0) = false := decide_eq_false c14
     clear c14
     by_cases c15 : ((y0s l0 x3_1).f1) > 3
     ·rw [if_pos c15] at H
      have c15b0 : decide (3 < ((y0s l0 x3_1).f1)) = true := decide_eq_true c15
      clear c15
      obtain rfl := Option.some.inj H
      have p133 : 0 ≤ (x3_1 : Int) := oa_
      have q133 : x3_1 < (l0.length : Int) := oa_
      obtain ⟨ad133, e133, hx133_0, hx133_1, hx133_2, hx133_3⟩ := at_T62 HR0.out x3_1 p133 q133
      obtain rfl : ad129 = ad133 := (by injection e133)
      replace p133 := eq_true p133
      replace q133 := eq_true q133
      have p134 : 0 ≤ (x3_1 : Int) := oa_
      have q134 : x3_1 < (l0.length : Int) := oa_
      obtain ⟨ad134, e134, hx134_0, hx134_1, hx134_2, hx134_3⟩ := at_T62 HR0.out x3_1 p134 q134
      obtain rfl : ad129 = ad134 := (by injection e134)
      replace p134 := eq_true p134
      replace q134 := eq_true q134
      go_wp2
      repeat (go_quiet (fail); try go_wp2)
      go_ret
      exact ⟨by first | rfl | (simp; done) | (simp [y0m]; done) | (simp [*]; done), by repeat (first | exact Drawn0.refl _ | apply Drawn0.step)⟩
     rw [if_neg c15] at H
     have c15b0 : decide (3 < ((y0s l0 x3_1).f1)) = false := decide_eq_false c15
     clear c15
     replace H := Option.bind_eq_some_iff.mp H
     obtain ⟨t136, A160, H⟩ := H
     (try dsimp only at H)
     have A16 := q_ A160
     clear A160
     by_cases c17 : t136 = true
     rotate_left
     ·replace c17 := Bool.eq_false_iff.mpr c17
      subst c17
      rw [if_neg (show ¬ (false = true) by decide)] at H
      obtain rfl := Option.some.inj H
      have p133 : 0 ≤ (x3_1 : Int) := oa_
      have q133 : x3_1 < (l0.length : Int) := oa_
      obtain ⟨ad133, e133, hx133_0, hx133_1, hx133_2, hx133_3⟩ := at_T62 HR0.out x3_1 p133 q133
      obtain rfl : ad129 = ad133 := (by injection e133)
      replace p133 := eq_true p133
      replace q133 := eq_true q133
      have p134 : 0 ≤ (x3_1 : Int) := oa_
      have q134 : x3_1 < (l0.length : Int) := oa_
      obtain ⟨ad134, e134, hx134_0, hx134_1, hx134_2, hx134_3⟩ := at_T62 HR0.out x3_1 p134 q134
      obtain rfl : ad129 = ad134 := (by injection e134)
      replace p134 := eq_true p134
      replace q134 := eq_true q134
      have p135 : 0 ≤ (x3_1 : Int) := oa_
      have q135 : x3_1 < (l0.length : Int) := oa_
      obtain ⟨ad135, e135, hx135_0, hx135_1, hx135_2, hx135_3⟩ := at_T62 HR0.out x3_1 p135 q135
      obtain rfl : ad129 = ad135 := (by injection e135)
      replace p135 := eq_true p135
      replace q135 := eq_true q135
      go_wp2_with (first | (go_at_call 88; (with_reducible refine (zqs.calls ((y0s l0 x3_1).f2) false _ A16.out).mono ?_); rintro e w' ⟨rfl, ⟨nd, rfl⟩⟩; (try first | exact ⟨rfl, _, World.drewN_drewN _ _ _⟩ | exact ⟨rfl, _, Eq.trans (World.drewN_drewN _ _ _) (congrArg (World.drewN _) (Nat.add_assoc _ _ _))⟩)))
      repeat (go_quiet (first | (go_at_call 88; (with_reducible refine (zqs.calls ((y0s l0 x3_1).f2) false _ A16.out).mono ?_); rintro e w' ⟨rfl, ⟨nd, rfl⟩⟩; (try first | exact ⟨rfl, _, World.drewN_drewN _ _ _⟩ | exact ⟨rfl, _, Eq.trans (World.drewN_drewN _ _ _) (congrArg (World.drewN _) (Nat.add_assoc _ _ _))⟩))); try go_wp2_with (first | (go_at_call 88; (with_reducible refine (zqs.calls ((y0s l0 x3_1).f2) false _ A16.out).mono ?_); rintro e w' ⟨rfl, ⟨nd, rfl⟩⟩; (try first | exact ⟨rfl, _, World.drewN_drewN _ _ _⟩ | exact ⟨rfl, _, Eq.trans (World.drewN_drewN _ _ _) (congrArg (World.drewN _) (Nat.add_assoc _ _ _))⟩))))
      go_ret
      exact ⟨by first | rfl | (simp; done) | (simp [y0m]; done) | (simp [*]; done), by repeat (first | exact Drawn0.refl _ | apply Drawn0.step)⟩
     subst c17
     rw [if_pos rfl] at H
     have H' := q_ H
     clear H
     have p133 : 0 ≤ (x3_1 : Int) := oa_
     have q133 : x3_1 < (l0.length : Int) := oa_
     obtain ⟨ad133, e133, hx133_0, hx133_1, hx133_2, hx133_3⟩ := at_T62 HR0.out x3_1 p133 q133
     obtain rfl : ad129 = ad133 := (by injection e133)
     replace p133 := eq_true p133
     replace q133 := eq_true q133
     have p134 : 0 ≤ (x3_1 : Int) := oa_
     have q134 : x3_1 < (l0.length : Int) := oa_
     obtain ⟨ad134, e134, hx134_0, hx134_1, hx134_2, hx134_3⟩ := at_T62 HR0.out x3_1 p134 q134
     obtain rfl : ad129 = ad134 := (by injection e134)
     replace p134 := eq_true p134
     replace q134 := eq_true q134
     have p135 : 0 ≤ (x3_1 : Int) := oa_
     have q135 : x3_1 < (l0.length : Int) := oa_
     obtain ⟨ad135, e135, hx135_0, hx135_1, hx135_2, hx135_3⟩ := at_T62 HR0.out x3_1 p135 q135
     obtain rfl : ad129 = ad135 := (by injection e135)
     replace p135 := eq_true p135
     replace q135 := eq_true q135
     go_wp2_with (first | (go_at_call 88; (with_reducible refine (zqs.calls ((y0s l0 x3_1).f2) true _ A16.out).mono ?_); rintro e w' ⟨rfl, ⟨nd, rfl⟩⟩; (try first | exact ⟨rfl, _, World.drewN_drewN _ _ _⟩ | exact ⟨rfl, _, Eq.trans (World.drewN_drewN _ _ _) (congrArg (World.drewN _) (Nat.add_assoc _ _ _))⟩)))
     repeat (go_quiet (first | (go_at_call 88; (with_reducible refine (zqs.calls ((y0s l0 x3_1).f2) true _ A16.out).mono ?_); rintro e w' ⟨rfl, ⟨nd, rfl⟩⟩; (try first | exact ⟨rfl, _, World.drewN_drewN _ _ _⟩ | exact ⟨rfl, _, Eq.trans (World.drewN_drewN _ _ _) (congrArg (World.drewN _) (Nat.add_assoc _ _ _))⟩))); try go_wp2_with (first | (go_at_call 88; (with_reducible refine (zqs.calls ((y0s l0 x3_1).f2) true _ A16.out).mono ?_); rintro e w' ⟨rfl, ⟨nd, rfl⟩⟩; (try first | exact ⟨rfl, _, World.drewN_drewN _ _ _⟩ | exact ⟨rfl, _, Eq.trans (World.drewN_drewN _ _ _) (congrArg (World.drewN _) (Nat.add_assoc _ _ _))⟩))))
     go_roundg k2
     case measure => have := HK1.out; have := HK2.out; omega
     case rel => exact ⟨(wrap64 (x3_1 + 1)), cl_, H', ⟨by have := HK1.out; have := HK2.out; omega⟩, by repeat (first | exact Drawn0.refl _ | apply Drawn0.step)⟩
end Go.Proofs.Ytenlmckahaniiaa.K
end
section
namespace Go.Proofs.Ytenlmckahaniiaa.K
open Go.RowKit Go.Proofs.YtenlmckahaniiaaW.PrintWords Go.Proofs.YtenlmckahaniiaaW.PrintLast
mutual
def zqj.j0 : Nat → Int → Int → Int → Int → ByteArray → Bool → Int → Int → Int → ByteArray → Bool → Option (Int)
  | 0, _, _, _, _, _, _, _, _, _, _, _ => none
  | k + 1, x7, x139000, x139001, x139002, x139003, x139004, x140000, x140001, x140002, x140003, x140004 => if x139000 = 1 then (if x139001 < 0 then (zqj.j1 k true x139000 x139001 x139002 x139003 x139004 x140000 x140001 x140002 x140003 x140004) else (if (Int.tmod x139001 2) = 0 then (zqj.j1 k (decide (x139001 > (wrap64 (x7 - 2)))) x139000 x139001 x139002 x139003 x139004 x140000 x140001 x140002 x140003 x140004) else (zqj.j1 k true x139000 x139001 x139002 x139003 x139004 x140000 x140001 x140002 x140003 x140004))) else (if x139000 = 2 then (if x139001 < 0 then (zqj.j1 k true x139000 x139001 x139002 x139003 x139004 x140000 x140001 x140002 x140003 x140004) else (if (Int.tmod x139001 2) = 0 then (zqj.j1 k (decide (x139001 > (wrap64 (x7 - 2)))) x139000 x139001 x139002 x139003 x139004 x140000 x140001 x140002 x140003 x140004) else (zqj.j1 k true x139000 x139001 x139002 x139003 x139004 x140000 x140001 x140002 x140003 x140004))) else (zqj.j1 k true x139000 x139001 x139002 x139003 x139004 x140000 x140001 x140002 x140003 x140004))
def zqj.j1 : Nat → Bool → Int → Int → Int → ByteArray → Bool → Int → Int → Int → ByteArray → Bool → Option (Int)
  | 0, _, _, _, _, _, _, _, _, _, _, _ => none
  | k + 1, x42, x139000, x139001, x139002, x139003, x139004, x140000, x140001, x140002, x140003, x140004 => if x42 = true then (some 2) else (if x140000 > x139000 then (zqj.j2 k true x139000 x139001 x139002 x139003 x139004) else (if x140000 = x139000 then (zqj.j2 k (decide (x140001 ≥ x139001)) x139000 x139001 x139002 x139003 x139004) else (zqj.j2 k false x139000 x139001 x139002 x139003 x139004)))
def zqj.j2 : Nat → Bool → Int → Int → Int → ByteArray → Bool → Option (Int)
  | 0, _, _, _, _, _, _ => none
  | k + 1, x61, x139000, x139001, x139002, x139003, x139004 => if x61 = true then (some 2) else (if x139002 < 0 then (zqj.j3 k true x139000 x139001 x139002 x139003 x139004) else (if x139002 > 4 then (zqj.j3 k true x139000 x139001 x139002 x139003 x139004) else (if x139002 = 0 then (zqj.j3 k (!x139004) x139000 x139001 x139002 x139003 x139004) else (zqj.j3 k false x139000 x139001 x139002 x139003 x139004))))
def zqj.j3 : Nat → Bool → Int → Int → Int → ByteArray → Bool → Option (Int)
  | 0, _, _, _, _, _, _ => none
  | k + 1, x79, x139000, x139001, x139002, x139003, x139004 => if x79 = true then (some 2) else (if x139002 = 4 then ((zqc.f k x139003).bind fun t140 => (if t140 = true then (some 0) else (some 4))) else (if x139003.toList = ([] : List UInt8) then (some 0) else (some 4)))
end
def zqj.f (k : Nat) (a0_0 : ByteArray) (a0_1 : ByteArray) (a0_2 : ByteArray) (a0_3 : Int) (l0_4 : List (S62)) (l0_5 : List (S43)) (a1_0 : Int) (a1_1 : Int) (a1_2 : Int) (a1_3 : ByteArray) (a1_4 : Bool) (a2_0 : Int) (a2_1 : Int) (a2_2 : Int) (a2_3 : ByteArray) (a2_4 : Bool) : Option (Int) := if a1_0 = 2 then (zqj.j0 k (a0_2.size : Int) a1_0 a1_1 a1_2 a1_3 a1_4 a2_0 a2_1 a2_2 a2_3 a2_4) else (zqj.j0 k (a0_1.size : Int) a1_0 a1_1 a1_2 a1_3 a1_4 a2_0 a2_1 a2_2 a2_3 a2_4)
theorem zqj.calls (k : Nat) (a0_0 : ByteArray) (a0_1 : ByteArray) (a0_2 : ByteArray) (a0_3 : Int) (A0_4 : Option Addr) (c0_4 : Nat) (l0_4 : List (S62)) (A0_5 : Option Addr) (c0_5 : Nat) (l0_5 : List (S43)) (a1_0 : Int) (a1_1 : Int) (a1_2 : Int) (a1_3 : ByteArray) (a1_4 : Bool) (a2_0 : Int) (a2_1 : Int) (a2_2 : Int) (a2_3 : ByteArray) (a2_4 : Bool) (r : Int) (w : World) (hr0_4 : Kd.C k62 w A0_4 l0_4.length l0_4) (hc0_4 : l0_4.length ≤ c0_4) (hr0_5 : Kd.C k43 w A0_5 l0_5.length l0_5) (hc0_5 : l0_5.length ≤ c0_5) (h : zqj.f k a0_0 a0_1 a0_2 a0_3 l0_4 l0_5 a1_0 a1_1 a1_2 a1_3 a1_4 a2_0 a2_1 a2_2 a2_3 a2_4 = some r) :
  Calls Try.prog 53 #[.agg #[.string a0_0, .string a0_1, .string a0_2, .int .i64 a0_3, .slice A0_4 l0_4.length c0_4, .slice A0_5 l0_5.length c0_5], .agg #[.int .i64 a1_0, .int .i64 a1_1, .int .i64 a1_2, .string a1_3, .bool a1_4], .agg #[.int .i64 a2_0, .int .i64 a2_1, .int .i64 a2_2, .string a2_3, .bool a2_4]] w fun e w' => e = .returned (.int .i64 r) ∧ Below w.heap.size w w' := by
 have hu25 := Try.underlying25
 have hu43 := Try.underlying43
 have HR0_4 := q_ hr0_4
 have HC0_4 := q_ hc0_4
 clear hr0_4 hc0_4
 have HR0_5 := q_ hr0_5
 have HC0_5 := q_ hc0_5
 clear hr0_5 hc0_5
 have HB := q_ (Below.refl w.heap.size w)
 have H : (if a1_0 = 2 then (zqj.j0 k (a0_2.size : Int) a1_0 a1_1 a1_2 a1_3 a1_4 a2_0 a2_1 a2_2 a2_3 a2_4) else (zqj.j0 k (a0_1.size : Int) a1_0 a1_1 a1_2 a1_3 a1_4 a2_0 a2_1 a2_2 a2_3 a2_4)) = some r := h
 clear h
 have HC4 := q_ H
 clear H
 go_enter Try.func53, Try.ntmps53
 go_upto_if 13 with (first | ((with_reducible refine y0k (N := 3) rfl ?_); refine y0g ?hg (N := 3) ?hd (cs := #[.string a0_0, .string a0_1, .string a0_2, .int .i64 a0_3, .slice A0_4 l0_4.length c0_4, .slice A0_5 l0_5.length c0_5]) (t := 25) ?hr ?_; (case hd => rfl); (case hg => rfl); (case hr => first | (go_simp; done) | (go_simp; rfl)); intro gb137 hg w5 hbox hb; have n0_ := q_ (y05 hb_ hb); have n1_ := q_ (hbox); have n2_ := q_ ((by rw [hg]; exact (y04 hb_) : w.heap.size ≤ gb137)); have n3_ := q_ ((by rw [hg]; exact (y04 hb_) : w.heap.size ≤ gb137)); clear HB; have HB := n0_; have BK137 := n1_; have GW137 := n2_; have GE137 := n3_; clear n0_ n1_ n2_ n3_; clear hb hbox hg) | ((with_reducible refine y0k (N := 4) rfl ?_); refine y0g ?hg (N := 4) ?hd (cs := #[.int .i64 a1_0, .int .i64 a1_1, .int .i64 a1_2, .string a1_3, .bool a1_4]) (t := 43) ?hr ?_; (case hd => rfl); (case hg => rfl); (case hr => first | (go_simp; done) | (go_simp; rfl)); intro gb138 hg w6 hbox hb; have n0_ := q_ (y07 (bk_ BK137.out) hb); have n1_ := q_ (y05 hb_ hb); have n2_ := q_ (hbox); have n3_ := q_ ((by rw [hg]; exact (y04 hb_) : w.heap.size ≤ gb138)); have n4_ := q_ ((by rw [hg]; exact (y04 hb_) : w.heap.size ≤ gb138)); have n5_ := q_ ((by rw [hg]; exact Nat.ne_of_lt (y0e (bk_ BK137.out)) : gb137 ≠ gb138)); have n6_ := q_ ((by rw [hg]; exact Nat.ne_of_gt (y0e (bk_ BK137.out)) : gb138 ≠ gb137)); clear BK137 HB; have BK137 := n0_; have HB := n1_; have BK138 := n2_; have GW138 := n3_; have GE138 := n4_; have NB137_138 := n5_; have NB138_137 := n6_; clear n0_ n1_ n2_ n3_ n4_ n5_ n6_; clear hb hbox hg) | ((with_reducible refine y0k (N := 5) rfl ?_); refine y0g ?hg (N := 5) ?hd (cs := #[.int .i64 a2_0, .int .i64 a2_1, .int .i64 a2_2, .string a2_3, .bool a2_4]) (t := 43) ?hr ?_; (case hd => rfl); (case hg => rfl); (case hr => first | (go_simp; done) | (go_simp; rfl)); intro gb139 hg w7 hbox hb; have n0_ := q_ (y07 (bk_ BK137.out) hb); have n1_ := q_ (y07 (bk_ BK138.out) hb); have n2_ := q_ (y05 hb_ hb); have n3_ := q_ (hbox); have n4_ := q_ ((by rw [hg]; exact (y04 hb_) : w.heap.size ≤ gb139)); have n5_ := q_ ((by rw [hg]; exact (y04 hb_) : w.heap.size ≤ gb139)); have n6_ := q_ ((by rw [hg]; exact Nat.ne_of_lt (y0e (bk_ BK137.out)) : gb137 ≠ gb139)); have n7_ := q_ ((by rw [hg]; exact Nat.ne_of_gt (y0e (bk_ BK137.out)) : gb139 ≠ gb137)); have n8_ := q_ ((by rw [hg]; exact Nat.ne_of_lt (y0e (bk_ BK138.out)) : gb138 ≠ gb139)); have n9_ := q_ ((by rw [hg]; exact Nat.ne_of_gt (y0e (bk_ BK138.out)) : gb139 ≠ gb138)); clear BK137 BK138 HB; have BK137 := n0_; have BK138 := n1_; have HB := n2_; have BK139 := n3_; have GW139 := n4_; have GE139 := n5_; have NB137_139 := n6_; have NB139_137 := n7_; have NB138_139 := n8_; have NB139_138 := n9_; clear n0_ n1_ n2_ n3_ n4_ n5_ n6_ n7_ n8_ n9_; clear hb hbox hg; have hnb8 := NB137_138.out; have hnc8 := NB138_137.out; have hnb9 := NB137_139.out; have hnc9 := NB139_137.out; obtain ⟨hcz10_0, hfz10_0, hcz10_1, hfz10_1, hcz10_2, hfz10_2, hcz10_3, hfz10_3, hcz10_4, hfz10_4, hcz10_5, hfz10_5⟩ := b6_ BK137.out; have hnb11 := NB138_139.out; have hnc11 := NB139_138.out; obtain ⟨hcz12_0, hfz12_0, hcz12_1, hfz12_1, hcz12_2, hfz12_2, hcz12_3, hfz12_3, hcz12_4, hfz12_4⟩ := b5_ BK138.out))
 (try simp only [Act.put, List.setIfInBounds_toArray, List.set_cons_zero, List.set_cons_succ])
 go_cut [7] (fun v7 wc => ∃ (kq : Nat) (x7_3 : Int), v7 = .int .i64 x7_3 ∧ Aside0 (zqj.j0 kq x7_3 a1_0 a1_1 a1_2 a1_3 a1_4 a2_0 a2_1 a2_2 a2_3 a2_4 = some r) ∧ Aside0 (kq ≤ k) ∧ Aside0 (wc.heap[gb137]? = some (.cells #[.string a0_0, .string a0_1, .string a0_2, .int .i64 a0_3, (.slice A0_4 l0_4.length c0_4), (.slice A0_5 l0_5.length c0_5)] 25 (0, 0))) ∧ Aside0 (wc.heap[gb138]? = some (.cells #[.int .i64 a1_0, .int .i64 a1_1, .int .i64 a1_2, .string a1_3, .bool a1_4] 43 (0, 0))) ∧ Aside0 (wc.heap[gb139]? = some (.cells #[.int .i64 a2_0, .int .i64 a2_1, .int .i64 a2_2, .string a2_3, .bool a2_4] 43 (0, 0))) ∧ Aside0 (Below w.heap.size w wc))
 case first =>
  have H := HC4.out
  clear HC4
  by_cases c13 : a1_0 = 2
  rotate_left
  ·rw [if_neg c13] at H
   have c13b0 : (a1_0 == 2) = false := beq_eq_false_iff_ne.mpr c13
   have c13b1 : (a1_0 != 2) = true := bne_iff_ne.mpr c13
   (first | rw [c13b0] | (simp only [i64_w, i32_w]; rw [c13b0]) | skip)
   have H' := q_ H
   clear H
   go_wp2
   go_meet
   case rel => exact ⟨_, ((a0_1.size : Int)), cl_, H', ⟨by first | omega | exact Nat.le_refl _⟩, ⟨bk_ BK137.out⟩, ⟨bk_ BK138.out⟩, ⟨bk_ BK139.out⟩, ⟨hb_⟩⟩
  rw [if_pos c13] at H
  have c13b0 : (a1_0 == 2) = true := beq_iff_eq.mpr c13
  have c13b1 : (a1_0 != 2) = false := bne_eq_false_iff_eq.mpr c13
  clear c13
  (first | rw [c13b0] | (simp only [i64_w, i32_w]; rw [c13b0]) | skip)
  have H' := q_ H
  clear H
  have hnb14 := NB137_138.out
  have hnc14 := NB138_137.out
  have hnb15 := NB137_139.out
  have hnc15 := NB139_137.out
  obtain ⟨hcz16_0, hfz16_0, hcz16_1, hfz16_1, hcz16_2, hfz16_2, hcz16_3, hfz16_3, hcz16_4, hfz16_4, hcz16_5, hfz16_5⟩ := b6_ BK137.out
  go_wp2
  go_meet
  case rel => exact ⟨_, ((a0_2.size : Int)), cl_, H', ⟨by first | omega | exact Nat.le_refl _⟩, ⟨bk_ BK137.out⟩, ⟨bk_ BK138.out⟩, ⟨bk_ BK139.out⟩, ⟨hb_⟩⟩
 case rest =>
  clear HC4
  clear hcz10_0; clear hcz10_1; clear hcz10_2; clear hcz10_3; clear hcz10_4; clear hcz10_5; clear hcz12_0; clear hcz12_1; clear hcz12_2; clear hcz12_3; clear hcz12_4; clear hfz10_0; clear hfz10_1; clear hfz10_2; clear hfz10_3; clear hfz10_4; clear hfz10_5; clear hfz12_0; clear hfz12_1; clear hfz12_2; clear hfz12_3; clear hfz12_4
  obtain ⟨kq, x7_3, rfl, HA, HJ3, BK137, BK138, BK139, HB⟩ := hcut
  cases kq with
  | zero => exact absurd HA.out (by simp [zqj.j0])
  | succ kj3 =>
   have H := HA.out
   clear HA
   simp only [zqj.j0] at H
   have HC17 := q_ H
   clear H
   go_upto_region 4 with (fail)
   go_cut [42] (fun v42 wc => ∃ (kq : Nat) (x42_16 : Bool), v42 = .bool x42_16 ∧ Aside0 (zqj.j1 kq x42_16 a1_0 a1_1 a1_2 a1_3 a1_4 a2_0 a2_1 a2_2 a2_3 a2_4 = some r) ∧ Aside0 (kq ≤ kj3) ∧ Aside0 (wc.heap[gb137]? = some (.cells #[.string a0_0, .string a0_1, .string a0_2, .int .i64 a0_3, (.slice A0_4 l0_4.length c0_4), (.slice A0_5 l0_5.length c0_5)] 25 (0, 0))) ∧ Aside0 (wc.heap[gb138]? = some (.cells #[.int .i64 a1_0, .int .i64 a1_1, .int .i64 a1_2, .string a1_3, .bool a1_4] 43 (0, 0))) ∧ Aside0 (wc.heap[gb139]? = some (.cells #[.int .i64 a2_0, .int .i64 a2_1, .int .i64 a2_2, .string a2_3, .bool a2_4] 43 (0, 0))) ∧ Aside0 (Below w.heap.size w wc))
   case first =>
    have H := HC17.out
    clear HC17
    by_cases c18 : a1_0 = 1
    ·rw [if_pos c18] at H
     have c18b0 : (a1_0 == 1) = true := beq_iff_eq.mpr c18
     have c18b1 : (a1_0 != 1) = false := bne_eq_false_iff_eq.mpr c18
     clear c18
     (first | rw [c18b0] | (simp only [i64_w, i32_w]; rw [c18b0]) | skip)
     by_cases c19 : a1_1 < 0
     ·rw [if_pos c19] at H
      have c19b0 : decide (a1_1 < 0) = true := decide_eq_true c19
      clear c19
      have H' := q_ H
      clear H
      have hnb20 := NB138_137.out
      have hnc20 := NB137_138.out
      have hnb21 := NB138_139.out
      have hnc21 := NB139_138.out
      obtain ⟨hcz22_0, hfz22_0, hcz22_1, hfz22_1, hcz22_2, hfz22_2, hcz22_3, hfz22_3, hcz22_4, hfz22_4⟩ := b5_ BK138.out
      go_wp2
      go_meet
      case rel => exact ⟨_, (true), cl_, H', ⟨by have := HJ3.out; first | omega | exact Nat.le_refl _⟩, ⟨bk_ BK137.out⟩, ⟨bk_ BK138.out⟩, ⟨bk_ BK139.out⟩, ⟨hb_⟩⟩
     rw [if_neg c19] at H
     have c19b0 : decide (a1_1 < 0) = false := decide_eq_false c19
     clear c19
     by_cases c23 : (Int.tmod a1_1 2) = 0
     rotate_left
     ·rw [if_neg c23] at H
      have c23b0 : ((Int.tmod a1_1 2) == 0) = false := beq_eq_false_iff_ne.mpr c23
      have c23b1 : ((Int.tmod a1_1 2) != 0) = true := bne_iff_ne.mpr c23
      have H' := q_ H
      clear H
      have hnb27 := NB138_137.out
      have hnc27 := NB137_138.out
      have hnb28 := NB138_139.out
      have hnc28 := NB139_138.out
      obtain ⟨hcz29_0, hfz29_0, hcz29_1, hfz29_1, hcz29_2, hfz29_2, hcz29_3, hfz29_3, hcz29_4, hfz29_4⟩ := b5_ BK138.out
      go_wp2
      go_meet
      case rel => exact ⟨_, (true), cl_, H', ⟨by have := HJ3.out; first | omega | exact Nat.le_refl _⟩, ⟨bk_ BK137.out⟩, ⟨bk_ BK138.out⟩, ⟨bk_ BK139.out⟩, ⟨hb_⟩⟩
     rw [if_pos c23] at H
     have c23b0 : ((Int.tmod a1_1 2) == 0) = true := beq_iff_eq.mpr c23
     have c23b1 : ((Int.tmod a1_1 2) != 0) = false := bne_eq_false_iff_eq.mpr c23
     clear c23
     have H' := q_ H
     clear H
     have hnb24 := NB138_137.out
     have hnc24 := NB137_138.out
     have hnb25 := NB138_139.out
     have hnc25 := NB139_138.out
     obtain ⟨hcz26_0, hfz26_0, hcz26_1, hfz26_1, hcz26_2, hfz26_2, hcz26_3, hfz26_3, hcz26_4, hfz26_4⟩ := b5_ BK138.out
     go_wp2
     go_meet
     case rel => exact ⟨_, (decide (a1_1 > (wrap64 (x7_3 - 2)))), cl_, H', ⟨by have := HJ3.out; first | omega | exact Nat.le_refl _⟩, ⟨bk_ BK137.out⟩, ⟨bk_ BK138.out⟩, ⟨bk_ BK139.out⟩, ⟨hb_⟩⟩
    rw [if_neg c18] at H
    have c18b0 : (a1_0 == 1) = false := beq_eq_false_iff_ne.mpr c18
    have c18b1 : (a1_0 != 1) = true := bne_iff_ne.mpr c18
    (first | rw [c18b0] | (simp only [i64_w, i32_w]; rw [c18b0]) | skip)
    by_cases c30 : a1_0 = 2
    rotate_left
    ·rw [if_neg c30] at H
     have c30b0 : (a1_0 == 2) = false := beq_eq_false_iff_ne.mpr c30
     have c30b1 : (a1_0 != 2) = true := bne_iff_ne.mpr c30
     have H' := q_ H
     clear H
     have hnb42 := NB138_137.out
     have hnc42 := NB137_138.out
     have hnb43 := NB138_139.out
     have hnc43 := NB139_138.out
     obtain ⟨hcz44_0, hfz44_0, hcz44_1, hfz44_1, hcz44_2, hfz44_2, hcz44_3, hfz44_3, hcz44_4, hfz44_4⟩ := b5_ BK138.out
     go_wp2
     go_meet
     case rel => exact ⟨_, (true), cl_, H', ⟨by have := HJ3.out; first | omega | exact Nat.le_refl _⟩, ⟨bk_ BK137.out⟩, ⟨bk_ BK138.out⟩, ⟨bk_ BK139.out⟩, ⟨hb_⟩⟩
    rw [if_pos c30] at H
    have c30b0 : (a1_0 == 2) = true := beq_iff_eq.mpr c30
    have c30b1 : (a1_0 != 2) = false := bne_eq_false_iff_eq.mpr c30
    clear c30
    by_cases c31 : a1_1 < 0
    ·rw [if_pos c31] at H
     have c31b0 : decide (a1_1 < 0) = true := decide_eq_true c31
     clear c31
     have H' := q_ H
     clear H
     have hnb32 := NB138_137.out
     have hnc32 := NB137_138.out
     have hnb33 := NB138_139.out
     have hnc33 := NB139_138.out
     obtain ⟨hcz34_0, hfz34_0, hcz34_1, hfz34_1, hcz34_2, hfz34_2, hcz34_3, hfz34_3, hcz34_4, hfz34_4⟩ := b5_ BK138.out
     go_wp2
     go_meet
     case rel => exact ⟨_, (true), cl_, H', ⟨by have := HJ3.out; first | omega | exact Nat.le_refl _⟩, ⟨bk_ BK137.out⟩, ⟨bk_ BK138.out⟩, ⟨bk_ BK139.out⟩, ⟨hb_⟩⟩
    rw [if_neg c31] at H
    have c31b0 : decide (a1_1 < 0) = false := decide_eq_false c31
    clear c31
    by_cases c35 : (Int.tmod a1_1 2) = 0
    rotate_left
    ·rw [if_neg c35] at H
     have c35b0 : ((Int.tmod a1_1 2) == 0) = false := beq_eq_false_iff_ne.mpr c35
     have c35b1 : ((Int.tmod a1_1 2) != 0) = true := bne_iff_ne.mpr c35
     have H' := q_ H
     clear H
     have hnb39 := NB138_137.out
     have hnc39 := NB137_138.out
     have hnb40 := NB138_139.out
     have hnc40 := NB139_138.out
     obtain ⟨hcz41_0, hfz41_0, hcz41_1, hfz41_1, hcz41_2, hfz41_2, hcz41_3, hfz41_3, hcz41_4, hfz41_4⟩ := b5_ BK138.out
     go_wp2
     go_meet
     case rel => exact ⟨_, (true), cl_, H', ⟨by have := HJ3.out; first | omega | exact Nat.le_refl _⟩, ⟨bk_ BK137.out⟩, ⟨bk_ BK138.out⟩, ⟨bk_ BK139.out⟩, ⟨hb_⟩⟩
    rw [if_pos c35] at H
    have c35b0 : ((Int.tmod a1_1 2) == 0) = true := beq_iff_eq.mpr c35
    have c35b1 : ((Int.tmod a1_1 2) != 0) = false := bne_eq_false_iff_eq.mpr c35
    clear c35
    have H' := q_ H
    clear H
    have hnb36 := NB138_137.out
    have hnc36 := NB137_138.out
    have hnb37 := NB138_139.out
    have hnc37 := NB139_138.out
    obtain ⟨hcz38_0, hfz38_0, hcz38_1, hfz38_1, hcz38_2, hfz38_2, hcz38_3, hfz38_3, hcz38_4, hfz38_4⟩ := b5_ BK138.out
    go_wp2
    go_meet
    case rel => exact ⟨_, (decide (a1_1 > (wrap64 (x7_3 - 2)))), cl_, H', ⟨by have := HJ3.out; first | omega | exact Nat.le_refl _⟩, ⟨bk_ BK137.out⟩, ⟨bk_ BK138.out⟩, ⟨bk_ BK139.out⟩, ⟨hb_⟩⟩
   case rest =>
    clear HC17
    obtain ⟨kq, x42_16, rfl, HA, HJ16, BK137, BK138, BK139, HB⟩ := hcut
    cases kq with
    | zero => exact absurd HA.out (by simp [zqj.j1])
    | succ kj16 =>
     have H := HA.out
     clear HA
     simp only [zqj.j1] at H
     by_cases c45 : x42_16 = true
     ·subst c45
      rw [if_pos rfl] at H
      obtain rfl := Option.some.inj H
      go_wp2
      go_ret
      exact ⟨ew_, hb_⟩
     replace c45 := Bool.eq_false_iff.mpr c45
     subst c45
     rw [if_neg (show ¬ (false = true) by decide)] at H
     have HC46 := q_ H
     clear H
     go_upto_region 6 with (fail)
     go_cut [61] (fun v61 wc => ∃ (kq : Nat) (x61_45 : Bool), v61 = .bool x61_45 ∧ Aside0 (zqj.j2 kq x61_45 a1_0 a1_1 a1_2 a1_3 a1_4 = some r) ∧ Aside0 (kq ≤ kj16) ∧ Aside0 (wc.heap[gb137]? = some (.cells #[.string a0_0, .string a0_1, .string a0_2, .int .i64 a0_3, (.slice A0_4 l0_4.length c0_4), (.slice A0_5 l0_5.length c0_5)] 25 (0, 0))) ∧ Aside0 (wc.heap[gb138]? = some (.cells #[.int .i64 a1_0, .int .i64 a1_1, .int .i64 a1_2, .string a1_3, .bool a1_4] 43 (0, 0))) ∧ Aside0 (wc.heap[gb139]? = some (.cells #[.int .i64 a2_0, .int .i64 a2_1, .int .i64 a2_2, .string a2_3, .bool a2_4] 43 (0, 0))) ∧ Aside0 (Below w.heap.size w wc))
     case first =>
      have H := HC46.out
      clear HC46
      by_cases c47 : a2_0 > a1_0
      ·rw [if_pos c47] at H
       have c47b0 : decide (a1_0 < a2_0) = true := decide_eq_true c47
       clear c47
       (first | rw [c47b0] | (simp only [i64_w, i32_w]; rw [c47b0]) | skip)
       have H' := q_ H
       clear H
       have hnb48 := NB139_137.out
       have hnc48 := NB137_139.out
       have hnb49 := NB139_138.out
       have hnc49 := NB138_139.out
       obtain ⟨hcz50_0, hfz50_0, hcz50_1, hfz50_1, hcz50_2, hfz50_2, hcz50_3, hfz50_3, hcz50_4, hfz50_4⟩ := b5_ BK139.out
       have hnb51 := NB138_137.out
       have hnc51 := NB137_138.out
       obtain ⟨hcz52_0, hfz52_0, hcz52_1, hfz52_1, hcz52_2, hfz52_2, hcz52_3, hfz52_3, hcz52_4, hfz52_4⟩ := b5_ BK138.out
       go_wp2
       go_meet
       case rel => exact ⟨_, (true), cl_, H', ⟨by have := HJ3.out; have := HJ16.out; first | omega | exact Nat.le_refl _⟩, ⟨bk_ BK137.out⟩, ⟨bk_ BK138.out⟩, ⟨bk_ BK139.out⟩, ⟨hb_⟩⟩
      rw [if_neg c47] at H
      have c47b0 : decide (a1_0 < a2_0) = false := decide_eq_false c47
      clear c47
      (first | rw [c47b0] | (simp only [i64_w, i32_w]; rw [c47b0]) | skip)
      by_cases c53 : a2_0 = a1_0
      rotate_left
      ·rw [if_neg c53] at H
       have c53b0 : (a2_0 == a1_0) = false := beq_eq_false_iff_ne.mpr c53
       have c53b1 : (a2_0 != a1_0) = true := bne_iff_ne.mpr c53
       have H' := q_ H
       clear H
       have hnb59 := NB139_137.out
       have hnc59 := NB137_139.out
       have hnb60 := NB139_138.out
       have hnc60 := NB138_139.out
       obtain ⟨hcz61_0, hfz61_0, hcz61_1, hfz61_1, hcz61_2, hfz61_2, hcz61_3, hfz61_3, hcz61_4, hfz61_4⟩ := b5_ BK139.out
       have hnb62 := NB138_137.out
       have hnc62 := NB137_138.out
       obtain ⟨hcz63_0, hfz63_0, hcz63_1, hfz63_1, hcz63_2, hfz63_2, hcz63_3, hfz63_3, hcz63_4, hfz63_4⟩ := b5_ BK138.out
       go_wp2
       go_meet
       case rel => exact ⟨_, (false), cl_, H', ⟨by have := HJ3.out; have := HJ16.out; first | omega | exact Nat.le_refl _⟩, ⟨bk_ BK137.out⟩, ⟨bk_ BK138.out⟩, ⟨bk_ BK139.out⟩, ⟨hb_⟩⟩
      rw [if_pos c53] at H
      have c53b0 : (a2_0 == a1_0) = true := beq_iff_eq.mpr c53
      have c53b1 : (a2_0 != a1_0) = false := bne_eq_false_iff_eq.mpr c53
      clear c53
      have H' := q_ H
      clear H
      have hnb54 := NB139_137.out
      have hnc54 := NB137_139.out
      have hnb55 := NB139_138.out
      have hnc55 := NB138_139.out
      obtain ⟨hcz56_0, hfz56_0, hcz56_1, hfz56_1, hcz56_2, hfz56_2, hcz56_3, hfz56_3, hcz56_4, hfz56_4⟩ := b5_ BK139.out
      have hnb57 := NB138_137.out
      have hnc57 := NB137_138.out
      obtain ⟨hcz58_0, hfz58_0, hcz58_1, hfz58_1, hcz58_2, hfz58_2, hcz58_3, hfz58_3, hcz58_4, hfz58_4⟩ := b5_ BK138.out
      go_wp2
      go_meet
      case rel => exact ⟨_, (decide (a2_1 ≥ a1_1)), cl_, H', ⟨by have := HJ3.out; have := HJ16.out; first | omega | exact Nat.le_refl _⟩, ⟨bk_ BK137.out⟩, ⟨bk_ BK138.out⟩, ⟨bk_ BK139.out⟩, ⟨hb_⟩⟩
     case rest =>
      clear HC46
      obtain ⟨kq, x61_45, rfl, HA, HJ45, BK137, BK138, BK139, HB⟩ := hcut
      cases kq with
      | zero => exact absurd HA.out (by simp [zqj.j2])
      | succ kj45 =>
       have H := HA.out
       clear HA
       simp only [zqj.j2] at H
       by_cases c64 : x61_45 = true
       ·subst c64
        rw [if_pos rfl] at H
        obtain rfl := Option.some.inj H
        go_wp2
        go_ret
        exact ⟨ew_, hb_⟩
       replace c64 := Bool.eq_false_iff.mpr c64
       subst c64
       rw [if_neg (show ¬ (false = true) by decide)] at H
       have HC65 := q_ H
       clear H
       go_upto_region 8 with (fail)
       go_cut [79] (fun v79 wc => ∃ (kq : Nat) (x79_64 : Bool), v79 = .bool x79_64 ∧ Aside0 (zqj.j3 kq x79_64 a1_0 a1_1 a1_2 a1_3 a1_4 = some r) ∧ Aside0 (kq ≤ kj45) ∧ Aside0 (wc.heap[gb137]? = some (.cells #[.string a0_0, .string a0_1, .string a0_2, .int .i64 a0_3, (.slice A0_4 l0_4.length c0_4), (.slice A0_5 l0_5.length c0_5)] 25 (0, 0))) ∧ Aside0 (wc.heap[gb138]? = some (.cells #[.int .i64 a1_0, .int .i64 a1_1, .int .i64 a1_2, .string a1_3, .bool a1_4] 43 (0, 0))) ∧ Aside0 (wc.heap[gb139]? = some (.cells #[.int .i64 a2_0, .int .i64 a2_1, .int .i64 a2_2, .string a2_3, .bool a2_4] 43 (0, 0))) ∧ Aside0 (Below w.heap.size w wc))
       case first =>
        have H := HC65.out
        clear HC65
        by_cases c66 : a1_2 < 0
        ·rw [if_pos c66] at H
         have c66b0 : decide (a1_2 < 0) = true := decide_eq_true c66
         clear c66
         (first | rw [c66b0] | (simp only [i64_w, i32_w]; rw [c66b0]) | skip)
         have H' := q_ H
         clear H
         have hnb67 := NB138_137.out
         have hnc67 := NB137_138.out
         have hnb68 := NB138_139.out
         have hnc68 := NB139_138.out
         obtain ⟨hcz69_0, hfz69_0, hcz69_1, hfz69_1, hcz69_2, hfz69_2, hcz69_3, hfz69_3, hcz69_4, hfz69_4⟩ := b5_ BK138.out
         go_wp2
         go_meet
         case rel => exact ⟨_, (true), cl_, H', ⟨by have := HJ3.out; have := HJ16.out; have := HJ45.out; first | omega | exact Nat.le_refl _⟩, ⟨bk_ BK137.out⟩, ⟨bk_ BK138.out⟩, ⟨bk_ BK139.out⟩, ⟨hb_⟩⟩
        rw [if_neg c66] at H
        have c66b0 : decide (a1_2 < 0) = false := decide_eq_false c66
        clear c66
        (first | rw [c66b0] | (simp only [i64_w, i32_w]; rw [c66b0]) | skip)
        by_cases c70 : a1_2 > 4
        ·rw [if_pos c70] at H
         have c70b0 : decide (4 < a1_2) = true := decide_eq_true c70
         clear c70
         have H' := q_ H
         clear H
         have hnb71 := NB138_137.out
         have hnc71 := NB137_138.out
         have hnb72 := NB138_139.out
         have hnc72 := NB139_138.out
         obtain ⟨hcz73_0, hfz73_0, hcz73_1, hfz73_1, hcz73_2, hfz73_2, hcz73_3, hfz73_3, hcz73_4, hfz73_4⟩ := b5_ BK138.out
         go_wp2
         go_meet
         case rel => exact ⟨_, (true), cl_, H', ⟨by have := HJ3.out; have := HJ16.out; have := HJ45.out; first | omega | exact Nat.le_refl _⟩, ⟨bk_ BK137.out⟩, ⟨bk_ BK138.out⟩, ⟨bk_ BK139.out⟩, ⟨hb_⟩⟩
        rw [if_neg c70] at H
        have c70b0 : decide (4 < a1_2) = false := decide_eq_false c70
        clear c70
        by_cases c74 : a1_2 = 0
        rotate_left
        ·rw [if_neg c74] at H
         have c74b0 : (a1_2 == 0) = false := beq_eq_false_iff_ne.mpr c74
         have c74b1 : (a1_2 != 0) = true := bne_iff_ne.mpr c74
         have H' := q_ H
         clear H
         have hnb78 := NB138_137.out
         have hnc78 := NB137_138.out
         have hnb79 := NB138_139.out
         have hnc79 := NB139_138.out
         obtain ⟨hcz80_0, hfz80_0, hcz80_1, hfz80_1, hcz80_2, hfz80_2, hcz80_3, hfz80_3, hcz80_4, hfz80_4⟩ := b5_ BK138.out
         go_wp2
         go_meet
         case rel => exact ⟨_, (false), cl_, H', ⟨by have := HJ3.out; have := HJ16.out; have := HJ45.out; first | omega | exact Nat.le_refl _⟩, ⟨bk_ BK137.out⟩, ⟨bk_ BK138.out⟩, ⟨bk_ BK139.out⟩, ⟨hb_⟩⟩
        rw [if_pos c74] at H
        have c74b0 : (a1_2 == 0) = true := beq_iff_eq.mpr c74
        have c74b1 : (a1_2 != 0) = false := bne_eq_false_iff_eq.mpr c74
        clear c74
        have H' := q_ H
        clear H
        have hnb75 := NB138_137.out
        have hnc75 := NB137_138.out
        have hnb76 := NB138_139.out
        have hnc76 := NB139_138.out
        obtain ⟨hcz77_0, hfz77_0, hcz77_1, hfz77_1, hcz77_2, hfz77_2, hcz77_3, hfz77_3, hcz77_4, hfz77_4⟩ := b5_ BK138.out
        go_wp2
        go_meet
        case rel => exact ⟨_, (!a1_4), cl_, H', ⟨by have := HJ3.out; have := HJ16.out; have := HJ45.out; first | omega | exact Nat.le_refl _⟩, ⟨bk_ BK137.out⟩, ⟨bk_ BK138.out⟩, ⟨bk_ BK139.out⟩, ⟨hb_⟩⟩
       case rest =>
        clear HC65
        obtain ⟨kq, x79_64, rfl, HA, HJ64, BK137, BK138, BK139, HB⟩ := hcut
        cases kq with
        | zero => exact absurd HA.out (by simp [zqj.j3])
        | succ kj64 =>
         have H := HA.out
         clear HA
         simp only [zqj.j3] at H
         by_cases c81 : x79_64 = true
         ·subst c81
          rw [if_pos rfl] at H
          obtain rfl := Option.some.inj H
          go_wp2
          go_ret
          exact ⟨ew_, hb_⟩
         replace c81 := Bool.eq_false_iff.mpr c81
         subst c81
         rw [if_neg (show ¬ (false = true) by decide)] at H
         by_cases c82 : a1_2 = 4
         rotate_left
         ·rw [if_neg c82] at H
          have c82b0 : (a1_2 == 4) = false := beq_eq_false_iff_ne.mpr c82
          have c82b1 : (a1_2 != 4) = true := bne_iff_ne.mpr c82
          by_cases c91 : a1_3.toList = ([] : List UInt8)
          rotate_left
          ·rw [if_neg c91] at H
           have c91b0 : (a1_3.toList == ([] : List UInt8)) = false := beq_eq_false_iff_ne.mpr c91
           have c91b1 : (a1_3.toList != ([] : List UInt8)) = true := bne_iff_ne.mpr c91
           obtain rfl := Option.some.inj H
           have hnb95 := NB138_137.out
           have hnc95 := NB137_138.out
           have hnb96 := NB138_139.out
           have hnc96 := NB139_138.out
           obtain ⟨hcz97_0, hfz97_0, hcz97_1, hfz97_1, hcz97_2, hfz97_2, hcz97_3, hfz97_3, hcz97_4, hfz97_4⟩ := b5_ BK138.out
           go_wp2
           go_ret
           exact ⟨ew_, hb_⟩
          rw [if_pos c91] at H
          have c91b0 : (a1_3.toList == ([] : List UInt8)) = true := beq_iff_eq.mpr c91
          have c91b1 : (a1_3.toList != ([] : List UInt8)) = false := bne_eq_false_iff_eq.mpr c91
          clear c91
          obtain rfl := Option.some.inj H
          have hnb92 := NB138_137.out
          have hnc92 := NB137_138.out
          have hnb93 := NB138_139.out
          have hnc93 := NB139_138.out
          obtain ⟨hcz94_0, hfz94_0, hcz94_1, hfz94_1, hcz94_2, hfz94_2, hcz94_3, hfz94_3, hcz94_4, hfz94_4⟩ := b5_ BK138.out
          go_wp2
          go_ret
          exact ⟨ew_, hb_⟩
         rw [if_pos c82] at H
         have c82b0 : (a1_2 == 4) = true := beq_iff_eq.mpr c82
         have c82b1 : (a1_2 != 4) = false := bne_eq_false_iff_eq.mpr c82
         clear c82
         replace H := Option.bind_eq_some_iff.mp H
         obtain ⟨t140, A830, H⟩ := H
         (try dsimp only at H)
         have A83 := q_ A830
         clear A830
         by_cases c84 : t140 = true
         ·subst c84
          rw [if_pos rfl] at H
          obtain rfl := Option.some.inj H
          have hnb85 := NB138_137.out
          have hnc85 := NB137_138.out
          have hnb86 := NB138_139.out
          have hnc86 := NB139_138.out
          obtain ⟨hcz87_0, hfz87_0, hcz87_1, hfz87_1, hcz87_2, hfz87_2, hcz87_3, hfz87_3, hcz87_4, hfz87_4⟩ := b5_ BK138.out
          go_wp2_with (first | (go_at_call 51; (with_reducible refine (zqc.calls kj64 a1_3 true _ A83.out).mono ?_); rintro e w' ⟨rfl, ⟨nd, rfl⟩⟩))
          go_ret
          exact ⟨ew_, hb_⟩
         replace c84 := Bool.eq_false_iff.mpr c84
         subst c84
         rw [if_neg (show ¬ (false = true) by decide)] at H
         obtain rfl := Option.some.inj H
         have hnb88 := NB138_137.out
         have hnc88 := NB137_138.out
         have hnb89 := NB138_139.out
         have hnc89 := NB139_138.out
         obtain ⟨hcz90_0, hfz90_0, hcz90_1, hfz90_1, hcz90_2, hfz90_2, hcz90_3, hfz90_3, hcz90_4, hfz90_4⟩ := b5_ BK138.out
         go_wp2_with (first | (go_at_call 51; (with_reducible refine (zqc.calls kj64 a1_3 false _ A83.out).mono ?_); rintro e w' ⟨rfl, ⟨nd, rfl⟩⟩))
         go_ret
         exact ⟨ew_, hb_⟩
end Go.Proofs.Ytenlmckahaniiaa.K
end
