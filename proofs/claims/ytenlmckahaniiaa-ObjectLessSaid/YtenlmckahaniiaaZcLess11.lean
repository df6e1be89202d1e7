/- Lemmas for several laws: what their proofs need of this seat's texts, in one place. -/
import Derived.Laws.Cover1
import Derived.Test.YtenlmckahaniiaaZcLess10
set_option linter.unusedVariables false
set_option linter.unusedSimpArgs false
set_option linter.unusedSectionVars false
set_option maxHeartbeats 8000000
set_option maxRecDepth 100000
section
namespace Go.Proofs.Ytenlmckahaniiaa.K
open Go.RowKit Go.Proofs.YtenlmckahaniiaaW.PrintWords Go.Proofs.YtenlmckahaniiaaW.PrintLast
mutual
def zq2.l0 : Nat → List ByteArray → Int → ByteArray → ByteArray → ByteArray → Int → List (S62) → List (S43) → Option (Bool)
  | 0, _, _, _, _, _, _, _, _ => none
  | k + 1, x7, x8, x407000, x407001, x407002, x407003, x407004, x407005 => if x8 < (x7.length : Int) then (if 0 ≤ (wrap64 (x8 - 1)) then (if (wrap64 (x8 - 1)) < (x7.length : Int) then (if 0 ≤ x8 then (if ((Op.bytesLess ((rdOf ByteArray.empty x7 (wrap64 (x8 - 1))).toList) ((rdOf ByteArray.empty x7 x8).toList)) = true) then (zq2.l0 k x7 (wrap64 (x8 + 1)) x407000 x407001 x407002 x407003 x407004 x407005) else (none)) else (none)) else (none)) else (none)) else (zq2.l1 k x7 x407005 (x407005.length : Int) 0)
def zq2.l1 : Nat → List ByteArray → List (S43) → Int → Int → Option (Bool)
  | 0, _, _, _, _ => none
  | k + 1, x7, x81, x82, x83 => if x83 < x82 then (if 0 ≤ x83 then (if x83 < (x81.length : Int) then (zq2.l2 k x7 false x81 x82 x83 x7 (x7.length : Int) 0 ((y0l x81 x83).f0) ((y0l x81 x83).f1) ((y0l x81 x83).f2) ((y0l x81 x83).f3) ((y0l x81 x83).f4)) else (none)) else (none)) else ((zq6.f k).bind fun t440 => (some t440))
def zq2.l2 : Nat → List ByteArray → Bool → List (S43) → Int → Int → List ByteArray → Int → Int → Int → Int → Int → ByteArray → Bool → Option (Bool)
  | 0, _, _, _, _, _, _, _, _, _, _, _, _, _ => none
  | k + 1, x7, x11, x81, x82, x83, x87, x88, x89, x439000, x439001, x439002, x439003, x439004 => if x89 < x88 then (if 0 ≤ x89 then (if x89 < (x87.length : Int) then (if x11 = true then (zq2.l2 k x7 true x81 x82 x83 x87 x88 (wrap64 (x89 + 1)) x439000 x439001 x439002 x439003 x439004) else (zq2.l2 k x7 ((rdOf ByteArray.empty x87 x89).toList == x439003.toList) x81 x82 x83 x87 x88 (wrap64 (x89 + 1)) x439000 x439001 x439002 x439003 x439004)) else (none)) else (none)) else (if (x11 != (x439002 == 4)) = true then (none) else (zq2.l1 k x7 x81 x82 (wrap64 (x83 + 1))))
end
def zq2.fpp (k : Nat) (a0_0 : ByteArray) (a0_1 : ByteArray) (a0_2 : ByteArray) (a0_3 : Int) (l0_4 : List (S62)) (l0_5 : List (S43)) (a1 : Int) : Option (Bool) := (zq7.f k a0_0 a0_1 a0_2 a0_3 l0_4 l0_5).bind fun t407 => (if t407 = true then ((zqo.f k a0_0 a0_1 a0_2 a0_3 l0_4 l0_5).bind fun t408 => (if t408 = 0 then (if 0 ≤ (wrap64 ((l0_4.length : Int) - 1)) then (if (wrap64 ((l0_4.length : Int) - 1)) ≤ (l0_4.length : Int) then (if (l0_5.length : Int) = 0 then (none) else ((some (([] : List (S43)) : List (S43))).bind fun y414 => (if 0 ≤ (Int.tmod (wrap64 (a1)) (l0_5.length : Int)) then (if (Int.tmod (wrap64 (a1)) (l0_5.length : Int)) ≤ (l0_5.length : Int) then ((some (l0_5.take ((Int.tmod (wrap64 (a1)) (l0_5.length : Int)) : Int).toNat : List (S43))).bind fun y417 => (if y414.length + y417.length < 2932031007402 then ((some (y414 ++ y417 : List (S43))).bind fun y421 => (if 0 ≤ (wrap64 ((Int.tmod (wrap64 (a1)) (l0_5.length : Int)) + 1)) then (if (wrap64 ((Int.tmod (wrap64 (a1)) (l0_5.length : Int)) + 1)) ≤ (l0_5.length : Int) then ((some (l0_5.drop ((wrap64 ((Int.tmod (wrap64 (a1)) (l0_5.length : Int)) + 1)) : Int).toNat : List (S43))).bind fun y424 => (if y421.length + y424.length < 2932031007402 then ((zqo.f k a0_0 a0_1 a0_2 a0_3 (l0_4.take ((wrap64 ((l0_4.length : Int) - 1)) : Int).toNat) (y421 ++ y424)).bind fun t431 => (if t431 = 0 then ((zqp.f k a0_0 a0_1 a0_2 a0_3 l0_4 l0_5).bind fun t432 => (zq2.l0 k t432 1 a0_0 a0_1 a0_2 a0_3 l0_4 l0_5)) else (none))) else (none))) else (none)) else (none))) else (none))) else (none)) else (none)))) else (none)) else (none)) else ((zq6.f k).bind fun t441 => (some t441)))) else ((zq6.f k).bind fun t442 => (some t442)))
def zq2.T8 : Bool × List (List Nat × List Nat) := (true, [([], []), ([], []), ([1], [1]), ([], []), ([2, 3], [2, 3]), ([0, 4], [0, 4]), ([], []), ([6], [6]), ([], []), ([8], [8]), ([7, 9], [7, 9]), ([5, 10, 5], [5, 10]), ([0, 1, 2, 3, 4, 5, 6, 7, 8, 9, 10, 11], []), ([12, 11, 11, 0, 1, 2, 3, 4, 5, 6, 7, 8, 9, 10, 11], [11, 12])])
def zq2.B8 : List Nat := [0, 0, 2, 0, 14, 31, 0, 64, 0, 256, 960, 2047, 4095, 8191]
theorem zq2.tab8 : rtab .any (opsOf Try.f8 8) = zq2.T8 := by kernel_rfl
theorem zq2.bits8 : waitsOk zq2.T8.2 zq2.B8 = true := by kernel_rfl
def zq2.T15 : Bool × List (List Nat × List Nat) := (true, [([], []), ([], []), ([1], [1]), ([0, 2], [0, 2]), ([3], [3]), ([], []), ([], []), ([5, 6], [5, 6]), ([7], [7]), ([4, 8], [4, 8])])
def zq2.B15 : List Nat := [0, 0, 2, 7, 15, 0, 0, 96, 224, 511]
theorem zq2.tab15 : rtab .any (opsOf Try.f8 15) = zq2.T15 := by kernel_rfl
theorem zq2.bits15 : waitsOk zq2.T15.2 zq2.B15 = true := by kernel_rfl
theorem zq2.callspp (k : Nat) (a0_0 : ByteArray) (a0_1 : ByteArray) (a0_2 : ByteArray) (a0_3 : Int) (A0_4 : Option Addr) (c0_4 : Nat) (l0_4 : List (S62)) (A0_5 : Option Addr) (c0_5 : Nat) (l0_5 : List (S43)) (a1 : Int) (r : Bool) (w : World) (h4 : (0 : Int) < (l0_4.length : Int)) (h5 : (0 : Int) < (l0_5.length : Int)) (hr0_4 : Kd.C k62 w A0_4 l0_4.length l0_4) (hc0_4 : l0_4.length ≤ c0_4) (hr0_5 : Kd.C k43 w A0_5 l0_5.length l0_5) (hc0_5 : l0_5.length ≤ c0_5) (h : zq2.fpp k a0_0 a0_1 a0_2 a0_3 l0_4 l0_5 a1 = some r) :
  Calls Try.prog 8 #[.agg #[.string a0_0, .string a0_1, .string a0_2, .int .i64 a0_3, .slice A0_4 l0_4.length c0_4, .slice A0_5 l0_5.length c0_5], .int .u16 a1] w fun e w' => e = .returned (.bool r) ∧ Below w.heap.size w w' := by
 have hu25 := Try.underlying25
 have hu43 := Try.underlying43
 have HR0_4 := Aside0.mk hr0_4
 have HC0_4 := Aside0.mk hc0_4
 clear hr0_4 hc0_4
 have HR0_5 := Aside0.mk hr0_5
 have HC0_5 := Aside0.mk hc0_5
 clear hr0_5 hc0_5
 have HB := Aside0.mk (Below.refl w.heap.size w)
 have H : ((zq7.f k a0_0 a0_1 a0_2 a0_3 l0_4 l0_5).bind fun t407 => (if t407 = true then ((zqo.f k a0_0 a0_1 a0_2 a0_3 l0_4 l0_5).bind fun t408 => (if t408 = 0 then (if 0 ≤ (wrap64 ((l0_4.length : Int) - 1)) then (if (wrap64 ((l0_4.length : Int) - 1)) ≤ (l0_4.length : Int) then (if (l0_5.length : Int) = 0 then (none) else ((some (([] : List (S43)) : List (S43))).bind fun y414 => (if 0 ≤ (Int.tmod (wrap64 (a1)) (l0_5.length : Int)) then (if (Int.tmod (wrap64 (a1)) (l0_5.length : Int)) ≤ (l0_5.length : Int) then ((some (l0_5.take ((Int.tmod (wrap64 (a1)) (l0_5.length : Int)) : Int).toNat : List (S43))).bind fun y417 => (if y414.length + y417.length < 2932031007402 then ((some (y414 ++ y417 : List (S43))).bind fun y421 => (if 0 ≤ (wrap64 ((Int.tmod (wrap64 (a1)) (l0_5.length : Int)) + 1)) then (if (wrap64 ((Int.tmod (wrap64 (a1)) (l0_5.length : Int)) + 1)) ≤ (l0_5.length : Int) then ((some (l0_5.drop ((wrap64 ((Int.tmod (wrap64 (a1)) (l0_5.length : Int)) + 1)) : Int).toNat : List (S43))).bind fun y424 => (if y421.length + y424.length < 2932031007402 then ((zqo.f k a0_0 a0_1 a0_2 a0_3 (l0_4.take ((wrap64 ((l0_4.length : Int) - 1)) : Int).toNat) (y421 ++ y424)).bind fun t431 => (if t431 = 0 then ((zqp.f k a0_0 a0_1 a0_2 a0_3 l0_4 l0_5).bind fun t432 => (zq2.l0 k t432 1 a0_0 a0_1 a0_2 a0_3 l0_4 l0_5)) else (none))) else (none))) else (none)) else (none))) else (none))) else (none)) else (none)))) else (none)) else (none)) else ((zq6.f k).bind fun t441 => (some t441)))) else ((zq6.f k).bind fun t442 => (some t442)))) = some r := h
 clear h
 replace H := Option.bind_eq_some_iff.mp H
 obtain ⟨t407, A30, H⟩ := H
 (try dsimp only at H)
 have A3 := Aside0.mk A30
 clear A30
 by_cases c4 : t407 = true
 ·subst c4
  have H1 : ((zqo.f k a0_0 a0_1 a0_2 a0_3 l0_4 l0_5).bind fun t408 => (if t408 = 0 then (if 0 ≤ (wrap64 ((l0_4.length : Int) - 1)) then (if (wrap64 ((l0_4.length : Int) - 1)) ≤ (l0_4.length : Int) then (if (l0_5.length : Int) = 0 then (none) else ((some (([] : List (S43)) : List (S43))).bind fun y414 => (if 0 ≤ (Int.tmod (wrap64 (a1)) (l0_5.length : Int)) then (if (Int.tmod (wrap64 (a1)) (l0_5.length : Int)) ≤ (l0_5.length : Int) then ((some (l0_5.take ((Int.tmod (wrap64 (a1)) (l0_5.length : Int)) : Int).toNat : List (S43))).bind fun y417 => (if y414.length + y417.length < 2932031007402 then ((some (y414 ++ y417 : List (S43))).bind fun y421 => (if 0 ≤ (wrap64 ((Int.tmod (wrap64 (a1)) (l0_5.length : Int)) + 1)) then (if (wrap64 ((Int.tmod (wrap64 (a1)) (l0_5.length : Int)) + 1)) ≤ (l0_5.length : Int) then ((some (l0_5.drop ((wrap64 ((Int.tmod (wrap64 (a1)) (l0_5.length : Int)) + 1)) : Int).toNat : List (S43))).bind fun y424 => (if y421.length + y424.length < 2932031007402 then ((zqo.f k a0_0 a0_1 a0_2 a0_3 (l0_4.take ((wrap64 ((l0_4.length : Int) - 1)) : Int).toNat) (y421 ++ y424)).bind fun t431 => (if t431 = 0 then ((zqp.f k a0_0 a0_1 a0_2 a0_3 l0_4 l0_5).bind fun t432 => (zq2.l0 k t432 1 a0_0 a0_1 a0_2 a0_3 l0_4 l0_5)) else (none))) else (none))) else (none)) else (none))) else (none))) else (none)) else (none)))) else (none)) else (none)) else ((zq6.f k).bind fun t441 => (some t441)))) = some r := by rw [if_pos rfl] at H; exact H
  clear H
  have H := H1
  clear H1
  replace H := Option.bind_eq_some_iff.mp H
  obtain ⟨t408, A50, H⟩ := H
  (try dsimp only at H)
  have A5 := Aside0.mk A50
  clear A50
  by_cases c6 : t408 = 0
  ·rw [if_pos c6] at H
   have c6b0 : (t408 == 0) = true := beq_iff_eq.mpr c6
   have c6b1 : (t408 != 0) = false := bne_eq_false_iff_eq.mpr c6
   clear c6
   obtain ⟨ji7, hji7⟩ : ∃ j_ : Int, (wrap64 ((l0_4.length : Int) - 1)) = j_ := ⟨_, rfl⟩
   replace H : (if 0 ≤ (ji7) then (if (ji7) ≤ (l0_4.length : Int) then (if (l0_5.length : Int) = 0 then (none) else ((some (([] : List (S43)) : List (S43))).bind fun y414 => (if 0 ≤ (Int.tmod (wrap64 (a1)) (l0_5.length : Int)) then (if (Int.tmod (wrap64 (a1)) (l0_5.length : Int)) ≤ (l0_5.length : Int) then ((some (l0_5.take ((Int.tmod (wrap64 (a1)) (l0_5.length : Int)) : Int).toNat : List (S43))).bind fun y417 => (if y414.length + y417.length < 2932031007402 then ((some (y414 ++ y417 : List (S43))).bind fun y421 => (if 0 ≤ (wrap64 ((Int.tmod (wrap64 (a1)) (l0_5.length : Int)) + 1)) then (if (wrap64 ((Int.tmod (wrap64 (a1)) (l0_5.length : Int)) + 1)) ≤ (l0_5.length : Int) then ((some (l0_5.drop ((wrap64 ((Int.tmod (wrap64 (a1)) (l0_5.length : Int)) + 1)) : Int).toNat : List (S43))).bind fun y424 => (if y421.length + y424.length < 2932031007402 then ((zqo.f k a0_0 a0_1 a0_2 a0_3 (l0_4.take ((ji7) : Int).toNat) (y421 ++ y424)).bind fun t431 => (if t431 = 0 then ((zqp.f k a0_0 a0_1 a0_2 a0_3 l0_4 l0_5).bind fun t432 => (zq2.l0 k t432 1 a0_0 a0_1 a0_2 a0_3 l0_4 l0_5)) else (none))) else (none))) else (none)) else (none))) else (none))) else (none)) else (none)))) else (none)) else (none)) = some r := by first | (rw [hji7] at H; exact H) | (simp only [hji7] at H ⊢; exact H)
   (try rw [hji7] at A3)
   (try rw [hji7] at A5)
   have hji7w : (IntKind.i64.wrap ((l0_4.length : Int) - 1)) = ji7 := (i64_w _).trans hji7
   by_cases c8 : 0 ≤ (ji7)
   ·rw [if_pos c8] at H
    have c8b0 := eq_true c8
    have c8b1 : decide (0 ≤ (ji7)) = true := decide_eq_true c8
    clear c8
    by_cases c9 : (ji7) ≤ (l0_4.length : Int)
    ·rw [if_pos c9] at H
     have c9b0 := eq_true c9
     have c9b1 : decide ((ji7) ≤ (l0_4.length : Int)) = true := decide_eq_true c9
     clear c9
     obtain ⟨y410, hy410⟩ : ∃ y_ : List (S62), y_ = (l0_4.take ((ji7) : Int).toNat) := ⟨_, rfl⟩
     replace H : (if (l0_5.length : Int) = 0 then (none) else ((some (([] : List (S43)) : List (S43))).bind fun y414 => (if 0 ≤ (Int.tmod (wrap64 (a1)) (l0_5.length : Int)) then (if (Int.tmod (wrap64 (a1)) (l0_5.length : Int)) ≤ (l0_5.length : Int) then ((some (l0_5.take ((Int.tmod (wrap64 (a1)) (l0_5.length : Int)) : Int).toNat : List (S43))).bind fun y417 => (if y414.length + y417.length < 2932031007402 then ((some (y414 ++ y417 : List (S43))).bind fun y421 => (if 0 ≤ (wrap64 ((Int.tmod (wrap64 (a1)) (l0_5.length : Int)) + 1)) then (if (wrap64 ((Int.tmod (wrap64 (a1)) (l0_5.length : Int)) + 1)) ≤ (l0_5.length : Int) then ((some (l0_5.drop ((wrap64 ((Int.tmod (wrap64 (a1)) (l0_5.length : Int)) + 1)) : Int).toNat : List (S43))).bind fun y424 => (if y421.length + y424.length < 2932031007402 then ((zqo.f k a0_0 a0_1 a0_2 a0_3 y410 (y421 ++ y424)).bind fun t431 => (if t431 = 0 then ((zqp.f k a0_0 a0_1 a0_2 a0_3 l0_4 l0_5).bind fun t432 => (zq2.l0 k t432 1 a0_0 a0_1 a0_2 a0_3 l0_4 l0_5)) else (none))) else (none))) else (none)) else (none))) else (none))) else (none)) else (none)))) = some r := by first | (rw [hy410]; with_reducible exact H) | (have H2_ := (Option.bind_some _ _).symm.trans H; rw [hy410]; with_reducible exact H2_) | (have H2_ := (Option.bind_some _ _).symm.trans H; with_reducible exact H2_) | with_reducible exact H | (rw [hy410]; exact H) | exact H
     have Ny410 := Aside0.mk hy410
     clear hy410
     by_cases c10 : (l0_5.length : Int) = 0
     ·rw [if_pos c10] at H
      exact absurd H (by simp)
     ·rw [if_neg c10] at H
      have c10b0 : ((l0_5.length : Int) == 0) = false := beq_eq_false_iff_ne.mpr c10
      have c10b1 : ((l0_5.length : Int) != 0) = true := bne_iff_ne.mpr c10
      have c10b2 : ¬ (l0_5 = []) := fun h_ => c10 (by rw [h_]; rfl)
      obtain ⟨y414, hy414⟩ : ∃ y_ : List (S43), y_ = (([] : List (S43))) := ⟨_, rfl⟩
      replace H : (if 0 ≤ (Int.tmod (wrap64 (a1)) (l0_5.length : Int)) then (if (Int.tmod (wrap64 (a1)) (l0_5.length : Int)) ≤ (l0_5.length : Int) then ((some (l0_5.take ((Int.tmod (wrap64 (a1)) (l0_5.length : Int)) : Int).toNat : List (S43))).bind fun y417 => (if y414.length + y417.length < 2932031007402 then ((some (y414 ++ y417 : List (S43))).bind fun y421 => (if 0 ≤ (wrap64 ((Int.tmod (wrap64 (a1)) (l0_5.length : Int)) + 1)) then (if (wrap64 ((Int.tmod (wrap64 (a1)) (l0_5.length : Int)) + 1)) ≤ (l0_5.length : Int) then ((some (l0_5.drop ((wrap64 ((Int.tmod (wrap64 (a1)) (l0_5.length : Int)) + 1)) : Int).toNat : List (S43))).bind fun y424 => (if y421.length + y424.length < 2932031007402 then ((zqo.f k a0_0 a0_1 a0_2 a0_3 y410 (y421 ++ y424)).bind fun t431 => (if t431 = 0 then ((zqp.f k a0_0 a0_1 a0_2 a0_3 l0_4 l0_5).bind fun t432 => (zq2.l0 k t432 1 a0_0 a0_1 a0_2 a0_3 l0_4 l0_5)) else (none))) else (none))) else (none)) else (none))) else (none))) else (none)) else (none)) = some r := by first | (rw [hy414]; with_reducible exact H) | (have H2_ := (Option.bind_some _ _).symm.trans H; rw [hy414]; with_reducible exact H2_) | (have H2_ := (Option.bind_some _ _).symm.trans H; with_reducible exact H2_) | with_reducible exact H | (rw [hy414]; exact H) | exact H
      have Ny414 := Aside0.mk hy414
      clear hy414
      obtain ⟨ji11, hji11⟩ : ∃ j_ : Int, (Int.tmod (wrap64 (a1)) (l0_5.length : Int)) = j_ := ⟨_, rfl⟩
      replace H : (if 0 ≤ (ji11) then (if (ji11) ≤ (l0_5.length : Int) then ((some (l0_5.take ((ji11) : Int).toNat : List (S43))).bind fun y417 => (if y414.length + y417.length < 2932031007402 then ((some (y414 ++ y417 : List (S43))).bind fun y421 => (if 0 ≤ (wrap64 ((ji11) + 1)) then (if (wrap64 ((ji11) + 1)) ≤ (l0_5.length : Int) then ((some (l0_5.drop ((wrap64 ((ji11) + 1)) : Int).toNat : List (S43))).bind fun y424 => (if y421.length + y424.length < 2932031007402 then ((zqo.f k a0_0 a0_1 a0_2 a0_3 y410 (y421 ++ y424)).bind fun t431 => (if t431 = 0 then ((zqp.f k a0_0 a0_1 a0_2 a0_3 l0_4 l0_5).bind fun t432 => (zq2.l0 k t432 1 a0_0 a0_1 a0_2 a0_3 l0_4 l0_5)) else (none))) else (none))) else (none)) else (none))) else (none))) else (none)) else (none)) = some r := by first | (rw [hji11] at H; exact H) | (simp only [hji11] at H ⊢; exact H)
      (try rw [hji11] at A3)
      (try rw [hji11] at A5)
      by_cases c12 : 0 ≤ (ji11)
      ·rw [if_pos c12] at H
       have c12b0 := eq_true c12
       have c12b1 : decide (0 ≤ (ji11)) = true := decide_eq_true c12
       clear c12
       by_cases c13 : (ji11) ≤ (l0_5.length : Int)
       ·rw [if_pos c13] at H
        have c13b0 := eq_true c13
        have c13b1 : decide ((ji11) ≤ (l0_5.length : Int)) = true := decide_eq_true c13
        clear c13
        obtain ⟨y417, hy417⟩ : ∃ y_ : List (S43), y_ = (l0_5.take ((ji11) : Int).toNat) := ⟨_, rfl⟩
        replace H : (if y414.length + y417.length < 2932031007402 then ((some (y414 ++ y417 : List (S43))).bind fun y421 => (if 0 ≤ (wrap64 ((ji11) + 1)) then (if (wrap64 ((ji11) + 1)) ≤ (l0_5.length : Int) then ((some (l0_5.drop ((wrap64 ((ji11) + 1)) : Int).toNat : List (S43))).bind fun y424 => (if y421.length + y424.length < 2932031007402 then ((zqo.f k a0_0 a0_1 a0_2 a0_3 y410 (y421 ++ y424)).bind fun t431 => (if t431 = 0 then ((zqp.f k a0_0 a0_1 a0_2 a0_3 l0_4 l0_5).bind fun t432 => (zq2.l0 k t432 1 a0_0 a0_1 a0_2 a0_3 l0_4 l0_5)) else (none))) else (none))) else (none)) else (none))) else (none)) = some r := by first | (rw [hy417]; with_reducible exact H) | (have H2_ := (Option.bind_some _ _).symm.trans H; rw [hy417]; with_reducible exact H2_) | (have H2_ := (Option.bind_some _ _).symm.trans H; with_reducible exact H2_) | with_reducible exact H | (rw [hy417]; exact H) | exact H
        have Ny417 := Aside0.mk hy417
        clear hy417
        by_cases c14 : y414.length + y417.length < 2932031007402
        ·rw [if_pos c14] at H
         have LMc14 := Aside0.mk c14
         clear c14
         obtain ⟨y421, hy421⟩ : ∃ y_ : List (S43), y_ = (y414 ++ y417) := ⟨_, rfl⟩
         replace H : (if 0 ≤ (wrap64 ((ji11) + 1)) then (if (wrap64 ((ji11) + 1)) ≤ (l0_5.length : Int) then ((some (l0_5.drop ((wrap64 ((ji11) + 1)) : Int).toNat : List (S43))).bind fun y424 => (if y421.length + y424.length < 2932031007402 then ((zqo.f k a0_0 a0_1 a0_2 a0_3 y410 (y421 ++ y424)).bind fun t431 => (if t431 = 0 then ((zqp.f k a0_0 a0_1 a0_2 a0_3 l0_4 l0_5).bind fun t432 => (zq2.l0 k t432 1 a0_0 a0_1 a0_2 a0_3 l0_4 l0_5)) else (none))) else (none))) else (none)) else (none)) = some r := by first | (rw [hy421]; with_reducible exact H) | (have H2_ := (Option.bind_some _ _).symm.trans H; rw [hy421]; with_reducible exact H2_) | (have H2_ := (Option.bind_some _ _).symm.trans H; with_reducible exact H2_) | with_reducible exact H | (rw [hy421]; exact H) | exact H
         have Ny421 := Aside0.mk hy421
         clear hy421
         obtain ⟨ji15, hji15⟩ : ∃ j_ : Int, (wrap64 ((ji11) + 1)) = j_ := ⟨_, rfl⟩
         replace H : (if 0 ≤ (ji15) then (if (ji15) ≤ (l0_5.length : Int) then ((some (l0_5.drop ((ji15) : Int).toNat : List (S43))).bind fun y424 => (if y421.length + y424.length < 2932031007402 then ((zqo.f k a0_0 a0_1 a0_2 a0_3 y410 (y421 ++ y424)).bind fun t431 => (if t431 = 0 then ((zqp.f k a0_0 a0_1 a0_2 a0_3 l0_4 l0_5).bind fun t432 => (zq2.l0 k t432 1 a0_0 a0_1 a0_2 a0_3 l0_4 l0_5)) else (none))) else (none))) else (none)) else (none)) = some r := by first | (rw [hji15] at H; exact H) | (simp only [hji15] at H ⊢; exact H)
         (try rw [hji15] at A3)
         (try rw [hji15] at A5)
         have hji15w : (IntKind.i64.wrap ((ji11) + 1)) = ji15 := (i64_w _).trans hji15
         by_cases c16 : 0 ≤ (ji15)
         ·rw [if_pos c16] at H
          have c16b0 := eq_true c16
          have c16b1 : decide (0 ≤ (ji15)) = true := decide_eq_true c16
          clear c16
          by_cases c17 : (ji15) ≤ (l0_5.length : Int)
          ·rw [if_pos c17] at H
           have c17b0 := eq_true c17
           have c17b1 : decide ((ji15) ≤ (l0_5.length : Int)) = true := decide_eq_true c17
           clear c17
           obtain ⟨y424, hy424⟩ : ∃ y_ : List (S43), y_ = (l0_5.drop ((ji15) : Int).toNat) := ⟨_, rfl⟩
           replace H : (if y421.length + y424.length < 2932031007402 then ((zqo.f k a0_0 a0_1 a0_2 a0_3 y410 (y421 ++ y424)).bind fun t431 => (if t431 = 0 then ((zqp.f k a0_0 a0_1 a0_2 a0_3 l0_4 l0_5).bind fun t432 => (zq2.l0 k t432 1 a0_0 a0_1 a0_2 a0_3 l0_4 l0_5)) else (none))) else (none)) = some r := by first | (rw [hy424]; with_reducible exact H) | (have H2_ := (Option.bind_some _ _).symm.trans H; rw [hy424]; with_reducible exact H2_) | (have H2_ := (Option.bind_some _ _).symm.trans H; with_reducible exact H2_) | with_reducible exact H | (rw [hy424]; exact H) | exact H
           have Ny424 := Aside0.mk hy424
           clear hy424
           by_cases c18 : y421.length + y424.length < 2932031007402
           ·rw [if_pos c18] at H
            have LMc18 := Aside0.mk c18
            clear c18
            obtain ⟨y428, hy428⟩ : ∃ y_ : List (S43), y_ = (y421 ++ y424) := ⟨_, rfl⟩
            replace H : ((zqo.f k a0_0 a0_1 a0_2 a0_3 y410 y428).bind fun t431 => (if t431 = 0 then ((zqp.f k a0_0 a0_1 a0_2 a0_3 l0_4 l0_5).bind fun t432 => (zq2.l0 k t432 1 a0_0 a0_1 a0_2 a0_3 l0_4 l0_5)) else (none))) = some r := by first | (rw [hy428]; with_reducible exact H) | (have H2_ := (Option.bind_some _ _).symm.trans H; rw [hy428]; with_reducible exact H2_) | (have H2_ := (Option.bind_some _ _).symm.trans H; with_reducible exact H2_) | with_reducible exact H | (rw [hy428]; exact H) | exact H
            have Ny428 := Aside0.mk hy428
            clear hy428
            replace H := Option.bind_eq_some_iff.mp H
            obtain ⟨t431, A190, H⟩ := H
            (try dsimp only at H)
            have A19 := Aside0.mk A190
            clear A190
            by_cases c20 : t431 = 0
            ·rw [if_pos c20] at H
             have c20b0 : (t431 == 0) = true := beq_iff_eq.mpr c20
             have c20b1 : (t431 != 0) = false := bne_eq_false_iff_eq.mpr c20
             clear c20
             replace H := Option.bind_eq_some_iff.mp H
             obtain ⟨t432, A210, H⟩ := H
             (try dsimp only at H)
             have A21 := Aside0.mk A210
             clear A210
             have H' := Aside0.mk H
             clear H
             go_enter Try.func8, Try.ntmps8
             try go_wp2_with (first | ((with_reducible refine y0j (N := 2) rfl ?_); refine y0e ?hg (N := 2) ?hd (cs := #[.string a0_0, .string a0_1, .string a0_2, .int .i64 a0_3, .slice A0_4 l0_4.length c0_4, .slice A0_5 l0_5.length c0_5]) (t := 25) ?hr ?_; (case hd => rfl); (case hg => rfl); (case hr => first | (go_simp; done) | (go_simp; rfl)); intro gb406 hg w22 hbox hb; have n0_ := Aside0.mk (y04 hb_ hb); have n1_ := Aside0.mk (hbox); have n2_ := Aside0.mk ((by rw [hg]; exact (y03 hb_) : w.heap.size ≤ gb406)); have n3_ := Aside0.mk ((by rw [hg]; exact (y03 hb_) : w.heap.size ≤ gb406)); clear HB; have HB := n0_; have BK406 := n1_; have GW406 := n2_; have GE406 := n3_; clear n0_ n1_ n2_ n3_; clear hb hbox hg; obtain ⟨hcz23_0, hfz23_0⟩ := bc_ BK406.out 0 rfl; obtain ⟨hcz23_1, hfz23_1⟩ := bc_ BK406.out 1 rfl; obtain ⟨hcz23_2, hfz23_2⟩ := bc_ BK406.out 2 rfl; obtain ⟨hcz23_3, hfz23_3⟩ := bc_ BK406.out 3 rfl; obtain ⟨hcz23_4, hfz23_4⟩ := bc_ BK406.out 4 rfl; obtain ⟨hcz23_5, hfz23_5⟩ := bc_ BK406.out 5 rfl) | ((with_reducible refine y0i (f := 17) rfl ?_); refine goesL_ (some 15) rfl rfl Try.func17 (by kernel_rfl) rfl #[.agg #[.string a0_0, .string a0_1, .string a0_2, .int .i64 a0_3, .slice A0_4 l0_4.length c0_4, .slice A0_5 l0_5.length c0_5]] rfl ar_ ?_; (with_reducible refine (zq7.calls k a0_0 a0_1 a0_2 a0_3 _ _ l0_4 _ _ l0_5 true _ ?side1 ?side2 ?side3 ?side4 A3.out).mono ?_); (case side1 => repeat (first | exact (Kd.C_below HR0_4.out HB.out) | (with_reducible refine Kd.C_alloc ?_ _) | (with_reducible refine Kd.C_drewN ?_ _) | (with_reducible refine Kd.C_drew ?_))); (case side2 => exact HC0_4.out); (case side3 => repeat (first | exact (Kd.C_below HR0_5.out HB.out) | (with_reducible refine Kd.C_alloc ?_ _) | (with_reducible refine Kd.C_drewN ?_ _) | (with_reducible refine Kd.C_drew ?_))); (case side4 => exact HC0_5.out); rintro e w24 ⟨rfl, hb⟩; refine ⟨_, rfl, ?_⟩; have n0_ := Aside0.mk (y06 (bk_ BK406.out) hb); have n1_ := Aside0.mk (y04 hb_ hb); clear BK406 HB; have BK406 := n0_; have HB := n1_; clear n0_ n1_; (try clear hb); (try clear hb2); (try clear hk); (try clear hi); obtain ⟨hcz25_0, hfz25_0⟩ := bc_ BK406.out 0 rfl; obtain ⟨hcz25_1, hfz25_1⟩ := bc_ BK406.out 1 rfl; obtain ⟨hcz25_2, hfz25_2⟩ := bc_ BK406.out 2 rfl; obtain ⟨hcz25_3, hfz25_3⟩ := bc_ BK406.out 3 rfl; obtain ⟨hcz25_4, hfz25_4⟩ := bc_ BK406.out 4 rfl; obtain ⟨hcz25_5, hfz25_5⟩ := bc_ BK406.out 5 rfl) | (go_at_call 18; (with_reducible refine (zqo.calls k a0_0 a0_1 a0_2 a0_3 _ _ l0_4 _ _ l0_5 t408 _ ?side1 ?side2 ?side3 ?side4 A5.out).mono ?_); (case side1 => repeat (first | exact (Kd.C_below HR0_4.out HB.out) | (with_reducible refine Kd.C_alloc ?_ _) | (with_reducible refine Kd.C_drewN ?_ _) | (with_reducible refine Kd.C_drew ?_))); (case side2 => exact HC0_4.out); (case side3 => repeat (first | exact (Kd.C_below HR0_5.out HB.out) | (with_reducible refine Kd.C_alloc ?_ _) | (with_reducible refine Kd.C_drewN ?_ _) | (with_reducible refine Kd.C_drew ?_))); (case side4 => exact HC0_5.out); rintro e w26 ⟨rfl, hb⟩; have n0_ := Aside0.mk (y06 (bk_ BK406.out) hb); have n1_ := Aside0.mk (y04 hb_ hb); clear BK406 HB; have BK406 := n0_; have HB := n1_; clear n0_ n1_; (try clear hb); (try clear hb2); (try clear hk); (try clear hi); obtain ⟨hcz27_0, hfz27_0⟩ := bc_ BK406.out 0 rfl; obtain ⟨hcz27_1, hfz27_1⟩ := bc_ BK406.out 1 rfl; obtain ⟨hcz27_2, hfz27_2⟩ := bc_ BK406.out 2 rfl; obtain ⟨hcz27_3, hfz27_3⟩ := bc_ BK406.out 3 rfl; obtain ⟨hcz27_4, hfz27_4⟩ := bc_ BK406.out 4 rfl; obtain ⟨hcz27_5, hfz27_5⟩ := bc_ BK406.out 5 rfl) | ((with_reducible refine y0j (N := 5) rfl ?_); refine y0e ?hg (N := 5) ?hd (cs := #[.string (⟨#[]⟩ : ByteArray), .string (⟨#[]⟩ : ByteArray), .string (⟨#[]⟩ : ByteArray), .int .i64 0, .slice none 0 0, .slice none 0 0]) (t := 25) ?hr ?_; (case hd => rfl); (case hg => rfl); (case hr => first | (go_simp; done) | (go_simp; rfl)); intro gb409 hg w28 hbox hb; have n0_ := Aside0.mk (y06 (bk_ BK406.out) hb); have n1_ := Aside0.mk (y04 hb_ hb); have n2_ := Aside0.mk (hbox); have n3_ := Aside0.mk ((by rw [hg]; exact (y03 hb_) : w.heap.size ≤ gb409)); have n4_ := Aside0.mk ((by rw [hg]; exact (y03 hb_) : w.heap.size ≤ gb409)); have n5_ := Aside0.mk ((by rw [hg]; exact Nat.ne_of_lt (y0c (bk_ BK406.out)) : gb406 ≠ gb409)); have n6_ := Aside0.mk ((by rw [hg]; exact Nat.ne_of_gt (y0c (bk_ BK406.out)) : gb409 ≠ gb406)); clear BK406 HB; have BK406 := n0_; have HB := n1_; have BK409 := n2_; have GW409 := n3_; have GE409 := n4_; have NB406_409 := n5_; have NB409_406 := n6_; clear n0_ n1_ n2_ n3_ n4_ n5_ n6_; clear hb hbox hg; have hnb29 := NB409_406.out; have hnc29 := NB406_409.out; obtain ⟨hcz30_0, hfz30_0⟩ := bc_ BK409.out 0 rfl; obtain ⟨hcz30_1, hfz30_1⟩ := bc_ BK409.out 1 rfl; obtain ⟨hcz30_2, hfz30_2⟩ := bc_ BK409.out 2 rfl; obtain ⟨hcz30_3, hfz30_3⟩ := bc_ BK409.out 3 rfl; obtain ⟨hcz30_4, hfz30_4⟩ := bc_ BK409.out 4 rfl; obtain ⟨hcz30_5, hfz30_5⟩ := bc_ BK409.out 5 rfl) | ((with_reducible refine gate_store (t := 25) (p := 5) rfl ?_); refine store_event (t := 25) (p := 5) (v := ?vo_w31) (w1 := ((((((w28.setCell ⟨gb409, 0, none⟩ (.string a0_0)).setCell ⟨gb409, 1, none⟩ (.string a0_1)).setCell ⟨gb409, 2, none⟩ (.string a0_2)).setCell ⟨gb409, 3, none⟩ (.int .i64 a0_3)).setCell ⟨gb409, 4, none⟩ (.slice A0_4 l0_4.length c0_4)).setCell ⟨gb409, 5, none⟩ (.slice A0_5 l0_5.length c0_5))) ?hg ?ho ?hn ?hr ?_; (case ho => rfl); (case hg => rfl); (case hn => rfl); (case hr => first | (go_simp; done) | (go_simp; rfl)); intro w31 hw; have n0_ : Aside0 (w31.heap[gb406]? = some (.cells #[.string a0_0, .string a0_1, .string a0_2, .int .i64 a0_3, .slice A0_4 l0_4.length c0_4, .slice A0_5 l0_5.length c0_5] 25 (0, 0))) := ⟨(by rw [hw]; exact (by (with_reducible repeat (first | refine y09 ?_ _ | refine y08 ?_ | refine y05 ?_ _)); refine y0a ?_ NB406_409.out _; (with_reducible repeat (first | refine y09 ?_ _ | refine y08 ?_ | refine y05 ?_ _)); refine y0a ?_ NB406_409.out _; (with_reducible repeat (first | refine y09 ?_ _ | refine y08 ?_ | refine y05 ?_ _)); refine y0a ?_ NB406_409.out _; (with_reducible repeat (first | refine y09 ?_ _ | refine y08 ?_ | refine y05 ?_ _)); refine y0a ?_ NB406_409.out _; (with_reducible repeat (first | refine y09 ?_ _ | refine y08 ?_ | refine y05 ?_ _)); refine y0a ?_ NB406_409.out _; (with_reducible repeat (first | refine y09 ?_ _ | refine y08 ?_ | refine y05 ?_ _)); refine y0a ?_ NB406_409.out _; (with_reducible repeat (first | refine y09 ?_ _ | refine y08 ?_ | refine y05 ?_ _)); exact BK406.out))⟩; have n1_ : Aside0 (w31.heap[gb409]? = some (.cells #[.string a0_0, .string a0_1, .string a0_2, .int .i64 a0_3, .slice A0_4 l0_4.length c0_4, .slice A0_5 l0_5.length c0_5] 25 (0, 0))) := ⟨(by rw [hw]; exact (by (with_reducible repeat (first | refine y09 ?_ _ | refine y08 ?_ | refine y05 ?_ _)); refine y0d (cs := #[.string a0_0, .string a0_1, .string a0_2, .int .i64 a0_3, .slice A0_4 l0_4.length c0_4, .slice none 0 0]) ?_ 5 _ rfl; (with_reducible repeat (first | refine y09 ?_ _ | refine y08 ?_ | refine y05 ?_ _)); refine y0d (cs := #[.string a0_0, .string a0_1, .string a0_2, .int .i64 a0_3, .slice none 0 0, .slice none 0 0]) ?_ 4 _ rfl; (with_reducible repeat (first | refine y09 ?_ _ | refine y08 ?_ | refine y05 ?_ _)); refine y0d (cs := #[.string a0_0, .string a0_1, .string a0_2, .int .i64 0, .slice none 0 0, .slice none 0 0]) ?_ 3 _ rfl; (with_reducible repeat (first | refine y09 ?_ _ | refine y08 ?_ | refine y05 ?_ _)); refine y0d (cs := #[.string a0_0, .string a0_1, .string (⟨#[]⟩ : ByteArray), .int .i64 0, .slice none 0 0, .slice none 0 0]) ?_ 2 _ rfl; (with_reducible repeat (first | refine y09 ?_ _ | refine y08 ?_ | refine y05 ?_ _)); refine y0d (cs := #[.string a0_0, .string (⟨#[]⟩ : ByteArray), .string (⟨#[]⟩ : ByteArray), .int .i64 0, .slice none 0 0, .slice none 0 0]) ?_ 1 _ rfl; (with_reducible repeat (first | refine y09 ?_ _ | refine y08 ?_ | refine y05 ?_ _)); refine y0d (cs := #[.string (⟨#[]⟩ : ByteArray), .string (⟨#[]⟩ : ByteArray), .string (⟨#[]⟩ : ByteArray), .int .i64 0, .slice none 0 0, .slice none 0 0]) ?_ 0 _ rfl; (with_reducible repeat (first | refine y09 ?_ _ | refine y08 ?_ | refine y05 ?_ _)); exact BK409.out))⟩; have n2_ : Aside0 (Below w.heap.size w w31) := ⟨(by rw [hw]; exact hb_)⟩; clear hw BK406 BK409 HB; have BK406 := n0_; have BK409 := n1_; have HB := n2_; clear n0_ n1_ n2_; obtain ⟨hcz32_0, hfz32_0⟩ := bc_ BK409.out 0 rfl; obtain ⟨hcz32_1, hfz32_1⟩ := bc_ BK409.out 1 rfl; obtain ⟨hcz32_2, hfz32_2⟩ := bc_ BK409.out 2 rfl; obtain ⟨hcz32_3, hfz32_3⟩ := bc_ BK409.out 3 rfl; obtain ⟨hcz32_4, hfz32_4⟩ := bc_ BK409.out 4 rfl; obtain ⟨hcz32_5, hfz32_5⟩ := bc_ BK409.out 5 rfl; have q33 : ((ji7) : Int) ≤ ((l0_4.length : Int) : Int) := oa_; obtain ⟨i033, hi033, _, hsz33, _⟩ := info_parts info62; have hroom33 : l0_4.length ≤ c0_4 := HC0_4.out; have hC33 : Kd.C k62 _ A0_4 l0_4.length l0_4 := HR0_4.out; have hcut33 := cut_to (P := Try.prog) 22 62 .i64 Try.underlying22 hi033 A0_4 l0_4.length c0_4 (ji7) (oa_) q33 hroom33; have hr33 := Kd.C_take (m := ((ji7) : Int).toNat) hC33 (by omega); have hy33 : y410.length = ((ji7) : Int).toNat := (by rw [Ny410.out, List.length_take]; omega); rw [← Ny410.out] at hr33; rw [← hy33] at hcut33; have HR413 := Aside0.mk hr33; have HC413 := Aside0.mk (show y410.length ≤ c0_4 from by omega); clear hr33 hC33 hroom33 hi033 hsz33; have KY33 := Aside0.mk hy33; clear hy33; replace q33 := eq_true q33))
             have n0_ : Aside0 ((w31.setCell ⟨gb409, 4, none⟩ (.slice A0_4 y410.length c0_4)).heap[gb406]? = some (.cells #[.string a0_0, .string a0_1, .string a0_2, .int .i64 a0_3, .slice A0_4 l0_4.length c0_4, .slice A0_5 l0_5.length c0_5] 25 (0, 0))) := ⟨by (with_reducible repeat (first | refine y09 ?_ _ | refine y08 ?_ | refine y05 ?_ _)); refine y0a ?_ NB406_409.out _; (with_reducible repeat (first | refine y09 ?_ _ | refine y08 ?_ | refine y05 ?_ _)); exact BK406.out⟩
             have n1_ : Aside0 ((w31.setCell ⟨gb409, 4, none⟩ (.slice A0_4 y410.length c0_4)).heap[gb409]? = some (.cells #[.string a0_0, .string a0_1, .string a0_2, .int .i64 a0_3, .slice A0_4 y410.length c0_4, .slice A0_5 l0_5.length c0_5] 25 (0, 0))) := ⟨by (with_reducible repeat (first | refine y09 ?_ _ | refine y08 ?_ | refine y05 ?_ _)); refine y0d (cs := #[.string a0_0, .string a0_1, .string a0_2, .int .i64 a0_3, .slice A0_4 l0_4.length c0_4, .slice A0_5 l0_5.length c0_5]) ?_ 4 _ rfl; (with_reducible repeat (first | refine y09 ?_ _ | refine y08 ?_ | refine y05 ?_ _)); exact BK409.out⟩
             have n2_ : Aside0 (Below w.heap.size w (w31.setCell ⟨gb409, 4, none⟩ (.slice A0_4 y410.length c0_4))) := ⟨hb_⟩
             (try clear BK406); (try clear BK409); (try clear HB)
             (try (have hck_w34 : ((w31.setCell ⟨gb409, 4, none⟩ (.slice A0_4 y410.length c0_4))).cell? ⟨gb409, 4, none⟩ = some (.slice A0_4 y410.length c0_4) := World.cell?_setCell_same _ _ _ (by assumption)))
             (first | generalize (w31.setCell ⟨gb409, 4, none⟩ (.slice A0_4 y410.length c0_4)) = w34 at n0_ n1_ n2_ hck_w34 ⊢ | generalize (w31.setCell ⟨gb409, 4, none⟩ (.slice A0_4 y410.length c0_4)) = w34 at n0_ n1_ n2_ ⊢)
             have BK406 := n0_; have BK409 := n1_; have HB := n2_
             clear n0_ n1_ n2_
             have n0_ := Aside0.mk (y08 BK406.out)
             have n1_ := Aside0.mk (y08 BK409.out)
             have n2_ := Aside0.mk (y01 HB.out)
             clear BK406 BK409 HB
             have BK406 := n0_; have BK409 := n1_; have HB := n2_
             clear n0_ n1_ n2_
             have q36 : ((ji11) : Int) ≤ ((l0_5.length : Int) : Int) := oa_
             obtain ⟨i036, hi036, _, hsz36, _⟩ := info_parts info43
             have hroom36 : l0_5.length ≤ c0_5 := HC0_5.out
             have hC36 : Kd.C k43 _ A0_5 l0_5.length l0_5 := HR0_5.out
             have hcut36 := cut_to (P := Try.prog) 23 43 .i64 Try.underlying23 hi036 A0_5 l0_5.length c0_5 (ji11) (oa_) q36 hroom36
             have hr36 := Kd.C_take (m := ((ji11) : Int).toNat) hC36 (by omega)
             have hy36 : y417.length = ((ji11) : Int).toNat := (by rw [Ny417.out, List.length_take]; omega)
             rw [← Ny417.out] at hr36
             rw [← hy36] at hcut36
             have HR420 := Aside0.mk hr36
             have HC420 := Aside0.mk (show y417.length ≤ c0_5 from by omega)
             clear hr36 hC36 hroom36 hi036 hsz36
             have KY36 := Aside0.mk hy36
             clear hy36
             replace q36 := eq_true q36
             have q37 : ((ji15) : Int) ≤ ((l0_5.length : Int) : Int) := oa_
             obtain ⟨i037, hi037, _, hsz37, _⟩ := info_parts info43
             have hroom37 : l0_5.length ≤ c0_5 := HC0_5.out
             have hC37 : Kd.C k43 _ A0_5 l0_5.length l0_5 := HR0_5.out
             have q037 : (0 : Int) ≤ ((ji15) : Int) := oa_
             have hcut37 := cut_from (P := Try.prog) 23 43 .i64 Try.underlying23 hi037 5 hsz37 A0_5 l0_5.length c0_5 (ji15) q037 q37
             have hr37 := Kd.C_drop (m := ((ji15) : Int).toNat) (c := c0_5) hC37 (by omega) hroom37
             obtain ⟨A37, hA37⟩ : ∃ A1, A1 = (if c0_5 = ((ji15) : Int).toNat then A0_5 else (A0_5 : Option Addr).map (·.add (((ji15) : Int).toNat * 5))) := ⟨_, rfl⟩
             obtain ⟨c37, hc37⟩ : ∃ c1, c1 = c0_5 - ((ji15) : Int).toNat := ⟨_, rfl⟩
             have hy37 : y424.length = l0_5.length - ((ji15) : Int).toNat := (by rw [Ny424.out, List.length_drop] <;> omega)
             rw [show (l0_5).drop ((ji15) : Int).toNat = y424 from Ny424.out.symm] at hr37
             replace hr37 : Kd.C k43 _ A37 y424.length y424 := (by rw [hA37]; exact hr37)
             rw [← hy37, ← hA37, ← hc37] at hcut37
             have HR427 := Aside0.mk hr37
             have HC427 := Aside0.mk (show y424.length ≤ c37 from by rw [hy37, hc37]; exact Nat.sub_le_sub_right hroom37 _)
             clear hr37 hC37 hroom37 hi037 hsz37 hc37
             have KY37 := Aside0.mk hy37
             have KA37 := Aside0.mk hA37
             clear hy37 hA37
             replace q37 := eq_true q37
             refine start_ (n := 14) (S := fun w' => w'.cell? ⟨gb409, 0, none⟩ = some (.string a0_0) ∧ w'.cell? ⟨gb409, 1, none⟩ = some (.string a0_1) ∧ w'.cell? ⟨gb409, 2, none⟩ = some (.string a0_2) ∧ w'.cell? ⟨gb409, 3, none⟩ = some (.int .i64 a0_3) ∧ w'.cell? ⟨gb409, 4, none⟩ = some (.slice A0_4 y410.length c0_4) ∧ w'.cell? ⟨gb409, 5, none⟩ = some (.slice A0_5 l0_5.length c0_5)) (ds := [13]) #[false, false, false, false, false, false, false, false, false, false, false, false, false, false] (by kernel_rfl) rfl rfl ⟨(y07 BK409.out 0).trans rfl, (y07 BK409.out 1).trans rfl, (y07 BK409.out 2).trans rfl, (y07 BK409.out 3).trans rfl, (y07 BK409.out 4).trans rfl, (y07 BK409.out 5).trans rfl⟩ (fun hHeld => ?_); refine with_tabW zq2.tab8 zq2.bits8 (fun HT_ HW_ => ?_)
             generalize w34.drew = w35 at BK406 BK409 HB HR420 HR427 hHeld ⊢
             refine pu_ 1 (some 47) (fl 14 2) rfl rfl HT_ ?_
             refine pu_ 3 (some 49) (fl 14 10) rfl rfl HT_ ?_
             refine pu_ 6 (some 52) (fl 14 74) rfl rfl HT_ ?_
             refine pu_ 8 (some 54) (fl 14 330) rfl rfl HT_ ?_
             refine pu_ 9 (some 55) (fl 14 842) rfl rfl HT_ ?_
             refine ta_ 2 (some 48) (fl 14 846) rfl rfl HT_ HW_ hHeld ?_
             refine pu_ 4 (some 50) (fl 14 862) rfl rfl HT_ ?_
             refine ta_ 7 (some 53) (fl 14 990) rfl rfl HT_ HW_ hHeld ?_
             refine pu_ 10 (some 56) (fl 14 2014) rfl rfl HT_ ?_
             refine one_ (i := 0) (N := some 46) (fl 14 2015) rfl rfl (one_of HT_.out (by kernel_rfl)) (by decide) (fun K hK => ?_)
             refine Kd.R_lit_step k43 _ 43 ?hg (N := 46) ?hd (xs := ([] : List (S43))) (inner := []) (ok := fun _ => True) (okp := fun _ => True) ?hr ?hp (fun _ hk => hk) trivial (Below.refl _ _) (Nat.le_refl _) (by simp) ?_; (case hd => rfl); (case hg => rfl); (case hr => first | (go_simp; done) | (go_simp; rfl)); (case hp => exact (Reps.none _ _))
             intro v415 w38 ho39 hb hg_ hnew_
             clear hg_ hnew_
             (first | rw [← Ny414.out] at ho39 | (simp only [Int.reduceToNat] at ho39; rw [← Ny414.out] at ho39))
             have n0_ := Aside0.mk (Kd.R_lower ho39 (y03 hb_))
             have n1_ := Aside0.mk (y06 (bk_ BK406.out) hb)
             have n2_ := Aside0.mk (y06 (bk_ BK409.out) hb)
             have n3_ := Aside0.mk (y04 hb_ hb)
             clear BK406 BK409 HB
             have HO416 := n0_; have BK406 := n1_; have BK409 := n2_; have HB := n3_
             clear n0_ n1_ n2_ n3_ hb ho39
             refine hK.out _ _ ⟨(y07 BK409.out 0).trans rfl, (y07 BK409.out 1).trans rfl, (y07 BK409.out 2).trans rfl, (y07 BK409.out 3).trans rfl, (y07 BK409.out 4).trans rfl, (y07 BK409.out 5).trans rfl⟩ (fun hHeld => ?_)
             clear hK K
             refine no_ (N := some 46) ?_
             refine one_ (i := 5) (N := some 51) (fl 14 2047) rfl rfl (one_of HT_.out (by kernel_rfl)) (by decide) (fun K hK => ?_)
             refine Kd.R_append_rows_step k43 (w0 := w) w.heap.size (by rfl) (.tmp 46) (.tmp 50) 23 43 (.agg #[(.int .i64 0), (.int .i64 0), (.int .i64 0), (.string ⟨#[]⟩), (.bool false)]) 48 rfl Try.underlying23 info43 rfl (by decide) (by omega) v415 y414 y417 _ _ _ (fun _ => True) (fun _ => False) rfl rfl ?aO ?aR (fun _ _ h => h) (fun _ h => h.elim) ?aF ?aB ?aS ?aL ?_
             (case aR => repeat (first | exact (Kd.C_below HR420.out HB.out) | (with_reducible refine Kd.C_alloc ?_ _) | (with_reducible refine Kd.C_drewN ?_ _) | (with_reducible refine Kd.C_drew ?_)))
             (case aB => exact hb_)
             (case aF => exact (fun _ _ => trivial))
             (case aO => exact (rk_ HO416.out))
             (case aS => exact (y03 hb_))
             (case aL => have := LMc14.out; omega)
             intro v422 w40 ho hb hg hat
             rw [← Ny421.out] at ho
             have n0_ := Aside0.mk (blk_grown (bk_ BK406.out) hg (Kd.R_ne HO416.out BK406.out (by decide)))
             have n1_ := Aside0.mk (blk_grown (bk_ BK409.out) hg (Kd.R_ne HO416.out BK409.out (by decide)))
             have n2_ := Aside0.mk (hb)
             have n3_ := Aside0.mk (ho)
             clear BK406 BK409 HB HO416
             have BK406 := n0_; have BK409 := n1_; have HB := n2_; have HO423 := n3_
             clear n0_ n1_ n2_ n3_ ho hb hg hat
             refine hK.out _ _ ⟨(y07 BK409.out 0).trans rfl, (y07 BK409.out 1).trans rfl, (y07 BK409.out 2).trans rfl, (y07 BK409.out 3).trans rfl, (y07 BK409.out 4).trans rfl, (y07 BK409.out 5).trans rfl⟩ (fun hHeld => ?_)
             clear hK K
             refine no_ (N := some 51) ?_
             refine one_ (i := 11) (N := some 57) (fl 14 4095) rfl rfl (one_of HT_.out (by kernel_rfl)) (by decide) (fun K hK => ?_)
             refine Kd.R_append_rows_step k43 (w0 := w) w.heap.size (by rfl) (.tmp 51) (.tmp 56) 23 43 (.agg #[(.int .i64 0), (.int .i64 0), (.int .i64 0), (.string ⟨#[]⟩), (.bool false)]) 48 rfl Try.underlying23 info43 rfl (by decide) (by omega) v422 y421 y424 _ _ _ (fun _ => True) (fun _ => False) rfl rfl ?aO ?aR (fun _ _ h => h) (fun _ h => h.elim) ?aF ?aB ?aS ?aL ?_
             (case aR => repeat (first | exact (Kd.C_below HR427.out HB.out) | (with_reducible refine Kd.C_alloc ?_ _) | (with_reducible refine Kd.C_drewN ?_ _) | (with_reducible refine Kd.C_drew ?_)))
             (case aB => exact hb_)
             (case aF => exact (fun _ _ => trivial))
             (case aO => exact (rk_ HO423.out))
             (case aS => exact (y03 hb_))
             (case aL => have := LMc18.out; omega)
             intro v429 w41 ho hb hg hat
             rw [← Ny428.out] at ho
             have n0_ := Aside0.mk (blk_grown (bk_ BK406.out) hg (Kd.R_ne HO423.out BK406.out (by decide)))
             have n1_ := Aside0.mk (blk_grown (bk_ BK409.out) hg (Kd.R_ne HO423.out BK409.out (by decide)))
             have n2_ := Aside0.mk (hb)
             have n3_ := Aside0.mk (ho)
             clear BK406 BK409 HB HO423
             have BK406 := n0_; have BK409 := n1_; have HB := n2_; have HO430 := n3_
             clear n0_ n1_ n2_ n3_ ho hb hg hat
             obtain ⟨Ao42, co42, eo42⟩ := Kd.R_slice HO430.out
             (first | subst eo42 | (injection eo42 with f1_ f2_ f3_; have f4_ := f1_.symm; have f5_ := f3_.symm; clear f1_ f2_ f3_; subst f4_; subst f5_))
             refine hK.out _ _ ⟨(y07 BK409.out 0).trans rfl, (y07 BK409.out 1).trans rfl, (y07 BK409.out 2).trans rfl, (y07 BK409.out 3).trans rfl, (y07 BK409.out 4).trans rfl, (y07 BK409.out 5).trans rfl⟩ (fun hHeld => ?_)
             clear hK K
             refine no_ (N := some 57) ?_
             refine pu_ 12 (some 58) (fl 14 8191) rfl rfl HT_ ?_
             refine last_ (i := 13) (N := none) (fl 14 16383) rfl rfl (one_of HT_.out (by kernel_rfl)) (by decide) (fun K hK => ?_)
             have hs43 : w41.cell? ⟨gb409, 5, none⟩ = some (.slice A0_5 l0_5.length c0_5) := (y07 BK409.out 5).trans rfl
             have hfs43 := y0b BK409.out 5
             have hns43_0 := NB406_409.out
             have hms43_0 := NB409_406.out
             refine skip_ (w1 := ?_) (by rfl) rfl ?_ ?_
             rotate_left
             ·go_simp
              rfl
             refine hK.out _ _ ?_
             clear hK K
             refine done_ (done_of HT_.out (by kernel_rfl)) ?_
             obtain ⟨hcz44_0, hfz44_0⟩ := bc_ BK409.out 0 rfl
             obtain ⟨hcz44_1, hfz44_1⟩ := bc_ BK409.out 1 rfl
             obtain ⟨hcz44_2, hfz44_2⟩ := bc_ BK409.out 2 rfl
             obtain ⟨hcz44_3, hfz44_3⟩ := bc_ BK409.out 3 rfl
             obtain ⟨hcz44_4, hfz44_4⟩ := bc_ BK409.out 4 rfl
             obtain ⟨hcz44_5, hfz44_5⟩ := bc_ BK409.out 5 rfl
             try go_wp2_with (first | ((with_reducible refine y0i (f := 18) rfl ?_); refine goesL_ (some 60) rfl rfl Try.func18 (by kernel_rfl) rfl #[.agg #[.string a0_0, .string a0_1, .string a0_2, .int .i64 a0_3, .slice A0_4 y410.length c0_4, .slice Ao42 y428.length co42]] rfl ar_ ?_; (with_reducible refine (zqo.calls k a0_0 a0_1 a0_2 a0_3 _ _ y410 _ _ y428 t431 _ ?side1 ?side2 ?side3 ?side4 A19.out).mono ?_); (case side1 => exact Kd.C_below HR413.out hb_); (case side2 => exact HC413.out); (case side3 => refine (Kd.R_reads' (e := 43) (base := w.heap.size) (ok := fun k_ => True) (n := y428.length) (c := co42) ?_).2.2; exact (by (with_reducible repeat (first | apply Kd.R_alloc | apply Kd.R_drewN | apply Kd.R_drew)); exact (Kd.R_mono (Kd.R_far (p := ⟨gb409, 5, none⟩) (Kd.R_types HO430.out BK409.out (by decide)) (fun _ hk => hk.2) (.slice Ao42 y428.length co42)) (fun _ h_ => h_.1)))); (case side4 => exact (Kd.R_reads' HO430.out).2.1); rintro e w45 ⟨rfl, hb⟩; refine ⟨_, rfl, ?_⟩; have n0_ := Aside0.mk (Kd.R_below (by (with_reducible repeat (first | apply Kd.R_alloc | apply Kd.R_drewN | apply Kd.R_drew)); exact (Kd.R_mono (Kd.R_far (p := ⟨gb409, 5, none⟩) (Kd.R_types HO430.out BK409.out (by decide)) (fun _ hk => hk.2) (.slice Ao42 y428.length co42)) (fun _ h_ => h_.1))) hb); have n1_ := Aside0.mk (y06 (g := gb406) (o := .cells #[.string a0_0, .string a0_1, .string a0_2, .int .i64 a0_3, .slice A0_4 l0_4.length c0_4, .slice A0_5 l0_5.length c0_5] 25 (0, 0)) (by (with_reducible repeat (first | refine y09 ?_ _ | refine y08 ?_ | refine y05 ?_ _)); refine y0a ?_ NB406_409.out _; (with_reducible repeat (first | refine y09 ?_ _ | refine y08 ?_ | refine y05 ?_ _)); exact BK406.out) hb); have n2_ := Aside0.mk (y06 (g := gb409) (o := .cells #[.string a0_0, .string a0_1, .string a0_2, .int .i64 a0_3, .slice A0_4 y410.length c0_4, .slice Ao42 y428.length co42] 25 (0, 0)) (by (with_reducible repeat (first | refine y09 ?_ _ | refine y08 ?_ | refine y05 ?_ _)); refine y0d (cs := #[.string a0_0, .string a0_1, .string a0_2, .int .i64 a0_3, .slice A0_4 y410.length c0_4, .slice A0_5 l0_5.length c0_5]) ?_ 5 _ rfl; (with_reducible repeat (first | refine y09 ?_ _ | refine y08 ?_ | refine y05 ?_ _)); exact BK409.out) hb); have n3_ := Aside0.mk (y04 hb_ hb); clear HO430 BK406 BK409 HB; have HO430 := n0_; have BK406 := n1_; have BK409 := n2_; have HB := n3_; clear n0_ n1_ n2_ n3_; (try clear hb); (try clear hb2); (try clear hk); (try clear hi); obtain ⟨hcz46_0, hfz46_0⟩ := bc_ BK406.out 0 rfl; obtain ⟨hcz46_1, hfz46_1⟩ := bc_ BK406.out 1 rfl; obtain ⟨hcz46_2, hfz46_2⟩ := bc_ BK406.out 2 rfl; obtain ⟨hcz46_3, hfz46_3⟩ := bc_ BK406.out 3 rfl; obtain ⟨hcz46_4, hfz46_4⟩ := bc_ BK406.out 4 rfl; obtain ⟨hcz46_5, hfz46_5⟩ := bc_ BK406.out 5 rfl) | ((with_reducible refine y0i (f := 27) rfl ?_); refine goesL_ (some 63) rfl rfl Try.func27 (by kernel_rfl) rfl #[.agg #[.string a0_0, .string a0_1, .string a0_2, .int .i64 a0_3, .slice A0_4 l0_4.length c0_4, .slice A0_5 l0_5.length c0_5]] rfl ar_ ?_; (with_reducible refine (zqp.calls k a0_0 a0_1 a0_2 a0_3 _ _ l0_4 _ _ l0_5 t432 _ ?side1 ?side2 ?side3 ?side4 A21.out).mono ?_); (case side1 => repeat (first | exact (Kd.C_below HR0_4.out HB.out) | (with_reducible refine Kd.C_alloc ?_ _) | (with_reducible refine Kd.C_drewN ?_ _) | (with_reducible refine Kd.C_drew ?_))); (case side2 => exact HC0_4.out); (case side3 => repeat (first | exact (Kd.C_below HR0_5.out HB.out) | (with_reducible refine Kd.C_alloc ?_ _) | (with_reducible refine Kd.C_drewN ?_ _) | (with_reducible refine Kd.C_drew ?_))); (case side4 => exact HC0_5.out); rintro e w47 ⟨v433, rfl, ho0, hb⟩; refine ⟨_, rfl, ?_⟩; have n0_ := Aside0.mk (Kd.R_below (rk_ HO430.out) hb); have n1_ := Aside0.mk (Kd.R_lower ho0 (y03 hb_)); have n2_ := Aside0.mk (y06 (bk_ BK406.out) hb); have n3_ := Aside0.mk (y06 (bk_ BK409.out) hb); have n4_ := Aside0.mk (y04 hb_ hb); clear HO430 BK406 BK409 HB; have HO430 := n0_; have HO434 := n1_; have BK406 := n2_; have BK409 := n3_; have HB := n4_; clear n0_ n1_ n2_ n3_ n4_; (try clear hb); (try clear hb2); (try clear hk); (try clear hi); (try clear ho0)))
             go_loopg [8] k (fun kq v8 w' => ∃ (x8_1 : Int), v8 = .int .i64 x8_1 ∧ Aside0 (zq2.l0 kq t432 x8_1 a0_0 a0_1 a0_2 a0_3 l0_4 l0_5 = some r) ∧ Aside0 (kq ≤ k) ∧ Aside0 (Kd.R Kd.string 9 w' w.heap.size (fun _ => True) v433 t432) ∧ Aside0 (Kd.R k43 43 w' w.heap.size (fun _ => True) (.slice Ao42 y428.length co42) y428) ∧ Aside0 (w'.heap[gb406]? = some (.cells #[.string a0_0, .string a0_1, .string a0_2, .int .i64 a0_3, (.slice A0_4 l0_4.length c0_4), (.slice A0_5 l0_5.length c0_5)] 25 (0, 0))) ∧ Aside0 (w'.heap[gb409]? = some (.cells #[.string a0_0, .string a0_1, .string a0_2, .int .i64 a0_3, (.slice A0_4 y410.length c0_4), (.slice Ao42 y428.length co42)] 25 (0, 0))) ∧ Aside0 (Below w.heap.size w w'))
             case atStart => exact ⟨(1), cl_, H', ⟨Nat.le_refl _⟩, ⟨rk_ HO434.out⟩, ⟨rk_ HO430.out⟩, ⟨bk_ BK406.out⟩, ⟨bk_ BK409.out⟩, ⟨hb_⟩⟩
             case round =>
              clear H'
              (try clear c1); (try clear c2); (try clear p2); (try clear c3); (try clear q3); (try clear c4); (try clear c6); (try clear c6b0); (try clear c6b1); (try clear p6); (try clear c8); (try clear c8b0); (try clear c8b1); (try clear c9); (try clear c9b0); (try clear c9b1); (try clear c10); (try clear c10b0); (try clear c10b1); (try clear c10b2); (try clear c12); (try clear c12b0); (try clear c12b1); (try clear c13); (try clear c13b0); (try clear c13b1); (try clear c14); (try clear c16); (try clear c16b0); (try clear c16b1); (try clear c17); (try clear c17b0); (try clear c17b1); (try clear c18); (try clear c20); (try clear c20b0); (try clear c20b1); (try clear c27); (try clear c29); (try clear q33); (try clear q36); (try clear c37); (try clear q37); (try clear hcz23_0); (try clear hcz23_1); (try clear hcz23_2); (try clear hcz23_3); (try clear hcz23_4); (try clear hcz23_5); (try clear hcz25_0); (try clear hcz25_1); (try clear hcz25_2); (try clear hcz25_3); (try clear hcz25_4); (try clear hcz25_5); (try clear hcz27_0); (try clear hcz27_1); (try clear hcz27_2); (try clear hcz27_3); (try clear hcz27_4); (try clear hcz27_5); (try clear hcz30_0); (try clear hcz30_1); (try clear hcz30_2); (try clear hcz30_3); (try clear hcz30_4); (try clear hcz30_5); (try clear hcz32_0); (try clear hcz32_1); (try clear hcz32_2); (try clear hcz32_3); (try clear hcz32_4); (try clear hcz32_5); (try clear hcz44_0); (try clear hcz44_1); (try clear hcz44_2); (try clear hcz44_3); (try clear hcz44_4); (try clear hcz44_5); (try clear hcz46_0); (try clear hcz46_1); (try clear hcz46_2); (try clear hcz46_3); (try clear hcz46_4); (try clear hcz46_5); (try clear hfz23_0); (try clear hfz23_1); (try clear hfz23_2); (try clear hfz23_3); (try clear hfz23_4); (try clear hfz23_5); (try clear hfz25_0); (try clear hfz25_1); (try clear hfz25_2); (try clear hfz25_3); (try clear hfz25_4); (try clear hfz25_5); (try clear hfz27_0); (try clear hfz27_1); (try clear hfz27_2); (try clear hfz27_3); (try clear hfz27_4); (try clear hfz27_5); (try clear hfz30_0); (try clear hfz30_1); (try clear hfz30_2); (try clear hfz30_3); (try clear hfz30_4); (try clear hfz30_5); (try clear hfz32_0); (try clear hfz32_1); (try clear hfz32_2); (try clear hfz32_3); (try clear hfz32_4); (try clear hfz32_5); (try clear hfz44_0); (try clear hfz44_1); (try clear hfz44_2); (try clear hfz44_3); (try clear hfz44_4); (try clear hfz44_5); (try clear hfz46_0); (try clear hfz46_1); (try clear hfz46_2); (try clear hfz46_3); (try clear hfz46_4); (try clear hfz46_5); (try clear q037); (try clear q33); (try clear q36); (try clear q37)
              obtain ⟨x8_1, rfl, HA, HK1, HO_7, HO_410005, BK406, BK409, HB⟩ := hrel
              cases gk with
              | zero => exact absurd HA.out (by simp [zq2.l0])
              | succ k1 =>
               have H := HA.out
               clear HA
               simp only [zq2.l0] at H
               by_cases c48 : x8_1 < (t432.length : Int)
               ·rw [if_pos c48] at H
                have c48b0 : decide (x8_1 < (t432.length : Int)) = true := decide_eq_true c48
                clear c48
                obtain ⟨ji49, hji49⟩ : ∃ j_ : Int, (wrap64 (x8_1 - 1)) = j_ := ⟨_, rfl⟩
                replace H : (if 0 ≤ (ji49) then (if (ji49) < (t432.length : Int) then (if 0 ≤ x8_1 then (if ((Op.bytesLess ((rdOf ByteArray.empty t432 (ji49)).toList) ((rdOf ByteArray.empty t432 x8_1).toList)) = true) then (zq2.l0 k1 t432 (wrap64 (x8_1 + 1)) a0_0 a0_1 a0_2 a0_3 l0_4 l0_5) else (none)) else (none)) else (none)) else (none)) = some r := by first | (rw [hji49] at H; exact H) | (simp only [hji49] at H ⊢; exact H)
                have hji49w : (IntKind.i64.wrap (x8_1 - 1)) = ji49 := (i64_w _).trans hji49
                by_cases c50 : 0 ≤ (ji49)
                ·rw [if_pos c50] at H
                 have c50b0 : decide (0 ≤ (ji49)) = true := decide_eq_true c50
                 clear c50
                 by_cases c51 : (ji49) < (t432.length : Int)
                 ·rw [if_pos c51] at H
                  have c51b0 : decide ((ji49) < (t432.length : Int)) = true := decide_eq_true c51
                  clear c51
                  by_cases c52 : 0 ≤ x8_1
                  ·rw [if_pos c52] at H
                   have c52b0 : decide (0 ≤ x8_1) = true := decide_eq_true c52
                   clear c52
                   by_cases c53 : ((Op.bytesLess ((rdOf ByteArray.empty t432 (ji49)).toList) ((rdOf ByteArray.empty t432 x8_1).toList)) = true)
                   ·rw [if_pos c53] at H
                    have c53b0 : (Op.bytesLess ((rdOf ByteArray.empty t432 (ji49)).toList) ((rdOf ByteArray.empty t432 x8_1).toList)) = true := c53
                    clear c53
                    have H' := Aside0.mk H
                    clear H
                    obtain ⟨Ao54, co54, eo54⟩ := Kd.R_slice HO_7.out
                    subst eo54
                    try go_wp2
                    have n0_ := Aside0.mk (Kd.R_drew HO_7.out)
                    have n1_ := Aside0.mk (Kd.R_drew HO_410005.out)
                    have n2_ := Aside0.mk (y08 BK406.out)
                    have n3_ := Aside0.mk (y08 BK409.out)
                    have n4_ := Aside0.mk (y01 HB.out)
                    clear HO_7 HO_410005 BK406 BK409 HB
                    have HO_7 := n0_; have HO_410005 := n1_; have BK406 := n2_; have BK409 := n3_; have HB := n4_
                    clear n0_ n1_ n2_ n3_ n4_
                    have p435 : 0 ≤ ((ji49) : Int) := oa_
                    have q435 : (ji49) < (t432.length : Int) := oa_
                    obtain ⟨ad435, e435, hx435_0⟩ := Kd.at_string (Kd.R_reads' HO_7.out).2.2 (ji49) p435 q435
                    cases e435
                    replace p435 := eq_true p435
                    replace q435 := eq_true q435
                    have p436 : 0 ≤ (x8_1 : Int) := oa_
                    have q436 : x8_1 < (t432.length : Int) := oa_
                    obtain ⟨ad436, e436, hx436_0⟩ := Kd.at_string (Kd.R_reads' HO_7.out).2.2 x8_1 p436 q436
                    obtain rfl : ad435 = ad436 := (by injection e436)
                    replace p436 := eq_true p436
                    replace q436 := eq_true q436
                    refine start_ (n := 10) (S := fun w' => w'.cell? (ad435.add ((ji49)).toNat) = some (.string (rdOf ByteArray.empty t432 (ji49))) ∧ w'.cell? (ad435.add (x8_1).toNat) = some (.string (rdOf ByteArray.empty t432 x8_1))) (ds := []) #[false, false, false, false, false, false, false, false, false, false] (by kernel_rfl) rfl rfl ⟨hx435_0, hx436_0⟩ (fun hHeld => ?_); refine with_tabW zq2.tab15 zq2.bits15 (fun HT_ HW_ => ?_)
                    generalize wr.drew = w55 at HO_7 HO_410005 BK406 BK409 HB hx435_0 hx436_0 hHeld ⊢
                    refine pu_ 0 (some 70) (fl 10 1) rfl rfl HT_ ?_
                    refine pu_ 1 (some 71) (fl 10 3) rfl rfl HT_ ?_
                    refine pu_ 2 (some 72) (fl 10 7) rfl rfl HT_ ?_
                    refine pu_ 3 (some 73) (fl 10 15) rfl rfl HT_ ?_
                    refine pu_ 5 (some 75) (fl 10 47) rfl rfl HT_ ?_
                    refine pu_ 6 (some 76) (fl 10 111) rfl rfl HT_ ?_
                    refine pu_ 7 (some 77) (fl 10 239) rfl rfl HT_ ?_
                    refine ta_ 4 (some 74) (fl 10 255) rfl rfl HT_ HW_ hHeld ?_
                    refine ta_ 8 (some 78) (fl 10 511) rfl rfl HT_ HW_ hHeld ?_
                    refine pu_ 9 (some 79) (fl 10 1023) rfl rfl HT_ ?_
                    refine done_ (done_of HT_.out (by kernel_rfl)) ?_
                    try go_wp2
                    go_roundg k1
                    case measure => have := HK1.out; omega
                    case rel => exact ⟨(wrap64 (x8_1 + 1)), cl_, H', ⟨by have := HK1.out; omega⟩, ⟨rk_ HO_7.out⟩, ⟨rk_ HO_410005.out⟩, ⟨bk_ BK406.out⟩, ⟨bk_ BK409.out⟩, ⟨hb_⟩⟩
                   ·rw [if_neg c53] at H
                    exact absurd H (by simp)
                  ·rw [if_neg c52] at H
                   exact absurd H (by simp)
                 ·rw [if_neg c51] at H
                  exact absurd H (by simp)
                ·rw [if_neg c50] at H
                 exact absurd H (by simp)
               ·rw [if_neg c48] at H
                have c48b0 : decide (x8_1 < (t432.length : Int)) = false := decide_eq_false c48
                clear c48
                have H' := Aside0.mk H
                clear H
                obtain ⟨Ao56, co56, eo56⟩ := Kd.R_slice HO_7.out
                subst eo56
                have hnb57 := NB406_409.out
                have hnc57 := NB409_406.out
                obtain ⟨hcz58_0, hfz58_0⟩ := bc_ BK406.out 0 rfl
                obtain ⟨hcz58_1, hfz58_1⟩ := bc_ BK406.out 1 rfl
                obtain ⟨hcz58_2, hfz58_2⟩ := bc_ BK406.out 2 rfl
                obtain ⟨hcz58_3, hfz58_3⟩ := bc_ BK406.out 3 rfl
                obtain ⟨hcz58_4, hfz58_4⟩ := bc_ BK406.out 4 rfl
                obtain ⟨hcz58_5, hfz58_5⟩ := bc_ BK406.out 5 rfl
                go_wp2
                go_loopg [83] k1 (fun kq v83 w' => ∃ (x83_2 : Int), v83 = .int .i64 x83_2 ∧ Aside0 (zq2.l1 kq t432 l0_5 (l0_5.length : Int) x83_2 = some r) ∧ Aside0 (kq ≤ k1) ∧ Aside0 (Kd.R Kd.string 9 w' w.heap.size (fun _ => True) (.slice Ao56 t432.length co56) t432) ∧ Aside0 (Kd.R k43 43 w' w.heap.size (fun _ => True) (.slice Ao42 y428.length co42) y428) ∧ Aside0 (w'.heap[gb406]? = some (.cells #[.string a0_0, .string a0_1, .string a0_2, .int .i64 a0_3, (.slice A0_4 l0_4.length c0_4), (.slice A0_5 l0_5.length c0_5)] 25 (0, 0))) ∧ Aside0 (w'.heap[gb409]? = some (.cells #[.string a0_0, .string a0_1, .string a0_2, .int .i64 a0_3, (.slice A0_4 y410.length c0_4), (.slice Ao42 y428.length co42)] 25 (0, 0))) ∧ Aside0 (Below w.heap.size w w'))
                case atStart => exact ⟨(0), cl_, H', ⟨Nat.le_refl _⟩, ⟨rk_ HO_7.out⟩, ⟨rk_ HO_410005.out⟩, ⟨bk_ BK406.out⟩, ⟨bk_ BK409.out⟩, ⟨hb_⟩⟩
                case round =>
                 clear H'
                 (try clear c1); (try clear c2); (try clear p2); (try clear c3); (try clear q3); (try clear c4); (try clear p4); (try clear q4); (try clear hx4); (try clear c5); (try clear c6); (try clear c6b0); (try clear c6b1); (try clear p6); (try clear c8); (try clear c8b0); (try clear c8b1); (try clear c9); (try clear c9b0); (try clear c9b1); (try clear c10); (try clear c10b0); (try clear c10b1); (try clear c10b2); (try clear c12); (try clear c12b0); (try clear c12b1); (try clear c13); (try clear c13b0); (try clear c13b1); (try clear c14); (try clear c16); (try clear c16b0); (try clear c16b1); (try clear c17); (try clear c17b0); (try clear c17b1); (try clear c18); (try clear c20); (try clear c20b0); (try clear c20b1); (try clear c27); (try clear c29); (try clear q33); (try clear q36); (try clear c37); (try clear q37); (try clear p43); (try clear q43); (try clear hx43); (try clear c48); (try clear c48b0); (try clear c50); (try clear c50b0); (try clear c51); (try clear c51b0); (try clear c52); (try clear c52b0); (try clear c53); (try clear c53b0); (try clear c57); (try clear hcz23_0); (try clear hcz23_1); (try clear hcz23_2); (try clear hcz23_3); (try clear hcz23_4); (try clear hcz23_5); (try clear hcz25_0); (try clear hcz25_1); (try clear hcz25_2); (try clear hcz25_3); (try clear hcz25_4); (try clear hcz25_5); (try clear hcz27_0); (try clear hcz27_1); (try clear hcz27_2); (try clear hcz27_3); (try clear hcz27_4); (try clear hcz27_5); (try clear hcz30_0); (try clear hcz30_1); (try clear hcz30_2); (try clear hcz30_3); (try clear hcz30_4); (try clear hcz30_5); (try clear hcz32_0); (try clear hcz32_1); (try clear hcz32_2); (try clear hcz32_3); (try clear hcz32_4); (try clear hcz32_5); (try clear hcz44_0); (try clear hcz44_1); (try clear hcz44_2); (try clear hcz44_3); (try clear hcz44_4); (try clear hcz44_5); (try clear hcz46_0); (try clear hcz46_1); (try clear hcz46_2); (try clear hcz46_3); (try clear hcz46_4); (try clear hcz46_5); (try clear hcz58_0); (try clear hcz58_1); (try clear hcz58_2); (try clear hcz58_3); (try clear hcz58_4); (try clear hcz58_5); (try clear hfz23_0); (try clear hfz23_1); (try clear hfz23_2); (try clear hfz23_3); (try clear hfz23_4); (try clear hfz23_5); (try clear hfz25_0); (try clear hfz25_1); (try clear hfz25_2); (try clear hfz25_3); (try clear hfz25_4); (try clear hfz25_5); (try clear hfz27_0); (try clear hfz27_1); (try clear hfz27_2); (try clear hfz27_3); (try clear hfz27_4); (try clear hfz27_5); (try clear hfz30_0); (try clear hfz30_1); (try clear hfz30_2); (try clear hfz30_3); (try clear hfz30_4); (try clear hfz30_5); (try clear hfz32_0); (try clear hfz32_1); (try clear hfz32_2); (try clear hfz32_3); (try clear hfz32_4); (try clear hfz32_5); (try clear hfz44_0); (try clear hfz44_1); (try clear hfz44_2); (try clear hfz44_3); (try clear hfz44_4); (try clear hfz44_5); (try clear hfz46_0); (try clear hfz46_1); (try clear hfz46_2); (try clear hfz46_3); (try clear hfz46_4); (try clear hfz46_5); (try clear hfz58_0); (try clear hfz58_1); (try clear hfz58_2); (try clear hfz58_3); (try clear hfz58_4); (try clear hfz58_5); (try clear hx435_0); (try clear hx436_0); (try clear p2); (try clear p435); (try clear p436); (try clear p6); (try clear q037); (try clear q3); (try clear q33); (try clear q36); (try clear q37); (try clear q435); (try clear q436)
                 obtain ⟨x83_2, rfl, HA, HK2, HO_7, HO_410005, BK406, BK409, HB⟩ := hrel
                 cases gk with
                 | zero => exact absurd HA.out (by simp [zq2.l1])
                 | succ k2 =>
                  have H := HA.out
                  clear HA
                  simp only [zq2.l1] at H
                  by_cases c59 : x83_2 < (l0_5.length : Int)
                  ·rw [if_pos c59] at H
                   have c59b0 : decide (x83_2 < (l0_5.length : Int)) = true := decide_eq_true c59
                   clear c59
                   by_cases c60 : 0 ≤ x83_2
                   ·rw [if_pos c60] at H
                    have c60b0 : decide (0 ≤ x83_2) = true := decide_eq_true c60
                    clear c60
                    by_cases c61 : x83_2 < (l0_5.length : Int)
                    ·rw [if_pos c61] at H
                     have c61b0 : decide (x83_2 < (l0_5.length : Int)) = true := decide_eq_true c61
                     clear c61
                     have H' := Aside0.mk H
                     clear H
                     have p437 : 0 ≤ (x83_2 : Int) := oa_
                     have q437 : x83_2 < (l0_5.length : Int) := oa_
                     obtain ⟨ad437, e437, hx437_0, hx437_1, hx437_2, hx437_3, hx437_4⟩ := at_T43 HR0_5.out x83_2 p437 q437
                     cases e437
                     replace hx437_0 := (HB.out.cell (World.block_lt_of_cell? w _ hx437_0)).trans hx437_0
                     replace hx437_1 := (HB.out.cell (World.block_lt_of_cell? w _ hx437_1)).trans hx437_1
                     replace hx437_2 := (HB.out.cell (World.block_lt_of_cell? w _ hx437_2)).trans hx437_2
                     replace hx437_3 := (HB.out.cell (World.block_lt_of_cell? w _ hx437_3)).trans hx437_3
                     replace hx437_4 := (HB.out.cell (World.block_lt_of_cell? w _ hx437_4)).trans hx437_4
                     replace p437 := eq_true p437
                     replace q437 := eq_true q437
                     go_wp2_with (first | ((with_reducible refine y0j (N := 10) rfl ?_); refine y0e ?hg (N := 10) ?hd (cs := #[.int .i64 0, .int .i64 0, .int .i64 0, .string (⟨#[]⟩ : ByteArray), .bool false]) (t := 43) ?hr ?_; (case hd => rfl); (case hg => rfl); (case hr => first | (go_simp; done) | (go_simp; rfl)); intro gb438 hg w62 hbox hb; have n0_ := Aside0.mk (Kd.R_below (rk_ HO_7.out) hb); have n1_ := Aside0.mk (Kd.R_below (Kd.R_elderB (rk_ HO_410005.out) gb438 (Nat.le_of_eq hg.symm)) hb); have n2_ := Aside0.mk (y06 (bk_ BK406.out) hb); have n3_ := Aside0.mk (y06 (bk_ BK409.out) hb); have n4_ := Aside0.mk (y04 hb_ hb); have n5_ := Aside0.mk (hbox); have n6_ := Aside0.mk ((by rw [hg]; exact (y03 hb_) : w.heap.size ≤ gb438)); have n7_ := Aside0.mk ((by rw [hg]; exact (y03 hb_) : w.heap.size ≤ gb438)); have n8_ := Aside0.mk ((by rw [hg]; exact Nat.ne_of_lt (y0c (bk_ BK406.out)) : gb406 ≠ gb438)); have n9_ := Aside0.mk ((by rw [hg]; exact Nat.ne_of_gt (y0c (bk_ BK406.out)) : gb438 ≠ gb406)); have n10_ := Aside0.mk ((by rw [hg]; exact Nat.ne_of_lt (y0c (bk_ BK409.out)) : gb409 ≠ gb438)); have n11_ := Aside0.mk ((by rw [hg]; exact Nat.ne_of_gt (y0c (bk_ BK409.out)) : gb438 ≠ gb409)); clear HO_7 HO_410005 BK406 BK409 HB; have HO_7 := n0_; have HO_410005 := n1_; have BK406 := n2_; have BK409 := n3_; have HB := n4_; have BK438 := n5_; have GW438 := n6_; have GE438 := n7_; have NB406_438 := n8_; have NB438_406 := n9_; have NB409_438 := n10_; have NB438_409 := n11_; clear n0_ n1_ n2_ n3_ n4_ n5_ n6_ n7_ n8_ n9_ n10_ n11_; clear hb hbox hg; have hnb63 := NB438_406.out; have hnc63 := NB406_438.out; have hnb64 := NB438_409.out; have hnc64 := NB409_438.out; obtain ⟨hcz65_0, hfz65_0⟩ := bc_ BK438.out 0 rfl; obtain ⟨hcz65_1, hfz65_1⟩ := bc_ BK438.out 1 rfl; obtain ⟨hcz65_2, hfz65_2⟩ := bc_ BK438.out 2 rfl; obtain ⟨hcz65_3, hfz65_3⟩ := bc_ BK438.out 3 rfl; obtain ⟨hcz65_4, hfz65_4⟩ := bc_ BK438.out 4 rfl))
                     go_loopg [11, 89] k2 (fun kq v11 v89 w' => ∃ (x11_3 : Bool) (x89_3 : Int), v11 = .bool x11_3 ∧ v89 = .int .i64 x89_3 ∧ Aside0 (zq2.l2 kq t432 x11_3 l0_5 (l0_5.length : Int) x83_2 t432 (t432.length : Int) x89_3 ((y0l l0_5 x83_2).f0) ((y0l l0_5 x83_2).f1) ((y0l l0_5 x83_2).f2) ((y0l l0_5 x83_2).f3) ((y0l l0_5 x83_2).f4) = some r) ∧ Aside0 (kq ≤ k2) ∧ Aside0 (Kd.R Kd.string 9 w' w.heap.size (fun _ => True) (.slice Ao56 t432.length co56) t432) ∧ Aside0 (Kd.R Kd.string 9 w' w.heap.size (fun _ => True) (.slice Ao56 t432.length co56) t432) ∧ Aside0 (Kd.R k43 43 w' w.heap.size (fun k_ => k_ ≠ gb438) (.slice Ao42 y428.length co42) y428) ∧ Aside0 (w'.heap[gb406]? = some (.cells #[.string a0_0, .string a0_1, .string a0_2, .int .i64 a0_3, (.slice A0_4 l0_4.length c0_4), (.slice (some ad437) l0_5.length c0_5)] 25 (0, 0))) ∧ Aside0 (w'.heap[gb409]? = some (.cells #[.string a0_0, .string a0_1, .string a0_2, .int .i64 a0_3, (.slice A0_4 y410.length c0_4), (.slice Ao42 y428.length co42)] 25 (0, 0))) ∧ Aside0 (w'.heap[gb438]? = some (.cells #[.int .i64 ((y0l l0_5 x83_2).f0), .int .i64 ((y0l l0_5 x83_2).f1), .int .i64 ((y0l l0_5 x83_2).f2), .string ((y0l l0_5 x83_2).f3), .bool ((y0l l0_5 x83_2).f4)] 43 (0, 0))) ∧ Aside0 (Below w.heap.size w w'))
                     case atStart => exact ⟨(false), (0), cl_, cl_, H', ⟨Nat.le_refl _⟩, ⟨by (with_reducible repeat (first | apply Kd.R_alloc | apply Kd.R_drewN | apply Kd.R_drew)); exact Kd.R_mono (Kd.R_far (p := ⟨gb438, 4, none⟩) (Kd.R_far (p := ⟨gb438, 3, none⟩) (Kd.R_far (p := ⟨gb438, 2, none⟩) (Kd.R_far (p := ⟨gb438, 1, none⟩) (Kd.R_far (p := ⟨gb438, 0, none⟩) (Kd.R_types HO_7.out BK438.out (by decide)) (fun _ hk => hk.2) (.int .i64 ((y0l l0_5 x83_2).f0))) (fun _ hk => hk.2) (.int .i64 ((y0l l0_5 x83_2).f1))) (fun _ hk => hk.2) (.int .i64 ((y0l l0_5 x83_2).f2))) (fun _ hk => hk.2) (.string ((y0l l0_5 x83_2).f3))) (fun _ hk => hk.2) (.bool ((y0l l0_5 x83_2).f4))) (fun _ hk => trivial)⟩, ⟨by (with_reducible repeat (first | apply Kd.R_alloc | apply Kd.R_drewN | apply Kd.R_drew)); exact Kd.R_mono (Kd.R_far (p := ⟨gb438, 4, none⟩) (Kd.R_far (p := ⟨gb438, 3, none⟩) (Kd.R_far (p := ⟨gb438, 2, none⟩) (Kd.R_far (p := ⟨gb438, 1, none⟩) (Kd.R_far (p := ⟨gb438, 0, none⟩) (Kd.R_types HO_7.out BK438.out (by decide)) (fun _ hk => hk.2) (.int .i64 ((y0l l0_5 x83_2).f0))) (fun _ hk => hk.2) (.int .i64 ((y0l l0_5 x83_2).f1))) (fun _ hk => hk.2) (.int .i64 ((y0l l0_5 x83_2).f2))) (fun _ hk => hk.2) (.string ((y0l l0_5 x83_2).f3))) (fun _ hk => hk.2) (.bool ((y0l l0_5 x83_2).f4))) (fun _ hk => trivial)⟩, ⟨by (with_reducible repeat (first | apply Kd.R_alloc | apply Kd.R_drewN | apply Kd.R_drew)); exact Kd.R_mono (Kd.R_far (p := ⟨gb438, 4, none⟩) (Kd.R_far (p := ⟨gb438, 3, none⟩) (Kd.R_far (p := ⟨gb438, 2, none⟩) (Kd.R_far (p := ⟨gb438, 1, none⟩) (Kd.R_far (p := ⟨gb438, 0, none⟩) (Kd.R_mono HO_410005.out (fun k_ hk => (⟨hk, hk.2⟩ : _ ∧ k_ ≠ gb438))) (fun _ hk => hk.2) (.int .i64 ((y0l l0_5 x83_2).f0))) (fun _ hk => hk.2) (.int .i64 ((y0l l0_5 x83_2).f1))) (fun _ hk => hk.2) (.int .i64 ((y0l l0_5 x83_2).f2))) (fun _ hk => hk.2) (.string ((y0l l0_5 x83_2).f3))) (fun _ hk => hk.2) (.bool ((y0l l0_5 x83_2).f4))) (fun _ hk => hk.1.2)⟩, ⟨by (with_reducible repeat (first | refine y09 ?_ _ | refine y08 ?_ | refine y05 ?_ _)); refine y0a ?_ NB406_438.out _; (with_reducible repeat (first | refine y09 ?_ _ | refine y08 ?_ | refine y05 ?_ _)); refine y0a ?_ NB406_438.out _; (with_reducible repeat (first | refine y09 ?_ _ | refine y08 ?_ | refine y05 ?_ _)); refine y0a ?_ NB406_438.out _; (with_reducible repeat (first | refine y09 ?_ _ | refine y08 ?_ | refine y05 ?_ _)); refine y0a ?_ NB406_438.out _; (with_reducible repeat (first | refine y09 ?_ _ | refine y08 ?_ | refine y05 ?_ _)); refine y0a ?_ NB406_438.out _; (with_reducible repeat (first | refine y09 ?_ _ | refine y08 ?_ | refine y05 ?_ _)); exact BK406.out⟩, ⟨by (with_reducible repeat (first | refine y09 ?_ _ | refine y08 ?_ | refine y05 ?_ _)); refine y0a ?_ NB409_438.out _; (with_reducible repeat (first | refine y09 ?_ _ | refine y08 ?_ | refine y05 ?_ _)); refine y0a ?_ NB409_438.out _; (with_reducible repeat (first | refine y09 ?_ _ | refine y08 ?_ | refine y05 ?_ _)); refine y0a ?_ NB409_438.out _; (with_reducible repeat (first | refine y09 ?_ _ | refine y08 ?_ | refine y05 ?_ _)); refine y0a ?_ NB409_438.out _; (with_reducible repeat (first | refine y09 ?_ _ | refine y08 ?_ | refine y05 ?_ _)); refine y0a ?_ NB409_438.out _; (with_reducible repeat (first | refine y09 ?_ _ | refine y08 ?_ | refine y05 ?_ _)); exact BK409.out⟩, ⟨by (with_reducible repeat (first | refine y09 ?_ _ | refine y08 ?_ | refine y05 ?_ _)); refine y0d (cs := #[.int .i64 ((y0l l0_5 x83_2).f0), .int .i64 ((y0l l0_5 x83_2).f1), .int .i64 ((y0l l0_5 x83_2).f2), .string ((y0l l0_5 x83_2).f3), .bool false]) ?_ 4 _ rfl; (with_reducible repeat (first | refine y09 ?_ _ | refine y08 ?_ | refine y05 ?_ _)); refine y0d (cs := #[.int .i64 ((y0l l0_5 x83_2).f0), .int .i64 ((y0l l0_5 x83_2).f1), .int .i64 ((y0l l0_5 x83_2).f2), .string (⟨#[]⟩ : ByteArray), .bool false]) ?_ 3 _ rfl; (with_reducible repeat (first | refine y09 ?_ _ | refine y08 ?_ | refine y05 ?_ _)); refine y0d (cs := #[.int .i64 ((y0l l0_5 x83_2).f0), .int .i64 ((y0l l0_5 x83_2).f1), .int .i64 0, .string (⟨#[]⟩ : ByteArray), .bool false]) ?_ 2 _ rfl; (with_reducible repeat (first | refine y09 ?_ _ | refine y08 ?_ | refine y05 ?_ _)); refine y0d (cs := #[.int .i64 ((y0l l0_5 x83_2).f0), .int .i64 0, .int .i64 0, .string (⟨#[]⟩ : ByteArray), .bool false]) ?_ 1 _ rfl; (with_reducible repeat (first | refine y09 ?_ _ | refine y08 ?_ | refine y05 ?_ _)); refine y0d (cs := #[.int .i64 0, .int .i64 0, .int .i64 0, .string (⟨#[]⟩ : ByteArray), .bool false]) ?_ 0 _ rfl; (with_reducible repeat (first | refine y09 ?_ _ | refine y08 ?_ | refine y05 ?_ _)); exact BK438.out⟩, ⟨hb_⟩⟩
                     case round =>
                      clear H'
                      (try clear c1); (try clear c2); (try clear p2); (try clear c3); (try clear q3); (try clear c4); (try clear p4); (try clear q4); (try clear hx4); (try clear c5); (try clear c6); (try clear c6b0); (try clear c6b1); (try clear p6); (try clear c8); (try clear c8b0); (try clear c8b1); (try clear c9); (try clear c9b0); (try clear c9b1); (try clear c10); (try clear c10b0); (try clear c10b1); (try clear c10b2); (try clear c12); (try clear c12b0); (try clear c12b1); (try clear c13); (try clear c13b0); (try clear c13b1); (try clear c14); (try clear c16); (try clear c16b0); (try clear c16b1); (try clear c17); (try clear c17b0); (try clear c17b1); (try clear c18); (try clear c20); (try clear c20b0); (try clear c20b1); (try clear c27); (try clear c29); (try clear q33); (try clear q36); (try clear c37); (try clear q37); (try clear p43); (try clear q43); (try clear hx43); (try clear c48); (try clear c48b0); (try clear c50); (try clear c50b0); (try clear c51); (try clear c51b0); (try clear c52); (try clear c52b0); (try clear c53); (try clear c53b0); (try clear c57); (try clear c59); (try clear c59b0); (try clear c60); (try clear c60b0); (try clear c61); (try clear c61b0); (try clear c63); (try clear c64); (try clear p64); (try clear hcz23_0); (try clear hcz23_1); (try clear hcz23_2); (try clear hcz23_3); (try clear hcz23_4); (try clear hcz23_5); (try clear hcz25_0); (try clear hcz25_1); (try clear hcz25_2); (try clear hcz25_3); (try clear hcz25_4); (try clear hcz25_5); (try clear hcz27_0); (try clear hcz27_1); (try clear hcz27_2); (try clear hcz27_3); (try clear hcz27_4); (try clear hcz27_5); (try clear hcz30_0); (try clear hcz30_1); (try clear hcz30_2); (try clear hcz30_3); (try clear hcz30_4); (try clear hcz30_5); (try clear hcz32_0); (try clear hcz32_1); (try clear hcz32_2); (try clear hcz32_3); (try clear hcz32_4); (try clear hcz32_5); (try clear hcz44_0); (try clear hcz44_1); (try clear hcz44_2); (try clear hcz44_3); (try clear hcz44_4); (try clear hcz44_5); (try clear hcz46_0); (try clear hcz46_1); (try clear hcz46_2); (try clear hcz46_3); (try clear hcz46_4); (try clear hcz46_5); (try clear hcz58_0); (try clear hcz58_1); (try clear hcz58_2); (try clear hcz58_3); (try clear hcz58_4); (try clear hcz58_5); (try clear hcz65_0); (try clear hcz65_1); (try clear hcz65_2); (try clear hcz65_3); (try clear hcz65_4); (try clear hfz23_0); (try clear hfz23_1); (try clear hfz23_2); (try clear hfz23_3); (try clear hfz23_4); (try clear hfz23_5); (try clear hfz25_0); (try clear hfz25_1); (try clear hfz25_2); (try clear hfz25_3); (try clear hfz25_4); (try clear hfz25_5); (try clear hfz27_0); (try clear hfz27_1); (try clear hfz27_2); (try clear hfz27_3); (try clear hfz27_4); (try clear hfz27_5); (try clear hfz30_0); (try clear hfz30_1); (try clear hfz30_2); (try clear hfz30_3); (try clear hfz30_4); (try clear hfz30_5); (try clear hfz32_0); (try clear hfz32_1); (try clear hfz32_2); (try clear hfz32_3); (try clear hfz32_4); (try clear hfz32_5); (try clear hfz44_0); (try clear hfz44_1); (try clear hfz44_2); (try clear hfz44_3); (try clear hfz44_4); (try clear hfz44_5); (try clear hfz46_0); (try clear hfz46_1); (try clear hfz46_2); (try clear hfz46_3); (try clear hfz46_4); (try clear hfz46_5); (try clear hfz58_0); (try clear hfz58_1); (try clear hfz58_2); (try clear hfz58_3); (try clear hfz58_4); (try clear hfz58_5); (try clear hfz65_0); (try clear hfz65_1); (try clear hfz65_2); (try clear hfz65_3); (try clear hfz65_4); (try clear hx435_0); (try clear hx436_0); (try clear hx437_0); (try clear hx437_1); (try clear hx437_2); (try clear hx437_3); (try clear hx437_4); (try clear p2); (try clear p4); (try clear p43); (try clear p435); (try clear p436); (try clear p437); (try clear p6); (try clear q037); (try clear q3); (try clear q33); (try clear q36); (try clear q37); (try clear q4); (try clear q43); (try clear q435); (try clear q436); (try clear q437)
                      obtain ⟨x11_3, x89_3, rfl, rfl, HA, HK3, HO_7, HO_87, HO_410005, BK406, BK409, BK438, HB⟩ := hrel
                      cases gk with
                      | zero => exact absurd HA.out (by simp [zq2.l2])
                      | succ k3 =>
                       have H := HA.out
                       clear HA
                       simp only [zq2.l2] at H
                       by_cases c66 : x89_3 < (t432.length : Int)
                       ·rw [if_pos c66] at H
                        have c66b0 : decide (x89_3 < (t432.length : Int)) = true := decide_eq_true c66
                        clear c66
                        by_cases c67 : 0 ≤ x89_3
                        ·rw [if_pos c67] at H
                         have c67b0 : decide (0 ≤ x89_3) = true := decide_eq_true c67
                         clear c67
                         by_cases c68 : x89_3 < (t432.length : Int)
                         ·rw [if_pos c68] at H
                          have c68b0 : decide (x89_3 < (t432.length : Int)) = true := decide_eq_true c68
                          clear c68
                          by_cases c69 : x11_3 = true
                          ·subst c69
                           have H1 : (zq2.l2 k3 t432 true l0_5 (l0_5.length : Int) x83_2 t432 (t432.length : Int) (wrap64 (x89_3 + 1)) ((y0l l0_5 x83_2).f0) ((y0l l0_5 x83_2).f1) ((y0l l0_5 x83_2).f2) ((y0l l0_5 x83_2).f3) ((y0l l0_5 x83_2).f4)) = some r := by rw [if_pos rfl] at H; exact H
                           clear H
                           have H := H1
                           clear H1
                           have H' := Aside0.mk H
                           clear H
                           have p439 : 0 ≤ (x89_3 : Int) := oa_
                           have q439 : x89_3 < (t432.length : Int) := oa_
                           obtain ⟨ad439, e439, hx439_0⟩ := Kd.at_string (Kd.R_reads' HO_87.out).2.2 x89_3 p439 q439
                           cases e439
                           replace p439 := eq_true p439
                           replace q439 := eq_true q439
                           go_wp2
                           go_roundg k3
                           case measure => have := HK1.out; have := HK2.out; have := HK3.out; omega
                           case rel => exact ⟨(true), (wrap64 (x89_3 + 1)), cl_, cl_, H', ⟨by have := HK1.out; have := HK2.out; have := HK3.out; omega⟩, ⟨rk_ HO_7.out⟩, ⟨rk_ HO_87.out⟩, ⟨rk_ HO_410005.out⟩, ⟨bk_ BK406.out⟩, ⟨bk_ BK409.out⟩, ⟨bk_ BK438.out⟩, ⟨hb_⟩⟩
                          ·replace c69 := Bool.eq_false_iff.mpr c69
                           subst c69
                           have H1 : (zq2.l2 k3 t432 ((rdOf ByteArray.empty t432 x89_3).toList == ((y0l l0_5 x83_2).f3).toList) l0_5 (l0_5.length : Int) x83_2 t432 (t432.length : Int) (wrap64 (x89_3 + 1)) ((y0l l0_5 x83_2).f0) ((y0l l0_5 x83_2).f1) ((y0l l0_5 x83_2).f2) ((y0l l0_5 x83_2).f3) ((y0l l0_5 x83_2).f4)) = some r := by rw [if_neg (show ¬ (false = true) by decide)] at H; exact H
                           clear H
                           have H := H1
                           clear H1
                           have H' := Aside0.mk H
                           clear H
                           have p439 : 0 ≤ (x89_3 : Int) := oa_
                           have q439 : x89_3 < (t432.length : Int) := oa_
                           obtain ⟨ad439, e439, hx439_0⟩ := Kd.at_string (Kd.R_reads' HO_87.out).2.2 x89_3 p439 q439
                           cases e439
                           replace p439 := eq_true p439
                           replace q439 := eq_true q439
                           have hnb70 := NB438_406.out
                           have hnc70 := NB406_438.out
                           have hnb71 := NB438_409.out
                           have hnc71 := NB409_438.out
                           obtain ⟨hcz72_0, hfz72_0⟩ := bc_ BK438.out 0 rfl
                           obtain ⟨hcz72_1, hfz72_1⟩ := bc_ BK438.out 1 rfl
                           obtain ⟨hcz72_2, hfz72_2⟩ := bc_ BK438.out 2 rfl
                           obtain ⟨hcz72_3, hfz72_3⟩ := bc_ BK438.out 3 rfl
                           obtain ⟨hcz72_4, hfz72_4⟩ := bc_ BK438.out 4 rfl
                           go_wp2
                           go_roundg k3
                           case measure => have := HK1.out; have := HK2.out; have := HK3.out; omega
                           case rel => exact ⟨(((rdOf ByteArray.empty t432 x89_3).toList == ((y0l l0_5 x83_2).f3).toList)), (wrap64 (x89_3 + 1)), cl_, cl_, H', ⟨by have := HK1.out; have := HK2.out; have := HK3.out; omega⟩, ⟨rk_ HO_7.out⟩, ⟨rk_ HO_87.out⟩, ⟨rk_ HO_410005.out⟩, ⟨bk_ BK406.out⟩, ⟨bk_ BK409.out⟩, ⟨bk_ BK438.out⟩, ⟨hb_⟩⟩
                         ·rw [if_neg c68] at H
                          exact absurd H (by simp)
                        ·rw [if_neg c67] at H
                         exact absurd H (by simp)
                       ·rw [if_neg c66] at H
                        have c66b0 : decide (x89_3 < (t432.length : Int)) = false := decide_eq_false c66
                        clear c66
                        by_cases c73 : (x11_3 != (((y0l l0_5 x83_2).f2) == 4)) = true
                        ·rw [if_pos c73] at H
                         exact absurd H (by simp)
                        ·rw [if_neg c73] at H
                         have c73b0 : (x11_3 != (((y0l l0_5 x83_2).f2) == 4)) = false := by simpa using c73
                         (try (have c73b1 : decide (x11_3 = (((y0l l0_5 x83_2).f2) == 4)) = true := by simpa using c73))
                         (try (have c73b2 : (x11_3 == (((y0l l0_5 x83_2).f2) == 4)) = true := by simpa using c73))
                         clear c73
                         have H' := Aside0.mk H
                         clear H
                         have hnb74 := NB438_406.out
                         have hnc74 := NB406_438.out
                         have hnb75 := NB438_409.out
                         have hnc75 := NB409_438.out
                         obtain ⟨hcz76_0, hfz76_0⟩ := bc_ BK438.out 0 rfl
                         obtain ⟨hcz76_1, hfz76_1⟩ := bc_ BK438.out 1 rfl
                         obtain ⟨hcz76_2, hfz76_2⟩ := bc_ BK438.out 2 rfl
                         obtain ⟨hcz76_3, hfz76_3⟩ := bc_ BK438.out 3 rfl
                         obtain ⟨hcz76_4, hfz76_4⟩ := bc_ BK438.out 4 rfl
                         go_wp2
                         go_roundg k3
                         case measure => have := HK1.out; have := HK2.out; have := HK3.out; omega
                         case rel => exact ⟨(wrap64 (x83_2 + 1)), cl_, H', ⟨by have := HK1.out; have := HK2.out; have := HK3.out; omega⟩, ⟨rk_ HO_7.out⟩, ⟨by (with_reducible repeat (first | apply Kd.R_alloc | apply Kd.R_drewN | apply Kd.R_drew)); exact Kd.R_mono HO_410005.out (fun _ hk => trivial)⟩, ⟨bk_ BK406.out⟩, ⟨bk_ BK409.out⟩, ⟨hb_⟩⟩
                    ·rw [if_neg c61] at H
                     exact absurd H (by simp)
                   ·rw [if_neg c60] at H
                    exact absurd H (by simp)
                  ·rw [if_neg c59] at H
                   have c59b0 : decide (x83_2 < (l0_5.length : Int)) = false := decide_eq_false c59
                   clear c59
                   replace H := Option.bind_eq_some_iff.mp H
                   obtain ⟨t440, A770, H⟩ := H
                   (try dsimp only at H)
                   have A77 := Aside0.mk A770
                   clear A770
                   obtain rfl := Option.some.inj H
                   go_wp2_with (first | ((with_reducible refine y0i (f := 20) rfl ?_); refine goesL_ (some 107) rfl rfl Try.func20 (by kernel_rfl) rfl #[] rfl ar_ ?_; (with_reducible refine (zq6.calls k2  t440 _ A77.out).mono ?_); rintro e w78 ⟨rfl, hb⟩; refine ⟨_, rfl, ?_⟩; have n0_ := Aside0.mk (Kd.R_below (rk_ HO_7.out) hb); have n1_ := Aside0.mk (Kd.R_below (rk_ HO_410005.out) hb); have n2_ := Aside0.mk (y06 (bk_ BK406.out) hb); have n3_ := Aside0.mk (y06 (bk_ BK409.out) hb); have n4_ := Aside0.mk (y04 hb_ hb); clear HO_7 HO_410005 BK406 BK409 HB; have HO_7 := n0_; have HO_410005 := n1_; have BK406 := n2_; have BK409 := n3_; have HB := n4_; clear n0_ n1_ n2_ n3_ n4_; (try clear hb); (try clear hb2); (try clear hk); (try clear hi)))
                   go_ret
                   exact ⟨by first | rfl | (simp [y0g, y0h] <;> rfl) | (simp only [← hji7, ← hji11, ← hji15]; first | rfl | (simp [y0g, y0h] <;> rfl)) | (simp [*, y0g, y0h] <;> rfl), hb_⟩
            ·rw [if_neg c20] at H
             exact absurd H (by simp)
           ·rw [if_neg c18] at H
            exact absurd H (by simp)
          ·rw [if_neg c17] at H
           exact absurd H (by simp)
         ·rw [if_neg c16] at H
          exact absurd H (by simp)
        ·rw [if_neg c14] at H
         exact absurd H (by simp)
       ·rw [if_neg c13] at H
        exact absurd H (by simp)
      ·rw [if_neg c12] at H
       exact absurd H (by simp)
    ·rw [if_neg c9] at H
     exact absurd H (by simp)
   ·rw [if_neg c8] at H
    exact absurd H (by simp)
  ·rw [if_neg c6] at H
   have c6b0 : (t408 == 0) = false := beq_eq_false_iff_ne.mpr c6
   have c6b1 : (t408 != 0) = true := bne_iff_ne.mpr c6
   replace H := Option.bind_eq_some_iff.mp H
   obtain ⟨t441, A790, H⟩ := H
   (try dsimp only at H)
   have A79 := Aside0.mk A790
   clear A790
   obtain rfl := Option.some.inj H
   go_enter Try.func8, Try.ntmps8
   go_wp2_with (first | ((with_reducible refine y0j (N := 2) rfl ?_); refine y0e ?hg (N := 2) ?hd (cs := #[.string a0_0, .string a0_1, .string a0_2, .int .i64 a0_3, .slice A0_4 l0_4.length c0_4, .slice A0_5 l0_5.length c0_5]) (t := 25) ?hr ?_; (case hd => rfl); (case hg => rfl); (case hr => first | (go_simp; done) | (go_simp; rfl)); intro gb406 hg w80 hbox hb; have n0_ := Aside0.mk (y04 hb_ hb); have n1_ := Aside0.mk (hbox); have n2_ := Aside0.mk ((by rw [hg]; exact (y03 hb_) : w.heap.size ≤ gb406)); have n3_ := Aside0.mk ((by rw [hg]; exact (y03 hb_) : w.heap.size ≤ gb406)); clear HB; have HB := n0_; have BK406 := n1_; have GW406 := n2_; have GE406 := n3_; clear n0_ n1_ n2_ n3_; clear hb hbox hg; obtain ⟨hcz81_0, hfz81_0⟩ := bc_ BK406.out 0 rfl; obtain ⟨hcz81_1, hfz81_1⟩ := bc_ BK406.out 1 rfl; obtain ⟨hcz81_2, hfz81_2⟩ := bc_ BK406.out 2 rfl; obtain ⟨hcz81_3, hfz81_3⟩ := bc_ BK406.out 3 rfl; obtain ⟨hcz81_4, hfz81_4⟩ := bc_ BK406.out 4 rfl; obtain ⟨hcz81_5, hfz81_5⟩ := bc_ BK406.out 5 rfl) | ((with_reducible refine y0i (f := 17) rfl ?_); refine goesL_ (some 15) rfl rfl Try.func17 (by kernel_rfl) rfl #[.agg #[.string a0_0, .string a0_1, .string a0_2, .int .i64 a0_3, .slice A0_4 l0_4.length c0_4, .slice A0_5 l0_5.length c0_5]] rfl ar_ ?_; (with_reducible refine (zq7.calls k a0_0 a0_1 a0_2 a0_3 _ _ l0_4 _ _ l0_5 true _ ?side1 ?side2 ?side3 ?side4 A3.out).mono ?_); (case side1 => repeat (first | exact (Kd.C_below HR0_4.out HB.out) | (with_reducible refine Kd.C_alloc ?_ _) | (with_reducible refine Kd.C_drewN ?_ _) | (with_reducible refine Kd.C_drew ?_))); (case side2 => exact HC0_4.out); (case side3 => repeat (first | exact (Kd.C_below HR0_5.out HB.out) | (with_reducible refine Kd.C_alloc ?_ _) | (with_reducible refine Kd.C_drewN ?_ _) | (with_reducible refine Kd.C_drew ?_))); (case side4 => exact HC0_5.out); rintro e w82 ⟨rfl, hb⟩; refine ⟨_, rfl, ?_⟩; have n0_ := Aside0.mk (y06 (bk_ BK406.out) hb); have n1_ := Aside0.mk (y04 hb_ hb); clear BK406 HB; have BK406 := n0_; have HB := n1_; clear n0_ n1_; (try clear hb); (try clear hb2); (try clear hk); (try clear hi); obtain ⟨hcz83_0, hfz83_0⟩ := bc_ BK406.out 0 rfl; obtain ⟨hcz83_1, hfz83_1⟩ := bc_ BK406.out 1 rfl; obtain ⟨hcz83_2, hfz83_2⟩ := bc_ BK406.out 2 rfl; obtain ⟨hcz83_3, hfz83_3⟩ := bc_ BK406.out 3 rfl; obtain ⟨hcz83_4, hfz83_4⟩ := bc_ BK406.out 4 rfl; obtain ⟨hcz83_5, hfz83_5⟩ := bc_ BK406.out 5 rfl) | (go_at_call 18; (with_reducible refine (zqo.calls k a0_0 a0_1 a0_2 a0_3 _ _ l0_4 _ _ l0_5 t408 _ ?side1 ?side2 ?side3 ?side4 A5.out).mono ?_); (case side1 => repeat (first | exact (Kd.C_below HR0_4.out HB.out) | (with_reducible refine Kd.C_alloc ?_ _) | (with_reducible refine Kd.C_drewN ?_ _) | (with_reducible refine Kd.C_drew ?_))); (case side2 => exact HC0_4.out); (case side3 => repeat (first | exact (Kd.C_below HR0_5.out HB.out) | (with_reducible refine Kd.C_alloc ?_ _) | (with_reducible refine Kd.C_drewN ?_ _) | (with_reducible refine Kd.C_drew ?_))); (case side4 => exact HC0_5.out); rintro e w84 ⟨rfl, hb⟩; have n0_ := Aside0.mk (y06 (bk_ BK406.out) hb); have n1_ := Aside0.mk (y04 hb_ hb); clear BK406 HB; have BK406 := n0_; have HB := n1_; clear n0_ n1_; (try clear hb); (try clear hb2); (try clear hk); (try clear hi)) | ((with_reducible refine y0i (f := 20) rfl ?_); refine goesL_ (some 22) rfl rfl Try.func20 (by kernel_rfl) rfl #[] rfl ar_ ?_; (with_reducible refine (zq6.calls k  t441 _ A79.out).mono ?_); rintro e w85 ⟨rfl, hb⟩; refine ⟨_, rfl, ?_⟩; have n0_ := Aside0.mk (y06 (bk_ BK406.out) hb); have n1_ := Aside0.mk (y04 hb_ hb); clear BK406 HB; have BK406 := n0_; have HB := n1_; clear n0_ n1_; (try clear hb); (try clear hb2); (try clear hk); (try clear hi)))
   go_ret
   exact ⟨ew_, hb_⟩
 ·replace c4 := Bool.eq_false_iff.mpr c4
  subst c4
  have H1 : ((zq6.f k).bind fun t442 => (some t442)) = some r := by rw [if_neg (show ¬ (false = true) by decide)] at H; exact H
  clear H
  have H := H1
  clear H1
  replace H := Option.bind_eq_some_iff.mp H
  obtain ⟨t442, A860, H⟩ := H
  (try dsimp only at H)
  have A86 := Aside0.mk A860
  clear A860
  obtain rfl := Option.some.inj H
  go_enter Try.func8, Try.ntmps8
  go_wp2_with (first | ((with_reducible refine y0j (N := 2) rfl ?_); refine y0e ?hg (N := 2) ?hd (cs := #[.string a0_0, .string a0_1, .string a0_2, .int .i64 a0_3, .slice A0_4 l0_4.length c0_4, .slice A0_5 l0_5.length c0_5]) (t := 25) ?hr ?_; (case hd => rfl); (case hg => rfl); (case hr => first | (go_simp; done) | (go_simp; rfl)); intro gb406 hg w87 hbox hb; have n0_ := Aside0.mk (y04 hb_ hb); have n1_ := Aside0.mk (hbox); have n2_ := Aside0.mk ((by rw [hg]; exact (y03 hb_) : w.heap.size ≤ gb406)); have n3_ := Aside0.mk ((by rw [hg]; exact (y03 hb_) : w.heap.size ≤ gb406)); clear HB; have HB := n0_; have BK406 := n1_; have GW406 := n2_; have GE406 := n3_; clear n0_ n1_ n2_ n3_; clear hb hbox hg; obtain ⟨hcz88_0, hfz88_0⟩ := bc_ BK406.out 0 rfl; obtain ⟨hcz88_1, hfz88_1⟩ := bc_ BK406.out 1 rfl; obtain ⟨hcz88_2, hfz88_2⟩ := bc_ BK406.out 2 rfl; obtain ⟨hcz88_3, hfz88_3⟩ := bc_ BK406.out 3 rfl; obtain ⟨hcz88_4, hfz88_4⟩ := bc_ BK406.out 4 rfl; obtain ⟨hcz88_5, hfz88_5⟩ := bc_ BK406.out 5 rfl) | ((with_reducible refine y0i (f := 17) rfl ?_); refine goesL_ (some 15) rfl rfl Try.func17 (by kernel_rfl) rfl #[.agg #[.string a0_0, .string a0_1, .string a0_2, .int .i64 a0_3, .slice A0_4 l0_4.length c0_4, .slice A0_5 l0_5.length c0_5]] rfl ar_ ?_; (with_reducible refine (zq7.calls k a0_0 a0_1 a0_2 a0_3 _ _ l0_4 _ _ l0_5 false _ ?side1 ?side2 ?side3 ?side4 A3.out).mono ?_); (case side1 => repeat (first | exact (Kd.C_below HR0_4.out HB.out) | (with_reducible refine Kd.C_alloc ?_ _) | (with_reducible refine Kd.C_drewN ?_ _) | (with_reducible refine Kd.C_drew ?_))); (case side2 => exact HC0_4.out); (case side3 => repeat (first | exact (Kd.C_below HR0_5.out HB.out) | (with_reducible refine Kd.C_alloc ?_ _) | (with_reducible refine Kd.C_drewN ?_ _) | (with_reducible refine Kd.C_drew ?_))); (case side4 => exact HC0_5.out); rintro e w89 ⟨rfl, hb⟩; refine ⟨_, rfl, ?_⟩; have n0_ := Aside0.mk (y06 (bk_ BK406.out) hb); have n1_ := Aside0.mk (y04 hb_ hb); clear BK406 HB; have BK406 := n0_; have HB := n1_; clear n0_ n1_; (try clear hb); (try clear hb2); (try clear hk); (try clear hi)) | ((with_reducible refine y0i (f := 20) rfl ?_); refine goesL_ (some 22) rfl rfl Try.func20 (by kernel_rfl) rfl #[] rfl ar_ ?_; (with_reducible refine (zq6.calls k  t442 _ A86.out).mono ?_); rintro e w90 ⟨rfl, hb⟩; refine ⟨_, rfl, ?_⟩; have n0_ := Aside0.mk (y06 (bk_ BK406.out) hb); have n1_ := Aside0.mk (y04 hb_ hb); clear BK406 HB; have BK406 := n0_; have HB := n1_; clear n0_ n1_; (try clear hb); (try clear hb2); (try clear hk); (try clear hi)))
  go_ret
  exact ⟨ew_, hb_⟩
end Go.Proofs.Ytenlmckahaniiaa.K
end
