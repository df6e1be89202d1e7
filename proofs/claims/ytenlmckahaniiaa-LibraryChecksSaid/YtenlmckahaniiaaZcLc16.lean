/- Lemmas for several laws: what their proofs need of this seat's texts, in one place. -/
import Derived.Test.YtenlmckahaniiaaZcLc12
import Derived.Test.YtenlmckahaniiaaZcLc14
import Derived.Test.YtenlmckahaniiaaZcLc15
set_option linter.unusedVariables false
set_option linter.unusedSimpArgs false
set_option linter.unusedSectionVars false
set_option maxHeartbeats 8000000
set_option maxRecDepth 100000
section
namespace Go.Proofs.Ytenlmckahaniiaa.K
open Go.RowKit Go.Proofs.YtenlmckahaniiaaW.PrintWords Go.Proofs.YtenlmckahaniiaaW.PrintLast
def zqg.f (k : Nat)  : Option (Bool) := (zqa.f (⟨#[112]⟩ : ByteArray) (⟨#[112, 117, 116]⟩ : ByteArray) (⟨#[98, 117, 102]⟩ : ByteArray)).bind fun bt797 => ((zqa.f (⟨#[98]⟩ : ByteArray) (⟨#[98, 117, 102]⟩ : ByteArray) (⟨#[]⟩ : ByteArray)).bind fun bt807 => ((zqa.f (⟨#[120]⟩ : ByteArray) (⟨#[]⟩ : ByteArray) (⟨#[]⟩ : ByteArray)).bind fun bt817 => ((some (([(⟨bt797.1, bt797.2.1, bt797.2.2.1, bt797.2.2.2.1, bt797.2.2.2.2.1, bt797.2.2.2.2.2⟩ : S25), (⟨bt807.1, bt807.2.1, bt807.2.2.1, bt807.2.2.2.1, bt807.2.2.2.2.1, bt807.2.2.2.2.2⟩ : S25), (⟨bt817.1, bt817.2.1, bt817.2.2.1, bt817.2.2.2.1, bt817.2.2.2.2.1, bt817.2.2.2.2.2⟩ : S25)] : List (S25)) : List (S25))).bind fun y827 => ((zq1g.f y827 (⟨#[98, 117, 102]⟩ : ByteArray)).bind fun bt830 => ((zq1g.f y827 (⟨#[103, 101, 116]⟩ : ByteArray)).bind fun bt832 => ((zqa.f (⟨#[98]⟩ : ByteArray) (⟨#[98, 117, 102, 102, 101, 114]⟩ : ByteArray) (⟨#[]⟩ : ByteArray)).bind fun bt834 => ((zq14.f k y827 bt834.1 bt834.2.1 bt834.2.2.1 bt834.2.2.2.1 bt834.2.2.2.2.1 bt834.2.2.2.2.2).bind fun bt844 => ((zq17.f k y827).bind fun bt848 => ((zq16.f k bt848.1).bind fun bt850 => (if bt844.2 = 0 then (if (bt844.1.length : Int) = 3 then (if 1 < (bt844.1.length : Int) then (if (((y0q bt844.1 1).f4).length : Int) = 1 then (if bt848.2 = 0 then (if bt850.2 = 0 then ((zqa.f (⟨#[109]⟩ : ByteArray) (⟨#[]⟩ : ByteArray) (⟨#[112, 117, 116]⟩ : ByteArray)).bind fun bt855 => ((zq18.f k y827 (([(⟨bt855.1, bt855.2.1, bt855.2.2.1, bt855.2.2.2.1, bt855.2.2.2.2.1, bt855.2.2.2.2.2⟩ : S25)] : List (S25)))).bind fun t868 => ((zqr.f k t868 (([0, 1] : List Int))).bind fun t874 => (if t874 = true then ((zqa.f (⟨#[109]⟩ : ByteArray) (⟨#[]⟩ : ByteArray) (⟨#[]⟩ : ByteArray)).bind fun bt875 => ((zq18.f k y827 (([(⟨bt875.1, bt875.2.1, bt875.2.2.1, bt875.2.2.2.1, bt875.2.2.2.2.1, bt875.2.2.2.2.2⟩ : S25)] : List (S25)))).bind fun t888 => (if (t888.length : Int) = 0 then (if bt830.1 = 1 then (if bt830.2 = true then (if bt832.2 = true then (none) else (if 0 < (((y0q bt844.1 1).f4).length : Int) then (if ((y0s ((y0q bt844.1 1).f4) 0).f0).toList = ([98, 117, 102, 102, 101, 114] : List UInt8) then ((zqu.f k y827 bt850.1).bind fun t893 => (if t893 = true then (if 1 < (y827.length : Int) then ((zq1a.f k (([(⟨(y0q y827 1).f0, (y0q y827 1).f1, (y0q y827 1).f2, (y0q y827 1).f3, (y0q y827 1).f4, (y0q y827 1).f5⟩ : S25), (⟨(y0q y827 1).f0, (y0q y827 1).f1, (y0q y827 1).f2, (y0q y827 1).f3, (y0q y827 1).f4, (y0q y827 1).f5⟩ : S25)] : List (S25)))).bind fun t899 => (if t899 = 6 then ((zq1a.f k y827).bind fun t900 => (some (t900 == 0))) else (none))) else (none)) else (none))) else (none)) else (none))) else (none)) else (none)) else (none)))) else (none))))) else (none)) else (none)) else (none)) else (none)) else (none)) else (none)))))))))))
def zqg.T9 : Bool × List (List Nat × List Nat) := (true, [([], []), ([], []), ([1], [1]), ([0, 2, 1], [0, 2]), ([], []), ([3, 4, 3], [3, 4]), ([5, 5], [5]), ([6], [6]), ([6, 6], [6]), ([8, 6], [6, 8]), ([7, 9, 8, 6], [6, 7, 9]), ([10, 6], [6, 10]), ([11, 6], [6, 11]), ([6, 12], [6, 12]), ([13, 10], [13]), ([14], [14]), ([15, 14], [14, 15]), ([14, 16], [14, 16]), ([17, 14], [17]), ([18], [18]), ([18, 19], [18, 19]), ([20, 18], [20]), ([21], [21]), ([22, 21], [21, 22]), ([21, 23], [21, 23]), ([24, 21], [24]), ([25], [25]), ([26, 25], [25, 26]), ([27, 25], [25, 27]), ([28, 25], [25, 28]), ([29, 25], [25, 29]), ([30, 25], [25, 30]), ([31, 25], [25, 31]), ([32, 25], [25, 32]), ([25, 33], [25, 33]), ([34, 25], [34]), ([35], [35]), ([35], [35]), ([36, 37, 35, 35], [35, 36, 37]), ([35, 38], [35, 38]), ([39, 38], [39]), ([40], [40]), ([41, 40], [40, 41]), ([42, 40], [40, 42]), ([40], [40]), ([44, 40], [40, 44]), ([45, 40], [40, 45]), ([43, 46, 40], [40, 43, 46]), ([47, 40, 40], [40, 47]), ([48, 40], [40, 48]), ([40, 49], [40, 49]), ([50, 48], [50]), ([51], [51]), ([52, 51, 51], [51, 52]), ([53, 51], [51, 53]), ([51, 54], [51, 54]), ([55, 53, 0, 1, 2, 3, 4, 5, 6, 7, 8, 9, 10, 11, 12, 13, 14, 15, 16, 17, 18, 19, 20, 21, 22, 23, 24, 25, 26, 27, 28, 29, 30, 31, 32, 33, 34, 35, 36, 37, 38, 39, 40, 41, 42, 43, 44, 45, 46, 47, 48, 49, 50, 51, 52, 53, 54, 55], [55])])
def zqg.B9 : List Nat := [0, 0, 2, 7, 0, 31, 63, 127, 127, 383, 1023, 2047, 4095, 8191, 16383, 32767, 65535, 131071, 262143, 524287, 1048575, 2097151, 4194303, 8388607, 16777215, 33554431, 67108863, 134217727, 268435455, 536870911, 1073741823, 2147483647, 4294967295, 8589934591, 17179869183, 34359738367, 68719476735, 68719476735, 274877906943, 549755813887, 1099511627775, 2199023255551, 4398046511103, 8796093022207, 2199023255551, 19791209299967, 54975581388799, 140737488355327, 281474976710655, 562949953421311, 1125899906842623, 2251799813685247, 4503599627370495, 9007199254740991, 18014398509481983, 36028797018963967, 72057594037927935]
theorem zqg.tab9 : rtab .any (opsOf Try.f36 9) = zqg.T9 := by kernel_rfl
theorem zqg.bits9 : waitsOk zqg.T9.2 zqg.B9 = true := by kernel_rfl
theorem zqg.calls (k : Nat)  (r : Bool) (w : World) (h : zqg.f k  = some r) :
  Calls Try.prog 36 #[] w fun e w' => e = .returned (.bool r) ∧ Below w.heap.size w w' := by
 have hu25 := Try.underlying25
 have HB := q_ (Below.refl w.heap.size w)
 have H : ((zqa.f (⟨#[112]⟩ : ByteArray) (⟨#[112, 117, 116]⟩ : ByteArray) (⟨#[98, 117, 102]⟩ : ByteArray)).bind fun bt797 => ((zqa.f (⟨#[98]⟩ : ByteArray) (⟨#[98, 117, 102]⟩ : ByteArray) (⟨#[]⟩ : ByteArray)).bind fun bt807 => ((zqa.f (⟨#[120]⟩ : ByteArray) (⟨#[]⟩ : ByteArray) (⟨#[]⟩ : ByteArray)).bind fun bt817 => ((some (([(⟨bt797.1, bt797.2.1, bt797.2.2.1, bt797.2.2.2.1, bt797.2.2.2.2.1, bt797.2.2.2.2.2⟩ : S25), (⟨bt807.1, bt807.2.1, bt807.2.2.1, bt807.2.2.2.1, bt807.2.2.2.2.1, bt807.2.2.2.2.2⟩ : S25), (⟨bt817.1, bt817.2.1, bt817.2.2.1, bt817.2.2.2.1, bt817.2.2.2.2.1, bt817.2.2.2.2.2⟩ : S25)] : List (S25)) : List (S25))).bind fun y827 => ((zq1g.f y827 (⟨#[98, 117, 102]⟩ : ByteArray)).bind fun bt830 => ((zq1g.f y827 (⟨#[103, 101, 116]⟩ : ByteArray)).bind fun bt832 => ((zqa.f (⟨#[98]⟩ : ByteArray) (⟨#[98, 117, 102, 102, 101, 114]⟩ : ByteArray) (⟨#[]⟩ : ByteArray)).bind fun bt834 => ((zq14.f k y827 bt834.1 bt834.2.1 bt834.2.2.1 bt834.2.2.2.1 bt834.2.2.2.2.1 bt834.2.2.2.2.2).bind fun bt844 => ((zq17.f k y827).bind fun bt848 => ((zq16.f k bt848.1).bind fun bt850 => (if bt844.2 = 0 then (if (bt844.1.length : Int) = 3 then (if 1 < (bt844.1.length : Int) then (if (((y0q bt844.1 1).f4).length : Int) = 1 then (if bt848.2 = 0 then (if bt850.2 = 0 then ((zqa.f (⟨#[109]⟩ : ByteArray) (⟨#[]⟩ : ByteArray) (⟨#[112, 117, 116]⟩ : ByteArray)).bind fun bt855 => ((zq18.f k y827 (([(⟨bt855.1, bt855.2.1, bt855.2.2.1, bt855.2.2.2.1, bt855.2.2.2.2.1, bt855.2.2.2.2.2⟩ : S25)] : List (S25)))).bind fun t868 => ((zqr.f k t868 (([0, 1] : List Int))).bind fun t874 => (if t874 = true then ((zqa.f (⟨#[109]⟩ : ByteArray) (⟨#[]⟩ : ByteArray) (⟨#[]⟩ : ByteArray)).bind fun bt875 => ((zq18.f k y827 (([(⟨bt875.1, bt875.2.1, bt875.2.2.1, bt875.2.2.2.1, bt875.2.2.2.2.1, bt875.2.2.2.2.2⟩ : S25)] : List (S25)))).bind fun t888 => (if (t888.length : Int) = 0 then (if bt830.1 = 1 then (if bt830.2 = true then (if bt832.2 = true then (none) else (if 0 < (((y0q bt844.1 1).f4).length : Int) then (if ((y0s ((y0q bt844.1 1).f4) 0).f0).toList = ([98, 117, 102, 102, 101, 114] : List UInt8) then ((zqu.f k y827 bt850.1).bind fun t893 => (if t893 = true then (if 1 < (y827.length : Int) then ((zq1a.f k (([(⟨(y0q y827 1).f0, (y0q y827 1).f1, (y0q y827 1).f2, (y0q y827 1).f3, (y0q y827 1).f4, (y0q y827 1).f5⟩ : S25), (⟨(y0q y827 1).f0, (y0q y827 1).f1, (y0q y827 1).f2, (y0q y827 1).f3, (y0q y827 1).f4, (y0q y827 1).f5⟩ : S25)] : List (S25)))).bind fun t899 => (if t899 = 6 then ((zq1a.f k y827).bind fun t900 => (some (t900 == 0))) else (none))) else (none)) else (none))) else (none)) else (none))) else (none)) else (none)) else (none)))) else (none))))) else (none)) else (none)) else (none)) else (none)) else (none)) else (none)))))))))))) = some r := h
 clear h
 replace H := Option.bind_eq_some_iff.mp H
 obtain ⟨⟨t797, t798, t799, t800, t801, t804⟩, A10, H⟩ := H
 (try dsimp only at H)
 have A1 := q_ A10
 clear A10
 replace H := Option.bind_eq_some_iff.mp H
 obtain ⟨⟨t807, t808, t809, t810, t811, t814⟩, A20, H⟩ := H
 (try dsimp only at H)
 have A2 := q_ A20
 clear A20
 replace H := Option.bind_eq_some_iff.mp H
 obtain ⟨⟨t817, t818, t819, t820, t821, t824⟩, A30, H⟩ := H
 (try dsimp only at H)
 have A3 := q_ A30
 clear A30
 obtain ⟨y827, hy827⟩ : ∃ y_ : List (S25), y_ = (([(⟨t797, t798, t799, t800, t801, t804⟩ : S25), (⟨t807, t808, t809, t810, t811, t814⟩ : S25), (⟨t817, t818, t819, t820, t821, t824⟩ : S25)] : List (S25))) := ⟨_, rfl⟩
 replace H : ((zq1g.f y827 (⟨#[98, 117, 102]⟩ : ByteArray)).bind fun bt830 => ((zq1g.f y827 (⟨#[103, 101, 116]⟩ : ByteArray)).bind fun bt832 => ((zqa.f (⟨#[98]⟩ : ByteArray) (⟨#[98, 117, 102, 102, 101, 114]⟩ : ByteArray) (⟨#[]⟩ : ByteArray)).bind fun bt834 => ((zq14.f k y827 bt834.1 bt834.2.1 bt834.2.2.1 bt834.2.2.2.1 bt834.2.2.2.2.1 bt834.2.2.2.2.2).bind fun bt844 => ((zq17.f k y827).bind fun bt848 => ((zq16.f k bt848.1).bind fun bt850 => (if bt844.2 = 0 then (if (bt844.1.length : Int) = 3 then (if 1 < (bt844.1.length : Int) then (if (((y0q bt844.1 1).f4).length : Int) = 1 then (if bt848.2 = 0 then (if bt850.2 = 0 then ((zqa.f (⟨#[109]⟩ : ByteArray) (⟨#[]⟩ : ByteArray) (⟨#[112, 117, 116]⟩ : ByteArray)).bind fun bt855 => ((zq18.f k y827 (([(⟨bt855.1, bt855.2.1, bt855.2.2.1, bt855.2.2.2.1, bt855.2.2.2.2.1, bt855.2.2.2.2.2⟩ : S25)] : List (S25)))).bind fun t868 => ((zqr.f k t868 (([0, 1] : List Int))).bind fun t874 => (if t874 = true then ((zqa.f (⟨#[109]⟩ : ByteArray) (⟨#[]⟩ : ByteArray) (⟨#[]⟩ : ByteArray)).bind fun bt875 => ((zq18.f k y827 (([(⟨bt875.1, bt875.2.1, bt875.2.2.1, bt875.2.2.2.1, bt875.2.2.2.2.1, bt875.2.2.2.2.2⟩ : S25)] : List (S25)))).bind fun t888 => (if (t888.length : Int) = 0 then (if bt830.1 = 1 then (if bt830.2 = true then (if bt832.2 = true then (none) else (if 0 < (((y0q bt844.1 1).f4).length : Int) then (if ((y0s ((y0q bt844.1 1).f4) 0).f0).toList = ([98, 117, 102, 102, 101, 114] : List UInt8) then ((zqu.f k y827 bt850.1).bind fun t893 => (if t893 = true then (if 1 < (y827.length : Int) then ((zq1a.f k (([(⟨(y0q y827 1).f0, (y0q y827 1).f1, (y0q y827 1).f2, (y0q y827 1).f3, (y0q y827 1).f4, (y0q y827 1).f5⟩ : S25), (⟨(y0q y827 1).f0, (y0q y827 1).f1, (y0q y827 1).f2, (y0q y827 1).f3, (y0q y827 1).f4, (y0q y827 1).f5⟩ : S25)] : List (S25)))).bind fun t899 => (if t899 = 6 then ((zq1a.f k y827).bind fun t900 => (some (t900 == 0))) else (none))) else (none)) else (none))) else (none)) else (none))) else (none)) else (none)) else (none)))) else (none))))) else (none)) else (none)) else (none)) else (none)) else (none)) else (none)))))))) = some r := by first | (rw [hy827]; with_reducible exact H) | (have H2_ := (Option.bind_some _ _).symm.trans H; rw [hy827]; with_reducible exact H2_) | (have H2_ := (Option.bind_some _ _).symm.trans H; with_reducible exact H2_) | with_reducible exact H | (rw [hy827]; exact H) | exact H
 have Ny827 := q_ hy827
 clear hy827
 replace H := Option.bind_eq_some_iff.mp H
 obtain ⟨⟨t830, t831⟩, A40, H⟩ := H
 (try dsimp only at H)
 have A4 := q_ A40
 clear A40
 replace H := Option.bind_eq_some_iff.mp H
 obtain ⟨⟨t832, t833⟩, A50, H⟩ := H
 (try dsimp only at H)
 have A5 := q_ A50
 clear A50
 replace H := Option.bind_eq_some_iff.mp H
 obtain ⟨⟨t834, t835, t836, t837, t838, t841⟩, A60, H⟩ := H
 (try dsimp only at H)
 have A6 := q_ A60
 clear A60
 replace H := Option.bind_eq_some_iff.mp H
 obtain ⟨⟨t844, t847⟩, A70, H⟩ := H
 (try dsimp only at H)
 have A7 := q_ A70
 clear A70
 replace H := Option.bind_eq_some_iff.mp H
 obtain ⟨⟨t848, t849⟩, A80, H⟩ := H
 (try dsimp only at H)
 have A8 := q_ A80
 clear A80
 replace H := Option.bind_eq_some_iff.mp H
 obtain ⟨⟨t850, t851⟩, A90, H⟩ := H
 (try dsimp only at H)
 have A9 := q_ A90
 clear A90
 by_cases c10 : t847 = 0
 rotate_left
 ·rw [if_neg c10] at H
  exact absurd H (by simp)
 rw [if_pos c10] at H
 have c10b0 : (t847 == 0) = true := beq_iff_eq.mpr c10
 have c10b1 : (t847 != 0) = false := bne_eq_false_iff_eq.mpr c10
 clear c10
 by_cases c11 : (t844.length : Int) = 3
 rotate_left
 ·rw [if_neg c11] at H
  exact absurd H (by simp)
 rw [if_pos c11] at H
 have c11b0 : ((t844.length : Int) == 3) = true := beq_iff_eq.mpr c11
 have c11b1 : ((t844.length : Int) != 3) = false := bne_eq_false_iff_eq.mpr c11
 clear c11
 by_cases c12 : 1 < (t844.length : Int)
 rotate_left
 ·rw [if_neg c12] at H
  exact absurd H (by simp)
 rw [if_pos c12] at H
 have c12b0 : decide (1 < (t844.length : Int)) = true := decide_eq_true c12
 have c12b1 : decide (1 < t844.length) = true := decide_eq_true (by omega)
 clear c12
 by_cases c13 : (((y0q t844 1).f4).length : Int) = 1
 rotate_left
 ·rw [if_neg c13] at H
  exact absurd H (by simp)
 rw [if_pos c13] at H
 have c13b0 : ((((y0q t844 1).f4).length : Int) == 1) = true := beq_iff_eq.mpr c13
 have c13b1 : ((((y0q t844 1).f4).length : Int) != 1) = false := bne_eq_false_iff_eq.mpr c13
 clear c13
 by_cases c14 : t849 = 0
 rotate_left
 ·rw [if_neg c14] at H
  exact absurd H (by simp)
 rw [if_pos c14] at H
 have c14b0 : (t849 == 0) = true := beq_iff_eq.mpr c14
 have c14b1 : (t849 != 0) = false := bne_eq_false_iff_eq.mpr c14
 clear c14
 by_cases c15 : t851 = 0
 rotate_left
 ·rw [if_neg c15] at H
  exact absurd H (by simp)
 rw [if_pos c15] at H
 have c15b0 : (t851 == 0) = true := beq_iff_eq.mpr c15
 have c15b1 : (t851 != 0) = false := bne_eq_false_iff_eq.mpr c15
 clear c15
 replace H := Option.bind_eq_some_iff.mp H
 obtain ⟨⟨t855, t856, t857, t858, t859, t862⟩, A160, H⟩ := H
 (try dsimp only at H)
 have A16 := q_ A160
 clear A160
 obtain ⟨y865, hy865⟩ : ∃ y_ : List (S25), y_ = (([(⟨t855, t856, t857, t858, t859, t862⟩ : S25)] : List (S25))) := ⟨_, rfl⟩
 replace H : ((zq18.f k y827 y865).bind fun t868 => ((zqr.f k t868 (([0, 1] : List Int))).bind fun t874 => (if t874 = true then ((zqa.f (⟨#[109]⟩ : ByteArray) (⟨#[]⟩ : ByteArray) (⟨#[]⟩ : ByteArray)).bind fun bt875 => ((zq18.f k y827 (([(⟨bt875.1, bt875.2.1, bt875.2.2.1, bt875.2.2.2.1, bt875.2.2.2.2.1, bt875.2.2.2.2.2⟩ : S25)] : List (S25)))).bind fun t888 => (if (t888.length : Int) = 0 then (if t830 = 1 then (if t831 = true then (if t833 = true then (none) else (if 0 < (((y0q t844 1).f4).length : Int) then (if ((y0s ((y0q t844 1).f4) 0).f0).toList = ([98, 117, 102, 102, 101, 114] : List UInt8) then ((zqu.f k y827 t850).bind fun t893 => (if t893 = true then (if 1 < (y827.length : Int) then ((zq1a.f k (([(⟨(y0q y827 1).f0, (y0q y827 1).f1, (y0q y827 1).f2, (y0q y827 1).f3, (y0q y827 1).f4, (y0q y827 1).f5⟩ : S25), (⟨(y0q y827 1).f0, (y0q y827 1).f1, (y0q y827 1).f2, (y0q y827 1).f3, (y0q y827 1).f4, (y0q y827 1).f5⟩ : S25)] : List (S25)))).bind fun t899 => (if t899 = 6 then ((zq1a.f k y827).bind fun t900 => (some (t900 == 0))) else (none))) else (none)) else (none))) else (none)) else (none))) else (none)) else (none)) else (none)))) else (none)))) = some r := by first | (rw [hy865]; with_reducible exact H) | (have H2_ := (Option.bind_some _ _).symm.trans H; rw [hy865]; with_reducible exact H2_) | (have H2_ := (Option.bind_some _ _).symm.trans H; with_reducible exact H2_) | with_reducible exact H | (rw [hy865]; exact H) | exact H
 have Ny865 := q_ hy865
 clear hy865
 replace H := Option.bind_eq_some_iff.mp H
 obtain ⟨t868, A170, H⟩ := H
 (try dsimp only at H)
 have A17 := q_ A170
 clear A170
 obtain ⟨y871, hy871⟩ : ∃ y_ : List Int, y_ = (([0, 1] : List Int)) := ⟨_, rfl⟩
 replace H : ((zqr.f k t868 y871).bind fun t874 => (if t874 = true then ((zqa.f (⟨#[109]⟩ : ByteArray) (⟨#[]⟩ : ByteArray) (⟨#[]⟩ : ByteArray)).bind fun bt875 => ((zq18.f k y827 (([(⟨bt875.1, bt875.2.1, bt875.2.2.1, bt875.2.2.2.1, bt875.2.2.2.2.1, bt875.2.2.2.2.2⟩ : S25)] : List (S25)))).bind fun t888 => (if (t888.length : Int) = 0 then (if t830 = 1 then (if t831 = true then (if t833 = true then (none) else (if 0 < (((y0q t844 1).f4).length : Int) then (if ((y0s ((y0q t844 1).f4) 0).f0).toList = ([98, 117, 102, 102, 101, 114] : List UInt8) then ((zqu.f k y827 t850).bind fun t893 => (if t893 = true then (if 1 < (y827.length : Int) then ((zq1a.f k (([(⟨(y0q y827 1).f0, (y0q y827 1).f1, (y0q y827 1).f2, (y0q y827 1).f3, (y0q y827 1).f4, (y0q y827 1).f5⟩ : S25), (⟨(y0q y827 1).f0, (y0q y827 1).f1, (y0q y827 1).f2, (y0q y827 1).f3, (y0q y827 1).f4, (y0q y827 1).f5⟩ : S25)] : List (S25)))).bind fun t899 => (if t899 = 6 then ((zq1a.f k y827).bind fun t900 => (some (t900 == 0))) else (none))) else (none)) else (none))) else (none)) else (none))) else (none)) else (none)) else (none)))) else (none))) = some r := by first | (rw [hy871]; with_reducible exact H) | (have H2_ := (Option.bind_some _ _).symm.trans H; rw [hy871]; with_reducible exact H2_) | (have H2_ := (Option.bind_some _ _).symm.trans H; with_reducible exact H2_) | with_reducible exact H | (rw [hy871]; exact H) | exact H
 have Ny871 := q_ hy871
 clear hy871
 replace H := Option.bind_eq_some_iff.mp H
 obtain ⟨t874, A180, H⟩ := H
 (try dsimp only at H)
 have A18 := q_ A180
 clear A180
 by_cases c19 : t874 = true
 rotate_left
 ·replace c19 := Bool.eq_false_iff.mpr c19
  subst c19
  rw [if_neg (show ¬ (false = true) by decide)] at H
  exact absurd H (by simp)
 subst c19
 rw [if_pos rfl] at H
 replace H := Option.bind_eq_some_iff.mp H
 obtain ⟨⟨t875, t876, t877, t878, t879, t882⟩, A200, H⟩ := H
 (try dsimp only at H)
 have A20 := q_ A200
 clear A200
 obtain ⟨y885, hy885⟩ : ∃ y_ : List (S25), y_ = (([(⟨t875, t876, t877, t878, t879, t882⟩ : S25)] : List (S25))) := ⟨_, rfl⟩
 replace H : ((zq18.f k y827 y885).bind fun t888 => (if (t888.length : Int) = 0 then (if t830 = 1 then (if t831 = true then (if t833 = true then (none) else (if 0 < (((y0q t844 1).f4).length : Int) then (if ((y0s ((y0q t844 1).f4) 0).f0).toList = ([98, 117, 102, 102, 101, 114] : List UInt8) then ((zqu.f k y827 t850).bind fun t893 => (if t893 = true then (if 1 < (y827.length : Int) then ((zq1a.f k (([(⟨(y0q y827 1).f0, (y0q y827 1).f1, (y0q y827 1).f2, (y0q y827 1).f3, (y0q y827 1).f4, (y0q y827 1).f5⟩ : S25), (⟨(y0q y827 1).f0, (y0q y827 1).f1, (y0q y827 1).f2, (y0q y827 1).f3, (y0q y827 1).f4, (y0q y827 1).f5⟩ : S25)] : List (S25)))).bind fun t899 => (if t899 = 6 then ((zq1a.f k y827).bind fun t900 => (some (t900 == 0))) else (none))) else (none)) else (none))) else (none)) else (none))) else (none)) else (none)) else (none))) = some r := by first | (rw [hy885]; with_reducible exact H) | (have H2_ := (Option.bind_some _ _).symm.trans H; rw [hy885]; with_reducible exact H2_) | (have H2_ := (Option.bind_some _ _).symm.trans H; with_reducible exact H2_) | with_reducible exact H | (rw [hy885]; exact H) | exact H
 have Ny885 := q_ hy885
 clear hy885
 replace H := Option.bind_eq_some_iff.mp H
 obtain ⟨t888, A210, H⟩ := H
 (try dsimp only at H)
 have A21 := q_ A210
 clear A210
 by_cases c22 : (t888.length : Int) = 0
 rotate_left
 ·rw [if_neg c22] at H
  exact absurd H (by simp)
 rw [if_pos c22] at H
 have c22b0 : ((t888.length : Int) == 0) = true := beq_iff_eq.mpr c22
 have c22b1 : ((t888.length : Int) != 0) = false := bne_eq_false_iff_eq.mpr c22
 clear c22
 by_cases c23 : t830 = 1
 rotate_left
 ·rw [if_neg c23] at H
  exact absurd H (by simp)
 rw [if_pos c23] at H
 have c23b0 : (t830 == 1) = true := beq_iff_eq.mpr c23
 have c23b1 : (t830 != 1) = false := bne_eq_false_iff_eq.mpr c23
 clear c23
 by_cases c24 : t831 = true
 rotate_left
 ·replace c24 := Bool.eq_false_iff.mpr c24
  subst c24
  rw [if_neg (show ¬ (false = true) by decide)] at H
  exact absurd H (by simp)
 subst c24
 rw [if_pos rfl] at H
 by_cases c25 : t833 = true
 ·subst c25
  rw [if_pos rfl] at H
  exact absurd H (by simp)
 replace c25 := Bool.eq_false_iff.mpr c25
 subst c25
 rw [if_neg (show ¬ (false = true) by decide)] at H
 by_cases c26 : 0 < (((y0q t844 1).f4).length : Int)
 rotate_left
 ·rw [if_neg c26] at H
  exact absurd H (by simp)
 rw [if_pos c26] at H
 have c26b0 : decide (0 < (((y0q t844 1).f4).length : Int)) = true := decide_eq_true c26
 have c26b1 : decide (0 < ((y0q t844 1).f4).length) = true := decide_eq_true (by omega)
 clear c26
 by_cases c27 : ((y0s ((y0q t844 1).f4) 0).f0).toList = ([98, 117, 102, 102, 101, 114] : List UInt8)
 rotate_left
 ·rw [if_neg c27] at H
  exact absurd H (by simp)
 rw [if_pos c27] at H
 have c27b0 : (((y0s ((y0q t844 1).f4) 0).f0).toList == ([98, 117, 102, 102, 101, 114] : List UInt8)) = true := beq_iff_eq.mpr c27
 have c27b1 : (((y0s ((y0q t844 1).f4) 0).f0).toList != ([98, 117, 102, 102, 101, 114] : List UInt8)) = false := bne_eq_false_iff_eq.mpr c27
 clear c27
 replace H := Option.bind_eq_some_iff.mp H
 obtain ⟨t893, A280, H⟩ := H
 (try dsimp only at H)
 have A28 := q_ A280
 clear A280
 by_cases c29 : t893 = true
 rotate_left
 ·replace c29 := Bool.eq_false_iff.mpr c29
  subst c29
  rw [if_neg (show ¬ (false = true) by decide)] at H
  exact absurd H (by simp)
 subst c29
 rw [if_pos rfl] at H
 by_cases c30 : 1 < (y827.length : Int)
 rotate_left
 ·rw [if_neg c30] at H
  exact absurd H (by simp)
 rw [if_pos c30] at H
 have c30b0 : decide (1 < (y827.length : Int)) = true := decide_eq_true c30
 have c30b1 : decide (1 < y827.length) = true := decide_eq_true (by omega)
 clear c30
 obtain ⟨y896, hy896⟩ : ∃ y_ : List (S25), y_ = (([(⟨(y0q y827 1).f0, (y0q y827 1).f1, (y0q y827 1).f2, (y0q y827 1).f3, (y0q y827 1).f4, (y0q y827 1).f5⟩ : S25), (⟨(y0q y827 1).f0, (y0q y827 1).f1, (y0q y827 1).f2, (y0q y827 1).f3, (y0q y827 1).f4, (y0q y827 1).f5⟩ : S25)] : List (S25))) := ⟨_, rfl⟩
 replace H : ((zq1a.f k y896).bind fun t899 => (if t899 = 6 then ((zq1a.f k y827).bind fun t900 => (some (t900 == 0))) else (none))) = some r := by first | (rw [hy896]; with_reducible exact H) | (have H2_ := (Option.bind_some _ _).symm.trans H; rw [hy896]; with_reducible exact H2_) | (have H2_ := (Option.bind_some _ _).symm.trans H; with_reducible exact H2_) | with_reducible exact H | (rw [hy896]; exact H) | exact H
 have Ny896 := q_ hy896
 clear hy896
 replace H := Option.bind_eq_some_iff.mp H
 obtain ⟨t899, A310, H⟩ := H
 (try dsimp only at H)
 have A31 := q_ A310
 clear A310
 by_cases c32 : t899 = 6
 rotate_left
 ·rw [if_neg c32] at H
  exact absurd H (by simp)
 rw [if_pos c32] at H
 have c32b0 : (t899 == 6) = true := beq_iff_eq.mpr c32
 have c32b1 : (t899 != 6) = false := bne_eq_false_iff_eq.mpr c32
 clear c32
 replace H := Option.bind_eq_some_iff.mp H
 obtain ⟨t900, A330, H⟩ := H
 (try dsimp only at H)
 have A33 := q_ A330
 clear A330
 obtain rfl := Option.some.inj H
 go_enter Try.func36, Try.ntmps36
 try go_wp2_with (first | ((with_reducible refine y0j (f := 77) rfl ?_); refine goesL_ (some 12) rfl rfl Try.func77 (by kernel_rfl) rfl #[.string (⟨#[112]⟩ : ByteArray), .string (⟨#[112, 117, 116]⟩ : ByteArray), .string (⟨#[98, 117, 102]⟩ : ByteArray)] rfl ar_ ?_; (with_reducible refine (zqa.calls (⟨#[112]⟩ : ByteArray) (⟨#[112, 117, 116]⟩ : ByteArray) (⟨#[98, 117, 102]⟩ : ByteArray) t797 t798 t799 t800 t801 t804 _ A1.out).mono ?_); rintro e w34 ⟨v802, v805, rfl, ho0, ho1, hb⟩; refine ⟨_, rfl, ?_⟩; have n0_ := q_ (Kd.R_lower ho0 (y04 hb_)); have n1_ := q_ (Kd.R_lower ho1 (y04 hb_)); have n2_ := q_ (y05 hb_ hb); clear HB; have HO803 := n0_; have HO806 := n1_; have HB := n2_; clear n0_ n1_ n2_; (try clear hb); (try clear hb2); (try clear hk); (try clear hi); (try clear ho0); (try clear ho1)) | ((with_reducible refine y0j (f := 77) rfl ?_); refine goesL_ (some 13) rfl rfl Try.func77 (by kernel_rfl) rfl #[.string (⟨#[98]⟩ : ByteArray), .string (⟨#[98, 117, 102]⟩ : ByteArray), .string (⟨#[]⟩ : ByteArray)] rfl ar_ ?_; (with_reducible refine (zqa.calls (⟨#[98]⟩ : ByteArray) (⟨#[98, 117, 102]⟩ : ByteArray) (⟨#[]⟩ : ByteArray) t807 t808 t809 t810 t811 t814 _ A2.out).mono ?_); rintro e w35 ⟨v812, v815, rfl, ho0, ho1, hb⟩; refine ⟨_, rfl, ?_⟩; have n0_ := q_ (Kd.R_elder' (rk_ HO803.out) (Kd.R_base ho0) hb); have n1_ := q_ (Kd.R_elder' (rk_ HO806.out) (Kd.R_base ho1) hb); have n2_ := q_ (Kd.R_lower (Kd.R_new' ho0 (Kd.R_lt (rk_ HO803.out))) (y04 hb_)); have n3_ := q_ (Kd.R_lower (Kd.R_new' ho1 (Kd.R_lt (rk_ HO806.out))) (y04 hb_)); have n4_ := q_ (y05 hb_ hb); clear HO803 HO806 HB; have HO803 := n0_; have HO806 := n1_; have HO813 := n2_; have HO816 := n3_; have HB := n4_; clear n0_ n1_ n2_ n3_ n4_; (try clear hb); (try clear hb2); (try clear hk); (try clear hi); (try clear ho0); (try clear ho1)) | ((with_reducible refine y0j (f := 77) rfl ?_); refine goesL_ (some 14) rfl rfl Try.func77 (by kernel_rfl) rfl #[.string (⟨#[120]⟩ : ByteArray), .string (⟨#[]⟩ : ByteArray), .string (⟨#[]⟩ : ByteArray)] rfl ar_ ?_; (with_reducible refine (zqa.calls (⟨#[120]⟩ : ByteArray) (⟨#[]⟩ : ByteArray) (⟨#[]⟩ : ByteArray) t817 t818 t819 t820 t821 t824 _ A3.out).mono ?_); rintro e w36 ⟨v822, v825, rfl, ho0, ho1, hb⟩; refine ⟨_, rfl, ?_⟩; have n0_ := q_ (Kd.R_elder' (rk_ HO803.out) (Kd.R_base ho0) hb); have n1_ := q_ (Kd.R_elder' (rk_ HO806.out) (Kd.R_base ho1) hb); have n2_ := q_ (Kd.R_elder' (rk_ HO813.out) (Kd.R_base ho0) hb); have n3_ := q_ (Kd.R_elder' (rk_ HO816.out) (Kd.R_base ho1) hb); have n4_ := q_ (Kd.R_lower (Kd.R_new' (Kd.R_new' ho0 (Kd.R_lt (rk_ HO803.out))) (Kd.R_lt (rk_ HO813.out))) (y04 hb_)); have n5_ := q_ (Kd.R_lower (Kd.R_new' (Kd.R_new' ho1 (Kd.R_lt (rk_ HO806.out))) (Kd.R_lt (rk_ HO816.out))) (y04 hb_)); have n6_ := q_ (y05 hb_ hb); clear HO803 HO806 HO813 HO816 HB; have HO803 := n0_; have HO806 := n1_; have HO813 := n2_; have HO816 := n3_; have HO823 := n4_; have HO826 := n5_; have HB := n6_; clear n0_ n1_ n2_ n3_ n4_ n5_ n6_; (try clear hb); (try clear hb2); (try clear hk); (try clear hi); (try clear ho0); (try clear ho1); obtain ⟨Ao37, co37, eo37⟩ := Kd.R_slice HO803.out; subst eo37; obtain ⟨Ao38, co38, eo38⟩ := Kd.R_slice HO806.out; subst eo38; obtain ⟨Ao39, co39, eo39⟩ := Kd.R_slice HO813.out; subst eo39; obtain ⟨Ao40, co40, eo40⟩ := Kd.R_slice HO816.out; subst eo40; obtain ⟨Ao41, co41, eo41⟩ := Kd.R_slice HO823.out; subst eo41; obtain ⟨Ao42, co42, eo42⟩ := Kd.R_slice HO826.out; subst eo42) | ((with_reducible refine y0k (N := 15) rfl ?_); (try (refine y0l (by rfl) ?_; dsimp only)); refine Kd.N_lit k25 _ 25 ?hg (N' := 15) ?hd (xs := ([(⟨t797, t798, t799, t800, t801, t804⟩ : S25), (⟨t807, t808, t809, t810, t811, t814⟩ : S25), (⟨t817, t818, t819, t820, t821, t824⟩ : S25)] : List (S25))) (inner := [.string t797, .string t798, .string t799, .int .i64 t800, .slice Ao37 t801.length co37, .slice Ao38 t804.length co38, .string t807, .string t808, .string t809, .int .i64 t810, .slice Ao39 t811.length co39, .slice Ao40 t814.length co40, .string t817, .string t818, .string t819, .int .i64 t820, .slice Ao41 t821.length co41, .slice Ao42 t824.length co42]) (ok := (fun _ => True)) (okp := (fun _ => True)) ?hr ?hp (fun _ hk => hk) ((show ∀ k_, w36.heap.size ≤ k_ → (fun _ => True) k_ from fun k_ hk => trivial) _ (Nat.le_refl _)) (Below.refl _ _) (Nat.le_refl _) (by simp) ?_; (case hd => rfl); (case hg => rfl); (case hr => first | (go_simp; done) | (go_simp; rfl)); (case hp => exact (Reps.c6 (show Kd.FK k25 _ _ (⟨t797, t798, t799, t800, t801, t804⟩ : S25) [.string t797, .string t798, .string t799, .int .i64 t800, .slice Ao37 t801.length co37, .slice Ao38 t804.length co38] from (k25_mkF _ _ (⟨t797, t798, t799, t800, t801, t804⟩ : S25) (Kd.R_reads' (Kd.R_mono (ok' := (fun _ => True)) (HO803.out) (fun k_ hk => trivial))).2.1 (Kd.R_F (Kd.R_mono (ok' := (fun _ => True)) (HO803.out) (fun k_ hk => trivial))) (Kd.R_reads' (Kd.R_mono (ok' := (fun _ => True)) (HO806.out) (fun k_ hk => trivial))).2.1 (Kd.R_F (Kd.R_mono (ok' := (fun _ => True)) (HO806.out) (fun k_ hk => trivial))))) (Reps.c6 (show Kd.FK k25 _ _ (⟨t807, t808, t809, t810, t811, t814⟩ : S25) [.string t807, .string t808, .string t809, .int .i64 t810, .slice Ao39 t811.length co39, .slice Ao40 t814.length co40] from (k25_mkF _ _ (⟨t807, t808, t809, t810, t811, t814⟩ : S25) (Kd.R_reads' (Kd.R_mono (ok' := (fun _ => True)) (HO813.out) (fun k_ hk => trivial))).2.1 (Kd.R_F (Kd.R_mono (ok' := (fun _ => True)) (HO813.out) (fun k_ hk => trivial))) (Kd.R_reads' (Kd.R_mono (ok' := (fun _ => True)) (HO816.out) (fun k_ hk => trivial))).2.1 (Kd.R_F (Kd.R_mono (ok' := (fun _ => True)) (HO816.out) (fun k_ hk => trivial))))) (Reps.c6 (show Kd.FK k25 _ _ (⟨t817, t818, t819, t820, t821, t824⟩ : S25) [.string t817, .string t818, .string t819, .int .i64 t820, .slice Ao41 t821.length co41, .slice Ao42 t824.length co42] from (k25_mkF _ _ (⟨t817, t818, t819, t820, t821, t824⟩ : S25) (Kd.R_reads' (Kd.R_mono (ok' := (fun _ => True)) (HO823.out) (fun k_ hk => trivial))).2.1 (Kd.R_F (Kd.R_mono (ok' := (fun _ => True)) (HO823.out) (fun k_ hk => trivial))) (Kd.R_reads' (Kd.R_mono (ok' := (fun _ => True)) (HO826.out) (fun k_ hk => trivial))).2.1 (Kd.R_F (Kd.R_mono (ok' := (fun _ => True)) (HO826.out) (fun k_ hk => trivial))))) (Reps.none _ _))))); intro v828 w43 ho44 hb hg_ hnew_; clear hg_ hnew_; (first | rw [← Ny827.out] at ho44 | (simp only [Int.reduceToNat] at ho44; rw [← Ny827.out] at ho44)); have n0_ := q_ (Kd.N_lower ho44 (y04 hb_)); have n1_ := q_ (y05 hb_ hb); clear HB HO803 HO806 HO813 HO816 HO823 HO826; have HO829 := n0_; have HB := n1_; clear n0_ n1_; clear hb ho44; obtain ⟨Ao45, co45, eo45⟩ := Kd.N_slice HO829.out; subst eo45) | ((with_reducible refine y0j (f := 32) rfl ?_); refine goesL_ (some 18) rfl rfl Try.func32 (by kernel_rfl) rfl #[.slice Ao45 y827.length co45, .string (⟨#[98, 117, 102]⟩ : ByteArray)] rfl ar_ ?_; (with_reducible refine (zq1g.calls _ _ y827 (⟨#[98, 117, 102]⟩ : ByteArray) t830 true _ ?side1 ?side2 A4.out).mono ?_); (case side1 => exact ck_ (Kd.N_reads' HO829.out).2.2); (case side2 => exact (Kd.N_reads' HO829.out).2.1); rintro e w46 ⟨rfl, hb⟩; refine ⟨_, rfl, ?_⟩; have n0_ := q_ (Kd.N_below (nk_ HO829.out) hb); have n1_ := q_ (y05 hb_ hb); clear HO829 HB; have HO829 := n0_; have HB := n1_; clear n0_ n1_; (try clear hb); (try clear hb2); (try clear hk); (try clear hi)) | ((with_reducible refine y0j (f := 32) rfl ?_); refine goesL_ (some 23) rfl rfl Try.func32 (by kernel_rfl) rfl #[.slice Ao45 y827.length co45, .string (⟨#[103, 101, 116]⟩ : ByteArray)] rfl ar_ ?_; (with_reducible refine (zq1g.calls _ _ y827 (⟨#[103, 101, 116]⟩ : ByteArray) t832 false _ ?side1 ?side2 A5.out).mono ?_); (case side1 => exact ck_ (Kd.N_reads' HO829.out).2.2); (case side2 => exact (Kd.N_reads' HO829.out).2.1); rintro e w47 ⟨rfl, hb⟩; refine ⟨_, rfl, ?_⟩; have n0_ := q_ (Kd.N_below (nk_ HO829.out) hb); have n1_ := q_ (y05 hb_ hb); clear HO829 HB; have HO829 := n0_; have HB := n1_; clear n0_ n1_; (try clear hb); (try clear hb2); (try clear hk); (try clear hi)) | ((with_reducible refine y0j (f := 77) rfl ?_); refine goesL_ (some 28) rfl rfl Try.func77 (by kernel_rfl) rfl #[.string (⟨#[98]⟩ : ByteArray), .string (⟨#[98, 117, 102, 102, 101, 114]⟩ : ByteArray), .string (⟨#[]⟩ : ByteArray)] rfl ar_ ?_; (with_reducible refine (zqa.calls (⟨#[98]⟩ : ByteArray) (⟨#[98, 117, 102, 102, 101, 114]⟩ : ByteArray) (⟨#[]⟩ : ByteArray) t834 t835 t836 t837 t838 t841 _ A6.out).mono ?_); rintro e w48 ⟨v839, v842, rfl, ho0, ho1, hb⟩; refine ⟨_, rfl, ?_⟩; have n0_ := q_ (Kd.N_mono (Kd.N_told (Kd.N_told (Kd.N_old (nk_ HO829.out) hb) (Kd.R_base ho0)) (Kd.R_base ho1)) (fun _ h_ => h_.1)); have n1_ := q_ (Kd.R_lower ho0 (y04 hb_)); have n2_ := q_ (Kd.R_lower ho1 (y04 hb_)); have n3_ := q_ (y05 hb_ hb); clear HO829 HB; have HO829 := n0_; have HO840 := n1_; have HO843 := n2_; have HB := n3_; clear n0_ n1_ n2_ n3_; (try clear hb); (try clear hb2); (try clear hk); (try clear hi); (try clear ho0); (try clear ho1); obtain ⟨Ao49, co49, eo49⟩ := Kd.R_slice HO840.out; subst eo49; obtain ⟨Ao50, co50, eo50⟩ := Kd.R_slice HO843.out; subst eo50) | ((with_reducible refine y0j (f := 45) rfl ?_); refine goesL_ (some 29) rfl rfl Try.func45 (by kernel_rfl) rfl #[.slice Ao45 y827.length co45, .agg #[.string t834, .string t835, .string t836, .int .i64 t837, .slice Ao49 t838.length co49, .slice Ao50 t841.length co50]] rfl ar_ ?_; (with_reducible refine (zq14.calls k (fun k_ => ((True ∧ some k_ ≠ (.slice Ao49 t838.length co49 : Value).ownBlock) ∧ some k_ ≠ (.slice Ao50 t841.length co50 : Value).ownBlock)) _ _ y827 t834 t835 t836 t837 (fun k_ => some k_ = (.slice Ao49 t838.length co49 : Value).ownBlock) _ _ t838 (fun k_ => some k_ = (.slice Ao50 t841.length co50 : Value).ownBlock) _ _ t841 t844 t847 _ ?side1 ?side2 ?side3 A7.out).mono ?_); (case side1 => exact Kd.N_V (HO829.out)); (case side2 => exact Kd.R_V (Kd.R_tight rfl (Kd.R_apart' (Kd.R_apart' (HO840.out) (Kd.N_typed HO829.out) (by decide)) (Kd.R_typed HO843.out) (by decide)))); (case side3 => exact Kd.R_V (Kd.R_tight rfl (Kd.R_apart' (Kd.R_apart' (HO843.out) (Kd.N_typed HO829.out) (by decide)) (Kd.R_typed HO840.out) (by decide)))); rintro e w51 ⟨v845, rfl, ho0, hb⟩; refine ⟨_, rfl, ?_⟩; have n0_ := q_ (Kd.N_elder' (nk_ HO829.out) (Kd.N_base ho0) hb); have n1_ := q_ (Kd.R_below (rk_ HO840.out) hb); have n2_ := q_ (Kd.R_below (rk_ HO843.out) hb); have n3_ := q_ (Kd.N_lower (Kd.N_mono (ok' := fun k_ => True) ho0 (fun k_ hk_ => trivial)) (y04 hb_)); have n4_ := q_ (y05 hb_ hb); clear HO829 HO840 HO843 HB; have HO829 := n0_; have HO840 := n1_; have HO843 := n2_; have HO846 := n3_; have HB := n4_; clear n0_ n1_ n2_ n3_ n4_; (try clear hb); (try clear hb2); (try clear hk); (try clear hi); (try clear ho0)) | ((with_reducible refine y0j (f := 37) rfl ?_); refine goesL_ (some 34) rfl rfl Try.func37 (by kernel_rfl) rfl #[.slice Ao45 y827.length co45] rfl ar_ ?_; (with_reducible refine (zq17.calls k _ _ y827 t848 t849 _ ?side1 ?side2 A8.out).mono ?_); (case side1 => exact ck_ (Kd.N_reads' HO829.out).2.2); (case side2 => exact (Kd.N_reads' HO829.out).2.1); rintro e w52 ⟨rfl, hb⟩; refine ⟨_, rfl, ?_⟩; have n0_ := q_ (Kd.N_below (nk_ HO829.out) hb); have n1_ := q_ (Kd.R_below (rk_ HO840.out) hb); have n2_ := q_ (Kd.R_below (rk_ HO843.out) hb); have n3_ := q_ (Kd.N_below (nk_ HO846.out) hb); have n4_ := q_ (y05 hb_ hb); clear HO829 HO840 HO843 HO846 HB; have HO829 := n0_; have HO840 := n1_; have HO843 := n2_; have HO846 := n3_; have HB := n4_; clear n0_ n1_ n2_ n3_ n4_; (try clear hb); (try clear hb2); (try clear hk); (try clear hi)) | ((with_reducible refine y0j (f := 39) rfl ?_); refine goesL_ (some 39) rfl rfl Try.func39 (by kernel_rfl) rfl #[.string t848] rfl ar_ ?_; (with_reducible refine (zq16.calls k t848 t850 t851 _ A9.out).mono ?_); rintro e w53 ⟨v852, rfl, ho0, hb⟩; refine ⟨_, rfl, ?_⟩; have n0_ := q_ (Kd.N_elder' (nk_ HO829.out) (Kd.N_base (Kd.S_N (Kd.S_bound ho0))) hb); have n1_ := q_ (Kd.R_below (rk_ HO840.out) hb); have n2_ := q_ (Kd.R_below (rk_ HO843.out) hb); have n3_ := q_ (Kd.N_elder' (nk_ HO846.out) (Kd.N_base (Kd.S_N (Kd.S_bound ho0))) hb); have n4_ := q_ (Kd.N_lower (Kd.N_mono (ok' := fun k_ => some k_ ≠ (.slice Ao45 y827.length co45 : Value).ownBlock ∧ some k_ ≠ (.slice Ao49 t838.length co49 : Value).ownBlock ∧ some k_ ≠ (.slice Ao50 t841.length co50 : Value).ownBlock ∧ some k_ ≠ (v845 : Value).ownBlock) (Kd.S_N (Kd.S_bound ho0)) (fun k_ hk_ => ⟨(Kd.fresh' (Kd.N_lt (nk_ HO829.out)) k_ hk_.2.1), (Kd.fresh' (Kd.R_lt (rk_ HO840.out)) k_ hk_.2.1), (Kd.fresh' (Kd.R_lt (rk_ HO843.out)) k_ hk_.2.1), (Kd.fresh' (Kd.N_lt (nk_ HO846.out)) k_ hk_.2.1)⟩)) (y04 hb_)); have n5_ := q_ (y05 hb_ hb); clear HO829 HO840 HO843 HO846 HB; have HO829 := n0_; have HO840 := n1_; have HO843 := n2_; have HO846 := n3_; have HO853 := n4_; have HB := n5_; clear n0_ n1_ n2_ n3_ n4_ n5_; (try clear hb); (try clear hb2); (try clear hk); (try clear hi); (try clear ho0); obtain ⟨Ao54, co54, eo54⟩ := Kd.N_slice HO846.out; subst eo54; have p854 : 0 ≤ (1 : Int) := (by omega); have q854 : 1 < (t844.length : Int) := oa_; obtain ⟨ad854, A854_4, c854_4, A854_5, c854_5, e854, hx854_0, hx854_1, hx854_2, hx854_3, hx854_4, hx854_5, hl854_4, hi854_4, hl854_5, hi854_5⟩ := at_T25 (Kd.N_reads' HO846.out).2.2 1 p854 q854; cases e854; obtain ⟨ce854, hce854, hMe854, hcc854⟩ := Kd.N_get HO846.out z25 1 p854 (by first | exact q854 | exact oa_ | (have e_ := (Kd.N_reads' HO846.out).1; omega)); obtain ⟨ua854_4, uc854_4, ua854_5, uc854_5, rfl, ul854_4, ge854_4, ul854_5, ge854_5⟩ := k25_openF hMe854; have hv854_4 := hcc854 4 _ rfl; rw [y00 _ _ 4 (by omega)] at hv854_4; replace hv854_4 := Option.some.inj (hv854_4.symm.trans hx854_4); injection hv854_4 with hva_ hvn_ hvc_; rw [hva_] at ge854_4; rw [hvc_] at ul854_4; have HL854_4 := q_ (show Kd.V k62 62 _ w.heap.size _ _ ((y0q t844 1).f4) from Kd.V_mk ul854_4 ge854_4); clear hva_ hvn_ hvc_ ge854_4 ul854_4; have hv854_5 := hcc854 5 _ rfl; rw [y00 _ _ 5 (by omega)] at hv854_5; replace hv854_5 := Option.some.inj (hv854_5.symm.trans hx854_5); injection hv854_5 with hva_ hvn_ hvc_; rw [hva_] at ge854_5; rw [hvc_] at ul854_5; have HL854_5 := q_ (show Kd.V k43 43 _ w.heap.size _ _ ((y0q t844 1).f5) from Kd.V_mk ul854_5 ge854_5); clear hva_ hvn_ hvc_ ge854_5 ul854_5; clear hcc854 hce854; (try simp only [show (1 : Int).toNat = 1 from rfl, Nat.reduceMul, Nat.reduceEqDiff, Go.Addr.add, ↓reduceIte] at hx854_0); (try simp only [show (1 : Int).toNat = 1 from rfl, Nat.reduceMul, Nat.reduceEqDiff, Go.Addr.add, ↓reduceIte] at hx854_1); (try simp only [show (1 : Int).toNat = 1 from rfl, Nat.reduceMul, Nat.reduceEqDiff, Go.Addr.add, ↓reduceIte] at hx854_2); (try simp only [show (1 : Int).toNat = 1 from rfl, Nat.reduceMul, Nat.reduceEqDiff, Go.Addr.add, ↓reduceIte] at hx854_3); (try simp only [show (1 : Int).toNat = 1 from rfl, Nat.reduceMul, Nat.reduceEqDiff, Go.Addr.add, ↓reduceIte] at hx854_4); (try simp only [show (1 : Int).toNat = 1 from rfl, Nat.reduceMul, Nat.reduceEqDiff, Go.Addr.add, ↓reduceIte] at hx854_5); have qi854 : (1 < t844.length) = True := eq_true (by omega); (try rw [show ((1 : Int)).toNat = 1 from rfl] at hx854_0); (try rw [show 1 * 6 = 6 from rfl] at hx854_0); (try rw [show ((1 : Int)).toNat = 1 from rfl] at hx854_1); (try rw [show 1 * 6 = 6 from rfl] at hx854_1); (try rw [show ((1 : Int)).toNat = 1 from rfl] at hx854_2); (try rw [show 1 * 6 = 6 from rfl] at hx854_2); (try rw [show ((1 : Int)).toNat = 1 from rfl] at hx854_3); (try rw [show 1 * 6 = 6 from rfl] at hx854_3); (try rw [show ((1 : Int)).toNat = 1 from rfl] at hx854_4); (try rw [show 1 * 6 = 6 from rfl] at hx854_4); (try rw [show ((1 : Int)).toNat = 1 from rfl] at hx854_5); (try rw [show 1 * 6 = 6 from rfl] at hx854_5); have HR854_4 := q_ hi854_4; have HC854_4 := q_ hl854_4; clear hi854_4 hl854_4; have HR854_5 := q_ hi854_5; have HC854_5 := q_ hl854_5; clear hi854_5 hl854_5; replace p854 := eq_true p854; replace q854 := eq_true q854; obtain ⟨Ao55, co55, eo55⟩ := Kd.N_slice HO853.out; subst eo55))
 have n0_ := q_ (Kd.N_drew HO829.out)
 have n1_ := q_ (Kd.R_drew HO840.out)
 have n2_ := q_ (Kd.R_drew HO843.out)
 have n3_ := q_ (Kd.N_drew HO846.out)
 have n4_ := q_ (Kd.N_drew HO853.out)
 have n5_ := q_ (Kd.V_drew HL854_4.out)
 have n6_ := q_ (Kd.V_drew HL854_5.out)
 have n7_ := q_ (Kd.C_drew HR854_4.out)
 have n8_ := q_ (Kd.C_drew HR854_5.out)
 have n9_ := q_ (y02 HB.out)
 clear HO829 HO840 HO843 HO846 HO853 HL854_4 HL854_5 HR854_4 HR854_5 HB
 have HO829 := n0_; have HO840 := n1_; have HO843 := n2_; have HO846 := n3_; have HO853 := n4_; have HL854_4 := n5_; have HL854_5 := n6_; have HR854_4 := n7_; have HR854_5 := n8_; have HB := n9_
 clear n0_ n1_ n2_ n3_ n4_ n5_ n6_ n7_ n8_ n9_
 have p891 : 0 ≤ (1 : Int) := (by omega)
 have q891 : 1 < (t844.length : Int) := oa_
 obtain ⟨ad891, A891_4, c891_4, A891_5, c891_5, e891, hx891_0, hx891_1, hx891_2, hx891_3, hx891_4, hx891_5, hl891_4, hi891_4, hl891_5, hi891_5⟩ := at_T25 (Kd.N_reads' HO846.out).2.2 1 p891 q891
 obtain rfl : ad854 = ad891 := (by injection e891)
 obtain ⟨ce891, hce891, hMe891, hcc891⟩ := Kd.N_get HO846.out z25 1 p891 (by first | exact q891 | exact oa_ | (have e_ := (Kd.N_reads' HO846.out).1; omega))
 obtain ⟨ua891_4, uc891_4, ua891_5, uc891_5, rfl, ul891_4, ge891_4, ul891_5, ge891_5⟩ := k25_openF hMe891
 have hv891_4 := hcc891 4 _ rfl
 rw [y00 _ _ 4 (by omega)] at hv891_4
 replace hv891_4 := Option.some.inj (hv891_4.symm.trans hx891_4)
 injection hv891_4 with hva_ hvn_ hvc_
 rw [hva_] at ge891_4
 rw [hvc_] at ul891_4
 have HL891_4 := q_ (show Kd.V k62 62 _ w.heap.size _ _ ((y0q t844 1).f4) from Kd.V_mk ul891_4 ge891_4)
 clear hva_ hvn_ hvc_ ge891_4 ul891_4
 have hv891_5 := hcc891 5 _ rfl
 rw [y00 _ _ 5 (by omega)] at hv891_5
 replace hv891_5 := Option.some.inj (hv891_5.symm.trans hx891_5)
 injection hv891_5 with hva_ hvn_ hvc_
 rw [hva_] at ge891_5
 rw [hvc_] at ul891_5
 have HL891_5 := q_ (show Kd.V k43 43 _ w.heap.size _ _ ((y0q t844 1).f5) from Kd.V_mk ul891_5 ge891_5)
 clear hva_ hvn_ hvc_ ge891_5 ul891_5 hcc891 hce891
 (try simp only [show (1 : Int).toNat = 1 from rfl, Nat.reduceMul, Nat.reduceEqDiff, Go.Addr.add, ↓reduceIte] at hx891_0)
 (try simp only [show (1 : Int).toNat = 1 from rfl, Nat.reduceMul, Nat.reduceEqDiff, Go.Addr.add, ↓reduceIte] at hx891_1)
 (try simp only [show (1 : Int).toNat = 1 from rfl, Nat.reduceMul, Nat.reduceEqDiff, Go.Addr.add, ↓reduceIte] at hx891_2)
 (try simp only [show (1 : Int).toNat = 1 from rfl, Nat.reduceMul, Nat.reduceEqDiff, Go.Addr.add, ↓reduceIte] at hx891_3)
 (try simp only [show (1 : Int).toNat = 1 from rfl, Nat.reduceMul, Nat.reduceEqDiff, Go.Addr.add, ↓reduceIte] at hx891_4)
 (try simp only [show (1 : Int).toNat = 1 from rfl, Nat.reduceMul, Nat.reduceEqDiff, Go.Addr.add, ↓reduceIte] at hx891_5)
 have qi891 : (1 < t844.length) = True := eq_true (by omega)
 (try rw [show ((1 : Int)).toNat = 1 from rfl] at hx891_0)
 (try rw [show 1 * 6 = 6 from rfl] at hx891_0)
 (try rw [show ((1 : Int)).toNat = 1 from rfl] at hx891_1)
 (try rw [show 1 * 6 = 6 from rfl] at hx891_1)
 (try rw [show ((1 : Int)).toNat = 1 from rfl] at hx891_2)
 (try rw [show 1 * 6 = 6 from rfl] at hx891_2)
 (try rw [show ((1 : Int)).toNat = 1 from rfl] at hx891_3)
 (try rw [show 1 * 6 = 6 from rfl] at hx891_3)
 (try rw [show ((1 : Int)).toNat = 1 from rfl] at hx891_4)
 (try rw [show 1 * 6 = 6 from rfl] at hx891_4)
 (try rw [show ((1 : Int)).toNat = 1 from rfl] at hx891_5)
 (try rw [show 1 * 6 = 6 from rfl] at hx891_5)
 have HR891_4 := q_ hi891_4
 have HC891_4 := q_ hl891_4
 clear hi891_4 hl891_4
 have HR891_5 := q_ hi891_5
 have HC891_5 := q_ hl891_5
 clear hi891_5 hl891_5
 replace p891 := eq_true p891
 replace q891 := eq_true q891
 have p894 : 0 ≤ (1 : Int) := (by omega)
 have q894 : 1 < (y827.length : Int) := oa_
 obtain ⟨ad894, A894_4, c894_4, A894_5, c894_5, e894, hx894_0, hx894_1, hx894_2, hx894_3, hx894_4, hx894_5, hl894_4, hi894_4, hl894_5, hi894_5⟩ := at_T25 (Kd.N_reads' HO829.out).2.2 1 p894 q894
 cases e894
 obtain ⟨ce894, hce894, hMe894, hcc894⟩ := Kd.N_get HO829.out z25 1 p894 (by first | exact q894 | exact oa_ | (have e_ := (Kd.N_reads' HO829.out).1; omega))
 obtain ⟨ua894_4, uc894_4, ua894_5, uc894_5, rfl, ul894_4, ge894_4, ul894_5, ge894_5⟩ := k25_openF hMe894
 have hv894_4 := hcc894 4 _ rfl
 rw [y00 _ _ 4 (by omega)] at hv894_4
 replace hv894_4 := Option.some.inj (hv894_4.symm.trans hx894_4)
 injection hv894_4 with hva_ hvn_ hvc_
 rw [hva_] at ge894_4
 rw [hvc_] at ul894_4
 have HL894_4 := q_ (show Kd.V k62 62 _ w.heap.size _ _ ((y0q y827 1).f4) from Kd.V_mk ul894_4 ge894_4)
 clear hva_ hvn_ hvc_ ge894_4 ul894_4
 have hv894_5 := hcc894 5 _ rfl
 rw [y00 _ _ 5 (by omega)] at hv894_5
 replace hv894_5 := Option.some.inj (hv894_5.symm.trans hx894_5)
 injection hv894_5 with hva_ hvn_ hvc_
 rw [hva_] at ge894_5
 rw [hvc_] at ul894_5
 have HL894_5 := q_ (show Kd.V k43 43 _ w.heap.size _ _ ((y0q y827 1).f5) from Kd.V_mk ul894_5 ge894_5)
 clear hva_ hvn_ hvc_ ge894_5 ul894_5 hcc894 hce894
 (try simp only [show (1 : Int).toNat = 1 from rfl, Nat.reduceMul, Nat.reduceEqDiff, Go.Addr.add, ↓reduceIte] at hx894_0)
 (try simp only [show (1 : Int).toNat = 1 from rfl, Nat.reduceMul, Nat.reduceEqDiff, Go.Addr.add, ↓reduceIte] at hx894_1)
 (try simp only [show (1 : Int).toNat = 1 from rfl, Nat.reduceMul, Nat.reduceEqDiff, Go.Addr.add, ↓reduceIte] at hx894_2)
 (try simp only [show (1 : Int).toNat = 1 from rfl, Nat.reduceMul, Nat.reduceEqDiff, Go.Addr.add, ↓reduceIte] at hx894_3)
 (try simp only [show (1 : Int).toNat = 1 from rfl, Nat.reduceMul, Nat.reduceEqDiff, Go.Addr.add, ↓reduceIte] at hx894_4)
 (try simp only [show (1 : Int).toNat = 1 from rfl, Nat.reduceMul, Nat.reduceEqDiff, Go.Addr.add, ↓reduceIte] at hx894_5)
 have qi894 : (1 < y827.length) = True := eq_true (by omega)
 (try rw [show ((1 : Int)).toNat = 1 from rfl] at hx894_0)
 (try rw [show 1 * 6 = 6 from rfl] at hx894_0)
 (try rw [show ((1 : Int)).toNat = 1 from rfl] at hx894_1)
 (try rw [show 1 * 6 = 6 from rfl] at hx894_1)
 (try rw [show ((1 : Int)).toNat = 1 from rfl] at hx894_2)
 (try rw [show 1 * 6 = 6 from rfl] at hx894_2)
 (try rw [show ((1 : Int)).toNat = 1 from rfl] at hx894_3)
 (try rw [show 1 * 6 = 6 from rfl] at hx894_3)
 (try rw [show ((1 : Int)).toNat = 1 from rfl] at hx894_4)
 (try rw [show 1 * 6 = 6 from rfl] at hx894_4)
 (try rw [show ((1 : Int)).toNat = 1 from rfl] at hx894_5)
 (try rw [show 1 * 6 = 6 from rfl] at hx894_5)
 have HR894_4 := q_ hi894_4
 have HC894_4 := q_ hl894_4
 clear hi894_4 hl894_4
 have HR894_5 := q_ hi894_5
 have HC894_5 := q_ hl894_5
 clear hi894_5 hl894_5
 replace p894 := eq_true p894
 replace q894 := eq_true q894
 have p895 : 0 ≤ (1 : Int) := (by omega)
 have q895 : 1 < (y827.length : Int) := oa_
 obtain ⟨ad895, A895_4, c895_4, A895_5, c895_5, e895, hx895_0, hx895_1, hx895_2, hx895_3, hx895_4, hx895_5, hl895_4, hi895_4, hl895_5, hi895_5⟩ := at_T25 (Kd.N_reads' HO829.out).2.2 1 p895 q895
 obtain rfl : ad894 = ad895 := (by injection e895)
 obtain ⟨ce895, hce895, hMe895, hcc895⟩ := Kd.N_get HO829.out z25 1 p895 (by first | exact q895 | exact oa_ | (have e_ := (Kd.N_reads' HO829.out).1; omega))
 obtain ⟨ua895_4, uc895_4, ua895_5, uc895_5, rfl, ul895_4, ge895_4, ul895_5, ge895_5⟩ := k25_openF hMe895
 have hv895_4 := hcc895 4 _ rfl
 rw [y00 _ _ 4 (by omega)] at hv895_4
 replace hv895_4 := Option.some.inj (hv895_4.symm.trans hx895_4)
 injection hv895_4 with hva_ hvn_ hvc_
 rw [hva_] at ge895_4
 rw [hvc_] at ul895_4
 have HL895_4 := q_ (show Kd.V k62 62 _ w.heap.size _ _ ((y0q y827 1).f4) from Kd.V_mk ul895_4 ge895_4)
 clear hva_ hvn_ hvc_ ge895_4 ul895_4
 have hv895_5 := hcc895 5 _ rfl
 rw [y00 _ _ 5 (by omega)] at hv895_5
 replace hv895_5 := Option.some.inj (hv895_5.symm.trans hx895_5)
 injection hv895_5 with hva_ hvn_ hvc_
 rw [hva_] at ge895_5
 rw [hvc_] at ul895_5
 have HL895_5 := q_ (show Kd.V k43 43 _ w.heap.size _ _ ((y0q y827 1).f5) from Kd.V_mk ul895_5 ge895_5)
 clear hva_ hvn_ hvc_ ge895_5 ul895_5 hcc895 hce895
 (try simp only [show (1 : Int).toNat = 1 from rfl, Nat.reduceMul, Nat.reduceEqDiff, Go.Addr.add, ↓reduceIte] at hx895_0)
 (try simp only [show (1 : Int).toNat = 1 from rfl, Nat.reduceMul, Nat.reduceEqDiff, Go.Addr.add, ↓reduceIte] at hx895_1)
 (try simp only [show (1 : Int).toNat = 1 from rfl, Nat.reduceMul, Nat.reduceEqDiff, Go.Addr.add, ↓reduceIte] at hx895_2)
 (try simp only [show (1 : Int).toNat = 1 from rfl, Nat.reduceMul, Nat.reduceEqDiff, Go.Addr.add, ↓reduceIte] at hx895_3)
 (try simp only [show (1 : Int).toNat = 1 from rfl, Nat.reduceMul, Nat.reduceEqDiff, Go.Addr.add, ↓reduceIte] at hx895_4)
 (try simp only [show (1 : Int).toNat = 1 from rfl, Nat.reduceMul, Nat.reduceEqDiff, Go.Addr.add, ↓reduceIte] at hx895_5)
 have qi895 : (1 < y827.length) = True := eq_true (by omega)
 (try rw [show ((1 : Int)).toNat = 1 from rfl] at hx895_0)
 (try rw [show 1 * 6 = 6 from rfl] at hx895_0)
 (try rw [show ((1 : Int)).toNat = 1 from rfl] at hx895_1)
 (try rw [show 1 * 6 = 6 from rfl] at hx895_1)
 (try rw [show ((1 : Int)).toNat = 1 from rfl] at hx895_2)
 (try rw [show 1 * 6 = 6 from rfl] at hx895_2)
 (try rw [show ((1 : Int)).toNat = 1 from rfl] at hx895_3)
 (try rw [show 1 * 6 = 6 from rfl] at hx895_3)
 (try rw [show ((1 : Int)).toNat = 1 from rfl] at hx895_4)
 (try rw [show 1 * 6 = 6 from rfl] at hx895_4)
 (try rw [show ((1 : Int)).toNat = 1 from rfl] at hx895_5)
 (try rw [show 1 * 6 = 6 from rfl] at hx895_5)
 have HR895_4 := q_ hi895_4
 have HC895_4 := q_ hl895_4
 clear hi895_4 hl895_4
 have HR895_5 := q_ hi895_5
 have HC895_5 := q_ hl895_5
 clear hi895_5 hl895_5
 replace p895 := eq_true p895
 replace q895 := eq_true q895
 have ea_ := Option.some.inj (hx894_4.symm.trans hx895_4)
 injection ea_ with ea_ en_ ec_
 subst ea_
 subst ec_
 clear en_
 have ea_ := Option.some.inj (hx894_5.symm.trans hx895_5)
 injection ea_ with ea_ en_ ec_
 subst ea_
 subst ec_
 clear en_
 have p892 : 0 ≤ (0 : Int) := (by omega)
 have q892 : 0 < (((y0q t844 1).f4).length : Int) := oa_
 obtain ⟨ad892, e892, hx892_0, hx892_1, hx892_2, hx892_3⟩ := at_T62 (ck_ HR891_4.out) 0 p892 q892
 cases e892
 have qi892 : (0 < ((y0q t844 1).f4).length) = True := eq_true (by omega)
 (try rw [show ((0 : Int)).toNat = 0 from rfl] at hx892_0)
 (try rw [show 0 * 4 = 0 from rfl] at hx892_0)
 (try rw [Addr.add_zero'] at hx892_0)
 (try rw [show ((0 : Int)).toNat = 0 from rfl] at hx892_1)
 (try rw [show 0 * 4 = 0 from rfl] at hx892_1)
 (try rw [Addr.add_zero'] at hx892_1)
 (try rw [show ((0 : Int)).toNat = 0 from rfl] at hx892_2)
 (try rw [show 0 * 4 = 0 from rfl] at hx892_2)
 (try rw [Addr.add_zero'] at hx892_2)
 (try rw [show ((0 : Int)).toNat = 0 from rfl] at hx892_3)
 (try rw [show 0 * 4 = 0 from rfl] at hx892_3)
 (try rw [Addr.add_zero'] at hx892_3)
 replace p892 := eq_true p892
 replace q892 := eq_true q892
 refine start_ (n := 57) (S := fun w' => w'.cell? ⟨ad854.block, ad854.off + 6, none⟩ = some (.string ((y0q t844 1).f0)) ∧ w'.cell? ⟨ad854.block, ad854.off + 6 + 1, none⟩ = some (.string ((y0q t844 1).f1)) ∧ w'.cell? ⟨ad854.block, ad854.off + 6 + 2, none⟩ = some (.string ((y0q t844 1).f2)) ∧ w'.cell? ⟨ad854.block, ad854.off + 6 + 3, none⟩ = some (.int .i64 ((y0q t844 1).f3)) ∧ w'.cell? ⟨ad854.block, ad854.off + 6 + 4, none⟩ = some (.slice (some ad892) ((y0q t844 1).f4).length c891_4) ∧ w'.cell? ⟨ad854.block, ad854.off + 6 + 5, none⟩ = some (.slice A891_5 ((y0q t844 1).f5).length c891_5) ∧ w'.cell? ad892 = some (.string ((y0s ((y0q t844 1).f4) 0).f0)) ∧ w'.cell? ⟨ad892.block, ad892.off + 1, none⟩ = some (.int .i64 ((y0s ((y0q t844 1).f4) 0).f1)) ∧ w'.cell? ⟨ad892.block, ad892.off + 2, none⟩ = some (.int .i64 ((y0s ((y0q t844 1).f4) 0).f2)) ∧ w'.cell? ⟨ad892.block, ad892.off + 3, none⟩ = some (.bool ((y0s ((y0q t844 1).f4) 0).f3)) ∧ w'.cell? ⟨ad894.block, ad894.off + 6, none⟩ = some (.string ((y0q y827 1).f0)) ∧ w'.cell? ⟨ad894.block, ad894.off + 6 + 1, none⟩ = some (.string ((y0q y827 1).f1)) ∧ w'.cell? ⟨ad894.block, ad894.off + 6 + 2, none⟩ = some (.string ((y0q y827 1).f2)) ∧ w'.cell? ⟨ad894.block, ad894.off + 6 + 3, none⟩ = some (.int .i64 ((y0q y827 1).f3)) ∧ w'.cell? ⟨ad894.block, ad894.off + 6 + 4, none⟩ = some (.slice A894_4 ((y0q y827 1).f4).length c894_4) ∧ w'.cell? ⟨ad894.block, ad894.off + 6 + 5, none⟩ = some (.slice A894_5 ((y0q y827 1).f5).length c894_5) ∧ w'.cell? ⟨ad894.block, ad894.off + 6, none⟩ = some (.string ((y0q y827 1).f0)) ∧ w'.cell? ⟨ad894.block, ad894.off + 6 + 1, none⟩ = some (.string ((y0q y827 1).f1)) ∧ w'.cell? ⟨ad894.block, ad894.off + 6 + 2, none⟩ = some (.string ((y0q y827 1).f2)) ∧ w'.cell? ⟨ad894.block, ad894.off + 6 + 3, none⟩ = some (.int .i64 ((y0q y827 1).f3)) ∧ w'.cell? ⟨ad894.block, ad894.off + 6 + 4, none⟩ = some (.slice A894_4 ((y0q y827 1).f4).length c894_4) ∧ w'.cell? ⟨ad894.block, ad894.off + 6 + 5, none⟩ = some (.slice A894_5 ((y0q y827 1).f5).length c894_5)) (ds := []) #[false, false, false, false, false, false, false, false, false, false, false, false, false, false, false, false, false, false, false, false, false, false, false, false, false, false, false, false, false, false, false, false, false, false, false, false, false, false, false, false, false, false, false, false, false, false, false, false, false, false, false, false, false, false, false, false, false] (by kernel_rfl) rfl rfl ⟨hx891_0, hx891_1, hx891_2, hx891_3, hx891_4, hx891_5, hx892_0, hx892_1, hx892_2, hx892_3, hx894_0, hx894_1, hx894_2, hx894_3, hx894_4, hx894_5, hx895_0, hx895_1, hx895_2, hx895_3, hx895_4, hx895_5⟩ (fun hHeld => ?_); refine with_tabW zqg.tab9 zqg.bits9 (fun HT_ HW_ => ?_)
 generalize w53.drew = w56 at HO829 HO840 HO843 HO846 HO853 HL854_4 HL854_5 HR854_4 HR854_5 HB HL891_4 HL891_5 HL894_4 HL894_5 HL895_4 HL895_5 HR891_4 HR891_5 HR894_4 HR894_5 HR895_4 HR895_5 hx891_0 hx891_1 hx891_2 hx891_3 hx891_4 hx891_5 hx894_0 hx894_1 hx894_2 hx894_3 hx894_4 hx894_5 hx895_0 hx895_1 hx895_2 hx895_3 hx895_4 hx895_5 hHeld ⊢
 refine pu_ 0 (some 65) (fl 57 1) rfl rfl HT_ ?_
 refine join_ (σ := Value × Value × Value × Value × Value) 52 #[true, true, true, true, true, false, false, false, false, false, false, false, false, false, false, false, false, false, false, false, false, false, false, false, false, false, false, false, false, false, false, false, false, false, false, false, false, false, false, false, false, false, false, false, false, false, false, false, false, false, false, false, false, false, false, false, false] (fun s_ => [(66, .agg #[.string t855, .string t856, .string t857, .int .i64 t858, s_.1, s_.2.1]), (67, s_.2.2.1), (68, s_.2.2.2.1), (69, s_.2.2.2.2)]) (fun s_ w' => (w'.cell? ⟨ad854.block, ad854.off + 6, none⟩ = some (.string ((y0q t844 1).f0)) ∧ w'.cell? ⟨ad854.block, ad854.off + 6 + 1, none⟩ = some (.string ((y0q t844 1).f1)) ∧ w'.cell? ⟨ad854.block, ad854.off + 6 + 2, none⟩ = some (.string ((y0q t844 1).f2)) ∧ w'.cell? ⟨ad854.block, ad854.off + 6 + 3, none⟩ = some (.int .i64 ((y0q t844 1).f3)) ∧ w'.cell? ⟨ad854.block, ad854.off + 6 + 4, none⟩ = some (.slice (some ad892) ((y0q t844 1).f4).length c891_4) ∧ w'.cell? ⟨ad854.block, ad854.off + 6 + 5, none⟩ = some (.slice A891_5 ((y0q t844 1).f5).length c891_5) ∧ w'.cell? ad892 = some (.string ((y0s ((y0q t844 1).f4) 0).f0)) ∧ w'.cell? ⟨ad892.block, ad892.off + 1, none⟩ = some (.int .i64 ((y0s ((y0q t844 1).f4) 0).f1)) ∧ w'.cell? ⟨ad892.block, ad892.off + 2, none⟩ = some (.int .i64 ((y0s ((y0q t844 1).f4) 0).f2)) ∧ w'.cell? ⟨ad892.block, ad892.off + 3, none⟩ = some (.bool ((y0s ((y0q t844 1).f4) 0).f3)) ∧ w'.cell? ⟨ad894.block, ad894.off + 6, none⟩ = some (.string ((y0q y827 1).f0)) ∧ w'.cell? ⟨ad894.block, ad894.off + 6 + 1, none⟩ = some (.string ((y0q y827 1).f1)) ∧ w'.cell? ⟨ad894.block, ad894.off + 6 + 2, none⟩ = some (.string ((y0q y827 1).f2)) ∧ w'.cell? ⟨ad894.block, ad894.off + 6 + 3, none⟩ = some (.int .i64 ((y0q y827 1).f3)) ∧ w'.cell? ⟨ad894.block, ad894.off + 6 + 4, none⟩ = some (.slice A894_4 ((y0q y827 1).f4).length c894_4) ∧ w'.cell? ⟨ad894.block, ad894.off + 6 + 5, none⟩ = some (.slice A894_5 ((y0q y827 1).f5).length c894_5) ∧ w'.cell? ⟨ad894.block, ad894.off + 6, none⟩ = some (.string ((y0q y827 1).f0)) ∧ w'.cell? ⟨ad894.block, ad894.off + 6 + 1, none⟩ = some (.string ((y0q y827 1).f1)) ∧ w'.cell? ⟨ad894.block, ad894.off + 6 + 2, none⟩ = some (.string ((y0q y827 1).f2)) ∧ w'.cell? ⟨ad894.block, ad894.off + 6 + 3, none⟩ = some (.int .i64 ((y0q y827 1).f3)) ∧ w'.cell? ⟨ad894.block, ad894.off + 6 + 4, none⟩ = some (.slice A894_4 ((y0q y827 1).f4).length c894_4) ∧ w'.cell? ⟨ad894.block, ad894.off + 6 + 5, none⟩ = some (.slice A894_5 ((y0q y827 1).f5).length c894_5)) ∧ (Kd.V k62 62 w' w.heap.size (fun k_ => some k_ ≠ (.slice (some ad854) t844.length co54 : Value).ownBlock ∧ some k_ ≠ (.slice Ao55 t850.length co55 : Value).ownBlock ∧ some k_ ≠ (s_.2.2.1 : Value).ownBlock ∧ some k_ ≠ (s_.2.2.2.1 : Value).ownBlock ∧ some k_ ≠ (s_.2.2.2.2 : Value).ownBlock) (.slice A854_4 ((y0q t844 1).f4).length c854_4) ((y0q t844 1).f4)) ∧ (Kd.V k43 43 w' w.heap.size (fun k_ => some k_ ≠ (.slice (some ad854) t844.length co54 : Value).ownBlock ∧ some k_ ≠ (.slice Ao55 t850.length co55 : Value).ownBlock ∧ some k_ ≠ (s_.2.2.1 : Value).ownBlock ∧ some k_ ≠ (s_.2.2.2.1 : Value).ownBlock ∧ some k_ ≠ (s_.2.2.2.2 : Value).ownBlock) (.slice A854_5 ((y0q t844 1).f5).length c854_5) ((y0q t844 1).f5)) ∧ (Kd.N k25 25 w' w.heap.size (fun k_ => some k_ ≠ (.slice Ao49 t838.length co49 : Value).ownBlock ∧ some k_ ≠ (.slice Ao50 t841.length co50 : Value).ownBlock ∧ some k_ ≠ (.slice (some ad854) t844.length co54 : Value).ownBlock ∧ some k_ ≠ (.slice Ao55 t850.length co55 : Value).ownBlock ∧ some k_ ≠ (s_.2.2.1 : Value).ownBlock ∧ some k_ ≠ (s_.2.2.2.1 : Value).ownBlock ∧ some k_ ≠ (s_.2.2.2.2 : Value).ownBlock) (.slice (some ad894) y827.length co45) y827) ∧ (Kd.R k62 62 w' w.heap.size (fun _ => True) (.slice Ao49 t838.length co49) t838) ∧ (Kd.R k43 43 w' w.heap.size (fun _ => True) (.slice Ao50 t841.length co50) t841) ∧ (Kd.N k25 25 w' w.heap.size (fun k_ => some k_ ≠ (.slice Ao55 t850.length co55 : Value).ownBlock ∧ some k_ ≠ (s_.2.2.1 : Value).ownBlock ∧ some k_ ≠ (s_.2.2.2.1 : Value).ownBlock ∧ some k_ ≠ (s_.2.2.2.2 : Value).ownBlock) (.slice (some ad854) t844.length co54) t844) ∧ (Kd.N k25 25 w' w.heap.size (fun k_ => some k_ ≠ (.slice (some ad894) y827.length co45 : Value).ownBlock ∧ some k_ ≠ (.slice Ao49 t838.length co49 : Value).ownBlock ∧ some k_ ≠ (.slice Ao50 t841.length co50 : Value).ownBlock ∧ some k_ ≠ (.slice (some ad854) t844.length co54 : Value).ownBlock ∧ some k_ ≠ (s_.2.2.1 : Value).ownBlock ∧ some k_ ≠ (s_.2.2.2.1 : Value).ownBlock ∧ some k_ ≠ (s_.2.2.2.2 : Value).ownBlock) (.slice Ao55 t850.length co55) t850) ∧ (Kd.N k25 25 w' w.heap.size (fun k_ => some k_ ≠ (.slice (some ad894) y827.length co45 : Value).ownBlock ∧ some k_ ≠ (.slice Ao49 t838.length co49 : Value).ownBlock ∧ some k_ ≠ (.slice Ao50 t841.length co50 : Value).ownBlock ∧ some k_ ≠ (.slice (some ad854) t844.length co54 : Value).ownBlock ∧ some k_ ≠ (.slice Ao55 t850.length co55 : Value).ownBlock ∧ some k_ ≠ (s_.2.2.2.1 : Value).ownBlock ∧ some k_ ≠ (s_.2.2.2.2 : Value).ownBlock) s_.2.2.1 y865) ∧ (Kd.R (Kd.int .i64) 3 w' w.heap.size (fun k_ => some k_ ≠ (s_.2.2.2.2 : Value).ownBlock) s_.2.2.2.1 t868) ∧ (Kd.R (Kd.int .i64) 3 w' w.heap.size (fun k_ => some k_ ≠ (s_.2.2.2.1 : Value).ownBlock) s_.2.2.2.2 y871) ∧ (Below w.heap.size w w')) ?_ ?_
 rotate_left
 ·intro hCont
  refine two_ (i := 1) (j := 4) (Ni := some 66) (Nj := some 69) #[true, true, false, false, false, false, false, false, false, false, false, false, false, false, false, false, false, false, false, false, false, false, false, false, false, false, false, false, false, false, false, false, false, false, false, false, false, false, false, false, false, false, false, false, false, false, false, false, false, false, false, false, false, false, false, false, false] #[true, false, false, false, true, false, false, false, false, false, false, false, false, false, false, false, false, false, false, false, false, false, false, false, false, false, false, false, false, false, false, false, false, false, false, false, false, false, false, false, false, false, false, false, false, false, false, false, false, false, false, false, false, false, false, false, false] rfl rfl rfl rfl (two_of HT_.out (by kernel_rfl)) (by decide) (by decide) (fun K hK => ?_) (fun K hK => ?_)
  ·skip
   refine goes_ Try.func77 (by kernel_rfl) rfl #[.string (⟨#[109]⟩ : ByteArray), .string (⟨#[]⟩ : ByteArray), .string (⟨#[112, 117, 116]⟩ : ByteArray)] (by rfl) rfl rfl ar_ ?_
   with_reducible refine (zqa.calls (⟨#[109]⟩ : ByteArray) (⟨#[]⟩ : ByteArray) (⟨#[112, 117, 116]⟩ : ByteArray) t855 t856 t857 t858 t859 t862 _ A16.out).mono ?_
   rintro e w57 ⟨v860, v863, rfl, ho0, ho1, hb⟩
   have HS_ := kp22_ hb hHeld
   refine ⟨_, rfl, ?_⟩
   have n0_ := q_ (Kd.N_mono (Kd.N_told (Kd.N_told (Kd.N_old (nk_ HO829.out) hb) (Kd.R_base ho0)) (Kd.R_base ho1)) (fun _ h_ => h_.1))
   have n1_ := q_ (Kd.R_elder' (rk_ HO840.out) (Kd.R_base ho0) hb)
   have n2_ := q_ (Kd.R_elder' (rk_ HO843.out) (Kd.R_base ho1) hb)
   have n3_ := q_ (Kd.N_mono (Kd.N_told (Kd.N_told (Kd.N_old (nk_ HO846.out) hb) (Kd.R_base ho0)) (Kd.R_base ho1)) (fun _ h_ => h_.1))
   have n4_ := q_ (Kd.N_mono (Kd.N_told (Kd.N_told (Kd.N_old (nk_ HO853.out) hb) (Kd.R_base ho0)) (Kd.R_base ho1)) (fun _ h_ => h_.1))
   have n5_ := q_ (Kd.V_mono (Kd.V_told (Kd.V_told (Kd.V_old (vk_ HL854_4.out) hb) (Kd.R_base ho0)) (Kd.R_base ho1)) (fun _ h_ => h_.1))
   have n6_ := q_ (Kd.V_mono (Kd.V_told (Kd.V_told (Kd.V_old (vk_ HL854_5.out) hb) (Kd.R_base ho0)) (Kd.R_base ho1)) (fun _ h_ => h_.1))
   have n7_ := q_ (Kd.R_lower (Kd.R_new' ho0 (Kd.R_lt (rk_ HO840.out))) (y04 hb_))
   have n8_ := q_ (Kd.R_lower (Kd.R_new' ho1 (Kd.R_lt (rk_ HO843.out))) (y04 hb_))
   have n9_ := q_ (Kd.C_below (ck_ HR854_4.out) hb)
   have n10_ := q_ (Kd.C_below (ck_ HR854_5.out) hb)
   have n11_ := q_ (y05 hb_ hb)
   clear HO829 HO840 HO843 HO846 HO853 HL854_4 HL854_5 HR854_4 HR854_5 HB
   have HO829 := n0_; have HO840 := n1_; have HO843 := n2_; have HO846 := n3_; have HO853 := n4_; have HL854_4 := n5_; have HL854_5 := n6_; have HO861 := n7_; have HO864 := n8_; have HR854_4 := n9_; have HR854_5 := n10_; have HB := n11_
   clear n0_ n1_ n2_ n3_ n4_ n5_ n6_ n7_ n8_ n9_ n10_ n11_
   (try clear hb); (try clear hb2); (try clear hk); (try clear hi); (try clear ho0); (try clear ho1)
   obtain ⟨Ao58, co58, eo58⟩ := Kd.R_slice HO861.out
   (first | subst eo58 | (injection eo58 with f1_ f2_ f3_; have f4_ := f1_.symm; have f5_ := f3_.symm; clear f1_ f2_ f3_; subst f4_; subst f5_))
   obtain ⟨Ao59, co59, eo59⟩ := Kd.R_slice HO864.out
   (first | subst eo59 | (injection eo59 with f1_ f2_ f3_; have f4_ := f1_.symm; have f5_ := f3_.symm; clear f1_ f2_ f3_; subst f4_; subst f5_))
   refine hK.out _ _ HS_ (fun hHeld => ?_)
   clear hK K
   refine no_ (N := some 66) ?_
   refine two_ (i := 2) (j := 4) (Ni := some 67) (Nj := some 69) #[true, true, true, false, false, false, false, false, false, false, false, false, false, false, false, false, false, false, false, false, false, false, false, false, false, false, false, false, false, false, false, false, false, false, false, false, false, false, false, false, false, false, false, false, false, false, false, false, false, false, false, false, false, false, false, false, false] #[true, true, false, false, true, false, false, false, false, false, false, false, false, false, false, false, false, false, false, false, false, false, false, false, false, false, false, false, false, false, false, false, false, false, false, false, false, false, false, false, false, false, false, false, false, false, false, false, false, false, false, false, false, false, false, false, false] rfl rfl rfl rfl (two_of HT_.out (by kernel_rfl)) (by decide) (by decide) (fun K hK => ?_) (fun K hK => ?_)
   ·skip
    refine Kd.N_lit_step k25 _ 25 ?hg (N' := 67) ?hd (xs := ([(⟨t855, t856, t857, t858, t859, t862⟩ : S25)] : List (S25))) (inner := [.string t855, .string t856, .string t857, .int .i64 t858, .slice Ao58 t859.length co58, .slice Ao59 t862.length co59]) (ok := (fun k_ => some k_ ≠ (.slice (some ad894) y827.length co45 : Value).ownBlock ∧ some k_ ≠ (.slice Ao49 t838.length co49 : Value).ownBlock ∧ some k_ ≠ (.slice Ao50 t841.length co50 : Value).ownBlock ∧ some k_ ≠ (.slice (some ad854) t844.length co54 : Value).ownBlock ∧ some k_ ≠ (.slice Ao55 t850.length co55 : Value).ownBlock)) (okp := (fun k_ => some k_ ≠ (.slice (some ad894) y827.length co45 : Value).ownBlock ∧ some k_ ≠ (.slice Ao49 t838.length co49 : Value).ownBlock ∧ some k_ ≠ (.slice Ao50 t841.length co50 : Value).ownBlock ∧ some k_ ≠ (.slice (some ad854) t844.length co54 : Value).ownBlock ∧ some k_ ≠ (.slice Ao55 t850.length co55 : Value).ownBlock)) ?hr ?hp (fun _ hk => hk) ((show ∀ k_, w57.heap.size ≤ k_ → (fun k_ => some k_ ≠ (.slice (some ad894) y827.length co45 : Value).ownBlock ∧ some k_ ≠ (.slice Ao49 t838.length co49 : Value).ownBlock ∧ some k_ ≠ (.slice Ao50 t841.length co50 : Value).ownBlock ∧ some k_ ≠ (.slice (some ad854) t844.length co54 : Value).ownBlock ∧ some k_ ≠ (.slice Ao55 t850.length co55 : Value).ownBlock) k_ from fun k_ hk => ⟨Kd.fresh' (Kd.N_lt (nk_ HO829.out)) k_ hk, Kd.fresh' (Kd.R_lt (rk_ HO840.out)) k_ hk, Kd.fresh' (Kd.R_lt (rk_ HO843.out)) k_ hk, Kd.fresh' (Kd.N_lt (nk_ HO846.out)) k_ hk, Kd.fresh' (Kd.N_lt (nk_ HO853.out)) k_ hk⟩) _ (Nat.le_refl _)) (Below.refl _ _) (Nat.le_refl _) (by simp) ?_; (case hd => rfl); (case hg => rfl); (case hr => first | (go_simp; done) | (go_simp; rfl)); (case hp => exact (Reps.c6 (show Kd.FK k25 _ _ (⟨t855, t856, t857, t858, t859, t862⟩ : S25) [.string t855, .string t856, .string t857, .int .i64 t858, .slice Ao58 t859.length co58, .slice Ao59 t862.length co59] from (k25_mkF _ _ (⟨t855, t856, t857, t858, t859, t862⟩ : S25) (Kd.R_reads' (Kd.R_mono (ok' := (fun k_ => some k_ ≠ (.slice (some ad894) y827.length co45 : Value).ownBlock ∧ some k_ ≠ (.slice Ao49 t838.length co49 : Value).ownBlock ∧ some k_ ≠ (.slice Ao50 t841.length co50 : Value).ownBlock ∧ some k_ ≠ (.slice (some ad854) t844.length co54 : Value).ownBlock ∧ some k_ ≠ (.slice Ao55 t850.length co55 : Value).ownBlock)) (Kd.R_apart' (Kd.R_apart' (Kd.R_apart' (Kd.R_apart' (HO861.out) (Kd.N_typed HO829.out) (by decide)) (Kd.R_typed HO843.out) (by decide)) (Kd.N_typed HO846.out) (by decide)) (Kd.N_typed HO853.out) (by decide)) (fun k_ hk => ⟨hk.1.1.1.2, ⟨hk.1.1.1.1.2, ⟨hk.1.1.2, ⟨hk.1.2, hk.2⟩⟩⟩⟩))).2.1 (Kd.R_F (Kd.R_mono (ok' := (fun k_ => some k_ ≠ (.slice (some ad894) y827.length co45 : Value).ownBlock ∧ some k_ ≠ (.slice Ao49 t838.length co49 : Value).ownBlock ∧ some k_ ≠ (.slice Ao50 t841.length co50 : Value).ownBlock ∧ some k_ ≠ (.slice (some ad854) t844.length co54 : Value).ownBlock ∧ some k_ ≠ (.slice Ao55 t850.length co55 : Value).ownBlock)) (Kd.R_apart' (Kd.R_apart' (Kd.R_apart' (Kd.R_apart' (HO861.out) (Kd.N_typed HO829.out) (by decide)) (Kd.R_typed HO843.out) (by decide)) (Kd.N_typed HO846.out) (by decide)) (Kd.N_typed HO853.out) (by decide)) (fun k_ hk => ⟨hk.1.1.1.2, ⟨hk.1.1.1.1.2, ⟨hk.1.1.2, ⟨hk.1.2, hk.2⟩⟩⟩⟩))) (Kd.R_reads' (Kd.R_mono (ok' := (fun k_ => some k_ ≠ (.slice (some ad894) y827.length co45 : Value).ownBlock ∧ some k_ ≠ (.slice Ao49 t838.length co49 : Value).ownBlock ∧ some k_ ≠ (.slice Ao50 t841.length co50 : Value).ownBlock ∧ some k_ ≠ (.slice (some ad854) t844.length co54 : Value).ownBlock ∧ some k_ ≠ (.slice Ao55 t850.length co55 : Value).ownBlock)) (Kd.R_apart' (Kd.R_apart' (Kd.R_apart' (Kd.R_apart' (HO864.out) (Kd.N_typed HO829.out) (by decide)) (Kd.R_typed HO840.out) (by decide)) (Kd.N_typed HO846.out) (by decide)) (Kd.N_typed HO853.out) (by decide)) (fun k_ hk => ⟨hk.1.1.1.2, ⟨hk.1.1.2, ⟨hk.1.1.1.1.2, ⟨hk.1.2, hk.2⟩⟩⟩⟩))).2.1 (Kd.R_F (Kd.R_mono (ok' := (fun k_ => some k_ ≠ (.slice (some ad894) y827.length co45 : Value).ownBlock ∧ some k_ ≠ (.slice Ao49 t838.length co49 : Value).ownBlock ∧ some k_ ≠ (.slice Ao50 t841.length co50 : Value).ownBlock ∧ some k_ ≠ (.slice (some ad854) t844.length co54 : Value).ownBlock ∧ some k_ ≠ (.slice Ao55 t850.length co55 : Value).ownBlock)) (Kd.R_apart' (Kd.R_apart' (Kd.R_apart' (Kd.R_apart' (HO864.out) (Kd.N_typed HO829.out) (by decide)) (Kd.R_typed HO840.out) (by decide)) (Kd.N_typed HO846.out) (by decide)) (Kd.N_typed HO853.out) (by decide)) (fun k_ hk => ⟨hk.1.1.1.2, ⟨hk.1.1.2, ⟨hk.1.1.1.1.2, ⟨hk.1.2, hk.2⟩⟩⟩⟩))))) (Reps.none _ _)))
    intro v866 w60 ho61 hb hg_ hnew_
    have HS_ := kp22_ hb hHeld
    clear hg_ hnew_
    (first | rw [← Ny865.out] at ho61 | (simp only [Int.reduceToNat] at ho61; rw [← Ny865.out] at ho61))
    have n0_ := q_ (by have h_ := (Kd.N_elder' (nk_ HO829.out) (Kd.N_base ho61) hb); exact Kd.N_mono (ok' := (fun k_ => some k_ ≠ (.slice Ao49 t838.length co49 : Value).ownBlock ∧ some k_ ≠ (.slice Ao50 t841.length co50 : Value).ownBlock ∧ some k_ ≠ (.slice (some ad854) t844.length co54 : Value).ownBlock ∧ some k_ ≠ (.slice Ao55 t850.length co55 : Value).ownBlock ∧ some k_ ≠ (v866 : Value).ownBlock)) h_ (fun k_ hk => ⟨hk.1.1.1.1.1.1.2, ⟨hk.1.1.1.1.1.2, ⟨hk.1.1.1.1.2, ⟨hk.1.1.1.2, hk.2⟩⟩⟩⟩))
    have n1_ := q_ (by have h_ := (Kd.R_below (rk_ HO840.out) hb); exact Kd.R_mono (ok' := (fun _ => True)) h_ (fun k_ hk => trivial))
    have n2_ := q_ (by have h_ := (Kd.R_below (rk_ HO843.out) hb); exact Kd.R_mono (ok' := (fun _ => True)) h_ (fun k_ hk => trivial))
    have n3_ := q_ (by have h_ := (Kd.N_elder' (nk_ HO846.out) (Kd.N_base ho61) hb); exact Kd.N_mono (ok' := (fun k_ => some k_ ≠ (.slice Ao55 t850.length co55 : Value).ownBlock ∧ some k_ ≠ (v866 : Value).ownBlock)) h_ (fun k_ hk => ⟨hk.1.1.1.2, hk.2⟩))
    have n4_ := q_ (by have h_ := (Kd.N_elder' (nk_ HO853.out) (Kd.N_base ho61) hb); exact Kd.N_mono (ok' := (fun k_ => some k_ ≠ (.slice (some ad894) y827.length co45 : Value).ownBlock ∧ some k_ ≠ (.slice Ao49 t838.length co49 : Value).ownBlock ∧ some k_ ≠ (.slice Ao50 t841.length co50 : Value).ownBlock ∧ some k_ ≠ (.slice (some ad854) t844.length co54 : Value).ownBlock ∧ some k_ ≠ (v866 : Value).ownBlock)) h_ (fun k_ hk => ⟨hk.1.1.1.1, ⟨hk.1.1.1.2.1, ⟨hk.1.1.1.2.2.1, ⟨hk.1.1.1.2.2.2, hk.2⟩⟩⟩⟩))
    have n5_ := q_ (by have h_ := (Kd.V_elder' (vk_ HL854_4.out) (Kd.N_base ho61) hb); exact Kd.V_mono (ok' := (fun k_ => some k_ ≠ (.slice (some ad854) t844.length co54 : Value).ownBlock ∧ some k_ ≠ (.slice Ao55 t850.length co55 : Value).ownBlock ∧ some k_ ≠ (v866 : Value).ownBlock)) h_ (fun k_ hk => ⟨hk.1.1.1.2, ⟨hk.1.1.1.1.2, hk.2⟩⟩))
    have n6_ := q_ (by have h_ := (Kd.V_elder' (vk_ HL854_5.out) (Kd.N_base ho61) hb); exact Kd.V_mono (ok' := (fun k_ => some k_ ≠ (.slice (some ad854) t844.length co54 : Value).ownBlock ∧ some k_ ≠ (.slice Ao55 t850.length co55 : Value).ownBlock ∧ some k_ ≠ (v866 : Value).ownBlock)) h_ (fun k_ hk => ⟨hk.1.1.1.2, ⟨hk.1.1.1.1.2, hk.2⟩⟩))
    have n7_ := q_ (Kd.N_lower ho61 (y04 hb_))
    have n8_ := q_ (Kd.C_below (ck_ HR854_4.out) hb)
    have n9_ := q_ (Kd.C_below (ck_ HR854_5.out) hb)
    have n10_ := q_ (y05 hb_ hb)
    clear HO829 HO840 HO843 HO846 HO853 HL854_4 HL854_5 HR854_4 HR854_5 HB HO861 HO864
    have HO829 := n0_; have HO840 := n1_; have HO843 := n2_; have HO846 := n3_; have HO853 := n4_; have HL854_4 := n5_; have HL854_5 := n6_; have HO867 := n7_; have HR854_4 := n8_; have HR854_5 := n9_; have HB := n10_
    clear n0_ n1_ n2_ n3_ n4_ n5_ n6_ n7_ n8_ n9_ n10_ hb ho61
    obtain ⟨Ao62, co62, eo62⟩ := Kd.N_slice HO867.out
    (first | subst eo62 | (injection eo62 with f1_ f2_ f3_; have f4_ := f1_.symm; have f5_ := f3_.symm; clear f1_ f2_ f3_; subst f4_; subst f5_))
    refine hK.out _ _ HS_ (fun hHeld => ?_)
    clear hK K
    refine no_ (N := some 67) ?_
    refine two_ (i := 3) (j := 4) (Ni := some 68) (Nj := some 69) #[true, true, true, true, false, false, false, false, false, false, false, false, false, false, false, false, false, false, false, false, false, false, false, false, false, false, false, false, false, false, false, false, false, false, false, false, false, false, false, false, false, false, false, false, false, false, false, false, false, false, false, false, false, false, false, false, false] #[true, true, true, false, true, false, false, false, false, false, false, false, false, false, false, false, false, false, false, false, false, false, false, false, false, false, false, false, false, false, false, false, false, false, false, false, false, false, false, false, false, false, false, false, false, false, false, false, false, false, false, false, false, false, false, false, false] rfl rfl rfl rfl (two_of HT_.out (by kernel_rfl)) (by decide) (by decide) (fun K hK => ?_) (fun K hK => ?_)
    ·skip
     refine goes_ Try.func43 (by kernel_rfl) rfl #[.slice (some ad894) y827.length co45, .slice Ao62 y865.length co62] (by rfl) rfl rfl ar_ ?_
     with_reducible refine (zq18.calls k (fun k_ => (some k_ ≠ (.slice Ao49 t838.length co49 : Value).ownBlock ∧ (some k_ ≠ (.slice Ao50 t841.length co50 : Value).ownBlock ∧ (some k_ ≠ (.slice (some ad854) t844.length co54 : Value).ownBlock ∧ (some k_ ≠ (.slice Ao55 t850.length co55 : Value).ownBlock ∧ some k_ ≠ (.slice Ao62 y865.length co62 : Value).ownBlock))))) _ _ y827 (fun k_ => (some k_ ≠ (.slice (some ad894) y827.length co45 : Value).ownBlock ∧ (some k_ ≠ (.slice Ao49 t838.length co49 : Value).ownBlock ∧ (some k_ ≠ (.slice Ao50 t841.length co50 : Value).ownBlock ∧ (some k_ ≠ (.slice (some ad854) t844.length co54 : Value).ownBlock ∧ some k_ ≠ (.slice Ao55 t850.length co55 : Value).ownBlock))))) _ _ y865 t868 _ ?side1 ?side2 A17.out).mono ?_
     (case side1 => exact Kd.N_V (HO829.out))
     (case side2 => exact Kd.N_V (HO867.out))
     rintro e w63 ⟨v869, rfl, ho0, hb⟩
     have HS_ := kp22_ hb hHeld
     refine ⟨_, rfl, ?_⟩
     have n0_ := q_ (Kd.N_elder' (nk_ HO829.out) (Kd.R_base ho0) hb)
     have n1_ := q_ (Kd.R_below (rk_ HO840.out) hb)
     have n2_ := q_ (Kd.R_below (rk_ HO843.out) hb)
     have n3_ := q_ (Kd.N_elder' (nk_ HO846.out) (Kd.R_base ho0) hb)
     have n4_ := q_ (Kd.N_elder' (nk_ HO853.out) (Kd.R_base ho0) hb)
     have n5_ := q_ (Kd.V_elder' (vk_ HL854_4.out) (Kd.R_base ho0) hb)
     have n6_ := q_ (Kd.V_elder' (vk_ HL854_5.out) (Kd.R_base ho0) hb)
     have n7_ := q_ (Kd.N_elder' (nk_ HO867.out) (Kd.R_base ho0) hb)
     have n8_ := q_ (Kd.R_lower (Kd.R_mono (ok' := fun k_ => True) ho0 (fun _ hk_ => trivial)) (y04 hb_))
     have n9_ := q_ (Kd.C_below (ck_ HR854_4.out) hb)
     have n10_ := q_ (Kd.C_below (ck_ HR854_5.out) hb)
     have n11_ := q_ (y05 hb_ hb)
     clear HO829 HO840 HO843 HO846 HO853 HL854_4 HL854_5 HO867 HR854_4 HR854_5 HB
     have HO829 := n0_; have HO840 := n1_; have HO843 := n2_; have HO846 := n3_; have HO853 := n4_; have HL854_4 := n5_; have HL854_5 := n6_; have HO867 := n7_; have HO870 := n8_; have HR854_4 := n9_; have HR854_5 := n10_; have HB := n11_
     clear n0_ n1_ n2_ n3_ n4_ n5_ n6_ n7_ n8_ n9_ n10_ n11_
     (try clear hb); (try clear hb2); (try clear hk); (try clear hi); (try clear ho0)
     refine hK.out _ _ HS_ (fun hHeld => ?_)
     clear hK K
     refine no_ (N := some 68) ?_
     refine one_ (i := 4) (N := some 69) (fl 57 31) rfl rfl (y0p HT_.out (by kernel_rfl)) (by decide) (fun K hK => ?_)
     refine Kd.R_lit_step (Kd.int .i64) _ 3 ?hg (N := 69) ?hd (xs := ([0, 1] : List Int)) (inner := [.int .i64 0, .int .i64 1]) (ok := fun _ => True) (okp := fun _ => True) ?hr ?hp (fun _ hk => hk) trivial (Below.refl _ _) (Nat.le_refl _) (by simp) ?_; (case hd => rfl); (case hg => rfl); (case hr => first | (go_simp; done) | (go_simp; rfl)); (case hp => exact (Reps.one (show Kd.M (Kd.int .i64) _ _ _ 0 [.int .i64 0] from rfl) (Reps.one (show Kd.M (Kd.int .i64) _ _ _ 1 [.int .i64 1] from rfl) (Reps.none _ _))))
     intro v872 w64 ho65 hb hg_ hnew_
     have HS_ := kp22_ hb hHeld
     clear hg_ hnew_
     (first | rw [← Ny871.out] at ho65 | (simp only [Int.reduceToNat] at ho65; rw [← Ny871.out] at ho65))
     have n0_ := q_ (Kd.N_elder' (nk_ HO829.out) (Kd.R_base ho65) hb)
     have n1_ := q_ (Kd.R_below (rk_ HO840.out) hb)
     have n2_ := q_ (Kd.R_below (rk_ HO843.out) hb)
     have n3_ := q_ (Kd.N_elder' (nk_ HO846.out) (Kd.R_base ho65) hb)
     have n4_ := q_ (Kd.N_elder' (nk_ HO853.out) (Kd.R_base ho65) hb)
     have n5_ := q_ (Kd.V_elder' (vk_ HL854_4.out) (Kd.R_base ho65) hb)
     have n6_ := q_ (Kd.V_elder' (vk_ HL854_5.out) (Kd.R_base ho65) hb)
     have n7_ := q_ (Kd.N_elder' (nk_ HO867.out) (Kd.R_base ho65) hb)
     have n8_ := q_ (Kd.R_elder' (rk_ HO870.out) (Kd.R_base ho65) hb)
     have n9_ := q_ (Kd.R_lower (Kd.R_new' ho65 (Kd.R_lt (rk_ HO870.out))) (y04 hb_))
     have n10_ := q_ (Kd.C_below (ck_ HR854_4.out) hb)
     have n11_ := q_ (Kd.C_below (ck_ HR854_5.out) hb)
     have n12_ := q_ (y05 hb_ hb)
     clear HO829 HO840 HO843 HO846 HO853 HL854_4 HL854_5 HO867 HO870 HR854_4 HR854_5 HB
     have HO829 := n0_; have HO840 := n1_; have HO843 := n2_; have HO846 := n3_; have HO853 := n4_; have HL854_4 := n5_; have HL854_5 := n6_; have HO867 := n7_; have HO870 := n8_; have HO873 := n9_; have HR854_4 := n10_; have HR854_5 := n11_; have HB := n12_
     clear n0_ n1_ n2_ n3_ n4_ n5_ n6_ n7_ n8_ n9_ n10_ n11_ n12_ hb ho65
     refine hK.out _ _ HS_ (fun hHeld => ?_)
     clear hK K
     refine no_ (N := some 69) ?_
     exact norm_ (by simp only [putAll, Act.put, List.setIfInBounds_toArray, List.set_cons_zero, List.set_cons_succ]) (hCont (.slice Ao58 t859.length co58, .slice Ao59 t862.length co59, .slice Ao62 y865.length co62, v869, v872) _ ⟨hHeld, (by (with_reducible repeat (first | apply Kd.V_alloc | apply Kd.V_drewN | apply Kd.V_drew)); exact Kd.V_mono HL854_4.out (fun _ hk => ⟨hk.1.1.1, ⟨hk.1.1.2.1, ⟨hk.1.1.2.2, ⟨hk.1.2, hk.2⟩⟩⟩⟩)), (by (with_reducible repeat (first | apply Kd.V_alloc | apply Kd.V_drewN | apply Kd.V_drew)); exact Kd.V_mono HL854_5.out (fun _ hk => ⟨hk.1.1.1, ⟨hk.1.1.2.1, ⟨hk.1.1.2.2, ⟨hk.1.2, hk.2⟩⟩⟩⟩)), (by (with_reducible repeat (first | apply Kd.N_alloc | apply Kd.N_drewN | apply Kd.N_drew)); exact Kd.N_mono HO829.out (fun _ hk => ⟨hk.1.1.1, ⟨hk.1.1.2.1, ⟨hk.1.1.2.2.1, ⟨hk.1.1.2.2.2.1, ⟨hk.1.1.2.2.2.2, ⟨hk.1.2, hk.2⟩⟩⟩⟩⟩⟩)), (rk_ HO840.out), (rk_ HO843.out), (by (with_reducible repeat (first | apply Kd.N_alloc | apply Kd.N_drewN | apply Kd.N_drew)); exact Kd.N_mono HO846.out (fun _ hk => ⟨hk.1.1.1, ⟨hk.1.1.2, ⟨hk.1.2, hk.2⟩⟩⟩)), (by (with_reducible repeat (first | apply Kd.N_alloc | apply Kd.N_drewN | apply Kd.N_drew)); exact Kd.N_mono HO853.out (fun _ hk => ⟨hk.1.1.1, ⟨hk.1.1.2.1, ⟨hk.1.1.2.2.1, ⟨hk.1.1.2.2.2.1, ⟨hk.1.1.2.2.2.2, ⟨hk.1.2, hk.2⟩⟩⟩⟩⟩⟩)), (by (with_reducible repeat (first | apply Kd.N_alloc | apply Kd.N_drewN | apply Kd.N_drew)); exact Kd.N_mono HO867.out (fun _ hk => ⟨hk.1.1.1, ⟨hk.1.1.2.1, ⟨hk.1.1.2.2.1, ⟨hk.1.1.2.2.2.1, ⟨hk.1.1.2.2.2.2, ⟨hk.1.2, hk.2⟩⟩⟩⟩⟩⟩)), (by (with_reducible repeat (first | apply Kd.R_alloc | apply Kd.R_drewN | apply Kd.R_drew)); exact Kd.R_mono HO870.out (fun _ hk => hk.2)), (by (with_reducible repeat (first | apply Kd.R_alloc | apply Kd.R_drewN | apply Kd.R_drew)); exact Kd.R_mono HO873.out (fun _ hk => hk.2)), hb_⟩)
    ·skip
     refine Kd.R_lit_step (Kd.int .i64) _ 3 ?hg (N := 69) ?hd (xs := ([0, 1] : List Int)) (inner := [.int .i64 0, .int .i64 1]) (ok := fun _ => True) (okp := fun _ => True) ?hr ?hp (fun _ hk => hk) trivial (Below.refl _ _) (Nat.le_refl _) (by simp) ?_; (case hd => rfl); (case hg => rfl); (case hr => first | (go_simp; done) | (go_simp; rfl)); (case hp => exact (Reps.one (show Kd.M (Kd.int .i64) _ _ _ 0 [.int .i64 0] from rfl) (Reps.one (show Kd.M (Kd.int .i64) _ _ _ 1 [.int .i64 1] from rfl) (Reps.none _ _))))
     intro v872 w62 ho63 hb hg_ hnew_
     have HS_ := kp22_ hb hHeld
     clear hg_ hnew_
     (first | rw [← Ny871.out] at ho63 | (simp only [Int.reduceToNat] at ho63; rw [← Ny871.out] at ho63))
     have n0_ := q_ (Kd.N_elder' (nk_ HO829.out) (Kd.R_base ho63) hb)
     have n1_ := q_ (Kd.R_below (rk_ HO840.out) hb)
     have n2_ := q_ (Kd.R_below (rk_ HO843.out) hb)
     have n3_ := q_ (Kd.N_elder' (nk_ HO846.out) (Kd.R_base ho63) hb)
     have n4_ := q_ (Kd.N_elder' (nk_ HO853.out) (Kd.R_base ho63) hb)
     have n5_ := q_ (Kd.V_elder' (vk_ HL854_4.out) (Kd.R_base ho63) hb)
     have n6_ := q_ (Kd.V_elder' (vk_ HL854_5.out) (Kd.R_base ho63) hb)
     have n7_ := q_ (Kd.N_elder' (nk_ HO867.out) (Kd.R_base ho63) hb)
     have n8_ := q_ (Kd.R_lower ho63 (y04 hb_))
     have n9_ := q_ (Kd.C_below (ck_ HR854_4.out) hb)
     have n10_ := q_ (Kd.C_below (ck_ HR854_5.out) hb)
     have n11_ := q_ (y05 hb_ hb)
     clear HO829 HO840 HO843 HO846 HO853 HL854_4 HL854_5 HO867 HR854_4 HR854_5 HB
     have HO829 := n0_; have HO840 := n1_; have HO843 := n2_; have HO846 := n3_; have HO853 := n4_; have HL854_4 := n5_; have HL854_5 := n6_; have HO867 := n7_; have HO873 := n8_; have HR854_4 := n9_; have HR854_5 := n10_; have HB := n11_
     clear n0_ n1_ n2_ n3_ n4_ n5_ n6_ n7_ n8_ n9_ n10_ n11_ hb ho63
     obtain ⟨Ao64, co64, eo64⟩ := Kd.N_slice HO867.out
     (first | subst eo64 | (injection eo64 with f1_ f2_ f3_; have f4_ := f1_.symm; have f5_ := f3_.symm; clear f1_ f2_ f3_; subst f4_; subst f5_))
     refine hK.out _ _ HS_ (fun hHeld => ?_)
     clear hK K
     refine no_ (N := some 69) ?_
     refine one_ (i := 3) (N := some 68) (fl 57 31) rfl rfl (y0p HT_.out (by kernel_rfl)) (by decide) (fun K hK => ?_)
     refine goes_ Try.func43 (by kernel_rfl) rfl #[.slice (some ad894) y827.length co45, .slice Ao64 y865.length co64] (by rfl) rfl rfl ar_ ?_
     with_reducible refine (zq18.calls k (fun k_ => ((some k_ ≠ (.slice Ao49 t838.length co49 : Value).ownBlock ∧ (some k_ ≠ (.slice Ao50 t841.length co50 : Value).ownBlock ∧ (some k_ ≠ (.slice (some ad854) t844.length co54 : Value).ownBlock ∧ (some k_ ≠ (.slice Ao55 t850.length co55 : Value).ownBlock ∧ some k_ ≠ (.slice Ao64 y865.length co64 : Value).ownBlock)))) ∧ some k_ ≠ (v872 : Value).ownBlock)) _ _ y827 (fun k_ => ((some k_ ≠ (.slice (some ad894) y827.length co45 : Value).ownBlock ∧ (some k_ ≠ (.slice Ao49 t838.length co49 : Value).ownBlock ∧ (some k_ ≠ (.slice Ao50 t841.length co50 : Value).ownBlock ∧ (some k_ ≠ (.slice (some ad854) t844.length co54 : Value).ownBlock ∧ some k_ ≠ (.slice Ao55 t850.length co55 : Value).ownBlock)))) ∧ some k_ ≠ (v872 : Value).ownBlock)) _ _ y865 t868 _ ?side1 ?side2 A17.out).mono ?_
     (case side1 => exact Kd.N_V (HO829.out))
     (case side2 => exact Kd.N_V (HO867.out))
     rintro e w65 ⟨v869, rfl, ho0, hb⟩
     have HS_ := kp22_ hb hHeld
     refine ⟨_, rfl, ?_⟩
     have n0_ := q_ (Kd.N_elder' (nk_ HO829.out) (Kd.R_base ho0) hb)
     have n1_ := q_ (Kd.R_below (rk_ HO840.out) hb)
     have n2_ := q_ (Kd.R_below (rk_ HO843.out) hb)
     have n3_ := q_ (Kd.N_elder' (nk_ HO846.out) (Kd.R_base ho0) hb)
     have n4_ := q_ (Kd.N_elder' (nk_ HO853.out) (Kd.R_base ho0) hb)
     have n5_ := q_ (Kd.V_elder' (vk_ HL854_4.out) (Kd.R_base ho0) hb)
     have n6_ := q_ (Kd.V_elder' (vk_ HL854_5.out) (Kd.R_base ho0) hb)
     have n7_ := q_ (Kd.N_elder' (nk_ HO867.out) (Kd.R_base ho0) hb)
     have n8_ := q_ (Kd.R_elder' (rk_ HO873.out) (Kd.R_base ho0) hb)
     have n9_ := q_ (Kd.R_lower (Kd.R_new' (Kd.R_mono (ok' := fun k_ => True) ho0 (fun _ hk_ => trivial)) (Kd.R_lt (rk_ HO873.out))) (y04 hb_))
     have n10_ := q_ (Kd.C_below (ck_ HR854_4.out) hb)
     have n11_ := q_ (Kd.C_below (ck_ HR854_5.out) hb)
     have n12_ := q_ (y05 hb_ hb)
     clear HO829 HO840 HO843 HO846 HO853 HL854_4 HL854_5 HO867 HO873 HR854_4 HR854_5 HB
     have HO829 := n0_; have HO840 := n1_; have HO843 := n2_; have HO846 := n3_; have HO853 := n4_; have HL854_4 := n5_; have HL854_5 := n6_; have HO867 := n7_; have HO873 := n8_; have HO870 := n9_; have HR854_4 := n10_; have HR854_5 := n11_; have HB := n12_
     clear n0_ n1_ n2_ n3_ n4_ n5_ n6_ n7_ n8_ n9_ n10_ n11_ n12_
     (try clear hb); (try clear hb2); (try clear hk); (try clear hi); (try clear ho0)
     refine hK.out _ _ HS_ (fun hHeld => ?_)
     clear hK K
     refine no_ (N := some 68) ?_
     exact norm_ (by simp only [putAll, Act.put, List.setIfInBounds_toArray, List.set_cons_zero, List.set_cons_succ]) (hCont (.slice Ao58 t859.length co58, .slice Ao59 t862.length co59, .slice Ao64 y865.length co64, v869, v872) _ ⟨hHeld, (by (with_reducible repeat (first | apply Kd.V_alloc | apply Kd.V_drewN | apply Kd.V_drew)); exact Kd.V_mono HL854_4.out (fun _ hk => ⟨hk.1.1.1, ⟨hk.1.1.2.1, ⟨hk.1.1.2.2, ⟨hk.2, hk.1.2⟩⟩⟩⟩)), (by (with_reducible repeat (first | apply Kd.V_alloc | apply Kd.V_drewN | apply Kd.V_drew)); exact Kd.V_mono HL854_5.out (fun _ hk => ⟨hk.1.1.1, ⟨hk.1.1.2.1, ⟨hk.1.1.2.2, ⟨hk.2, hk.1.2⟩⟩⟩⟩)), (by (with_reducible repeat (first | apply Kd.N_alloc | apply Kd.N_drewN | apply Kd.N_drew)); exact Kd.N_mono HO829.out (fun _ hk => ⟨hk.1.1.1, ⟨hk.1.1.2.1, ⟨hk.1.1.2.2.1, ⟨hk.1.1.2.2.2.1, ⟨hk.1.1.2.2.2.2, ⟨hk.2, hk.1.2⟩⟩⟩⟩⟩⟩)), (rk_ HO840.out), (rk_ HO843.out), (by (with_reducible repeat (first | apply Kd.N_alloc | apply Kd.N_drewN | apply Kd.N_drew)); exact Kd.N_mono HO846.out (fun _ hk => ⟨hk.1.1.1, ⟨hk.1.1.2, ⟨hk.2, hk.1.2⟩⟩⟩)), (by (with_reducible repeat (first | apply Kd.N_alloc | apply Kd.N_drewN | apply Kd.N_drew)); exact Kd.N_mono HO853.out (fun _ hk => ⟨hk.1.1.1, ⟨hk.1.1.2.1, ⟨hk.1.1.2.2.1, ⟨hk.1.1.2.2.2.1, ⟨hk.1.1.2.2.2.2, ⟨hk.2, hk.1.2⟩⟩⟩⟩⟩⟩)), (by (with_reducible repeat (first | apply Kd.N_alloc | apply Kd.N_drewN | apply Kd.N_drew)); exact Kd.N_mono HO867.out (fun _ hk => ⟨hk.1.1.1, ⟨hk.1.1.2.1, ⟨hk.1.1.2.2.1, ⟨hk.1.1.2.2.2.1, ⟨hk.1.1.2.2.2.2, ⟨hk.2, hk.1.2⟩⟩⟩⟩⟩⟩)), (by (with_reducible repeat (first | apply Kd.R_alloc | apply Kd.R_drewN | apply Kd.R_drew)); exact Kd.R_mono HO870.out (fun _ hk => hk.2)), (by (with_reducible repeat (first | apply Kd.R_alloc | apply Kd.R_drewN | apply Kd.R_drew)); exact Kd.R_mono HO873.out (fun _ hk => hk.2)), hb_⟩)
   ·skip
    refine Kd.R_lit_step (Kd.int .i64) _ 3 ?hg (N := 69) ?hd (xs := ([0, 1] : List Int)) (inner := [.int .i64 0, .int .i64 1]) (ok := fun _ => True) (okp := fun _ => True) ?hr ?hp (fun _ hk => hk) trivial (Below.refl _ _) (Nat.le_refl _) (by simp) ?_; (case hd => rfl); (case hg => rfl); (case hr => first | (go_simp; done) | (go_simp; rfl)); (case hp => exact (Reps.one (show Kd.M (Kd.int .i64) _ _ _ 0 [.int .i64 0] from rfl) (Reps.one (show Kd.M (Kd.int .i64) _ _ _ 1 [.int .i64 1] from rfl) (Reps.none _ _))))
    intro v872 w58 ho59 hb hg_ hnew_
    have HS_ := kp22_ hb hHeld
    clear hg_ hnew_
    (first | rw [← Ny871.out] at ho59 | (simp only [Int.reduceToNat] at ho59; rw [← Ny871.out] at ho59))
    have n0_ := q_ (Kd.N_elder' (nk_ HO829.out) (Kd.R_base ho59) hb)
    have n1_ := q_ (Kd.R_below (rk_ HO840.out) hb)
    have n2_ := q_ (Kd.R_below (rk_ HO843.out) hb)
    have n3_ := q_ (Kd.N_elder' (nk_ HO846.out) (Kd.R_base ho59) hb)
    have n4_ := q_ (Kd.N_elder' (nk_ HO853.out) (Kd.R_base ho59) hb)
    have n5_ := q_ (Kd.V_elder' (vk_ HL854_4.out) (Kd.R_base ho59) hb)
    have n6_ := q_ (Kd.V_elder' (vk_ HL854_5.out) (Kd.R_base ho59) hb)
    have n7_ := q_ (Kd.R_below (rk_ HO861.out) hb)
    have n8_ := q_ (Kd.R_below (rk_ HO864.out) hb)
    have n9_ := q_ (Kd.R_lower ho59 (y04 hb_))
    have n10_ := q_ (Kd.C_below (ck_ HR854_4.out) hb)
    have n11_ := q_ (Kd.C_below (ck_ HR854_5.out) hb)
    have n12_ := q_ (y05 hb_ hb)
    clear HO829 HO840 HO843 HO846 HO853 HL854_4 HL854_5 HO861 HO864 HR854_4 HR854_5 HB
    have HO829 := n0_; have HO840 := n1_; have HO843 := n2_; have HO846 := n3_; have HO853 := n4_; have HL854_4 := n5_; have HL854_5 := n6_; have HO861 := n7_; have HO864 := n8_; have HO873 := n9_; have HR854_4 := n10_; have HR854_5 := n11_; have HB := n12_
    clear n0_ n1_ n2_ n3_ n4_ n5_ n6_ n7_ n8_ n9_ n10_ n11_ n12_ hb ho59
    obtain ⟨Ao60, co60, eo60⟩ := Kd.R_slice HO861.out
    (first | subst eo60 | (injection eo60 with f1_ f2_ f3_; have f4_ := f1_.symm; have f5_ := f3_.symm; clear f1_ f2_ f3_; subst f4_; subst f5_))
    obtain ⟨Ao61, co61, eo61⟩ := Kd.R_slice HO864.out
    (first | subst eo61 | (injection eo61 with f1_ f2_ f3_; have f4_ := f1_.symm; have f5_ := f3_.symm; clear f1_ f2_ f3_; subst f4_; subst f5_))
    refine hK.out _ _ HS_ (fun hHeld => ?_)
    clear hK K
    refine no_ (N := some 69) ?_
    refine one_ (i := 2) (N := some 67) (fl 57 23) rfl rfl (y0p HT_.out (by kernel_rfl)) (by decide) (fun K hK => ?_)
    refine Kd.N_lit_step k25 _ 25 ?hg (N' := 67) ?hd (xs := ([(⟨t855, t856, t857, t858, t859, t862⟩ : S25)] : List (S25))) (inner := [.string t855, .string t856, .string t857, .int .i64 t858, .slice Ao60 t859.length co60, .slice Ao61 t862.length co61]) (ok := (fun k_ => some k_ ≠ (.slice (some ad894) y827.length co45 : Value).ownBlock ∧ some k_ ≠ (.slice Ao49 t838.length co49 : Value).ownBlock ∧ some k_ ≠ (.slice Ao50 t841.length co50 : Value).ownBlock ∧ some k_ ≠ (.slice (some ad854) t844.length co54 : Value).ownBlock ∧ some k_ ≠ (.slice Ao55 t850.length co55 : Value).ownBlock ∧ some k_ ≠ (v872 : Value).ownBlock)) (okp := (fun k_ => some k_ ≠ (.slice (some ad894) y827.length co45 : Value).ownBlock ∧ some k_ ≠ (.slice Ao49 t838.length co49 : Value).ownBlock ∧ some k_ ≠ (.slice Ao50 t841.length co50 : Value).ownBlock ∧ some k_ ≠ (.slice (some ad854) t844.length co54 : Value).ownBlock ∧ some k_ ≠ (.slice Ao55 t850.length co55 : Value).ownBlock ∧ some k_ ≠ (v872 : Value).ownBlock)) ?hr ?hp (fun _ hk => hk) ((show ∀ k_, w58.heap.size ≤ k_ → (fun k_ => some k_ ≠ (.slice (some ad894) y827.length co45 : Value).ownBlock ∧ some k_ ≠ (.slice Ao49 t838.length co49 : Value).ownBlock ∧ some k_ ≠ (.slice Ao50 t841.length co50 : Value).ownBlock ∧ some k_ ≠ (.slice (some ad854) t844.length co54 : Value).ownBlock ∧ some k_ ≠ (.slice Ao55 t850.length co55 : Value).ownBlock ∧ some k_ ≠ (v872 : Value).ownBlock) k_ from fun k_ hk => ⟨Kd.fresh' (Kd.N_lt (nk_ HO829.out)) k_ hk, Kd.fresh' (Kd.R_lt (rk_ HO840.out)) k_ hk, Kd.fresh' (Kd.R_lt (rk_ HO843.out)) k_ hk, Kd.fresh' (Kd.N_lt (nk_ HO846.out)) k_ hk, Kd.fresh' (Kd.N_lt (nk_ HO853.out)) k_ hk, Kd.fresh' (Kd.R_lt (rk_ HO873.out)) k_ hk⟩) _ (Nat.le_refl _)) (Below.refl _ _) (Nat.le_refl _) (by simp) ?_; (case hd => rfl); (case hg => rfl); (case hr => first | (go_simp; done) | (go_simp; rfl)); (case hp => exact (Reps.c6 (show Kd.FK k25 _ _ (⟨t855, t856, t857, t858, t859, t862⟩ : S25) [.string t855, .string t856, .string t857, .int .i64 t858, .slice Ao60 t859.length co60, .slice Ao61 t862.length co61] from (k25_mkF _ _ (⟨t855, t856, t857, t858, t859, t862⟩ : S25) (Kd.R_reads' (Kd.R_mono (ok' := (fun k_ => some k_ ≠ (.slice (some ad894) y827.length co45 : Value).ownBlock ∧ some k_ ≠ (.slice Ao49 t838.length co49 : Value).ownBlock ∧ some k_ ≠ (.slice Ao50 t841.length co50 : Value).ownBlock ∧ some k_ ≠ (.slice (some ad854) t844.length co54 : Value).ownBlock ∧ some k_ ≠ (.slice Ao55 t850.length co55 : Value).ownBlock ∧ some k_ ≠ (v872 : Value).ownBlock)) (Kd.R_apart' (Kd.R_apart' (Kd.R_apart' (Kd.R_apart' (Kd.R_apart' (HO861.out) (Kd.N_typed HO829.out) (by decide)) (Kd.R_typed HO843.out) (by decide)) (Kd.N_typed HO846.out) (by decide)) (Kd.N_typed HO853.out) (by decide)) (Kd.R_typed HO873.out) (by decide)) (fun k_ hk => ⟨hk.1.1.1.1.2, ⟨hk.1.1.1.1.1.2, ⟨hk.1.1.1.2, ⟨hk.1.1.2, ⟨hk.1.2, hk.2⟩⟩⟩⟩⟩))).2.1 (Kd.R_F (Kd.R_mono (ok' := (fun k_ => some k_ ≠ (.slice (some ad894) y827.length co45 : Value).ownBlock ∧ some k_ ≠ (.slice Ao49 t838.length co49 : Value).ownBlock ∧ some k_ ≠ (.slice Ao50 t841.length co50 : Value).ownBlock ∧ some k_ ≠ (.slice (some ad854) t844.length co54 : Value).ownBlock ∧ some k_ ≠ (.slice Ao55 t850.length co55 : Value).ownBlock ∧ some k_ ≠ (v872 : Value).ownBlock)) (Kd.R_apart' (Kd.R_apart' (Kd.R_apart' (Kd.R_apart' (Kd.R_apart' (HO861.out) (Kd.N_typed HO829.out) (by decide)) (Kd.R_typed HO843.out) (by decide)) (Kd.N_typed HO846.out) (by decide)) (Kd.N_typed HO853.out) (by decide)) (Kd.R_typed HO873.out) (by decide)) (fun k_ hk => ⟨hk.1.1.1.1.2, ⟨hk.1.1.1.1.1.2, ⟨hk.1.1.1.2, ⟨hk.1.1.2, ⟨hk.1.2, hk.2⟩⟩⟩⟩⟩))) (Kd.R_reads' (Kd.R_mono (ok' := (fun k_ => some k_ ≠ (.slice (some ad894) y827.length co45 : Value).ownBlock ∧ some k_ ≠ (.slice Ao49 t838.length co49 : Value).ownBlock ∧ some k_ ≠ (.slice Ao50 t841.length co50 : Value).ownBlock ∧ some k_ ≠ (.slice (some ad854) t844.length co54 : Value).ownBlock ∧ some k_ ≠ (.slice Ao55 t850.length co55 : Value).ownBlock ∧ some k_ ≠ (v872 : Value).ownBlock)) (Kd.R_apart' (Kd.R_apart' (Kd.R_apart' (Kd.R_apart' (Kd.R_apart' (HO864.out) (Kd.N_typed HO829.out) (by decide)) (Kd.R_typed HO840.out) (by decide)) (Kd.N_typed HO846.out) (by decide)) (Kd.N_typed HO853.out) (by decide)) (Kd.R_typed HO873.out) (by decide)) (fun k_ hk => ⟨hk.1.1.1.1.2, ⟨hk.1.1.1.2, ⟨hk.1.1.1.1.1.2, ⟨hk.1.1.2, ⟨hk.1.2, hk.2⟩⟩⟩⟩⟩))).2.1 (Kd.R_F (Kd.R_mono (ok' := (fun k_ => some k_ ≠ (.slice (some ad894) y827.length co45 : Value).ownBlock ∧ some k_ ≠ (.slice Ao49 t838.length co49 : Value).ownBlock ∧ some k_ ≠ (.slice Ao50 t841.length co50 : Value).ownBlock ∧ some k_ ≠ (.slice (some ad854) t844.length co54 : Value).ownBlock ∧ some k_ ≠ (.slice Ao55 t850.length co55 : Value).ownBlock ∧ some k_ ≠ (v872 : Value).ownBlock)) (Kd.R_apart' (Kd.R_apart' (Kd.R_apart' (Kd.R_apart' (Kd.R_apart' (HO864.out) (Kd.N_typed HO829.out) (by decide)) (Kd.R_typed HO840.out) (by decide)) (Kd.N_typed HO846.out) (by decide)) (Kd.N_typed HO853.out) (by decide)) (Kd.R_typed HO873.out) (by decide)) (fun k_ hk => ⟨hk.1.1.1.1.2, ⟨hk.1.1.1.2, ⟨hk.1.1.1.1.1.2, ⟨hk.1.1.2, ⟨hk.1.2, hk.2⟩⟩⟩⟩⟩))))) (Reps.none _ _)))
    intro v866 w62 ho63 hb hg_ hnew_
    have HS_ := kp22_ hb hHeld
    clear hg_ hnew_
    (first | rw [← Ny865.out] at ho63 | (simp only [Int.reduceToNat] at ho63; rw [← Ny865.out] at ho63))
    have n0_ := q_ (by have h_ := (Kd.N_elder' (nk_ HO829.out) (Kd.N_base ho63) hb); exact Kd.N_mono (ok' := (fun k_ => some k_ ≠ (.slice Ao49 t838.length co49 : Value).ownBlock ∧ some k_ ≠ (.slice Ao50 t841.length co50 : Value).ownBlock ∧ some k_ ≠ (.slice (some ad854) t844.length co54 : Value).ownBlock ∧ some k_ ≠ (.slice Ao55 t850.length co55 : Value).ownBlock ∧ some k_ ≠ (v872 : Value).ownBlock ∧ some k_ ≠ (v866 : Value).ownBlock)) h_ (fun k_ hk => ⟨hk.1.1.1.1.1.1.1.2, ⟨hk.1.1.1.1.1.1.2, ⟨hk.1.1.1.1.1.2, ⟨hk.1.1.1.1.2, ⟨hk.1.2, hk.2⟩⟩⟩⟩⟩))
    have n1_ := q_ (by have h_ := (Kd.R_below (rk_ HO840.out) hb); exact Kd.R_mono (ok' := (fun _ => True)) h_ (fun k_ hk => trivial))
    have n2_ := q_ (by have h_ := (Kd.R_below (rk_ HO843.out) hb); exact Kd.R_mono (ok' := (fun _ => True)) h_ (fun k_ hk => trivial))
    have n3_ := q_ (by have h_ := (Kd.N_elder' (nk_ HO846.out) (Kd.N_base ho63) hb); exact Kd.N_mono (ok' := (fun k_ => some k_ ≠ (.slice Ao55 t850.length co55 : Value).ownBlock ∧ some k_ ≠ (v872 : Value).ownBlock ∧ some k_ ≠ (v866 : Value).ownBlock)) h_ (fun k_ hk => ⟨hk.1.1.1.1.2, ⟨hk.1.2, hk.2⟩⟩))
    have n4_ := q_ (by have h_ := (Kd.N_elder' (nk_ HO853.out) (Kd.N_base ho63) hb); exact Kd.N_mono (ok' := (fun k_ => some k_ ≠ (.slice (some ad894) y827.length co45 : Value).ownBlock ∧ some k_ ≠ (.slice Ao49 t838.length co49 : Value).ownBlock ∧ some k_ ≠ (.slice Ao50 t841.length co50 : Value).ownBlock ∧ some k_ ≠ (.slice (some ad854) t844.length co54 : Value).ownBlock ∧ some k_ ≠ (v872 : Value).ownBlock ∧ some k_ ≠ (v866 : Value).ownBlock)) h_ (fun k_ hk => ⟨hk.1.1.1.1.1, ⟨hk.1.1.1.1.2.1, ⟨hk.1.1.1.1.2.2.1, ⟨hk.1.1.1.1.2.2.2, ⟨hk.1.2, hk.2⟩⟩⟩⟩⟩))
    have n5_ := q_ (by have h_ := (Kd.V_elder' (vk_ HL854_4.out) (Kd.N_base ho63) hb); exact Kd.V_mono (ok' := (fun k_ => some k_ ≠ (.slice (some ad854) t844.length co54 : Value).ownBlock ∧ some k_ ≠ (.slice Ao55 t850.length co55 : Value).ownBlock ∧ some k_ ≠ (v872 : Value).ownBlock ∧ some k_ ≠ (v866 : Value).ownBlock)) h_ (fun k_ hk => ⟨hk.1.1.1.1.2, ⟨hk.1.1.1.1.1.2, ⟨hk.1.2, hk.2⟩⟩⟩))
    have n6_ := q_ (by have h_ := (Kd.V_elder' (vk_ HL854_5.out) (Kd.N_base ho63) hb); exact Kd.V_mono (ok' := (fun k_ => some k_ ≠ (.slice (some ad854) t844.length co54 : Value).ownBlock ∧ some k_ ≠ (.slice Ao55 t850.length co55 : Value).ownBlock ∧ some k_ ≠ (v872 : Value).ownBlock ∧ some k_ ≠ (v866 : Value).ownBlock)) h_ (fun k_ hk => ⟨hk.1.1.1.1.2, ⟨hk.1.1.1.1.1.2, ⟨hk.1.2, hk.2⟩⟩⟩))
    have n7_ := q_ (Kd.R_below (rk_ HO873.out) hb)
    have n8_ := q_ (Kd.N_lower ho63 (y04 hb_))
    have n9_ := q_ (Kd.C_below (ck_ HR854_4.out) hb)
    have n10_ := q_ (Kd.C_below (ck_ HR854_5.out) hb)
    have n11_ := q_ (y05 hb_ hb)
    clear HO829 HO840 HO843 HO846 HO853 HL854_4 HL854_5 HO873 HR854_4 HR854_5 HB HO861 HO864
    have HO829 := n0_; have HO840 := n1_; have HO843 := n2_; have HO846 := n3_; have HO853 := n4_; have HL854_4 := n5_; have HL854_5 := n6_; have HO873 := n7_; have HO867 := n8_; have HR854_4 := n9_; have HR854_5 := n10_; have HB := n11_
    clear n0_ n1_ n2_ n3_ n4_ n5_ n6_ n7_ n8_ n9_ n10_ n11_ hb ho63
    obtain ⟨Ao64, co64, eo64⟩ := Kd.N_slice HO867.out
    (first | subst eo64 | (injection eo64 with f1_ f2_ f3_; have f4_ := f1_.symm; have f5_ := f3_.symm; clear f1_ f2_ f3_; subst f4_; subst f5_))
    refine hK.out _ _ HS_ (fun hHeld => ?_)
    clear hK K
    refine no_ (N := some 67) ?_
    refine one_ (i := 3) (N := some 68) (fl 57 31) rfl rfl (y0p HT_.out (by kernel_rfl)) (by decide) (fun K hK => ?_)
    refine goes_ Try.func43 (by kernel_rfl) rfl #[.slice (some ad894) y827.length co45, .slice Ao64 y865.length co64] (by rfl) rfl rfl ar_ ?_
    with_reducible refine (zq18.calls k (fun k_ => (some k_ ≠ (.slice Ao49 t838.length co49 : Value).ownBlock ∧ (some k_ ≠ (.slice Ao50 t841.length co50 : Value).ownBlock ∧ (some k_ ≠ (.slice (some ad854) t844.length co54 : Value).ownBlock ∧ (some k_ ≠ (.slice Ao55 t850.length co55 : Value).ownBlock ∧ (some k_ ≠ (v872 : Value).ownBlock ∧ some k_ ≠ (.slice Ao64 y865.length co64 : Value).ownBlock)))))) _ _ y827 (fun k_ => (some k_ ≠ (.slice (some ad894) y827.length co45 : Value).ownBlock ∧ (some k_ ≠ (.slice Ao49 t838.length co49 : Value).ownBlock ∧ (some k_ ≠ (.slice Ao50 t841.length co50 : Value).ownBlock ∧ (some k_ ≠ (.slice (some ad854) t844.length co54 : Value).ownBlock ∧ (some k_ ≠ (.slice Ao55 t850.length co55 : Value).ownBlock ∧ some k_ ≠ (v872 : Value).ownBlock)))))) _ _ y865 t868 _ ?side1 ?side2 A17.out).mono ?_
    (case side1 => exact Kd.N_V (HO829.out))
    (case side2 => exact Kd.N_V (HO867.out))
    rintro e w65 ⟨v869, rfl, ho0, hb⟩
    have HS_ := kp22_ hb hHeld
    refine ⟨_, rfl, ?_⟩
    have n0_ := q_ (Kd.N_elder' (nk_ HO829.out) (Kd.R_base ho0) hb)
    have n1_ := q_ (Kd.R_below (rk_ HO840.out) hb)
    have n2_ := q_ (Kd.R_below (rk_ HO843.out) hb)
    have n3_ := q_ (Kd.N_elder' (nk_ HO846.out) (Kd.R_base ho0) hb)
    have n4_ := q_ (Kd.N_elder' (nk_ HO853.out) (Kd.R_base ho0) hb)
    have n5_ := q_ (Kd.V_elder' (vk_ HL854_4.out) (Kd.R_base ho0) hb)
    have n6_ := q_ (Kd.V_elder' (vk_ HL854_5.out) (Kd.R_base ho0) hb)
    have n7_ := q_ (Kd.R_elder' (rk_ HO873.out) (Kd.R_base ho0) hb)
    have n8_ := q_ (Kd.N_elder' (nk_ HO867.out) (Kd.R_base ho0) hb)
    have n9_ := q_ (Kd.R_lower (Kd.R_new' (Kd.R_mono (ok' := fun k_ => True) ho0 (fun _ hk_ => trivial)) (Kd.R_lt (rk_ HO873.out))) (y04 hb_))
    have n10_ := q_ (Kd.C_below (ck_ HR854_4.out) hb)
    have n11_ := q_ (Kd.C_below (ck_ HR854_5.out) hb)
    have n12_ := q_ (y05 hb_ hb)
    clear HO829 HO840 HO843 HO846 HO853 HL854_4 HL854_5 HO873 HO867 HR854_4 HR854_5 HB
    have HO829 := n0_; have HO840 := n1_; have HO843 := n2_; have HO846 := n3_; have HO853 := n4_; have HL854_4 := n5_; have HL854_5 := n6_; have HO873 := n7_; have HO867 := n8_; have HO870 := n9_; have HR854_4 := n10_; have HR854_5 := n11_; have HB := n12_
    clear n0_ n1_ n2_ n3_ n4_ n5_ n6_ n7_ n8_ n9_ n10_ n11_ n12_
    (try clear hb); (try clear hb2); (try clear hk); (try clear hi); (try clear ho0)
    refine hK.out _ _ HS_ (fun hHeld => ?_)
    clear hK K
    refine no_ (N := some 68) ?_
    exact norm_ (by simp only [putAll, Act.put, List.setIfInBounds_toArray, List.set_cons_zero, List.set_cons_succ]) (hCont (.slice Ao60 t859.length co60, .slice Ao61 t862.length co61, .slice Ao64 y865.length co64, v869, v872) _ ⟨hHeld, (by (with_reducible repeat (first | apply Kd.V_alloc | apply Kd.V_drewN | apply Kd.V_drew)); exact Kd.V_mono HL854_4.out (fun _ hk => ⟨hk.1.1, ⟨hk.1.2.1, ⟨hk.1.2.2.2, ⟨hk.2, hk.1.2.2.1⟩⟩⟩⟩)), (by (with_reducible repeat (first | apply Kd.V_alloc | apply Kd.V_drewN | apply Kd.V_drew)); exact Kd.V_mono HL854_5.out (fun _ hk => ⟨hk.1.1, ⟨hk.1.2.1, ⟨hk.1.2.2.2, ⟨hk.2, hk.1.2.2.1⟩⟩⟩⟩)), (by (with_reducible repeat (first | apply Kd.N_alloc | apply Kd.N_drewN | apply Kd.N_drew)); exact Kd.N_mono HO829.out (fun _ hk => ⟨hk.1.1, ⟨hk.1.2.1, ⟨hk.1.2.2.1, ⟨hk.1.2.2.2.1, ⟨hk.1.2.2.2.2.2, ⟨hk.2, hk.1.2.2.2.2.1⟩⟩⟩⟩⟩⟩)), (rk_ HO840.out), (rk_ HO843.out), (by (with_reducible repeat (first | apply Kd.N_alloc | apply Kd.N_drewN | apply Kd.N_drew)); exact Kd.N_mono HO846.out (fun _ hk => ⟨hk.1.1, ⟨hk.1.2.2, ⟨hk.2, hk.1.2.1⟩⟩⟩)), (by (with_reducible repeat (first | apply Kd.N_alloc | apply Kd.N_drewN | apply Kd.N_drew)); exact Kd.N_mono HO853.out (fun _ hk => ⟨hk.1.1, ⟨hk.1.2.1, ⟨hk.1.2.2.1, ⟨hk.1.2.2.2.1, ⟨hk.1.2.2.2.2.2, ⟨hk.2, hk.1.2.2.2.2.1⟩⟩⟩⟩⟩⟩)), (by (with_reducible repeat (first | apply Kd.N_alloc | apply Kd.N_drewN | apply Kd.N_drew)); exact Kd.N_mono HO867.out (fun _ hk => ⟨hk.1.1, ⟨hk.1.2.1, ⟨hk.1.2.2.1, ⟨hk.1.2.2.2.1, ⟨hk.1.2.2.2.2.1, ⟨hk.2, hk.1.2.2.2.2.2⟩⟩⟩⟩⟩⟩)), (by (with_reducible repeat (first | apply Kd.R_alloc | apply Kd.R_drewN | apply Kd.R_drew)); exact Kd.R_mono HO870.out (fun _ hk => hk.2)), (by (with_reducible repeat (first | apply Kd.R_alloc | apply Kd.R_drewN | apply Kd.R_drew)); exact Kd.R_mono HO873.out (fun _ hk => hk.2)), hb_⟩)
  ·skip
   refine Kd.R_lit_step (Kd.int .i64) _ 3 ?hg (N := 69) ?hd (xs := ([0, 1] : List Int)) (inner := [.int .i64 0, .int .i64 1]) (ok := fun _ => True) (okp := fun _ => True) ?hr ?hp (fun _ hk => hk) trivial (Below.refl _ _) (Nat.le_refl _) (by simp) ?_; (case hd => rfl); (case hg => rfl); (case hr => first | (go_simp; done) | (go_simp; rfl)); (case hp => exact (Reps.one (show Kd.M (Kd.int .i64) _ _ _ 0 [.int .i64 0] from rfl) (Reps.one (show Kd.M (Kd.int .i64) _ _ _ 1 [.int .i64 1] from rfl) (Reps.none _ _))))
   intro v872 w57 ho58 hb hg_ hnew_
   have HS_ := kp22_ hb hHeld
   clear hg_ hnew_
   (first | rw [← Ny871.out] at ho58 | (simp only [Int.reduceToNat] at ho58; rw [← Ny871.out] at ho58))
   have n0_ := q_ (Kd.N_elder' (nk_ HO829.out) (Kd.R_base ho58) hb)
   have n1_ := q_ (Kd.R_below (rk_ HO840.out) hb)
   have n2_ := q_ (Kd.R_below (rk_ HO843.out) hb)
   have n3_ := q_ (Kd.N_elder' (nk_ HO846.out) (Kd.R_base ho58) hb)
   have n4_ := q_ (Kd.N_elder' (nk_ HO853.out) (Kd.R_base ho58) hb)
   have n5_ := q_ (Kd.V_elder' (vk_ HL854_4.out) (Kd.R_base ho58) hb)
   have n6_ := q_ (Kd.V_elder' (vk_ HL854_5.out) (Kd.R_base ho58) hb)
   have n7_ := q_ (Kd.R_lower ho58 (y04 hb_))
   have n8_ := q_ (Kd.C_below (ck_ HR854_4.out) hb)
   have n9_ := q_ (Kd.C_below (ck_ HR854_5.out) hb)
   have n10_ := q_ (y05 hb_ hb)
   clear HO829 HO840 HO843 HO846 HO853 HL854_4 HL854_5 HR854_4 HR854_5 HB
   have HO829 := n0_; have HO840 := n1_; have HO843 := n2_; have HO846 := n3_; have HO853 := n4_; have HL854_4 := n5_; have HL854_5 := n6_; have HO873 := n7_; have HR854_4 := n8_; have HR854_5 := n9_; have HB := n10_
   clear n0_ n1_ n2_ n3_ n4_ n5_ n6_ n7_ n8_ n9_ n10_ hb ho58
   refine hK.out _ _ HS_ (fun hHeld => ?_)
   clear hK K
   refine no_ (N := some 69) ?_
   refine one_ (i := 1) (N := some 66) (fl 57 19) rfl rfl (y0p HT_.out (by kernel_rfl)) (by decide) (fun K hK => ?_)
   refine goes_ Try.func77 (by kernel_rfl) rfl #[.string (⟨#[109]⟩ : ByteArray), .string (⟨#[]⟩ : ByteArray), .string (⟨#[112, 117, 116]⟩ : ByteArray)] (by rfl) rfl rfl ar_ ?_
   with_reducible refine (zqa.calls (⟨#[109]⟩ : ByteArray) (⟨#[]⟩ : ByteArray) (⟨#[112, 117, 116]⟩ : ByteArray) t855 t856 t857 t858 t859 t862 _ A16.out).mono ?_
   rintro e w59 ⟨v860, v863, rfl, ho0, ho1, hb⟩
   have HS_ := kp22_ hb hHeld
   refine ⟨_, rfl, ?_⟩
   have n0_ := q_ (Kd.N_mono (Kd.N_told (Kd.N_told (Kd.N_old (nk_ HO829.out) hb) (Kd.R_base ho0)) (Kd.R_base ho1)) (fun _ h_ => h_.1))
   have n1_ := q_ (Kd.R_elder' (rk_ HO840.out) (Kd.R_base ho0) hb)
   have n2_ := q_ (Kd.R_elder' (rk_ HO843.out) (Kd.R_base ho1) hb)
   have n3_ := q_ (Kd.N_mono (Kd.N_told (Kd.N_told (Kd.N_old (nk_ HO846.out) hb) (Kd.R_base ho0)) (Kd.R_base ho1)) (fun _ h_ => h_.1))
   have n4_ := q_ (Kd.N_mono (Kd.N_told (Kd.N_told (Kd.N_old (nk_ HO853.out) hb) (Kd.R_base ho0)) (Kd.R_base ho1)) (fun _ h_ => h_.1))
   have n5_ := q_ (Kd.V_mono (Kd.V_told (Kd.V_told (Kd.V_old (vk_ HL854_4.out) hb) (Kd.R_base ho0)) (Kd.R_base ho1)) (fun _ h_ => h_.1))
   have n6_ := q_ (Kd.V_mono (Kd.V_told (Kd.V_told (Kd.V_old (vk_ HL854_5.out) hb) (Kd.R_base ho0)) (Kd.R_base ho1)) (fun _ h_ => h_.1))
   have n7_ := q_ (Kd.R_below (rk_ HO873.out) hb)
   have n8_ := q_ (Kd.R_lower (Kd.R_new' ho0 (Kd.R_lt (rk_ HO840.out))) (y04 hb_))
   have n9_ := q_ (Kd.R_lower (Kd.R_new' ho1 (Kd.R_lt (rk_ HO843.out))) (y04 hb_))
   have n10_ := q_ (Kd.C_below (ck_ HR854_4.out) hb)
   have n11_ := q_ (Kd.C_below (ck_ HR854_5.out) hb)
   have n12_ := q_ (y05 hb_ hb)
   clear HO829 HO840 HO843 HO846 HO853 HL854_4 HL854_5 HO873 HR854_4 HR854_5 HB
   have HO829 := n0_; have HO840 := n1_; have HO843 := n2_; have HO846 := n3_; have HO853 := n4_; have HL854_4 := n5_; have HL854_5 := n6_; have HO873 := n7_; have HO861 := n8_; have HO864 := n9_; have HR854_4 := n10_; have HR854_5 := n11_; have HB := n12_
   clear n0_ n1_ n2_ n3_ n4_ n5_ n6_ n7_ n8_ n9_ n10_ n11_ n12_
   (try clear hb); (try clear hb2); (try clear hk); (try clear hi); (try clear ho0); (try clear ho1)
   obtain ⟨Ao60, co60, eo60⟩ := Kd.R_slice HO861.out
   (first | subst eo60 | (injection eo60 with f1_ f2_ f3_; have f4_ := f1_.symm; have f5_ := f3_.symm; clear f1_ f2_ f3_; subst f4_; subst f5_))
   obtain ⟨Ao61, co61, eo61⟩ := Kd.R_slice HO864.out
   (first | subst eo61 | (injection eo61 with f1_ f2_ f3_; have f4_ := f1_.symm; have f5_ := f3_.symm; clear f1_ f2_ f3_; subst f4_; subst f5_))
   refine hK.out _ _ HS_ (fun hHeld => ?_)
   clear hK K
   refine no_ (N := some 66) ?_
   refine one_ (i := 2) (N := some 67) (fl 57 23) rfl rfl (y0p HT_.out (by kernel_rfl)) (by decide) (fun K hK => ?_)
   refine Kd.N_lit_step k25 _ 25 ?hg (N' := 67) ?hd (xs := ([(⟨t855, t856, t857, t858, t859, t862⟩ : S25)] : List (S25))) (inner := [.string t855, .string t856, .string t857, .int .i64 t858, .slice Ao60 t859.length co60, .slice Ao61 t862.length co61]) (ok := (fun k_ => some k_ ≠ (.slice (some ad894) y827.length co45 : Value).ownBlock ∧ some k_ ≠ (.slice Ao49 t838.length co49 : Value).ownBlock ∧ some k_ ≠ (.slice Ao50 t841.length co50 : Value).ownBlock ∧ some k_ ≠ (.slice (some ad854) t844.length co54 : Value).ownBlock ∧ some k_ ≠ (.slice Ao55 t850.length co55 : Value).ownBlock ∧ some k_ ≠ (v872 : Value).ownBlock)) (okp := (fun k_ => some k_ ≠ (.slice (some ad894) y827.length co45 : Value).ownBlock ∧ some k_ ≠ (.slice Ao49 t838.length co49 : Value).ownBlock ∧ some k_ ≠ (.slice Ao50 t841.length co50 : Value).ownBlock ∧ some k_ ≠ (.slice (some ad854) t844.length co54 : Value).ownBlock ∧ some k_ ≠ (.slice Ao55 t850.length co55 : Value).ownBlock ∧ some k_ ≠ (v872 : Value).ownBlock)) ?hr ?hp (fun _ hk => hk) ((show ∀ k_, w59.heap.size ≤ k_ → (fun k_ => some k_ ≠ (.slice (some ad894) y827.length co45 : Value).ownBlock ∧ some k_ ≠ (.slice Ao49 t838.length co49 : Value).ownBlock ∧ some k_ ≠ (.slice Ao50 t841.length co50 : Value).ownBlock ∧ some k_ ≠ (.slice (some ad854) t844.length co54 : Value).ownBlock ∧ some k_ ≠ (.slice Ao55 t850.length co55 : Value).ownBlock ∧ some k_ ≠ (v872 : Value).ownBlock) k_ from fun k_ hk => ⟨Kd.fresh' (Kd.N_lt (nk_ HO829.out)) k_ hk, Kd.fresh' (Kd.R_lt (rk_ HO840.out)) k_ hk, Kd.fresh' (Kd.R_lt (rk_ HO843.out)) k_ hk, Kd.fresh' (Kd.N_lt (nk_ HO846.out)) k_ hk, Kd.fresh' (Kd.N_lt (nk_ HO853.out)) k_ hk, Kd.fresh' (Kd.R_lt (rk_ HO873.out)) k_ hk⟩) _ (Nat.le_refl _)) (Below.refl _ _) (Nat.le_refl _) (by simp) ?_; (case hd => rfl); (case hg => rfl); (case hr => first | (go_simp; done) | (go_simp; rfl)); (case hp => exact (Reps.c6 (show Kd.FK k25 _ _ (⟨t855, t856, t857, t858, t859, t862⟩ : S25) [.string t855, .string t856, .string t857, .int .i64 t858, .slice Ao60 t859.length co60, .slice Ao61 t862.length co61] from (k25_mkF _ _ (⟨t855, t856, t857, t858, t859, t862⟩ : S25) (Kd.R_reads' (Kd.R_mono (ok' := (fun k_ => some k_ ≠ (.slice (some ad894) y827.length co45 : Value).ownBlock ∧ some k_ ≠ (.slice Ao49 t838.length co49 : Value).ownBlock ∧ some k_ ≠ (.slice Ao50 t841.length co50 : Value).ownBlock ∧ some k_ ≠ (.slice (some ad854) t844.length co54 : Value).ownBlock ∧ some k_ ≠ (.slice Ao55 t850.length co55 : Value).ownBlock ∧ some k_ ≠ (v872 : Value).ownBlock)) (Kd.R_apart' (Kd.R_apart' (Kd.R_apart' (Kd.R_apart' (Kd.R_apart' (HO861.out) (Kd.N_typed HO829.out) (by decide)) (Kd.R_typed HO843.out) (by decide)) (Kd.N_typed HO846.out) (by decide)) (Kd.N_typed HO853.out) (by decide)) (Kd.R_typed HO873.out) (by decide)) (fun k_ hk => ⟨hk.1.1.1.1.2, ⟨hk.1.1.1.1.1.2, ⟨hk.1.1.1.2, ⟨hk.1.1.2, ⟨hk.1.2, hk.2⟩⟩⟩⟩⟩))).2.1 (Kd.R_F (Kd.R_mono (ok' := (fun k_ => some k_ ≠ (.slice (some ad894) y827.length co45 : Value).ownBlock ∧ some k_ ≠ (.slice Ao49 t838.length co49 : Value).ownBlock ∧ some k_ ≠ (.slice Ao50 t841.length co50 : Value).ownBlock ∧ some k_ ≠ (.slice (some ad854) t844.length co54 : Value).ownBlock ∧ some k_ ≠ (.slice Ao55 t850.length co55 : Value).ownBlock ∧ some k_ ≠ (v872 : Value).ownBlock)) (Kd.R_apart' (Kd.R_apart' (Kd.R_apart' (Kd.R_apart' (Kd.R_apart' (HO861.out) (Kd.N_typed HO829.out) (by decide)) (Kd.R_typed HO843.out) (by decide)) (Kd.N_typed HO846.out) (by decide)) (Kd.N_typed HO853.out) (by decide)) (Kd.R_typed HO873.out) (by decide)) (fun k_ hk => ⟨hk.1.1.1.1.2, ⟨hk.1.1.1.1.1.2, ⟨hk.1.1.1.2, ⟨hk.1.1.2, ⟨hk.1.2, hk.2⟩⟩⟩⟩⟩))) (Kd.R_reads' (Kd.R_mono (ok' := (fun k_ => some k_ ≠ (.slice (some ad894) y827.length co45 : Value).ownBlock ∧ some k_ ≠ (.slice Ao49 t838.length co49 : Value).ownBlock ∧ some k_ ≠ (.slice Ao50 t841.length co50 : Value).ownBlock ∧ some k_ ≠ (.slice (some ad854) t844.length co54 : Value).ownBlock ∧ some k_ ≠ (.slice Ao55 t850.length co55 : Value).ownBlock ∧ some k_ ≠ (v872 : Value).ownBlock)) (Kd.R_apart' (Kd.R_apart' (Kd.R_apart' (Kd.R_apart' (Kd.R_apart' (HO864.out) (Kd.N_typed HO829.out) (by decide)) (Kd.R_typed HO840.out) (by decide)) (Kd.N_typed HO846.out) (by decide)) (Kd.N_typed HO853.out) (by decide)) (Kd.R_typed HO873.out) (by decide)) (fun k_ hk => ⟨hk.1.1.1.1.2, ⟨hk.1.1.1.2, ⟨hk.1.1.1.1.1.2, ⟨hk.1.1.2, ⟨hk.1.2, hk.2⟩⟩⟩⟩⟩))).2.1 (Kd.R_F (Kd.R_mono (ok' := (fun k_ => some k_ ≠ (.slice (some ad894) y827.length co45 : Value).ownBlock ∧ some k_ ≠ (.slice Ao49 t838.length co49 : Value).ownBlock ∧ some k_ ≠ (.slice Ao50 t841.length co50 : Value).ownBlock ∧ some k_ ≠ (.slice (some ad854) t844.length co54 : Value).ownBlock ∧ some k_ ≠ (.slice Ao55 t850.length co55 : Value).ownBlock ∧ some k_ ≠ (v872 : Value).ownBlock)) (Kd.R_apart' (Kd.R_apart' (Kd.R_apart' (Kd.R_apart' (Kd.R_apart' (HO864.out) (Kd.N_typed HO829.out) (by decide)) (Kd.R_typed HO840.out) (by decide)) (Kd.N_typed HO846.out) (by decide)) (Kd.N_typed HO853.out) (by decide)) (Kd.R_typed HO873.out) (by decide)) (fun k_ hk => ⟨hk.1.1.1.1.2, ⟨hk.1.1.1.2, ⟨hk.1.1.1.1.1.2, ⟨hk.1.1.2, ⟨hk.1.2, hk.2⟩⟩⟩⟩⟩))))) (Reps.none _ _)))
   intro v866 w62 ho63 hb hg_ hnew_
   have HS_ := kp22_ hb hHeld
   clear hg_ hnew_
   (first | rw [← Ny865.out] at ho63 | (simp only [Int.reduceToNat] at ho63; rw [← Ny865.out] at ho63))
   have n0_ := q_ (by have h_ := (Kd.N_elder' (nk_ HO829.out) (Kd.N_base ho63) hb); exact Kd.N_mono (ok' := (fun k_ => some k_ ≠ (.slice Ao49 t838.length co49 : Value).ownBlock ∧ some k_ ≠ (.slice Ao50 t841.length co50 : Value).ownBlock ∧ some k_ ≠ (.slice (some ad854) t844.length co54 : Value).ownBlock ∧ some k_ ≠ (.slice Ao55 t850.length co55 : Value).ownBlock ∧ some k_ ≠ (v872 : Value).ownBlock ∧ some k_ ≠ (v866 : Value).ownBlock)) h_ (fun k_ hk => ⟨hk.1.1.1.1.1.1.1.2, ⟨hk.1.1.1.1.1.1.2, ⟨hk.1.1.1.1.1.2, ⟨hk.1.1.1.1.2, ⟨hk.1.1.1.2, hk.2⟩⟩⟩⟩⟩))
   have n1_ := q_ (by have h_ := (Kd.R_below (rk_ HO840.out) hb); exact Kd.R_mono (ok' := (fun _ => True)) h_ (fun k_ hk => trivial))
   have n2_ := q_ (by have h_ := (Kd.R_below (rk_ HO843.out) hb); exact Kd.R_mono (ok' := (fun _ => True)) h_ (fun k_ hk => trivial))
   have n3_ := q_ (by have h_ := (Kd.N_elder' (nk_ HO846.out) (Kd.N_base ho63) hb); exact Kd.N_mono (ok' := (fun k_ => some k_ ≠ (.slice Ao55 t850.length co55 : Value).ownBlock ∧ some k_ ≠ (v872 : Value).ownBlock ∧ some k_ ≠ (v866 : Value).ownBlock)) h_ (fun k_ hk => ⟨hk.1.1.1.1.2, ⟨hk.1.1.1.2, hk.2⟩⟩))
   have n4_ := q_ (by have h_ := (Kd.N_elder' (nk_ HO853.out) (Kd.N_base ho63) hb); exact Kd.N_mono (ok' := (fun k_ => some k_ ≠ (.slice (some ad894) y827.length co45 : Value).ownBlock ∧ some k_ ≠ (.slice Ao49 t838.length co49 : Value).ownBlock ∧ some k_ ≠ (.slice Ao50 t841.length co50 : Value).ownBlock ∧ some k_ ≠ (.slice (some ad854) t844.length co54 : Value).ownBlock ∧ some k_ ≠ (v872 : Value).ownBlock ∧ some k_ ≠ (v866 : Value).ownBlock)) h_ (fun k_ hk => ⟨hk.1.1.1.1.1, ⟨hk.1.1.1.1.2.1, ⟨hk.1.1.1.1.2.2.1, ⟨hk.1.1.1.1.2.2.2, ⟨hk.1.1.1.2, hk.2⟩⟩⟩⟩⟩))
   have n5_ := q_ (by have h_ := (Kd.V_elder' (vk_ HL854_4.out) (Kd.N_base ho63) hb); exact Kd.V_mono (ok' := (fun k_ => some k_ ≠ (.slice (some ad854) t844.length co54 : Value).ownBlock ∧ some k_ ≠ (.slice Ao55 t850.length co55 : Value).ownBlock ∧ some k_ ≠ (v872 : Value).ownBlock ∧ some k_ ≠ (v866 : Value).ownBlock)) h_ (fun k_ hk => ⟨hk.1.1.1.1.2, ⟨hk.1.1.1.1.1.2, ⟨hk.1.1.1.2, hk.2⟩⟩⟩))
   have n6_ := q_ (by have h_ := (Kd.V_elder' (vk_ HL854_5.out) (Kd.N_base ho63) hb); exact Kd.V_mono (ok' := (fun k_ => some k_ ≠ (.slice (some ad854) t844.length co54 : Value).ownBlock ∧ some k_ ≠ (.slice Ao55 t850.length co55 : Value).ownBlock ∧ some k_ ≠ (v872 : Value).ownBlock ∧ some k_ ≠ (v866 : Value).ownBlock)) h_ (fun k_ hk => ⟨hk.1.1.1.1.2, ⟨hk.1.1.1.1.1.2, ⟨hk.1.1.1.2, hk.2⟩⟩⟩))
   have n7_ := q_ (Kd.R_below (rk_ HO873.out) hb)
   have n8_ := q_ (Kd.N_lower ho63 (y04 hb_))
   have n9_ := q_ (Kd.C_below (ck_ HR854_4.out) hb)
   have n10_ := q_ (Kd.C_below (ck_ HR854_5.out) hb)
   have n11_ := q_ (y05 hb_ hb)
   clear HO829 HO840 HO843 HO846 HO853 HL854_4 HL854_5 HO873 HR854_4 HR854_5 HB HO861 HO864
   have HO829 := n0_; have HO840 := n1_; have HO843 := n2_; have HO846 := n3_; have HO853 := n4_; have HL854_4 := n5_; have HL854_5 := n6_; have HO873 := n7_; have HO867 := n8_; have HR854_4 := n9_; have HR854_5 := n10_; have HB := n11_
   clear n0_ n1_ n2_ n3_ n4_ n5_ n6_ n7_ n8_ n9_ n10_ n11_ hb ho63
   obtain ⟨Ao64, co64, eo64⟩ := Kd.N_slice HO867.out
   (first | subst eo64 | (injection eo64 with f1_ f2_ f3_; have f4_ := f1_.symm; have f5_ := f3_.symm; clear f1_ f2_ f3_; subst f4_; subst f5_))
   refine hK.out _ _ HS_ (fun hHeld => ?_)
   clear hK K
   refine no_ (N := some 67) ?_
   refine one_ (i := 3) (N := some 68) (fl 57 31) rfl rfl (y0p HT_.out (by kernel_rfl)) (by decide) (fun K hK => ?_)
   refine goes_ Try.func43 (by kernel_rfl) rfl #[.slice (some ad894) y827.length co45, .slice Ao64 y865.length co64] (by rfl) rfl rfl ar_ ?_
   with_reducible refine (zq18.calls k (fun k_ => (some k_ ≠ (.slice Ao49 t838.length co49 : Value).ownBlock ∧ (some k_ ≠ (.slice Ao50 t841.length co50 : Value).ownBlock ∧ (some k_ ≠ (.slice (some ad854) t844.length co54 : Value).ownBlock ∧ (some k_ ≠ (.slice Ao55 t850.length co55 : Value).ownBlock ∧ (some k_ ≠ (v872 : Value).ownBlock ∧ some k_ ≠ (.slice Ao64 y865.length co64 : Value).ownBlock)))))) _ _ y827 (fun k_ => (some k_ ≠ (.slice (some ad894) y827.length co45 : Value).ownBlock ∧ (some k_ ≠ (.slice Ao49 t838.length co49 : Value).ownBlock ∧ (some k_ ≠ (.slice Ao50 t841.length co50 : Value).ownBlock ∧ (some k_ ≠ (.slice (some ad854) t844.length co54 : Value).ownBlock ∧ (some k_ ≠ (.slice Ao55 t850.length co55 : Value).ownBlock ∧ some k_ ≠ (v872 : Value).ownBlock)))))) _ _ y865 t868 _ ?side1 ?side2 A17.out).mono ?_
   (case side1 => exact Kd.N_V (HO829.out))
   (case side2 => exact Kd.N_V (HO867.out))
   rintro e w65 ⟨v869, rfl, ho0, hb⟩
   have HS_ := kp22_ hb hHeld
   refine ⟨_, rfl, ?_⟩
   have n0_ := q_ (Kd.N_elder' (nk_ HO829.out) (Kd.R_base ho0) hb)
   have n1_ := q_ (Kd.R_below (rk_ HO840.out) hb)
   have n2_ := q_ (Kd.R_below (rk_ HO843.out) hb)
   have n3_ := q_ (Kd.N_elder' (nk_ HO846.out) (Kd.R_base ho0) hb)
   have n4_ := q_ (Kd.N_elder' (nk_ HO853.out) (Kd.R_base ho0) hb)
   have n5_ := q_ (Kd.V_elder' (vk_ HL854_4.out) (Kd.R_base ho0) hb)
   have n6_ := q_ (Kd.V_elder' (vk_ HL854_5.out) (Kd.R_base ho0) hb)
   have n7_ := q_ (Kd.R_elder' (rk_ HO873.out) (Kd.R_base ho0) hb)
   have n8_ := q_ (Kd.N_elder' (nk_ HO867.out) (Kd.R_base ho0) hb)
   have n9_ := q_ (Kd.R_lower (Kd.R_new' (Kd.R_mono (ok' := fun k_ => True) ho0 (fun _ hk_ => trivial)) (Kd.R_lt (rk_ HO873.out))) (y04 hb_))
   have n10_ := q_ (Kd.C_below (ck_ HR854_4.out) hb)
   have n11_ := q_ (Kd.C_below (ck_ HR854_5.out) hb)
   have n12_ := q_ (y05 hb_ hb)
   clear HO829 HO840 HO843 HO846 HO853 HL854_4 HL854_5 HO873 HO867 HR854_4 HR854_5 HB
   have HO829 := n0_; have HO840 := n1_; have HO843 := n2_; have HO846 := n3_; have HO853 := n4_; have HL854_4 := n5_; have HL854_5 := n6_; have HO873 := n7_; have HO867 := n8_; have HO870 := n9_; have HR854_4 := n10_; have HR854_5 := n11_; have HB := n12_
   clear n0_ n1_ n2_ n3_ n4_ n5_ n6_ n7_ n8_ n9_ n10_ n11_ n12_
   (try clear hb); (try clear hb2); (try clear hk); (try clear hi); (try clear ho0)
   refine hK.out _ _ HS_ (fun hHeld => ?_)
   clear hK K
   refine no_ (N := some 68) ?_
   exact norm_ (by simp only [putAll, Act.put, List.setIfInBounds_toArray, List.set_cons_zero, List.set_cons_succ]) (hCont (.slice Ao60 t859.length co60, .slice Ao61 t862.length co61, .slice Ao64 y865.length co64, v869, v872) _ ⟨hHeld, (by (with_reducible repeat (first | apply Kd.V_alloc | apply Kd.V_drewN | apply Kd.V_drew)); exact Kd.V_mono HL854_4.out (fun _ hk => ⟨hk.1.1, ⟨hk.1.2.1, ⟨hk.1.2.2.2, ⟨hk.2, hk.1.2.2.1⟩⟩⟩⟩)), (by (with_reducible repeat (first | apply Kd.V_alloc | apply Kd.V_drewN | apply Kd.V_drew)); exact Kd.V_mono HL854_5.out (fun _ hk => ⟨hk.1.1, ⟨hk.1.2.1, ⟨hk.1.2.2.2, ⟨hk.2, hk.1.2.2.1⟩⟩⟩⟩)), (by (with_reducible repeat (first | apply Kd.N_alloc | apply Kd.N_drewN | apply Kd.N_drew)); exact Kd.N_mono HO829.out (fun _ hk => ⟨hk.1.1, ⟨hk.1.2.1, ⟨hk.1.2.2.1, ⟨hk.1.2.2.2.1, ⟨hk.1.2.2.2.2.2, ⟨hk.2, hk.1.2.2.2.2.1⟩⟩⟩⟩⟩⟩)), (rk_ HO840.out), (rk_ HO843.out), (by (with_reducible repeat (first | apply Kd.N_alloc | apply Kd.N_drewN | apply Kd.N_drew)); exact Kd.N_mono HO846.out (fun _ hk => ⟨hk.1.1, ⟨hk.1.2.2, ⟨hk.2, hk.1.2.1⟩⟩⟩)), (by (with_reducible repeat (first | apply Kd.N_alloc | apply Kd.N_drewN | apply Kd.N_drew)); exact Kd.N_mono HO853.out (fun _ hk => ⟨hk.1.1, ⟨hk.1.2.1, ⟨hk.1.2.2.1, ⟨hk.1.2.2.2.1, ⟨hk.1.2.2.2.2.2, ⟨hk.2, hk.1.2.2.2.2.1⟩⟩⟩⟩⟩⟩)), (by (with_reducible repeat (first | apply Kd.N_alloc | apply Kd.N_drewN | apply Kd.N_drew)); exact Kd.N_mono HO867.out (fun _ hk => ⟨hk.1.1, ⟨hk.1.2.1, ⟨hk.1.2.2.1, ⟨hk.1.2.2.2.1, ⟨hk.1.2.2.2.2.1, ⟨hk.2, hk.1.2.2.2.2.2⟩⟩⟩⟩⟩⟩)), (by (with_reducible repeat (first | apply Kd.R_alloc | apply Kd.R_drewN | apply Kd.R_drew)); exact Kd.R_mono HO870.out (fun _ hk => hk.2)), (by (with_reducible repeat (first | apply Kd.R_alloc | apply Kd.R_drewN | apply Kd.R_drew)); exact Kd.R_mono HO873.out (fun _ hk => hk.2)), hb_⟩)
 rintro ⟨v860, v863, v866, v869, v872⟩ w66 ⟨hS_, h0_, h1_, h2_, h3_, h4_, h5_, h6_, h7_, h8_, h9_, h10_⟩
 have n0_ : Aside0 (Kd.V k62 62 w66 w.heap.size (fun k_ => some k_ ≠ (.slice (some ad854) t844.length co54 : Value).ownBlock ∧ some k_ ≠ (.slice Ao55 t850.length co55 : Value).ownBlock ∧ some k_ ≠ (v866 : Value).ownBlock ∧ some k_ ≠ (v869 : Value).ownBlock ∧ some k_ ≠ (v872 : Value).ownBlock) (.slice A854_4 ((y0q t844 1).f4).length c854_4) ((y0q t844 1).f4)) := ⟨h0_⟩
 have n1_ : Aside0 (Kd.V k43 43 w66 w.heap.size (fun k_ => some k_ ≠ (.slice (some ad854) t844.length co54 : Value).ownBlock ∧ some k_ ≠ (.slice Ao55 t850.length co55 : Value).ownBlock ∧ some k_ ≠ (v866 : Value).ownBlock ∧ some k_ ≠ (v869 : Value).ownBlock ∧ some k_ ≠ (v872 : Value).ownBlock) (.slice A854_5 ((y0q t844 1).f5).length c854_5) ((y0q t844 1).f5)) := ⟨h1_⟩
 have n2_ : Aside0 (Kd.N k25 25 w66 w.heap.size (fun k_ => some k_ ≠ (.slice Ao49 t838.length co49 : Value).ownBlock ∧ some k_ ≠ (.slice Ao50 t841.length co50 : Value).ownBlock ∧ some k_ ≠ (.slice (some ad854) t844.length co54 : Value).ownBlock ∧ some k_ ≠ (.slice Ao55 t850.length co55 : Value).ownBlock ∧ some k_ ≠ (v866 : Value).ownBlock ∧ some k_ ≠ (v869 : Value).ownBlock ∧ some k_ ≠ (v872 : Value).ownBlock) (.slice (some ad894) y827.length co45) y827) := ⟨h2_⟩
 have n3_ : Aside0 (Kd.R k62 62 w66 w.heap.size (fun _ => True) (.slice Ao49 t838.length co49) t838) := ⟨h3_⟩
 have n4_ : Aside0 (Kd.R k43 43 w66 w.heap.size (fun _ => True) (.slice Ao50 t841.length co50) t841) := ⟨h4_⟩
 have n5_ : Aside0 (Kd.N k25 25 w66 w.heap.size (fun k_ => some k_ ≠ (.slice Ao55 t850.length co55 : Value).ownBlock ∧ some k_ ≠ (v866 : Value).ownBlock ∧ some k_ ≠ (v869 : Value).ownBlock ∧ some k_ ≠ (v872 : Value).ownBlock) (.slice (some ad854) t844.length co54) t844) := ⟨h5_⟩
 have n6_ : Aside0 (Kd.N k25 25 w66 w.heap.size (fun k_ => some k_ ≠ (.slice (some ad894) y827.length co45 : Value).ownBlock ∧ some k_ ≠ (.slice Ao49 t838.length co49 : Value).ownBlock ∧ some k_ ≠ (.slice Ao50 t841.length co50 : Value).ownBlock ∧ some k_ ≠ (.slice (some ad854) t844.length co54 : Value).ownBlock ∧ some k_ ≠ (v866 : Value).ownBlock ∧ some k_ ≠ (v869 : Value).ownBlock ∧ some k_ ≠ (v872 : Value).ownBlock) (.slice Ao55 t850.length co55) t850) := ⟨h6_⟩
 have n7_ : Aside0 (Kd.N k25 25 w66 w.heap.size (fun k_ => some k_ ≠ (.slice (some ad894) y827.length co45 : Value).ownBlock ∧ some k_ ≠ (.slice Ao49 t838.length co49 : Value).ownBlock ∧ some k_ ≠ (.slice Ao50 t841.length co50 : Value).ownBlock ∧ some k_ ≠ (.slice (some ad854) t844.length co54 : Value).ownBlock ∧ some k_ ≠ (.slice Ao55 t850.length co55 : Value).ownBlock ∧ some k_ ≠ (v869 : Value).ownBlock ∧ some k_ ≠ (v872 : Value).ownBlock) v866 y865) := ⟨h7_⟩
 have n8_ : Aside0 (Kd.R (Kd.int .i64) 3 w66 w.heap.size (fun k_ => some k_ ≠ (v872 : Value).ownBlock) v869 t868) := ⟨h8_⟩
 have n9_ : Aside0 (Kd.R (Kd.int .i64) 3 w66 w.heap.size (fun k_ => some k_ ≠ (v869 : Value).ownBlock) v872 y871) := ⟨h9_⟩
 have n10_ : Aside0 (Below w.heap.size w w66) := ⟨h10_⟩
 clear HO829 HO840 HO843 HO846 HO853 HL854_4 HL854_5 HR854_4 HR854_5 HB h0_ h1_ h2_ h3_ h4_ h5_ h6_ h7_ h8_ h9_ h10_
 have HL854_4 := n0_; have HL854_5 := n1_; have HO829 := n2_; have HO840 := n3_; have HO843 := n4_; have HO846 := n5_; have HO853 := n6_; have HO867 := n7_; have HO870 := n8_; have HO873 := n9_; have HB := n10_
 clear n0_ n1_ n2_ n3_ n4_ n5_ n6_ n7_ n8_ n9_ n10_
 have hHeld : w66.cell? ⟨ad854.block, ad854.off + 6, none⟩ = some (.string ((y0q t844 1).f0)) ∧ w66.cell? ⟨ad854.block, ad854.off + 6 + 1, none⟩ = some (.string ((y0q t844 1).f1)) ∧ w66.cell? ⟨ad854.block, ad854.off + 6 + 2, none⟩ = some (.string ((y0q t844 1).f2)) ∧ w66.cell? ⟨ad854.block, ad854.off + 6 + 3, none⟩ = some (.int .i64 ((y0q t844 1).f3)) ∧ w66.cell? ⟨ad854.block, ad854.off + 6 + 4, none⟩ = some (.slice (some ad892) ((y0q t844 1).f4).length c891_4) ∧ w66.cell? ⟨ad854.block, ad854.off + 6 + 5, none⟩ = some (.slice A891_5 ((y0q t844 1).f5).length c891_5) ∧ w66.cell? ad892 = some (.string ((y0s ((y0q t844 1).f4) 0).f0)) ∧ w66.cell? ⟨ad892.block, ad892.off + 1, none⟩ = some (.int .i64 ((y0s ((y0q t844 1).f4) 0).f1)) ∧ w66.cell? ⟨ad892.block, ad892.off + 2, none⟩ = some (.int .i64 ((y0s ((y0q t844 1).f4) 0).f2)) ∧ w66.cell? ⟨ad892.block, ad892.off + 3, none⟩ = some (.bool ((y0s ((y0q t844 1).f4) 0).f3)) ∧ w66.cell? ⟨ad894.block, ad894.off + 6, none⟩ = some (.string ((y0q y827 1).f0)) ∧ w66.cell? ⟨ad894.block, ad894.off + 6 + 1, none⟩ = some (.string ((y0q y827 1).f1)) ∧ w66.cell? ⟨ad894.block, ad894.off + 6 + 2, none⟩ = some (.string ((y0q y827 1).f2)) ∧ w66.cell? ⟨ad894.block, ad894.off + 6 + 3, none⟩ = some (.int .i64 ((y0q y827 1).f3)) ∧ w66.cell? ⟨ad894.block, ad894.off + 6 + 4, none⟩ = some (.slice A894_4 ((y0q y827 1).f4).length c894_4) ∧ w66.cell? ⟨ad894.block, ad894.off + 6 + 5, none⟩ = some (.slice A894_5 ((y0q y827 1).f5).length c894_5) ∧ w66.cell? ⟨ad894.block, ad894.off + 6, none⟩ = some (.string ((y0q y827 1).f0)) ∧ w66.cell? ⟨ad894.block, ad894.off + 6 + 1, none⟩ = some (.string ((y0q y827 1).f1)) ∧ w66.cell? ⟨ad894.block, ad894.off + 6 + 2, none⟩ = some (.string ((y0q y827 1).f2)) ∧ w66.cell? ⟨ad894.block, ad894.off + 6 + 3, none⟩ = some (.int .i64 ((y0q y827 1).f3)) ∧ w66.cell? ⟨ad894.block, ad894.off + 6 + 4, none⟩ = some (.slice A894_4 ((y0q y827 1).f4).length c894_4) ∧ w66.cell? ⟨ad894.block, ad894.off + 6 + 5, none⟩ = some (.slice A894_5 ((y0q y827 1).f5).length c894_5) := hS_
 obtain ⟨Ao67, co67, eo67⟩ := Kd.R_slice HO870.out
 (first | subst eo67 | (injection eo67 with f1_ f2_ f3_; have f4_ := f1_.symm; have f5_ := f3_.symm; clear f1_ f2_ f3_; subst f4_; subst f5_))
 obtain ⟨Ao68, co68, eo68⟩ := Kd.R_slice HO873.out
 (first | subst eo68 | (injection eo68 with f1_ f2_ f3_; have f4_ := f1_.symm; have f5_ := f3_.symm; clear f1_ f2_ f3_; subst f4_; subst f5_))
 refine norm_ (a' := ?_) ?_ ?_
 rotate_left
 ·simp only [putAll, Act.put, List.setIfInBounds_toArray, List.set_cons_zero, List.set_cons_succ]
  rfl
 refine one_ (i := 5) (N := some 70) (fl 57 63) rfl rfl (y0p HT_.out (by kernel_rfl)) (by decide) (fun K hK => ?_)
 refine goes_ Try.func42 (by kernel_rfl) rfl #[.slice Ao67 t868.length co67, .slice Ao68 y871.length co68] (by rfl) rfl rfl ar_ ?_
 with_reducible refine (zqr.calls k _ _ t868 _ _ y871 true _ ?side1 ?side2 ?side3 ?side4 A18.out).mono ?_
 (case side1 => exact ck_ (Kd.R_reads' HO870.out).2.2)
 (case side2 => exact (Kd.R_reads' HO870.out).2.1)
 (case side3 => exact ck_ (Kd.R_reads' HO873.out).2.2)
 (case side4 => exact (Kd.R_reads' HO873.out).2.1)
 rintro e w' ⟨rfl, ⟨nd, rfl⟩⟩
 refine ⟨_, rfl, ?_⟩
 refine hK.out _ _ ⟨hHeld.1, hHeld.2.1, hHeld.2.2.1, hHeld.2.2.2.1, hHeld.2.2.2.2.1, hHeld.2.2.2.2.2.1, hHeld.2.2.2.2.2.2.1, hHeld.2.2.2.2.2.2.2.1, hHeld.2.2.2.2.2.2.2.2.1, hHeld.2.2.2.2.2.2.2.2.2.1, hHeld.2.2.2.2.2.2.2.2.2.2.1, hHeld.2.2.2.2.2.2.2.2.2.2.2.1, hHeld.2.2.2.2.2.2.2.2.2.2.2.2.1, hHeld.2.2.2.2.2.2.2.2.2.2.2.2.2.1, hHeld.2.2.2.2.2.2.2.2.2.2.2.2.2.2.1, hHeld.2.2.2.2.2.2.2.2.2.2.2.2.2.2.2.1, hHeld.2.2.2.2.2.2.2.2.2.2.2.2.2.2.2.2.1, hHeld.2.2.2.2.2.2.2.2.2.2.2.2.2.2.2.2.2.1, hHeld.2.2.2.2.2.2.2.2.2.2.2.2.2.2.2.2.2.2.1, hHeld.2.2.2.2.2.2.2.2.2.2.2.2.2.2.2.2.2.2.2.1, hHeld.2.2.2.2.2.2.2.2.2.2.2.2.2.2.2.2.2.2.2.2.1, hHeld.2.2.2.2.2.2.2.2.2.2.2.2.2.2.2.2.2.2.2.2.2⟩ (fun hHeld => ?_)
 clear hK K
 refine no_ (N := some 70) ?_
 refine pu_ 6 (some 71) (fl 57 127) rfl rfl HT_ ?_
 refine pu_ 7 (some 72) (fl 57 255) rfl rfl HT_ ?_
 refine one_ (i := 8) (N := some 73) (fl 57 511) rfl rfl (y0p HT_.out (by kernel_rfl)) (by decide) (fun K hK => ?_)
 refine goes_ Try.func77 (by kernel_rfl) rfl #[.string (⟨#[109]⟩ : ByteArray), .string (⟨#[]⟩ : ByteArray), .string (⟨#[]⟩ : ByteArray)] (by rfl) rfl rfl ar_ ?_
 with_reducible refine (zqa.calls (⟨#[109]⟩ : ByteArray) (⟨#[]⟩ : ByteArray) (⟨#[]⟩ : ByteArray) t875 t876 t877 t878 t879 t882 _ A20.out).mono ?_
 rintro e w69 ⟨v880, v883, rfl, ho0, ho1, hb⟩
 have HS_ := kp22_ hb hHeld
 refine ⟨_, rfl, ?_⟩
 have n0_ := q_ (Kd.N_mono (Kd.N_told (Kd.N_told (Kd.N_old (nk_ HO829.out) hb) (Kd.R_base ho0)) (Kd.R_base ho1)) (fun _ h_ => h_.1))
 have n1_ := q_ (Kd.R_elder' (rk_ HO840.out) (Kd.R_base ho0) hb)
 have n2_ := q_ (Kd.R_elder' (rk_ HO843.out) (Kd.R_base ho1) hb)
 have n3_ := q_ (Kd.N_mono (Kd.N_told (Kd.N_told (Kd.N_old (nk_ HO846.out) hb) (Kd.R_base ho0)) (Kd.R_base ho1)) (fun _ h_ => h_.1))
 have n4_ := q_ (Kd.N_mono (Kd.N_told (Kd.N_told (Kd.N_old (nk_ HO853.out) hb) (Kd.R_base ho0)) (Kd.R_base ho1)) (fun _ h_ => h_.1))
 have n5_ := q_ (Kd.V_mono (Kd.V_told (Kd.V_told (Kd.V_old (vk_ HL854_4.out) hb) (Kd.R_base ho0)) (Kd.R_base ho1)) (fun _ h_ => h_.1))
 have n6_ := q_ (Kd.V_mono (Kd.V_told (Kd.V_told (Kd.V_old (vk_ HL854_5.out) hb) (Kd.R_base ho0)) (Kd.R_base ho1)) (fun _ h_ => h_.1))
 have n7_ := q_ (Kd.N_mono (Kd.N_told (Kd.N_told (Kd.N_old (nk_ HO867.out) hb) (Kd.R_base ho0)) (Kd.R_base ho1)) (fun _ h_ => h_.1))
 have n8_ := q_ (Kd.R_below (rk_ HO870.out) hb)
 have n9_ := q_ (Kd.R_below (rk_ HO873.out) hb)
 have n10_ := q_ (Kd.R_lower (Kd.R_new' ho0 (Kd.R_lt (rk_ HO840.out))) (y04 hb_))
 have n11_ := q_ (Kd.R_lower (Kd.R_new' ho1 (Kd.R_lt (rk_ HO843.out))) (y04 hb_))
 have n12_ := q_ (y05 hb_ hb)
 clear HO829 HO840 HO843 HO846 HO853 HL854_4 HL854_5 HO867 HO870 HO873 HB
 have HO829 := n0_; have HO840 := n1_; have HO843 := n2_; have HO846 := n3_; have HO853 := n4_; have HL854_4 := n5_; have HL854_5 := n6_; have HO867 := n7_; have HO870 := n8_; have HO873 := n9_; have HO881 := n10_; have HO884 := n11_; have HB := n12_
 clear n0_ n1_ n2_ n3_ n4_ n5_ n6_ n7_ n8_ n9_ n10_ n11_ n12_
 (try clear hb); (try clear hb2); (try clear hk); (try clear hi); (try clear ho0); (try clear ho1)
 obtain ⟨Ao70, co70, eo70⟩ := Kd.R_slice HO881.out
 (first | subst eo70 | (injection eo70 with f1_ f2_ f3_; have f4_ := f1_.symm; have f5_ := f3_.symm; clear f1_ f2_ f3_; subst f4_; subst f5_))
 obtain ⟨Ao71, co71, eo71⟩ := Kd.R_slice HO884.out
 (first | subst eo71 | (injection eo71 with f1_ f2_ f3_; have f4_ := f1_.symm; have f5_ := f3_.symm; clear f1_ f2_ f3_; subst f4_; subst f5_))
 refine hK.out _ _ HS_ (fun hHeld => ?_)
 clear hK K
 refine no_ (N := some 73) ?_
 refine one_ (i := 9) (N := some 74) (fl 57 1023) rfl rfl (y0p HT_.out (by kernel_rfl)) (by decide) (fun K hK => ?_)
 refine Kd.N_lit_step k25 _ 25 ?hg (N' := 74) ?hd (xs := ([(⟨t875, t876, t877, t878, t879, t882⟩ : S25)] : List (S25))) (inner := [.string t875, .string t876, .string t877, .int .i64 t878, .slice Ao70 t879.length co70, .slice Ao71 t882.length co71]) (ok := (fun k_ => some k_ ≠ (.slice (some ad894) y827.length co45 : Value).ownBlock ∧ some k_ ≠ (.slice Ao49 t838.length co49 : Value).ownBlock ∧ some k_ ≠ (.slice Ao50 t841.length co50 : Value).ownBlock ∧ some k_ ≠ (.slice (some ad854) t844.length co54 : Value).ownBlock ∧ some k_ ≠ (.slice Ao55 t850.length co55 : Value).ownBlock ∧ some k_ ≠ (v866 : Value).ownBlock ∧ some k_ ≠ (.slice Ao67 t868.length co67 : Value).ownBlock ∧ some k_ ≠ (.slice Ao68 y871.length co68 : Value).ownBlock)) (okp := (fun k_ => some k_ ≠ (.slice (some ad894) y827.length co45 : Value).ownBlock ∧ some k_ ≠ (.slice Ao49 t838.length co49 : Value).ownBlock ∧ some k_ ≠ (.slice Ao50 t841.length co50 : Value).ownBlock ∧ some k_ ≠ (.slice (some ad854) t844.length co54 : Value).ownBlock ∧ some k_ ≠ (.slice Ao55 t850.length co55 : Value).ownBlock ∧ some k_ ≠ (v866 : Value).ownBlock ∧ some k_ ≠ (.slice Ao67 t868.length co67 : Value).ownBlock ∧ some k_ ≠ (.slice Ao68 y871.length co68 : Value).ownBlock)) ?hr ?hp (fun _ hk => hk) ((show ∀ k_, w69.heap.size ≤ k_ → (fun k_ => some k_ ≠ (.slice (some ad894) y827.length co45 : Value).ownBlock ∧ some k_ ≠ (.slice Ao49 t838.length co49 : Value).ownBlock ∧ some k_ ≠ (.slice Ao50 t841.length co50 : Value).ownBlock ∧ some k_ ≠ (.slice (some ad854) t844.length co54 : Value).ownBlock ∧ some k_ ≠ (.slice Ao55 t850.length co55 : Value).ownBlock ∧ some k_ ≠ (v866 : Value).ownBlock ∧ some k_ ≠ (.slice Ao67 t868.length co67 : Value).ownBlock ∧ some k_ ≠ (.slice Ao68 y871.length co68 : Value).ownBlock) k_ from fun k_ hk => ⟨Kd.fresh' (Kd.N_lt (nk_ HO829.out)) k_ hk, Kd.fresh' (Kd.R_lt (rk_ HO840.out)) k_ hk, Kd.fresh' (Kd.R_lt (rk_ HO843.out)) k_ hk, Kd.fresh' (Kd.N_lt (nk_ HO846.out)) k_ hk, Kd.fresh' (Kd.N_lt (nk_ HO853.out)) k_ hk, Kd.fresh' (Kd.N_lt (nk_ HO867.out)) k_ hk, Kd.fresh' (Kd.R_lt (rk_ HO870.out)) k_ hk, Kd.fresh' (Kd.R_lt (rk_ HO873.out)) k_ hk⟩) _ (Nat.le_refl _)) (Below.refl _ _) (Nat.le_refl _) (by simp) ?_; (case hd => rfl); (case hg => rfl); (case hr => first | (go_simp; done) | (go_simp; rfl)); (case hp => exact (Reps.c6 (show Kd.FK k25 _ _ (⟨t875, t876, t877, t878, t879, t882⟩ : S25) [.string t875, .string t876, .string t877, .int .i64 t878, .slice Ao70 t879.length co70, .slice Ao71 t882.length co71] from (k25_mkF _ _ (⟨t875, t876, t877, t878, t879, t882⟩ : S25) (Kd.R_reads' (Kd.R_mono (ok' := (fun k_ => some k_ ≠ (.slice (some ad894) y827.length co45 : Value).ownBlock ∧ some k_ ≠ (.slice Ao49 t838.length co49 : Value).ownBlock ∧ some k_ ≠ (.slice Ao50 t841.length co50 : Value).ownBlock ∧ some k_ ≠ (.slice (some ad854) t844.length co54 : Value).ownBlock ∧ some k_ ≠ (.slice Ao55 t850.length co55 : Value).ownBlock ∧ some k_ ≠ (v866 : Value).ownBlock ∧ some k_ ≠ (.slice Ao67 t868.length co67 : Value).ownBlock ∧ some k_ ≠ (.slice Ao68 y871.length co68 : Value).ownBlock)) (Kd.R_apart' (Kd.R_apart' (Kd.R_apart' (Kd.R_apart' (Kd.R_apart' (Kd.R_apart' (Kd.R_apart' (HO881.out) (Kd.N_typed HO829.out) (by decide)) (Kd.R_typed HO843.out) (by decide)) (Kd.N_typed HO846.out) (by decide)) (Kd.N_typed HO853.out) (by decide)) (Kd.N_typed HO867.out) (by decide)) (Kd.R_typed HO870.out) (by decide)) (Kd.R_typed HO873.out) (by decide)) (fun k_ hk => ⟨hk.1.1.1.1.1.1.2, ⟨hk.1.1.1.1.1.1.1.2, ⟨hk.1.1.1.1.1.2, ⟨hk.1.1.1.1.2, ⟨hk.1.1.1.2, ⟨hk.1.1.2, ⟨hk.1.2, hk.2⟩⟩⟩⟩⟩⟩⟩))).2.1 (Kd.R_F (Kd.R_mono (ok' := (fun k_ => some k_ ≠ (.slice (some ad894) y827.length co45 : Value).ownBlock ∧ some k_ ≠ (.slice Ao49 t838.length co49 : Value).ownBlock ∧ some k_ ≠ (.slice Ao50 t841.length co50 : Value).ownBlock ∧ some k_ ≠ (.slice (some ad854) t844.length co54 : Value).ownBlock ∧ some k_ ≠ (.slice Ao55 t850.length co55 : Value).ownBlock ∧ some k_ ≠ (v866 : Value).ownBlock ∧ some k_ ≠ (.slice Ao67 t868.length co67 : Value).ownBlock ∧ some k_ ≠ (.slice Ao68 y871.length co68 : Value).ownBlock)) (Kd.R_apart' (Kd.R_apart' (Kd.R_apart' (Kd.R_apart' (Kd.R_apart' (Kd.R_apart' (Kd.R_apart' (HO881.out) (Kd.N_typed HO829.out) (by decide)) (Kd.R_typed HO843.out) (by decide)) (Kd.N_typed HO846.out) (by decide)) (Kd.N_typed HO853.out) (by decide)) (Kd.N_typed HO867.out) (by decide)) (Kd.R_typed HO870.out) (by decide)) (Kd.R_typed HO873.out) (by decide)) (fun k_ hk => ⟨hk.1.1.1.1.1.1.2, ⟨hk.1.1.1.1.1.1.1.2, ⟨hk.1.1.1.1.1.2, ⟨hk.1.1.1.1.2, ⟨hk.1.1.1.2, ⟨hk.1.1.2, ⟨hk.1.2, hk.2⟩⟩⟩⟩⟩⟩⟩))) (Kd.R_reads' (Kd.R_mono (ok' := (fun k_ => some k_ ≠ (.slice (some ad894) y827.length co45 : Value).ownBlock ∧ some k_ ≠ (.slice Ao49 t838.length co49 : Value).ownBlock ∧ some k_ ≠ (.slice Ao50 t841.length co50 : Value).ownBlock ∧ some k_ ≠ (.slice (some ad854) t844.length co54 : Value).ownBlock ∧ some k_ ≠ (.slice Ao55 t850.length co55 : Value).ownBlock ∧ some k_ ≠ (v866 : Value).ownBlock ∧ some k_ ≠ (.slice Ao67 t868.length co67 : Value).ownBlock ∧ some k_ ≠ (.slice Ao68 y871.length co68 : Value).ownBlock)) (Kd.R_apart' (Kd.R_apart' (Kd.R_apart' (Kd.R_apart' (Kd.R_apart' (Kd.R_apart' (Kd.R_apart' (HO884.out) (Kd.N_typed HO829.out) (by decide)) (Kd.R_typed HO840.out) (by decide)) (Kd.N_typed HO846.out) (by decide)) (Kd.N_typed HO853.out) (by decide)) (Kd.N_typed HO867.out) (by decide)) (Kd.R_typed HO870.out) (by decide)) (Kd.R_typed HO873.out) (by decide)) (fun k_ hk => ⟨hk.1.1.1.1.1.1.2, ⟨hk.1.1.1.1.1.2, ⟨hk.1.1.1.1.1.1.1.2, ⟨hk.1.1.1.1.2, ⟨hk.1.1.1.2, ⟨hk.1.1.2, ⟨hk.1.2, hk.2⟩⟩⟩⟩⟩⟩⟩))).2.1 (Kd.R_F (Kd.R_mono (ok' := (fun k_ => some k_ ≠ (.slice (some ad894) y827.length co45 : Value).ownBlock ∧ some k_ ≠ (.slice Ao49 t838.length co49 : Value).ownBlock ∧ some k_ ≠ (.slice Ao50 t841.length co50 : Value).ownBlock ∧ some k_ ≠ (.slice (some ad854) t844.length co54 : Value).ownBlock ∧ some k_ ≠ (.slice Ao55 t850.length co55 : Value).ownBlock ∧ some k_ ≠ (v866 : Value).ownBlock ∧ some k_ ≠ (.slice Ao67 t868.length co67 : Value).ownBlock ∧ some k_ ≠ (.slice Ao68 y871.length co68 : Value).ownBlock)) (Kd.R_apart' (Kd.R_apart' (Kd.R_apart' (Kd.R_apart' (Kd.R_apart' (Kd.R_apart' (Kd.R_apart' (HO884.out) (Kd.N_typed HO829.out) (by decide)) (Kd.R_typed HO840.out) (by decide)) (Kd.N_typed HO846.out) (by decide)) (Kd.N_typed HO853.out) (by decide)) (Kd.N_typed HO867.out) (by decide)) (Kd.R_typed HO870.out) (by decide)) (Kd.R_typed HO873.out) (by decide)) (fun k_ hk => ⟨hk.1.1.1.1.1.1.2, ⟨hk.1.1.1.1.1.2, ⟨hk.1.1.1.1.1.1.1.2, ⟨hk.1.1.1.1.2, ⟨hk.1.1.1.2, ⟨hk.1.1.2, ⟨hk.1.2, hk.2⟩⟩⟩⟩⟩⟩⟩))))) (Reps.none _ _)))
 intro v886 w72 ho73 hb hg_ hnew_
 have HS_ := kp22_ hb hHeld
 clear hg_ hnew_
 (first | rw [← Ny885.out] at ho73 | (simp only [Int.reduceToNat] at ho73; rw [← Ny885.out] at ho73))
 have n0_ := q_ (by have h_ := (Kd.N_elder' (nk_ HO829.out) (Kd.N_base ho73) hb); exact Kd.N_mono (ok' := (fun k_ => some k_ ≠ (.slice Ao49 t838.length co49 : Value).ownBlock ∧ some k_ ≠ (.slice Ao50 t841.length co50 : Value).ownBlock ∧ some k_ ≠ (.slice (some ad854) t844.length co54 : Value).ownBlock ∧ some k_ ≠ (.slice Ao55 t850.length co55 : Value).ownBlock ∧ some k_ ≠ (v866 : Value).ownBlock ∧ some k_ ≠ (.slice Ao67 t868.length co67 : Value).ownBlock ∧ some k_ ≠ (.slice Ao68 y871.length co68 : Value).ownBlock ∧ some k_ ≠ (v886 : Value).ownBlock)) h_ (fun k_ hk => ⟨hk.1.1.1.1, ⟨hk.1.1.1.2.1, ⟨hk.1.1.1.2.2.1, ⟨hk.1.1.1.2.2.2.1, ⟨hk.1.1.1.2.2.2.2.1, ⟨hk.1.1.1.2.2.2.2.2.1, ⟨hk.1.1.1.2.2.2.2.2.2, hk.2⟩⟩⟩⟩⟩⟩⟩))
 have n1_ := q_ (by have h_ := (Kd.R_below (rk_ HO840.out) hb); exact Kd.R_mono (ok' := (fun _ => True)) h_ (fun k_ hk => trivial))
 have n2_ := q_ (by have h_ := (Kd.R_below (rk_ HO843.out) hb); exact Kd.R_mono (ok' := (fun _ => True)) h_ (fun k_ hk => trivial))
 have n3_ := q_ (by have h_ := (Kd.N_elder' (nk_ HO846.out) (Kd.N_base ho73) hb); exact Kd.N_mono (ok' := (fun k_ => some k_ ≠ (.slice Ao55 t850.length co55 : Value).ownBlock ∧ some k_ ≠ (v866 : Value).ownBlock ∧ some k_ ≠ (.slice Ao67 t868.length co67 : Value).ownBlock ∧ some k_ ≠ (.slice Ao68 y871.length co68 : Value).ownBlock ∧ some k_ ≠ (v886 : Value).ownBlock)) h_ (fun k_ hk => ⟨hk.1.1.1.1, ⟨hk.1.1.1.2.1, ⟨hk.1.1.1.2.2.1, ⟨hk.1.1.1.2.2.2, hk.2⟩⟩⟩⟩))
 have n4_ := q_ (by have h_ := (Kd.N_elder' (nk_ HO853.out) (Kd.N_base ho73) hb); exact Kd.N_mono (ok' := (fun k_ => some k_ ≠ (.slice (some ad894) y827.length co45 : Value).ownBlock ∧ some k_ ≠ (.slice Ao49 t838.length co49 : Value).ownBlock ∧ some k_ ≠ (.slice Ao50 t841.length co50 : Value).ownBlock ∧ some k_ ≠ (.slice (some ad854) t844.length co54 : Value).ownBlock ∧ some k_ ≠ (v866 : Value).ownBlock ∧ some k_ ≠ (.slice Ao67 t868.length co67 : Value).ownBlock ∧ some k_ ≠ (.slice Ao68 y871.length co68 : Value).ownBlock ∧ some k_ ≠ (v886 : Value).ownBlock)) h_ (fun k_ hk => ⟨hk.1.1.1.1, ⟨hk.1.1.1.2.1, ⟨hk.1.1.1.2.2.1, ⟨hk.1.1.1.2.2.2.1, ⟨hk.1.1.1.2.2.2.2.1, ⟨hk.1.1.1.2.2.2.2.2.1, ⟨hk.1.1.1.2.2.2.2.2.2, hk.2⟩⟩⟩⟩⟩⟩⟩))
 have n5_ := q_ (by have h_ := (Kd.V_elder' (vk_ HL854_4.out) (Kd.N_base ho73) hb); exact Kd.V_mono (ok' := (fun k_ => some k_ ≠ (.slice (some ad854) t844.length co54 : Value).ownBlock ∧ some k_ ≠ (.slice Ao55 t850.length co55 : Value).ownBlock ∧ some k_ ≠ (v866 : Value).ownBlock ∧ some k_ ≠ (.slice Ao67 t868.length co67 : Value).ownBlock ∧ some k_ ≠ (.slice Ao68 y871.length co68 : Value).ownBlock ∧ some k_ ≠ (v886 : Value).ownBlock)) h_ (fun k_ hk => ⟨hk.1.1.1.1, ⟨hk.1.1.1.2.1, ⟨hk.1.1.1.2.2.1, ⟨hk.1.1.1.2.2.2.1, ⟨hk.1.1.1.2.2.2.2, hk.2⟩⟩⟩⟩⟩))
 have n6_ := q_ (by have h_ := (Kd.V_elder' (vk_ HL854_5.out) (Kd.N_base ho73) hb); exact Kd.V_mono (ok' := (fun k_ => some k_ ≠ (.slice (some ad854) t844.length co54 : Value).ownBlock ∧ some k_ ≠ (.slice Ao55 t850.length co55 : Value).ownBlock ∧ some k_ ≠ (v866 : Value).ownBlock ∧ some k_ ≠ (.slice Ao67 t868.length co67 : Value).ownBlock ∧ some k_ ≠ (.slice Ao68 y871.length co68 : Value).ownBlock ∧ some k_ ≠ (v886 : Value).ownBlock)) h_ (fun k_ hk => ⟨hk.1.1.1.1, ⟨hk.1.1.1.2.1, ⟨hk.1.1.1.2.2.1, ⟨hk.1.1.1.2.2.2.1, ⟨hk.1.1.1.2.2.2.2, hk.2⟩⟩⟩⟩⟩))
 have n7_ := q_ (by have h_ := (Kd.N_elder' (nk_ HO867.out) (Kd.N_base ho73) hb); exact Kd.N_mono (ok' := (fun k_ => some k_ ≠ (.slice (some ad894) y827.length co45 : Value).ownBlock ∧ some k_ ≠ (.slice Ao49 t838.length co49 : Value).ownBlock ∧ some k_ ≠ (.slice Ao50 t841.length co50 : Value).ownBlock ∧ some k_ ≠ (.slice (some ad854) t844.length co54 : Value).ownBlock ∧ some k_ ≠ (.slice Ao55 t850.length co55 : Value).ownBlock ∧ some k_ ≠ (.slice Ao67 t868.length co67 : Value).ownBlock ∧ some k_ ≠ (.slice Ao68 y871.length co68 : Value).ownBlock ∧ some k_ ≠ (v886 : Value).ownBlock)) h_ (fun k_ hk => ⟨hk.1.1.1.1, ⟨hk.1.1.1.2.1, ⟨hk.1.1.1.2.2.1, ⟨hk.1.1.1.2.2.2.1, ⟨hk.1.1.1.2.2.2.2.1, ⟨hk.1.1.1.2.2.2.2.2.1, ⟨hk.1.1.1.2.2.2.2.2.2, hk.2⟩⟩⟩⟩⟩⟩⟩))
 have n8_ := q_ (Kd.R_below (rk_ HO870.out) hb)
 have n9_ := q_ (Kd.R_below (rk_ HO873.out) hb)
 have n10_ := q_ (Kd.N_lower ho73 (y04 hb_))
 have n11_ := q_ (y05 hb_ hb)
 clear HO829 HO840 HO843 HO846 HO853 HL854_4 HL854_5 HO867 HO870 HO873 HB HO881 HO884
 have HO829 := n0_; have HO840 := n1_; have HO843 := n2_; have HO846 := n3_; have HO853 := n4_; have HL854_4 := n5_; have HL854_5 := n6_; have HO867 := n7_; have HO870 := n8_; have HO873 := n9_; have HO887 := n10_; have HB := n11_
 clear n0_ n1_ n2_ n3_ n4_ n5_ n6_ n7_ n8_ n9_ n10_ n11_ hb ho73
 obtain ⟨Ao74, co74, eo74⟩ := Kd.N_slice HO887.out
 (first | subst eo74 | (injection eo74 with f1_ f2_ f3_; have f4_ := f1_.symm; have f5_ := f3_.symm; clear f1_ f2_ f3_; subst f4_; subst f5_))
 refine hK.out _ _ HS_ (fun hHeld => ?_)
 clear hK K
 refine no_ (N := some 74) ?_
 refine one_ (i := 10) (N := some 75) (fl 57 2047) rfl rfl (y0p HT_.out (by kernel_rfl)) (by decide) (fun K hK => ?_)
 refine goes_ Try.func43 (by kernel_rfl) rfl #[.slice (some ad894) y827.length co45, .slice Ao74 y885.length co74] (by rfl) rfl rfl ar_ ?_
 with_reducible refine (zq18.calls k (fun k_ => (some k_ ≠ (.slice Ao49 t838.length co49 : Value).ownBlock ∧ (some k_ ≠ (.slice Ao50 t841.length co50 : Value).ownBlock ∧ (some k_ ≠ (.slice (some ad854) t844.length co54 : Value).ownBlock ∧ (some k_ ≠ (.slice Ao55 t850.length co55 : Value).ownBlock ∧ (some k_ ≠ (v866 : Value).ownBlock ∧ (some k_ ≠ (.slice Ao67 t868.length co67 : Value).ownBlock ∧ (some k_ ≠ (.slice Ao68 y871.length co68 : Value).ownBlock ∧ some k_ ≠ (.slice Ao74 y885.length co74 : Value).ownBlock)))))))) _ _ y827 (fun k_ => (some k_ ≠ (.slice (some ad894) y827.length co45 : Value).ownBlock ∧ (some k_ ≠ (.slice Ao49 t838.length co49 : Value).ownBlock ∧ (some k_ ≠ (.slice Ao50 t841.length co50 : Value).ownBlock ∧ (some k_ ≠ (.slice (some ad854) t844.length co54 : Value).ownBlock ∧ (some k_ ≠ (.slice Ao55 t850.length co55 : Value).ownBlock ∧ (some k_ ≠ (v866 : Value).ownBlock ∧ (some k_ ≠ (.slice Ao67 t868.length co67 : Value).ownBlock ∧ some k_ ≠ (.slice Ao68 y871.length co68 : Value).ownBlock)))))))) _ _ y885 t888 _ ?side1 ?side2 A21.out).mono ?_
 (case side1 => exact Kd.N_V (HO829.out))
 (case side2 => exact Kd.N_V (HO887.out))
 rintro e w75 ⟨v889, rfl, ho0, hb⟩
 have HS_ := kp22_ hb hHeld
 refine ⟨_, rfl, ?_⟩
 have n0_ := q_ (Kd.N_elder' (nk_ HO829.out) (Kd.R_base ho0) hb)
 have n1_ := q_ (Kd.R_below (rk_ HO840.out) hb)
 have n2_ := q_ (Kd.R_below (rk_ HO843.out) hb)
 have n3_ := q_ (Kd.N_elder' (nk_ HO846.out) (Kd.R_base ho0) hb)
 have n4_ := q_ (Kd.N_elder' (nk_ HO853.out) (Kd.R_base ho0) hb)
 have n5_ := q_ (Kd.V_elder' (vk_ HL854_4.out) (Kd.R_base ho0) hb)
 have n6_ := q_ (Kd.V_elder' (vk_ HL854_5.out) (Kd.R_base ho0) hb)
 have n7_ := q_ (Kd.N_elder' (nk_ HO867.out) (Kd.R_base ho0) hb)
 have n8_ := q_ (Kd.R_elder' (rk_ HO870.out) (Kd.R_base ho0) hb)
 have n9_ := q_ (Kd.R_elder' (rk_ HO873.out) (Kd.R_base ho0) hb)
 have n10_ := q_ (Kd.N_elder' (nk_ HO887.out) (Kd.R_base ho0) hb)
 have n11_ := q_ (Kd.R_lower (Kd.R_new' (Kd.R_new' (Kd.R_mono (ok' := fun k_ => True) ho0 (fun _ hk_ => trivial)) (Kd.R_lt (rk_ HO870.out))) (Kd.R_lt (rk_ HO873.out))) (y04 hb_))
 have n12_ := q_ (y05 hb_ hb)
 clear HO829 HO840 HO843 HO846 HO853 HL854_4 HL854_5 HO867 HO870 HO873 HO887 HB
 have HO829 := n0_; have HO840 := n1_; have HO843 := n2_; have HO846 := n3_; have HO853 := n4_; have HL854_4 := n5_; have HL854_5 := n6_; have HO867 := n7_; have HO870 := n8_; have HO873 := n9_; have HO887 := n10_; have HO890 := n11_; have HB := n12_
 clear n0_ n1_ n2_ n3_ n4_ n5_ n6_ n7_ n8_ n9_ n10_ n11_ n12_
 (try clear hb); (try clear hb2); (try clear hk); (try clear hi); (try clear ho0)
 obtain ⟨Ao76, co76, eo76⟩ := Kd.R_slice HO890.out
 (first | subst eo76 | (injection eo76 with f1_ f2_ f3_; have f4_ := f1_.symm; have f5_ := f3_.symm; clear f1_ f2_ f3_; subst f4_; subst f5_))
 refine hK.out _ _ HS_ (fun hHeld => ?_)
 clear hK K
 refine no_ (N := some 75) ?_
 refine pu_ 11 (some 76) (fl 57 4095) rfl rfl HT_ ?_
 refine pu_ 12 (some 77) (fl 57 8191) rfl rfl HT_ ?_
 refine pu_ 13 (some 78) (fl 57 16383) rfl rfl HT_ ?_
 refine pu_ 14 (some 79) (fl 57 32767) rfl rfl HT_ ?_
 refine pu_ 15 (some 80) (fl 57 65535) rfl rfl HT_ ?_
 refine pu_ 16 (some 81) (fl 57 131071) rfl rfl HT_ ?_
 refine pu_ 17 (some 82) (fl 57 262143) rfl rfl HT_ ?_
 refine pu_ 18 (some 83) (fl 57 524287) rfl rfl HT_ ?_
 refine pu_ 19 (some 84) (fl 57 1048575) rfl rfl HT_ ?_
 refine pu_ 20 (some 85) (fl 57 2097151) rfl rfl HT_ ?_
 refine pu_ 21 (some 86) (fl 57 4194303) rfl rfl HT_ ?_
 refine pu_ 22 (some 87) (fl 57 8388607) rfl rfl HT_ ?_
 refine pu_ 23 (some 88) (fl 57 16777215) rfl rfl HT_ ?_
 refine pu_ 24 (some 89) (fl 57 33554431) rfl rfl HT_ ?_
 refine pu_ 25 (some 90) (fl 57 67108863) rfl rfl HT_ ?_
 refine pu_ 26 (some 91) (fl 57 134217727) rfl rfl HT_ ?_
 refine pu_ 27 (some 92) (fl 57 268435455) rfl rfl HT_ ?_
 refine pu_ 28 (some 93) (fl 57 536870911) rfl rfl HT_ ?_
 refine ta_ 29 (some 94) (fl 57 1073741823) rfl rfl HT_ HW_ hHeld ?_
 refine pu_ 30 (some 95) (fl 57 2147483647) rfl rfl HT_ ?_
 refine pu_ 31 (some 96) (fl 57 4294967295) rfl rfl HT_ ?_
 refine ta_ 32 (some 97) (fl 57 8589934591) rfl rfl HT_ HW_ hHeld ?_
 refine pu_ 33 (some 98) (fl 57 17179869183) rfl rfl HT_ ?_
 refine pu_ 34 (some 99) (fl 57 34359738367) rfl rfl HT_ ?_
 refine pu_ 35 (some 100) (fl 57 68719476735) rfl rfl HT_ ?_
 refine pu_ 36 (some 101) (fl 57 137438953471) rfl rfl HT_ ?_
 refine pu_ 37 (some 102) (fl 57 274877906943) rfl rfl HT_ ?_
 obtain ⟨ce891, hce891, hMe891, hcc891⟩ := Kd.N_get HO846.out z25 1 (by omega) (of_eq_true q891)
 obtain ⟨ua891_4, uc891_4, ua891_5, uc891_5, rfl, ul891_4, ge891_4, ul891_5, ge891_5⟩ := k25_openF hMe891
 have hv891_4 := hcc891 4 _ rfl
 rw [y00 _ _ 4 (by omega)] at hv891_4
 (try simp only [show (1 : Int).toNat = 1 from rfl, Nat.reduceMul, Nat.reduceEqDiff, Go.Addr.add, ↓reduceIte] at hv891_4)
 (try rw [show ((1 : Int)).toNat = 1 from rfl] at hv891_4)
 (try rw [show 1 * 6 = 6 from rfl] at hv891_4)
 replace hv891_4 := Option.some.inj (hv891_4.symm.trans (by exact hHeld.2.2.2.2.1))
 injection hv891_4 with hva_ hvn_ hvc_
 rw [hva_] at ge891_4
 rw [hvc_] at ul891_4
 have HL891_4 := q_ (show Kd.V k62 62 _ w.heap.size _ _ ((y0q t844 1).f4) from Kd.V_mk ul891_4 ge891_4)
 have HR891_4 := q_ (Kd.V_reads' HL891_4.out).2.2
 clear hva_ hvn_ hvc_ ge891_4 ul891_4
 have hv891_5 := hcc891 5 _ rfl
 rw [y00 _ _ 5 (by omega)] at hv891_5
 (try simp only [show (1 : Int).toNat = 1 from rfl, Nat.reduceMul, Nat.reduceEqDiff, Go.Addr.add, ↓reduceIte] at hv891_5)
 (try rw [show ((1 : Int)).toNat = 1 from rfl] at hv891_5)
 (try rw [show 1 * 6 = 6 from rfl] at hv891_5)
 replace hv891_5 := Option.some.inj (hv891_5.symm.trans (by exact hHeld.2.2.2.2.2.1))
 injection hv891_5 with hva_ hvn_ hvc_
 rw [hva_] at ge891_5
 rw [hvc_] at ul891_5
 have HL891_5 := q_ (show Kd.V k43 43 _ w.heap.size _ _ ((y0q t844 1).f5) from Kd.V_mk ul891_5 ge891_5)
 have HR891_5 := q_ (Kd.V_reads' HL891_5.out).2.2
 clear hva_ hvn_ hvc_ ge891_5 ul891_5 hcc891 hce891
 refine one_ (i := 38) (N := some 103) (fl 57 549755813887) rfl rfl (y0p HT_.out (by kernel_rfl)) (by decide) (fun K hK => ?_)
 refine goes_ Try.func41 (by kernel_rfl) rfl #[.slice (some ad894) y827.length co45, .slice Ao55 t850.length co55] (by rfl) rfl rfl ar_ ?_
 with_reducible refine (zqu.calls k _ _ y827 _ _ t850 true _ ?side1 ?side2 ?side3 ?side4 A28.out).mono ?_
 (case side1 => exact ck_ (Kd.N_reads' HO829.out).2.2)
 (case side2 => exact (Kd.N_reads' HO829.out).2.1)
 (case side3 => exact ck_ (Kd.N_reads' HO853.out).2.2)
 (case side4 => exact (Kd.N_reads' HO853.out).2.1)
 rintro e w77 ⟨rfl, hb⟩
 have HS_ := kp22_ hb hHeld
 refine ⟨_, rfl, ?_⟩
 have n0_ := q_ (Kd.N_below (nk_ HO829.out) hb)
 have n1_ := q_ (Kd.R_below (rk_ HO840.out) hb)
 have n2_ := q_ (Kd.R_below (rk_ HO843.out) hb)
 have n3_ := q_ (Kd.N_below (nk_ HO846.out) hb)
 have n4_ := q_ (Kd.N_below (nk_ HO853.out) hb)
 have n5_ := q_ (Kd.V_below (vk_ HL854_4.out) hb)
 have n6_ := q_ (Kd.V_below (vk_ HL854_5.out) hb)
 have n7_ := q_ (Kd.N_below (nk_ HO867.out) hb)
 have n8_ := q_ (Kd.R_below (rk_ HO870.out) hb)
 have n9_ := q_ (Kd.R_below (rk_ HO873.out) hb)
 have n10_ := q_ (Kd.N_below (nk_ HO887.out) hb)
 have n11_ := q_ (Kd.R_below (rk_ HO890.out) hb)
 have n12_ := q_ (Kd.V_below (vk_ HL891_4.out) hb)
 have n13_ := q_ (Kd.V_below (vk_ HL891_5.out) hb)
 have n14_ := q_ (Kd.C_below (ck_ HR891_4.out) hb)
 have n15_ := q_ (Kd.C_below (ck_ HR891_5.out) hb)
 have n16_ := q_ (y05 hb_ hb)
 clear HO829 HO840 HO843 HO846 HO853 HL854_4 HL854_5 HO867 HO870 HO873 HO887 HO890 HL891_4 HL891_5 HR891_4 HR891_5 HB
 have HO829 := n0_; have HO840 := n1_; have HO843 := n2_; have HO846 := n3_; have HO853 := n4_; have HL854_4 := n5_; have HL854_5 := n6_; have HO867 := n7_; have HO870 := n8_; have HO873 := n9_; have HO887 := n10_; have HO890 := n11_; have HL891_4 := n12_; have HL891_5 := n13_; have HR891_4 := n14_; have HR891_5 := n15_; have HB := n16_
 clear n0_ n1_ n2_ n3_ n4_ n5_ n6_ n7_ n8_ n9_ n10_ n11_ n12_ n13_ n14_ n15_ n16_
 (try clear hb); (try clear hb2); (try clear hk); (try clear hi)
 refine hK.out _ _ HS_ (fun hHeld => ?_)
 clear hK K
 refine no_ (N := some 103) ?_
 refine pu_ 39 (some 104) (fl 57 1099511627775) rfl rfl HT_ ?_
 refine pu_ 40 (some 105) (fl 57 2199023255551) rfl rfl HT_ ?_
 refine pu_ 41 (some 106) (fl 57 4398046511103) rfl rfl HT_ ?_
 refine pu_ 42 (some 107) (fl 57 8796093022207) rfl rfl HT_ ?_
 refine pu_ 44 (some 109) (fl 57 26388279066623) rfl rfl HT_ ?_
 refine pu_ 45 (some 110) (fl 57 61572651155455) rfl rfl HT_ ?_
 refine ta_ 43 (some 108) (fl 57 70368744177663) rfl rfl HT_ HW_ hHeld ?_
 refine ta_ 46 (some 111) (fl 57 140737488355327) rfl rfl HT_ HW_ hHeld ?_
 obtain ⟨ce894, hce894, hMe894, hcc894⟩ := Kd.N_get HO829.out z25 1 (by omega) (of_eq_true q894)
 obtain ⟨ua894_4, uc894_4, ua894_5, uc894_5, rfl, ul894_4, ge894_4, ul894_5, ge894_5⟩ := k25_openF hMe894
 have hv894_4 := hcc894 4 _ rfl
 rw [y00 _ _ 4 (by omega)] at hv894_4
 (try simp only [show (1 : Int).toNat = 1 from rfl, Nat.reduceMul, Nat.reduceEqDiff, Go.Addr.add, ↓reduceIte] at hv894_4)
 (try rw [show ((1 : Int)).toNat = 1 from rfl] at hv894_4)
 (try rw [show 1 * 6 = 6 from rfl] at hv894_4)
 replace hv894_4 := Option.some.inj (hv894_4.symm.trans (by exact hHeld.2.2.2.2.2.2.2.2.2.2.2.2.2.2.1))
 injection hv894_4 with hva_ hvn_ hvc_
 rw [hva_] at ge894_4
 rw [hvc_] at ul894_4
 have HL894_4 := q_ (show Kd.V k62 62 _ w.heap.size _ _ ((y0q y827 1).f4) from Kd.V_mk ul894_4 ge894_4)
 have HR894_4 := q_ (Kd.V_reads' HL894_4.out).2.2
 clear hva_ hvn_ hvc_ ge894_4 ul894_4
 have hv894_5 := hcc894 5 _ rfl
 rw [y00 _ _ 5 (by omega)] at hv894_5
 (try simp only [show (1 : Int).toNat = 1 from rfl, Nat.reduceMul, Nat.reduceEqDiff, Go.Addr.add, ↓reduceIte] at hv894_5)
 (try rw [show ((1 : Int)).toNat = 1 from rfl] at hv894_5)
 (try rw [show 1 * 6 = 6 from rfl] at hv894_5)
 replace hv894_5 := Option.some.inj (hv894_5.symm.trans (by exact hHeld.2.2.2.2.2.2.2.2.2.2.2.2.2.2.2.1))
 injection hv894_5 with hva_ hvn_ hvc_
 rw [hva_] at ge894_5
 rw [hvc_] at ul894_5
 have HL894_5 := q_ (show Kd.V k43 43 _ w.heap.size _ _ ((y0q y827 1).f5) from Kd.V_mk ul894_5 ge894_5)
 have HR894_5 := q_ (Kd.V_reads' HL894_5.out).2.2
 clear hva_ hvn_ hvc_ ge894_5 ul894_5 hcc894 hce894
 have HL895_4 := HL894_4; have HR895_4 := HR894_4; have HC895_4 := HC894_4
 have HL895_5 := HL894_5; have HR895_5 := HR894_5; have HC895_5 := HC894_5
 refine one_ (i := 47) (N := some 112) (fl 57 281474976710655) rfl rfl (y0p HT_.out (by kernel_rfl)) (by decide) (fun K hK => ?_)
 refine Kd.N_lit_step k25 _ 25 ?hg (N' := 112) ?hd (xs := ([(⟨(y0q y827 1).f0, (y0q y827 1).f1, (y0q y827 1).f2, (y0q y827 1).f3, (y0q y827 1).f4, (y0q y827 1).f5⟩ : S25), (⟨(y0q y827 1).f0, (y0q y827 1).f1, (y0q y827 1).f2, (y0q y827 1).f3, (y0q y827 1).f4, (y0q y827 1).f5⟩ : S25)] : List (S25))) (inner := [.string ((y0q y827 1).f0), .string ((y0q y827 1).f1), .string ((y0q y827 1).f2), .int .i64 ((y0q y827 1).f3), .slice A894_4 ((y0q y827 1).f4).length c894_4, .slice A894_5 ((y0q y827 1).f5).length c894_5, .string ((y0q y827 1).f0), .string ((y0q y827 1).f1), .string ((y0q y827 1).f2), .int .i64 ((y0q y827 1).f3), .slice A894_4 ((y0q y827 1).f4).length c894_4, .slice A894_5 ((y0q y827 1).f5).length c894_5]) (ok := (fun k_ => some k_ ≠ (.slice (some ad894) y827.length co45 : Value).ownBlock ∧ some k_ ≠ (.slice Ao49 t838.length co49 : Value).ownBlock ∧ some k_ ≠ (.slice Ao50 t841.length co50 : Value).ownBlock ∧ some k_ ≠ (.slice (some ad854) t844.length co54 : Value).ownBlock ∧ some k_ ≠ (.slice Ao55 t850.length co55 : Value).ownBlock ∧ some k_ ≠ (v866 : Value).ownBlock ∧ some k_ ≠ (.slice Ao67 t868.length co67 : Value).ownBlock ∧ some k_ ≠ (.slice Ao68 y871.length co68 : Value).ownBlock ∧ some k_ ≠ (.slice Ao74 y885.length co74 : Value).ownBlock ∧ some k_ ≠ (.slice Ao76 t888.length co76 : Value).ownBlock)) (okp := (fun k_ => some k_ ≠ (.slice (some ad894) y827.length co45 : Value).ownBlock ∧ some k_ ≠ (.slice Ao49 t838.length co49 : Value).ownBlock ∧ some k_ ≠ (.slice Ao50 t841.length co50 : Value).ownBlock ∧ some k_ ≠ (.slice (some ad854) t844.length co54 : Value).ownBlock ∧ some k_ ≠ (.slice Ao55 t850.length co55 : Value).ownBlock ∧ some k_ ≠ (v866 : Value).ownBlock ∧ some k_ ≠ (.slice Ao67 t868.length co67 : Value).ownBlock ∧ some k_ ≠ (.slice Ao68 y871.length co68 : Value).ownBlock ∧ some k_ ≠ (.slice Ao74 y885.length co74 : Value).ownBlock ∧ some k_ ≠ (.slice Ao76 t888.length co76 : Value).ownBlock)) ?hr ?hp (fun _ hk => hk) ((show ∀ k_, w77.heap.size ≤ k_ → (fun k_ => some k_ ≠ (.slice (some ad894) y827.length co45 : Value).ownBlock ∧ some k_ ≠ (.slice Ao49 t838.length co49 : Value).ownBlock ∧ some k_ ≠ (.slice Ao50 t841.length co50 : Value).ownBlock ∧ some k_ ≠ (.slice (some ad854) t844.length co54 : Value).ownBlock ∧ some k_ ≠ (.slice Ao55 t850.length co55 : Value).ownBlock ∧ some k_ ≠ (v866 : Value).ownBlock ∧ some k_ ≠ (.slice Ao67 t868.length co67 : Value).ownBlock ∧ some k_ ≠ (.slice Ao68 y871.length co68 : Value).ownBlock ∧ some k_ ≠ (.slice Ao74 y885.length co74 : Value).ownBlock ∧ some k_ ≠ (.slice Ao76 t888.length co76 : Value).ownBlock) k_ from fun k_ hk => ⟨Kd.fresh' (Kd.N_lt (nk_ HO829.out)) k_ hk, Kd.fresh' (Kd.R_lt (rk_ HO840.out)) k_ hk, Kd.fresh' (Kd.R_lt (rk_ HO843.out)) k_ hk, Kd.fresh' (Kd.N_lt (nk_ HO846.out)) k_ hk, Kd.fresh' (Kd.N_lt (nk_ HO853.out)) k_ hk, Kd.fresh' (Kd.N_lt (nk_ HO867.out)) k_ hk, Kd.fresh' (Kd.R_lt (rk_ HO870.out)) k_ hk, Kd.fresh' (Kd.R_lt (rk_ HO873.out)) k_ hk, Kd.fresh' (Kd.N_lt (nk_ HO887.out)) k_ hk, Kd.fresh' (Kd.R_lt (rk_ HO890.out)) k_ hk⟩) _ (Nat.le_refl _)) (Below.refl _ _) (Nat.le_refl _) (by simp) ?_; (case hd => rfl); (case hg => rfl); (case hr => first | (go_simp; done) | (go_simp; rfl)); (case hp => exact (Reps.c6 (show Kd.FK k25 _ _ (⟨(y0q y827 1).f0, (y0q y827 1).f1, (y0q y827 1).f2, (y0q y827 1).f3, (y0q y827 1).f4, (y0q y827 1).f5⟩ : S25) [.string ((y0q y827 1).f0), .string ((y0q y827 1).f1), .string ((y0q y827 1).f2), .int .i64 ((y0q y827 1).f3), .slice A894_4 ((y0q y827 1).f4).length c894_4, .slice A894_5 ((y0q y827 1).f5).length c894_5] from (k25_mkF _ _ (⟨(y0q y827 1).f0, (y0q y827 1).f1, (y0q y827 1).f2, (y0q y827 1).f3, (y0q y827 1).f4, (y0q y827 1).f5⟩ : S25) (Kd.V_reads' (Kd.V_mono (ok' := (fun k_ => some k_ ≠ (.slice (some ad894) y827.length co45 : Value).ownBlock ∧ some k_ ≠ (.slice Ao49 t838.length co49 : Value).ownBlock ∧ some k_ ≠ (.slice Ao50 t841.length co50 : Value).ownBlock ∧ some k_ ≠ (.slice (some ad854) t844.length co54 : Value).ownBlock ∧ some k_ ≠ (.slice Ao55 t850.length co55 : Value).ownBlock ∧ some k_ ≠ (v866 : Value).ownBlock ∧ some k_ ≠ (.slice Ao67 t868.length co67 : Value).ownBlock ∧ some k_ ≠ (.slice Ao68 y871.length co68 : Value).ownBlock ∧ some k_ ≠ (.slice Ao74 y885.length co74 : Value).ownBlock ∧ some k_ ≠ (.slice Ao76 t888.length co76 : Value).ownBlock)) (HL894_4.out) (fun k_ hk => ⟨hk.2, ⟨hk.1.1.1, ⟨hk.1.1.2.1, ⟨hk.1.1.2.2.1, ⟨hk.1.1.2.2.2.1, ⟨hk.1.1.2.2.2.2.1, ⟨hk.1.1.2.2.2.2.2.1, ⟨hk.1.1.2.2.2.2.2.2.1, ⟨hk.1.1.2.2.2.2.2.2.2, hk.1.2⟩⟩⟩⟩⟩⟩⟩⟩⟩))).2.1 (Kd.V_F (Kd.V_mono (ok' := (fun k_ => some k_ ≠ (.slice (some ad894) y827.length co45 : Value).ownBlock ∧ some k_ ≠ (.slice Ao49 t838.length co49 : Value).ownBlock ∧ some k_ ≠ (.slice Ao50 t841.length co50 : Value).ownBlock ∧ some k_ ≠ (.slice (some ad854) t844.length co54 : Value).ownBlock ∧ some k_ ≠ (.slice Ao55 t850.length co55 : Value).ownBlock ∧ some k_ ≠ (v866 : Value).ownBlock ∧ some k_ ≠ (.slice Ao67 t868.length co67 : Value).ownBlock ∧ some k_ ≠ (.slice Ao68 y871.length co68 : Value).ownBlock ∧ some k_ ≠ (.slice Ao74 y885.length co74 : Value).ownBlock ∧ some k_ ≠ (.slice Ao76 t888.length co76 : Value).ownBlock)) (HL894_4.out) (fun k_ hk => ⟨hk.2, ⟨hk.1.1.1, ⟨hk.1.1.2.1, ⟨hk.1.1.2.2.1, ⟨hk.1.1.2.2.2.1, ⟨hk.1.1.2.2.2.2.1, ⟨hk.1.1.2.2.2.2.2.1, ⟨hk.1.1.2.2.2.2.2.2.1, ⟨hk.1.1.2.2.2.2.2.2.2, hk.1.2⟩⟩⟩⟩⟩⟩⟩⟩⟩))) (Kd.V_reads' (Kd.V_mono (ok' := (fun k_ => some k_ ≠ (.slice (some ad894) y827.length co45 : Value).ownBlock ∧ some k_ ≠ (.slice Ao49 t838.length co49 : Value).ownBlock ∧ some k_ ≠ (.slice Ao50 t841.length co50 : Value).ownBlock ∧ some k_ ≠ (.slice (some ad854) t844.length co54 : Value).ownBlock ∧ some k_ ≠ (.slice Ao55 t850.length co55 : Value).ownBlock ∧ some k_ ≠ (v866 : Value).ownBlock ∧ some k_ ≠ (.slice Ao67 t868.length co67 : Value).ownBlock ∧ some k_ ≠ (.slice Ao68 y871.length co68 : Value).ownBlock ∧ some k_ ≠ (.slice Ao74 y885.length co74 : Value).ownBlock ∧ some k_ ≠ (.slice Ao76 t888.length co76 : Value).ownBlock)) (HL894_5.out) (fun k_ hk => ⟨hk.2, ⟨hk.1.1.1, ⟨hk.1.1.2.1, ⟨hk.1.1.2.2.1, ⟨hk.1.1.2.2.2.1, ⟨hk.1.1.2.2.2.2.1, ⟨hk.1.1.2.2.2.2.2.1, ⟨hk.1.1.2.2.2.2.2.2.1, ⟨hk.1.1.2.2.2.2.2.2.2, hk.1.2⟩⟩⟩⟩⟩⟩⟩⟩⟩))).2.1 (Kd.V_F (Kd.V_mono (ok' := (fun k_ => some k_ ≠ (.slice (some ad894) y827.length co45 : Value).ownBlock ∧ some k_ ≠ (.slice Ao49 t838.length co49 : Value).ownBlock ∧ some k_ ≠ (.slice Ao50 t841.length co50 : Value).ownBlock ∧ some k_ ≠ (.slice (some ad854) t844.length co54 : Value).ownBlock ∧ some k_ ≠ (.slice Ao55 t850.length co55 : Value).ownBlock ∧ some k_ ≠ (v866 : Value).ownBlock ∧ some k_ ≠ (.slice Ao67 t868.length co67 : Value).ownBlock ∧ some k_ ≠ (.slice Ao68 y871.length co68 : Value).ownBlock ∧ some k_ ≠ (.slice Ao74 y885.length co74 : Value).ownBlock ∧ some k_ ≠ (.slice Ao76 t888.length co76 : Value).ownBlock)) (HL894_5.out) (fun k_ hk => ⟨hk.2, ⟨hk.1.1.1, ⟨hk.1.1.2.1, ⟨hk.1.1.2.2.1, ⟨hk.1.1.2.2.2.1, ⟨hk.1.1.2.2.2.2.1, ⟨hk.1.1.2.2.2.2.2.1, ⟨hk.1.1.2.2.2.2.2.2.1, ⟨hk.1.1.2.2.2.2.2.2.2, hk.1.2⟩⟩⟩⟩⟩⟩⟩⟩⟩))))) (Reps.c6 (show Kd.FK k25 _ _ (⟨(y0q y827 1).f0, (y0q y827 1).f1, (y0q y827 1).f2, (y0q y827 1).f3, (y0q y827 1).f4, (y0q y827 1).f5⟩ : S25) [.string ((y0q y827 1).f0), .string ((y0q y827 1).f1), .string ((y0q y827 1).f2), .int .i64 ((y0q y827 1).f3), .slice A894_4 ((y0q y827 1).f4).length c894_4, .slice A894_5 ((y0q y827 1).f5).length c894_5] from (k25_mkF _ _ (⟨(y0q y827 1).f0, (y0q y827 1).f1, (y0q y827 1).f2, (y0q y827 1).f3, (y0q y827 1).f4, (y0q y827 1).f5⟩ : S25) (Kd.V_reads' (Kd.V_mono (ok' := (fun k_ => some k_ ≠ (.slice (some ad894) y827.length co45 : Value).ownBlock ∧ some k_ ≠ (.slice Ao49 t838.length co49 : Value).ownBlock ∧ some k_ ≠ (.slice Ao50 t841.length co50 : Value).ownBlock ∧ some k_ ≠ (.slice (some ad854) t844.length co54 : Value).ownBlock ∧ some k_ ≠ (.slice Ao55 t850.length co55 : Value).ownBlock ∧ some k_ ≠ (v866 : Value).ownBlock ∧ some k_ ≠ (.slice Ao67 t868.length co67 : Value).ownBlock ∧ some k_ ≠ (.slice Ao68 y871.length co68 : Value).ownBlock ∧ some k_ ≠ (.slice Ao74 y885.length co74 : Value).ownBlock ∧ some k_ ≠ (.slice Ao76 t888.length co76 : Value).ownBlock)) (HL895_4.out) (fun k_ hk => ⟨hk.2, ⟨hk.1.1.1, ⟨hk.1.1.2.1, ⟨hk.1.1.2.2.1, ⟨hk.1.1.2.2.2.1, ⟨hk.1.1.2.2.2.2.1, ⟨hk.1.1.2.2.2.2.2.1, ⟨hk.1.1.2.2.2.2.2.2.1, ⟨hk.1.1.2.2.2.2.2.2.2, hk.1.2⟩⟩⟩⟩⟩⟩⟩⟩⟩))).2.1 (Kd.V_F (Kd.V_mono (ok' := (fun k_ => some k_ ≠ (.slice (some ad894) y827.length co45 : Value).ownBlock ∧ some k_ ≠ (.slice Ao49 t838.length co49 : Value).ownBlock ∧ some k_ ≠ (.slice Ao50 t841.length co50 : Value).ownBlock ∧ some k_ ≠ (.slice (some ad854) t844.length co54 : Value).ownBlock ∧ some k_ ≠ (.slice Ao55 t850.length co55 : Value).ownBlock ∧ some k_ ≠ (v866 : Value).ownBlock ∧ some k_ ≠ (.slice Ao67 t868.length co67 : Value).ownBlock ∧ some k_ ≠ (.slice Ao68 y871.length co68 : Value).ownBlock ∧ some k_ ≠ (.slice Ao74 y885.length co74 : Value).ownBlock ∧ some k_ ≠ (.slice Ao76 t888.length co76 : Value).ownBlock)) (HL895_4.out) (fun k_ hk => ⟨hk.2, ⟨hk.1.1.1, ⟨hk.1.1.2.1, ⟨hk.1.1.2.2.1, ⟨hk.1.1.2.2.2.1, ⟨hk.1.1.2.2.2.2.1, ⟨hk.1.1.2.2.2.2.2.1, ⟨hk.1.1.2.2.2.2.2.2.1, ⟨hk.1.1.2.2.2.2.2.2.2, hk.1.2⟩⟩⟩⟩⟩⟩⟩⟩⟩))) (Kd.V_reads' (Kd.V_mono (ok' := (fun k_ => some k_ ≠ (.slice (some ad894) y827.length co45 : Value).ownBlock ∧ some k_ ≠ (.slice Ao49 t838.length co49 : Value).ownBlock ∧ some k_ ≠ (.slice Ao50 t841.length co50 : Value).ownBlock ∧ some k_ ≠ (.slice (some ad854) t844.length co54 : Value).ownBlock ∧ some k_ ≠ (.slice Ao55 t850.length co55 : Value).ownBlock ∧ some k_ ≠ (v866 : Value).ownBlock ∧ some k_ ≠ (.slice Ao67 t868.length co67 : Value).ownBlock ∧ some k_ ≠ (.slice Ao68 y871.length co68 : Value).ownBlock ∧ some k_ ≠ (.slice Ao74 y885.length co74 : Value).ownBlock ∧ some k_ ≠ (.slice Ao76 t888.length co76 : Value).ownBlock)) (HL895_5.out) (fun k_ hk => ⟨hk.2, ⟨hk.1.1.1, ⟨hk.1.1.2.1, ⟨hk.1.1.2.2.1, ⟨hk.1.1.2.2.2.1, ⟨hk.1.1.2.2.2.2.1, ⟨hk.1.1.2.2.2.2.2.1, ⟨hk.1.1.2.2.2.2.2.2.1, ⟨hk.1.1.2.2.2.2.2.2.2, hk.1.2⟩⟩⟩⟩⟩⟩⟩⟩⟩))).2.1 (Kd.V_F (Kd.V_mono (ok' := (fun k_ => some k_ ≠ (.slice (some ad894) y827.length co45 : Value).ownBlock ∧ some k_ ≠ (.slice Ao49 t838.length co49 : Value).ownBlock ∧ some k_ ≠ (.slice Ao50 t841.length co50 : Value).ownBlock ∧ some k_ ≠ (.slice (some ad854) t844.length co54 : Value).ownBlock ∧ some k_ ≠ (.slice Ao55 t850.length co55 : Value).ownBlock ∧ some k_ ≠ (v866 : Value).ownBlock ∧ some k_ ≠ (.slice Ao67 t868.length co67 : Value).ownBlock ∧ some k_ ≠ (.slice Ao68 y871.length co68 : Value).ownBlock ∧ some k_ ≠ (.slice Ao74 y885.length co74 : Value).ownBlock ∧ some k_ ≠ (.slice Ao76 t888.length co76 : Value).ownBlock)) (HL895_5.out) (fun k_ hk => ⟨hk.2, ⟨hk.1.1.1, ⟨hk.1.1.2.1, ⟨hk.1.1.2.2.1, ⟨hk.1.1.2.2.2.1, ⟨hk.1.1.2.2.2.2.1, ⟨hk.1.1.2.2.2.2.2.1, ⟨hk.1.1.2.2.2.2.2.2.1, ⟨hk.1.1.2.2.2.2.2.2.2, hk.1.2⟩⟩⟩⟩⟩⟩⟩⟩⟩))))) (Reps.none _ _))))
 intro v897 w78 ho79 hb hg_ hnew_
 have HS_ := kp22_ hb hHeld
 clear hg_ hnew_
 (first | rw [← Ny896.out] at ho79 | (simp only [Int.reduceToNat] at ho79; rw [← Ny896.out] at ho79))
 have n0_ := q_ (Kd.N_elder' (nk_ HO829.out) (Kd.N_base ho79) hb)
 have n1_ := q_ (Kd.R_below (rk_ HO840.out) hb)
 have n2_ := q_ (Kd.R_below (rk_ HO843.out) hb)
 have n3_ := q_ (Kd.N_elder' (nk_ HO846.out) (Kd.N_base ho79) hb)
 have n4_ := q_ (Kd.N_elder' (nk_ HO853.out) (Kd.N_base ho79) hb)
 have n5_ := q_ (Kd.V_elder' (vk_ HL854_4.out) (Kd.N_base ho79) hb)
 have n6_ := q_ (Kd.V_elder' (vk_ HL854_5.out) (Kd.N_base ho79) hb)
 have n7_ := q_ (Kd.N_elder' (nk_ HO867.out) (Kd.N_base ho79) hb)
 have n8_ := q_ (Kd.R_below (rk_ HO870.out) hb)
 have n9_ := q_ (Kd.R_below (rk_ HO873.out) hb)
 have n10_ := q_ (Kd.N_elder' (nk_ HO887.out) (Kd.N_base ho79) hb)
 have n11_ := q_ (Kd.R_below (rk_ HO890.out) hb)
 have n12_ := q_ (Kd.V_elder' (vk_ HL891_4.out) (Kd.N_base ho79) hb)
 have n13_ := q_ (Kd.V_elder' (vk_ HL891_5.out) (Kd.N_base ho79) hb)
 have n14_ := q_ (Kd.V_elder' (vk_ HL894_4.out) (Kd.N_base ho79) hb)
 have n15_ := q_ (Kd.V_elder' (vk_ HL894_5.out) (Kd.N_base ho79) hb)
 have n16_ := q_ (Kd.V_elder' (vk_ HL895_4.out) (Kd.N_base ho79) hb)
 have n17_ := q_ (Kd.V_elder' (vk_ HL895_5.out) (Kd.N_base ho79) hb)
 have n18_ := q_ (Kd.N_lower ho79 (y04 hb_))
 have n19_ := q_ (Kd.C_below (ck_ HR891_4.out) hb)
 have n20_ := q_ (Kd.C_below (ck_ HR891_5.out) hb)
 have n21_ := q_ (Kd.C_below (ck_ HR894_4.out) hb)
 have n22_ := q_ (Kd.C_below (ck_ HR894_5.out) hb)
 have n23_ := q_ (Kd.C_below (ck_ HR895_4.out) hb)
 have n24_ := q_ (Kd.C_below (ck_ HR895_5.out) hb)
 have n25_ := q_ (y05 hb_ hb)
 clear HO829 HO840 HO843 HO846 HO853 HL854_4 HL854_5 HO867 HO870 HO873 HO887 HO890 HL891_4 HL891_5 HL894_4 HL894_5 HL895_4 HL895_5 HR891_4 HR891_5 HR894_4 HR894_5 HR895_4 HR895_5 HB
 have HO829 := n0_; have HO840 := n1_; have HO843 := n2_; have HO846 := n3_; have HO853 := n4_; have HL854_4 := n5_; have HL854_5 := n6_; have HO867 := n7_; have HO870 := n8_; have HO873 := n9_; have HO887 := n10_; have HO890 := n11_; have HL891_4 := n12_; have HL891_5 := n13_; have HL894_4 := n14_; have HL894_5 := n15_; have HL895_4 := n16_; have HL895_5 := n17_; have HO898 := n18_; have HR891_4 := n19_; have HR891_5 := n20_; have HR894_4 := n21_; have HR894_5 := n22_; have HR895_4 := n23_; have HR895_5 := n24_; have HB := n25_
 clear n0_ n1_ n2_ n3_ n4_ n5_ n6_ n7_ n8_ n9_ n10_ n11_ n12_ n13_ n14_ n15_ n16_ n17_ n18_ n19_ n20_ n21_ n22_ n23_ n24_ n25_ hb ho79
 obtain ⟨Ao80, co80, eo80⟩ := Kd.N_slice HO898.out
 (first | subst eo80 | (injection eo80 with f1_ f2_ f3_; have f4_ := f1_.symm; have f5_ := f3_.symm; clear f1_ f2_ f3_; subst f4_; subst f5_))
 refine hK.out _ _ HS_ (fun hHeld => ?_)
 clear hK K
 refine no_ (N := some 112) ?_
 refine one_ (i := 48) (N := some 113) (fl 57 562949953421311) rfl rfl (y0p HT_.out (by kernel_rfl)) (by decide) (fun K hK => ?_)
 refine goes_ Try.func34 (by kernel_rfl) rfl #[.slice Ao80 y896.length co80] (by rfl) rfl rfl ar_ ?_
 with_reducible refine (zq1a.calls k _ _ y896 t899 _ ?side1 ?side2 A31.out).mono ?_
 (case side1 => exact ck_ (Kd.N_reads' HO898.out).2.2)
 (case side2 => exact (Kd.N_reads' HO898.out).2.1)
 rintro e w81 ⟨rfl, hb⟩
 have HS_ := kp22_ hb hHeld
 refine ⟨_, rfl, ?_⟩
 have n0_ := q_ (Kd.N_below (nk_ HO829.out) hb)
 have n1_ := q_ (Kd.R_below (rk_ HO840.out) hb)
 have n2_ := q_ (Kd.R_below (rk_ HO843.out) hb)
 have n3_ := q_ (Kd.N_below (nk_ HO846.out) hb)
 have n4_ := q_ (Kd.N_below (nk_ HO853.out) hb)
 have n5_ := q_ (Kd.V_below (vk_ HL854_4.out) hb)
 have n6_ := q_ (Kd.V_below (vk_ HL854_5.out) hb)
 have n7_ := q_ (Kd.N_below (nk_ HO867.out) hb)
 have n8_ := q_ (Kd.R_below (rk_ HO870.out) hb)
 have n9_ := q_ (Kd.R_below (rk_ HO873.out) hb)
 have n10_ := q_ (Kd.N_below (nk_ HO887.out) hb)
 have n11_ := q_ (Kd.R_below (rk_ HO890.out) hb)
 have n12_ := q_ (Kd.V_below (vk_ HL891_4.out) hb)
 have n13_ := q_ (Kd.V_below (vk_ HL891_5.out) hb)
 have n14_ := q_ (Kd.V_below (vk_ HL894_4.out) hb)
 have n15_ := q_ (Kd.V_below (vk_ HL894_5.out) hb)
 have n16_ := q_ (Kd.V_below (vk_ HL895_4.out) hb)
 have n17_ := q_ (Kd.V_below (vk_ HL895_5.out) hb)
 have n18_ := q_ (Kd.N_below (nk_ HO898.out) hb)
 have n19_ := q_ (Kd.C_below (ck_ HR891_4.out) hb)
 have n20_ := q_ (Kd.C_below (ck_ HR891_5.out) hb)
 have n21_ := q_ (Kd.C_below (ck_ HR894_4.out) hb)
 have n22_ := q_ (Kd.C_below (ck_ HR894_5.out) hb)
 have n23_ := q_ (Kd.C_below (ck_ HR895_4.out) hb)
 have n24_ := q_ (Kd.C_below (ck_ HR895_5.out) hb)
 have n25_ := q_ (y05 hb_ hb)
 clear HO829 HO840 HO843 HO846 HO853 HL854_4 HL854_5 HO867 HO870 HO873 HO887 HO890 HL891_4 HL891_5 HL894_4 HL894_5 HL895_4 HL895_5 HO898 HR891_4 HR891_5 HR894_4 HR894_5 HR895_4 HR895_5 HB
 have HO829 := n0_; have HO840 := n1_; have HO843 := n2_; have HO846 := n3_; have HO853 := n4_; have HL854_4 := n5_; have HL854_5 := n6_; have HO867 := n7_; have HO870 := n8_; have HO873 := n9_; have HO887 := n10_; have HO890 := n11_; have HL891_4 := n12_; have HL891_5 := n13_; have HL894_4 := n14_; have HL894_5 := n15_; have HL895_4 := n16_; have HL895_5 := n17_; have HO898 := n18_; have HR891_4 := n19_; have HR891_5 := n20_; have HR894_4 := n21_; have HR894_5 := n22_; have HR895_4 := n23_; have HR895_5 := n24_; have HB := n25_
 clear n0_ n1_ n2_ n3_ n4_ n5_ n6_ n7_ n8_ n9_ n10_ n11_ n12_ n13_ n14_ n15_ n16_ n17_ n18_ n19_ n20_ n21_ n22_ n23_ n24_ n25_
 (try clear hb); (try clear hb2); (try clear hk); (try clear hi)
 refine hK.out _ _ HS_ (fun hHeld => ?_)
 clear hK K
 refine no_ (N := some 113) ?_
 refine pu_ 49 (some 114) (fl 57 1125899906842623) rfl rfl HT_ ?_
 refine pu_ 50 (some 115) (fl 57 2251799813685247) rfl rfl HT_ ?_
 refine pu_ 51 (some 116) (fl 57 4503599627370495) rfl rfl HT_ ?_
 refine pu_ 52 (some 117) (fl 57 9007199254740991) rfl rfl HT_ ?_
 refine one_ (i := 53) (N := some 118) (fl 57 18014398509481983) rfl rfl (y0p HT_.out (by kernel_rfl)) (by decide) (fun K hK => ?_)
 refine goes_ Try.func34 (by kernel_rfl) rfl #[.slice (some ad894) y827.length co45] (by rfl) rfl rfl ar_ ?_
 with_reducible refine (zq1a.calls k _ _ y827 t900 _ ?side1 ?side2 A33.out).mono ?_
 (case side1 => exact ck_ (Kd.N_reads' HO829.out).2.2)
 (case side2 => exact (Kd.N_reads' HO829.out).2.1)
 rintro e w82 ⟨rfl, hb⟩
 have HS_ := kp22_ hb hHeld
 refine ⟨_, rfl, ?_⟩
 have n0_ := q_ (Kd.N_below (nk_ HO829.out) hb)
 have n1_ := q_ (Kd.R_below (rk_ HO840.out) hb)
 have n2_ := q_ (Kd.R_below (rk_ HO843.out) hb)
 have n3_ := q_ (Kd.N_below (nk_ HO846.out) hb)
 have n4_ := q_ (Kd.N_below (nk_ HO853.out) hb)
 have n5_ := q_ (Kd.V_below (vk_ HL854_4.out) hb)
 have n6_ := q_ (Kd.V_below (vk_ HL854_5.out) hb)
 have n7_ := q_ (Kd.N_below (nk_ HO867.out) hb)
 have n8_ := q_ (Kd.R_below (rk_ HO870.out) hb)
 have n9_ := q_ (Kd.R_below (rk_ HO873.out) hb)
 have n10_ := q_ (Kd.N_below (nk_ HO887.out) hb)
 have n11_ := q_ (Kd.R_below (rk_ HO890.out) hb)
 have n12_ := q_ (Kd.V_below (vk_ HL891_4.out) hb)
 have n13_ := q_ (Kd.V_below (vk_ HL891_5.out) hb)
 have n14_ := q_ (Kd.V_below (vk_ HL894_4.out) hb)
 have n15_ := q_ (Kd.V_below (vk_ HL894_5.out) hb)
 have n16_ := q_ (Kd.V_below (vk_ HL895_4.out) hb)
 have n17_ := q_ (Kd.V_below (vk_ HL895_5.out) hb)
 have n18_ := q_ (Kd.N_below (nk_ HO898.out) hb)
 have n19_ := q_ (Kd.C_below (ck_ HR891_4.out) hb)
 have n20_ := q_ (Kd.C_below (ck_ HR891_5.out) hb)
 have n21_ := q_ (Kd.C_below (ck_ HR894_4.out) hb)
 have n22_ := q_ (Kd.C_below (ck_ HR894_5.out) hb)
 have n23_ := q_ (Kd.C_below (ck_ HR895_4.out) hb)
 have n24_ := q_ (Kd.C_below (ck_ HR895_5.out) hb)
 have n25_ := q_ (y05 hb_ hb)
 clear HO829 HO840 HO843 HO846 HO853 HL854_4 HL854_5 HO867 HO870 HO873 HO887 HO890 HL891_4 HL891_5 HL894_4 HL894_5 HL895_4 HL895_5 HO898 HR891_4 HR891_5 HR894_4 HR894_5 HR895_4 HR895_5 HB
 have HO829 := n0_; have HO840 := n1_; have HO843 := n2_; have HO846 := n3_; have HO853 := n4_; have HL854_4 := n5_; have HL854_5 := n6_; have HO867 := n7_; have HO870 := n8_; have HO873 := n9_; have HO887 := n10_; have HO890 := n11_; have HL891_4 := n12_; have HL891_5 := n13_; have HL894_4 := n14_; have HL894_5 := n15_; have HL895_4 := n16_; have HL895_5 := n17_; have HO898 := n18_; have HR891_4 := n19_; have HR891_5 := n20_; have HR894_4 := n21_; have HR894_5 := n22_; have HR895_4 := n23_; have HR895_5 := n24_; have HB := n25_
 clear n0_ n1_ n2_ n3_ n4_ n5_ n6_ n7_ n8_ n9_ n10_ n11_ n12_ n13_ n14_ n15_ n16_ n17_ n18_ n19_ n20_ n21_ n22_ n23_ n24_ n25_
 (try clear hb); (try clear hb2); (try clear hk); (try clear hi)
 refine hK.out _ _ HS_ (fun hHeld => ?_)
 clear hK K
 refine no_ (N := some 118) ?_
 refine pu_ 54 (some 119) (fl 57 36028797018963967) rfl rfl HT_ ?_
 refine pu_ 55 (some 120) (fl 57 72057594037927935) rfl rfl HT_ ?_
 refine pu_ 56 (some 0) (fl 57 144115188075855871) rfl rfl HT_ ?_
 refine done_ (done_of HT_.out (by kernel_rfl)) ?_
 try go_wp2
 go_ret
 exact ⟨ew_, hb_⟩
end Go.Proofs.Ytenlmckahaniiaa.K
end
