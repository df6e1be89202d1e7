/- Lemmas for several laws: what their proofs need of this seat's texts, in one place. -/
import Derived.Test.YtenlmckahaniiaaZcLe14
import Derived.Test.YtenlmckahaniiaaZcLe15
import Derived.Test.YtenlmckahaniiaaZcLe16
set_option linter.unusedVariables false
set_option linter.unusedSimpArgs false
set_option linter.unusedSectionVars false
set_option maxHeartbeats 8000000
set_option maxRecDepth 100000
section
namespace Go.Proofs.Ytenlmckahaniiaa.K
open Go.RowKit Go.Proofs.YtW.P Go.Proofs.YtW.L
def zqm.f (k : Nat)  : Option (Bool) := (zqe.f (⟨#[112]⟩ : ByteArray) (⟨#[112, 117, 116]⟩ : ByteArray) (⟨#[98, 117, 102]⟩ : ByteArray)).bind fun bt797 => ((zqe.f (⟨#[98]⟩ : ByteArray) (⟨#[98, 117, 102]⟩ : ByteArray) nB_).bind fun bt807 => ((zqe.f (⟨#[120]⟩ : ByteArray) nB_ nB_).bind fun bt817 => ((some (([(⟨bt797.1, bt797.2.1, bt797.2.2.1, bt797.2.2.2.1, bt797.2.2.2.2.1, bt797.2.2.2.2.2⟩ : S25), (⟨bt807.1, bt807.2.1, bt807.2.2.1, bt807.2.2.2.1, bt807.2.2.2.2.1, bt807.2.2.2.2.2⟩ : S25), (⟨bt817.1, bt817.2.1, bt817.2.2.1, bt817.2.2.2.1, bt817.2.2.2.2.1, bt817.2.2.2.2.2⟩ : S25)] : List (S25)) : List (S25))).bind fun y827 => ((zq1m.f y827 (⟨#[98, 117, 102]⟩ : ByteArray)).bind fun bt830 => ((zq1m.f y827 (⟨#[103, 101, 116]⟩ : ByteArray)).bind fun bt832 => ((zqe.f (⟨#[98]⟩ : ByteArray) (⟨#[98, 117, 102, 102, 101, 114]⟩ : ByteArray) nB_).bind fun bt834 => ((zq1a.f k y827 bt834.1 bt834.2.1 bt834.2.2.1 bt834.2.2.2.1 bt834.2.2.2.2.1 bt834.2.2.2.2.2).bind fun bt844 => ((zq1d.f k y827).bind fun bt848 => ((zq1c.f k bt848.1).bind fun bt850 => (if bt844.2 = 0 then (if (bt844.1.length : Int) = 3 then (if 1 < (bt844.1.length : Int) then (if (((y49 bt844.1 1).f4).length : Int) = 1 then (if bt848.2 = 0 then (if bt850.2 = 0 then ((zqe.f (⟨#[109]⟩ : ByteArray) nB_ (⟨#[112, 117, 116]⟩ : ByteArray)).bind fun bt855 => ((zq1e.f k y827 (([(⟨bt855.1, bt855.2.1, bt855.2.2.1, bt855.2.2.2.1, bt855.2.2.2.2.1, bt855.2.2.2.2.2⟩ : S25)] : List (S25)))).bind fun t868 => ((zqw.f k t868 (([0, 1] : List Int))).bind fun t874 => (if t874 = true then ((zqe.f (⟨#[109]⟩ : ByteArray) nB_ nB_).bind fun bt875 => ((zq1e.f k y827 (([(⟨bt875.1, bt875.2.1, bt875.2.2.1, bt875.2.2.2.1, bt875.2.2.2.2.1, bt875.2.2.2.2.2⟩ : S25)] : List (S25)))).bind fun t888 => (if (t888.length : Int) = 0 then (if bt830.1 = 1 then (if bt830.2 = true then (if bt832.2 = true then (none) else (if 0 < (((y49 bt844.1 1).f4).length : Int) then (if ((y4b ((y49 bt844.1 1).f4) 0).f0).toList = ([98, 117, 102, 102, 101, 114] : List UInt8) then ((zqz.f k y827 bt850.1).bind fun t893 => (if t893 = true then (if 1 < (y827.length : Int) then ((zq1g.f k (([(⟨(y49 y827 1).f0, (y49 y827 1).f1, (y49 y827 1).f2, (y49 y827 1).f3, (y49 y827 1).f4, (y49 y827 1).f5⟩ : S25), (⟨(y49 y827 1).f0, (y49 y827 1).f1, (y49 y827 1).f2, (y49 y827 1).f3, (y49 y827 1).f4, (y49 y827 1).f5⟩ : S25)] : List (S25)))).bind fun t899 => (if t899 = 6 then ((zq1g.f k y827).bind fun t900 => (some (t900 == 0))) else (none))) else (none)) else (none))) else (none)) else (none))) else (none)) else (none)) else (none)))) else (none))))) else (none)) else (none)) else (none)) else (none)) else (none)) else (none)))))))))))
theorem zqm.mono : ∀ k, LeO (zqm.f k ) (zqm.f (k + 1) ) := by
 intro  k
 unfold zqm.f
 with_reducible repeat' first | apply zqw.mono | apply zqz.mono | apply zq1g.mono | apply zq1c.mono | apply zq1d.mono | apply zq1a.mono | apply zq1e.mono | exact LeO.refl _ | exact LeO.none _ | refine LeO.ite ?_ ?_ | refine LeO.bind ?_ (fun _ => ?_)
def zqm.T9 : Bool × List (List Nat × List Nat) := (true, [([], []), ([], []), ([1], [1]), ([0, 2, 1], [0, 2]), ([], []), ([3, 4, 3], [3, 4]), ([5, 5], [5]), ([6], [6]), ([6, 6], [6]), ([8, 6], [6, 8]), ([7, 9, 8, 6], [6, 7, 9]), ([10, 6], [6, 10]), ([11, 6], [6, 11]), ([6, 12], [6, 12]), ([13, 10], [13]), ([14], [14]), ([15, 14], [14, 15]), ([14, 16], [14, 16]), ([17, 14], [17]), ([18], [18]), ([18, 19], [18, 19]), ([20, 18], [20]), ([21], [21]), ([22, 21], [21, 22]), ([21, 23], [21, 23]), ([24, 21], [24]), ([25], [25]), ([26, 25], [25, 26]), ([27, 25], [25, 27]), ([28, 25], [25, 28]), ([29, 25], [25, 29]), ([30, 25], [25, 30]), ([31, 25], [25, 31]), ([32, 25], [25, 32]), ([25, 33], [25, 33]), ([34, 25], [34]), ([35], [35]), ([35], [35]), ([36, 37, 35, 35], [35, 36, 37]), ([35, 38], [35, 38]), ([39, 38], [39]), ([40], [40]), ([41, 40], [40, 41]), ([42, 40], [40, 42]), ([40], [40]), ([44, 40], [40, 44]), ([45, 40], [40, 45]), ([43, 46, 40], [40, 43, 46]), ([47, 40, 40], [40, 47]), ([48, 40], [40, 48]), ([40, 49], [40, 49]), ([50, 48], [50]), ([51], [51]), ([52, 51, 51], [51, 52]), ([53, 51], [51, 53]), ([51, 54], [51, 54]), ([55, 53, 0, 1, 2, 3, 4, 5, 6, 7, 8, 9, 10, 11, 12, 13, 14, 15, 16, 17, 18, 19, 20, 21, 22, 23, 24, 25, 26, 27, 28, 29, 30, 31, 32, 33, 34, 35, 36, 37, 38, 39, 40, 41, 42, 43, 44, 45, 46, 47, 48, 49, 50, 51, 52, 53, 54, 55], [55])])
def zqm.B9 : List Nat := [0, 0, 2, 7, 0, 31, 63, 127, 127, 383, 1023, 2047, 4095, 8191, 16383, 32767, 65535, 131071, 262143, 524287, 1048575, 2097151, 4194303, 8388607, 16777215, 33554431, 67108863, 134217727, 268435455, 536870911, 1073741823, 2147483647, 4294967295, 8589934591, 17179869183, 34359738367, 68719476735, 68719476735, 274877906943, 549755813887, 1099511627775, 2199023255551, 4398046511103, 8796093022207, 2199023255551, 19791209299967, 54975581388799, 140737488355327, 281474976710655, 562949953421311, 1125899906842623, 2251799813685247, 4503599627370495, 9007199254740991, 18014398509481983, 36028797018963967, 72057594037927935]
theorem zqm.tab9 : rtab .any (opsOf Try.f36 9) = zqm.T9 := by kernel_rfl
theorem zqm.bits9 : waitsOk zqm.T9.2 zqm.B9 = true := by kernel_rfl
theorem zqm.calls (k : Nat)  (r : Bool) (w : World) (h : zqm.f k  = some r) :
  Calls Try.prog 36 #[] w fun e w' => e = .returned (.bool r) ∧ Below w.heap.size w w' := by
 have mW := Try.underlying25
 have HB := q_ (Below.refl w.heap.size w)
 have H : ((zqe.f (⟨#[112]⟩ : ByteArray) (⟨#[112, 117, 116]⟩ : ByteArray) (⟨#[98, 117, 102]⟩ : ByteArray)).bind fun eL => ((zqe.f (⟨#[98]⟩ : ByteArray) (⟨#[98, 117, 102]⟩ : ByteArray) nB_).bind fun eJ => ((zqe.f (⟨#[120]⟩ : ByteArray) nB_ nB_).bind fun eI => ((some (([(⟨eL.1, eL.2.1, eL.2.2.1, eL.2.2.2.1, eL.2.2.2.2.1, eL.2.2.2.2.2⟩ : S25), (⟨eJ.1, eJ.2.1, eJ.2.2.1, eJ.2.2.2.1, eJ.2.2.2.2.1, eJ.2.2.2.2.2⟩ : S25), (⟨eI.1, eI.2.1, eI.2.2.1, eI.2.2.2.1, eI.2.2.2.2.1, eI.2.2.2.2.2⟩ : S25)] : List (S25)) : List (S25))).bind fun aA => ((zq1m.f aA (⟨#[98, 117, 102]⟩ : ByteArray)).bind fun e5 => ((zq1m.f aA (⟨#[103, 101, 116]⟩ : ByteArray)).bind fun g4 => ((zqe.f (⟨#[98]⟩ : ByteArray) (⟨#[98, 117, 102, 102, 101, 114]⟩ : ByteArray) nB_).bind fun b6 => ((zq1a.f k aA b6.1 b6.2.1 b6.2.2.1 b6.2.2.2.1 b6.2.2.2.2.1 b6.2.2.2.2.2).bind fun b4 => ((zq1d.f k aA).bind fun e2 => ((zq1c.f k e2.1).bind fun e7 => (if b4.2 = 0 then (if (b4.1.length : Int) = 3 then (if 1 < (b4.1.length : Int) then (if (((y49 b4.1 1).f4).length : Int) = 1 then (if e2.2 = 0 then (if e7.2 = 0 then ((zqe.f (⟨#[109]⟩ : ByteArray) nB_ (⟨#[112, 117, 116]⟩ : ByteArray)).bind fun b7 => ((zq1e.f k aA (([(⟨b7.1, b7.2.1, b7.2.2.1, b7.2.2.2.1, b7.2.2.2.2.1, b7.2.2.2.2.2⟩ : S25)] : List (S25)))).bind fun a4 => ((zqw.f k a4 (([0, 1] : List Int))).bind fun eO => (if eO = true then ((zqe.f (⟨#[109]⟩ : ByteArray) nB_ nB_).bind fun a5 => ((zq1e.f k aA (([(⟨a5.1, a5.2.1, a5.2.2.1, a5.2.2.2.1, a5.2.2.2.2.1, a5.2.2.2.2.2⟩ : S25)] : List (S25)))).bind fun bW => (if (bW.length : Int) = 0 then (if e5.1 = 1 then (if e5.2 = true then (if g4.2 = true then (none) else (if 0 < (((y49 b4.1 1).f4).length : Int) then (if ((y4b ((y49 b4.1 1).f4) 0).f0).toList = ([98, 117, 102, 102, 101, 114] : List UInt8) then ((zqz.f k aA e7.1).bind fun d7 => (if d7 = true then (if 1 < (aA.length : Int) then ((zq1g.f k (([(⟨(y49 aA 1).f0, (y49 aA 1).f1, (y49 aA 1).f2, (y49 aA 1).f3, (y49 aA 1).f4, (y49 aA 1).f5⟩ : S25), (⟨(y49 aA 1).f0, (y49 aA 1).f1, (y49 aA 1).f2, (y49 aA 1).f3, (y49 aA 1).f4, (y49 aA 1).f5⟩ : S25)] : List (S25)))).bind fun dE => (if dE = 6 then ((zq1g.f k aA).bind fun dR => (some (dR == 0))) else (none))) else (none)) else (none))) else (none)) else (none))) else (none)) else (none)) else (none)))) else (none))))) else (none)) else (none)) else (none)) else (none)) else (none)) else (none)))))))))))) = some r := h
 clear h
 obtain ⟨⟨gC, fV, fR, f8, fT, fE⟩, A1, H⟩ := bq_ H
 obtain ⟨⟨fB, gA, fH, fX, gD, fL⟩, A2, H⟩ := bq_ H
 obtain ⟨⟨fK, f6, fF, f7, gB, fC⟩, A3, H⟩ := bq_ H
 (try dsimp only at H)
 obtain ⟨aA, e9⟩ : ∃ y_ : List (S25), y_ = (([(⟨gC, fV, fR, f8, fT, fE⟩ : S25), (⟨fB, gA, fH, fX, gD, fL⟩ : S25), (⟨fK, f6, fF, f7, gB, fC⟩ : S25)] : List (S25))) := ⟨_, rfl⟩
 replace H : ((zq1m.f aA (⟨#[98, 117, 102]⟩ : ByteArray)).bind fun e5 => ((zq1m.f aA (⟨#[103, 101, 116]⟩ : ByteArray)).bind fun g4 => ((zqe.f (⟨#[98]⟩ : ByteArray) (⟨#[98, 117, 102, 102, 101, 114]⟩ : ByteArray) nB_).bind fun b6 => ((zq1a.f k aA b6.1 b6.2.1 b6.2.2.1 b6.2.2.2.1 b6.2.2.2.2.1 b6.2.2.2.2.2).bind fun b4 => ((zq1d.f k aA).bind fun e2 => ((zq1c.f k e2.1).bind fun e7 => (if b4.2 = 0 then (if (b4.1.length : Int) = 3 then (if 1 < (b4.1.length : Int) then (if (((y49 b4.1 1).f4).length : Int) = 1 then (if e2.2 = 0 then (if e7.2 = 0 then ((zqe.f (⟨#[109]⟩ : ByteArray) nB_ (⟨#[112, 117, 116]⟩ : ByteArray)).bind fun b7 => ((zq1e.f k aA (([(⟨b7.1, b7.2.1, b7.2.2.1, b7.2.2.2.1, b7.2.2.2.2.1, b7.2.2.2.2.2⟩ : S25)] : List (S25)))).bind fun a4 => ((zqw.f k a4 (([0, 1] : List Int))).bind fun eO => (if eO = true then ((zqe.f (⟨#[109]⟩ : ByteArray) nB_ nB_).bind fun a5 => ((zq1e.f k aA (([(⟨a5.1, a5.2.1, a5.2.2.1, a5.2.2.2.1, a5.2.2.2.2.1, a5.2.2.2.2.2⟩ : S25)] : List (S25)))).bind fun bW => (if (bW.length : Int) = 0 then (if e5.1 = 1 then (if e5.2 = true then (if g4.2 = true then (none) else (if 0 < (((y49 b4.1 1).f4).length : Int) then (if ((y4b ((y49 b4.1 1).f4) 0).f0).toList = ([98, 117, 102, 102, 101, 114] : List UInt8) then ((zqz.f k aA e7.1).bind fun d7 => (if d7 = true then (if 1 < (aA.length : Int) then ((zq1g.f k (([(⟨(y49 aA 1).f0, (y49 aA 1).f1, (y49 aA 1).f2, (y49 aA 1).f3, (y49 aA 1).f4, (y49 aA 1).f5⟩ : S25), (⟨(y49 aA 1).f0, (y49 aA 1).f1, (y49 aA 1).f2, (y49 aA 1).f3, (y49 aA 1).f4, (y49 aA 1).f5⟩ : S25)] : List (S25)))).bind fun dE => (if dE = 6 then ((zq1g.f k aA).bind fun dR => (some (dR == 0))) else (none))) else (none)) else (none))) else (none)) else (none))) else (none)) else (none)) else (none)))) else (none))))) else (none)) else (none)) else (none)) else (none)) else (none)) else (none)))))))) = some r := by first | (rw [e9]; with_reducible exact H) | (have eQ := (Option.bind_some _ _).symm.trans H; rw [e9]; with_reducible exact eQ) | (have eQ := (Option.bind_some _ _).symm.trans H; with_reducible exact eQ) | with_reducible exact H | (rw [e9]; exact H) | exact H
 have h4 := q_ e9
 clear e9
 obtain ⟨⟨g5, hN⟩, A4, H⟩ := bq_ H
 obtain ⟨⟨k1, hY⟩, A5, H⟩ := bq_ H
 obtain ⟨⟨iA, iH, iG, h7, aU, aT⟩, A6, H⟩ := bq_ H
 obtain ⟨⟨aG, jC⟩, A7, H⟩ := bq_ H
 obtain ⟨⟨iC, jF⟩, A8, H⟩ := bq_ H
 obtain ⟨⟨aO, jG⟩, A9, H⟩ := bq_ H
 (try dsimp only at H)
 by_cases j2 : jC = 0
 rotate_left
 ·rw [if_neg j2] at H
  exact absurd H (by simp)
 rw [if_pos j2] at H
 have lN := et_ j2
 have lW := nf_ j2
 clear j2
 by_cases jZ : (aG.length : Int) = 3
 rotate_left
 ·rw [if_neg jZ] at H
  exact absurd H (by simp)
 rw [if_pos jZ] at H
 have mD := et_ jZ
 have lP := nf_ jZ
 clear jZ
 by_cases kC : 1 < (aG.length : Int)
 rotate_left
 ·rw [if_neg kC] at H
  exact absurd H (by simp)
 rw [if_pos kC] at H
 have lO := dt_ kC
 have l1 : decide (1 < aG.length) = true := decide_eq_true (by omega)
 clear kC
 by_cases jI : (((y49 aG 1).f4).length : Int) = 1
 rotate_left
 ·rw [if_neg jI] at H
  exact absurd H (by simp)
 rw [if_pos jI] at H
 have lL := et_ jI
 have mE := nf_ jI
 clear jI
 by_cases jM : jF = 0
 rotate_left
 ·rw [if_neg jM] at H
  exact absurd H (by simp)
 rw [if_pos jM] at H
 have mF := et_ jM
 have lF := nf_ jM
 clear jM
 by_cases jY : jG = 0
 rotate_left
 ·rw [if_neg jY] at H
  exact absurd H (by simp)
 rw [if_pos jY] at H
 have mK := et_ jY
 have lH := nf_ jY
 clear jY
 obtain ⟨⟨cK, cL, cE, cI, bX, bY⟩, mM, H⟩ := bq_ H
 (try dsimp only at H)
 obtain ⟨cB, e6⟩ : ∃ y_ : List (S25), y_ = (([(⟨cK, cL, cE, cI, bX, bY⟩ : S25)] : List (S25))) := ⟨_, rfl⟩
 replace H : ((zq1e.f k aA cB).bind fun a4 => ((zqw.f k a4 (([0, 1] : List Int))).bind fun eO => (if eO = true then ((zqe.f (⟨#[109]⟩ : ByteArray) nB_ nB_).bind fun a5 => ((zq1e.f k aA (([(⟨a5.1, a5.2.1, a5.2.2.1, a5.2.2.2.1, a5.2.2.2.2.1, a5.2.2.2.2.2⟩ : S25)] : List (S25)))).bind fun bW => (if (bW.length : Int) = 0 then (if g5 = 1 then (if hN = true then (if hY = true then (none) else (if 0 < (((y49 aG 1).f4).length : Int) then (if ((y4b ((y49 aG 1).f4) 0).f0).toList = ([98, 117, 102, 102, 101, 114] : List UInt8) then ((zqz.f k aA aO).bind fun d7 => (if d7 = true then (if 1 < (aA.length : Int) then ((zq1g.f k (([(⟨(y49 aA 1).f0, (y49 aA 1).f1, (y49 aA 1).f2, (y49 aA 1).f3, (y49 aA 1).f4, (y49 aA 1).f5⟩ : S25), (⟨(y49 aA 1).f0, (y49 aA 1).f1, (y49 aA 1).f2, (y49 aA 1).f3, (y49 aA 1).f4, (y49 aA 1).f5⟩ : S25)] : List (S25)))).bind fun dE => (if dE = 6 then ((zq1g.f k aA).bind fun dR => (some (dR == 0))) else (none))) else (none)) else (none))) else (none)) else (none))) else (none)) else (none)) else (none)))) else (none)))) = some r := by first | (rw [e6]; with_reducible exact H) | (have eQ := (Option.bind_some _ _).symm.trans H; rw [e6]; with_reducible exact eQ) | (have eQ := (Option.bind_some _ _).symm.trans H; with_reducible exact eQ) | with_reducible exact H | (rw [e6]; exact H) | exact H
 have eK := q_ e6
 clear e6
 obtain ⟨a4, kN, H⟩ := bq_ H
 (try dsimp only at H)
 obtain ⟨bH, e3⟩ : ∃ y_ : List Int, y_ = (([0, 1] : List Int)) := ⟨_, rfl⟩
 replace H : ((zqw.f k a4 bH).bind fun eO => (if eO = true then ((zqe.f (⟨#[109]⟩ : ByteArray) nB_ nB_).bind fun a5 => ((zq1e.f k aA (([(⟨a5.1, a5.2.1, a5.2.2.1, a5.2.2.2.1, a5.2.2.2.2.1, a5.2.2.2.2.2⟩ : S25)] : List (S25)))).bind fun bW => (if (bW.length : Int) = 0 then (if g5 = 1 then (if hN = true then (if hY = true then (none) else (if 0 < (((y49 aG 1).f4).length : Int) then (if ((y4b ((y49 aG 1).f4) 0).f0).toList = ([98, 117, 102, 102, 101, 114] : List UInt8) then ((zqz.f k aA aO).bind fun d7 => (if d7 = true then (if 1 < (aA.length : Int) then ((zq1g.f k (([(⟨(y49 aA 1).f0, (y49 aA 1).f1, (y49 aA 1).f2, (y49 aA 1).f3, (y49 aA 1).f4, (y49 aA 1).f5⟩ : S25), (⟨(y49 aA 1).f0, (y49 aA 1).f1, (y49 aA 1).f2, (y49 aA 1).f3, (y49 aA 1).f4, (y49 aA 1).f5⟩ : S25)] : List (S25)))).bind fun dE => (if dE = 6 then ((zq1g.f k aA).bind fun dR => (some (dR == 0))) else (none))) else (none)) else (none))) else (none)) else (none))) else (none)) else (none)) else (none)))) else (none))) = some r := by first | (rw [e3]; with_reducible exact H) | (have eQ := (Option.bind_some _ _).symm.trans H; rw [e3]; with_reducible exact eQ) | (have eQ := (Option.bind_some _ _).symm.trans H; with_reducible exact eQ) | with_reducible exact H | (rw [e3]; exact H) | exact H
 have dU := q_ e3
 clear e3
 obtain ⟨eO, mR, H⟩ := bq_ H
 (try dsimp only at H)
 by_cases kH : eO = true
 rotate_left
 ·replace kH := Bool.eq_false_iff.mpr kH
  subst kH
  rw [if_neg (show ¬ (false = true) by decide)] at H
  exact absurd H (by simp)
 subst kH
 rw [if_pos rfl] at H
 obtain ⟨⟨fM, fJ, fY, fI, fW, fZ⟩, nE, H⟩ := bq_ H
 (try dsimp only at H)
 obtain ⟨c2, e0⟩ : ∃ y_ : List (S25), y_ = (([(⟨fM, fJ, fY, fI, fW, fZ⟩ : S25)] : List (S25))) := ⟨_, rfl⟩
 replace H : ((zq1e.f k aA c2).bind fun bW => (if (bW.length : Int) = 0 then (if g5 = 1 then (if hN = true then (if hY = true then (none) else (if 0 < (((y49 aG 1).f4).length : Int) then (if ((y4b ((y49 aG 1).f4) 0).f0).toList = ([98, 117, 102, 102, 101, 114] : List UInt8) then ((zqz.f k aA aO).bind fun d7 => (if d7 = true then (if 1 < (aA.length : Int) then ((zq1g.f k (([(⟨(y49 aA 1).f0, (y49 aA 1).f1, (y49 aA 1).f2, (y49 aA 1).f3, (y49 aA 1).f4, (y49 aA 1).f5⟩ : S25), (⟨(y49 aA 1).f0, (y49 aA 1).f1, (y49 aA 1).f2, (y49 aA 1).f3, (y49 aA 1).f4, (y49 aA 1).f5⟩ : S25)] : List (S25)))).bind fun dE => (if dE = 6 then ((zq1g.f k aA).bind fun dR => (some (dR == 0))) else (none))) else (none)) else (none))) else (none)) else (none))) else (none)) else (none)) else (none))) = some r := by first | (rw [e0]; with_reducible exact H) | (have eQ := (Option.bind_some _ _).symm.trans H; rw [e0]; with_reducible exact eQ) | (have eQ := (Option.bind_some _ _).symm.trans H; with_reducible exact eQ) | with_reducible exact H | (rw [e0]; exact H) | exact H
 have h5 := q_ e0
 clear e0
 obtain ⟨bW, mP, H⟩ := bq_ H
 (try dsimp only at H)
 by_cases jO : (bW.length : Int) = 0
 rotate_left
 ·rw [if_neg jO] at H
  exact absurd H (by simp)
 rw [if_pos jO] at H
 have lK := et_ jO
 have lV := nf_ jO
 clear jO
 by_cases j3 : g5 = 1
 rotate_left
 ·rw [if_neg j3] at H
  exact absurd H (by simp)
 rw [if_pos j3] at H
 have lI := et_ j3
 have lY := nf_ j3
 clear j3
 by_cases j6 : hN = true
 rotate_left
 ·replace j6 := Bool.eq_false_iff.mpr j6
  subst j6
  rw [if_neg (show ¬ (false = true) by decide)] at H
  exact absurd H (by simp)
 subst j6
 rw [if_pos rfl] at H
 by_cases kB : hY = true
 ·subst kB
  rw [if_pos rfl] at H
  exact absurd H (by simp)
 replace kB := Bool.eq_false_iff.mpr kB
 subst kB
 rw [if_neg (show ¬ (false = true) by decide)] at H
 by_cases j8 : 0 < (((y49 aG 1).f4).length : Int)
 rotate_left
 ·rw [if_neg j8] at H
  exact absurd H (by simp)
 rw [if_pos j8] at H
 have mB := dt_ j8
 have mI : decide (0 < ((y49 aG 1).f4).length) = true := decide_eq_true (by omega)
 clear j8
 by_cases iS : ((y4b ((y49 aG 1).f4) 0).f0).toList = ([98, 117, 102, 102, 101, 114] : List UInt8)
 rotate_left
 ·rw [if_neg iS] at H
  exact absurd H (by simp)
 rw [if_pos iS] at H
 have mL := et_ iS
 have mN := nf_ iS
 clear iS
 obtain ⟨d7, m6, H⟩ := bq_ H
 (try dsimp only at H)
 by_cases kO : d7 = true
 rotate_left
 ·replace kO := Bool.eq_false_iff.mpr kO
  subst kO
  rw [if_neg (show ¬ (false = true) by decide)] at H
  exact absurd H (by simp)
 subst kO
 rw [if_pos rfl] at H
 by_cases kL : 1 < (aA.length : Int)
 rotate_left
 ·rw [if_neg kL] at H
  exact absurd H (by simp)
 rw [if_pos kL] at H
 have l3 := dt_ kL
 have lJ : decide (1 < aA.length) = true := decide_eq_true (by omega)
 clear kL
 obtain ⟨iI, e8⟩ : ∃ y_ : List (S25), y_ = (([(⟨(y49 aA 1).f0, (y49 aA 1).f1, (y49 aA 1).f2, (y49 aA 1).f3, (y49 aA 1).f4, (y49 aA 1).f5⟩ : S25), (⟨(y49 aA 1).f0, (y49 aA 1).f1, (y49 aA 1).f2, (y49 aA 1).f3, (y49 aA 1).f4, (y49 aA 1).f5⟩ : S25)] : List (S25))) := ⟨_, rfl⟩
 replace H : ((zq1g.f k iI).bind fun dE => (if dE = 6 then ((zq1g.f k aA).bind fun dR => (some (dR == 0))) else (none))) = some r := by first | (rw [e8]; with_reducible exact H) | (have eQ := (Option.bind_some _ _).symm.trans H; rw [e8]; with_reducible exact eQ) | (have eQ := (Option.bind_some _ _).symm.trans H; with_reducible exact eQ) | with_reducible exact H | (rw [e8]; exact H) | exact H
 have h3 := q_ e8
 clear e8
 obtain ⟨dE, mU, H⟩ := bq_ H
 (try dsimp only at H)
 by_cases iZ : dE = 6
 rotate_left
 ·rw [if_neg iZ] at H
  exact absurd H (by simp)
 rw [if_pos iZ] at H
 have lS := et_ iZ
 have lU := nf_ iZ
 clear iZ
 obtain ⟨dR, m2, H⟩ := bq_ H
 (try dsimp only at H)
 obtain rfl := Option.some.inj H
 go_enter Try.func36, Try.ntmps36
 try go_wp2_with (first | (refine gc_ 77 ?_; refine gl_ (some 12) Try.func77 #[.string (⟨#[112]⟩ : ByteArray), .string (⟨#[112, 117, 116]⟩ : ByteArray), .string (⟨#[98, 117, 102]⟩ : ByteArray)] ?_; (with_reducible refine (zqe.calls (⟨#[112]⟩ : ByteArray) (⟨#[112, 117, 116]⟩ : ByteArray) (⟨#[98, 117, 102]⟩ : ByteArray) gC fV fR f8 fT fE _ A1.out).mono ?_); rintro e nT ⟨m5, m0, rfl, a3, cQ, hb⟩; refine ⟨_, rfl, ?_⟩; have cZ := q_ (Kd.R_lower a3 (y0j hb_)); have cY := q_ (Kd.R_lower cQ (y0j hb_)); replace HB := q_ (y0k hb_ hb)) | (refine gc_ 77 ?_; refine gl_ (some 13) Try.func77 #[.string (⟨#[98]⟩ : ByteArray), .string (⟨#[98, 117, 102]⟩ : ByteArray), .string nB_] ?_; (with_reducible refine (zqe.calls (⟨#[98]⟩ : ByteArray) (⟨#[98, 117, 102]⟩ : ByteArray) nB_ fB gA fH fX gD fL _ A2.out).mono ?_); rintro e nV ⟨m4, mY, rfl, a3, cQ, hb⟩; refine ⟨_, rfl, ?_⟩; have d9 := q_ (Kd.R_lower (Kd.R_new' a3 (Kd.R_lt (rk_ cZ.out))) (y0j hb_)); replace cZ := q_ (Kd.R_elder' (rk_ cZ.out) (Kd.R_base a3) hb); have eB := q_ (Kd.R_lower (Kd.R_new' cQ (Kd.R_lt (rk_ cY.out))) (y0j hb_)); replace cY := q_ (Kd.R_elder' (rk_ cY.out) (Kd.R_base cQ) hb); replace HB := q_ (y0k hb_ hb)) | (refine gc_ 77 ?_; refine gl_ (some 14) Try.func77 #[.string (⟨#[120]⟩ : ByteArray), .string nB_, .string nB_] ?_; (with_reducible refine (zqe.calls (⟨#[120]⟩ : ByteArray) nB_ nB_ fK f6 fF f7 gB fC _ A3.out).mono ?_); rintro e mS ⟨m8, mZ, rfl, a3, cQ, hb⟩; refine ⟨_, rfl, ?_⟩; have gZ := q_ (Kd.R_lower (Kd.R_new' (Kd.R_new' a3 (Kd.R_lt (rk_ cZ.out))) (Kd.R_lt (rk_ d9.out))) (y0j hb_)); replace cZ := q_ (Kd.R_elder' (rk_ cZ.out) (Kd.R_base a3) hb); replace d9 := q_ (Kd.R_elder' (rk_ d9.out) (Kd.R_base a3) hb); have gR := q_ (Kd.R_lower (Kd.R_new' (Kd.R_new' cQ (Kd.R_lt (rk_ cY.out))) (Kd.R_lt (rk_ eB.out))) (y0j hb_)); replace cY := q_ (Kd.R_elder' (rk_ cY.out) (Kd.R_base cQ) hb); replace eB := q_ (Kd.R_elder' (rk_ eB.out) (Kd.R_base cQ) hb); replace HB := q_ (y0k hb_ hb); obtain ⟨iR, jQ, kZ⟩ := Kd.R_slice cZ.out; subst kZ; obtain ⟨iQ, i8, k3⟩ := Kd.R_slice cY.out; subst k3; obtain ⟨jD, jA, k7⟩ := Kd.R_slice d9.out; subst k7; obtain ⟨iP, i6, kS⟩ := Kd.R_slice eB.out; subst kS; obtain ⟨i2, iT, lA⟩ := Kd.R_slice gZ.out; subst lA; obtain ⟨i3, i1, k6⟩ := Kd.R_slice gR.out; subst k6) | (refine gd_ 15 ?_; (try (refine y23 (by rfl) ?_; dsimp only)); refine Kd.N_lit k25 _ 25 ?hg (N' := 15) ?hd (xs := ([(⟨gC, fV, fR, f8, fT, fE⟩ : S25), (⟨fB, gA, fH, fX, gD, fL⟩ : S25), (⟨fK, f6, fF, f7, gB, fC⟩ : S25)] : List (S25))) (inner := [.string gC, .string fV, .string fR, .int .i64 f8, .slice iR fT.length jQ, .slice iQ fE.length i8, .string fB, .string gA, .string fH, .int .i64 fX, .slice jD gD.length jA, .slice iP fL.length i6, .string fK, .string f6, .string fF, .int .i64 f7, .slice i2 gB.length iT, .slice i3 fC.length i1]) (ok := (fun _ => True)) (okp := (fun _ => True)) ?hr ?hp (fun _ hk => hk) ((show ∀ k_, mS.heap.size ≤ k_ → (fun _ => True) k_ from fun k_ hk => trivial) _ (Nat.le_refl _)) (Below.refl _ _) (Nat.le_refl _) (by simp) ?_; (case hd => rfl); (case hg => rfl); (case hr => first | (go_simp; done) | (go_simp; rfl)); (case hp => exact (Reps.c6 (show Kd.FK k25 _ _ (⟨gC, fV, fR, f8, fT, fE⟩ : S25) [.string gC, .string fV, .string fR, .int .i64 f8, .slice iR fT.length jQ, .slice iQ fE.length i8] from (y2s _ _ (⟨gC, fV, fR, f8, fT, fE⟩ : S25) (Kd.R_reads' (Kd.R_mono (ok' := (fun _ => True)) (cZ.out) (fun k_ hk => trivial))).2.1 (Kd.R_F (Kd.R_mono (ok' := (fun _ => True)) (cZ.out) (fun k_ hk => trivial))) (Kd.R_reads' (Kd.R_mono (ok' := (fun _ => True)) (cY.out) (fun k_ hk => trivial))).2.1 (Kd.R_F (Kd.R_mono (ok' := (fun _ => True)) (cY.out) (fun k_ hk => trivial))))) (Reps.c6 (show Kd.FK k25 _ _ (⟨fB, gA, fH, fX, gD, fL⟩ : S25) [.string fB, .string gA, .string fH, .int .i64 fX, .slice jD gD.length jA, .slice iP fL.length i6] from (y2s _ _ (⟨fB, gA, fH, fX, gD, fL⟩ : S25) (Kd.R_reads' (Kd.R_mono (ok' := (fun _ => True)) (d9.out) (fun k_ hk => trivial))).2.1 (Kd.R_F (Kd.R_mono (ok' := (fun _ => True)) (d9.out) (fun k_ hk => trivial))) (Kd.R_reads' (Kd.R_mono (ok' := (fun _ => True)) (eB.out) (fun k_ hk => trivial))).2.1 (Kd.R_F (Kd.R_mono (ok' := (fun _ => True)) (eB.out) (fun k_ hk => trivial))))) (Reps.c6 (show Kd.FK k25 _ _ (⟨fK, f6, fF, f7, gB, fC⟩ : S25) [.string fK, .string f6, .string fF, .int .i64 f7, .slice i2 gB.length iT, .slice i3 fC.length i1] from (y2s _ _ (⟨fK, f6, fF, f7, gB, fC⟩ : S25) (Kd.R_reads' (Kd.R_mono (ok' := (fun _ => True)) (gZ.out) (fun k_ hk => trivial))).2.1 (Kd.R_F (Kd.R_mono (ok' := (fun _ => True)) (gZ.out) (fun k_ hk => trivial))) (Kd.R_reads' (Kd.R_mono (ok' := (fun _ => True)) (gR.out) (fun k_ hk => trivial))).2.1 (Kd.R_F (Kd.R_mono (ok' := (fun _ => True)) (gR.out) (fun k_ hk => trivial))))) (Reps.none _ _))))); intro mV nW g3 hb hg_ hnew_; clear hg_ hnew_; (first | rw [← h4.out] at g3 | (simp only [Int.reduceToNat] at g3; rw [← h4.out] at g3)); have aC := q_ (Kd.N_lower g3 (y0j hb_)); replace HB := q_ (y0k hb_ hb); clear cZ cY d9 eB gZ gR; clear hb g3; obtain ⟨g8, aZ, kX⟩ := Kd.N_slice aC.out; subst kX) | (refine gc_ 32 ?_; refine gl_ (some 18) Try.func32 #[.slice g8 aA.length aZ, .string (⟨#[98, 117, 102]⟩ : ByteArray)] ?_; (with_reducible refine (zq1m.calls _ _ aA (⟨#[98, 117, 102]⟩ : ByteArray) g5 true _ ?side1 ?side2 A4.out).mono ?_); (case side1 => exact ck_ (Kd.N_reads' aC.out).2.2); (case side2 => exact (Kd.N_reads' aC.out).2.1); rintro e nQ ⟨rfl, hb⟩; refine ⟨_, rfl, ?_⟩; replace aC := q_ (Kd.N_below (nk_ aC.out) hb); replace HB := q_ (y0k hb_ hb)) | (refine gc_ 32 ?_; refine gl_ (some 23) Try.func32 #[.slice g8 aA.length aZ, .string (⟨#[103, 101, 116]⟩ : ByteArray)] ?_; (with_reducible refine (zq1m.calls _ _ aA (⟨#[103, 101, 116]⟩ : ByteArray) k1 false _ ?side1 ?side2 A5.out).mono ?_); (case side1 => exact ck_ (Kd.N_reads' aC.out).2.2); (case side2 => exact (Kd.N_reads' aC.out).2.1); rintro e nL ⟨rfl, hb⟩; refine ⟨_, rfl, ?_⟩; replace aC := q_ (Kd.N_below (nk_ aC.out) hb); replace HB := q_ (y0k hb_ hb)) | (refine gc_ 77 ?_; refine gl_ (some 28) Try.func77 #[.string (⟨#[98]⟩ : ByteArray), .string (⟨#[98, 117, 102, 102, 101, 114]⟩ : ByteArray), .string nB_] ?_; (with_reducible refine (zqe.calls (⟨#[98]⟩ : ByteArray) (⟨#[98, 117, 102, 102, 101, 114]⟩ : ByteArray) nB_ iA iH iG h7 aU aT _ A6.out).mono ?_); rintro e nG ⟨nD, m9, rfl, a3, cQ, hb⟩; refine ⟨_, rfl, ?_⟩; replace aC := q_ (Kd.N_mono (Kd.N_told (Kd.N_told (Kd.N_old (nk_ aC.out) hb) (Kd.R_base a3)) (Kd.R_base cQ)) (fun _ h_ => h_.1)); have aJ := q_ (Kd.R_lower a3 (y0j hb_)); have aI := q_ (Kd.R_lower cQ (y0j hb_)); replace HB := q_ (y0k hb_ hb); obtain ⟨aW, aY, kY⟩ := Kd.R_slice aJ.out; subst kY; obtain ⟨aV, aX, kT⟩ := Kd.R_slice aI.out; subst kT) | (refine gc_ 45 ?_; refine gl_ (some 29) Try.func45 #[.slice g8 aA.length aZ, .agg #[.string iA, .string iH, .string iG, .int .i64 h7, .slice aW aU.length aY, .slice aV aT.length aX]] ?_; (with_reducible refine (zq1a.calls k (fun k_ => ((True ∧ some k_ ≠ (.slice aW aU.length aY : Value).ownBlock) ∧ some k_ ≠ (.slice aV aT.length aX : Value).ownBlock)) _ _ aA iA iH iG h7 (fun k_ => some k_ = (.slice aW aU.length aY : Value).ownBlock) _ _ aU (fun k_ => some k_ = (.slice aV aT.length aX : Value).ownBlock) _ _ aT aG jC _ ?side1 ?side2 ?side3 A7.out).mono ?_); (case side1 => exact Kd.N_V (aC.out)); (case side2 => exact Kd.R_V (Kd.R_tight rfl (Kd.R_apart' (Kd.R_apart' (aJ.out) (Kd.N_typed aC.out) (by decide)) (Kd.R_typed aI.out) (by decide)))); (case side3 => exact Kd.R_V (Kd.R_tight rfl (Kd.R_apart' (Kd.R_apart' (aI.out) (Kd.N_typed aC.out) (by decide)) (Kd.R_typed aJ.out) (by decide)))); rintro e nJ ⟨kR, rfl, a3, hb⟩; refine ⟨_, rfl, ?_⟩; replace aC := q_ (Kd.N_elder' (nk_ aC.out) (Kd.N_base a3) hb); replace aJ := q_ (Kd.R_below (rk_ aJ.out) hb); replace aI := q_ (Kd.R_below (rk_ aI.out) hb); have aH := q_ (Kd.N_lower (Kd.N_mono (ok' := fun k_ => True) a3 (fun k_ hk_ => trivial)) (y0j hb_)); replace HB := q_ (y0k hb_ hb)) | (refine gc_ 37 ?_; refine gl_ (some 34) Try.func37 #[.slice g8 aA.length aZ] ?_; (with_reducible refine (zq1d.calls k _ _ aA iC jF _ ?side1 ?side2 A8.out).mono ?_); (case side1 => exact ck_ (Kd.N_reads' aC.out).2.2); (case side2 => exact (Kd.N_reads' aC.out).2.1); rintro e nU ⟨rfl, hb⟩; refine ⟨_, rfl, ?_⟩; replace aC := q_ (Kd.N_below (nk_ aC.out) hb); replace aJ := q_ (Kd.R_below (rk_ aJ.out) hb); replace aI := q_ (Kd.R_below (rk_ aI.out) hb); replace aH := q_ (Kd.N_below (nk_ aH.out) hb); replace HB := q_ (y0k hb_ hb)) | (refine gc_ 39 ?_; refine gl_ (some 39) Try.func39 #[.string iC] ?_; (with_reducible refine (zq1c.calls k iC aO jG _ A9.out).mono ?_); rintro e m3 ⟨nC, rfl, a3, hb⟩; refine ⟨_, rfl, ?_⟩; have aK := q_ (Kd.N_lower (Kd.N_mono (ok' := fun k_ => some k_ ≠ (.slice g8 aA.length aZ : Value).ownBlock ∧ some k_ ≠ (.slice aW aU.length aY : Value).ownBlock ∧ some k_ ≠ (.slice aV aT.length aX : Value).ownBlock ∧ some k_ ≠ (kR : Value).ownBlock) (Kd.S_N (Kd.S_bound a3)) (fun k_ hk_ => ⟨(Kd.fresh' (Kd.N_lt (nk_ aC.out)) k_ hk_.2.1), (Kd.fresh' (Kd.R_lt (rk_ aJ.out)) k_ hk_.2.1), (Kd.fresh' (Kd.R_lt (rk_ aI.out)) k_ hk_.2.1), (Kd.fresh' (Kd.N_lt (nk_ aH.out)) k_ hk_.2.1)⟩)) (y0j hb_)); replace aC := q_ (Kd.N_elder' (nk_ aC.out) (Kd.N_base (Kd.S_N (Kd.S_bound a3))) hb); replace aJ := q_ (Kd.R_below (rk_ aJ.out) hb); replace aI := q_ (Kd.R_below (rk_ aI.out) hb); replace aH := q_ (Kd.N_elder' (nk_ aH.out) (Kd.N_base (Kd.S_N (Kd.S_bound a3))) hb); replace HB := q_ (y0k hb_ hb); obtain ⟨mQ, aR, k0⟩ := Kd.N_slice aH.out; subst k0; have hR : 0 ≤ (1 : Int) := (by omega); have h0 : 1 < (aG.length : Int) := oa_; obtain ⟨aD, g6, g9, hA, hB, kW, eN, eS, eW, eM, d1, d3, gP, gU, gJ, gV⟩ := y0c (Kd.N_reads' aH.out).2.2 1 hR h0; cases kW; obtain ⟨mH, h9, iD, fQ⟩ := Kd.N_get aH.out z25 1 hR (by first | exact h0 | exact oa_ | (have e_ := (Kd.N_reads' aH.out).1; omega)); obtain ⟨kF, kM, kG, kA, rfl, eU, eY, eV, eP⟩ := y2u iD; have dX := fQ 4 _ rfl; rw [y09 _ _ 4 (by omega)] at dX; replace dX := Option.some.inj (dX.symm.trans d1); injection dX with hva_ hvn_ hvc_; rw [hva_] at eY; rw [hvc_] at eU; have aE := q_ (show Kd.V k62 62 _ w.heap.size _ _ ((y49 aG 1).f4) from Kd.V_mk eU eY); clear hva_ hvn_ hvc_ eY eU; have d4 := fQ 5 _ rfl; rw [y09 _ _ 5 (by omega)] at d4; replace d4 := Option.some.inj (d4.symm.trans d3); injection d4 with hva_ hvn_ hvc_; rw [hva_] at eP; rw [hvc_] at eV; have aF := q_ (show Kd.V k43 43 _ w.heap.size _ _ ((y49 aG 1).f5) from Kd.V_mk eV eP); clear hva_ hvn_ hvc_ eP eV; clear fQ h9; (try simp only [show (1 : Int).toNat = 1 from rfl, Nat.reduceMul, Nat.reduceEqDiff, Go.Addr.add, ↓reduceIte] at eN); (try simp only [show (1 : Int).toNat = 1 from rfl, Nat.reduceMul, Nat.reduceEqDiff, Go.Addr.add, ↓reduceIte] at eS); (try simp only [show (1 : Int).toNat = 1 from rfl, Nat.reduceMul, Nat.reduceEqDiff, Go.Addr.add, ↓reduceIte] at eW); (try simp only [show (1 : Int).toNat = 1 from rfl, Nat.reduceMul, Nat.reduceEqDiff, Go.Addr.add, ↓reduceIte] at eM); (try simp only [show (1 : Int).toNat = 1 from rfl, Nat.reduceMul, Nat.reduceEqDiff, Go.Addr.add, ↓reduceIte] at d1); (try simp only [show (1 : Int).toNat = 1 from rfl, Nat.reduceMul, Nat.reduceEqDiff, Go.Addr.add, ↓reduceIte] at d3); have lT : (1 < aG.length) = True := eq_true (by omega); (try rw [show ((1 : Int)).toNat = 1 from rfl] at eN); (try rw [show 1 * 6 = 6 from rfl] at eN); (try rw [show ((1 : Int)).toNat = 1 from rfl] at eS); (try rw [show 1 * 6 = 6 from rfl] at eS); (try rw [show ((1 : Int)).toNat = 1 from rfl] at eW); (try rw [show 1 * 6 = 6 from rfl] at eW); (try rw [show ((1 : Int)).toNat = 1 from rfl] at eM); (try rw [show 1 * 6 = 6 from rfl] at eM); (try rw [show ((1 : Int)).toNat = 1 from rfl] at d1); (try rw [show 1 * 6 = 6 from rfl] at d1); (try rw [show ((1 : Int)).toNat = 1 from rfl] at d3); (try rw [show 1 * 6 = 6 from rfl] at d3); have aM := q_ gU; have kE := q_ gP; clear gU gP; have aL := q_ gV; have j9 := q_ gJ; clear gV gJ; replace hR := eq_true hR; replace h0 := eq_true h0; obtain ⟨aP, aQ, lC⟩ := Kd.N_slice aK.out; subst lC))
 replace aC := q_ (Kd.N_drew aC.out)
 replace aJ := q_ (Kd.R_drew aJ.out)
 replace aI := q_ (Kd.R_drew aI.out)
 replace aH := q_ (Kd.N_drew aH.out)
 replace aK := q_ (Kd.N_drew aK.out)
 replace aE := q_ (Kd.V_drew aE.out)
 replace aF := q_ (Kd.V_drew aF.out)
 replace aM := q_ (Kd.C_drew aM.out)
 replace aL := q_ (Kd.C_drew aL.out)
 replace HB := q_ (y0h HB.out)
 have hI : 0 ≤ (1 : Int) := (by omega)
 have hD : 1 < (aG.length : Int) := oa_
 obtain ⟨jU, kQ, gG, fN, f9, k8, c9, dJ, c8, dL, cT, cS, gS, gT, gW, gN⟩ := y0c (Kd.N_reads' aH.out).2.2 1 hI hD
 obtain rfl : aD = jU := (by injection k8)
 obtain ⟨jR, fP, fO, c1⟩ := Kd.N_get aH.out z25 1 hI (by first | exact hD | exact oa_ | (have e_ := (Kd.N_reads' aH.out).1; omega))
 obtain ⟨hZ, hJ, hO, hG, rfl, cN, cM, cA, b8⟩ := y2u fO
 have bA := c1 4 _ rfl
 rw [y09 _ _ 4 (by omega)] at bA
 replace bA := Option.some.inj (bA.symm.trans cT)
 injection bA with hva_ hvn_ hvc_
 rw [hva_] at cM
 rw [hvc_] at cN
 have bF := q_ (show Kd.V k62 62 _ w.heap.size _ _ ((y49 aG 1).f4) from Kd.V_mk cN cM)
 clear hva_ hvn_ hvc_ cM cN
 have bE := c1 5 _ rfl
 rw [y09 _ _ 5 (by omega)] at bE
 replace bE := Option.some.inj (bE.symm.trans cS)
 injection bE with hva_ hvn_ hvc_
 rw [hva_] at b8
 rw [hvc_] at cA
 have bD := q_ (show Kd.V k43 43 _ w.heap.size _ _ ((y49 aG 1).f5) from Kd.V_mk cA b8)
 clear hva_ hvn_ hvc_ b8 cA c1 fP
 (try simp only [show (1 : Int).toNat = 1 from rfl, Nat.reduceMul, Nat.reduceEqDiff, Go.Addr.add, ↓reduceIte] at c9)
 (try simp only [show (1 : Int).toNat = 1 from rfl, Nat.reduceMul, Nat.reduceEqDiff, Go.Addr.add, ↓reduceIte] at dJ)
 (try simp only [show (1 : Int).toNat = 1 from rfl, Nat.reduceMul, Nat.reduceEqDiff, Go.Addr.add, ↓reduceIte] at c8)
 (try simp only [show (1 : Int).toNat = 1 from rfl, Nat.reduceMul, Nat.reduceEqDiff, Go.Addr.add, ↓reduceIte] at dL)
 (try simp only [show (1 : Int).toNat = 1 from rfl, Nat.reduceMul, Nat.reduceEqDiff, Go.Addr.add, ↓reduceIte] at cT)
 (try simp only [show (1 : Int).toNat = 1 from rfl, Nat.reduceMul, Nat.reduceEqDiff, Go.Addr.add, ↓reduceIte] at cS)
 have l4 : (1 < aG.length) = True := eq_true (by omega)
 (try rw [show ((1 : Int)).toNat = 1 from rfl] at c9)
 (try rw [show 1 * 6 = 6 from rfl] at c9)
 (try rw [show ((1 : Int)).toNat = 1 from rfl] at dJ)
 (try rw [show 1 * 6 = 6 from rfl] at dJ)
 (try rw [show ((1 : Int)).toNat = 1 from rfl] at c8)
 (try rw [show 1 * 6 = 6 from rfl] at c8)
 (try rw [show ((1 : Int)).toNat = 1 from rfl] at dL)
 (try rw [show 1 * 6 = 6 from rfl] at dL)
 (try rw [show ((1 : Int)).toNat = 1 from rfl] at cT)
 (try rw [show 1 * 6 = 6 from rfl] at cT)
 (try rw [show ((1 : Int)).toNat = 1 from rfl] at cS)
 (try rw [show 1 * 6 = 6 from rfl] at cS)
 have bB := q_ gT
 have kD := q_ gS
 clear gT gS
 have bL := q_ gN
 have j7 := q_ gW
 clear gN gW
 replace hI := eq_true hI
 replace hD := eq_true hD
 have h2 : 0 ≤ (1 : Int) := (by omega)
 have hC : 1 < (aA.length : Int) := oa_
 obtain ⟨aB, b2, b3, b1, b0, lD, dF, dK, dQ, dD, cF, cD, gI, gL, g0, gM⟩ := y0c (Kd.N_reads' aC.out).2.2 1 h2 hC
 cases lD
 obtain ⟨iW, fD, gE, c0⟩ := Kd.N_get aC.out z25 1 h2 (by first | exact hC | exact oa_ | (have e_ := (Kd.N_reads' aC.out).1; omega))
 obtain ⟨hU, hW, hQ, hE, rfl, cH, cG, cC, cJ⟩ := y2u gE
 have bG := c0 4 _ rfl
 rw [y09 _ _ 4 (by omega)] at bG
 replace bG := Option.some.inj (bG.symm.trans cF)
 injection bG with hva_ hvn_ hvc_
 rw [hva_] at cG
 rw [hvc_] at cH
 have a8 := q_ (show Kd.V k62 62 _ w.heap.size _ _ ((y49 aA 1).f4) from Kd.V_mk cH cG)
 clear hva_ hvn_ hvc_ cG cH
 have bC := c0 5 _ rfl
 rw [y09 _ _ 5 (by omega)] at bC
 replace bC := Option.some.inj (bC.symm.trans cD)
 injection bC with hva_ hvn_ hvc_
 rw [hva_] at cJ
 rw [hvc_] at cC
 have a7 := q_ (show Kd.V k43 43 _ w.heap.size _ _ ((y49 aA 1).f5) from Kd.V_mk cC cJ)
 clear hva_ hvn_ hvc_ cJ cC c0 fD
 (try simp only [show (1 : Int).toNat = 1 from rfl, Nat.reduceMul, Nat.reduceEqDiff, Go.Addr.add, ↓reduceIte] at dF)
 (try simp only [show (1 : Int).toNat = 1 from rfl, Nat.reduceMul, Nat.reduceEqDiff, Go.Addr.add, ↓reduceIte] at dK)
 (try simp only [show (1 : Int).toNat = 1 from rfl, Nat.reduceMul, Nat.reduceEqDiff, Go.Addr.add, ↓reduceIte] at dQ)
 (try simp only [show (1 : Int).toNat = 1 from rfl, Nat.reduceMul, Nat.reduceEqDiff, Go.Addr.add, ↓reduceIte] at dD)
 (try simp only [show (1 : Int).toNat = 1 from rfl, Nat.reduceMul, Nat.reduceEqDiff, Go.Addr.add, ↓reduceIte] at cF)
 (try simp only [show (1 : Int).toNat = 1 from rfl, Nat.reduceMul, Nat.reduceEqDiff, Go.Addr.add, ↓reduceIte] at cD)
 have mA : (1 < aA.length) = True := eq_true (by omega)
 (try rw [show ((1 : Int)).toNat = 1 from rfl] at dF)
 (try rw [show 1 * 6 = 6 from rfl] at dF)
 (try rw [show ((1 : Int)).toNat = 1 from rfl] at dK)
 (try rw [show 1 * 6 = 6 from rfl] at dK)
 (try rw [show ((1 : Int)).toNat = 1 from rfl] at dQ)
 (try rw [show 1 * 6 = 6 from rfl] at dQ)
 (try rw [show ((1 : Int)).toNat = 1 from rfl] at dD)
 (try rw [show 1 * 6 = 6 from rfl] at dD)
 (try rw [show ((1 : Int)).toNat = 1 from rfl] at cF)
 (try rw [show 1 * 6 = 6 from rfl] at cF)
 (try rw [show ((1 : Int)).toNat = 1 from rfl] at cD)
 (try rw [show 1 * 6 = 6 from rfl] at cD)
 have bQ := q_ gL
 have hT := q_ gI
 clear gL gI
 have bR := q_ gM
 have hH := q_ g0
 clear gM g0
 replace h2 := eq_true h2
 replace hC := eq_true hC
 have hX : 0 ≤ (1 : Int) := (by omega)
 have hV : 1 < (aA.length : Int) := oa_
 obtain ⟨iK, kU, lE, k9, kV, lB, dB, dC, c5, dH, b9, cO, gH, gQ, gO, gX⟩ := y0c (Kd.N_reads' aC.out).2.2 1 hX hV
 obtain rfl : aB = iK := (by injection lB)
 obtain ⟨lM, iJ, h8, gF⟩ := Kd.N_get aC.out z25 1 hX (by first | exact hV | exact oa_ | (have e_ := (Kd.N_reads' aC.out).1; omega))
 obtain ⟨kK, kP, kJ, kI, rfl, eT, eX, eR, eZ⟩ := y2u h8
 have d2 := gF 4 _ rfl
 rw [y09 _ _ 4 (by omega)] at d2
 replace d2 := Option.some.inj (d2.symm.trans b9)
 injection d2 with hva_ hvn_ hvc_
 rw [hva_] at eX
 rw [hvc_] at eT
 have bJ := q_ (show Kd.V k62 62 _ w.heap.size _ _ ((y49 aA 1).f4) from Kd.V_mk eT eX)
 clear hva_ hvn_ hvc_ eX eT
 have dY := gF 5 _ rfl
 rw [y09 _ _ 5 (by omega)] at dY
 replace dY := Option.some.inj (dY.symm.trans cO)
 injection dY with hva_ hvn_ hvc_
 rw [hva_] at eZ
 rw [hvc_] at eR
 have bK := q_ (show Kd.V k43 43 _ w.heap.size _ _ ((y49 aA 1).f5) from Kd.V_mk eR eZ)
 clear hva_ hvn_ hvc_ eZ eR gF iJ
 (try simp only [show (1 : Int).toNat = 1 from rfl, Nat.reduceMul, Nat.reduceEqDiff, Go.Addr.add, ↓reduceIte] at dB)
 (try simp only [show (1 : Int).toNat = 1 from rfl, Nat.reduceMul, Nat.reduceEqDiff, Go.Addr.add, ↓reduceIte] at dC)
 (try simp only [show (1 : Int).toNat = 1 from rfl, Nat.reduceMul, Nat.reduceEqDiff, Go.Addr.add, ↓reduceIte] at c5)
 (try simp only [show (1 : Int).toNat = 1 from rfl, Nat.reduceMul, Nat.reduceEqDiff, Go.Addr.add, ↓reduceIte] at dH)
 (try simp only [show (1 : Int).toNat = 1 from rfl, Nat.reduceMul, Nat.reduceEqDiff, Go.Addr.add, ↓reduceIte] at b9)
 (try simp only [show (1 : Int).toNat = 1 from rfl, Nat.reduceMul, Nat.reduceEqDiff, Go.Addr.add, ↓reduceIte] at cO)
 have lX : (1 < aA.length) = True := eq_true (by omega)
 (try rw [show ((1 : Int)).toNat = 1 from rfl] at dB)
 (try rw [show 1 * 6 = 6 from rfl] at dB)
 (try rw [show ((1 : Int)).toNat = 1 from rfl] at dC)
 (try rw [show 1 * 6 = 6 from rfl] at dC)
 (try rw [show ((1 : Int)).toNat = 1 from rfl] at c5)
 (try rw [show 1 * 6 = 6 from rfl] at c5)
 (try rw [show ((1 : Int)).toNat = 1 from rfl] at dH)
 (try rw [show 1 * 6 = 6 from rfl] at dH)
 (try rw [show ((1 : Int)).toNat = 1 from rfl] at b9)
 (try rw [show 1 * 6 = 6 from rfl] at b9)
 (try rw [show ((1 : Int)).toNat = 1 from rfl] at cO)
 (try rw [show 1 * 6 = 6 from rfl] at cO)
 have bU := q_ gQ
 have hF := q_ gH
 clear gQ gH
 have bV := q_ gX
 have hL := q_ gO
 clear gX gO
 replace hX := eq_true hX
 replace hV := eq_true hV
 have ea_ := Option.some.inj (cF.symm.trans b9)
 injection ea_ with ea_ en_ ec_
 subst ea_
 subst ec_
 clear en_
 have ea_ := Option.some.inj (cD.symm.trans cO)
 injection ea_ with ea_ en_ ec_
 subst ea_
 subst ec_
 clear en_
 have h6 : 0 ≤ (0 : Int) := (by omega)
 have iE : 0 < (((y49 aG 1).f4).length : Int) := oa_
 obtain ⟨a6, k4, d5, dZ, dW, d0⟩ := y0e (ck_ bB.out) 0 h6 iE
 cases k4
 have l0 : (0 < ((y49 aG 1).f4).length) = True := eq_true (by omega)
 (try rw [show ((0 : Int)).toNat = 0 from rfl] at d5)
 (try rw [show 0 * 4 = 0 from rfl] at d5)
 (try rw [Addr.add_zero'] at d5)
 (try rw [show ((0 : Int)).toNat = 0 from rfl] at dZ)
 (try rw [show 0 * 4 = 0 from rfl] at dZ)
 (try rw [Addr.add_zero'] at dZ)
 (try rw [show ((0 : Int)).toNat = 0 from rfl] at dW)
 (try rw [show 0 * 4 = 0 from rfl] at dW)
 (try rw [Addr.add_zero'] at dW)
 (try rw [show ((0 : Int)).toNat = 0 from rfl] at d0)
 (try rw [show 0 * 4 = 0 from rfl] at d0)
 (try rw [Addr.add_zero'] at d0)
 replace h6 := eq_true h6
 replace iE := eq_true iE
 refine start_ (n := 57) (S := fun w' => w'.cell? ⟨aD.block, aD.off + 6, none⟩ = some (.string ((y49 aG 1).f0)) ∧ w'.cell? ⟨aD.block, aD.off + 6 + 1, none⟩ = some (.string ((y49 aG 1).f1)) ∧ w'.cell? ⟨aD.block, aD.off + 6 + 2, none⟩ = some (.string ((y49 aG 1).f2)) ∧ w'.cell? ⟨aD.block, aD.off + 6 + 3, none⟩ = some (.int .i64 ((y49 aG 1).f3)) ∧ w'.cell? ⟨aD.block, aD.off + 6 + 4, none⟩ = some (.slice (some a6) ((y49 aG 1).f4).length gG) ∧ w'.cell? ⟨aD.block, aD.off + 6 + 5, none⟩ = some (.slice fN ((y49 aG 1).f5).length f9) ∧ w'.cell? a6 = some (.string ((y4b ((y49 aG 1).f4) 0).f0)) ∧ w'.cell? ⟨a6.block, a6.off + 1, none⟩ = some (.int .i64 ((y4b ((y49 aG 1).f4) 0).f1)) ∧ w'.cell? ⟨a6.block, a6.off + 2, none⟩ = some (.int .i64 ((y4b ((y49 aG 1).f4) 0).f2)) ∧ w'.cell? ⟨a6.block, a6.off + 3, none⟩ = some (.bool ((y4b ((y49 aG 1).f4) 0).f3)) ∧ w'.cell? ⟨aB.block, aB.off + 6, none⟩ = some (.string ((y49 aA 1).f0)) ∧ w'.cell? ⟨aB.block, aB.off + 6 + 1, none⟩ = some (.string ((y49 aA 1).f1)) ∧ w'.cell? ⟨aB.block, aB.off + 6 + 2, none⟩ = some (.string ((y49 aA 1).f2)) ∧ w'.cell? ⟨aB.block, aB.off + 6 + 3, none⟩ = some (.int .i64 ((y49 aA 1).f3)) ∧ w'.cell? ⟨aB.block, aB.off + 6 + 4, none⟩ = some (.slice b2 ((y49 aA 1).f4).length b3) ∧ w'.cell? ⟨aB.block, aB.off + 6 + 5, none⟩ = some (.slice b1 ((y49 aA 1).f5).length b0) ∧ w'.cell? ⟨aB.block, aB.off + 6, none⟩ = some (.string ((y49 aA 1).f0)) ∧ w'.cell? ⟨aB.block, aB.off + 6 + 1, none⟩ = some (.string ((y49 aA 1).f1)) ∧ w'.cell? ⟨aB.block, aB.off + 6 + 2, none⟩ = some (.string ((y49 aA 1).f2)) ∧ w'.cell? ⟨aB.block, aB.off + 6 + 3, none⟩ = some (.int .i64 ((y49 aA 1).f3)) ∧ w'.cell? ⟨aB.block, aB.off + 6 + 4, none⟩ = some (.slice b2 ((y49 aA 1).f4).length b3) ∧ w'.cell? ⟨aB.block, aB.off + 6 + 5, none⟩ = some (.slice b1 ((y49 aA 1).f5).length b0)) (ds := []) #[false, false, false, false, false, false, false, false, false, false, false, false, false, false, false, false, false, false, false, false, false, false, false, false, false, false, false, false, false, false, false, false, false, false, false, false, false, false, false, false, false, false, false, false, false, false, false, false, false, false, false, false, false, false, false, false, false] (by kernel_rfl) rfl rfl ⟨c9, dJ, c8, dL, cT, cS, d5, dZ, dW, d0, dF, dK, dQ, dD, cF, cD, dB, dC, c5, dH, b9, cO⟩ (fun hHeld => ?_); refine y5o zqm.tab9 zqm.bits9 (fun HT_ HW_ => ?_)
 generalize m3.drew = nO at aC aJ aI aH aK aE aF aM aL HB bF bD a8 a7 bJ bK bB bL bQ bR bU bV c9 dJ c8 dL cT cS dF dK dQ dD cF cD dB dC c5 dH b9 cO hHeld ⊢
 refine pv_ 0 (some 65) (fl 57 1) ?_
 refine join_ (σ := Value × Value × Value × Value × Value) 52 #[true, true, true, true, true, false, false, false, false, false, false, false, false, false, false, false, false, false, false, false, false, false, false, false, false, false, false, false, false, false, false, false, false, false, false, false, false, false, false, false, false, false, false, false, false, false, false, false, false, false, false, false, false, false, false, false, false] (fun s_ => [(66, .agg #[.string cK, .string cL, .string cE, .int .i64 cI, s_.1, s_.2.1]), (67, s_.2.2.1), (68, s_.2.2.2.1), (69, s_.2.2.2.2)]) (fun s_ w' => (w'.cell? ⟨aD.block, aD.off + 6, none⟩ = some (.string ((y49 aG 1).f0)) ∧ w'.cell? ⟨aD.block, aD.off + 6 + 1, none⟩ = some (.string ((y49 aG 1).f1)) ∧ w'.cell? ⟨aD.block, aD.off + 6 + 2, none⟩ = some (.string ((y49 aG 1).f2)) ∧ w'.cell? ⟨aD.block, aD.off + 6 + 3, none⟩ = some (.int .i64 ((y49 aG 1).f3)) ∧ w'.cell? ⟨aD.block, aD.off + 6 + 4, none⟩ = some (.slice (some a6) ((y49 aG 1).f4).length gG) ∧ w'.cell? ⟨aD.block, aD.off + 6 + 5, none⟩ = some (.slice fN ((y49 aG 1).f5).length f9) ∧ w'.cell? a6 = some (.string ((y4b ((y49 aG 1).f4) 0).f0)) ∧ w'.cell? ⟨a6.block, a6.off + 1, none⟩ = some (.int .i64 ((y4b ((y49 aG 1).f4) 0).f1)) ∧ w'.cell? ⟨a6.block, a6.off + 2, none⟩ = some (.int .i64 ((y4b ((y49 aG 1).f4) 0).f2)) ∧ w'.cell? ⟨a6.block, a6.off + 3, none⟩ = some (.bool ((y4b ((y49 aG 1).f4) 0).f3)) ∧ w'.cell? ⟨aB.block, aB.off + 6, none⟩ = some (.string ((y49 aA 1).f0)) ∧ w'.cell? ⟨aB.block, aB.off + 6 + 1, none⟩ = some (.string ((y49 aA 1).f1)) ∧ w'.cell? ⟨aB.block, aB.off + 6 + 2, none⟩ = some (.string ((y49 aA 1).f2)) ∧ w'.cell? ⟨aB.block, aB.off + 6 + 3, none⟩ = some (.int .i64 ((y49 aA 1).f3)) ∧ w'.cell? ⟨aB.block, aB.off + 6 + 4, none⟩ = some (.slice b2 ((y49 aA 1).f4).length b3) ∧ w'.cell? ⟨aB.block, aB.off + 6 + 5, none⟩ = some (.slice b1 ((y49 aA 1).f5).length b0) ∧ w'.cell? ⟨aB.block, aB.off + 6, none⟩ = some (.string ((y49 aA 1).f0)) ∧ w'.cell? ⟨aB.block, aB.off + 6 + 1, none⟩ = some (.string ((y49 aA 1).f1)) ∧ w'.cell? ⟨aB.block, aB.off + 6 + 2, none⟩ = some (.string ((y49 aA 1).f2)) ∧ w'.cell? ⟨aB.block, aB.off + 6 + 3, none⟩ = some (.int .i64 ((y49 aA 1).f3)) ∧ w'.cell? ⟨aB.block, aB.off + 6 + 4, none⟩ = some (.slice b2 ((y49 aA 1).f4).length b3) ∧ w'.cell? ⟨aB.block, aB.off + 6 + 5, none⟩ = some (.slice b1 ((y49 aA 1).f5).length b0)) ∧ (Kd.V k62 62 w' w.heap.size (fun k_ => some k_ ≠ (.slice (some aD) aG.length aR : Value).ownBlock ∧ some k_ ≠ (.slice aP aO.length aQ : Value).ownBlock ∧ some k_ ≠ (s_.2.2.1 : Value).ownBlock ∧ some k_ ≠ (s_.2.2.2.1 : Value).ownBlock ∧ some k_ ≠ (s_.2.2.2.2 : Value).ownBlock) (.slice g6 ((y49 aG 1).f4).length g9) ((y49 aG 1).f4)) ∧ (Kd.V k43 43 w' w.heap.size (fun k_ => some k_ ≠ (.slice (some aD) aG.length aR : Value).ownBlock ∧ some k_ ≠ (.slice aP aO.length aQ : Value).ownBlock ∧ some k_ ≠ (s_.2.2.1 : Value).ownBlock ∧ some k_ ≠ (s_.2.2.2.1 : Value).ownBlock ∧ some k_ ≠ (s_.2.2.2.2 : Value).ownBlock) (.slice hA ((y49 aG 1).f5).length hB) ((y49 aG 1).f5)) ∧ (Kd.N k25 25 w' w.heap.size (fun k_ => some k_ ≠ (.slice aW aU.length aY : Value).ownBlock ∧ some k_ ≠ (.slice aV aT.length aX : Value).ownBlock ∧ some k_ ≠ (.slice (some aD) aG.length aR : Value).ownBlock ∧ some k_ ≠ (.slice aP aO.length aQ : Value).ownBlock ∧ some k_ ≠ (s_.2.2.1 : Value).ownBlock ∧ some k_ ≠ (s_.2.2.2.1 : Value).ownBlock ∧ some k_ ≠ (s_.2.2.2.2 : Value).ownBlock) (.slice (some aB) aA.length aZ) aA) ∧ (Kd.R k62 62 w' w.heap.size (fun _ => True) (.slice aW aU.length aY) aU) ∧ (Kd.R k43 43 w' w.heap.size (fun _ => True) (.slice aV aT.length aX) aT) ∧ (Kd.N k25 25 w' w.heap.size (fun k_ => some k_ ≠ (.slice aP aO.length aQ : Value).ownBlock ∧ some k_ ≠ (s_.2.2.1 : Value).ownBlock ∧ some k_ ≠ (s_.2.2.2.1 : Value).ownBlock ∧ some k_ ≠ (s_.2.2.2.2 : Value).ownBlock) (.slice (some aD) aG.length aR) aG) ∧ (Kd.N k25 25 w' w.heap.size (fun k_ => some k_ ≠ (.slice (some aB) aA.length aZ : Value).ownBlock ∧ some k_ ≠ (.slice aW aU.length aY : Value).ownBlock ∧ some k_ ≠ (.slice aV aT.length aX : Value).ownBlock ∧ some k_ ≠ (.slice (some aD) aG.length aR : Value).ownBlock ∧ some k_ ≠ (s_.2.2.1 : Value).ownBlock ∧ some k_ ≠ (s_.2.2.2.1 : Value).ownBlock ∧ some k_ ≠ (s_.2.2.2.2 : Value).ownBlock) (.slice aP aO.length aQ) aO) ∧ (Kd.N k25 25 w' w.heap.size (fun k_ => some k_ ≠ (.slice (some aB) aA.length aZ : Value).ownBlock ∧ some k_ ≠ (.slice aW aU.length aY : Value).ownBlock ∧ some k_ ≠ (.slice aV aT.length aX : Value).ownBlock ∧ some k_ ≠ (.slice (some aD) aG.length aR : Value).ownBlock ∧ some k_ ≠ (.slice aP aO.length aQ : Value).ownBlock ∧ some k_ ≠ (s_.2.2.2.1 : Value).ownBlock ∧ some k_ ≠ (s_.2.2.2.2 : Value).ownBlock) s_.2.2.1 cB) ∧ (Kd.R (Kd.int .i64) 3 w' w.heap.size (fun k_ => some k_ ≠ (s_.2.2.2.2 : Value).ownBlock) s_.2.2.2.1 a4) ∧ (Kd.R (Kd.int .i64) 3 w' w.heap.size (fun k_ => some k_ ≠ (s_.2.2.2.1 : Value).ownBlock) s_.2.2.2.2 bH) ∧ (Below w.heap.size w w')) ?_ ?_
 rotate_left
 ·intro hCont
  refine two_ (i := 1) (j := 4) (Ni := some 66) (Nj := some 69) #[true, true, false, false, false, false, false, false, false, false, false, false, false, false, false, false, false, false, false, false, false, false, false, false, false, false, false, false, false, false, false, false, false, false, false, false, false, false, false, false, false, false, false, false, false, false, false, false, false, false, false, false, false, false, false, false, false] #[true, false, false, false, true, false, false, false, false, false, false, false, false, false, false, false, false, false, false, false, false, false, false, false, false, false, false, false, false, false, false, false, false, false, false, false, false, false, false, false, false, false, false, false, false, false, false, false, false, false, false, false, false, false, false, false, false] rfl rfl rfl rfl (two_of HT_.out (by kernel_rfl)) (by decide) (by decide) (fun K hK => ?_) (fun K hK => ?_)
  ·skip
   refine gs_ Try.func77 #[.string (⟨#[109]⟩ : ByteArray), .string nB_, .string (⟨#[112, 117, 116]⟩ : ByteArray)] ?_
   with_reducible refine (zqe.calls (⟨#[109]⟩ : ByteArray) nB_ (⟨#[112, 117, 116]⟩ : ByteArray) cK cL cE cI bX bY _ mM.out).mono ?_
   rintro e lR ⟨jL, iY, rfl, a3, cQ, hb⟩
   have HS_ := kp22_ hb hHeld
   refine ⟨_, rfl, ?_⟩
   replace aC := q_ (Kd.N_mono (Kd.N_told (Kd.N_told (Kd.N_old (nk_ aC.out) hb) (Kd.R_base a3)) (Kd.R_base cQ)) (fun _ h_ => h_.1))
   replace aH := q_ (Kd.N_mono (Kd.N_told (Kd.N_told (Kd.N_old (nk_ aH.out) hb) (Kd.R_base a3)) (Kd.R_base cQ)) (fun _ h_ => h_.1))
   replace aK := q_ (Kd.N_mono (Kd.N_told (Kd.N_told (Kd.N_old (nk_ aK.out) hb) (Kd.R_base a3)) (Kd.R_base cQ)) (fun _ h_ => h_.1))
   replace aE := q_ (Kd.V_mono (Kd.V_told (Kd.V_told (Kd.V_old (vk_ aE.out) hb) (Kd.R_base a3)) (Kd.R_base cQ)) (fun _ h_ => h_.1))
   replace aF := q_ (Kd.V_mono (Kd.V_told (Kd.V_told (Kd.V_old (vk_ aF.out) hb) (Kd.R_base a3)) (Kd.R_base cQ)) (fun _ h_ => h_.1))
   have bT := q_ (Kd.R_lower (Kd.R_new' a3 (Kd.R_lt (rk_ aJ.out))) (y0j hb_))
   replace aJ := q_ (Kd.R_elder' (rk_ aJ.out) (Kd.R_base a3) hb)
   have bS := q_ (Kd.R_lower (Kd.R_new' cQ (Kd.R_lt (rk_ aI.out))) (y0j hb_))
   replace aI := q_ (Kd.R_elder' (rk_ aI.out) (Kd.R_base cQ) hb)
   replace aM := q_ (Kd.C_below (ck_ aM.out) hb)
   replace aL := q_ (Kd.C_below (ck_ aL.out) hb)
   replace HB := q_ (y0k hb_ hb)
   obtain ⟨h1, hS, i5⟩ := Kd.R_slice bT.out
   (first | subst i5 | (injection i5 with f1_ f2_ f3_; have cW := f1_.symm; have cV := f3_.symm; clear f1_ f2_ f3_; subst cW; subst cV))
   obtain ⟨hP, hM, jP⟩ := Kd.R_slice bS.out
   (first | subst jP | (injection jP with f1_ f2_ f3_; have cW := f1_.symm; have cV := f3_.symm; clear f1_ f2_ f3_; subst cW; subst cV))
   refine hK.out _ _ HS_ (fun hHeld => ?_)
   clear hK K
   refine no_ (N := some 66) ?_
   refine two_ (i := 2) (j := 4) (Ni := some 67) (Nj := some 69) #[true, true, true, false, false, false, false, false, false, false, false, false, false, false, false, false, false, false, false, false, false, false, false, false, false, false, false, false, false, false, false, false, false, false, false, false, false, false, false, false, false, false, false, false, false, false, false, false, false, false, false, false, false, false, false, false, false] #[true, true, false, false, true, false, false, false, false, false, false, false, false, false, false, false, false, false, false, false, false, false, false, false, false, false, false, false, false, false, false, false, false, false, false, false, false, false, false, false, false, false, false, false, false, false, false, false, false, false, false, false, false, false, false, false, false] rfl rfl rfl rfl (two_of HT_.out (by kernel_rfl)) (by decide) (by decide) (fun K hK => ?_) (fun K hK => ?_)
   ·skip
    refine Kd.N_lit_step k25 _ 25 ?hg (N' := 67) ?hd (xs := ([(⟨cK, cL, cE, cI, bX, bY⟩ : S25)] : List (S25))) (inner := [.string cK, .string cL, .string cE, .int .i64 cI, .slice h1 bX.length hS, .slice hP bY.length hM]) (ok := (fun k_ => some k_ ≠ (.slice (some aB) aA.length aZ : Value).ownBlock ∧ some k_ ≠ (.slice aW aU.length aY : Value).ownBlock ∧ some k_ ≠ (.slice aV aT.length aX : Value).ownBlock ∧ some k_ ≠ (.slice (some aD) aG.length aR : Value).ownBlock ∧ some k_ ≠ (.slice aP aO.length aQ : Value).ownBlock)) (okp := (fun k_ => some k_ ≠ (.slice (some aB) aA.length aZ : Value).ownBlock ∧ some k_ ≠ (.slice aW aU.length aY : Value).ownBlock ∧ some k_ ≠ (.slice aV aT.length aX : Value).ownBlock ∧ some k_ ≠ (.slice (some aD) aG.length aR : Value).ownBlock ∧ some k_ ≠ (.slice aP aO.length aQ : Value).ownBlock)) ?hr ?hp (fun _ hk => hk) ((show ∀ k_, lR.heap.size ≤ k_ → (fun k_ => some k_ ≠ (.slice (some aB) aA.length aZ : Value).ownBlock ∧ some k_ ≠ (.slice aW aU.length aY : Value).ownBlock ∧ some k_ ≠ (.slice aV aT.length aX : Value).ownBlock ∧ some k_ ≠ (.slice (some aD) aG.length aR : Value).ownBlock ∧ some k_ ≠ (.slice aP aO.length aQ : Value).ownBlock) k_ from fun k_ hk => ⟨Kd.fresh' (Kd.N_lt (nk_ aC.out)) k_ hk, Kd.fresh' (Kd.R_lt (rk_ aJ.out)) k_ hk, Kd.fresh' (Kd.R_lt (rk_ aI.out)) k_ hk, Kd.fresh' (Kd.N_lt (nk_ aH.out)) k_ hk, Kd.fresh' (Kd.N_lt (nk_ aK.out)) k_ hk⟩) _ (Nat.le_refl _)) (Below.refl _ _) (Nat.le_refl _) (by simp) ?_; (case hd => rfl); (case hg => rfl); (case hr => first | (go_simp; done) | (go_simp; rfl)); (case hp => exact (Reps.c6 (show Kd.FK k25 _ _ (⟨cK, cL, cE, cI, bX, bY⟩ : S25) [.string cK, .string cL, .string cE, .int .i64 cI, .slice h1 bX.length hS, .slice hP bY.length hM] from (y2s _ _ (⟨cK, cL, cE, cI, bX, bY⟩ : S25) (Kd.R_reads' (Kd.R_mono (ok' := (fun k_ => some k_ ≠ (.slice (some aB) aA.length aZ : Value).ownBlock ∧ some k_ ≠ (.slice aW aU.length aY : Value).ownBlock ∧ some k_ ≠ (.slice aV aT.length aX : Value).ownBlock ∧ some k_ ≠ (.slice (some aD) aG.length aR : Value).ownBlock ∧ some k_ ≠ (.slice aP aO.length aQ : Value).ownBlock)) (Kd.R_apart' (Kd.R_apart' (Kd.R_apart' (Kd.R_apart' (bT.out) (Kd.N_typed aC.out) (by decide)) (Kd.R_typed aI.out) (by decide)) (Kd.N_typed aH.out) (by decide)) (Kd.N_typed aK.out) (by decide)) (fun k_ hk => ⟨hk.1.1.1.2, ⟨hk.1.1.1.1.2, ⟨hk.1.1.2, ⟨hk.1.2, hk.2⟩⟩⟩⟩))).2.1 (Kd.R_F (Kd.R_mono (ok' := (fun k_ => some k_ ≠ (.slice (some aB) aA.length aZ : Value).ownBlock ∧ some k_ ≠ (.slice aW aU.length aY : Value).ownBlock ∧ some k_ ≠ (.slice aV aT.length aX : Value).ownBlock ∧ some k_ ≠ (.slice (some aD) aG.length aR : Value).ownBlock ∧ some k_ ≠ (.slice aP aO.length aQ : Value).ownBlock)) (Kd.R_apart' (Kd.R_apart' (Kd.R_apart' (Kd.R_apart' (bT.out) (Kd.N_typed aC.out) (by decide)) (Kd.R_typed aI.out) (by decide)) (Kd.N_typed aH.out) (by decide)) (Kd.N_typed aK.out) (by decide)) (fun k_ hk => ⟨hk.1.1.1.2, ⟨hk.1.1.1.1.2, ⟨hk.1.1.2, ⟨hk.1.2, hk.2⟩⟩⟩⟩))) (Kd.R_reads' (Kd.R_mono (ok' := (fun k_ => some k_ ≠ (.slice (some aB) aA.length aZ : Value).ownBlock ∧ some k_ ≠ (.slice aW aU.length aY : Value).ownBlock ∧ some k_ ≠ (.slice aV aT.length aX : Value).ownBlock ∧ some k_ ≠ (.slice (some aD) aG.length aR : Value).ownBlock ∧ some k_ ≠ (.slice aP aO.length aQ : Value).ownBlock)) (Kd.R_apart' (Kd.R_apart' (Kd.R_apart' (Kd.R_apart' (bS.out) (Kd.N_typed aC.out) (by decide)) (Kd.R_typed aJ.out) (by decide)) (Kd.N_typed aH.out) (by decide)) (Kd.N_typed aK.out) (by decide)) (fun k_ hk => ⟨hk.1.1.1.2, ⟨hk.1.1.2, ⟨hk.1.1.1.1.2, ⟨hk.1.2, hk.2⟩⟩⟩⟩))).2.1 (Kd.R_F (Kd.R_mono (ok' := (fun k_ => some k_ ≠ (.slice (some aB) aA.length aZ : Value).ownBlock ∧ some k_ ≠ (.slice aW aU.length aY : Value).ownBlock ∧ some k_ ≠ (.slice aV aT.length aX : Value).ownBlock ∧ some k_ ≠ (.slice (some aD) aG.length aR : Value).ownBlock ∧ some k_ ≠ (.slice aP aO.length aQ : Value).ownBlock)) (Kd.R_apart' (Kd.R_apart' (Kd.R_apart' (Kd.R_apart' (bS.out) (Kd.N_typed aC.out) (by decide)) (Kd.R_typed aJ.out) (by decide)) (Kd.N_typed aH.out) (by decide)) (Kd.N_typed aK.out) (by decide)) (fun k_ hk => ⟨hk.1.1.1.2, ⟨hk.1.1.2, ⟨hk.1.1.1.1.2, ⟨hk.1.2, hk.2⟩⟩⟩⟩))))) (Reps.none _ _)))
    intro a1 nH eG hb hg_ hnew_
    have HS_ := kp22_ hb hHeld
    clear hg_ hnew_
    (first | rw [← eK.out] at eG | (simp only [Int.reduceToNat] at eG; rw [← eK.out] at eG))
    have dP := q_ (by have h_ := (Kd.N_elder' (nk_ aC.out) (Kd.N_base eG) hb); exact Kd.N_mono (ok' := (fun k_ => some k_ ≠ (.slice aW aU.length aY : Value).ownBlock ∧ some k_ ≠ (.slice aV aT.length aX : Value).ownBlock ∧ some k_ ≠ (.slice (some aD) aG.length aR : Value).ownBlock ∧ some k_ ≠ (.slice aP aO.length aQ : Value).ownBlock ∧ some k_ ≠ (a1 : Value).ownBlock)) h_ (fun k_ hk => ⟨hk.1.1.1.1.1.1.2, ⟨hk.1.1.1.1.1.2, ⟨hk.1.1.1.1.2, ⟨hk.1.1.1.2, hk.2⟩⟩⟩⟩))
    have c4 := q_ (by have h_ := (Kd.R_below (rk_ aJ.out) hb); exact Kd.R_mono (ok' := (fun _ => True)) h_ (fun k_ hk => trivial))
    have dN := q_ (by have h_ := (Kd.R_below (rk_ aI.out) hb); exact Kd.R_mono (ok' := (fun _ => True)) h_ (fun k_ hk => trivial))
    have dA := q_ (by have h_ := (Kd.N_elder' (nk_ aH.out) (Kd.N_base eG) hb); exact Kd.N_mono (ok' := (fun k_ => some k_ ≠ (.slice aP aO.length aQ : Value).ownBlock ∧ some k_ ≠ (a1 : Value).ownBlock)) h_ (fun k_ hk => ⟨hk.1.1.1.2, hk.2⟩))
    have c7 := q_ (by have h_ := (Kd.N_elder' (nk_ aK.out) (Kd.N_base eG) hb); exact Kd.N_mono (ok' := (fun k_ => some k_ ≠ (.slice (some aB) aA.length aZ : Value).ownBlock ∧ some k_ ≠ (.slice aW aU.length aY : Value).ownBlock ∧ some k_ ≠ (.slice aV aT.length aX : Value).ownBlock ∧ some k_ ≠ (.slice (some aD) aG.length aR : Value).ownBlock ∧ some k_ ≠ (a1 : Value).ownBlock)) h_ (fun k_ hk => ⟨hk.1.1.1.1, ⟨hk.1.1.1.2.1, ⟨hk.1.1.1.2.2.1, ⟨hk.1.1.1.2.2.2, hk.2⟩⟩⟩⟩))
    have dM := q_ (by have h_ := (Kd.V_elder' (vk_ aE.out) (Kd.N_base eG) hb); exact Kd.V_mono (ok' := (fun k_ => some k_ ≠ (.slice (some aD) aG.length aR : Value).ownBlock ∧ some k_ ≠ (.slice aP aO.length aQ : Value).ownBlock ∧ some k_ ≠ (a1 : Value).ownBlock)) h_ (fun k_ hk => ⟨hk.1.1.1.2, ⟨hk.1.1.1.1.2, hk.2⟩⟩))
    have dG := q_ (by have h_ := (Kd.V_elder' (vk_ aF.out) (Kd.N_base eG) hb); exact Kd.V_mono (ok' := (fun k_ => some k_ ≠ (.slice (some aD) aG.length aR : Value).ownBlock ∧ some k_ ≠ (.slice aP aO.length aQ : Value).ownBlock ∧ some k_ ≠ (a1 : Value).ownBlock)) h_ (fun k_ hk => ⟨hk.1.1.1.2, ⟨hk.1.1.1.1.2, hk.2⟩⟩))
    have dO := q_ (Kd.N_lower eG (y0j hb_))
    have dI := q_ (Kd.C_below (ck_ aM.out) hb)
    have c3 := q_ (Kd.C_below (ck_ aL.out) hb)
    have bI := q_ (y0k hb_ hb)
    clear aC aJ aI aH aK aE aF aM aL HB bT bS
    have aC := dP; have aJ := c4; have aI := dN; have aH := dA; have aK := c7; have aE := dM; have aF := dG; have aS := dO; have aM := dI; have aL := c3; have HB := bI
    clear dP c4 dN dA c7 dM dG dO dI c3 bI hb eG
    obtain ⟨iB, iF, j0⟩ := Kd.N_slice aS.out
    (first | subst j0 | (injection j0 with f1_ f2_ f3_; have cW := f1_.symm; have cV := f3_.symm; clear f1_ f2_ f3_; subst cW; subst cV))
    refine hK.out _ _ HS_ (fun hHeld => ?_)
    clear hK K
    refine no_ (N := some 67) ?_
    refine two_ (i := 3) (j := 4) (Ni := some 68) (Nj := some 69) #[true, true, true, true, false, false, false, false, false, false, false, false, false, false, false, false, false, false, false, false, false, false, false, false, false, false, false, false, false, false, false, false, false, false, false, false, false, false, false, false, false, false, false, false, false, false, false, false, false, false, false, false, false, false, false, false, false] #[true, true, true, false, true, false, false, false, false, false, false, false, false, false, false, false, false, false, false, false, false, false, false, false, false, false, false, false, false, false, false, false, false, false, false, false, false, false, false, false, false, false, false, false, false, false, false, false, false, false, false, false, false, false, false, false, false] rfl rfl rfl rfl (two_of HT_.out (by kernel_rfl)) (by decide) (by decide) (fun K hK => ?_) (fun K hK => ?_)
    ·skip
     refine gs_ Try.func43 #[.slice (some aB) aA.length aZ, .slice iB cB.length iF] ?_
     with_reducible refine (zq1e.calls k (fun k_ => (some k_ ≠ (.slice aW aU.length aY : Value).ownBlock ∧ (some k_ ≠ (.slice aV aT.length aX : Value).ownBlock ∧ (some k_ ≠ (.slice (some aD) aG.length aR : Value).ownBlock ∧ (some k_ ≠ (.slice aP aO.length aQ : Value).ownBlock ∧ some k_ ≠ (.slice iB cB.length iF : Value).ownBlock))))) _ _ aA (fun k_ => (some k_ ≠ (.slice (some aB) aA.length aZ : Value).ownBlock ∧ (some k_ ≠ (.slice aW aU.length aY : Value).ownBlock ∧ (some k_ ≠ (.slice aV aT.length aX : Value).ownBlock ∧ (some k_ ≠ (.slice (some aD) aG.length aR : Value).ownBlock ∧ some k_ ≠ (.slice aP aO.length aQ : Value).ownBlock))))) _ _ cB a4 _ ?side1 ?side2 kN.out).mono ?_
     (case side1 => exact Kd.N_V (aC.out))
     (case side2 => exact Kd.N_V (aS.out))
     rintro e nK ⟨cX, rfl, a3, hb⟩
     have HS_ := kp22_ hb hHeld
     refine ⟨_, rfl, ?_⟩
     replace aC := q_ (Kd.N_elder' (nk_ aC.out) (Kd.R_base a3) hb)
     replace aJ := q_ (Kd.R_below (rk_ aJ.out) hb)
     replace aI := q_ (Kd.R_below (rk_ aI.out) hb)
     replace aH := q_ (Kd.N_elder' (nk_ aH.out) (Kd.R_base a3) hb)
     replace aK := q_ (Kd.N_elder' (nk_ aK.out) (Kd.R_base a3) hb)
     replace aE := q_ (Kd.V_elder' (vk_ aE.out) (Kd.R_base a3) hb)
     replace aF := q_ (Kd.V_elder' (vk_ aF.out) (Kd.R_base a3) hb)
     replace aS := q_ (Kd.N_elder' (nk_ aS.out) (Kd.R_base a3) hb)
     have a0 := q_ (Kd.R_lower (Kd.R_mono (ok' := fun k_ => True) a3 (fun _ hk_ => trivial)) (y0j hb_))
     replace aM := q_ (Kd.C_below (ck_ aM.out) hb)
     replace aL := q_ (Kd.C_below (ck_ aL.out) hb)
     replace HB := q_ (y0k hb_ hb)
     refine hK.out _ _ HS_ (fun hHeld => ?_)
     clear hK K
     refine no_ (N := some 68) ?_
     refine one_ (i := 4) (N := some 69) (fl 57 31) rfl rfl (y3l HT_.out (by kernel_rfl)) (by decide) (fun K hK => ?_)
     refine Kd.R_lit_step (Kd.int .i64) _ 3 ?hg (N := 69) ?hd (xs := ([0, 1] : List Int)) (inner := [.int .i64 0, .int .i64 1]) (ok := fun _ => True) (okp := fun _ => True) ?hr ?hp (fun _ hk => hk) trivial (Below.refl _ _) (Nat.le_refl _) (by simp) ?_; (case hd => rfl); (case hg => rfl); (case hr => first | (go_simp; done) | (go_simp; rfl)); (case hp => exact (Reps.one (show Kd.M (Kd.int .i64) _ _ _ 0 [.int .i64 0] from rfl) (Reps.one (show Kd.M (Kd.int .i64) _ _ _ 1 [.int .i64 1] from rfl) (Reps.none _ _))))
     intro a2 nP dV hb hg_ hnew_
     have HS_ := kp22_ hb hHeld
     clear hg_ hnew_
     (first | rw [← dU.out] at dV | (simp only [Int.reduceToNat] at dV; rw [← dU.out] at dV))
     have dP := q_ (Kd.N_elder' (nk_ aC.out) (Kd.R_base dV) hb)
     have c4 := q_ (Kd.R_below (rk_ aJ.out) hb)
     have dN := q_ (Kd.R_below (rk_ aI.out) hb)
     have dA := q_ (Kd.N_elder' (nk_ aH.out) (Kd.R_base dV) hb)
     have c7 := q_ (Kd.N_elder' (nk_ aK.out) (Kd.R_base dV) hb)
     have dM := q_ (Kd.V_elder' (vk_ aE.out) (Kd.R_base dV) hb)
     have dG := q_ (Kd.V_elder' (vk_ aF.out) (Kd.R_base dV) hb)
     have dO := q_ (Kd.N_elder' (nk_ aS.out) (Kd.R_base dV) hb)
     have dI := q_ (Kd.R_elder' (rk_ a0.out) (Kd.R_base dV) hb)
     have c3 := q_ (Kd.R_lower (Kd.R_new' dV (Kd.R_lt (rk_ a0.out))) (y0j hb_))
     have bI := q_ (Kd.C_below (ck_ aM.out) hb)
     have b5 := q_ (Kd.C_below (ck_ aL.out) hb)
     have e1 := q_ (y0k hb_ hb)
     clear aC aJ aI aH aK aE aF aS a0 aM aL HB
     have aC := dP; have aJ := c4; have aI := dN; have aH := dA; have aK := c7; have aE := dM; have aF := dG; have aS := dO; have a0 := dI; have aN := c3; have aM := bI; have aL := b5; have HB := e1
     clear dP c4 dN dA c7 dM dG dO dI c3 bI b5 e1 hb dV
     refine hK.out _ _ HS_ (fun hHeld => ?_)
     clear hK K
     refine no_ (N := some 69) ?_
     exact norm_ (by simp only [putAll, Act.put, List.setIfInBounds_toArray, List.set_cons_zero, List.set_cons_succ]) (hCont (.slice h1 bX.length hS, .slice hP bY.length hM, .slice iB cB.length iF, cX, a2) _ ⟨hHeld, (vm_ aE.out (fun _ hk => ⟨hk.1.1.1, ⟨hk.1.1.2.1, ⟨hk.1.1.2.2, ⟨hk.1.2, hk.2⟩⟩⟩⟩)), (vm_ aF.out (fun _ hk => ⟨hk.1.1.1, ⟨hk.1.1.2.1, ⟨hk.1.1.2.2, ⟨hk.1.2, hk.2⟩⟩⟩⟩)), (nm_ aC.out (fun _ hk => ⟨hk.1.1.1, ⟨hk.1.1.2.1, ⟨hk.1.1.2.2.1, ⟨hk.1.1.2.2.2.1, ⟨hk.1.1.2.2.2.2, ⟨hk.1.2, hk.2⟩⟩⟩⟩⟩⟩)), (rk_ aJ.out), (rk_ aI.out), (nm_ aH.out (fun _ hk => ⟨hk.1.1.1, ⟨hk.1.1.2, ⟨hk.1.2, hk.2⟩⟩⟩)), (nm_ aK.out (fun _ hk => ⟨hk.1.1.1, ⟨hk.1.1.2.1, ⟨hk.1.1.2.2.1, ⟨hk.1.1.2.2.2.1, ⟨hk.1.1.2.2.2.2, ⟨hk.1.2, hk.2⟩⟩⟩⟩⟩⟩)), (nm_ aS.out (fun _ hk => ⟨hk.1.1.1, ⟨hk.1.1.2.1, ⟨hk.1.1.2.2.1, ⟨hk.1.1.2.2.2.1, ⟨hk.1.1.2.2.2.2, ⟨hk.1.2, hk.2⟩⟩⟩⟩⟩⟩)), (rm_ a0.out (fun _ hk => hk.2)), (rm_ aN.out (fun _ hk => hk.2)), hb_⟩)
    ·skip
     refine Kd.R_lit_step (Kd.int .i64) _ 3 ?hg (N := 69) ?hd (xs := ([0, 1] : List Int)) (inner := [.int .i64 0, .int .i64 1]) (ok := fun _ => True) (okp := fun _ => True) ?hr ?hp (fun _ hk => hk) trivial (Below.refl _ _) (Nat.le_refl _) (by simp) ?_; (case hd => rfl); (case hg => rfl); (case hr => first | (go_simp; done) | (go_simp; rfl)); (case hp => exact (Reps.one (show Kd.M (Kd.int .i64) _ _ _ 0 [.int .i64 0] from rfl) (Reps.one (show Kd.M (Kd.int .i64) _ _ _ 1 [.int .i64 1] from rfl) (Reps.none _ _))))
     intro a2 mC a9 hb hg_ hnew_
     have HS_ := kp22_ hb hHeld
     clear hg_ hnew_
     (first | rw [← dU.out] at a9 | (simp only [Int.reduceToNat] at a9; rw [← dU.out] at a9))
     have dP := q_ (Kd.N_elder' (nk_ aC.out) (Kd.R_base a9) hb)
     have c4 := q_ (Kd.R_below (rk_ aJ.out) hb)
     have dN := q_ (Kd.R_below (rk_ aI.out) hb)
     have dA := q_ (Kd.N_elder' (nk_ aH.out) (Kd.R_base a9) hb)
     have c7 := q_ (Kd.N_elder' (nk_ aK.out) (Kd.R_base a9) hb)
     have dM := q_ (Kd.V_elder' (vk_ aE.out) (Kd.R_base a9) hb)
     have dG := q_ (Kd.V_elder' (vk_ aF.out) (Kd.R_base a9) hb)
     have dO := q_ (Kd.N_elder' (nk_ aS.out) (Kd.R_base a9) hb)
     have dI := q_ (Kd.R_lower a9 (y0j hb_))
     have c3 := q_ (Kd.C_below (ck_ aM.out) hb)
     have bI := q_ (Kd.C_below (ck_ aL.out) hb)
     have b5 := q_ (y0k hb_ hb)
     clear aC aJ aI aH aK aE aF aS aM aL HB
     have aC := dP; have aJ := c4; have aI := dN; have aH := dA; have aK := c7; have aE := dM; have aF := dG; have aS := dO; have aN := dI; have aM := c3; have aL := bI; have HB := b5
     clear dP c4 dN dA c7 dM dG dO dI c3 bI b5 hb a9
     obtain ⟨d8, eA, e4⟩ := Kd.N_slice aS.out
     (first | subst e4 | (injection e4 with f1_ f2_ f3_; have cW := f1_.symm; have cV := f3_.symm; clear f1_ f2_ f3_; subst cW; subst cV))
     refine hK.out _ _ HS_ (fun hHeld => ?_)
     clear hK K
     refine no_ (N := some 69) ?_
     refine one_ (i := 3) (N := some 68) (fl 57 31) rfl rfl (y3l HT_.out (by kernel_rfl)) (by decide) (fun K hK => ?_)
     refine gs_ Try.func43 #[.slice (some aB) aA.length aZ, .slice d8 cB.length eA] ?_
     with_reducible refine (zq1e.calls k (fun k_ => ((some k_ ≠ (.slice aW aU.length aY : Value).ownBlock ∧ (some k_ ≠ (.slice aV aT.length aX : Value).ownBlock ∧ (some k_ ≠ (.slice (some aD) aG.length aR : Value).ownBlock ∧ (some k_ ≠ (.slice aP aO.length aQ : Value).ownBlock ∧ some k_ ≠ (.slice d8 cB.length eA : Value).ownBlock)))) ∧ some k_ ≠ (a2 : Value).ownBlock)) _ _ aA (fun k_ => ((some k_ ≠ (.slice (some aB) aA.length aZ : Value).ownBlock ∧ (some k_ ≠ (.slice aW aU.length aY : Value).ownBlock ∧ (some k_ ≠ (.slice aV aT.length aX : Value).ownBlock ∧ (some k_ ≠ (.slice (some aD) aG.length aR : Value).ownBlock ∧ some k_ ≠ (.slice aP aO.length aQ : Value).ownBlock)))) ∧ some k_ ≠ (a2 : Value).ownBlock)) _ _ cB a4 _ ?side1 ?side2 kN.out).mono ?_
     (case side1 => exact Kd.N_V (aC.out))
     (case side2 => exact Kd.N_V (aS.out))
     rintro e lQ ⟨cX, rfl, a3, hb⟩
     have HS_ := kp22_ hb hHeld
     refine ⟨_, rfl, ?_⟩
     replace aC := q_ (Kd.N_elder' (nk_ aC.out) (Kd.R_base a3) hb)
     replace aJ := q_ (Kd.R_below (rk_ aJ.out) hb)
     replace aI := q_ (Kd.R_below (rk_ aI.out) hb)
     replace aH := q_ (Kd.N_elder' (nk_ aH.out) (Kd.R_base a3) hb)
     replace aK := q_ (Kd.N_elder' (nk_ aK.out) (Kd.R_base a3) hb)
     replace aE := q_ (Kd.V_elder' (vk_ aE.out) (Kd.R_base a3) hb)
     replace aF := q_ (Kd.V_elder' (vk_ aF.out) (Kd.R_base a3) hb)
     replace aS := q_ (Kd.N_elder' (nk_ aS.out) (Kd.R_base a3) hb)
     have a0 := q_ (Kd.R_lower (Kd.R_new' (Kd.R_mono (ok' := fun k_ => True) a3 (fun _ hk_ => trivial)) (Kd.R_lt (rk_ aN.out))) (y0j hb_))
     replace aN := q_ (Kd.R_elder' (rk_ aN.out) (Kd.R_base a3) hb)
     replace aM := q_ (Kd.C_below (ck_ aM.out) hb)
     replace aL := q_ (Kd.C_below (ck_ aL.out) hb)
     replace HB := q_ (y0k hb_ hb)
     refine hK.out _ _ HS_ (fun hHeld => ?_)
     clear hK K
     refine no_ (N := some 68) ?_
     exact norm_ (by simp only [putAll, Act.put, List.setIfInBounds_toArray, List.set_cons_zero, List.set_cons_succ]) (hCont (.slice h1 bX.length hS, .slice hP bY.length hM, .slice d8 cB.length eA, cX, a2) _ ⟨hHeld, (vm_ aE.out (fun _ hk => ⟨hk.1.1.1, ⟨hk.1.1.2.1, ⟨hk.1.1.2.2, ⟨hk.2, hk.1.2⟩⟩⟩⟩)), (vm_ aF.out (fun _ hk => ⟨hk.1.1.1, ⟨hk.1.1.2.1, ⟨hk.1.1.2.2, ⟨hk.2, hk.1.2⟩⟩⟩⟩)), (nm_ aC.out (fun _ hk => ⟨hk.1.1.1, ⟨hk.1.1.2.1, ⟨hk.1.1.2.2.1, ⟨hk.1.1.2.2.2.1, ⟨hk.1.1.2.2.2.2, ⟨hk.2, hk.1.2⟩⟩⟩⟩⟩⟩)), (rk_ aJ.out), (rk_ aI.out), (nm_ aH.out (fun _ hk => ⟨hk.1.1.1, ⟨hk.1.1.2, ⟨hk.2, hk.1.2⟩⟩⟩)), (nm_ aK.out (fun _ hk => ⟨hk.1.1.1, ⟨hk.1.1.2.1, ⟨hk.1.1.2.2.1, ⟨hk.1.1.2.2.2.1, ⟨hk.1.1.2.2.2.2, ⟨hk.2, hk.1.2⟩⟩⟩⟩⟩⟩)), (nm_ aS.out (fun _ hk => ⟨hk.1.1.1, ⟨hk.1.1.2.1, ⟨hk.1.1.2.2.1, ⟨hk.1.1.2.2.2.1, ⟨hk.1.1.2.2.2.2, ⟨hk.2, hk.1.2⟩⟩⟩⟩⟩⟩)), (rm_ a0.out (fun _ hk => hk.2)), (rm_ aN.out (fun _ hk => hk.2)), hb_⟩)
   ·skip
    refine Kd.R_lit_step (Kd.int .i64) _ 3 ?hg (N := 69) ?hd (xs := ([0, 1] : List Int)) (inner := [.int .i64 0, .int .i64 1]) (ok := fun _ => True) (okp := fun _ => True) ?hr ?hp (fun _ hk => hk) trivial (Below.refl _ _) (Nat.le_refl _) (by simp) ?_; (case hd => rfl); (case hg => rfl); (case hr => first | (go_simp; done) | (go_simp; rfl)); (case hp => exact (Reps.one (show Kd.M (Kd.int .i64) _ _ _ 0 [.int .i64 0] from rfl) (Reps.one (show Kd.M (Kd.int .i64) _ _ _ 1 [.int .i64 1] from rfl) (Reps.none _ _))))
    intro a2 nB eF hb hg_ hnew_
    have HS_ := kp22_ hb hHeld
    clear hg_ hnew_
    (first | rw [← dU.out] at eF | (simp only [Int.reduceToNat] at eF; rw [← dU.out] at eF))
    have dP := q_ (Kd.N_elder' (nk_ aC.out) (Kd.R_base eF) hb)
    have c4 := q_ (Kd.R_below (rk_ aJ.out) hb)
    have dN := q_ (Kd.R_below (rk_ aI.out) hb)
    have dA := q_ (Kd.N_elder' (nk_ aH.out) (Kd.R_base eF) hb)
    have c7 := q_ (Kd.N_elder' (nk_ aK.out) (Kd.R_base eF) hb)
    have dM := q_ (Kd.V_elder' (vk_ aE.out) (Kd.R_base eF) hb)
    have dG := q_ (Kd.V_elder' (vk_ aF.out) (Kd.R_base eF) hb)
    have dO := q_ (Kd.R_below (rk_ bT.out) hb)
    have dI := q_ (Kd.R_below (rk_ bS.out) hb)
    have c3 := q_ (Kd.R_lower eF (y0j hb_))
    have bI := q_ (Kd.C_below (ck_ aM.out) hb)
    have b5 := q_ (Kd.C_below (ck_ aL.out) hb)
    have e1 := q_ (y0k hb_ hb)
    clear aC aJ aI aH aK aE aF bT bS aM aL HB
    have aC := dP; have aJ := c4; have aI := dN; have aH := dA; have aK := c7; have aE := dM; have aF := dG; have bT := dO; have bS := dI; have aN := c3; have aM := bI; have aL := b5; have HB := e1
    clear dP c4 dN dA c7 dM dG dO dI c3 bI b5 e1 hb eF
    obtain ⟨fU, fA, g2⟩ := Kd.R_slice bT.out
    (first | subst g2 | (injection g2 with f1_ f2_ f3_; have cW := f1_.symm; have cV := f3_.symm; clear f1_ f2_ f3_; subst cW; subst cV))
    obtain ⟨fG, fS, g7⟩ := Kd.R_slice bS.out
    (first | subst g7 | (injection g7 with f1_ f2_ f3_; have cW := f1_.symm; have cV := f3_.symm; clear f1_ f2_ f3_; subst cW; subst cV))
    refine hK.out _ _ HS_ (fun hHeld => ?_)
    clear hK K
    refine no_ (N := some 69) ?_
    refine one_ (i := 2) (N := some 67) (fl 57 23) rfl rfl (y3l HT_.out (by kernel_rfl)) (by decide) (fun K hK => ?_)
    refine Kd.N_lit_step k25 _ 25 ?hg (N' := 67) ?hd (xs := ([(⟨cK, cL, cE, cI, bX, bY⟩ : S25)] : List (S25))) (inner := [.string cK, .string cL, .string cE, .int .i64 cI, .slice fU bX.length fA, .slice fG bY.length fS]) (ok := (fun k_ => some k_ ≠ (.slice (some aB) aA.length aZ : Value).ownBlock ∧ some k_ ≠ (.slice aW aU.length aY : Value).ownBlock ∧ some k_ ≠ (.slice aV aT.length aX : Value).ownBlock ∧ some k_ ≠ (.slice (some aD) aG.length aR : Value).ownBlock ∧ some k_ ≠ (.slice aP aO.length aQ : Value).ownBlock ∧ some k_ ≠ (a2 : Value).ownBlock)) (okp := (fun k_ => some k_ ≠ (.slice (some aB) aA.length aZ : Value).ownBlock ∧ some k_ ≠ (.slice aW aU.length aY : Value).ownBlock ∧ some k_ ≠ (.slice aV aT.length aX : Value).ownBlock ∧ some k_ ≠ (.slice (some aD) aG.length aR : Value).ownBlock ∧ some k_ ≠ (.slice aP aO.length aQ : Value).ownBlock ∧ some k_ ≠ (a2 : Value).ownBlock)) ?hr ?hp (fun _ hk => hk) ((show ∀ k_, nB.heap.size ≤ k_ → (fun k_ => some k_ ≠ (.slice (some aB) aA.length aZ : Value).ownBlock ∧ some k_ ≠ (.slice aW aU.length aY : Value).ownBlock ∧ some k_ ≠ (.slice aV aT.length aX : Value).ownBlock ∧ some k_ ≠ (.slice (some aD) aG.length aR : Value).ownBlock ∧ some k_ ≠ (.slice aP aO.length aQ : Value).ownBlock ∧ some k_ ≠ (a2 : Value).ownBlock) k_ from fun k_ hk => ⟨Kd.fresh' (Kd.N_lt (nk_ aC.out)) k_ hk, Kd.fresh' (Kd.R_lt (rk_ aJ.out)) k_ hk, Kd.fresh' (Kd.R_lt (rk_ aI.out)) k_ hk, Kd.fresh' (Kd.N_lt (nk_ aH.out)) k_ hk, Kd.fresh' (Kd.N_lt (nk_ aK.out)) k_ hk, Kd.fresh' (Kd.R_lt (rk_ aN.out)) k_ hk⟩) _ (Nat.le_refl _)) (Below.refl _ _) (Nat.le_refl _) (by simp) ?_; (case hd => rfl); (case hg => rfl); (case hr => first | (go_simp; done) | (go_simp; rfl)); (case hp => exact (Reps.c6 (show Kd.FK k25 _ _ (⟨cK, cL, cE, cI, bX, bY⟩ : S25) [.string cK, .string cL, .string cE, .int .i64 cI, .slice fU bX.length fA, .slice fG bY.length fS] from (y2s _ _ (⟨cK, cL, cE, cI, bX, bY⟩ : S25) (Kd.R_reads' (Kd.R_mono (ok' := (fun k_ => some k_ ≠ (.slice (some aB) aA.length aZ : Value).ownBlock ∧ some k_ ≠ (.slice aW aU.length aY : Value).ownBlock ∧ some k_ ≠ (.slice aV aT.length aX : Value).ownBlock ∧ some k_ ≠ (.slice (some aD) aG.length aR : Value).ownBlock ∧ some k_ ≠ (.slice aP aO.length aQ : Value).ownBlock ∧ some k_ ≠ (a2 : Value).ownBlock)) (Kd.R_apart' (Kd.R_apart' (Kd.R_apart' (Kd.R_apart' (Kd.R_apart' (bT.out) (Kd.N_typed aC.out) (by decide)) (Kd.R_typed aI.out) (by decide)) (Kd.N_typed aH.out) (by decide)) (Kd.N_typed aK.out) (by decide)) (Kd.R_typed aN.out) (by decide)) (fun k_ hk => ⟨hk.1.1.1.1.2, ⟨hk.1.1.1.1.1.2, ⟨hk.1.1.1.2, ⟨hk.1.1.2, ⟨hk.1.2, hk.2⟩⟩⟩⟩⟩))).2.1 (Kd.R_F (Kd.R_mono (ok' := (fun k_ => some k_ ≠ (.slice (some aB) aA.length aZ : Value).ownBlock ∧ some k_ ≠ (.slice aW aU.length aY : Value).ownBlock ∧ some k_ ≠ (.slice aV aT.length aX : Value).ownBlock ∧ some k_ ≠ (.slice (some aD) aG.length aR : Value).ownBlock ∧ some k_ ≠ (.slice aP aO.length aQ : Value).ownBlock ∧ some k_ ≠ (a2 : Value).ownBlock)) (Kd.R_apart' (Kd.R_apart' (Kd.R_apart' (Kd.R_apart' (Kd.R_apart' (bT.out) (Kd.N_typed aC.out) (by decide)) (Kd.R_typed aI.out) (by decide)) (Kd.N_typed aH.out) (by decide)) (Kd.N_typed aK.out) (by decide)) (Kd.R_typed aN.out) (by decide)) (fun k_ hk => ⟨hk.1.1.1.1.2, ⟨hk.1.1.1.1.1.2, ⟨hk.1.1.1.2, ⟨hk.1.1.2, ⟨hk.1.2, hk.2⟩⟩⟩⟩⟩))) (Kd.R_reads' (Kd.R_mono (ok' := (fun k_ => some k_ ≠ (.slice (some aB) aA.length aZ : Value).ownBlock ∧ some k_ ≠ (.slice aW aU.length aY : Value).ownBlock ∧ some k_ ≠ (.slice aV aT.length aX : Value).ownBlock ∧ some k_ ≠ (.slice (some aD) aG.length aR : Value).ownBlock ∧ some k_ ≠ (.slice aP aO.length aQ : Value).ownBlock ∧ some k_ ≠ (a2 : Value).ownBlock)) (Kd.R_apart' (Kd.R_apart' (Kd.R_apart' (Kd.R_apart' (Kd.R_apart' (bS.out) (Kd.N_typed aC.out) (by decide)) (Kd.R_typed aJ.out) (by decide)) (Kd.N_typed aH.out) (by decide)) (Kd.N_typed aK.out) (by decide)) (Kd.R_typed aN.out) (by decide)) (fun k_ hk => ⟨hk.1.1.1.1.2, ⟨hk.1.1.1.2, ⟨hk.1.1.1.1.1.2, ⟨hk.1.1.2, ⟨hk.1.2, hk.2⟩⟩⟩⟩⟩))).2.1 (Kd.R_F (Kd.R_mono (ok' := (fun k_ => some k_ ≠ (.slice (some aB) aA.length aZ : Value).ownBlock ∧ some k_ ≠ (.slice aW aU.length aY : Value).ownBlock ∧ some k_ ≠ (.slice aV aT.length aX : Value).ownBlock ∧ some k_ ≠ (.slice (some aD) aG.length aR : Value).ownBlock ∧ some k_ ≠ (.slice aP aO.length aQ : Value).ownBlock ∧ some k_ ≠ (a2 : Value).ownBlock)) (Kd.R_apart' (Kd.R_apart' (Kd.R_apart' (Kd.R_apart' (Kd.R_apart' (bS.out) (Kd.N_typed aC.out) (by decide)) (Kd.R_typed aJ.out) (by decide)) (Kd.N_typed aH.out) (by decide)) (Kd.N_typed aK.out) (by decide)) (Kd.R_typed aN.out) (by decide)) (fun k_ hk => ⟨hk.1.1.1.1.2, ⟨hk.1.1.1.2, ⟨hk.1.1.1.1.1.2, ⟨hk.1.1.2, ⟨hk.1.2, hk.2⟩⟩⟩⟩⟩))))) (Reps.none _ _)))
    intro a1 mC a9 hb hg_ hnew_
    have HS_ := kp22_ hb hHeld
    clear hg_ hnew_
    (first | rw [← eK.out] at a9 | (simp only [Int.reduceToNat] at a9; rw [← eK.out] at a9))
    have dP := q_ (by have h_ := (Kd.N_elder' (nk_ aC.out) (Kd.N_base a9) hb); exact Kd.N_mono (ok' := (fun k_ => some k_ ≠ (.slice aW aU.length aY : Value).ownBlock ∧ some k_ ≠ (.slice aV aT.length aX : Value).ownBlock ∧ some k_ ≠ (.slice (some aD) aG.length aR : Value).ownBlock ∧ some k_ ≠ (.slice aP aO.length aQ : Value).ownBlock ∧ some k_ ≠ (a2 : Value).ownBlock ∧ some k_ ≠ (a1 : Value).ownBlock)) h_ (fun k_ hk => ⟨hk.1.1.1.1.1.1.1.2, ⟨hk.1.1.1.1.1.1.2, ⟨hk.1.1.1.1.1.2, ⟨hk.1.1.1.1.2, ⟨hk.1.2, hk.2⟩⟩⟩⟩⟩))
    have c4 := q_ (by have h_ := (Kd.R_below (rk_ aJ.out) hb); exact Kd.R_mono (ok' := (fun _ => True)) h_ (fun k_ hk => trivial))
    have dN := q_ (by have h_ := (Kd.R_below (rk_ aI.out) hb); exact Kd.R_mono (ok' := (fun _ => True)) h_ (fun k_ hk => trivial))
    have dA := q_ (by have h_ := (Kd.N_elder' (nk_ aH.out) (Kd.N_base a9) hb); exact Kd.N_mono (ok' := (fun k_ => some k_ ≠ (.slice aP aO.length aQ : Value).ownBlock ∧ some k_ ≠ (a2 : Value).ownBlock ∧ some k_ ≠ (a1 : Value).ownBlock)) h_ (fun k_ hk => ⟨hk.1.1.1.1.2, ⟨hk.1.2, hk.2⟩⟩))
    have c7 := q_ (by have h_ := (Kd.N_elder' (nk_ aK.out) (Kd.N_base a9) hb); exact Kd.N_mono (ok' := (fun k_ => some k_ ≠ (.slice (some aB) aA.length aZ : Value).ownBlock ∧ some k_ ≠ (.slice aW aU.length aY : Value).ownBlock ∧ some k_ ≠ (.slice aV aT.length aX : Value).ownBlock ∧ some k_ ≠ (.slice (some aD) aG.length aR : Value).ownBlock ∧ some k_ ≠ (a2 : Value).ownBlock ∧ some k_ ≠ (a1 : Value).ownBlock)) h_ (fun k_ hk => ⟨hk.1.1.1.1.1, ⟨hk.1.1.1.1.2.1, ⟨hk.1.1.1.1.2.2.1, ⟨hk.1.1.1.1.2.2.2, ⟨hk.1.2, hk.2⟩⟩⟩⟩⟩))
    have dM := q_ (by have h_ := (Kd.V_elder' (vk_ aE.out) (Kd.N_base a9) hb); exact Kd.V_mono (ok' := (fun k_ => some k_ ≠ (.slice (some aD) aG.length aR : Value).ownBlock ∧ some k_ ≠ (.slice aP aO.length aQ : Value).ownBlock ∧ some k_ ≠ (a2 : Value).ownBlock ∧ some k_ ≠ (a1 : Value).ownBlock)) h_ (fun k_ hk => ⟨hk.1.1.1.1.2, ⟨hk.1.1.1.1.1.2, ⟨hk.1.2, hk.2⟩⟩⟩))
    have dG := q_ (by have h_ := (Kd.V_elder' (vk_ aF.out) (Kd.N_base a9) hb); exact Kd.V_mono (ok' := (fun k_ => some k_ ≠ (.slice (some aD) aG.length aR : Value).ownBlock ∧ some k_ ≠ (.slice aP aO.length aQ : Value).ownBlock ∧ some k_ ≠ (a2 : Value).ownBlock ∧ some k_ ≠ (a1 : Value).ownBlock)) h_ (fun k_ hk => ⟨hk.1.1.1.1.2, ⟨hk.1.1.1.1.1.2, ⟨hk.1.2, hk.2⟩⟩⟩))
    have dO := q_ (Kd.R_below (rk_ aN.out) hb)
    have dI := q_ (Kd.N_lower a9 (y0j hb_))
    have c3 := q_ (Kd.C_below (ck_ aM.out) hb)
    have bI := q_ (Kd.C_below (ck_ aL.out) hb)
    have b5 := q_ (y0k hb_ hb)
    clear aC aJ aI aH aK aE aF aN aM aL HB bT bS
    have aC := dP; have aJ := c4; have aI := dN; have aH := dA; have aK := c7; have aE := dM; have aF := dG; have aN := dO; have aS := dI; have aM := c3; have aL := bI; have HB := b5
    clear dP c4 dN dA c7 dM dG dO dI c3 bI b5 hb a9
    obtain ⟨d8, eA, e4⟩ := Kd.N_slice aS.out
    (first | subst e4 | (injection e4 with f1_ f2_ f3_; have cW := f1_.symm; have cV := f3_.symm; clear f1_ f2_ f3_; subst cW; subst cV))
    refine hK.out _ _ HS_ (fun hHeld => ?_)
    clear hK K
    refine no_ (N := some 67) ?_
    refine one_ (i := 3) (N := some 68) (fl 57 31) rfl rfl (y3l HT_.out (by kernel_rfl)) (by decide) (fun K hK => ?_)
    refine gs_ Try.func43 #[.slice (some aB) aA.length aZ, .slice d8 cB.length eA] ?_
    with_reducible refine (zq1e.calls k (fun k_ => (some k_ ≠ (.slice aW aU.length aY : Value).ownBlock ∧ (some k_ ≠ (.slice aV aT.length aX : Value).ownBlock ∧ (some k_ ≠ (.slice (some aD) aG.length aR : Value).ownBlock ∧ (some k_ ≠ (.slice aP aO.length aQ : Value).ownBlock ∧ (some k_ ≠ (a2 : Value).ownBlock ∧ some k_ ≠ (.slice d8 cB.length eA : Value).ownBlock)))))) _ _ aA (fun k_ => (some k_ ≠ (.slice (some aB) aA.length aZ : Value).ownBlock ∧ (some k_ ≠ (.slice aW aU.length aY : Value).ownBlock ∧ (some k_ ≠ (.slice aV aT.length aX : Value).ownBlock ∧ (some k_ ≠ (.slice (some aD) aG.length aR : Value).ownBlock ∧ (some k_ ≠ (.slice aP aO.length aQ : Value).ownBlock ∧ some k_ ≠ (a2 : Value).ownBlock)))))) _ _ cB a4 _ ?side1 ?side2 kN.out).mono ?_
    (case side1 => exact Kd.N_V (aC.out))
    (case side2 => exact Kd.N_V (aS.out))
    rintro e lQ ⟨cX, rfl, a3, hb⟩
    have HS_ := kp22_ hb hHeld
    refine ⟨_, rfl, ?_⟩
    replace aC := q_ (Kd.N_elder' (nk_ aC.out) (Kd.R_base a3) hb)
    replace aJ := q_ (Kd.R_below (rk_ aJ.out) hb)
    replace aI := q_ (Kd.R_below (rk_ aI.out) hb)
    replace aH := q_ (Kd.N_elder' (nk_ aH.out) (Kd.R_base a3) hb)
    replace aK := q_ (Kd.N_elder' (nk_ aK.out) (Kd.R_base a3) hb)
    replace aE := q_ (Kd.V_elder' (vk_ aE.out) (Kd.R_base a3) hb)
    replace aF := q_ (Kd.V_elder' (vk_ aF.out) (Kd.R_base a3) hb)
    replace aS := q_ (Kd.N_elder' (nk_ aS.out) (Kd.R_base a3) hb)
    have a0 := q_ (Kd.R_lower (Kd.R_new' (Kd.R_mono (ok' := fun k_ => True) a3 (fun _ hk_ => trivial)) (Kd.R_lt (rk_ aN.out))) (y0j hb_))
    replace aN := q_ (Kd.R_elder' (rk_ aN.out) (Kd.R_base a3) hb)
    replace aM := q_ (Kd.C_below (ck_ aM.out) hb)
    replace aL := q_ (Kd.C_below (ck_ aL.out) hb)
    replace HB := q_ (y0k hb_ hb)
    refine hK.out _ _ HS_ (fun hHeld => ?_)
    clear hK K
    refine no_ (N := some 68) ?_
    exact norm_ (by simp only [putAll, Act.put, List.setIfInBounds_toArray, List.set_cons_zero, List.set_cons_succ]) (hCont (.slice fU bX.length fA, .slice fG bY.length fS, .slice d8 cB.length eA, cX, a2) _ ⟨hHeld, (vm_ aE.out (fun _ hk => ⟨hk.1.1, ⟨hk.1.2.1, ⟨hk.1.2.2.2, ⟨hk.2, hk.1.2.2.1⟩⟩⟩⟩)), (vm_ aF.out (fun _ hk => ⟨hk.1.1, ⟨hk.1.2.1, ⟨hk.1.2.2.2, ⟨hk.2, hk.1.2.2.1⟩⟩⟩⟩)), (nm_ aC.out (fun _ hk => ⟨hk.1.1, ⟨hk.1.2.1, ⟨hk.1.2.2.1, ⟨hk.1.2.2.2.1, ⟨hk.1.2.2.2.2.2, ⟨hk.2, hk.1.2.2.2.2.1⟩⟩⟩⟩⟩⟩)), (rk_ aJ.out), (rk_ aI.out), (nm_ aH.out (fun _ hk => ⟨hk.1.1, ⟨hk.1.2.2, ⟨hk.2, hk.1.2.1⟩⟩⟩)), (nm_ aK.out (fun _ hk => ⟨hk.1.1, ⟨hk.1.2.1, ⟨hk.1.2.2.1, ⟨hk.1.2.2.2.1, ⟨hk.1.2.2.2.2.2, ⟨hk.2, hk.1.2.2.2.2.1⟩⟩⟩⟩⟩⟩)), (nm_ aS.out (fun _ hk => ⟨hk.1.1, ⟨hk.1.2.1, ⟨hk.1.2.2.1, ⟨hk.1.2.2.2.1, ⟨hk.1.2.2.2.2.1, ⟨hk.2, hk.1.2.2.2.2.2⟩⟩⟩⟩⟩⟩)), (rm_ a0.out (fun _ hk => hk.2)), (rm_ aN.out (fun _ hk => hk.2)), hb_⟩)
  ·skip
   refine Kd.R_lit_step (Kd.int .i64) _ 3 ?hg (N := 69) ?hd (xs := ([0, 1] : List Int)) (inner := [.int .i64 0, .int .i64 1]) (ok := fun _ => True) (okp := fun _ => True) ?hr ?hp (fun _ hk => hk) trivial (Below.refl _ _) (Nat.le_refl _) (by simp) ?_; (case hd => rfl); (case hg => rfl); (case hr => first | (go_simp; done) | (go_simp; rfl)); (case hp => exact (Reps.one (show Kd.M (Kd.int .i64) _ _ _ 0 [.int .i64 0] from rfl) (Reps.one (show Kd.M (Kd.int .i64) _ _ _ 1 [.int .i64 1] from rfl) (Reps.none _ _))))
   intro a2 lR eH hb hg_ hnew_
   have HS_ := kp22_ hb hHeld
   clear hg_ hnew_
   (first | rw [← dU.out] at eH | (simp only [Int.reduceToNat] at eH; rw [← dU.out] at eH))
   have dP := q_ (Kd.N_elder' (nk_ aC.out) (Kd.R_base eH) hb)
   have c4 := q_ (Kd.R_below (rk_ aJ.out) hb)
   have dN := q_ (Kd.R_below (rk_ aI.out) hb)
   have dA := q_ (Kd.N_elder' (nk_ aH.out) (Kd.R_base eH) hb)
   have c7 := q_ (Kd.N_elder' (nk_ aK.out) (Kd.R_base eH) hb)
   have dM := q_ (Kd.V_elder' (vk_ aE.out) (Kd.R_base eH) hb)
   have dG := q_ (Kd.V_elder' (vk_ aF.out) (Kd.R_base eH) hb)
   have dO := q_ (Kd.R_lower eH (y0j hb_))
   have dI := q_ (Kd.C_below (ck_ aM.out) hb)
   have c3 := q_ (Kd.C_below (ck_ aL.out) hb)
   have bI := q_ (y0k hb_ hb)
   clear aC aJ aI aH aK aE aF aM aL HB
   have aC := dP; have aJ := c4; have aI := dN; have aH := dA; have aK := c7; have aE := dM; have aF := dG; have aN := dO; have aM := dI; have aL := c3; have HB := bI
   clear dP c4 dN dA c7 dM dG dO dI c3 bI hb eH
   refine hK.out _ _ HS_ (fun hHeld => ?_)
   clear hK K
   refine no_ (N := some 69) ?_
   refine one_ (i := 1) (N := some 66) (fl 57 19) rfl rfl (y3l HT_.out (by kernel_rfl)) (by decide) (fun K hK => ?_)
   refine gs_ Try.func77 #[.string (⟨#[109]⟩ : ByteArray), .string nB_, .string (⟨#[112, 117, 116]⟩ : ByteArray)] ?_
   with_reducible refine (zqe.calls (⟨#[109]⟩ : ByteArray) nB_ (⟨#[112, 117, 116]⟩ : ByteArray) cK cL cE cI bX bY _ mM.out).mono ?_
   rintro e nF ⟨jL, iY, rfl, a3, cQ, hb⟩
   have HS_ := kp22_ hb hHeld
   refine ⟨_, rfl, ?_⟩
   replace aC := q_ (Kd.N_mono (Kd.N_told (Kd.N_told (Kd.N_old (nk_ aC.out) hb) (Kd.R_base a3)) (Kd.R_base cQ)) (fun _ h_ => h_.1))
   replace aH := q_ (Kd.N_mono (Kd.N_told (Kd.N_told (Kd.N_old (nk_ aH.out) hb) (Kd.R_base a3)) (Kd.R_base cQ)) (fun _ h_ => h_.1))
   replace aK := q_ (Kd.N_mono (Kd.N_told (Kd.N_told (Kd.N_old (nk_ aK.out) hb) (Kd.R_base a3)) (Kd.R_base cQ)) (fun _ h_ => h_.1))
   replace aE := q_ (Kd.V_mono (Kd.V_told (Kd.V_told (Kd.V_old (vk_ aE.out) hb) (Kd.R_base a3)) (Kd.R_base cQ)) (fun _ h_ => h_.1))
   replace aF := q_ (Kd.V_mono (Kd.V_told (Kd.V_told (Kd.V_old (vk_ aF.out) hb) (Kd.R_base a3)) (Kd.R_base cQ)) (fun _ h_ => h_.1))
   replace aN := q_ (Kd.R_below (rk_ aN.out) hb)
   have bT := q_ (Kd.R_lower (Kd.R_new' a3 (Kd.R_lt (rk_ aJ.out))) (y0j hb_))
   replace aJ := q_ (Kd.R_elder' (rk_ aJ.out) (Kd.R_base a3) hb)
   have bS := q_ (Kd.R_lower (Kd.R_new' cQ (Kd.R_lt (rk_ aI.out))) (y0j hb_))
   replace aI := q_ (Kd.R_elder' (rk_ aI.out) (Kd.R_base cQ) hb)
   replace aM := q_ (Kd.C_below (ck_ aM.out) hb)
   replace aL := q_ (Kd.C_below (ck_ aL.out) hb)
   replace HB := q_ (y0k hb_ hb)
   obtain ⟨fU, fA, g2⟩ := Kd.R_slice bT.out
   (first | subst g2 | (injection g2 with f1_ f2_ f3_; have cW := f1_.symm; have cV := f3_.symm; clear f1_ f2_ f3_; subst cW; subst cV))
   obtain ⟨fG, fS, g7⟩ := Kd.R_slice bS.out
   (first | subst g7 | (injection g7 with f1_ f2_ f3_; have cW := f1_.symm; have cV := f3_.symm; clear f1_ f2_ f3_; subst cW; subst cV))
   refine hK.out _ _ HS_ (fun hHeld => ?_)
   clear hK K
   refine no_ (N := some 66) ?_
   refine one_ (i := 2) (N := some 67) (fl 57 23) rfl rfl (y3l HT_.out (by kernel_rfl)) (by decide) (fun K hK => ?_)
   refine Kd.N_lit_step k25 _ 25 ?hg (N' := 67) ?hd (xs := ([(⟨cK, cL, cE, cI, bX, bY⟩ : S25)] : List (S25))) (inner := [.string cK, .string cL, .string cE, .int .i64 cI, .slice fU bX.length fA, .slice fG bY.length fS]) (ok := (fun k_ => some k_ ≠ (.slice (some aB) aA.length aZ : Value).ownBlock ∧ some k_ ≠ (.slice aW aU.length aY : Value).ownBlock ∧ some k_ ≠ (.slice aV aT.length aX : Value).ownBlock ∧ some k_ ≠ (.slice (some aD) aG.length aR : Value).ownBlock ∧ some k_ ≠ (.slice aP aO.length aQ : Value).ownBlock ∧ some k_ ≠ (a2 : Value).ownBlock)) (okp := (fun k_ => some k_ ≠ (.slice (some aB) aA.length aZ : Value).ownBlock ∧ some k_ ≠ (.slice aW aU.length aY : Value).ownBlock ∧ some k_ ≠ (.slice aV aT.length aX : Value).ownBlock ∧ some k_ ≠ (.slice (some aD) aG.length aR : Value).ownBlock ∧ some k_ ≠ (.slice aP aO.length aQ : Value).ownBlock ∧ some k_ ≠ (a2 : Value).ownBlock)) ?hr ?hp (fun _ hk => hk) ((show ∀ k_, nF.heap.size ≤ k_ → (fun k_ => some k_ ≠ (.slice (some aB) aA.length aZ : Value).ownBlock ∧ some k_ ≠ (.slice aW aU.length aY : Value).ownBlock ∧ some k_ ≠ (.slice aV aT.length aX : Value).ownBlock ∧ some k_ ≠ (.slice (some aD) aG.length aR : Value).ownBlock ∧ some k_ ≠ (.slice aP aO.length aQ : Value).ownBlock ∧ some k_ ≠ (a2 : Value).ownBlock) k_ from fun k_ hk => ⟨Kd.fresh' (Kd.N_lt (nk_ aC.out)) k_ hk, Kd.fresh' (Kd.R_lt (rk_ aJ.out)) k_ hk, Kd.fresh' (Kd.R_lt (rk_ aI.out)) k_ hk, Kd.fresh' (Kd.N_lt (nk_ aH.out)) k_ hk, Kd.fresh' (Kd.N_lt (nk_ aK.out)) k_ hk, Kd.fresh' (Kd.R_lt (rk_ aN.out)) k_ hk⟩) _ (Nat.le_refl _)) (Below.refl _ _) (Nat.le_refl _) (by simp) ?_; (case hd => rfl); (case hg => rfl); (case hr => first | (go_simp; done) | (go_simp; rfl)); (case hp => exact (Reps.c6 (show Kd.FK k25 _ _ (⟨cK, cL, cE, cI, bX, bY⟩ : S25) [.string cK, .string cL, .string cE, .int .i64 cI, .slice fU bX.length fA, .slice fG bY.length fS] from (y2s _ _ (⟨cK, cL, cE, cI, bX, bY⟩ : S25) (Kd.R_reads' (Kd.R_mono (ok' := (fun k_ => some k_ ≠ (.slice (some aB) aA.length aZ : Value).ownBlock ∧ some k_ ≠ (.slice aW aU.length aY : Value).ownBlock ∧ some k_ ≠ (.slice aV aT.length aX : Value).ownBlock ∧ some k_ ≠ (.slice (some aD) aG.length aR : Value).ownBlock ∧ some k_ ≠ (.slice aP aO.length aQ : Value).ownBlock ∧ some k_ ≠ (a2 : Value).ownBlock)) (Kd.R_apart' (Kd.R_apart' (Kd.R_apart' (Kd.R_apart' (Kd.R_apart' (bT.out) (Kd.N_typed aC.out) (by decide)) (Kd.R_typed aI.out) (by decide)) (Kd.N_typed aH.out) (by decide)) (Kd.N_typed aK.out) (by decide)) (Kd.R_typed aN.out) (by decide)) (fun k_ hk => ⟨hk.1.1.1.1.2, ⟨hk.1.1.1.1.1.2, ⟨hk.1.1.1.2, ⟨hk.1.1.2, ⟨hk.1.2, hk.2⟩⟩⟩⟩⟩))).2.1 (Kd.R_F (Kd.R_mono (ok' := (fun k_ => some k_ ≠ (.slice (some aB) aA.length aZ : Value).ownBlock ∧ some k_ ≠ (.slice aW aU.length aY : Value).ownBlock ∧ some k_ ≠ (.slice aV aT.length aX : Value).ownBlock ∧ some k_ ≠ (.slice (some aD) aG.length aR : Value).ownBlock ∧ some k_ ≠ (.slice aP aO.length aQ : Value).ownBlock ∧ some k_ ≠ (a2 : Value).ownBlock)) (Kd.R_apart' (Kd.R_apart' (Kd.R_apart' (Kd.R_apart' (Kd.R_apart' (bT.out) (Kd.N_typed aC.out) (by decide)) (Kd.R_typed aI.out) (by decide)) (Kd.N_typed aH.out) (by decide)) (Kd.N_typed aK.out) (by decide)) (Kd.R_typed aN.out) (by decide)) (fun k_ hk => ⟨hk.1.1.1.1.2, ⟨hk.1.1.1.1.1.2, ⟨hk.1.1.1.2, ⟨hk.1.1.2, ⟨hk.1.2, hk.2⟩⟩⟩⟩⟩))) (Kd.R_reads' (Kd.R_mono (ok' := (fun k_ => some k_ ≠ (.slice (some aB) aA.length aZ : Value).ownBlock ∧ some k_ ≠ (.slice aW aU.length aY : Value).ownBlock ∧ some k_ ≠ (.slice aV aT.length aX : Value).ownBlock ∧ some k_ ≠ (.slice (some aD) aG.length aR : Value).ownBlock ∧ some k_ ≠ (.slice aP aO.length aQ : Value).ownBlock ∧ some k_ ≠ (a2 : Value).ownBlock)) (Kd.R_apart' (Kd.R_apart' (Kd.R_apart' (Kd.R_apart' (Kd.R_apart' (bS.out) (Kd.N_typed aC.out) (by decide)) (Kd.R_typed aJ.out) (by decide)) (Kd.N_typed aH.out) (by decide)) (Kd.N_typed aK.out) (by decide)) (Kd.R_typed aN.out) (by decide)) (fun k_ hk => ⟨hk.1.1.1.1.2, ⟨hk.1.1.1.2, ⟨hk.1.1.1.1.1.2, ⟨hk.1.1.2, ⟨hk.1.2, hk.2⟩⟩⟩⟩⟩))).2.1 (Kd.R_F (Kd.R_mono (ok' := (fun k_ => some k_ ≠ (.slice (some aB) aA.length aZ : Value).ownBlock ∧ some k_ ≠ (.slice aW aU.length aY : Value).ownBlock ∧ some k_ ≠ (.slice aV aT.length aX : Value).ownBlock ∧ some k_ ≠ (.slice (some aD) aG.length aR : Value).ownBlock ∧ some k_ ≠ (.slice aP aO.length aQ : Value).ownBlock ∧ some k_ ≠ (a2 : Value).ownBlock)) (Kd.R_apart' (Kd.R_apart' (Kd.R_apart' (Kd.R_apart' (Kd.R_apart' (bS.out) (Kd.N_typed aC.out) (by decide)) (Kd.R_typed aJ.out) (by decide)) (Kd.N_typed aH.out) (by decide)) (Kd.N_typed aK.out) (by decide)) (Kd.R_typed aN.out) (by decide)) (fun k_ hk => ⟨hk.1.1.1.1.2, ⟨hk.1.1.1.2, ⟨hk.1.1.1.1.1.2, ⟨hk.1.1.2, ⟨hk.1.2, hk.2⟩⟩⟩⟩⟩))))) (Reps.none _ _)))
   intro a1 mC a9 hb hg_ hnew_
   have HS_ := kp22_ hb hHeld
   clear hg_ hnew_
   (first | rw [← eK.out] at a9 | (simp only [Int.reduceToNat] at a9; rw [← eK.out] at a9))
   have dP := q_ (by have h_ := (Kd.N_elder' (nk_ aC.out) (Kd.N_base a9) hb); exact Kd.N_mono (ok' := (fun k_ => some k_ ≠ (.slice aW aU.length aY : Value).ownBlock ∧ some k_ ≠ (.slice aV aT.length aX : Value).ownBlock ∧ some k_ ≠ (.slice (some aD) aG.length aR : Value).ownBlock ∧ some k_ ≠ (.slice aP aO.length aQ : Value).ownBlock ∧ some k_ ≠ (a2 : Value).ownBlock ∧ some k_ ≠ (a1 : Value).ownBlock)) h_ (fun k_ hk => ⟨hk.1.1.1.1.1.1.1.2, ⟨hk.1.1.1.1.1.1.2, ⟨hk.1.1.1.1.1.2, ⟨hk.1.1.1.1.2, ⟨hk.1.1.1.2, hk.2⟩⟩⟩⟩⟩))
   have c4 := q_ (by have h_ := (Kd.R_below (rk_ aJ.out) hb); exact Kd.R_mono (ok' := (fun _ => True)) h_ (fun k_ hk => trivial))
   have dN := q_ (by have h_ := (Kd.R_below (rk_ aI.out) hb); exact Kd.R_mono (ok' := (fun _ => True)) h_ (fun k_ hk => trivial))
   have dA := q_ (by have h_ := (Kd.N_elder' (nk_ aH.out) (Kd.N_base a9) hb); exact Kd.N_mono (ok' := (fun k_ => some k_ ≠ (.slice aP aO.length aQ : Value).ownBlock ∧ some k_ ≠ (a2 : Value).ownBlock ∧ some k_ ≠ (a1 : Value).ownBlock)) h_ (fun k_ hk => ⟨hk.1.1.1.1.2, ⟨hk.1.1.1.2, hk.2⟩⟩))
   have c7 := q_ (by have h_ := (Kd.N_elder' (nk_ aK.out) (Kd.N_base a9) hb); exact Kd.N_mono (ok' := (fun k_ => some k_ ≠ (.slice (some aB) aA.length aZ : Value).ownBlock ∧ some k_ ≠ (.slice aW aU.length aY : Value).ownBlock ∧ some k_ ≠ (.slice aV aT.length aX : Value).ownBlock ∧ some k_ ≠ (.slice (some aD) aG.length aR : Value).ownBlock ∧ some k_ ≠ (a2 : Value).ownBlock ∧ some k_ ≠ (a1 : Value).ownBlock)) h_ (fun k_ hk => ⟨hk.1.1.1.1.1, ⟨hk.1.1.1.1.2.1, ⟨hk.1.1.1.1.2.2.1, ⟨hk.1.1.1.1.2.2.2, ⟨hk.1.1.1.2, hk.2⟩⟩⟩⟩⟩))
   have dM := q_ (by have h_ := (Kd.V_elder' (vk_ aE.out) (Kd.N_base a9) hb); exact Kd.V_mono (ok' := (fun k_ => some k_ ≠ (.slice (some aD) aG.length aR : Value).ownBlock ∧ some k_ ≠ (.slice aP aO.length aQ : Value).ownBlock ∧ some k_ ≠ (a2 : Value).ownBlock ∧ some k_ ≠ (a1 : Value).ownBlock)) h_ (fun k_ hk => ⟨hk.1.1.1.1.2, ⟨hk.1.1.1.1.1.2, ⟨hk.1.1.1.2, hk.2⟩⟩⟩))
   have dG := q_ (by have h_ := (Kd.V_elder' (vk_ aF.out) (Kd.N_base a9) hb); exact Kd.V_mono (ok' := (fun k_ => some k_ ≠ (.slice (some aD) aG.length aR : Value).ownBlock ∧ some k_ ≠ (.slice aP aO.length aQ : Value).ownBlock ∧ some k_ ≠ (a2 : Value).ownBlock ∧ some k_ ≠ (a1 : Value).ownBlock)) h_ (fun k_ hk => ⟨hk.1.1.1.1.2, ⟨hk.1.1.1.1.1.2, ⟨hk.1.1.1.2, hk.2⟩⟩⟩))
   have dO := q_ (Kd.R_below (rk_ aN.out) hb)
   have dI := q_ (Kd.N_lower a9 (y0j hb_))
   have c3 := q_ (Kd.C_below (ck_ aM.out) hb)
   have bI := q_ (Kd.C_below (ck_ aL.out) hb)
   have b5 := q_ (y0k hb_ hb)
   clear aC aJ aI aH aK aE aF aN aM aL HB bT bS
   have aC := dP; have aJ := c4; have aI := dN; have aH := dA; have aK := c7; have aE := dM; have aF := dG; have aN := dO; have aS := dI; have aM := c3; have aL := bI; have HB := b5
   clear dP c4 dN dA c7 dM dG dO dI c3 bI b5 hb a9
   obtain ⟨d8, eA, e4⟩ := Kd.N_slice aS.out
   (first | subst e4 | (injection e4 with f1_ f2_ f3_; have cW := f1_.symm; have cV := f3_.symm; clear f1_ f2_ f3_; subst cW; subst cV))
   refine hK.out _ _ HS_ (fun hHeld => ?_)
   clear hK K
   refine no_ (N := some 67) ?_
   refine one_ (i := 3) (N := some 68) (fl 57 31) rfl rfl (y3l HT_.out (by kernel_rfl)) (by decide) (fun K hK => ?_)
   refine gs_ Try.func43 #[.slice (some aB) aA.length aZ, .slice d8 cB.length eA] ?_
   with_reducible refine (zq1e.calls k (fun k_ => (some k_ ≠ (.slice aW aU.length aY : Value).ownBlock ∧ (some k_ ≠ (.slice aV aT.length aX : Value).ownBlock ∧ (some k_ ≠ (.slice (some aD) aG.length aR : Value).ownBlock ∧ (some k_ ≠ (.slice aP aO.length aQ : Value).ownBlock ∧ (some k_ ≠ (a2 : Value).ownBlock ∧ some k_ ≠ (.slice d8 cB.length eA : Value).ownBlock)))))) _ _ aA (fun k_ => (some k_ ≠ (.slice (some aB) aA.length aZ : Value).ownBlock ∧ (some k_ ≠ (.slice aW aU.length aY : Value).ownBlock ∧ (some k_ ≠ (.slice aV aT.length aX : Value).ownBlock ∧ (some k_ ≠ (.slice (some aD) aG.length aR : Value).ownBlock ∧ (some k_ ≠ (.slice aP aO.length aQ : Value).ownBlock ∧ some k_ ≠ (a2 : Value).ownBlock)))))) _ _ cB a4 _ ?side1 ?side2 kN.out).mono ?_
   (case side1 => exact Kd.N_V (aC.out))
   (case side2 => exact Kd.N_V (aS.out))
   rintro e lQ ⟨cX, rfl, a3, hb⟩
   have HS_ := kp22_ hb hHeld
   refine ⟨_, rfl, ?_⟩
   replace aC := q_ (Kd.N_elder' (nk_ aC.out) (Kd.R_base a3) hb)
   replace aJ := q_ (Kd.R_below (rk_ aJ.out) hb)
   replace aI := q_ (Kd.R_below (rk_ aI.out) hb)
   replace aH := q_ (Kd.N_elder' (nk_ aH.out) (Kd.R_base a3) hb)
   replace aK := q_ (Kd.N_elder' (nk_ aK.out) (Kd.R_base a3) hb)
   replace aE := q_ (Kd.V_elder' (vk_ aE.out) (Kd.R_base a3) hb)
   replace aF := q_ (Kd.V_elder' (vk_ aF.out) (Kd.R_base a3) hb)
   replace aS := q_ (Kd.N_elder' (nk_ aS.out) (Kd.R_base a3) hb)
   have a0 := q_ (Kd.R_lower (Kd.R_new' (Kd.R_mono (ok' := fun k_ => True) a3 (fun _ hk_ => trivial)) (Kd.R_lt (rk_ aN.out))) (y0j hb_))
   replace aN := q_ (Kd.R_elder' (rk_ aN.out) (Kd.R_base a3) hb)
   replace aM := q_ (Kd.C_below (ck_ aM.out) hb)
   replace aL := q_ (Kd.C_below (ck_ aL.out) hb)
   replace HB := q_ (y0k hb_ hb)
   refine hK.out _ _ HS_ (fun hHeld => ?_)
   clear hK K
   refine no_ (N := some 68) ?_
   exact norm_ (by simp only [putAll, Act.put, List.setIfInBounds_toArray, List.set_cons_zero, List.set_cons_succ]) (hCont (.slice fU bX.length fA, .slice fG bY.length fS, .slice d8 cB.length eA, cX, a2) _ ⟨hHeld, (vm_ aE.out (fun _ hk => ⟨hk.1.1, ⟨hk.1.2.1, ⟨hk.1.2.2.2, ⟨hk.2, hk.1.2.2.1⟩⟩⟩⟩)), (vm_ aF.out (fun _ hk => ⟨hk.1.1, ⟨hk.1.2.1, ⟨hk.1.2.2.2, ⟨hk.2, hk.1.2.2.1⟩⟩⟩⟩)), (nm_ aC.out (fun _ hk => ⟨hk.1.1, ⟨hk.1.2.1, ⟨hk.1.2.2.1, ⟨hk.1.2.2.2.1, ⟨hk.1.2.2.2.2.2, ⟨hk.2, hk.1.2.2.2.2.1⟩⟩⟩⟩⟩⟩)), (rk_ aJ.out), (rk_ aI.out), (nm_ aH.out (fun _ hk => ⟨hk.1.1, ⟨hk.1.2.2, ⟨hk.2, hk.1.2.1⟩⟩⟩)), (nm_ aK.out (fun _ hk => ⟨hk.1.1, ⟨hk.1.2.1, ⟨hk.1.2.2.1, ⟨hk.1.2.2.2.1, ⟨hk.1.2.2.2.2.2, ⟨hk.2, hk.1.2.2.2.2.1⟩⟩⟩⟩⟩⟩)), (nm_ aS.out (fun _ hk => ⟨hk.1.1, ⟨hk.1.2.1, ⟨hk.1.2.2.1, ⟨hk.1.2.2.2.1, ⟨hk.1.2.2.2.2.1, ⟨hk.2, hk.1.2.2.2.2.2⟩⟩⟩⟩⟩⟩)), (rm_ a0.out (fun _ hk => hk.2)), (rm_ aN.out (fun _ hk => hk.2)), hb_⟩)
 rintro ⟨jL, iY, a1, cX, a2⟩ cU ⟨hS_, mJ, lZ, l7, mG, lG, l5, l8, l2, l6, l9, j1⟩
 have dP : Aside0 (Kd.V k62 62 cU w.heap.size (fun k_ => some k_ ≠ (.slice (some aD) aG.length aR : Value).ownBlock ∧ some k_ ≠ (.slice aP aO.length aQ : Value).ownBlock ∧ some k_ ≠ (a1 : Value).ownBlock ∧ some k_ ≠ (cX : Value).ownBlock ∧ some k_ ≠ (a2 : Value).ownBlock) (.slice g6 ((y49 aG 1).f4).length g9) ((y49 aG 1).f4)) := ⟨mJ⟩
 have c4 : Aside0 (Kd.V k43 43 cU w.heap.size (fun k_ => some k_ ≠ (.slice (some aD) aG.length aR : Value).ownBlock ∧ some k_ ≠ (.slice aP aO.length aQ : Value).ownBlock ∧ some k_ ≠ (a1 : Value).ownBlock ∧ some k_ ≠ (cX : Value).ownBlock ∧ some k_ ≠ (a2 : Value).ownBlock) (.slice hA ((y49 aG 1).f5).length hB) ((y49 aG 1).f5)) := ⟨lZ⟩
 have dN : Aside0 (Kd.N k25 25 cU w.heap.size (fun k_ => some k_ ≠ (.slice aW aU.length aY : Value).ownBlock ∧ some k_ ≠ (.slice aV aT.length aX : Value).ownBlock ∧ some k_ ≠ (.slice (some aD) aG.length aR : Value).ownBlock ∧ some k_ ≠ (.slice aP aO.length aQ : Value).ownBlock ∧ some k_ ≠ (a1 : Value).ownBlock ∧ some k_ ≠ (cX : Value).ownBlock ∧ some k_ ≠ (a2 : Value).ownBlock) (.slice (some aB) aA.length aZ) aA) := ⟨l7⟩
 have dA : Aside0 (Kd.R k62 62 cU w.heap.size (fun _ => True) (.slice aW aU.length aY) aU) := ⟨mG⟩
 have c7 : Aside0 (Kd.R k43 43 cU w.heap.size (fun _ => True) (.slice aV aT.length aX) aT) := ⟨lG⟩
 have dM : Aside0 (Kd.N k25 25 cU w.heap.size (fun k_ => some k_ ≠ (.slice aP aO.length aQ : Value).ownBlock ∧ some k_ ≠ (a1 : Value).ownBlock ∧ some k_ ≠ (cX : Value).ownBlock ∧ some k_ ≠ (a2 : Value).ownBlock) (.slice (some aD) aG.length aR) aG) := ⟨l5⟩
 have dG : Aside0 (Kd.N k25 25 cU w.heap.size (fun k_ => some k_ ≠ (.slice (some aB) aA.length aZ : Value).ownBlock ∧ some k_ ≠ (.slice aW aU.length aY : Value).ownBlock ∧ some k_ ≠ (.slice aV aT.length aX : Value).ownBlock ∧ some k_ ≠ (.slice (some aD) aG.length aR : Value).ownBlock ∧ some k_ ≠ (a1 : Value).ownBlock ∧ some k_ ≠ (cX : Value).ownBlock ∧ some k_ ≠ (a2 : Value).ownBlock) (.slice aP aO.length aQ) aO) := ⟨l8⟩
 have dO : Aside0 (Kd.N k25 25 cU w.heap.size (fun k_ => some k_ ≠ (.slice (some aB) aA.length aZ : Value).ownBlock ∧ some k_ ≠ (.slice aW aU.length aY : Value).ownBlock ∧ some k_ ≠ (.slice aV aT.length aX : Value).ownBlock ∧ some k_ ≠ (.slice (some aD) aG.length aR : Value).ownBlock ∧ some k_ ≠ (.slice aP aO.length aQ : Value).ownBlock ∧ some k_ ≠ (cX : Value).ownBlock ∧ some k_ ≠ (a2 : Value).ownBlock) a1 cB) := ⟨l2⟩
 have dI : Aside0 (Kd.R (Kd.int .i64) 3 cU w.heap.size (fun k_ => some k_ ≠ (a2 : Value).ownBlock) cX a4) := ⟨l6⟩
 have c3 : Aside0 (Kd.R (Kd.int .i64) 3 cU w.heap.size (fun k_ => some k_ ≠ (cX : Value).ownBlock) a2 bH) := ⟨l9⟩
 have bI : Aside0 (Below w.heap.size w cU) := ⟨j1⟩
 clear aC aJ aI aH aK aE aF aM aL HB mJ lZ l7 mG lG l5 l8 l2 l6 l9 j1
 have aE := dP; have aF := c4; have aC := dN; have aJ := dA; have aI := c7; have aH := dM; have aK := dG; have aS := dO; have a0 := dI; have aN := c3; have HB := bI
 clear dP c4 dN dA c7 dM dG dO dI c3 bI
 have hHeld : cU.cell? ⟨aD.block, aD.off + 6, none⟩ = some (.string ((y49 aG 1).f0)) ∧ cU.cell? ⟨aD.block, aD.off + 6 + 1, none⟩ = some (.string ((y49 aG 1).f1)) ∧ cU.cell? ⟨aD.block, aD.off + 6 + 2, none⟩ = some (.string ((y49 aG 1).f2)) ∧ cU.cell? ⟨aD.block, aD.off + 6 + 3, none⟩ = some (.int .i64 ((y49 aG 1).f3)) ∧ cU.cell? ⟨aD.block, aD.off + 6 + 4, none⟩ = some (.slice (some a6) ((y49 aG 1).f4).length gG) ∧ cU.cell? ⟨aD.block, aD.off + 6 + 5, none⟩ = some (.slice fN ((y49 aG 1).f5).length f9) ∧ cU.cell? a6 = some (.string ((y4b ((y49 aG 1).f4) 0).f0)) ∧ cU.cell? ⟨a6.block, a6.off + 1, none⟩ = some (.int .i64 ((y4b ((y49 aG 1).f4) 0).f1)) ∧ cU.cell? ⟨a6.block, a6.off + 2, none⟩ = some (.int .i64 ((y4b ((y49 aG 1).f4) 0).f2)) ∧ cU.cell? ⟨a6.block, a6.off + 3, none⟩ = some (.bool ((y4b ((y49 aG 1).f4) 0).f3)) ∧ cU.cell? ⟨aB.block, aB.off + 6, none⟩ = some (.string ((y49 aA 1).f0)) ∧ cU.cell? ⟨aB.block, aB.off + 6 + 1, none⟩ = some (.string ((y49 aA 1).f1)) ∧ cU.cell? ⟨aB.block, aB.off + 6 + 2, none⟩ = some (.string ((y49 aA 1).f2)) ∧ cU.cell? ⟨aB.block, aB.off + 6 + 3, none⟩ = some (.int .i64 ((y49 aA 1).f3)) ∧ cU.cell? ⟨aB.block, aB.off + 6 + 4, none⟩ = some (.slice b2 ((y49 aA 1).f4).length b3) ∧ cU.cell? ⟨aB.block, aB.off + 6 + 5, none⟩ = some (.slice b1 ((y49 aA 1).f5).length b0) ∧ cU.cell? ⟨aB.block, aB.off + 6, none⟩ = some (.string ((y49 aA 1).f0)) ∧ cU.cell? ⟨aB.block, aB.off + 6 + 1, none⟩ = some (.string ((y49 aA 1).f1)) ∧ cU.cell? ⟨aB.block, aB.off + 6 + 2, none⟩ = some (.string ((y49 aA 1).f2)) ∧ cU.cell? ⟨aB.block, aB.off + 6 + 3, none⟩ = some (.int .i64 ((y49 aA 1).f3)) ∧ cU.cell? ⟨aB.block, aB.off + 6 + 4, none⟩ = some (.slice b2 ((y49 aA 1).f4).length b3) ∧ cU.cell? ⟨aB.block, aB.off + 6 + 5, none⟩ = some (.slice b1 ((y49 aA 1).f5).length b0) := hS_
 obtain ⟨bO, bP, j4⟩ := Kd.R_slice a0.out
 (first | subst j4 | (injection j4 with f1_ f2_ f3_; have cW := f1_.symm; have cV := f3_.symm; clear f1_ f2_ f3_; subst cW; subst cV))
 obtain ⟨bM, bN, jS⟩ := Kd.R_slice aN.out
 (first | subst jS | (injection jS with f1_ f2_ f3_; have cW := f1_.symm; have cV := f3_.symm; clear f1_ f2_ f3_; subst cW; subst cV))
 refine norm_ (a' := ?_) ?_ ?_
 rotate_left
 ·simp only [putAll, Act.put, List.setIfInBounds_toArray, List.set_cons_zero, List.set_cons_succ]
  rfl
 refine one_ (i := 5) (N := some 70) (fl 57 63) rfl rfl (y3l HT_.out (by kernel_rfl)) (by decide) (fun K hK => ?_)
 refine gs_ Try.func42 #[.slice bO a4.length bP, .slice bM bH.length bN] ?_
 with_reducible refine (zqw.calls k _ _ a4 _ _ bH true _ ?side1 ?side2 ?side3 ?side4 mR.out).mono ?_
 (case side1 => exact ck_ (Kd.R_reads' a0.out).2.2)
 (case side2 => exact (Kd.R_reads' a0.out).2.1)
 (case side3 => exact ck_ (Kd.R_reads' aN.out).2.2)
 (case side4 => exact (Kd.R_reads' aN.out).2.1)
 rintro e w' ⟨rfl, ⟨nd, rfl⟩⟩
 refine ⟨_, rfl, ?_⟩
 refine hK.out _ _ ⟨hHeld.1, hHeld.2.1, hHeld.2.2.1, hHeld.2.2.2.1, hHeld.2.2.2.2.1, hHeld.2.2.2.2.2.1, hHeld.2.2.2.2.2.2.1, hHeld.2.2.2.2.2.2.2.1, hHeld.2.2.2.2.2.2.2.2.1, hHeld.2.2.2.2.2.2.2.2.2.1, hHeld.2.2.2.2.2.2.2.2.2.2.1, hHeld.2.2.2.2.2.2.2.2.2.2.2.1, hHeld.2.2.2.2.2.2.2.2.2.2.2.2.1, hHeld.2.2.2.2.2.2.2.2.2.2.2.2.2.1, hHeld.2.2.2.2.2.2.2.2.2.2.2.2.2.2.1, hHeld.2.2.2.2.2.2.2.2.2.2.2.2.2.2.2.1, hHeld.2.2.2.2.2.2.2.2.2.2.2.2.2.2.2.2.1, hHeld.2.2.2.2.2.2.2.2.2.2.2.2.2.2.2.2.2.1, hHeld.2.2.2.2.2.2.2.2.2.2.2.2.2.2.2.2.2.2.1, hHeld.2.2.2.2.2.2.2.2.2.2.2.2.2.2.2.2.2.2.2.1, hHeld.2.2.2.2.2.2.2.2.2.2.2.2.2.2.2.2.2.2.2.2.1, hHeld.2.2.2.2.2.2.2.2.2.2.2.2.2.2.2.2.2.2.2.2.2⟩ (fun hHeld => ?_)
 clear hK K
 refine no_ (N := some 70) ?_
 refine pv_ 6 (some 71) (fl 57 127) ?_
 refine pv_ 7 (some 72) (fl 57 255) ?_
 refine one_ (i := 8) (N := some 73) (fl 57 511) rfl rfl (y3l HT_.out (by kernel_rfl)) (by decide) (fun K hK => ?_)
 refine gs_ Try.func77 #[.string (⟨#[109]⟩ : ByteArray), .string nB_, .string nB_] ?_
 with_reducible refine (zqe.calls (⟨#[109]⟩ : ByteArray) nB_ nB_ fM fJ fY fI fW fZ _ nE.out).mono ?_
 rintro e mO ⟨m7, nA, rfl, a3, cQ, hb⟩
 have HS_ := kp22_ hb hHeld
 refine ⟨_, rfl, ?_⟩
 replace aC := q_ (Kd.N_mono (Kd.N_told (Kd.N_told (Kd.N_old (nk_ aC.out) hb) (Kd.R_base a3)) (Kd.R_base cQ)) (fun _ h_ => h_.1))
 replace aH := q_ (Kd.N_mono (Kd.N_told (Kd.N_told (Kd.N_old (nk_ aH.out) hb) (Kd.R_base a3)) (Kd.R_base cQ)) (fun _ h_ => h_.1))
 replace aK := q_ (Kd.N_mono (Kd.N_told (Kd.N_told (Kd.N_old (nk_ aK.out) hb) (Kd.R_base a3)) (Kd.R_base cQ)) (fun _ h_ => h_.1))
 replace aE := q_ (Kd.V_mono (Kd.V_told (Kd.V_told (Kd.V_old (vk_ aE.out) hb) (Kd.R_base a3)) (Kd.R_base cQ)) (fun _ h_ => h_.1))
 replace aF := q_ (Kd.V_mono (Kd.V_told (Kd.V_told (Kd.V_old (vk_ aF.out) hb) (Kd.R_base a3)) (Kd.R_base cQ)) (fun _ h_ => h_.1))
 replace aS := q_ (Kd.N_mono (Kd.N_told (Kd.N_told (Kd.N_old (nk_ aS.out) hb) (Kd.R_base a3)) (Kd.R_base cQ)) (fun _ h_ => h_.1))
 replace a0 := q_ (Kd.R_below (rk_ a0.out) hb)
 replace aN := q_ (Kd.R_below (rk_ aN.out) hb)
 have gY := q_ (Kd.R_lower (Kd.R_new' a3 (Kd.R_lt (rk_ aJ.out))) (y0j hb_))
 replace aJ := q_ (Kd.R_elder' (rk_ aJ.out) (Kd.R_base a3) hb)
 have gK := q_ (Kd.R_lower (Kd.R_new' cQ (Kd.R_lt (rk_ aI.out))) (y0j hb_))
 replace aI := q_ (Kd.R_elder' (rk_ aI.out) (Kd.R_base cQ) hb)
 replace HB := q_ (y0k hb_ hb)
 obtain ⟨i4, jW, jB⟩ := Kd.R_slice gY.out
 (first | subst jB | (injection jB with f1_ f2_ f3_; have cW := f1_.symm; have cV := f3_.symm; clear f1_ f2_ f3_; subst cW; subst cV))
 obtain ⟨iL, jT, jK⟩ := Kd.R_slice gK.out
 (first | subst jK | (injection jK with f1_ f2_ f3_; have cW := f1_.symm; have cV := f3_.symm; clear f1_ f2_ f3_; subst cW; subst cV))
 refine hK.out _ _ HS_ (fun hHeld => ?_)
 clear hK K
 refine no_ (N := some 73) ?_
 refine one_ (i := 9) (N := some 74) (fl 57 1023) rfl rfl (y3l HT_.out (by kernel_rfl)) (by decide) (fun K hK => ?_)
 refine Kd.N_lit_step k25 _ 25 ?hg (N' := 74) ?hd (xs := ([(⟨fM, fJ, fY, fI, fW, fZ⟩ : S25)] : List (S25))) (inner := [.string fM, .string fJ, .string fY, .int .i64 fI, .slice i4 fW.length jW, .slice iL fZ.length jT]) (ok := (fun k_ => some k_ ≠ (.slice (some aB) aA.length aZ : Value).ownBlock ∧ some k_ ≠ (.slice aW aU.length aY : Value).ownBlock ∧ some k_ ≠ (.slice aV aT.length aX : Value).ownBlock ∧ some k_ ≠ (.slice (some aD) aG.length aR : Value).ownBlock ∧ some k_ ≠ (.slice aP aO.length aQ : Value).ownBlock ∧ some k_ ≠ (a1 : Value).ownBlock ∧ some k_ ≠ (.slice bO a4.length bP : Value).ownBlock ∧ some k_ ≠ (.slice bM bH.length bN : Value).ownBlock)) (okp := (fun k_ => some k_ ≠ (.slice (some aB) aA.length aZ : Value).ownBlock ∧ some k_ ≠ (.slice aW aU.length aY : Value).ownBlock ∧ some k_ ≠ (.slice aV aT.length aX : Value).ownBlock ∧ some k_ ≠ (.slice (some aD) aG.length aR : Value).ownBlock ∧ some k_ ≠ (.slice aP aO.length aQ : Value).ownBlock ∧ some k_ ≠ (a1 : Value).ownBlock ∧ some k_ ≠ (.slice bO a4.length bP : Value).ownBlock ∧ some k_ ≠ (.slice bM bH.length bN : Value).ownBlock)) ?hr ?hp (fun _ hk => hk) ((show ∀ k_, mO.heap.size ≤ k_ → (fun k_ => some k_ ≠ (.slice (some aB) aA.length aZ : Value).ownBlock ∧ some k_ ≠ (.slice aW aU.length aY : Value).ownBlock ∧ some k_ ≠ (.slice aV aT.length aX : Value).ownBlock ∧ some k_ ≠ (.slice (some aD) aG.length aR : Value).ownBlock ∧ some k_ ≠ (.slice aP aO.length aQ : Value).ownBlock ∧ some k_ ≠ (a1 : Value).ownBlock ∧ some k_ ≠ (.slice bO a4.length bP : Value).ownBlock ∧ some k_ ≠ (.slice bM bH.length bN : Value).ownBlock) k_ from fun k_ hk => ⟨Kd.fresh' (Kd.N_lt (nk_ aC.out)) k_ hk, Kd.fresh' (Kd.R_lt (rk_ aJ.out)) k_ hk, Kd.fresh' (Kd.R_lt (rk_ aI.out)) k_ hk, Kd.fresh' (Kd.N_lt (nk_ aH.out)) k_ hk, Kd.fresh' (Kd.N_lt (nk_ aK.out)) k_ hk, Kd.fresh' (Kd.N_lt (nk_ aS.out)) k_ hk, Kd.fresh' (Kd.R_lt (rk_ a0.out)) k_ hk, Kd.fresh' (Kd.R_lt (rk_ aN.out)) k_ hk⟩) _ (Nat.le_refl _)) (Below.refl _ _) (Nat.le_refl _) (by simp) ?_; (case hd => rfl); (case hg => rfl); (case hr => first | (go_simp; done) | (go_simp; rfl)); (case hp => exact (Reps.c6 (show Kd.FK k25 _ _ (⟨fM, fJ, fY, fI, fW, fZ⟩ : S25) [.string fM, .string fJ, .string fY, .int .i64 fI, .slice i4 fW.length jW, .slice iL fZ.length jT] from (y2s _ _ (⟨fM, fJ, fY, fI, fW, fZ⟩ : S25) (Kd.R_reads' (Kd.R_mono (ok' := (fun k_ => some k_ ≠ (.slice (some aB) aA.length aZ : Value).ownBlock ∧ some k_ ≠ (.slice aW aU.length aY : Value).ownBlock ∧ some k_ ≠ (.slice aV aT.length aX : Value).ownBlock ∧ some k_ ≠ (.slice (some aD) aG.length aR : Value).ownBlock ∧ some k_ ≠ (.slice aP aO.length aQ : Value).ownBlock ∧ some k_ ≠ (a1 : Value).ownBlock ∧ some k_ ≠ (.slice bO a4.length bP : Value).ownBlock ∧ some k_ ≠ (.slice bM bH.length bN : Value).ownBlock)) (Kd.R_apart' (Kd.R_apart' (Kd.R_apart' (Kd.R_apart' (Kd.R_apart' (Kd.R_apart' (Kd.R_apart' (gY.out) (Kd.N_typed aC.out) (by decide)) (Kd.R_typed aI.out) (by decide)) (Kd.N_typed aH.out) (by decide)) (Kd.N_typed aK.out) (by decide)) (Kd.N_typed aS.out) (by decide)) (Kd.R_typed a0.out) (by decide)) (Kd.R_typed aN.out) (by decide)) (fun k_ hk => ⟨hk.1.1.1.1.1.1.2, ⟨hk.1.1.1.1.1.1.1.2, ⟨hk.1.1.1.1.1.2, ⟨hk.1.1.1.1.2, ⟨hk.1.1.1.2, ⟨hk.1.1.2, ⟨hk.1.2, hk.2⟩⟩⟩⟩⟩⟩⟩))).2.1 (Kd.R_F (Kd.R_mono (ok' := (fun k_ => some k_ ≠ (.slice (some aB) aA.length aZ : Value).ownBlock ∧ some k_ ≠ (.slice aW aU.length aY : Value).ownBlock ∧ some k_ ≠ (.slice aV aT.length aX : Value).ownBlock ∧ some k_ ≠ (.slice (some aD) aG.length aR : Value).ownBlock ∧ some k_ ≠ (.slice aP aO.length aQ : Value).ownBlock ∧ some k_ ≠ (a1 : Value).ownBlock ∧ some k_ ≠ (.slice bO a4.length bP : Value).ownBlock ∧ some k_ ≠ (.slice bM bH.length bN : Value).ownBlock)) (Kd.R_apart' (Kd.R_apart' (Kd.R_apart' (Kd.R_apart' (Kd.R_apart' (Kd.R_apart' (Kd.R_apart' (gY.out) (Kd.N_typed aC.out) (by decide)) (Kd.R_typed aI.out) (by decide)) (Kd.N_typed aH.out) (by decide)) (Kd.N_typed aK.out) (by decide)) (Kd.N_typed aS.out) (by decide)) (Kd.R_typed a0.out) (by decide)) (Kd.R_typed aN.out) (by decide)) (fun k_ hk => ⟨hk.1.1.1.1.1.1.2, ⟨hk.1.1.1.1.1.1.1.2, ⟨hk.1.1.1.1.1.2, ⟨hk.1.1.1.1.2, ⟨hk.1.1.1.2, ⟨hk.1.1.2, ⟨hk.1.2, hk.2⟩⟩⟩⟩⟩⟩⟩))) (Kd.R_reads' (Kd.R_mono (ok' := (fun k_ => some k_ ≠ (.slice (some aB) aA.length aZ : Value).ownBlock ∧ some k_ ≠ (.slice aW aU.length aY : Value).ownBlock ∧ some k_ ≠ (.slice aV aT.length aX : Value).ownBlock ∧ some k_ ≠ (.slice (some aD) aG.length aR : Value).ownBlock ∧ some k_ ≠ (.slice aP aO.length aQ : Value).ownBlock ∧ some k_ ≠ (a1 : Value).ownBlock ∧ some k_ ≠ (.slice bO a4.length bP : Value).ownBlock ∧ some k_ ≠ (.slice bM bH.length bN : Value).ownBlock)) (Kd.R_apart' (Kd.R_apart' (Kd.R_apart' (Kd.R_apart' (Kd.R_apart' (Kd.R_apart' (Kd.R_apart' (gK.out) (Kd.N_typed aC.out) (by decide)) (Kd.R_typed aJ.out) (by decide)) (Kd.N_typed aH.out) (by decide)) (Kd.N_typed aK.out) (by decide)) (Kd.N_typed aS.out) (by decide)) (Kd.R_typed a0.out) (by decide)) (Kd.R_typed aN.out) (by decide)) (fun k_ hk => ⟨hk.1.1.1.1.1.1.2, ⟨hk.1.1.1.1.1.2, ⟨hk.1.1.1.1.1.1.1.2, ⟨hk.1.1.1.1.2, ⟨hk.1.1.1.2, ⟨hk.1.1.2, ⟨hk.1.2, hk.2⟩⟩⟩⟩⟩⟩⟩))).2.1 (Kd.R_F (Kd.R_mono (ok' := (fun k_ => some k_ ≠ (.slice (some aB) aA.length aZ : Value).ownBlock ∧ some k_ ≠ (.slice aW aU.length aY : Value).ownBlock ∧ some k_ ≠ (.slice aV aT.length aX : Value).ownBlock ∧ some k_ ≠ (.slice (some aD) aG.length aR : Value).ownBlock ∧ some k_ ≠ (.slice aP aO.length aQ : Value).ownBlock ∧ some k_ ≠ (a1 : Value).ownBlock ∧ some k_ ≠ (.slice bO a4.length bP : Value).ownBlock ∧ some k_ ≠ (.slice bM bH.length bN : Value).ownBlock)) (Kd.R_apart' (Kd.R_apart' (Kd.R_apart' (Kd.R_apart' (Kd.R_apart' (Kd.R_apart' (Kd.R_apart' (gK.out) (Kd.N_typed aC.out) (by decide)) (Kd.R_typed aJ.out) (by decide)) (Kd.N_typed aH.out) (by decide)) (Kd.N_typed aK.out) (by decide)) (Kd.N_typed aS.out) (by decide)) (Kd.R_typed a0.out) (by decide)) (Kd.R_typed aN.out) (by decide)) (fun k_ hk => ⟨hk.1.1.1.1.1.1.2, ⟨hk.1.1.1.1.1.2, ⟨hk.1.1.1.1.1.1.1.2, ⟨hk.1.1.1.1.2, ⟨hk.1.1.1.2, ⟨hk.1.1.2, ⟨hk.1.2, hk.2⟩⟩⟩⟩⟩⟩⟩))))) (Reps.none _ _)))
 intro g1 nI eE hb hg_ hnew_
 have HS_ := kp22_ hb hHeld
 clear hg_ hnew_
 (first | rw [← h5.out] at eE | (simp only [Int.reduceToNat] at eE; rw [← h5.out] at eE))
 have dP := q_ (by have h_ := (Kd.N_elder' (nk_ aC.out) (Kd.N_base eE) hb); exact Kd.N_mono (ok' := (fun k_ => some k_ ≠ (.slice aW aU.length aY : Value).ownBlock ∧ some k_ ≠ (.slice aV aT.length aX : Value).ownBlock ∧ some k_ ≠ (.slice (some aD) aG.length aR : Value).ownBlock ∧ some k_ ≠ (.slice aP aO.length aQ : Value).ownBlock ∧ some k_ ≠ (a1 : Value).ownBlock ∧ some k_ ≠ (.slice bO a4.length bP : Value).ownBlock ∧ some k_ ≠ (.slice bM bH.length bN : Value).ownBlock ∧ some k_ ≠ (g1 : Value).ownBlock)) h_ (fun k_ hk => ⟨hk.1.1.1.1, ⟨hk.1.1.1.2.1, ⟨hk.1.1.1.2.2.1, ⟨hk.1.1.1.2.2.2.1, ⟨hk.1.1.1.2.2.2.2.1, ⟨hk.1.1.1.2.2.2.2.2.1, ⟨hk.1.1.1.2.2.2.2.2.2, hk.2⟩⟩⟩⟩⟩⟩⟩))
 have c4 := q_ (by have h_ := (Kd.R_below (rk_ aJ.out) hb); exact Kd.R_mono (ok' := (fun _ => True)) h_ (fun k_ hk => trivial))
 have dN := q_ (by have h_ := (Kd.R_below (rk_ aI.out) hb); exact Kd.R_mono (ok' := (fun _ => True)) h_ (fun k_ hk => trivial))
 have dA := q_ (by have h_ := (Kd.N_elder' (nk_ aH.out) (Kd.N_base eE) hb); exact Kd.N_mono (ok' := (fun k_ => some k_ ≠ (.slice aP aO.length aQ : Value).ownBlock ∧ some k_ ≠ (a1 : Value).ownBlock ∧ some k_ ≠ (.slice bO a4.length bP : Value).ownBlock ∧ some k_ ≠ (.slice bM bH.length bN : Value).ownBlock ∧ some k_ ≠ (g1 : Value).ownBlock)) h_ (fun k_ hk => ⟨hk.1.1.1.1, ⟨hk.1.1.1.2.1, ⟨hk.1.1.1.2.2.1, ⟨hk.1.1.1.2.2.2, hk.2⟩⟩⟩⟩))
 have c7 := q_ (by have h_ := (Kd.N_elder' (nk_ aK.out) (Kd.N_base eE) hb); exact Kd.N_mono (ok' := (fun k_ => some k_ ≠ (.slice (some aB) aA.length aZ : Value).ownBlock ∧ some k_ ≠ (.slice aW aU.length aY : Value).ownBlock ∧ some k_ ≠ (.slice aV aT.length aX : Value).ownBlock ∧ some k_ ≠ (.slice (some aD) aG.length aR : Value).ownBlock ∧ some k_ ≠ (a1 : Value).ownBlock ∧ some k_ ≠ (.slice bO a4.length bP : Value).ownBlock ∧ some k_ ≠ (.slice bM bH.length bN : Value).ownBlock ∧ some k_ ≠ (g1 : Value).ownBlock)) h_ (fun k_ hk => ⟨hk.1.1.1.1, ⟨hk.1.1.1.2.1, ⟨hk.1.1.1.2.2.1, ⟨hk.1.1.1.2.2.2.1, ⟨hk.1.1.1.2.2.2.2.1, ⟨hk.1.1.1.2.2.2.2.2.1, ⟨hk.1.1.1.2.2.2.2.2.2, hk.2⟩⟩⟩⟩⟩⟩⟩))
 have dM := q_ (by have h_ := (Kd.V_elder' (vk_ aE.out) (Kd.N_base eE) hb); exact Kd.V_mono (ok' := (fun k_ => some k_ ≠ (.slice (some aD) aG.length aR : Value).ownBlock ∧ some k_ ≠ (.slice aP aO.length aQ : Value).ownBlock ∧ some k_ ≠ (a1 : Value).ownBlock ∧ some k_ ≠ (.slice bO a4.length bP : Value).ownBlock ∧ some k_ ≠ (.slice bM bH.length bN : Value).ownBlock ∧ some k_ ≠ (g1 : Value).ownBlock)) h_ (fun k_ hk => ⟨hk.1.1.1.1, ⟨hk.1.1.1.2.1, ⟨hk.1.1.1.2.2.1, ⟨hk.1.1.1.2.2.2.1, ⟨hk.1.1.1.2.2.2.2, hk.2⟩⟩⟩⟩⟩))
 have dG := q_ (by have h_ := (Kd.V_elder' (vk_ aF.out) (Kd.N_base eE) hb); exact Kd.V_mono (ok' := (fun k_ => some k_ ≠ (.slice (some aD) aG.length aR : Value).ownBlock ∧ some k_ ≠ (.slice aP aO.length aQ : Value).ownBlock ∧ some k_ ≠ (a1 : Value).ownBlock ∧ some k_ ≠ (.slice bO a4.length bP : Value).ownBlock ∧ some k_ ≠ (.slice bM bH.length bN : Value).ownBlock ∧ some k_ ≠ (g1 : Value).ownBlock)) h_ (fun k_ hk => ⟨hk.1.1.1.1, ⟨hk.1.1.1.2.1, ⟨hk.1.1.1.2.2.1, ⟨hk.1.1.1.2.2.2.1, ⟨hk.1.1.1.2.2.2.2, hk.2⟩⟩⟩⟩⟩))
 have dO := q_ (by have h_ := (Kd.N_elder' (nk_ aS.out) (Kd.N_base eE) hb); exact Kd.N_mono (ok' := (fun k_ => some k_ ≠ (.slice (some aB) aA.length aZ : Value).ownBlock ∧ some k_ ≠ (.slice aW aU.length aY : Value).ownBlock ∧ some k_ ≠ (.slice aV aT.length aX : Value).ownBlock ∧ some k_ ≠ (.slice (some aD) aG.length aR : Value).ownBlock ∧ some k_ ≠ (.slice aP aO.length aQ : Value).ownBlock ∧ some k_ ≠ (.slice bO a4.length bP : Value).ownBlock ∧ some k_ ≠ (.slice bM bH.length bN : Value).ownBlock ∧ some k_ ≠ (g1 : Value).ownBlock)) h_ (fun k_ hk => ⟨hk.1.1.1.1, ⟨hk.1.1.1.2.1, ⟨hk.1.1.1.2.2.1, ⟨hk.1.1.1.2.2.2.1, ⟨hk.1.1.1.2.2.2.2.1, ⟨hk.1.1.1.2.2.2.2.2.1, ⟨hk.1.1.1.2.2.2.2.2.2, hk.2⟩⟩⟩⟩⟩⟩⟩))
 have dI := q_ (Kd.R_below (rk_ a0.out) hb)
 have c3 := q_ (Kd.R_below (rk_ aN.out) hb)
 have bI := q_ (Kd.N_lower eE (y0j hb_))
 have b5 := q_ (y0k hb_ hb)
 clear aC aJ aI aH aK aE aF aS a0 aN HB gY gK
 have aC := dP; have aJ := c4; have aI := dN; have aH := dA; have aK := c7; have aE := dM; have aF := dG; have aS := dO; have a0 := dI; have aN := c3; have bZ := bI; have HB := b5
 clear dP c4 dN dA c7 dM dG dO dI c3 bI b5 hb eE
 obtain ⟨dS, dT, jX⟩ := Kd.N_slice bZ.out
 (first | subst jX | (injection jX with f1_ f2_ f3_; have cW := f1_.symm; have cV := f3_.symm; clear f1_ f2_ f3_; subst cW; subst cV))
 refine hK.out _ _ HS_ (fun hHeld => ?_)
 clear hK K
 refine no_ (N := some 74) ?_
 refine one_ (i := 10) (N := some 75) (fl 57 2047) rfl rfl (y3l HT_.out (by kernel_rfl)) (by decide) (fun K hK => ?_)
 refine gs_ Try.func43 #[.slice (some aB) aA.length aZ, .slice dS c2.length dT] ?_
 with_reducible refine (zq1e.calls k (fun k_ => (some k_ ≠ (.slice aW aU.length aY : Value).ownBlock ∧ (some k_ ≠ (.slice aV aT.length aX : Value).ownBlock ∧ (some k_ ≠ (.slice (some aD) aG.length aR : Value).ownBlock ∧ (some k_ ≠ (.slice aP aO.length aQ : Value).ownBlock ∧ (some k_ ≠ (a1 : Value).ownBlock ∧ (some k_ ≠ (.slice bO a4.length bP : Value).ownBlock ∧ (some k_ ≠ (.slice bM bH.length bN : Value).ownBlock ∧ some k_ ≠ (.slice dS c2.length dT : Value).ownBlock)))))))) _ _ aA (fun k_ => (some k_ ≠ (.slice (some aB) aA.length aZ : Value).ownBlock ∧ (some k_ ≠ (.slice aW aU.length aY : Value).ownBlock ∧ (some k_ ≠ (.slice aV aT.length aX : Value).ownBlock ∧ (some k_ ≠ (.slice (some aD) aG.length aR : Value).ownBlock ∧ (some k_ ≠ (.slice aP aO.length aQ : Value).ownBlock ∧ (some k_ ≠ (a1 : Value).ownBlock ∧ (some k_ ≠ (.slice bO a4.length bP : Value).ownBlock ∧ some k_ ≠ (.slice bM bH.length bN : Value).ownBlock)))))))) _ _ c2 bW _ ?side1 ?side2 mP.out).mono ?_
 (case side1 => exact Kd.N_V (aC.out))
 (case side2 => exact Kd.N_V (bZ.out))
 rintro e nS ⟨mT, rfl, a3, hb⟩
 have HS_ := kp22_ hb hHeld
 refine ⟨_, rfl, ?_⟩
 replace aC := q_ (Kd.N_elder' (nk_ aC.out) (Kd.R_base a3) hb)
 replace aJ := q_ (Kd.R_below (rk_ aJ.out) hb)
 replace aI := q_ (Kd.R_below (rk_ aI.out) hb)
 replace aH := q_ (Kd.N_elder' (nk_ aH.out) (Kd.R_base a3) hb)
 replace aK := q_ (Kd.N_elder' (nk_ aK.out) (Kd.R_base a3) hb)
 replace aE := q_ (Kd.V_elder' (vk_ aE.out) (Kd.R_base a3) hb)
 replace aF := q_ (Kd.V_elder' (vk_ aF.out) (Kd.R_base a3) hb)
 replace aS := q_ (Kd.N_elder' (nk_ aS.out) (Kd.R_base a3) hb)
 replace bZ := q_ (Kd.N_elder' (nk_ bZ.out) (Kd.R_base a3) hb)
 have cR := q_ (Kd.R_lower (Kd.R_new' (Kd.R_new' (Kd.R_mono (ok' := fun k_ => True) a3 (fun _ hk_ => trivial)) (Kd.R_lt (rk_ a0.out))) (Kd.R_lt (rk_ aN.out))) (y0j hb_))
 replace a0 := q_ (Kd.R_elder' (rk_ a0.out) (Kd.R_base a3) hb)
 replace aN := q_ (Kd.R_elder' (rk_ aN.out) (Kd.R_base a3) hb)
 replace HB := q_ (y0k hb_ hb)
 obtain ⟨eC, d6, jE⟩ := Kd.R_slice cR.out
 (first | subst jE | (injection jE with f1_ f2_ f3_; have cW := f1_.symm; have cV := f3_.symm; clear f1_ f2_ f3_; subst cW; subst cV))
 refine hK.out _ _ HS_ (fun hHeld => ?_)
 clear hK K
 refine no_ (N := some 75) ?_
 refine pv_ 11 (some 76) (fl 57 4095) ?_
 refine pv_ 12 (some 77) (fl 57 8191) ?_
 refine pv_ 13 (some 78) (fl 57 16383) ?_
 refine pv_ 14 (some 79) (fl 57 32767) ?_
 refine pv_ 15 (some 80) (fl 57 65535) ?_
 refine pv_ 16 (some 81) (fl 57 131071) ?_
 refine pv_ 17 (some 82) (fl 57 262143) ?_
 refine pv_ 18 (some 83) (fl 57 524287) ?_
 refine pv_ 19 (some 84) (fl 57 1048575) ?_
 refine pv_ 20 (some 85) (fl 57 2097151) ?_
 refine pv_ 21 (some 86) (fl 57 4194303) ?_
 refine pv_ 22 (some 87) (fl 57 8388607) ?_
 refine pv_ 23 (some 88) (fl 57 16777215) ?_
 refine pv_ 24 (some 89) (fl 57 33554431) ?_
 refine pv_ 25 (some 90) (fl 57 67108863) ?_
 refine pv_ 26 (some 91) (fl 57 134217727) ?_
 refine pv_ 27 (some 92) (fl 57 268435455) ?_
 refine pv_ 28 (some 93) (fl 57 536870911) ?_
 refine tv_ 29 (some 94) (fl 57 1073741823) ?_
 refine pv_ 30 (some 95) (fl 57 2147483647) ?_
 refine pv_ 31 (some 96) (fl 57 4294967295) ?_
 refine tv_ 32 (some 97) (fl 57 8589934591) ?_
 refine pv_ 33 (some 98) (fl 57 17179869183) ?_
 refine pv_ 34 (some 99) (fl 57 34359738367) ?_
 refine pv_ 35 (some 100) (fl 57 68719476735) ?_
 refine pv_ 36 (some 101) (fl 57 137438953471) ?_
 refine pv_ 37 (some 102) (fl 57 274877906943) ?_
 obtain ⟨jR, fP, fO, c1⟩ := Kd.N_get aH.out z25 1 (by omega) (of_eq_true hD)
 obtain ⟨hZ, hJ, hO, hG, rfl, cN, cM, cA, b8⟩ := y2u fO
 have bA := c1 4 _ rfl
 rw [y09 _ _ 4 (by omega)] at bA
 (try simp only [show (1 : Int).toNat = 1 from rfl, Nat.reduceMul, Nat.reduceEqDiff, Go.Addr.add, ↓reduceIte] at bA)
 (try rw [show ((1 : Int)).toNat = 1 from rfl] at bA)
 (try rw [show 1 * 6 = 6 from rfl] at bA)
 replace bA := Option.some.inj (bA.symm.trans (by exact hHeld.2.2.2.2.1))
 injection bA with hva_ hvn_ hvc_
 rw [hva_] at cM
 rw [hvc_] at cN
 have bF := q_ (show Kd.V k62 62 _ w.heap.size _ _ ((y49 aG 1).f4) from Kd.V_mk cN cM)
 have bB := q_ (Kd.V_reads' bF.out).2.2
 clear hva_ hvn_ hvc_ cM cN
 have bE := c1 5 _ rfl
 rw [y09 _ _ 5 (by omega)] at bE
 (try simp only [show (1 : Int).toNat = 1 from rfl, Nat.reduceMul, Nat.reduceEqDiff, Go.Addr.add, ↓reduceIte] at bE)
 (try rw [show ((1 : Int)).toNat = 1 from rfl] at bE)
 (try rw [show 1 * 6 = 6 from rfl] at bE)
 replace bE := Option.some.inj (bE.symm.trans (by exact hHeld.2.2.2.2.2.1))
 injection bE with hva_ hvn_ hvc_
 rw [hva_] at b8
 rw [hvc_] at cA
 have bD := q_ (show Kd.V k43 43 _ w.heap.size _ _ ((y49 aG 1).f5) from Kd.V_mk cA b8)
 have bL := q_ (Kd.V_reads' bD.out).2.2
 clear hva_ hvn_ hvc_ b8 cA c1 fP
 refine one_ (i := 38) (N := some 103) (fl 57 549755813887) rfl rfl (y3l HT_.out (by kernel_rfl)) (by decide) (fun K hK => ?_)
 refine gs_ Try.func41 #[.slice (some aB) aA.length aZ, .slice aP aO.length aQ] ?_
 with_reducible refine (zqz.calls k _ _ aA _ _ aO true _ ?side1 ?side2 ?side3 ?side4 m6.out).mono ?_
 (case side1 => exact ck_ (Kd.N_reads' aC.out).2.2)
 (case side2 => exact (Kd.N_reads' aC.out).2.1)
 (case side3 => exact ck_ (Kd.N_reads' aK.out).2.2)
 (case side4 => exact (Kd.N_reads' aK.out).2.1)
 rintro e m1 ⟨rfl, hb⟩
 have HS_ := kp22_ hb hHeld
 refine ⟨_, rfl, ?_⟩
 replace aC := q_ (Kd.N_below (nk_ aC.out) hb)
 replace aJ := q_ (Kd.R_below (rk_ aJ.out) hb)
 replace aI := q_ (Kd.R_below (rk_ aI.out) hb)
 replace aH := q_ (Kd.N_below (nk_ aH.out) hb)
 replace aK := q_ (Kd.N_below (nk_ aK.out) hb)
 replace aE := q_ (Kd.V_below (vk_ aE.out) hb)
 replace aF := q_ (Kd.V_below (vk_ aF.out) hb)
 replace aS := q_ (Kd.N_below (nk_ aS.out) hb)
 replace a0 := q_ (Kd.R_below (rk_ a0.out) hb)
 replace aN := q_ (Kd.R_below (rk_ aN.out) hb)
 replace bZ := q_ (Kd.N_below (nk_ bZ.out) hb)
 replace cR := q_ (Kd.R_below (rk_ cR.out) hb)
 replace bF := q_ (Kd.V_below (vk_ bF.out) hb)
 replace bD := q_ (Kd.V_below (vk_ bD.out) hb)
 replace bB := q_ (Kd.C_below (ck_ bB.out) hb)
 replace bL := q_ (Kd.C_below (ck_ bL.out) hb)
 replace HB := q_ (y0k hb_ hb)
 refine hK.out _ _ HS_ (fun hHeld => ?_)
 clear hK K
 refine no_ (N := some 103) ?_
 refine pv_ 39 (some 104) (fl 57 1099511627775) ?_
 refine pv_ 40 (some 105) (fl 57 2199023255551) ?_
 refine pv_ 41 (some 106) (fl 57 4398046511103) ?_
 refine pv_ 42 (some 107) (fl 57 8796093022207) ?_
 refine pv_ 44 (some 109) (fl 57 26388279066623) ?_
 refine pv_ 45 (some 110) (fl 57 61572651155455) ?_
 refine tv_ 43 (some 108) (fl 57 70368744177663) ?_
 refine tv_ 46 (some 111) (fl 57 140737488355327) ?_
 obtain ⟨iW, fD, gE, c0⟩ := Kd.N_get aC.out z25 1 (by omega) (of_eq_true hC)
 obtain ⟨hU, hW, hQ, hE, rfl, cH, cG, cC, cJ⟩ := y2u gE
 have bG := c0 4 _ rfl
 rw [y09 _ _ 4 (by omega)] at bG
 (try simp only [show (1 : Int).toNat = 1 from rfl, Nat.reduceMul, Nat.reduceEqDiff, Go.Addr.add, ↓reduceIte] at bG)
 (try rw [show ((1 : Int)).toNat = 1 from rfl] at bG)
 (try rw [show 1 * 6 = 6 from rfl] at bG)
 replace bG := Option.some.inj (bG.symm.trans (by exact hHeld.2.2.2.2.2.2.2.2.2.2.2.2.2.2.1))
 injection bG with hva_ hvn_ hvc_
 rw [hva_] at cG
 rw [hvc_] at cH
 have a8 := q_ (show Kd.V k62 62 _ w.heap.size _ _ ((y49 aA 1).f4) from Kd.V_mk cH cG)
 have bQ := q_ (Kd.V_reads' a8.out).2.2
 clear hva_ hvn_ hvc_ cG cH
 have bC := c0 5 _ rfl
 rw [y09 _ _ 5 (by omega)] at bC
 (try simp only [show (1 : Int).toNat = 1 from rfl, Nat.reduceMul, Nat.reduceEqDiff, Go.Addr.add, ↓reduceIte] at bC)
 (try rw [show ((1 : Int)).toNat = 1 from rfl] at bC)
 (try rw [show 1 * 6 = 6 from rfl] at bC)
 replace bC := Option.some.inj (bC.symm.trans (by exact hHeld.2.2.2.2.2.2.2.2.2.2.2.2.2.2.2.1))
 injection bC with hva_ hvn_ hvc_
 rw [hva_] at cJ
 rw [hvc_] at cC
 have a7 := q_ (show Kd.V k43 43 _ w.heap.size _ _ ((y49 aA 1).f5) from Kd.V_mk cC cJ)
 have bR := q_ (Kd.V_reads' a7.out).2.2
 clear hva_ hvn_ hvc_ cJ cC c0 fD
 have bJ := a8; have bU := bQ; have hF := hT
 have bK := a7; have bV := bR; have hL := hH
 refine one_ (i := 47) (N := some 112) (fl 57 281474976710655) rfl rfl (y3l HT_.out (by kernel_rfl)) (by decide) (fun K hK => ?_)
 refine Kd.N_lit_step k25 _ 25 ?hg (N' := 112) ?hd (xs := ([(⟨(y49 aA 1).f0, (y49 aA 1).f1, (y49 aA 1).f2, (y49 aA 1).f3, (y49 aA 1).f4, (y49 aA 1).f5⟩ : S25), (⟨(y49 aA 1).f0, (y49 aA 1).f1, (y49 aA 1).f2, (y49 aA 1).f3, (y49 aA 1).f4, (y49 aA 1).f5⟩ : S25)] : List (S25))) (inner := [.string ((y49 aA 1).f0), .string ((y49 aA 1).f1), .string ((y49 aA 1).f2), .int .i64 ((y49 aA 1).f3), .slice b2 ((y49 aA 1).f4).length b3, .slice b1 ((y49 aA 1).f5).length b0, .string ((y49 aA 1).f0), .string ((y49 aA 1).f1), .string ((y49 aA 1).f2), .int .i64 ((y49 aA 1).f3), .slice b2 ((y49 aA 1).f4).length b3, .slice b1 ((y49 aA 1).f5).length b0]) (ok := (fun k_ => some k_ ≠ (.slice (some aB) aA.length aZ : Value).ownBlock ∧ some k_ ≠ (.slice aW aU.length aY : Value).ownBlock ∧ some k_ ≠ (.slice aV aT.length aX : Value).ownBlock ∧ some k_ ≠ (.slice (some aD) aG.length aR : Value).ownBlock ∧ some k_ ≠ (.slice aP aO.length aQ : Value).ownBlock ∧ some k_ ≠ (a1 : Value).ownBlock ∧ some k_ ≠ (.slice bO a4.length bP : Value).ownBlock ∧ some k_ ≠ (.slice bM bH.length bN : Value).ownBlock ∧ some k_ ≠ (.slice dS c2.length dT : Value).ownBlock ∧ some k_ ≠ (.slice eC bW.length d6 : Value).ownBlock)) (okp := (fun k_ => some k_ ≠ (.slice (some aB) aA.length aZ : Value).ownBlock ∧ some k_ ≠ (.slice aW aU.length aY : Value).ownBlock ∧ some k_ ≠ (.slice aV aT.length aX : Value).ownBlock ∧ some k_ ≠ (.slice (some aD) aG.length aR : Value).ownBlock ∧ some k_ ≠ (.slice aP aO.length aQ : Value).ownBlock ∧ some k_ ≠ (a1 : Value).ownBlock ∧ some k_ ≠ (.slice bO a4.length bP : Value).ownBlock ∧ some k_ ≠ (.slice bM bH.length bN : Value).ownBlock ∧ some k_ ≠ (.slice dS c2.length dT : Value).ownBlock ∧ some k_ ≠ (.slice eC bW.length d6 : Value).ownBlock)) ?hr ?hp (fun _ hk => hk) ((show ∀ k_, m1.heap.size ≤ k_ → (fun k_ => some k_ ≠ (.slice (some aB) aA.length aZ : Value).ownBlock ∧ some k_ ≠ (.slice aW aU.length aY : Value).ownBlock ∧ some k_ ≠ (.slice aV aT.length aX : Value).ownBlock ∧ some k_ ≠ (.slice (some aD) aG.length aR : Value).ownBlock ∧ some k_ ≠ (.slice aP aO.length aQ : Value).ownBlock ∧ some k_ ≠ (a1 : Value).ownBlock ∧ some k_ ≠ (.slice bO a4.length bP : Value).ownBlock ∧ some k_ ≠ (.slice bM bH.length bN : Value).ownBlock ∧ some k_ ≠ (.slice dS c2.length dT : Value).ownBlock ∧ some k_ ≠ (.slice eC bW.length d6 : Value).ownBlock) k_ from fun k_ hk => ⟨Kd.fresh' (Kd.N_lt (nk_ aC.out)) k_ hk, Kd.fresh' (Kd.R_lt (rk_ aJ.out)) k_ hk, Kd.fresh' (Kd.R_lt (rk_ aI.out)) k_ hk, Kd.fresh' (Kd.N_lt (nk_ aH.out)) k_ hk, Kd.fresh' (Kd.N_lt (nk_ aK.out)) k_ hk, Kd.fresh' (Kd.N_lt (nk_ aS.out)) k_ hk, Kd.fresh' (Kd.R_lt (rk_ a0.out)) k_ hk, Kd.fresh' (Kd.R_lt (rk_ aN.out)) k_ hk, Kd.fresh' (Kd.N_lt (nk_ bZ.out)) k_ hk, Kd.fresh' (Kd.R_lt (rk_ cR.out)) k_ hk⟩) _ (Nat.le_refl _)) (Below.refl _ _) (Nat.le_refl _) (by simp) ?_; (case hd => rfl); (case hg => rfl); (case hr => first | (go_simp; done) | (go_simp; rfl)); (case hp => exact (Reps.c6 (show Kd.FK k25 _ _ (⟨(y49 aA 1).f0, (y49 aA 1).f1, (y49 aA 1).f2, (y49 aA 1).f3, (y49 aA 1).f4, (y49 aA 1).f5⟩ : S25) [.string ((y49 aA 1).f0), .string ((y49 aA 1).f1), .string ((y49 aA 1).f2), .int .i64 ((y49 aA 1).f3), .slice b2 ((y49 aA 1).f4).length b3, .slice b1 ((y49 aA 1).f5).length b0] from (y2s _ _ (⟨(y49 aA 1).f0, (y49 aA 1).f1, (y49 aA 1).f2, (y49 aA 1).f3, (y49 aA 1).f4, (y49 aA 1).f5⟩ : S25) (Kd.V_reads' (Kd.V_mono (ok' := (fun k_ => some k_ ≠ (.slice (some aB) aA.length aZ : Value).ownBlock ∧ some k_ ≠ (.slice aW aU.length aY : Value).ownBlock ∧ some k_ ≠ (.slice aV aT.length aX : Value).ownBlock ∧ some k_ ≠ (.slice (some aD) aG.length aR : Value).ownBlock ∧ some k_ ≠ (.slice aP aO.length aQ : Value).ownBlock ∧ some k_ ≠ (a1 : Value).ownBlock ∧ some k_ ≠ (.slice bO a4.length bP : Value).ownBlock ∧ some k_ ≠ (.slice bM bH.length bN : Value).ownBlock ∧ some k_ ≠ (.slice dS c2.length dT : Value).ownBlock ∧ some k_ ≠ (.slice eC bW.length d6 : Value).ownBlock)) (a8.out) (fun k_ hk => ⟨hk.2, ⟨hk.1.1.1, ⟨hk.1.1.2.1, ⟨hk.1.1.2.2.1, ⟨hk.1.1.2.2.2.1, ⟨hk.1.1.2.2.2.2.1, ⟨hk.1.1.2.2.2.2.2.1, ⟨hk.1.1.2.2.2.2.2.2.1, ⟨hk.1.1.2.2.2.2.2.2.2, hk.1.2⟩⟩⟩⟩⟩⟩⟩⟩⟩))).2.1 (Kd.V_F (Kd.V_mono (ok' := (fun k_ => some k_ ≠ (.slice (some aB) aA.length aZ : Value).ownBlock ∧ some k_ ≠ (.slice aW aU.length aY : Value).ownBlock ∧ some k_ ≠ (.slice aV aT.length aX : Value).ownBlock ∧ some k_ ≠ (.slice (some aD) aG.length aR : Value).ownBlock ∧ some k_ ≠ (.slice aP aO.length aQ : Value).ownBlock ∧ some k_ ≠ (a1 : Value).ownBlock ∧ some k_ ≠ (.slice bO a4.length bP : Value).ownBlock ∧ some k_ ≠ (.slice bM bH.length bN : Value).ownBlock ∧ some k_ ≠ (.slice dS c2.length dT : Value).ownBlock ∧ some k_ ≠ (.slice eC bW.length d6 : Value).ownBlock)) (a8.out) (fun k_ hk => ⟨hk.2, ⟨hk.1.1.1, ⟨hk.1.1.2.1, ⟨hk.1.1.2.2.1, ⟨hk.1.1.2.2.2.1, ⟨hk.1.1.2.2.2.2.1, ⟨hk.1.1.2.2.2.2.2.1, ⟨hk.1.1.2.2.2.2.2.2.1, ⟨hk.1.1.2.2.2.2.2.2.2, hk.1.2⟩⟩⟩⟩⟩⟩⟩⟩⟩))) (Kd.V_reads' (Kd.V_mono (ok' := (fun k_ => some k_ ≠ (.slice (some aB) aA.length aZ : Value).ownBlock ∧ some k_ ≠ (.slice aW aU.length aY : Value).ownBlock ∧ some k_ ≠ (.slice aV aT.length aX : Value).ownBlock ∧ some k_ ≠ (.slice (some aD) aG.length aR : Value).ownBlock ∧ some k_ ≠ (.slice aP aO.length aQ : Value).ownBlock ∧ some k_ ≠ (a1 : Value).ownBlock ∧ some k_ ≠ (.slice bO a4.length bP : Value).ownBlock ∧ some k_ ≠ (.slice bM bH.length bN : Value).ownBlock ∧ some k_ ≠ (.slice dS c2.length dT : Value).ownBlock ∧ some k_ ≠ (.slice eC bW.length d6 : Value).ownBlock)) (a7.out) (fun k_ hk => ⟨hk.2, ⟨hk.1.1.1, ⟨hk.1.1.2.1, ⟨hk.1.1.2.2.1, ⟨hk.1.1.2.2.2.1, ⟨hk.1.1.2.2.2.2.1, ⟨hk.1.1.2.2.2.2.2.1, ⟨hk.1.1.2.2.2.2.2.2.1, ⟨hk.1.1.2.2.2.2.2.2.2, hk.1.2⟩⟩⟩⟩⟩⟩⟩⟩⟩))).2.1 (Kd.V_F (Kd.V_mono (ok' := (fun k_ => some k_ ≠ (.slice (some aB) aA.length aZ : Value).ownBlock ∧ some k_ ≠ (.slice aW aU.length aY : Value).ownBlock ∧ some k_ ≠ (.slice aV aT.length aX : Value).ownBlock ∧ some k_ ≠ (.slice (some aD) aG.length aR : Value).ownBlock ∧ some k_ ≠ (.slice aP aO.length aQ : Value).ownBlock ∧ some k_ ≠ (a1 : Value).ownBlock ∧ some k_ ≠ (.slice bO a4.length bP : Value).ownBlock ∧ some k_ ≠ (.slice bM bH.length bN : Value).ownBlock ∧ some k_ ≠ (.slice dS c2.length dT : Value).ownBlock ∧ some k_ ≠ (.slice eC bW.length d6 : Value).ownBlock)) (a7.out) (fun k_ hk => ⟨hk.2, ⟨hk.1.1.1, ⟨hk.1.1.2.1, ⟨hk.1.1.2.2.1, ⟨hk.1.1.2.2.2.1, ⟨hk.1.1.2.2.2.2.1, ⟨hk.1.1.2.2.2.2.2.1, ⟨hk.1.1.2.2.2.2.2.2.1, ⟨hk.1.1.2.2.2.2.2.2.2, hk.1.2⟩⟩⟩⟩⟩⟩⟩⟩⟩))))) (Reps.c6 (show Kd.FK k25 _ _ (⟨(y49 aA 1).f0, (y49 aA 1).f1, (y49 aA 1).f2, (y49 aA 1).f3, (y49 aA 1).f4, (y49 aA 1).f5⟩ : S25) [.string ((y49 aA 1).f0), .string ((y49 aA 1).f1), .string ((y49 aA 1).f2), .int .i64 ((y49 aA 1).f3), .slice b2 ((y49 aA 1).f4).length b3, .slice b1 ((y49 aA 1).f5).length b0] from (y2s _ _ (⟨(y49 aA 1).f0, (y49 aA 1).f1, (y49 aA 1).f2, (y49 aA 1).f3, (y49 aA 1).f4, (y49 aA 1).f5⟩ : S25) (Kd.V_reads' (Kd.V_mono (ok' := (fun k_ => some k_ ≠ (.slice (some aB) aA.length aZ : Value).ownBlock ∧ some k_ ≠ (.slice aW aU.length aY : Value).ownBlock ∧ some k_ ≠ (.slice aV aT.length aX : Value).ownBlock ∧ some k_ ≠ (.slice (some aD) aG.length aR : Value).ownBlock ∧ some k_ ≠ (.slice aP aO.length aQ : Value).ownBlock ∧ some k_ ≠ (a1 : Value).ownBlock ∧ some k_ ≠ (.slice bO a4.length bP : Value).ownBlock ∧ some k_ ≠ (.slice bM bH.length bN : Value).ownBlock ∧ some k_ ≠ (.slice dS c2.length dT : Value).ownBlock ∧ some k_ ≠ (.slice eC bW.length d6 : Value).ownBlock)) (bJ.out) (fun k_ hk => ⟨hk.2, ⟨hk.1.1.1, ⟨hk.1.1.2.1, ⟨hk.1.1.2.2.1, ⟨hk.1.1.2.2.2.1, ⟨hk.1.1.2.2.2.2.1, ⟨hk.1.1.2.2.2.2.2.1, ⟨hk.1.1.2.2.2.2.2.2.1, ⟨hk.1.1.2.2.2.2.2.2.2, hk.1.2⟩⟩⟩⟩⟩⟩⟩⟩⟩))).2.1 (Kd.V_F (Kd.V_mono (ok' := (fun k_ => some k_ ≠ (.slice (some aB) aA.length aZ : Value).ownBlock ∧ some k_ ≠ (.slice aW aU.length aY : Value).ownBlock ∧ some k_ ≠ (.slice aV aT.length aX : Value).ownBlock ∧ some k_ ≠ (.slice (some aD) aG.length aR : Value).ownBlock ∧ some k_ ≠ (.slice aP aO.length aQ : Value).ownBlock ∧ some k_ ≠ (a1 : Value).ownBlock ∧ some k_ ≠ (.slice bO a4.length bP : Value).ownBlock ∧ some k_ ≠ (.slice bM bH.length bN : Value).ownBlock ∧ some k_ ≠ (.slice dS c2.length dT : Value).ownBlock ∧ some k_ ≠ (.slice eC bW.length d6 : Value).ownBlock)) (bJ.out) (fun k_ hk => ⟨hk.2, ⟨hk.1.1.1, ⟨hk.1.1.2.1, ⟨hk.1.1.2.2.1, ⟨hk.1.1.2.2.2.1, ⟨hk.1.1.2.2.2.2.1, ⟨hk.1.1.2.2.2.2.2.1, ⟨hk.1.1.2.2.2.2.2.2.1, ⟨hk.1.1.2.2.2.2.2.2.2, hk.1.2⟩⟩⟩⟩⟩⟩⟩⟩⟩))) (Kd.V_reads' (Kd.V_mono (ok' := (fun k_ => some k_ ≠ (.slice (some aB) aA.length aZ : Value).ownBlock ∧ some k_ ≠ (.slice aW aU.length aY : Value).ownBlock ∧ some k_ ≠ (.slice aV aT.length aX : Value).ownBlock ∧ some k_ ≠ (.slice (some aD) aG.length aR : Value).ownBlock ∧ some k_ ≠ (.slice aP aO.length aQ : Value).ownBlock ∧ some k_ ≠ (a1 : Value).ownBlock ∧ some k_ ≠ (.slice bO a4.length bP : Value).ownBlock ∧ some k_ ≠ (.slice bM bH.length bN : Value).ownBlock ∧ some k_ ≠ (.slice dS c2.length dT : Value).ownBlock ∧ some k_ ≠ (.slice eC bW.length d6 : Value).ownBlock)) (bK.out) (fun k_ hk => ⟨hk.2, ⟨hk.1.1.1, ⟨hk.1.1.2.1, ⟨hk.1.1.2.2.1, ⟨hk.1.1.2.2.2.1, ⟨hk.1.1.2.2.2.2.1, ⟨hk.1.1.2.2.2.2.2.1, ⟨hk.1.1.2.2.2.2.2.2.1, ⟨hk.1.1.2.2.2.2.2.2.2, hk.1.2⟩⟩⟩⟩⟩⟩⟩⟩⟩))).2.1 (Kd.V_F (Kd.V_mono (ok' := (fun k_ => some k_ ≠ (.slice (some aB) aA.length aZ : Value).ownBlock ∧ some k_ ≠ (.slice aW aU.length aY : Value).ownBlock ∧ some k_ ≠ (.slice aV aT.length aX : Value).ownBlock ∧ some k_ ≠ (.slice (some aD) aG.length aR : Value).ownBlock ∧ some k_ ≠ (.slice aP aO.length aQ : Value).ownBlock ∧ some k_ ≠ (a1 : Value).ownBlock ∧ some k_ ≠ (.slice bO a4.length bP : Value).ownBlock ∧ some k_ ≠ (.slice bM bH.length bN : Value).ownBlock ∧ some k_ ≠ (.slice dS c2.length dT : Value).ownBlock ∧ some k_ ≠ (.slice eC bW.length d6 : Value).ownBlock)) (bK.out) (fun k_ hk => ⟨hk.2, ⟨hk.1.1.1, ⟨hk.1.1.2.1, ⟨hk.1.1.2.2.1, ⟨hk.1.1.2.2.2.1, ⟨hk.1.1.2.2.2.2.1, ⟨hk.1.1.2.2.2.2.2.1, ⟨hk.1.1.2.2.2.2.2.2.1, ⟨hk.1.1.2.2.2.2.2.2.2, hk.1.2⟩⟩⟩⟩⟩⟩⟩⟩⟩))))) (Reps.none _ _))))
 intro mX nR cP hb hg_ hnew_
 have HS_ := kp22_ hb hHeld
 clear hg_ hnew_
 (first | rw [← h3.out] at cP | (simp only [Int.reduceToNat] at cP; rw [← h3.out] at cP))
 have dP := q_ (Kd.N_elder' (nk_ aC.out) (Kd.N_base cP) hb)
 have c4 := q_ (Kd.R_below (rk_ aJ.out) hb)
 have dN := q_ (Kd.R_below (rk_ aI.out) hb)
 have dA := q_ (Kd.N_elder' (nk_ aH.out) (Kd.N_base cP) hb)
 have c7 := q_ (Kd.N_elder' (nk_ aK.out) (Kd.N_base cP) hb)
 have dM := q_ (Kd.V_elder' (vk_ aE.out) (Kd.N_base cP) hb)
 have dG := q_ (Kd.V_elder' (vk_ aF.out) (Kd.N_base cP) hb)
 have dO := q_ (Kd.N_elder' (nk_ aS.out) (Kd.N_base cP) hb)
 have dI := q_ (Kd.R_below (rk_ a0.out) hb)
 have c3 := q_ (Kd.R_below (rk_ aN.out) hb)
 have bI := q_ (Kd.N_elder' (nk_ bZ.out) (Kd.N_base cP) hb)
 have b5 := q_ (Kd.R_below (rk_ cR.out) hb)
 have e1 := q_ (Kd.V_elder' (vk_ bF.out) (Kd.N_base cP) hb)
 have jV := q_ (Kd.V_elder' (vk_ bD.out) (Kd.N_base cP) hb)
 have iM := q_ (Kd.V_elder' (vk_ a8.out) (Kd.N_base cP) hb)
 have jJ := q_ (Kd.V_elder' (vk_ a7.out) (Kd.N_base cP) hb)
 have j5 := q_ (Kd.V_elder' (vk_ bJ.out) (Kd.N_base cP) hb)
 have i0 := q_ (Kd.V_elder' (vk_ bK.out) (Kd.N_base cP) hb)
 have i7 := q_ (Kd.N_lower cP (y0j hb_))
 have jN := q_ (Kd.C_below (ck_ bB.out) hb)
 have iX := q_ (Kd.C_below (ck_ bL.out) hb)
 have iV := q_ (Kd.C_below (ck_ bQ.out) hb)
 have iN := q_ (Kd.C_below (ck_ bR.out) hb)
 have jH := q_ (Kd.C_below (ck_ bU.out) hb)
 have iU := q_ (Kd.C_below (ck_ bV.out) hb)
 have i9 := q_ (y0k hb_ hb)
 clear aC aJ aI aH aK aE aF aS a0 aN bZ cR bF bD a8 a7 bJ bK bB bL bQ bR bU bV HB
 have aC := dP; have aJ := c4; have aI := dN; have aH := dA; have aK := c7; have aE := dM; have aF := dG; have aS := dO; have a0 := dI; have aN := c3; have bZ := bI; have cR := b5; have bF := e1; have bD := jV; have a8 := iM; have a7 := jJ; have bJ := j5; have bK := i0; have eD := i7; have bB := jN; have bL := iX; have bQ := iV; have bR := iN; have bU := jH; have bV := iU; have HB := i9
 clear dP c4 dN dA c7 dM dG dO dI c3 bI b5 e1 jV iM jJ j5 i0 i7 jN iX iV iN jH iU i9 hb cP
 obtain ⟨k5, k2, iO⟩ := Kd.N_slice eD.out
 (first | subst iO | (injection iO with f1_ f2_ f3_; have cW := f1_.symm; have cV := f3_.symm; clear f1_ f2_ f3_; subst cW; subst cV))
 refine hK.out _ _ HS_ (fun hHeld => ?_)
 clear hK K
 refine no_ (N := some 112) ?_
 refine one_ (i := 48) (N := some 113) (fl 57 562949953421311) rfl rfl (y3l HT_.out (by kernel_rfl)) (by decide) (fun K hK => ?_)
 refine gs_ Try.func34 #[.slice k5 iI.length k2] ?_
 with_reducible refine (zq1g.calls k _ _ iI dE _ ?side1 ?side2 mU.out).mono ?_
 (case side1 => exact ck_ (Kd.N_reads' eD.out).2.2)
 (case side2 => exact (Kd.N_reads' eD.out).2.1)
 rintro e nM ⟨rfl, hb⟩
 have HS_ := kp22_ hb hHeld
 refine ⟨_, rfl, ?_⟩
 replace aC := q_ (Kd.N_below (nk_ aC.out) hb)
 replace aJ := q_ (Kd.R_below (rk_ aJ.out) hb)
 replace aI := q_ (Kd.R_below (rk_ aI.out) hb)
 replace aH := q_ (Kd.N_below (nk_ aH.out) hb)
 replace aK := q_ (Kd.N_below (nk_ aK.out) hb)
 replace aE := q_ (Kd.V_below (vk_ aE.out) hb)
 replace aF := q_ (Kd.V_below (vk_ aF.out) hb)
 replace aS := q_ (Kd.N_below (nk_ aS.out) hb)
 replace a0 := q_ (Kd.R_below (rk_ a0.out) hb)
 replace aN := q_ (Kd.R_below (rk_ aN.out) hb)
 replace bZ := q_ (Kd.N_below (nk_ bZ.out) hb)
 replace cR := q_ (Kd.R_below (rk_ cR.out) hb)
 replace bF := q_ (Kd.V_below (vk_ bF.out) hb)
 replace bD := q_ (Kd.V_below (vk_ bD.out) hb)
 replace a8 := q_ (Kd.V_below (vk_ a8.out) hb)
 replace a7 := q_ (Kd.V_below (vk_ a7.out) hb)
 replace bJ := q_ (Kd.V_below (vk_ bJ.out) hb)
 replace bK := q_ (Kd.V_below (vk_ bK.out) hb)
 replace eD := q_ (Kd.N_below (nk_ eD.out) hb)
 replace bB := q_ (Kd.C_below (ck_ bB.out) hb)
 replace bL := q_ (Kd.C_below (ck_ bL.out) hb)
 replace bQ := q_ (Kd.C_below (ck_ bQ.out) hb)
 replace bR := q_ (Kd.C_below (ck_ bR.out) hb)
 replace bU := q_ (Kd.C_below (ck_ bU.out) hb)
 replace bV := q_ (Kd.C_below (ck_ bV.out) hb)
 replace HB := q_ (y0k hb_ hb)
 refine hK.out _ _ HS_ (fun hHeld => ?_)
 clear hK K
 refine no_ (N := some 113) ?_
 refine pv_ 49 (some 114) (fl 57 1125899906842623) ?_
 refine pv_ 50 (some 115) (fl 57 2251799813685247) ?_
 refine pv_ 51 (some 116) (fl 57 4503599627370495) ?_
 refine pv_ 52 (some 117) (fl 57 9007199254740991) ?_
 refine one_ (i := 53) (N := some 118) (fl 57 18014398509481983) rfl rfl (y3l HT_.out (by kernel_rfl)) (by decide) (fun K hK => ?_)
 refine gs_ Try.func34 #[.slice (some aB) aA.length aZ] ?_
 with_reducible refine (zq1g.calls k _ _ aA dR _ ?side1 ?side2 m2.out).mono ?_
 (case side1 => exact ck_ (Kd.N_reads' aC.out).2.2)
 (case side2 => exact (Kd.N_reads' aC.out).2.1)
 rintro e nN ⟨rfl, hb⟩
 have HS_ := kp22_ hb hHeld
 refine ⟨_, rfl, ?_⟩
 replace aC := q_ (Kd.N_below (nk_ aC.out) hb)
 replace aJ := q_ (Kd.R_below (rk_ aJ.out) hb)
 replace aI := q_ (Kd.R_below (rk_ aI.out) hb)
 replace aH := q_ (Kd.N_below (nk_ aH.out) hb)
 replace aK := q_ (Kd.N_below (nk_ aK.out) hb)
 replace aE := q_ (Kd.V_below (vk_ aE.out) hb)
 replace aF := q_ (Kd.V_below (vk_ aF.out) hb)
 replace aS := q_ (Kd.N_below (nk_ aS.out) hb)
 replace a0 := q_ (Kd.R_below (rk_ a0.out) hb)
 replace aN := q_ (Kd.R_below (rk_ aN.out) hb)
 replace bZ := q_ (Kd.N_below (nk_ bZ.out) hb)
 replace cR := q_ (Kd.R_below (rk_ cR.out) hb)
 replace bF := q_ (Kd.V_below (vk_ bF.out) hb)
 replace bD := q_ (Kd.V_below (vk_ bD.out) hb)
 replace a8 := q_ (Kd.V_below (vk_ a8.out) hb)
 replace a7 := q_ (Kd.V_below (vk_ a7.out) hb)
 replace bJ := q_ (Kd.V_below (vk_ bJ.out) hb)
 replace bK := q_ (Kd.V_below (vk_ bK.out) hb)
 replace eD := q_ (Kd.N_below (nk_ eD.out) hb)
 replace bB := q_ (Kd.C_below (ck_ bB.out) hb)
 replace bL := q_ (Kd.C_below (ck_ bL.out) hb)
 replace bQ := q_ (Kd.C_below (ck_ bQ.out) hb)
 replace bR := q_ (Kd.C_below (ck_ bR.out) hb)
 replace bU := q_ (Kd.C_below (ck_ bU.out) hb)
 replace bV := q_ (Kd.C_below (ck_ bV.out) hb)
 replace HB := q_ (y0k hb_ hb)
 refine hK.out _ _ HS_ (fun hHeld => ?_)
 clear hK K
 refine no_ (N := some 118) ?_
 refine pv_ 54 (some 119) (fl 57 36028797018963967) ?_
 refine pv_ 55 (some 120) (fl 57 72057594037927935) ?_
 refine pv_ 56 (some 0) (fl 57 144115188075855871) ?_
 refine done_ (y1s HT_.out (by kernel_rfl)) ?_
 try go_wp2
 go_ret
 exact ⟨ew_, hb_⟩
end Go.Proofs.Ytenlmckahaniiaa.K
end
