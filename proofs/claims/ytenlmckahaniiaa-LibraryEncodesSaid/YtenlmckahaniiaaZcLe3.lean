/- Lemmas for several laws: what their proofs need of this seat's texts, in one place. -/
import Derived.Test.YtenlmckahaniiaaZcLe2
set_option linter.unusedVariables false
set_option linter.unusedSimpArgs false
set_option linter.unusedSectionVars false
set_option maxHeartbeats 8000000
set_option maxRecDepth 100000
section
namespace Go.Proofs.Ytenlmckahaniiaa.K
open Go.RowKit Go.Proofs.YtW.P Go.Proofs.YtW.L
mutual
def zqb.l0 : Nat → List (S62) → Int → Option (Int)
  | 0, _, _ => none
  | k + 1, x0, x3 => if x3 < (x0.length : Int) then (if 0 ≤ x3 then ((zqh.f k ((y4b x0 x3).f0)).bind fun t130 => (if t130 = true then (zqb.l1 k x0 x3 0) else (some 4))) else (none)) else (some 0)
def zqb.l1 : Nat → List (S62) → Int → Int → Option (Int)
  | 0, _, _, _ => none
  | k + 1, x0, x3, x4 => if x4 < x3 then (if 0 ≤ x4 then (if x4 < (x0.length : Int) then (if 0 ≤ x3 then (if x3 < (x0.length : Int) then (if ((y4b x0 x4).f0).toList = ((y4b x0 x3).f0).toList then (some 6) else (zqb.l1 k x0 x3 (wrap64 (x4 + 1)))) else (none)) else (none)) else (none)) else (none)) else (if 0 ≤ x3 then (if x3 < (x0.length : Int) then (if ((y4b x0 x3).f1) < 0 then (some 2) else (if ((y4b x0 x3).f1) > 3 then (some 2) else ((zqx.f ((y4b x0 x3).f2)).bind fun t136 => (if t136 = true then (zqb.l0 k x0 (wrap64 (x3 + 1))) else (some 2))))) else (none)) else (none))
end
def zqb.f (k : Nat) (l0 : List (S62)) : Option (Int) := zqb.l0 k l0 0
theorem zqb.mono_l : ∀ k, (∀ y0 y1, LeO (zqb.l0 k y0 y1) (zqb.l0 (k + 1) y0 y1)) ∧ (∀ y0 y1 y2, LeO (zqb.l1 k y0 y1 y2) (zqb.l1 (k + 1) y0 y1 y2))
 | 0 => ⟨fun _ _ r h => by simp [zqb.l0] at h, fun _ _ _ r h => by simp [zqb.l1] at h⟩
 | k + 1 => by
  obtain ⟨ih0, ih1⟩ := zqb.mono_l k
  refine ⟨?_, ?_⟩
  ·intro y0 y1
   unfold zqb.l0
   with_reducible repeat' first | apply ih0 | apply ih1 | apply zqh.mono | exact LeO.refl _ | exact LeO.none _ | refine LeO.ite ?_ ?_ | refine LeO.bind ?_ (fun _ => ?_)
  ·intro y0 y1 y2
   unfold zqb.l1
   with_reducible repeat' first | apply ih0 | apply ih1 | apply zqh.mono | exact LeO.refl _ | exact LeO.none _ | refine LeO.ite ?_ ?_ | refine LeO.bind ?_ (fun _ => ?_)
theorem zqb.mono : ∀ a0 k, LeO (zqb.f k a0) (zqb.f (k + 1) a0) := by
 intro a0 k
 obtain ⟨ih0, ih1⟩ := zqb.mono_l k
 unfold zqb.f
 with_reducible repeat' first | apply ih0 | apply ih1 | apply zqh.mono | exact LeO.refl _ | exact LeO.none _ | refine LeO.ite ?_ ?_ | refine LeO.bind ?_ (fun _ => ?_)
theorem zqb.calls (k : Nat) (A0 : Option Addr) (c0 : Nat) (l0 : List (S62)) (r : Int) (w : World) (cA : Kd.C k62 w A0 l0.length l0) (b9 : l0.length ≤ c0) (h : zqb.f k l0 = some r) :
  Calls Try.prog 52 #[.slice A0 l0.length c0] w fun e w' => e = .returned (.int .i64 r) ∧ Drawn0 w w' := by
 have aU := q_ cA
 have cF := q_ b9
 clear cA b9
 have H : (zqb.l0 k l0 0) = some r := h
 clear h
 have H' := q_ H
 clear H
 go_enter Try.func52, Try.ntmps52
 go_wp2
 repeat (go_quiet (fail); try go_wp2)
 go_loopg [3] k (fun kq v3 w' => ∃ (aA : Int), v3 = .int .i64 aA ∧ Aside0 (zqb.l0 kq l0 aA = some r) ∧ Aside0 (kq ≤ k) ∧ Drawn0 w w')
 case atStart => exact ⟨(0), cl_, H', ⟨Nat.le_refl _⟩, by repeat (first | exact Drawn0.refl _ | apply Drawn0.step)⟩
 case round =>
  clear H'
  obtain ⟨aA, rfl, HA, HK1, ⟨m1, rfl⟩⟩ := hrel
  obtain _ | k1 := gk
  ·exact nn_ HA
  have H := HA.out
  clear HA
  simp only [zqb.l0] at H
  by_cases c2 : aA < (l0.length : Int)
  rotate_left
  ·rw [if_neg c2] at H
   have b2 := df_ c2
   clear c2
   obtain rfl := Option.some.inj H
   go_wp2
   repeat (go_quiet (fail); try go_wp2)
   go_ret
   exact ⟨by first | rfl | (simp; done) | (simp [y2o]; done) | (simp [*]; done), by repeat (first | exact Drawn0.refl _ | apply Drawn0.step)⟩
  rw [if_pos c2] at H
  have b2 := dt_ c2
  clear c2
  by_cases c3 : 0 ≤ aA
  rotate_left
  ·rw [if_neg c3] at H
   exact absurd H (by simp)
  rw [if_pos c3] at H
  have cB := dt_ c3
  clear c3
  obtain ⟨b3, A4, H⟩ := bq_ H
  (try dsimp only at H)
  by_cases c5 : b3 = true
  rotate_left
  ·replace c5 := Bool.eq_false_iff.mpr c5
   subst c5
   rw [if_neg (show ¬ (false = true) by decide)] at H
   obtain rfl := Option.some.inj H
   have aS : 0 ≤ (aA : Int) := oa_
   have aT : aA < (l0.length : Int) := oa_
   obtain ⟨aB, bP, bK, bH, bB, bJ⟩ := y0e aU.out aA aS aT
   cases bP
   replace aS := eq_true aS
   replace aT := eq_true aT
   go_wp2_with (first | (go_at_call 51; (with_reducible refine (zqh.calls k1 ((y4b l0 aA).f0) false _ A4.out).mono ?_); rintro e w' ⟨rfl, ⟨nd, rfl⟩⟩; (try first | exact ⟨rfl, _, World.drewN_drewN _ _ _⟩ | exact ⟨rfl, _, Eq.trans (World.drewN_drewN _ _ _) (congrArg (World.drewN _) (Nat.add_assoc _ _ _))⟩)))
   repeat (go_quiet (first | (go_at_call 51; (with_reducible refine (zqh.calls k1 ((y4b l0 aA).f0) false _ A4.out).mono ?_); rintro e w' ⟨rfl, ⟨nd, rfl⟩⟩; (try first | exact ⟨rfl, _, World.drewN_drewN _ _ _⟩ | exact ⟨rfl, _, Eq.trans (World.drewN_drewN _ _ _) (congrArg (World.drewN _) (Nat.add_assoc _ _ _))⟩))); try go_wp2_with (first | (go_at_call 51; (with_reducible refine (zqh.calls k1 ((y4b l0 aA).f0) false _ A4.out).mono ?_); rintro e w' ⟨rfl, ⟨nd, rfl⟩⟩; (try first | exact ⟨rfl, _, World.drewN_drewN _ _ _⟩ | exact ⟨rfl, _, Eq.trans (World.drewN_drewN _ _ _) (congrArg (World.drewN _) (Nat.add_assoc _ _ _))⟩))))
   go_ret
   exact ⟨by first | rfl | (simp; done) | (simp [y2o]; done) | (simp [*]; done), by repeat (first | exact Drawn0.refl _ | apply Drawn0.step)⟩
  subst c5
  rw [if_pos rfl] at H
  have H' := q_ H
  clear H
  have aS : 0 ≤ (aA : Int) := oa_
  have aT : aA < (l0.length : Int) := oa_
  obtain ⟨aB, bP, bK, bH, bB, bJ⟩ := y0e aU.out aA aS aT
  cases bP
  replace aS := eq_true aS
  replace aT := eq_true aT
  go_wp2_with (first | (go_at_call 51; (with_reducible refine (zqh.calls k1 ((y4b l0 aA).f0) true _ A4.out).mono ?_); rintro e w' ⟨rfl, ⟨nd, rfl⟩⟩; (try first | exact ⟨rfl, _, World.drewN_drewN _ _ _⟩ | exact ⟨rfl, _, Eq.trans (World.drewN_drewN _ _ _) (congrArg (World.drewN _) (Nat.add_assoc _ _ _))⟩)))
  repeat (go_quiet (first | (go_at_call 51; (with_reducible refine (zqh.calls k1 ((y4b l0 aA).f0) true _ A4.out).mono ?_); rintro e w' ⟨rfl, ⟨nd, rfl⟩⟩; (try first | exact ⟨rfl, _, World.drewN_drewN _ _ _⟩ | exact ⟨rfl, _, Eq.trans (World.drewN_drewN _ _ _) (congrArg (World.drewN _) (Nat.add_assoc _ _ _))⟩))); try go_wp2_with (first | (go_at_call 51; (with_reducible refine (zqh.calls k1 ((y4b l0 aA).f0) true _ A4.out).mono ?_); rintro e w' ⟨rfl, ⟨nd, rfl⟩⟩; (try first | exact ⟨rfl, _, World.drewN_drewN _ _ _⟩ | exact ⟨rfl, _, Eq.trans (World.drewN_drewN _ _ _) (congrArg (World.drewN _) (Nat.add_assoc _ _ _))⟩))))
  go_loopg [4] k1 (fun kq v4 w' => ∃ (aE : Int), v4 = .int .i64 aE ∧ Aside0 (zqb.l1 kq l0 aA aE = some r) ∧ Aside0 (kq ≤ k1) ∧ Drawn0 w w')
  case atStart => exact ⟨(0), cl_, H', ⟨Nat.le_refl _⟩, by repeat (first | exact Drawn0.refl _ | apply Drawn0.step)⟩
  case round =>
   clear H'
   obtain ⟨aE, rfl, HA, bZ, ⟨m2, rfl⟩⟩ := hrel
   obtain _ | k2 := gk
   ·exact nn_ HA
   have H := HA.out
   clear HA
   simp only [zqb.l1] at H
   by_cases c6 : aE < aA
   ·rw [if_pos c6] at H
    have b4 := dt_ c6
    clear c6
    by_cases c7 : 0 ≤ aE
    rotate_left
    ·rw [if_neg c7] at H
     exact absurd H (by simp)
    rw [if_pos c7] at H
    have cD := dt_ c7
    clear c7
    by_cases c8 : aE < (l0.length : Int)
    rotate_left
    ·rw [if_neg c8] at H
     exact absurd H (by simp)
    rw [if_pos c8] at H
    have cC := dt_ c8
    clear c8
    by_cases c9 : 0 ≤ aA
    rotate_left
    ·rw [if_neg c9] at H
     exact absurd H (by simp)
    rw [if_pos c9] at H
    have cE := dt_ c9
    clear c9
    by_cases b1 : aA < (l0.length : Int)
    rotate_left
    ·rw [if_neg b1] at H
     exact absurd H (by simp)
    rw [if_pos b1] at H
    have b7 := dt_ b1
    clear b1
    by_cases bM : ((y4b l0 aE).f0).toList = ((y4b l0 aA).f0).toList
    ·rw [if_pos bM] at H
     have bW := et_ bM
     have bV := nf_ bM
     clear bM
     obtain rfl := Option.some.inj H
     have aO : 0 ≤ (aE : Int) := oa_
     have aP : aE < (l0.length : Int) := oa_
     obtain ⟨a4, bN, bI, bA, bC, bE⟩ := y0e aU.out aE aO aP
     obtain rfl : aB = a4 := (by injection bN)
     replace aO := eq_true aO
     replace aP := eq_true aP
     have aW : 0 ≤ (aA : Int) := oa_
     have aQ : aA < (l0.length : Int) := oa_
     obtain ⟨a3, bL, a6, bG, bF, a8⟩ := y0e aU.out aA aW aQ
     obtain rfl : aB = a3 := (by injection bL)
     replace aW := eq_true aW
     replace aQ := eq_true aQ
     go_wp2
     repeat (go_quiet (fail); try go_wp2)
     go_ret
     exact ⟨by first | rfl | (simp; done) | (simp [y2o]; done) | (simp [*]; done), by repeat (first | exact Drawn0.refl _ | apply Drawn0.step)⟩
    rw [if_neg bM] at H
    have bW := ef_ bM
    have bV := nt_ bM
    have H' := q_ H
    clear H
    have aO : 0 ≤ (aE : Int) := oa_
    have aP : aE < (l0.length : Int) := oa_
    obtain ⟨a4, bN, bI, bA, bC, bE⟩ := y0e aU.out aE aO aP
    obtain rfl : aB = a4 := (by injection bN)
    replace aO := eq_true aO
    replace aP := eq_true aP
    have aW : 0 ≤ (aA : Int) := oa_
    have aQ : aA < (l0.length : Int) := oa_
    obtain ⟨a3, bL, a6, bG, bF, a8⟩ := y0e aU.out aA aW aQ
    obtain rfl : aB = a3 := (by injection bL)
    replace aW := eq_true aW
    replace aQ := eq_true aQ
    go_wp2
    repeat (go_quiet (fail); try go_wp2)
    go_roundg k2
    case measure => have := HK1.out; have := bZ.out; omega
    case rel => exact ⟨(wrap64 (aE + 1)), cl_, H', ⟨by have := HK1.out; have := bZ.out; omega⟩, by repeat (first | exact Drawn0.refl _ | apply Drawn0.step)⟩
   rw [if_neg c6] at H
   have b4 := df_ c6
   clear c6
   by_cases b0 : 0 ≤ aA
   rotate_left
   ·rw [if_neg b0] at H
    exact absurd H (by simp)
   rw [if_pos b0] at H
   have b8 := dt_ b0
   clear b0
   by_cases bY : aA < (l0.length : Int)
   rotate_left
   ·rw [if_neg bY] at H
    exact absurd H (by simp)
   rw [if_pos bY] at H
   have b6 := dt_ bY
   clear bY
   by_cases bR : ((y4b l0 aA).f1) < 0
   ·rw [if_pos bR] at H
    have bT := dt_ bR
    clear bR
    obtain rfl := Option.some.inj H
    have aD : 0 ≤ (aA : Int) := oa_
    have aC : aA < (l0.length : Int) := oa_
    obtain ⟨aH, aN, aI, aK, aJ, aL⟩ := y0e aU.out aA aD aC
    obtain rfl : aB = aH := (by injection aN)
    replace aD := eq_true aD
    replace aC := eq_true aC
    go_wp2
    repeat (go_quiet (fail); try go_wp2)
    go_ret
    exact ⟨by first | rfl | (simp; done) | (simp [y2o]; done) | (simp [*]; done), by repeat (first | exact Drawn0.refl _ | apply Drawn0.step)⟩
   rw [if_neg bR] at H
   have bT := df_ bR
   clear bR
   by_cases bQ : ((y4b l0 aA).f1) > 3
   ·rw [if_pos bQ] at H
    have bU := dt_ bQ
    clear bQ
    obtain rfl := Option.some.inj H
    have aD : 0 ≤ (aA : Int) := oa_
    have aC : aA < (l0.length : Int) := oa_
    obtain ⟨aH, aN, aI, aK, aJ, aL⟩ := y0e aU.out aA aD aC
    obtain rfl : aB = aH := (by injection aN)
    replace aD := eq_true aD
    replace aC := eq_true aC
    have aG : 0 ≤ (aA : Int) := oa_
    have aF : aA < (l0.length : Int) := oa_
    obtain ⟨aM, a2, aZ, aX, aY, a0⟩ := y0e aU.out aA aG aF
    obtain rfl : aB = aM := (by injection a2)
    replace aG := eq_true aG
    replace aF := eq_true aF
    go_wp2
    repeat (go_quiet (fail); try go_wp2)
    go_ret
    exact ⟨by first | rfl | (simp; done) | (simp [y2o]; done) | (simp [*]; done), by repeat (first | exact Drawn0.refl _ | apply Drawn0.step)⟩
   rw [if_neg bQ] at H
   have bU := df_ bQ
   clear bQ
   obtain ⟨b5, bS, H⟩ := bq_ H
   (try dsimp only at H)
   by_cases bX : b5 = true
   rotate_left
   ·replace bX := Bool.eq_false_iff.mpr bX
    subst bX
    rw [if_neg (show ¬ (false = true) by decide)] at H
    obtain rfl := Option.some.inj H
    have aD : 0 ≤ (aA : Int) := oa_
    have aC : aA < (l0.length : Int) := oa_
    obtain ⟨aH, aN, aI, aK, aJ, aL⟩ := y0e aU.out aA aD aC
    obtain rfl : aB = aH := (by injection aN)
    replace aD := eq_true aD
    replace aC := eq_true aC
    have aG : 0 ≤ (aA : Int) := oa_
    have aF : aA < (l0.length : Int) := oa_
    obtain ⟨aM, a2, aZ, aX, aY, a0⟩ := y0e aU.out aA aG aF
    obtain rfl : aB = aM := (by injection a2)
    replace aG := eq_true aG
    replace aF := eq_true aF
    have aR : 0 ≤ (aA : Int) := oa_
    have aV : aA < (l0.length : Int) := oa_
    obtain ⟨a1, bO, a9, a7, bD, a5⟩ := y0e aU.out aA aR aV
    obtain rfl : aB = a1 := (by injection bO)
    replace aR := eq_true aR
    replace aV := eq_true aV
    go_wp2_with (first | (go_at_call 88; (with_reducible refine (zqx.calls ((y4b l0 aA).f2) false _ bS.out).mono ?_); rintro e w' ⟨rfl, ⟨nd, rfl⟩⟩; (try first | exact ⟨rfl, _, World.drewN_drewN _ _ _⟩ | exact ⟨rfl, _, Eq.trans (World.drewN_drewN _ _ _) (congrArg (World.drewN _) (Nat.add_assoc _ _ _))⟩)))
    repeat (go_quiet (first | (go_at_call 88; (with_reducible refine (zqx.calls ((y4b l0 aA).f2) false _ bS.out).mono ?_); rintro e w' ⟨rfl, ⟨nd, rfl⟩⟩; (try first | exact ⟨rfl, _, World.drewN_drewN _ _ _⟩ | exact ⟨rfl, _, Eq.trans (World.drewN_drewN _ _ _) (congrArg (World.drewN _) (Nat.add_assoc _ _ _))⟩))); try go_wp2_with (first | (go_at_call 88; (with_reducible refine (zqx.calls ((y4b l0 aA).f2) false _ bS.out).mono ?_); rintro e w' ⟨rfl, ⟨nd, rfl⟩⟩; (try first | exact ⟨rfl, _, World.drewN_drewN _ _ _⟩ | exact ⟨rfl, _, Eq.trans (World.drewN_drewN _ _ _) (congrArg (World.drewN _) (Nat.add_assoc _ _ _))⟩))))
    go_ret
    exact ⟨by first | rfl | (simp; done) | (simp [y2o]; done) | (simp [*]; done), by repeat (first | exact Drawn0.refl _ | apply Drawn0.step)⟩
   subst bX
   rw [if_pos rfl] at H
   have H' := q_ H
   clear H
   have aD : 0 ≤ (aA : Int) := oa_
   have aC : aA < (l0.length : Int) := oa_
   obtain ⟨aH, aN, aI, aK, aJ, aL⟩ := y0e aU.out aA aD aC
   obtain rfl : aB = aH := (by injection aN)
   replace aD := eq_true aD
   replace aC := eq_true aC
   have aG : 0 ≤ (aA : Int) := oa_
   have aF : aA < (l0.length : Int) := oa_
   obtain ⟨aM, a2, aZ, aX, aY, a0⟩ := y0e aU.out aA aG aF
   obtain rfl : aB = aM := (by injection a2)
   replace aG := eq_true aG
   replace aF := eq_true aF
   have aR : 0 ≤ (aA : Int) := oa_
   have aV : aA < (l0.length : Int) := oa_
   obtain ⟨a1, bO, a9, a7, bD, a5⟩ := y0e aU.out aA aR aV
   obtain rfl : aB = a1 := (by injection bO)
   replace aR := eq_true aR
   replace aV := eq_true aV
   go_wp2_with (first | (go_at_call 88; (with_reducible refine (zqx.calls ((y4b l0 aA).f2) true _ bS.out).mono ?_); rintro e w' ⟨rfl, ⟨nd, rfl⟩⟩; (try first | exact ⟨rfl, _, World.drewN_drewN _ _ _⟩ | exact ⟨rfl, _, Eq.trans (World.drewN_drewN _ _ _) (congrArg (World.drewN _) (Nat.add_assoc _ _ _))⟩)))
   repeat (go_quiet (first | (go_at_call 88; (with_reducible refine (zqx.calls ((y4b l0 aA).f2) true _ bS.out).mono ?_); rintro e w' ⟨rfl, ⟨nd, rfl⟩⟩; (try first | exact ⟨rfl, _, World.drewN_drewN _ _ _⟩ | exact ⟨rfl, _, Eq.trans (World.drewN_drewN _ _ _) (congrArg (World.drewN _) (Nat.add_assoc _ _ _))⟩))); try go_wp2_with (first | (go_at_call 88; (with_reducible refine (zqx.calls ((y4b l0 aA).f2) true _ bS.out).mono ?_); rintro e w' ⟨rfl, ⟨nd, rfl⟩⟩; (try first | exact ⟨rfl, _, World.drewN_drewN _ _ _⟩ | exact ⟨rfl, _, Eq.trans (World.drewN_drewN _ _ _) (congrArg (World.drewN _) (Nat.add_assoc _ _ _))⟩))))
   go_roundg k2
   case measure => have := HK1.out; have := bZ.out; omega
   case rel => exact ⟨(wrap64 (aA + 1)), cl_, H', ⟨by have := HK1.out; have := bZ.out; omega⟩, by repeat (first | exact Drawn0.refl _ | apply Drawn0.step)⟩
end Go.Proofs.Ytenlmckahaniiaa.K
end
section
namespace Go.Proofs.Ytenlmckahaniiaa.K
open Go.RowKit Go.Proofs.YtW.P Go.Proofs.YtW.L
mutual
def zqp.j0 : Nat → Int → Int → Int → Int → ByteArray → Bool → Int → Int → Int → ByteArray → Bool → Option (Int)
  | 0, _, _, _, _, _, _, _, _, _, _, _ => none
  | k + 1, x7, x139000, x139001, x139002, x139003, x139004, x140000, x140001, x140002, x140003, x140004 => if x139000 = 1 then (if x139001 < 0 then (zqp.j1 k true x139000 x139001 x139002 x139003 x139004 x140000 x140001 x140002 x140003 x140004) else (if (Int.tmod x139001 2) = 0 then (zqp.j1 k (decide (x139001 > (wrap64 (x7 - 2)))) x139000 x139001 x139002 x139003 x139004 x140000 x140001 x140002 x140003 x140004) else (zqp.j1 k true x139000 x139001 x139002 x139003 x139004 x140000 x140001 x140002 x140003 x140004))) else (if x139000 = 2 then (if x139001 < 0 then (zqp.j1 k true x139000 x139001 x139002 x139003 x139004 x140000 x140001 x140002 x140003 x140004) else (if (Int.tmod x139001 2) = 0 then (zqp.j1 k (decide (x139001 > (wrap64 (x7 - 2)))) x139000 x139001 x139002 x139003 x139004 x140000 x140001 x140002 x140003 x140004) else (zqp.j1 k true x139000 x139001 x139002 x139003 x139004 x140000 x140001 x140002 x140003 x140004))) else (zqp.j1 k true x139000 x139001 x139002 x139003 x139004 x140000 x140001 x140002 x140003 x140004))
def zqp.j1 : Nat → Bool → Int → Int → Int → ByteArray → Bool → Int → Int → Int → ByteArray → Bool → Option (Int)
  | 0, _, _, _, _, _, _, _, _, _, _, _ => none
  | k + 1, x42, x139000, x139001, x139002, x139003, x139004, x140000, x140001, x140002, x140003, x140004 => if x42 = true then (some 2) else (if x140000 > x139000 then (zqp.j2 k true x139000 x139001 x139002 x139003 x139004) else (if x140000 = x139000 then (zqp.j2 k (decide (x140001 ≥ x139001)) x139000 x139001 x139002 x139003 x139004) else (zqp.j2 k false x139000 x139001 x139002 x139003 x139004)))
def zqp.j2 : Nat → Bool → Int → Int → Int → ByteArray → Bool → Option (Int)
  | 0, _, _, _, _, _, _ => none
  | k + 1, x61, x139000, x139001, x139002, x139003, x139004 => if x61 = true then (some 2) else (if x139002 < 0 then (zqp.j3 k true x139000 x139001 x139002 x139003 x139004) else (if x139002 > 4 then (zqp.j3 k true x139000 x139001 x139002 x139003 x139004) else (if x139002 = 0 then (zqp.j3 k (!x139004) x139000 x139001 x139002 x139003 x139004) else (zqp.j3 k false x139000 x139001 x139002 x139003 x139004))))
def zqp.j3 : Nat → Bool → Int → Int → Int → ByteArray → Bool → Option (Int)
  | 0, _, _, _, _, _, _ => none
  | k + 1, x79, x139000, x139001, x139002, x139003, x139004 => if x79 = true then (some 2) else (if x139002 = 4 then ((zqh.f k x139003).bind fun t140 => (if t140 = true then (some 0) else (some 4))) else (if x139003.toList = ([] : List UInt8) then (some 0) else (some 4)))
end
def zqp.f (k : Nat) (a0_0 : ByteArray) (a0_1 : ByteArray) (a0_2 : ByteArray) (a0_3 : Int) (l0_4 : List (S62)) (l0_5 : List (S43)) (a1_0 : Int) (a1_1 : Int) (a1_2 : Int) (a1_3 : ByteArray) (a1_4 : Bool) (a2_0 : Int) (a2_1 : Int) (a2_2 : Int) (a2_3 : ByteArray) (a2_4 : Bool) : Option (Int) := if a1_0 = 2 then (zqp.j0 k (a0_2.size : Int) a1_0 a1_1 a1_2 a1_3 a1_4 a2_0 a2_1 a2_2 a2_3 a2_4) else (zqp.j0 k (a0_1.size : Int) a1_0 a1_1 a1_2 a1_3 a1_4 a2_0 a2_1 a2_2 a2_3 a2_4)
theorem zqp.mono_l : ∀ k, (∀ y0 y1 y2 y3 y4 y5 y6 y7 y8 y9 y10, LeO (zqp.j0 k y0 y1 y2 y3 y4 y5 y6 y7 y8 y9 y10) (zqp.j0 (k + 1) y0 y1 y2 y3 y4 y5 y6 y7 y8 y9 y10)) ∧ (∀ y0 y1 y2 y3 y4 y5 y6 y7 y8 y9 y10, LeO (zqp.j1 k y0 y1 y2 y3 y4 y5 y6 y7 y8 y9 y10) (zqp.j1 (k + 1) y0 y1 y2 y3 y4 y5 y6 y7 y8 y9 y10)) ∧ (∀ y0 y1 y2 y3 y4 y5, LeO (zqp.j2 k y0 y1 y2 y3 y4 y5) (zqp.j2 (k + 1) y0 y1 y2 y3 y4 y5)) ∧ (∀ y0 y1 y2 y3 y4 y5, LeO (zqp.j3 k y0 y1 y2 y3 y4 y5) (zqp.j3 (k + 1) y0 y1 y2 y3 y4 y5))
 | 0 => ⟨fun _ _ _ _ _ _ _ _ _ _ _ r h => by simp [zqp.j0] at h, fun _ _ _ _ _ _ _ _ _ _ _ r h => by simp [zqp.j1] at h, fun _ _ _ _ _ _ r h => by simp [zqp.j2] at h, fun _ _ _ _ _ _ r h => by simp [zqp.j3] at h⟩
 | k + 1 => by
  obtain ⟨ih0, ih1, ih2, ih3⟩ := zqp.mono_l k
  refine ⟨?_, ?_, ?_, ?_⟩
  ·intro y0 y1 y2 y3 y4 y5 y6 y7 y8 y9 y10
   unfold zqp.j0
   with_reducible repeat' first | apply ih0 | apply ih1 | apply ih2 | apply ih3 | apply zqh.mono | exact LeO.refl _ | exact LeO.none _ | refine LeO.ite ?_ ?_ | refine LeO.bind ?_ (fun _ => ?_)
  ·intro y0 y1 y2 y3 y4 y5 y6 y7 y8 y9 y10
   unfold zqp.j1
   with_reducible repeat' first | apply ih0 | apply ih1 | apply ih2 | apply ih3 | apply zqh.mono | exact LeO.refl _ | exact LeO.none _ | refine LeO.ite ?_ ?_ | refine LeO.bind ?_ (fun _ => ?_)
  ·intro y0 y1 y2 y3 y4 y5
   unfold zqp.j2
   with_reducible repeat' first | apply ih0 | apply ih1 | apply ih2 | apply ih3 | apply zqh.mono | exact LeO.refl _ | exact LeO.none _ | refine LeO.ite ?_ ?_ | refine LeO.bind ?_ (fun _ => ?_)
  ·intro y0 y1 y2 y3 y4 y5
   unfold zqp.j3
   with_reducible repeat' first | apply ih0 | apply ih1 | apply ih2 | apply ih3 | apply zqh.mono | exact LeO.refl _ | exact LeO.none _ | refine LeO.ite ?_ ?_ | refine LeO.bind ?_ (fun _ => ?_)
theorem zqp.mono : ∀ a0 a1 a2 a3 a4 a5 a6 a7 a8 a9 a10 a11 a12 a13 a14 a15 k, LeO (zqp.f k a0 a1 a2 a3 a4 a5 a6 a7 a8 a9 a10 a11 a12 a13 a14 a15) (zqp.f (k + 1) a0 a1 a2 a3 a4 a5 a6 a7 a8 a9 a10 a11 a12 a13 a14 a15) := by
 intro a0 a1 a2 a3 a4 a5 a6 a7 a8 a9 a10 a11 a12 a13 a14 a15 k
 obtain ⟨ih0, ih1, ih2, ih3⟩ := zqp.mono_l k
 unfold zqp.f
 with_reducible repeat' first | apply ih0 | apply ih1 | apply ih2 | apply ih3 | apply zqh.mono | exact LeO.refl _ | exact LeO.none _ | refine LeO.ite ?_ ?_ | refine LeO.bind ?_ (fun _ => ?_)
theorem zqp.calls (k : Nat) (bA : ByteArray) (aY : ByteArray) (aV : ByteArray) (a9 : Int) (a6 : Option Addr) (a4 : Nat) (aT : List (S62)) (a8 : Option Addr) (a7 : Nat) (aU : List (S43)) (aK : Int) (aJ : Int) (aL : Int) (aM : ByteArray) (aN : Bool) (aO : Int) (aP : Int) (aQ : Int) (aS : ByteArray) (aR : Bool) (r : Int) (w : World) (bI : Kd.C k62 w a6 aT.length aT) (bK : aT.length ≤ a4) (bJ : Kd.C k43 w a8 aU.length aU) (bH : aU.length ≤ a7) (h : zqp.f k bA aY aV a9 aT aU aK aJ aL aM aN aO aP aQ aS aR = some r) :
  Calls Try.prog 53 #[.agg #[.string bA, .string aY, .string aV, .int .i64 a9, .slice a6 aT.length a4, .slice a8 aU.length a7], .agg #[.int .i64 aK, .int .i64 aJ, .int .i64 aL, .string aM, .bool aN], .agg #[.int .i64 aO, .int .i64 aP, .int .i64 aQ, .string aS, .bool aR]] w fun e w' => e = .returned (.int .i64 r) ∧ Below w.heap.size w w' := by
 have mC := Try.underlying25
 have mJ := Try.underlying43
 have jX := q_ bI
 have k6 := q_ bK
 clear bI bK
 have kZ := q_ bJ
 have lB := q_ bH
 clear bJ bH
 have HB := q_ (Below.refl w.heap.size w)
 have H : (if aK = 2 then (zqp.j0 k (aV.size : Int) aK aJ aL aM aN aO aP aQ aS aR) else (zqp.j0 k (aY.size : Int) aK aJ aL aM aN aO aP aQ aS aR)) = some r := h
 clear h
 have jI := q_ H
 clear H
 go_enter Try.func53, Try.ntmps53
 go_upto_if 13 with (first | (refine gd_ 3 ?_; refine bx_ 3 (cs := #[.string bA, .string aY, .string aV, .int .i64 a9, .slice a6 aT.length a4, .slice a8 aU.length a7]) 25 ?_; intro bB hg w5 hbox hb; have aF := q_ (hbox); have kN := gw_ w hg (y0j hb_); have kR := gw_ w hg (y0j hb_); replace HB := q_ (y0k hb_ hb); clear hb hbox hg) | (refine gd_ 4 ?_; refine bx_ 4 (cs := #[.int .i64 aK, .int .i64 aJ, .int .i64 aL, .string aM, .bool aN]) 43 ?_; intro bD hg w6 hbox hb; have aE := q_ (hbox); have lJ := gw_ w hg (y0j hb_); have jQ := gw_ w hg (y0j hb_); replace HB := q_ (y0k hb_ hb); have aB := nl_ hg (bk_ aF.out); have aA := ng_ hg (bk_ aF.out); replace aF := q_ (y0n (bk_ aF.out) hb); clear hb hbox hg) | (refine gd_ 5 ?_; refine bx_ 5 (cs := #[.int .i64 aO, .int .i64 aP, .int .i64 aQ, .string aS, .bool aR]) 43 ?_; intro bC hg w7 hbox hb; have aG := q_ (hbox); have lH := gw_ w hg (y0j hb_); have j5 := gw_ w hg (y0j hb_); replace HB := q_ (y0k hb_ hb); have aH := nl_ hg (bk_ aF.out); have aI := ng_ hg (bk_ aF.out); replace aF := q_ (y0n (bk_ aF.out) hb); have aD := nl_ hg (bk_ aE.out); have aC := ng_ hg (bk_ aE.out); replace aE := q_ (y0n (bk_ aE.out) hb); clear hb hbox hg; have mI := aB.out; have mB := aA.out; have mE := aH.out; have mF := aI.out; obtain ⟨f5, g8, fY, gW, g2, gI, e1, eZ, fD, dB, fV, f8⟩ := b6_ aF.out; have lR := aD.out; have kL := aC.out; obtain ⟨d7, f9, fM, gZ, dW, iU, dV, gP, fX, cR⟩ := b5_ aE.out))
 (try simp only [Act.put, List.setIfInBounds_toArray, List.set_cons_zero, List.set_cons_succ])
 go_cut [7] (fun v7 wc => ∃ (kq : Nat) (bF : Int), v7 = .int .i64 bF ∧ Aside0 (zqp.j0 kq bF aK aJ aL aM aN aO aP aQ aS aR = some r) ∧ Aside0 (kq ≤ k) ∧ Aside0 (wc.heap[bB]? = some (.cells #[.string bA, .string aY, .string aV, .int .i64 a9, (.slice a6 aT.length a4), (.slice a8 aU.length a7)] 25 (0, 0))) ∧ Aside0 (wc.heap[bD]? = some (.cells #[.int .i64 aK, .int .i64 aJ, .int .i64 aL, .string aM, .bool aN] 43 (0, 0))) ∧ Aside0 (wc.heap[bC]? = some (.cells #[.int .i64 aO, .int .i64 aP, .int .i64 aQ, .string aS, .bool aR] 43 (0, 0))) ∧ Aside0 (Below w.heap.size w wc))
 case first =>
  have H := jI.out
  clear jI
  by_cases bP : aK = 2
  rotate_left
  ·rw [if_neg bP] at H
   have a1 := ef_ bP
   have cF := nt_ bP
   (first | rw [a1] | (simp only [y2h, y2g]; rw [a1]) | skip)
   have H' := q_ H
   clear H
   go_wp2
   go_meet
   case rel => exact ⟨_, ((aY.size : Int)), cl_, H', ⟨oz_⟩, ⟨bk_ aF.out⟩, ⟨bk_ aE.out⟩, ⟨bk_ aG.out⟩, ⟨hb_⟩⟩
  rw [if_pos bP] at H
  have a1 := et_ bP
  have cF := nf_ bP
  clear bP
  (first | rw [a1] | (simp only [y2h, y2g]; rw [a1]) | skip)
  have H' := q_ H
  clear H
  have kG := aB.out
  have kH := aA.out
  have lE := aH.out
  have jU := aI.out
  obtain ⟨fF, iH, dT, dS, gM, g9, dK, cW, gL, e7, iC, dX⟩ := b6_ aF.out
  go_wp2
  go_meet
  case rel => exact ⟨_, ((aV.size : Int)), cl_, H', ⟨oz_⟩, ⟨bk_ aF.out⟩, ⟨bk_ aE.out⟩, ⟨bk_ aG.out⟩, ⟨hb_⟩⟩
 clear jI
 obtain ⟨kq, bF, rfl, HA, bE, aF, aE, aG, HB⟩ := hcut
 obtain _ | kj3 := kq
 ·exact nn_ HA
 have H := HA.out
 clear HA
 simp only [zqp.j0] at H
 have bN := q_ H
 clear H
 go_upto_region 4 with (fail)
 go_cut [42] (fun mD wc => ∃ (kq : Nat) (aX : Bool), mD = .bool aX ∧ Aside0 (zqp.j1 kq aX aK aJ aL aM aN aO aP aQ aS aR = some r) ∧ Aside0 (kq ≤ kj3) ∧ Aside0 (wc.heap[bB]? = some (.cells #[.string bA, .string aY, .string aV, .int .i64 a9, (.slice a6 aT.length a4), (.slice a8 aU.length a7)] 25 (0, 0))) ∧ Aside0 (wc.heap[bD]? = some (.cells #[.int .i64 aK, .int .i64 aJ, .int .i64 aL, .string aM, .bool aN] 43 (0, 0))) ∧ Aside0 (wc.heap[bC]? = some (.cells #[.int .i64 aO, .int .i64 aP, .int .i64 aQ, .string aS, .bool aR] 43 (0, 0))) ∧ Aside0 (Below w.heap.size w wc))
 case first =>
  have H := bN.out
  clear bN
  by_cases bO : aK = 1
  ·rw [if_pos bO] at H
   have a3 := et_ bO
   have b8 := nf_ bO
   clear bO
   (first | rw [a3] | (simp only [y2h, y2g]; rw [a3]) | skip)
   by_cases bZ : aJ < 0
   ·rw [if_pos bZ] at H
    have cG := dt_ bZ
    clear bZ
    have H' := q_ H
    clear H
    have j6 := aA.out
    have lA := aB.out
    have kC := aD.out
    have l4 := aC.out
    obtain ⟨gU, dN, gS, fR, dL, c5, gE, e6, cU, e8⟩ := b5_ aE.out
    go_wp2
    go_meet
    case rel => exact ⟨_, (true), cl_, H', ⟨by have := bE.out; first | omega | exact Nat.le_refl _⟩, ⟨bk_ aF.out⟩, ⟨bk_ aE.out⟩, ⟨bk_ aG.out⟩, ⟨hb_⟩⟩
   rw [if_neg bZ] at H
   have cG := df_ bZ
   clear bZ
   by_cases bV : (Int.tmod aJ 2) = 0
   rotate_left
   ·rw [if_neg bV] at H
    have b5 := ef_ bV
    have cA := nt_ bV
    have H' := q_ H
    clear H
    have kO := aA.out
    have l9 := aB.out
    have jT := aD.out
    have lV := aC.out
    obtain ⟨g7, g4, eH, c9, cN, iE, gN, dD, hR, fC⟩ := b5_ aE.out
    go_wp2
    go_meet
    case rel => exact ⟨_, (true), cl_, H', ⟨by have := bE.out; first | omega | exact Nat.le_refl _⟩, ⟨bk_ aF.out⟩, ⟨bk_ aE.out⟩, ⟨bk_ aG.out⟩, ⟨hb_⟩⟩
   rw [if_pos bV] at H
   have b5 := et_ bV
   have cA := nf_ bV
   clear bV
   have H' := q_ H
   clear H
   have lT := aA.out
   have j9 := aB.out
   have lG := aD.out
   have lS := aC.out
   obtain ⟨i6, gY, hK, fI, eK, hX, eX, hL, cX, hB⟩ := b5_ aE.out
   go_wp2
   go_meet
   case rel => exact ⟨_, (decide (aJ > (wrap64 (bF - 2)))), cl_, H', ⟨by have := bE.out; first | omega | exact Nat.le_refl _⟩, ⟨bk_ aF.out⟩, ⟨bk_ aE.out⟩, ⟨bk_ aG.out⟩, ⟨hb_⟩⟩
  rw [if_neg bO] at H
  have a3 := ef_ bO
  have b8 := nt_ bO
  (first | rw [a3] | (simp only [y2h, y2g]; rw [a3]) | skip)
  by_cases bS : aK = 2
  rotate_left
  ·rw [if_neg bS] at H
   have cB := ef_ bS
   have b6 := nt_ bS
   have H' := q_ H
   clear H
   have kP := aA.out
   have k0 := aB.out
   have lI := aD.out
   have kI := aC.out
   obtain ⟨iR, h5, eQ, f3, gC, i4, iF, iO, hS, cP⟩ := b5_ aE.out
   go_wp2
   go_meet
   case rel => exact ⟨_, (true), cl_, H', ⟨by have := bE.out; first | omega | exact Nat.le_refl _⟩, ⟨bk_ aF.out⟩, ⟨bk_ aE.out⟩, ⟨bk_ aG.out⟩, ⟨hb_⟩⟩
  rw [if_pos bS] at H
  have cB := et_ bS
  have b6 := nf_ bS
  clear bS
  by_cases b0 : aJ < 0
  ·rw [if_pos b0] at H
   have b2 := dt_ b0
   clear b0
   have H' := q_ H
   clear H
   have kA := aA.out
   have lQ := aB.out
   have j7 := aD.out
   have kU := aC.out
   obtain ⟨hC, d3, dQ, d5, iJ, iI, c2, dY, gH, eY⟩ := b5_ aE.out
   go_wp2
   go_meet
   case rel => exact ⟨_, (true), cl_, H', ⟨by have := bE.out; first | omega | exact Nat.le_refl _⟩, ⟨bk_ aF.out⟩, ⟨bk_ aE.out⟩, ⟨bk_ aG.out⟩, ⟨hb_⟩⟩
  rw [if_neg b0] at H
  have b2 := df_ b0
  clear b0
  by_cases bR : (Int.tmod aJ 2) = 0
  rotate_left
  ·rw [if_neg bR] at H
   have cH := ef_ bR
   have cJ := nt_ bR
   have H' := q_ H
   clear H
   have l1 := aA.out
   have kJ := aB.out
   have jV := aD.out
   have jO := aC.out
   obtain ⟨jE, h9, dI, fN, iN, d4, hP, fE, c0, h1⟩ := b5_ aE.out
   go_wp2
   go_meet
   case rel => exact ⟨_, (true), cl_, H', ⟨by have := bE.out; first | omega | exact Nat.le_refl _⟩, ⟨bk_ aF.out⟩, ⟨bk_ aE.out⟩, ⟨bk_ aG.out⟩, ⟨hb_⟩⟩
  rw [if_pos bR] at H
  have cH := et_ bR
  have cJ := nf_ bR
  clear bR
  have H' := q_ H
  clear H
  have jM := aA.out
  have lY := aB.out
  have jP := aD.out
  have lM := aC.out
  obtain ⟨eS, d9, iP, dG, f0, f6, hZ, c4, eG, gX⟩ := b5_ aE.out
  go_wp2
  go_meet
  case rel => exact ⟨_, (decide (aJ > (wrap64 (bF - 2)))), cl_, H', ⟨by have := bE.out; first | omega | exact Nat.le_refl _⟩, ⟨bk_ aF.out⟩, ⟨bk_ aE.out⟩, ⟨bk_ aG.out⟩, ⟨hb_⟩⟩
 clear bN
 obtain ⟨kq, aX, rfl, HA, a5, aF, aE, aG, HB⟩ := hcut
 obtain _ | kj16 := kq
 ·exact nn_ HA
 have H := HA.out
 clear HA
 simp only [zqp.j1] at H
 by_cases e0 : aX = true
 ·subst e0
  rw [if_pos rfl] at H
  obtain rfl := Option.some.inj H
  go_wp2
  go_ret
  exact ⟨ew_, hb_⟩
 replace e0 := Bool.eq_false_iff.mpr e0
 subst e0
 rw [if_neg (show ¬ (false = true) by decide)] at H
 have bW := q_ H
 clear H
 go_upto_region 6 with (fail)
 go_cut [61] (fun mA wc => ∃ (kq : Nat) (aZ : Bool), mA = .bool aZ ∧ Aside0 (zqp.j2 kq aZ aK aJ aL aM aN = some r) ∧ Aside0 (kq ≤ kj16) ∧ Aside0 (wc.heap[bB]? = some (.cells #[.string bA, .string aY, .string aV, .int .i64 a9, (.slice a6 aT.length a4), (.slice a8 aU.length a7)] 25 (0, 0))) ∧ Aside0 (wc.heap[bD]? = some (.cells #[.int .i64 aK, .int .i64 aJ, .int .i64 aL, .string aM, .bool aN] 43 (0, 0))) ∧ Aside0 (wc.heap[bC]? = some (.cells #[.int .i64 aO, .int .i64 aP, .int .i64 aQ, .string aS, .bool aR] 43 (0, 0))) ∧ Aside0 (Below w.heap.size w wc))
 case first =>
  have H := bW.out
  clear bW
  by_cases b1 : aO > aK
  ·rw [if_pos b1] at H
   have a0 := dt_ b1
   clear b1
   (first | rw [a0] | (simp only [y2h, y2g]; rw [a0]) | skip)
   have H' := q_ H
   clear H
   have lO := aI.out
   have jY := aH.out
   have lK := aC.out
   have jR := aD.out
   obtain ⟨eM, hJ, iD, h3, fS, eT, jG, d6, hT, fB⟩ := b5_ aG.out
   have k1 := aA.out
   have kD := aB.out
   obtain ⟨cV, eN, cL, i7, e4, eV, cY, hI, hH, fH⟩ := b5_ aE.out
   go_wp2
   go_meet
   case rel => exact ⟨_, (true), cl_, H', ⟨by have := bE.out; have := a5.out; first | omega | exact Nat.le_refl _⟩, ⟨bk_ aF.out⟩, ⟨bk_ aE.out⟩, ⟨bk_ aG.out⟩, ⟨hb_⟩⟩
  rw [if_neg b1] at H
  have a0 := df_ b1
  clear b1
  (first | rw [a0] | (simp only [y2h, y2g]; rw [a0]) | skip)
  by_cases bU : aO = aK
  rotate_left
  ·rw [if_neg bU] at H
   have cK := ef_ bU
   have cE := nt_ bU
   have H' := q_ H
   clear H
   have k5 := aI.out
   have kY := aH.out
   have kM := aC.out
   have l6 := aD.out
   obtain ⟨eR, i3, iZ, f1, dC, gJ, dE, hO, i8, iL⟩ := b5_ aG.out
   have jJ := aA.out
   have l2 := aB.out
   obtain ⟨eL, cT, iB, dZ, iK, dM, fW, c6, eA, c3⟩ := b5_ aE.out
   go_wp2
   go_meet
   case rel => exact ⟨_, (false), cl_, H', ⟨by have := bE.out; have := a5.out; first | omega | exact Nat.le_refl _⟩, ⟨bk_ aF.out⟩, ⟨bk_ aE.out⟩, ⟨bk_ aG.out⟩, ⟨hb_⟩⟩
  rw [if_pos bU] at H
  have cK := et_ bU
  have cE := nf_ bU
  clear bU
  have H' := q_ H
  clear H
  have kX := aI.out
  have kS := aH.out
  have l0 := aC.out
  have lZ := aD.out
  obtain ⟨jF, dF, e3, dR, e5, hD, f2, h7, i5, hU⟩ := b5_ aG.out
  have k8 := aA.out
  have kQ := aB.out
  obtain ⟨gK, iM, fJ, hV, eE, gR, eD, cM, d1, hE⟩ := b5_ aE.out
  go_wp2
  go_meet
  case rel => exact ⟨_, (decide (aP ≥ aJ)), cl_, H', ⟨by have := bE.out; have := a5.out; first | omega | exact Nat.le_refl _⟩, ⟨bk_ aF.out⟩, ⟨bk_ aE.out⟩, ⟨bk_ aG.out⟩, ⟨hb_⟩⟩
 clear bW
 obtain ⟨kq, aZ, rfl, HA, bG, aF, aE, aG, HB⟩ := hcut
 obtain _ | kj45 := kq
 ·exact nn_ HA
 have H := HA.out
 clear HA
 simp only [zqp.j2] at H
 by_cases g5 : aZ = true
 ·subst g5
  rw [if_pos rfl] at H
  obtain rfl := Option.some.inj H
  go_wp2
  go_ret
  exact ⟨ew_, hb_⟩
 replace g5 := Bool.eq_false_iff.mpr g5
 subst g5
 rw [if_neg (show ¬ (false = true) by decide)] at H
 have bQ := q_ H
 clear H
 go_upto_region 8 with (fail)
 go_cut [79] (fun mG wc => ∃ (kq : Nat) (aW : Bool), mG = .bool aW ∧ Aside0 (zqp.j3 kq aW aK aJ aL aM aN = some r) ∧ Aside0 (kq ≤ kj45) ∧ Aside0 (wc.heap[bB]? = some (.cells #[.string bA, .string aY, .string aV, .int .i64 a9, (.slice a6 aT.length a4), (.slice a8 aU.length a7)] 25 (0, 0))) ∧ Aside0 (wc.heap[bD]? = some (.cells #[.int .i64 aK, .int .i64 aJ, .int .i64 aL, .string aM, .bool aN] 43 (0, 0))) ∧ Aside0 (wc.heap[bC]? = some (.cells #[.int .i64 aO, .int .i64 aP, .int .i64 aQ, .string aS, .bool aR] 43 (0, 0))) ∧ Aside0 (Below w.heap.size w wc))
 case first =>
  have H := bQ.out
  clear bQ
  by_cases bX : aL < 0
  ·rw [if_pos bX] at H
   have a2 := dt_ bX
   clear bX
   (first | rw [a2] | (simp only [y2h, y2g]; rw [a2]) | skip)
   have H' := q_ H
   clear H
   have jZ := aA.out
   have lC := aB.out
   have lU := aD.out
   have k7 := aC.out
   obtain ⟨dU, i0, dJ, fZ, gO, eI, eO, hQ, fT, fA⟩ := b5_ aE.out
   go_wp2
   go_meet
   case rel => exact ⟨_, (true), cl_, H', ⟨by have := bE.out; have := a5.out; have := bG.out; first | omega | exact Nat.le_refl _⟩, ⟨bk_ aF.out⟩, ⟨bk_ aE.out⟩, ⟨bk_ aG.out⟩, ⟨hb_⟩⟩
  rw [if_neg bX] at H
  have a2 := df_ bX
  clear bX
  (first | rw [a2] | (simp only [y2h, y2g]; rw [a2]) | skip)
  by_cases bY : aL > 4
  ·rw [if_pos bY] at H
   have b3 := dt_ bY
   clear bY
   have H' := q_ H
   clear H
   have k2 := aA.out
   have kT := aB.out
   have jK := aD.out
   have l3 := aC.out
   obtain ⟨c1, e2, fK, cS, i9, g6, jA, hY, c7, iV⟩ := b5_ aE.out
   go_wp2
   go_meet
   case rel => exact ⟨_, (true), cl_, H', ⟨by have := bE.out; have := a5.out; have := bG.out; first | omega | exact Nat.le_refl _⟩, ⟨bk_ aF.out⟩, ⟨bk_ aE.out⟩, ⟨bk_ aG.out⟩, ⟨hb_⟩⟩
  rw [if_neg bY] at H
  have b3 := df_ bY
  clear bY
  by_cases bL : aL = 0
  rotate_left
  ·rw [if_neg bL] at H
   have cD := ef_ bL
   have b7 := nt_ bL
   have H' := q_ H
   clear H
   have k4 := aA.out
   have k9 := aB.out
   have jS := aD.out
   have lW := aC.out
   obtain ⟨hA, fP, iW, eW, dP, fO, gG, eC, eF, hN⟩ := b5_ aE.out
   go_wp2
   go_meet
   case rel => exact ⟨_, (false), cl_, H', ⟨by have := bE.out; have := a5.out; have := bG.out; first | omega | exact Nat.le_refl _⟩, ⟨bk_ aF.out⟩, ⟨bk_ aE.out⟩, ⟨bk_ aG.out⟩, ⟨hb_⟩⟩
  rw [if_pos bL] at H
  have cD := et_ bL
  have b7 := nf_ bL
  clear bL
  have H' := q_ H
  clear H
  have l7 := aA.out
  have jN := aB.out
  have jW := aD.out
  have kK := aC.out
  obtain ⟨iG, gT, cQ, gD, hF, dA, gA, c8, gV, i2⟩ := b5_ aE.out
  go_wp2
  go_meet
  case rel => exact ⟨_, (!aN), cl_, H', ⟨by have := bE.out; have := a5.out; have := bG.out; first | omega | exact Nat.le_refl _⟩, ⟨bk_ aF.out⟩, ⟨bk_ aE.out⟩, ⟨bk_ aG.out⟩, ⟨hb_⟩⟩
 clear bQ
 obtain ⟨kq, aW, rfl, HA, mH, aF, aE, aG, HB⟩ := hcut
 obtain _ | kj64 := kq
 ·exact nn_ HA
 have H := HA.out
 clear HA
 simp only [zqp.j3] at H
 by_cases h8 : aW = true
 ·subst h8
  rw [if_pos rfl] at H
  obtain rfl := Option.some.inj H
  go_wp2
  go_ret
  exact ⟨ew_, hb_⟩
 replace h8 := Bool.eq_false_iff.mpr h8
 subst h8
 rw [if_neg (show ¬ (false = true) by decide)] at H
 by_cases bM : aL = 4
 rotate_left
 ·rw [if_neg bM] at H
  have cI := ef_ bM
  have b4 := nt_ bM
  by_cases bT : aM.toList = ([] : List UInt8)
  rotate_left
  ·rw [if_neg bT] at H
   have b9 := ef_ bT
   have cC := nt_ bT
   obtain rfl := Option.some.inj H
   have l8 := aA.out
   have j8 := aB.out
   have l5 := aD.out
   have kF := aC.out
   obtain ⟨gF, iA, fU, g1, hM, d2, d8, eB, h0, iY⟩ := b5_ aE.out
   go_wp2
   go_ret
   exact ⟨ew_, hb_⟩
  rw [if_pos bT] at H
  have b9 := et_ bT
  have cC := nf_ bT
  clear bT
  obtain rfl := Option.some.inj H
  have kE := aA.out
  have lF := aB.out
  have j4 := aD.out
  have kV := aC.out
  obtain ⟨eP, g0, eJ, f7, iS, fL, d0, g3, hG, dH⟩ := b5_ aE.out
  go_wp2
  go_ret
  exact ⟨ew_, hb_⟩
 rw [if_pos bM] at H
 have cI := et_ bM
 have b4 := nf_ bM
 clear bM
 obtain ⟨jH, kB, H⟩ := bq_ H
 (try dsimp only at H)
 by_cases cO : jH = true
 ·subst cO
  rw [if_pos rfl] at H
  obtain rfl := Option.some.inj H
  have lL := aA.out
  have lN := aB.out
  have k3 := aD.out
  have kW := aC.out
  obtain ⟨jC, cZ, fQ, iQ, h6, iX, jD, jB, i1, fG⟩ := b5_ aE.out
  go_wp2_with (first | (go_at_call 51; (with_reducible refine (zqh.calls kj64 aM true _ kB.out).mono ?_); rintro e w' ⟨rfl, ⟨nd, rfl⟩⟩))
  go_ret
  exact ⟨ew_, hb_⟩
 replace cO := Bool.eq_false_iff.mpr cO
 subst cO
 rw [if_neg (show ¬ (false = true) by decide)] at H
 obtain rfl := Option.some.inj H
 have lD := aA.out
 have lP := aB.out
 have jL := aD.out
 have lX := aC.out
 obtain ⟨dO, e9, eU, iT, gB, gQ, h4, f4, hW, h2⟩ := b5_ aE.out
 go_wp2_with (first | (go_at_call 51; (with_reducible refine (zqh.calls kj64 aM false _ kB.out).mono ?_); rintro e w' ⟨rfl, ⟨nd, rfl⟩⟩))
 go_ret
 exact ⟨ew_, hb_⟩
end Go.Proofs.Ytenlmckahaniiaa.K
end
