/- Lemmas for several laws: what their proofs need of this seat's texts, in one place. -/
import Derived.Test.YtenlmckahaniiaaZcLe1
set_option linter.unusedVariables false
set_option linter.unusedSimpArgs false
set_option linter.unusedSectionVars false
set_option maxHeartbeats 8000000
set_option maxRecDepth 100000
section
namespace Go.Proofs.Ytenlmckahaniiaa.K
open Go.RowKit Go.Proofs.YtW.P Go.Proofs.YtW.L
mutual
def zqr.l0 : Nat → List (S25) → Int → Option (Bool)
  | 0, _, _ => none
  | k + 1, x0, x3 => if x3 < (x0.length : Int) then (if 0 ≤ x3 then (if (((y49 x0 x3).f0).size : Int) > 100 then (zqr.j1 k x0 x3 true ((y49 x0 x3).f0) ((y49 x0 x3).f1) ((y49 x0 x3).f2) ((y49 x0 x3).f3) ((y49 x0 x3).f4) ((y49 x0 x3).f5)) else (if (((y49 x0 x3).f1).size : Int) > 600 then (zqr.j1 k x0 x3 true ((y49 x0 x3).f0) ((y49 x0 x3).f1) ((y49 x0 x3).f2) ((y49 x0 x3).f3) ((y49 x0 x3).f4) ((y49 x0 x3).f5)) else (if (((y49 x0 x3).f2).size : Int) > 600 then (zqr.j1 k x0 x3 true ((y49 x0 x3).f0) ((y49 x0 x3).f1) ((y49 x0 x3).f2) ((y49 x0 x3).f3) ((y49 x0 x3).f4) ((y49 x0 x3).f5)) else (if (((y49 x0 x3).f4).length : Int) > 40 then (zqr.j1 k x0 x3 true ((y49 x0 x3).f0) ((y49 x0 x3).f1) ((y49 x0 x3).f2) ((y49 x0 x3).f3) ((y49 x0 x3).f4) ((y49 x0 x3).f5)) else (zqr.j1 k x0 x3 (decide ((((y49 x0 x3).f5).length : Int) > 40)) ((y49 x0 x3).f0) ((y49 x0 x3).f1) ((y49 x0 x3).f2) ((y49 x0 x3).f3) ((y49 x0 x3).f4) ((y49 x0 x3).f5)))))) else (none)) else (some false)
def zqr.j1 : Nat → List (S25) → Int → Bool → ByteArray → ByteArray → ByteArray → Int → List (S62) → List (S43) → Option (Bool)
  | 0, _, _, _, _, _, _, _, _, _ => none
  | k + 1, x0, x3, x47, x698000, x698001, x698002, x698003, x698004, x698005 => if x47 = true then (some true) else (zqr.l1 k x0 x3 0 x698000 x698001 x698002 x698003 x698004 x698005)
def zqr.l1 : Nat → List (S25) → Int → Int → ByteArray → ByteArray → ByteArray → Int → List (S62) → List (S43) → Option (Bool)
  | 0, _, _, _, _, _, _, _, _, _ => none
  | k + 1, x0, x3, x5, x698000, x698001, x698002, x698003, x698004, x698005 => if x5 < (x698004.length : Int) then (if 0 ≤ x5 then (if (((y4b x698004 x5).f0).size : Int) > 100 then (some true) else (zqr.l1 k x0 x3 (wrap64 (x5 + 1)) x698000 x698001 x698002 x698003 x698004 x698005)) else (none)) else (zqr.l2 k x0 x3 0 x698000 x698001 x698002 x698003 x698004 x698005)
def zqr.l2 : Nat → List (S25) → Int → Int → ByteArray → ByteArray → ByteArray → Int → List (S62) → List (S43) → Option (Bool)
  | 0, _, _, _, _, _, _, _, _, _ => none
  | k + 1, x0, x3, x6, x698000, x698001, x698002, x698003, x698004, x698005 => if x6 < (x698005.length : Int) then (if 0 ≤ x6 then (if (((y4a x698005 x6).f3).size : Int) > 100 then (some true) else (zqr.l2 k x0 x3 (wrap64 (x6 + 1)) x698000 x698001 x698002 x698003 x698004 x698005)) else (none)) else (zqr.l0 k x0 (wrap64 (x3 + 1)))
end
def zqr.f (k : Nat) (l0 : List (S25)) : Option (Bool) := if (l0.length : Int) > 40 then (some true) else (zqr.l0 k l0 0)
theorem zqr.mono_l : ∀ k, (∀ y0 y1, LeO (zqr.l0 k y0 y1) (zqr.l0 (k + 1) y0 y1)) ∧ (∀ y0 y1 y2 y3 y4 y5 y6 y7 y8, LeO (zqr.j1 k y0 y1 y2 y3 y4 y5 y6 y7 y8) (zqr.j1 (k + 1) y0 y1 y2 y3 y4 y5 y6 y7 y8)) ∧ (∀ y0 y1 y2 y3 y4 y5 y6 y7 y8, LeO (zqr.l1 k y0 y1 y2 y3 y4 y5 y6 y7 y8) (zqr.l1 (k + 1) y0 y1 y2 y3 y4 y5 y6 y7 y8)) ∧ (∀ y0 y1 y2 y3 y4 y5 y6 y7 y8, LeO (zqr.l2 k y0 y1 y2 y3 y4 y5 y6 y7 y8) (zqr.l2 (k + 1) y0 y1 y2 y3 y4 y5 y6 y7 y8))
 | 0 => ⟨fun _ _ r h => by simp [zqr.l0] at h, fun _ _ _ _ _ _ _ _ _ r h => by simp [zqr.j1] at h, fun _ _ _ _ _ _ _ _ _ r h => by simp [zqr.l1] at h, fun _ _ _ _ _ _ _ _ _ r h => by simp [zqr.l2] at h⟩
 | k + 1 => by
  obtain ⟨ih0, ih1, ih2, ih3⟩ := zqr.mono_l k
  refine ⟨?_, ?_, ?_, ?_⟩
  ·intro y0 y1
   unfold zqr.l0
   with_reducible repeat' first | apply ih0 | apply ih1 | apply ih2 | apply ih3 | exact LeO.refl _ | exact LeO.none _ | refine LeO.ite ?_ ?_ | refine LeO.bind ?_ (fun _ => ?_)
  ·intro y0 y1 y2 y3 y4 y5 y6 y7 y8
   unfold zqr.j1
   with_reducible repeat' first | apply ih0 | apply ih1 | apply ih2 | apply ih3 | exact LeO.refl _ | exact LeO.none _ | refine LeO.ite ?_ ?_ | refine LeO.bind ?_ (fun _ => ?_)
  ·intro y0 y1 y2 y3 y4 y5 y6 y7 y8
   unfold zqr.l1
   with_reducible repeat' first | apply ih0 | apply ih1 | apply ih2 | apply ih3 | exact LeO.refl _ | exact LeO.none _ | refine LeO.ite ?_ ?_ | refine LeO.bind ?_ (fun _ => ?_)
  ·intro y0 y1 y2 y3 y4 y5 y6 y7 y8
   unfold zqr.l2
   with_reducible repeat' first | apply ih0 | apply ih1 | apply ih2 | apply ih3 | exact LeO.refl _ | exact LeO.none _ | refine LeO.ite ?_ ?_ | refine LeO.bind ?_ (fun _ => ?_)
theorem zqr.mono : ∀ a0 k, LeO (zqr.f k a0) (zqr.f (k + 1) a0) := by
 intro a0 k
 obtain ⟨ih0, ih1, ih2, ih3⟩ := zqr.mono_l k
 unfold zqr.f
 with_reducible repeat' first | apply ih0 | apply ih1 | apply ih2 | apply ih3 | exact LeO.refl _ | exact LeO.none _ | refine LeO.ite ?_ ?_ | refine LeO.bind ?_ (fun _ => ?_)
theorem zqr.calls (k : Nat) (A0 : Option Addr) (c0 : Nat) (l0 : List (S25)) (r : Bool) (w : World) (gU : Kd.C k25 w A0 l0.length l0) (gR : l0.length ≤ c0) (h : zqr.f k l0 = some r) :
  Calls Try.prog 31 #[.slice A0 l0.length c0] w fun e w' => e = .returned (.bool r) ∧ Below w.heap.size w w' := by
 have gX := Try.underlying25
 have gY := q_ gU
 have gZ := q_ gR
 clear gU gR
 have HB := q_ (Below.refl w.heap.size w)
 have H : (if (l0.length : Int) > 40 then (some true) else (zqr.l0 k l0 0)) = some r := h
 clear h
 by_cases c2 : (l0.length : Int) > 40
 ·rw [if_pos c2] at H
  have f9 := dt_ c2
  have fX : decide (40 < l0.length) = true := decide_eq_true (by omega)
  clear c2
  obtain rfl := Option.some.inj H
  go_enter Try.func31, Try.ntmps31
  go_wp2
  go_ret
  exact ⟨ew_, hb_⟩
 rw [if_neg c2] at H
 have f9 := df_ c2
 have fX : decide (40 < l0.length) = false := decide_eq_false (by omega)
 clear c2
 have H' := q_ H
 clear H
 go_enter Try.func31, Try.ntmps31
 go_wp2
 go_loopg [3] k (fun kq v3 w' => ∃ (aA : Int), v3 = .int .i64 aA ∧ Aside0 (zqr.l0 kq l0 aA = some r) ∧ Aside0 (kq ≤ k) ∧ Aside0 (Below w.heap.size w w'))
 case atStart => exact ⟨(0), cl_, H', ⟨Nat.le_refl _⟩, ⟨hb_⟩⟩
 case round =>
  clear H'
  obtain ⟨aA, rfl, HA, HK1, HB⟩ := hrel
  obtain _ | k1 := gk
  ·exact nn_ HA
  have H := HA.out
  clear HA
  simp only [zqr.l0] at H
  by_cases c3 : aA < (l0.length : Int)
  rotate_left
  ·rw [if_neg c3] at H
   have gG := df_ c3
   clear c3
   obtain rfl := Option.some.inj H
   go_wp2
   go_ret
   exact ⟨ew_, hb_⟩
  rw [if_pos c3] at H
  have gG := dt_ c3
  clear c3
  by_cases c4 : 0 ≤ aA
  rotate_left
  ·rw [if_neg c4] at H
   exact absurd H (by simp)
  rw [if_pos c4] at H
  have gW := dt_ c4
  clear c4
  have fO := q_ H
  clear H
  have bB : 0 ≤ (aA : Int) := oa_
  have bC : aA < (l0.length : Int) := oa_
  obtain ⟨gQ, aS, aR, aQ, aO, fR, aV, a2, a7, aW, aX, a5, a6, aZ, a0, a4⟩ := y0c gY.out aA bB bC
  cases fR
  replace aV := cb_ HB.out aV
  replace a2 := cb_ HB.out a2
  replace a7 := cb_ HB.out a7
  replace aW := cb_ HB.out aW
  replace aX := cb_ HB.out aX
  replace a5 := cb_ HB.out a5
  have a3 := q_ aZ
  have eE := q_ a6
  clear aZ a6
  have aY := q_ a4
  have e3 := q_ a0
  clear a4 a0
  replace bB := eq_true bB
  replace bC := eq_true bC
  go_upto_region 7 with (first | (refine gd_ 4 ?_; (try (refine y23 (by rfl) ?_; dsimp only)); refine bx_ 4 (cs := #[.string nB_, .string nB_, .string nB_, .int .i64 0, .slice none 0 0, .slice none 0 0]) 25 ?_; intro a9 hg w6 hbox hb; have aB := q_ (hbox); have gP := gw_ w hg (y0j hb_); have gO := gw_ w hg (y0j hb_); replace HB := q_ (y0k hb_ hb); clear hb hbox hg; obtain ⟨gE, fP, gH, fU, fZ, fS, gB, gD, fT, gC, fV, gJ⟩ := b6_ aB.out))
  (try simp only [Act.put, List.setIfInBounds_toArray, List.set_cons_zero, List.set_cons_succ])
  go_cut [47] (fun gV wc => ∃ (kq : Nat) (a1 : Bool), gV = .bool a1 ∧ Aside0 (zqr.j1 kq l0 aA a1 ((y49 l0 aA).f0) ((y49 l0 aA).f1) ((y49 l0 aA).f2) ((y49 l0 aA).f3) ((y49 l0 aA).f4) ((y49 l0 aA).f5) = some r) ∧ Aside0 (kq ≤ k1) ∧ Aside0 (wc.heap[a9]? = some (.cells #[.string ((y49 l0 aA).f0), .string ((y49 l0 aA).f1), .string ((y49 l0 aA).f2), .int .i64 ((y49 l0 aA).f3), (.slice aS ((y49 l0 aA).f4).length aR), (.slice aQ ((y49 l0 aA).f5).length aO)] 25 (0, 0))) ∧ Aside0 (Below w.heap.size w wc))
  case first =>
   have H := fO.out
   clear fO
   by_cases c8 : (((y49 l0 aA).f0).size : Int) > 100
   ·rw [if_pos c8] at H
    have a8 := dt_ c8
    have gF : decide (100 < ((y49 l0 aA).f0).size) = true := decide_eq_true (by omega)
    clear c8
    (first | rw [a8] | (simp only [y2h, y2g]; rw [a8]) | skip)
    have H' := q_ H
    clear H
    obtain ⟨gK, f8, f7, fW, gI, f6, fQ, gA, fY, gN, gM, gL⟩ := b6_ aB.out
    go_wp2
    go_meet
    case rel => exact ⟨_, (true), cl_, H', ⟨ok_⟩, ⟨bs_ aB.out⟩, ⟨hb_⟩⟩
   rw [if_neg c8] at H
   have a8 := df_ c8
   have gF : decide (100 < ((y49 l0 aA).f0).size) = false := decide_eq_false (by omega)
   clear c8
   (first | rw [a8] | (simp only [y2h, y2g]; rw [a8]) | skip)
   by_cases bL : (((y49 l0 aA).f1).size : Int) > 600
   ·rw [if_pos bL] at H
    have bQ := dt_ bL
    have bX : decide (600 < ((y49 l0 aA).f1).size) = true := decide_eq_true (by omega)
    clear bL
    have H' := q_ H
    clear H
    obtain ⟨cQ, eU, eD, dN, eK, cH, fJ, eS, fF, eA, dJ, cI⟩ := b6_ aB.out
    go_wp2
    go_meet
    case rel => exact ⟨_, (true), cl_, H', ⟨ok_⟩, ⟨bs_ aB.out⟩, ⟨hb_⟩⟩
   rw [if_neg bL] at H
   have bQ := df_ bL
   have bX : decide (600 < ((y49 l0 aA).f1).size) = false := decide_eq_false (by omega)
   clear bL
   by_cases bG : (((y49 l0 aA).f2).size : Int) > 600
   ·rw [if_pos bG] at H
    have bR := dt_ bG
    have b0 : decide (600 < ((y49 l0 aA).f2).size) = true := decide_eq_true (by omega)
    clear bG
    have H' := q_ H
    clear H
    obtain ⟨fG, d3, b2, dR, eY, dO, fI, eV, cR, cL, b3, dI⟩ := b6_ aB.out
    go_wp2
    go_meet
    case rel => exact ⟨_, (true), cl_, H', ⟨ok_⟩, ⟨bs_ aB.out⟩, ⟨hb_⟩⟩
   rw [if_neg bG] at H
   have bR := df_ bG
   have b0 : decide (600 < ((y49 l0 aA).f2).size) = false := decide_eq_false (by omega)
   clear bG
   by_cases bH : (((y49 l0 aA).f4).length : Int) > 40
   ·rw [if_pos bH] at H
    have bT := dt_ bH
    have bN : decide (40 < ((y49 l0 aA).f4).length) = true := decide_eq_true (by omega)
    clear bH
    have H' := q_ H
    clear H
    obtain ⟨cD, dU, d4, fM, dA, dK, fN, e1, dB, b8, e4, eO⟩ := b6_ aB.out
    go_wp2
    go_meet
    case rel => exact ⟨_, (true), cl_, H', ⟨ok_⟩, ⟨bs_ aB.out⟩, ⟨hb_⟩⟩
   rw [if_neg bH] at H
   have bT := df_ bH
   have bN : decide (40 < ((y49 l0 aA).f4).length) = false := decide_eq_false (by omega)
   clear bH
   have H' := q_ H
   clear H
   obtain ⟨fD, eQ, dL, dH, cN, dG, c5, cF, cM, e6, eG, dW⟩ := b6_ aB.out
   go_wp2
   go_meet
   case rel => exact ⟨_, (decide ((((y49 l0 aA).f5).length : Int) > 40)), cl_, H', ⟨ok_⟩, ⟨bs_ aB.out⟩, ⟨hb_⟩⟩
  clear fO
  obtain ⟨kq, a1, rfl, HA, bK, aB, HB⟩ := hcut
  obtain _ | kj4 := kq
  ·exact nn_ HA
  have H := HA.out
  clear HA
  simp only [zqr.j1] at H
  by_cases d5 : a1 = true
  ·subst d5
   rw [if_pos rfl] at H
   obtain rfl := Option.some.inj H
   go_wp2
   go_ret
   exact ⟨ew_, hb_⟩
  replace d5 := Bool.eq_false_iff.mpr d5
  subst d5
  rw [if_neg (show ¬ (false = true) by decide)] at H
  have H' := q_ H
  clear H
  go_wp2
  go_loopg [5] kj4 (fun kq v5 w' => ∃ (aD : Int), v5 = .int .i64 aD ∧ Aside0 (zqr.l1 kq l0 aA aD ((y49 l0 aA).f0) ((y49 l0 aA).f1) ((y49 l0 aA).f2) ((y49 l0 aA).f3) ((y49 l0 aA).f4) ((y49 l0 aA).f5) = some r) ∧ Aside0 (kq ≤ kj4) ∧ Aside0 (w'.heap[a9]? = some (.cells #[.string ((y49 l0 aA).f0), .string ((y49 l0 aA).f1), .string ((y49 l0 aA).f2), .int .i64 ((y49 l0 aA).f3), (.slice aS ((y49 l0 aA).f4).length aR), (.slice aQ ((y49 l0 aA).f5).length aO)] 25 (0, 0))) ∧ Aside0 (Below w.heap.size w w'))
  case atStart => exact ⟨(0), cl_, H', ⟨Nat.le_refl _⟩, ⟨bk_ aB.out⟩, ⟨hb_⟩⟩
  case round =>
   clear H'
   obtain ⟨aD, rfl, HA, bI, aB, HB⟩ := hrel
   obtain _ | k3 := gk
   ·exact nn_ HA
   have H := HA.out
   clear HA
   simp only [zqr.l1] at H
   by_cases bJ : aD < (((y49 l0 aA).f4).length : Int)
   ·rw [if_pos bJ] at H
    have bP := dt_ bJ
    clear bJ
    by_cases c1 : 0 ≤ aD
    rotate_left
    ·rw [if_neg c1] at H
     exact absurd H (by simp)
    rw [if_pos c1] at H
    have gS := dt_ c1
    clear c1
    by_cases bM : (((y4b ((y49 l0 aA).f4) aD).f0).size : Int) > 100
    ·rw [if_pos bM] at H
     have bY := dt_ bM
     have bU : decide (100 < ((y4b ((y49 l0 aA).f4) aD).f0).size) = true := decide_eq_true (by omega)
     clear bM
     obtain rfl := Option.some.inj H
     obtain ⟨eH, b9, cB, eR, dX, b1, eB, e0, eM, fH, fE, eF⟩ := b6_ aB.out
     have aN : 0 ≤ (aD : Int) := oa_
     have aP : aD < (((y49 l0 aA).f4).length : Int) := oa_
     obtain ⟨bZ, bD, aM, aF, aI, aK⟩ := y0e a3.out aD aN aP
     cases bD
     replace aM := cb_ HB.out aM
     replace aF := cb_ HB.out aF
     replace aI := cb_ HB.out aI
     replace aK := cb_ HB.out aK
     replace aN := eq_true aN
     replace aP := eq_true aP
     go_wp2
     go_ret
     exact ⟨ew_, hb_⟩
    rw [if_neg bM] at H
    have bY := df_ bM
    have bU : decide (100 < ((y4b ((y49 l0 aA).f4) aD).f0).size) = false := decide_eq_false (by omega)
    clear bM
    have H' := q_ H
    clear H
    obtain ⟨cV, dC, cS, fK, c7, cK, cE, e2, cC, e7, cY, d6⟩ := b6_ aB.out
    have aN : 0 ≤ (aD : Int) := oa_
    have aP : aD < (((y49 l0 aA).f4).length : Int) := oa_
    obtain ⟨bZ, bD, aM, aF, aI, aK⟩ := y0e a3.out aD aN aP
    cases bD
    replace aM := cb_ HB.out aM
    replace aF := cb_ HB.out aF
    replace aI := cb_ HB.out aI
    replace aK := cb_ HB.out aK
    replace aN := eq_true aN
    replace aP := eq_true aP
    go_wp2
    go_roundg k3
    case measure => have := HK1.out; have := bK.out; have := bI.out; omega
    case rel => exact ⟨(wrap64 (aD + 1)), cl_, H', ⟨by have := HK1.out; have := bK.out; have := bI.out; omega⟩, ⟨bk_ aB.out⟩, ⟨hb_⟩⟩
   rw [if_neg bJ] at H
   have bP := df_ bJ
   clear bJ
   have H' := q_ H
   clear H
   obtain ⟨b6, cG, eL, eC, e5, eZ, cU, dM, fA, eI, eN, e8⟩ := b6_ aB.out
   go_wp2
   go_loopg [6] k3 (fun kq v6 w' => ∃ (aC : Int), v6 = .int .i64 aC ∧ Aside0 (zqr.l2 kq l0 aA aC ((y49 l0 aA).f0) ((y49 l0 aA).f1) ((y49 l0 aA).f2) ((y49 l0 aA).f3) ((y49 l0 aA).f4) ((y49 l0 aA).f5) = some r) ∧ Aside0 (kq ≤ k3) ∧ Aside0 (w'.heap[a9]? = some (.cells #[.string ((y49 l0 aA).f0), .string ((y49 l0 aA).f1), .string ((y49 l0 aA).f2), .int .i64 ((y49 l0 aA).f3), (.slice aS ((y49 l0 aA).f4).length aR), (.slice aQ ((y49 l0 aA).f5).length aO)] 25 (0, 0))) ∧ Aside0 (Below w.heap.size w w'))
   case atStart => exact ⟨(0), cl_, H', ⟨Nat.le_refl _⟩, ⟨bk_ aB.out⟩, ⟨hb_⟩⟩
   case round =>
    clear H'
    obtain ⟨aC, rfl, HA, b4, aB, HB⟩ := hrel
    obtain _ | k4 := gk
    ·exact nn_ HA
    have H := HA.out
    clear HA
    simp only [zqr.l2] at H
    by_cases bE : aC < (((y49 l0 aA).f5).length : Int)
    rotate_left
    ·rw [if_neg bE] at H
     have bW := df_ bE
     clear bE
     have H' := q_ H
     clear H
     obtain ⟨dF, dE, d9, cT, b7, eJ, cO, cX, dQ, e9, d0, d1⟩ := b6_ aB.out
     go_wp2
     go_roundg k4
     case measure => have := HK1.out; have := bK.out; have := bI.out; have := b4.out; omega
     case rel => exact ⟨(wrap64 (aA + 1)), cl_, H', ⟨by have := HK1.out; have := bK.out; have := bI.out; have := b4.out; omega⟩, ⟨hb_⟩⟩
    rw [if_pos bE] at H
    have bW := dt_ bE
    clear bE
    by_cases cZ : 0 ≤ aC
    rotate_left
    ·rw [if_neg cZ] at H
     exact absurd H (by simp)
    rw [if_pos cZ] at H
    have gT := dt_ cZ
    clear cZ
    by_cases bF : (((y4a ((y49 l0 aA).f5) aC).f3).size : Int) > 100
    ·rw [if_pos bF] at H
     have bS := dt_ bF
     have bV : decide (100 < ((y4a ((y49 l0 aA).f5) aC).f3).size) = true := decide_eq_true (by omega)
     clear bF
     obtain rfl := Option.some.inj H
     obtain ⟨fB, eW, fL, c9, dV, cP, dY, dP, c6, dS, eP, fC⟩ := b6_ aB.out
     have aT : 0 ≤ (aC : Int) := oa_
     have aU : aC < (((y49 l0 aA).f5).length : Int) := oa_
     obtain ⟨bO, bA, aJ, aH, aL, aE, aG⟩ := y0d aY.out aC aT aU
     cases bA
     replace aJ := cb_ HB.out aJ
     replace aH := cb_ HB.out aH
     replace aL := cb_ HB.out aL
     replace aE := cb_ HB.out aE
     replace aG := cb_ HB.out aG
     replace aT := eq_true aT
     replace aU := eq_true aU
     go_wp2
     go_ret
     exact ⟨ew_, hb_⟩
    rw [if_neg bF] at H
    have bS := df_ bF
    have bV : decide (100 < ((y4a ((y49 l0 aA).f5) aC).f3).size) = false := decide_eq_false (by omega)
    clear bF
    have H' := q_ H
    clear H
    obtain ⟨dD, eT, cJ, cA, d8, d7, dZ, cW, d2, dT, eX, b5⟩ := b6_ aB.out
    have aT : 0 ≤ (aC : Int) := oa_
    have aU : aC < (((y49 l0 aA).f5).length : Int) := oa_
    obtain ⟨bO, bA, aJ, aH, aL, aE, aG⟩ := y0d aY.out aC aT aU
    cases bA
    replace aJ := cb_ HB.out aJ
    replace aH := cb_ HB.out aH
    replace aL := cb_ HB.out aL
    replace aE := cb_ HB.out aE
    replace aG := cb_ HB.out aG
    replace aT := eq_true aT
    replace aU := eq_true aU
    go_wp2
    go_roundg k4
    case measure => have := HK1.out; have := bK.out; have := bI.out; have := b4.out; omega
    case rel => exact ⟨(wrap64 (aC + 1)), cl_, H', ⟨by have := HK1.out; have := bK.out; have := bI.out; have := b4.out; omega⟩, ⟨bk_ aB.out⟩, ⟨hb_⟩⟩
end Go.Proofs.Ytenlmckahaniiaa.K
end
section
namespace Go.Proofs.Ytenlmckahaniiaa.K
open Go.RowKit Go.Proofs.YtW.P Go.Proofs.YtW.L
mutual
def zqh.j0 : Nat → ByteArray → Bool → Option (Bool)
  | 0, _, _ => none
  | k + 1, x0, x21 => if x21 = true then (some false) else (zqh.l0 k x0 0)
def zqh.l0 : Nat → ByteArray → Int → Option (Bool)
  | 0, _, _ => none
  | k + 1, x0, x3 => if x3 < (x0.size : Int) then (if 0 ≤ x3 then (if (bt x0 x3) ≥ 97 then (if (bt x0 x3) ≤ 122 then (zqh.l0 k x0 (wrap64 (x3 + 1))) else (if (bt x0 x3) ≥ 65 then (if (bt x0 x3) ≤ 90 then (zqh.l0 k x0 (wrap64 (x3 + 1))) else (if (bt x0 x3) ≥ 48 then (if (bt x0 x3) ≤ 57 then (zqh.l0 k x0 (wrap64 (x3 + 1))) else (if (bt x0 x3) = 95 then (zqh.l0 k x0 (wrap64 (x3 + 1))) else (if (bt x0 x3) = 46 then (zqh.l0 k x0 (wrap64 (x3 + 1))) else (if ((bt x0 x3) = 36) then (zqh.l0 k x0 (wrap64 (x3 + 1))) else (some false))))) else (if (bt x0 x3) = 95 then (zqh.l0 k x0 (wrap64 (x3 + 1))) else (if (bt x0 x3) = 46 then (zqh.l0 k x0 (wrap64 (x3 + 1))) else (if ((bt x0 x3) = 36) then (zqh.l0 k x0 (wrap64 (x3 + 1))) else (some false)))))) else (if (bt x0 x3) ≥ 48 then (if (bt x0 x3) ≤ 57 then (zqh.l0 k x0 (wrap64 (x3 + 1))) else (if (bt x0 x3) = 95 then (zqh.l0 k x0 (wrap64 (x3 + 1))) else (if (bt x0 x3) = 46 then (zqh.l0 k x0 (wrap64 (x3 + 1))) else (if ((bt x0 x3) = 36) then (zqh.l0 k x0 (wrap64 (x3 + 1))) else (some false))))) else (if (bt x0 x3) = 95 then (zqh.l0 k x0 (wrap64 (x3 + 1))) else (if (bt x0 x3) = 46 then (zqh.l0 k x0 (wrap64 (x3 + 1))) else (if ((bt x0 x3) = 36) then (zqh.l0 k x0 (wrap64 (x3 + 1))) else (some false))))))) else (if (bt x0 x3) ≥ 65 then (if (bt x0 x3) ≤ 90 then (zqh.l0 k x0 (wrap64 (x3 + 1))) else (if (bt x0 x3) ≥ 48 then (if (bt x0 x3) ≤ 57 then (zqh.l0 k x0 (wrap64 (x3 + 1))) else (if (bt x0 x3) = 95 then (zqh.l0 k x0 (wrap64 (x3 + 1))) else (if (bt x0 x3) = 46 then (zqh.l0 k x0 (wrap64 (x3 + 1))) else (if ((bt x0 x3) = 36) then (zqh.l0 k x0 (wrap64 (x3 + 1))) else (some false))))) else (if (bt x0 x3) = 95 then (zqh.l0 k x0 (wrap64 (x3 + 1))) else (if (bt x0 x3) = 46 then (zqh.l0 k x0 (wrap64 (x3 + 1))) else (if ((bt x0 x3) = 36) then (zqh.l0 k x0 (wrap64 (x3 + 1))) else (some false)))))) else (if (bt x0 x3) ≥ 48 then (if (bt x0 x3) ≤ 57 then (zqh.l0 k x0 (wrap64 (x3 + 1))) else (if (bt x0 x3) = 95 then (zqh.l0 k x0 (wrap64 (x3 + 1))) else (if (bt x0 x3) = 46 then (zqh.l0 k x0 (wrap64 (x3 + 1))) else (if ((bt x0 x3) = 36) then (zqh.l0 k x0 (wrap64 (x3 + 1))) else (some false))))) else (if (bt x0 x3) = 95 then (zqh.l0 k x0 (wrap64 (x3 + 1))) else (if (bt x0 x3) = 46 then (zqh.l0 k x0 (wrap64 (x3 + 1))) else (if ((bt x0 x3) = 36) then (zqh.l0 k x0 (wrap64 (x3 + 1))) else (some false))))))) else (none)) else (some true)
end
def zqh.f (k : Nat) (a0 : ByteArray) : Option (Bool) := if a0.toList = ([] : List UInt8) then (zqh.j0 k a0 true) else (if (a0.size : Int) > 14 then (zqh.j0 k a0 true) else (if 0 < (a0.size : Int) then (if (bt a0 0) ≥ 48 then (zqh.j0 k a0 (decide ((bt a0 0) ≤ 57))) else (zqh.j0 k a0 false)) else (none)))
theorem zqh.mono_l : ∀ k, (∀ y0 y1, LeO (zqh.j0 k y0 y1) (zqh.j0 (k + 1) y0 y1)) ∧ (∀ y0 y1, LeO (zqh.l0 k y0 y1) (zqh.l0 (k + 1) y0 y1))
 | 0 => ⟨fun _ _ r h => by simp [zqh.j0] at h, fun _ _ r h => by simp [zqh.l0] at h⟩
 | k + 1 => by
  obtain ⟨ih0, ih1⟩ := zqh.mono_l k
  refine ⟨?_, ?_⟩
  ·intro y0 y1
   unfold zqh.j0
   with_reducible repeat' first | apply ih0 | apply ih1 | exact LeO.refl _ | exact LeO.none _ | refine LeO.ite ?_ ?_ | refine LeO.bind ?_ (fun _ => ?_)
  ·intro y0 y1
   unfold zqh.l0
   with_reducible repeat' first | apply ih0 | apply ih1 | exact LeO.refl _ | exact LeO.none _ | refine LeO.ite ?_ ?_ | refine LeO.bind ?_ (fun _ => ?_)
theorem zqh.mono : ∀ a0 k, LeO (zqh.f k a0) (zqh.f (k + 1) a0) := by
 intro a0 k
 obtain ⟨ih0, ih1⟩ := zqh.mono_l k
 unfold zqh.f
 with_reducible repeat' first | apply ih0 | apply ih1 | exact LeO.refl _ | exact LeO.none _ | refine LeO.ite ?_ ?_ | refine LeO.bind ?_ (fun _ => ?_)
theorem zqh.calls (k : Nat) (a0 : ByteArray) (r : Bool) (w : World) (h : zqh.f k a0 = some r) :
  Calls Try.prog 51 #[.string a0] w fun e w' => e = .returned (.bool r) ∧ Drawn0 w w' := by
 have H : (if a0.toList = ([] : List UInt8) then (zqh.j0 k a0 true) else (if (a0.size : Int) > 14 then (zqh.j0 k a0 true) else (if 0 < (a0.size : Int) then (if (bt a0 0) ≥ 48 then (zqh.j0 k a0 (decide ((bt a0 0) ≤ 57))) else (zqh.j0 k a0 false)) else (none)))) = some r := h
 clear h
 have dL := q_ H
 clear H
 go_enter Try.func51, Try.ntmps51
 go_upto_region 1 with (fail)
 go_cut [21] (fun dP wc => ∃ (kq : Nat) (aG : Bool), dP = .bool aG ∧ Aside0 (zqh.j0 kq a0 aG = some r) ∧ Aside0 (kq ≤ k) ∧ Drawn0 w wc)
 case first =>
  have H := dL.out
  clear dL
  by_cases c3 : a0.toList = ([] : List UInt8)
  ·rw [if_pos c3] at H
   have aH := et_ c3
   have dK := nf_ c3
   clear c3
   (first | rw [aH] | (simp only [y2h, y2g]; rw [aH]) | skip)
   have H' := q_ H
   clear H
   go_wp2
   go_meet
   case rel => exact ⟨_, (true), cl_, H', ⟨oz_⟩, by repeat (first | exact Drawn0.refl _ | apply Drawn0.step)⟩
  rw [if_neg c3] at H
  have aH := ef_ c3
  have dK := nt_ c3
  (first | rw [aH] | (simp only [y2h, y2g]; rw [aH]) | skip)
  by_cases c4 : (a0.size : Int) > 14
  ·rw [if_pos c4] at H
   have dJ := dt_ c4
   have dM : decide (14 < a0.size) = true := decide_eq_true (by omega)
   clear c4
   have H' := q_ H
   clear H
   go_wp2
   go_meet
   case rel => exact ⟨_, (true), cl_, H', ⟨oz_⟩, by repeat (first | exact Drawn0.refl _ | apply Drawn0.step)⟩
  rw [if_neg c4] at H
  have dJ := df_ c4
  have dM : decide (14 < a0.size) = false := decide_eq_false (by omega)
  clear c4
  by_cases c5 : 0 < (a0.size : Int)
  rotate_left
  ·rw [if_neg c5] at H
   exact absurd H (by simp)
  rw [if_pos c5] at H
  have dQ := dt_ c5
  have dR : decide (0 < a0.size) = true := decide_eq_true (by omega)
  clear c5
  by_cases c7 : (bt a0 0) ≥ 48
  rotate_left
  ·rw [if_neg c7] at H
   have dN := df_ c7
   clear c7
   have H' := q_ H
   clear H
   have p6 : 0 ≤ (0 : Int) := (by omega)
   have q6 : 0 < a0.size := (by have : (0 : Int) < (a0.size : Int) := oa_; omega)
   have dT : ∀ h : 0 < a0.size, ((a0[0]'h).toNat : Int) = bt a0 0 := y15 a0 0
   clear p6
   have dS : (0 < (a0.size : Int)) = True := eq_true (oa_)
   replace q6 := eq_true q6
   go_wp2
   go_meet
   case rel => exact ⟨_, (false), cl_, H', ⟨oz_⟩, by repeat (first | exact Drawn0.refl _ | apply Drawn0.step)⟩
  rw [if_pos c7] at H
  have dN := dt_ c7
  clear c7
  have H' := q_ H
  clear H
  have p6 : 0 ≤ (0 : Int) := (by omega)
  have q6 : 0 < a0.size := (by have : (0 : Int) < (a0.size : Int) := oa_; omega)
  have dT : ∀ h : 0 < a0.size, ((a0[0]'h).toNat : Int) = bt a0 0 := y15 a0 0
  clear p6
  have dS : (0 < (a0.size : Int)) = True := eq_true (oa_)
  replace q6 := eq_true q6
  have p8 : 0 ≤ (0 : Int) := (by omega)
  have q8 : 0 < a0.size := (by have : (0 : Int) < (a0.size : Int) := oa_; omega)
  have dU : ∀ h : 0 < a0.size, ((a0[0]'h).toNat : Int) = bt a0 0 := y15 a0 0
  clear p8
  have dW : (0 < (a0.size : Int)) = True := eq_true (oa_)
  replace q8 := eq_true q8
  go_wp2
  go_meet
  case rel => exact ⟨_, (decide ((bt a0 0) ≤ 57)), cl_, H', ⟨oz_⟩, by repeat (first | exact Drawn0.refl _ | apply Drawn0.step)⟩
 clear dL
 obtain ⟨kq, aG, rfl, HA, aE, ⟨dV, rfl⟩⟩ := hcut
 obtain _ | kj1 := kq
 ·exact nn_ HA
 have H := HA.out
 clear HA
 simp only [zqh.j0] at H
 by_cases c9 : aG = true
 ·subst c9
  rw [if_pos rfl] at H
  obtain rfl := Option.some.inj H
  go_wp2
  go_ret
  exact ⟨by first | rfl | (simp; done) | (simp [y2o]; done) | (simp [*]; done), by repeat (first | exact Drawn0.refl _ | apply Drawn0.step)⟩
 replace c9 := Bool.eq_false_iff.mpr c9
 subst c9
 rw [if_neg (show ¬ (false = true) by decide)] at H
 have H' := q_ H
 clear H
 go_wp2
 go_loopg [3] kj1 (fun kq v3 w' => ∃ (aA : Int), v3 = .int .i64 aA ∧ Aside0 (zqh.l0 kq a0 aA = some r) ∧ Aside0 (kq ≤ kj1) ∧ Drawn0 w w')
 case atStart => exact ⟨(0), cl_, H', ⟨Nat.le_refl _⟩, by repeat (first | exact Drawn0.refl _ | apply Drawn0.step)⟩
 case round =>
  clear H'
  obtain ⟨aA, rfl, HA, aF, ⟨m2, rfl⟩⟩ := hrel
  obtain _ | k2 := gk
  ·exact nn_ HA
  have H := HA.out
  clear HA
  simp only [zqh.l0] at H
  by_cases bG : aA < (a0.size : Int)
  rotate_left
  ·rw [if_neg bG] at H
   have cY := df_ bG
   clear bG
   obtain rfl := Option.some.inj H
   go_wp2
   go_ret
   exact ⟨by first | rfl | (simp; done) | (simp [y2o]; done) | (simp [*]; done), by repeat (first | exact Drawn0.refl _ | apply Drawn0.step)⟩
  rw [if_pos bG] at H
  have cY := dt_ bG
  clear bG
  by_cases dI : 0 ≤ aA
  rotate_left
  ·rw [if_neg dI] at H
   exact absurd H (by simp)
  rw [if_pos dI] at H
  have dO := dt_ dI
  clear dI
  by_cases bA : (bt a0 aA) ≥ 97
  rotate_left
  ·rw [if_neg bA] at H
   have cX := df_ bA
   clear bA
   by_cases bH : (bt a0 aA) ≥ 65
   rotate_left
   ·rw [if_neg bH] at H
    have bZ := df_ bH
    clear bH
    by_cases bB : (bt a0 aA) ≥ 48
    rotate_left
    ·rw [if_neg bB] at H
     have b5 := df_ bB
     clear bB
     by_cases aZ : (bt a0 aA) = 95
     ·rw [if_pos aZ] at H
      have cE := et_ aZ
      have bY := nf_ aZ
      clear aZ
      have H' := q_ H
      clear H
      have aB : 0 ≤ (aA : Int) := oa_
      have aC : aA < (a0.size : Int) := oa_
      have aD := y15 a0 aA
      replace aB := eq_true aB
      replace aC := eq_true aC
      go_wp2
      go_roundg k2
      case measure => have := aE.out; have := aF.out; omega
      case rel => exact ⟨(wrap64 (aA + 1)), cl_, H', ⟨by have := aE.out; have := aF.out; omega⟩, by repeat (first | exact Drawn0.refl _ | apply Drawn0.step)⟩
     rw [if_neg aZ] at H
     have cE := ef_ aZ
     have bY := nt_ aZ
     by_cases aQ : (bt a0 aA) = 46
     ·rw [if_pos aQ] at H
      have cZ := et_ aQ
      have cC := nf_ aQ
      clear aQ
      have H' := q_ H
      clear H
      have aB : 0 ≤ (aA : Int) := oa_
      have aC : aA < (a0.size : Int) := oa_
      have aD := y15 a0 aA
      replace aB := eq_true aB
      replace aC := eq_true aC
      go_wp2
      go_roundg k2
      case measure => have := aE.out; have := aF.out; omega
      case rel => exact ⟨(wrap64 (aA + 1)), cl_, H', ⟨by have := aE.out; have := aF.out; omega⟩, by repeat (first | exact Drawn0.refl _ | apply Drawn0.step)⟩
     rw [if_neg aQ] at H
     have cZ := ef_ aQ
     have cC := nt_ aQ
     by_cases aO : ((bt a0 aA) = 36)
     rotate_left
     ·rw [if_neg aO] at H
      have cP := ef_ aO
      have cA := nt_ aO
      obtain rfl := Option.some.inj H
      have aB : 0 ≤ (aA : Int) := oa_
      have aC : aA < (a0.size : Int) := oa_
      have aD := y15 a0 aA
      replace aB := eq_true aB
      replace aC := eq_true aC
      go_wp2
      go_ret
      exact ⟨by first | rfl | (simp; done) | (simp [y2o]; done) | (simp [*]; done), by repeat (first | exact Drawn0.refl _ | apply Drawn0.step)⟩
     rw [if_pos aO] at H
     have cP := et_ aO
     have cA := nf_ aO
     clear aO
     have H' := q_ H
     clear H
     have aB : 0 ≤ (aA : Int) := oa_
     have aC : aA < (a0.size : Int) := oa_
     have aD := y15 a0 aA
     replace aB := eq_true aB
     replace aC := eq_true aC
     go_wp2
     go_roundg k2
     case measure => have := aE.out; have := aF.out; omega
     case rel => exact ⟨(wrap64 (aA + 1)), cl_, H', ⟨by have := aE.out; have := aF.out; omega⟩, by repeat (first | exact Drawn0.refl _ | apply Drawn0.step)⟩
    rw [if_pos bB] at H
    have b5 := dt_ bB
    clear bB
    by_cases bE : (bt a0 aA) ≤ 57
    ·rw [if_pos bE] at H
     have c0 := dt_ bE
     clear bE
     have H' := q_ H
     clear H
     have aB : 0 ≤ (aA : Int) := oa_
     have aC : aA < (a0.size : Int) := oa_
     have aD := y15 a0 aA
     replace aB := eq_true aB
     replace aC := eq_true aC
     go_wp2
     go_roundg k2
     case measure => have := aE.out; have := aF.out; omega
     case rel => exact ⟨(wrap64 (aA + 1)), cl_, H', ⟨by have := aE.out; have := aF.out; omega⟩, by repeat (first | exact Drawn0.refl _ | apply Drawn0.step)⟩
    rw [if_neg bE] at H
    have c0 := df_ bE
    clear bE
    by_cases aR : (bt a0 aA) = 95
    ·rw [if_pos aR] at H
     have dD := et_ aR
     have cJ := nf_ aR
     clear aR
     have H' := q_ H
     clear H
     have aB : 0 ≤ (aA : Int) := oa_
     have aC : aA < (a0.size : Int) := oa_
     have aD := y15 a0 aA
     replace aB := eq_true aB
     replace aC := eq_true aC
     go_wp2
     go_roundg k2
     case measure => have := aE.out; have := aF.out; omega
     case rel => exact ⟨(wrap64 (aA + 1)), cl_, H', ⟨by have := aE.out; have := aF.out; omega⟩, by repeat (first | exact Drawn0.refl _ | apply Drawn0.step)⟩
    rw [if_neg aR] at H
    have dD := ef_ aR
    have cJ := nt_ aR
    by_cases aV : (bt a0 aA) = 46
    ·rw [if_pos aV] at H
     have cL := et_ aV
     have cT := nf_ aV
     clear aV
     have H' := q_ H
     clear H
     have aB : 0 ≤ (aA : Int) := oa_
     have aC : aA < (a0.size : Int) := oa_
     have aD := y15 a0 aA
     replace aB := eq_true aB
     replace aC := eq_true aC
     go_wp2
     go_roundg k2
     case measure => have := aE.out; have := aF.out; omega
     case rel => exact ⟨(wrap64 (aA + 1)), cl_, H', ⟨by have := aE.out; have := aF.out; omega⟩, by repeat (first | exact Drawn0.refl _ | apply Drawn0.step)⟩
    rw [if_neg aV] at H
    have cL := ef_ aV
    have cT := nt_ aV
    by_cases aX : ((bt a0 aA) = 36)
    rotate_left
    ·rw [if_neg aX] at H
     have bO := ef_ aX
     have cM := nt_ aX
     obtain rfl := Option.some.inj H
     have aB : 0 ≤ (aA : Int) := oa_
     have aC : aA < (a0.size : Int) := oa_
     have aD := y15 a0 aA
     replace aB := eq_true aB
     replace aC := eq_true aC
     go_wp2
     go_ret
     exact ⟨by first | rfl | (simp; done) | (simp [y2o]; done) | (simp [*]; done), by repeat (first | exact Drawn0.refl _ | apply Drawn0.step)⟩
    rw [if_pos aX] at H
    have bO := et_ aX
    have cM := nf_ aX
    clear aX
    have H' := q_ H
    clear H
    have aB : 0 ≤ (aA : Int) := oa_
    have aC : aA < (a0.size : Int) := oa_
    have aD := y15 a0 aA
    replace aB := eq_true aB
    replace aC := eq_true aC
    go_wp2
    go_roundg k2
    case measure => have := aE.out; have := aF.out; omega
    case rel => exact ⟨(wrap64 (aA + 1)), cl_, H', ⟨by have := aE.out; have := aF.out; omega⟩, by repeat (first | exact Drawn0.refl _ | apply Drawn0.step)⟩
   rw [if_pos bH] at H
   have bZ := dt_ bH
   clear bH
   by_cases bF : (bt a0 aA) ≤ 90
   ·rw [if_pos bF] at H
    have c2 := dt_ bF
    clear bF
    have H' := q_ H
    clear H
    have aB : 0 ≤ (aA : Int) := oa_
    have aC : aA < (a0.size : Int) := oa_
    have aD := y15 a0 aA
    replace aB := eq_true aB
    replace aC := eq_true aC
    go_wp2
    go_roundg k2
    case measure => have := aE.out; have := aF.out; omega
    case rel => exact ⟨(wrap64 (aA + 1)), cl_, H', ⟨by have := aE.out; have := aF.out; omega⟩, by repeat (first | exact Drawn0.refl _ | apply Drawn0.step)⟩
   rw [if_neg bF] at H
   have c2 := df_ bF
   clear bF
   by_cases bK : (bt a0 aA) ≥ 48
   rotate_left
   ·rw [if_neg bK] at H
    have b0 := df_ bK
    clear bK
    by_cases aM : (bt a0 aA) = 95
    ·rw [if_pos aM] at H
     have bM := et_ aM
     have cD := nf_ aM
     clear aM
     have H' := q_ H
     clear H
     have aB : 0 ≤ (aA : Int) := oa_
     have aC : aA < (a0.size : Int) := oa_
     have aD := y15 a0 aA
     replace aB := eq_true aB
     replace aC := eq_true aC
     go_wp2
     go_roundg k2
     case measure => have := aE.out; have := aF.out; omega
     case rel => exact ⟨(wrap64 (aA + 1)), cl_, H', ⟨by have := aE.out; have := aF.out; omega⟩, by repeat (first | exact Drawn0.refl _ | apply Drawn0.step)⟩
    rw [if_neg aM] at H
    have bM := ef_ aM
    have cD := nt_ aM
    by_cases aP : (bt a0 aA) = 46
    ·rw [if_pos aP] at H
     have c1 := et_ aP
     have bT := nf_ aP
     clear aP
     have H' := q_ H
     clear H
     have aB : 0 ≤ (aA : Int) := oa_
     have aC : aA < (a0.size : Int) := oa_
     have aD := y15 a0 aA
     replace aB := eq_true aB
     replace aC := eq_true aC
     go_wp2
     go_roundg k2
     case measure => have := aE.out; have := aF.out; omega
     case rel => exact ⟨(wrap64 (aA + 1)), cl_, H', ⟨by have := aE.out; have := aF.out; omega⟩, by repeat (first | exact Drawn0.refl _ | apply Drawn0.step)⟩
    rw [if_neg aP] at H
    have c1 := ef_ aP
    have bT := nt_ aP
    by_cases aU : ((bt a0 aA) = 36)
    rotate_left
    ·rw [if_neg aU] at H
     have dB := ef_ aU
     have b9 := nt_ aU
     obtain rfl := Option.some.inj H
     have aB : 0 ≤ (aA : Int) := oa_
     have aC : aA < (a0.size : Int) := oa_
     have aD := y15 a0 aA
     replace aB := eq_true aB
     replace aC := eq_true aC
     go_wp2
     go_ret
     exact ⟨by first | rfl | (simp; done) | (simp [y2o]; done) | (simp [*]; done), by repeat (first | exact Drawn0.refl _ | apply Drawn0.step)⟩
    rw [if_pos aU] at H
    have dB := et_ aU
    have b9 := nf_ aU
    clear aU
    have H' := q_ H
    clear H
    have aB : 0 ≤ (aA : Int) := oa_
    have aC : aA < (a0.size : Int) := oa_
    have aD := y15 a0 aA
    replace aB := eq_true aB
    replace aC := eq_true aC
    go_wp2
    go_roundg k2
    case measure => have := aE.out; have := aF.out; omega
    case rel => exact ⟨(wrap64 (aA + 1)), cl_, H', ⟨by have := aE.out; have := aF.out; omega⟩, by repeat (first | exact Drawn0.refl _ | apply Drawn0.step)⟩
   rw [if_pos bK] at H
   have b0 := dt_ bK
   clear bK
   by_cases bL : (bt a0 aA) ≤ 57
   ·rw [if_pos bL] at H
    have bQ := dt_ bL
    clear bL
    have H' := q_ H
    clear H
    have aB : 0 ≤ (aA : Int) := oa_
    have aC : aA < (a0.size : Int) := oa_
    have aD := y15 a0 aA
    replace aB := eq_true aB
    replace aC := eq_true aC
    go_wp2
    go_roundg k2
    case measure => have := aE.out; have := aF.out; omega
    case rel => exact ⟨(wrap64 (aA + 1)), cl_, H', ⟨by have := aE.out; have := aF.out; omega⟩, by repeat (first | exact Drawn0.refl _ | apply Drawn0.step)⟩
   rw [if_neg bL] at H
   have bQ := df_ bL
   clear bL
   by_cases aY : (bt a0 aA) = 95
   ·rw [if_pos aY] at H
    have b7 := et_ aY
    have dE := nf_ aY
    clear aY
    have H' := q_ H
    clear H
    have aB : 0 ≤ (aA : Int) := oa_
    have aC : aA < (a0.size : Int) := oa_
    have aD := y15 a0 aA
    replace aB := eq_true aB
    replace aC := eq_true aC
    go_wp2
    go_roundg k2
    case measure => have := aE.out; have := aF.out; omega
    case rel => exact ⟨(wrap64 (aA + 1)), cl_, H', ⟨by have := aE.out; have := aF.out; omega⟩, by repeat (first | exact Drawn0.refl _ | apply Drawn0.step)⟩
   rw [if_neg aY] at H
   have b7 := ef_ aY
   have dE := nt_ aY
   by_cases a5 : (bt a0 aA) = 46
   ·rw [if_pos a5] at H
    have dC := et_ a5
    have b8 := nf_ a5
    clear a5
    have H' := q_ H
    clear H
    have aB : 0 ≤ (aA : Int) := oa_
    have aC : aA < (a0.size : Int) := oa_
    have aD := y15 a0 aA
    replace aB := eq_true aB
    replace aC := eq_true aC
    go_wp2
    go_roundg k2
    case measure => have := aE.out; have := aF.out; omega
    case rel => exact ⟨(wrap64 (aA + 1)), cl_, H', ⟨by have := aE.out; have := aF.out; omega⟩, by repeat (first | exact Drawn0.refl _ | apply Drawn0.step)⟩
   rw [if_neg a5] at H
   have dC := ef_ a5
   have b8 := nt_ a5
   by_cases aW : ((bt a0 aA) = 36)
   rotate_left
   ·rw [if_neg aW] at H
    have cF := ef_ aW
    have dG := nt_ aW
    obtain rfl := Option.some.inj H
    have aB : 0 ≤ (aA : Int) := oa_
    have aC : aA < (a0.size : Int) := oa_
    have aD := y15 a0 aA
    replace aB := eq_true aB
    replace aC := eq_true aC
    go_wp2
    go_ret
    exact ⟨by first | rfl | (simp; done) | (simp [y2o]; done) | (simp [*]; done), by repeat (first | exact Drawn0.refl _ | apply Drawn0.step)⟩
   rw [if_pos aW] at H
   have cF := et_ aW
   have dG := nf_ aW
   clear aW
   have H' := q_ H
   clear H
   have aB : 0 ≤ (aA : Int) := oa_
   have aC : aA < (a0.size : Int) := oa_
   have aD := y15 a0 aA
   replace aB := eq_true aB
   replace aC := eq_true aC
   go_wp2
   go_roundg k2
   case measure => have := aE.out; have := aF.out; omega
   case rel => exact ⟨(wrap64 (aA + 1)), cl_, H', ⟨by have := aE.out; have := aF.out; omega⟩, by repeat (first | exact Drawn0.refl _ | apply Drawn0.step)⟩
  rw [if_pos bA] at H
  have cX := dt_ bA
  clear bA
  by_cases bI : (bt a0 aA) ≤ 122
  ·rw [if_pos bI] at H
   have bU := dt_ bI
   clear bI
   have H' := q_ H
   clear H
   have aB : 0 ≤ (aA : Int) := oa_
   have aC : aA < (a0.size : Int) := oa_
   have aD := y15 a0 aA
   replace aB := eq_true aB
   replace aC := eq_true aC
   go_wp2
   go_roundg k2
   case measure => have := aE.out; have := aF.out; omega
   case rel => exact ⟨(wrap64 (aA + 1)), cl_, H', ⟨by have := aE.out; have := aF.out; omega⟩, by repeat (first | exact Drawn0.refl _ | apply Drawn0.step)⟩
  rw [if_neg bI] at H
  have bU := df_ bI
  clear bI
  by_cases bD : (bt a0 aA) ≥ 65
  rotate_left
  ·rw [if_neg bD] at H
   have cO := df_ bD
   clear bD
   by_cases bC : (bt a0 aA) ≥ 48
   rotate_left
   ·rw [if_neg bC] at H
    have b6 := df_ bC
    clear bC
    by_cases a6 : (bt a0 aA) = 95
    ·rw [if_pos a6] at H
     have bR := et_ a6
     have cN := nf_ a6
     clear a6
     have H' := q_ H
     clear H
     have aB : 0 ≤ (aA : Int) := oa_
     have aC : aA < (a0.size : Int) := oa_
     have aD := y15 a0 aA
     replace aB := eq_true aB
     replace aC := eq_true aC
     go_wp2
     go_roundg k2
     case measure => have := aE.out; have := aF.out; omega
     case rel => exact ⟨(wrap64 (aA + 1)), cl_, H', ⟨by have := aE.out; have := aF.out; omega⟩, by repeat (first | exact Drawn0.refl _ | apply Drawn0.step)⟩
    rw [if_neg a6] at H
    have bR := ef_ a6
    have cN := nt_ a6
    by_cases aJ : (bt a0 aA) = 46
    ·rw [if_pos aJ] at H
     have bN := et_ aJ
     have bP := nf_ aJ
     clear aJ
     have H' := q_ H
     clear H
     have aB : 0 ≤ (aA : Int) := oa_
     have aC : aA < (a0.size : Int) := oa_
     have aD := y15 a0 aA
     replace aB := eq_true aB
     replace aC := eq_true aC
     go_wp2
     go_roundg k2
     case measure => have := aE.out; have := aF.out; omega
     case rel => exact ⟨(wrap64 (aA + 1)), cl_, H', ⟨by have := aE.out; have := aF.out; omega⟩, by repeat (first | exact Drawn0.refl _ | apply Drawn0.step)⟩
    rw [if_neg aJ] at H
    have bN := ef_ aJ
    have bP := nt_ aJ
    by_cases a1 : ((bt a0 aA) = 36)
    rotate_left
    ·rw [if_neg a1] at H
     have bS := ef_ a1
     have bW := nt_ a1
     obtain rfl := Option.some.inj H
     have aB : 0 ≤ (aA : Int) := oa_
     have aC : aA < (a0.size : Int) := oa_
     have aD := y15 a0 aA
     replace aB := eq_true aB
     replace aC := eq_true aC
     go_wp2
     go_ret
     exact ⟨by first | rfl | (simp; done) | (simp [y2o]; done) | (simp [*]; done), by repeat (first | exact Drawn0.refl _ | apply Drawn0.step)⟩
    rw [if_pos a1] at H
    have bS := et_ a1
    have bW := nf_ a1
    clear a1
    have H' := q_ H
    clear H
    have aB : 0 ≤ (aA : Int) := oa_
    have aC : aA < (a0.size : Int) := oa_
    have aD := y15 a0 aA
    replace aB := eq_true aB
    replace aC := eq_true aC
    go_wp2
    go_roundg k2
    case measure => have := aE.out; have := aF.out; omega
    case rel => exact ⟨(wrap64 (aA + 1)), cl_, H', ⟨by have := aE.out; have := aF.out; omega⟩, by repeat (first | exact Drawn0.refl _ | apply Drawn0.step)⟩
   rw [if_pos bC] at H
   have b6 := dt_ bC
   clear bC
   by_cases a8 : (bt a0 aA) ≤ 57
   ·rw [if_pos a8] at H
    have c8 := dt_ a8
    clear a8
    have H' := q_ H
    clear H
    have aB : 0 ≤ (aA : Int) := oa_
    have aC : aA < (a0.size : Int) := oa_
    have aD := y15 a0 aA
    replace aB := eq_true aB
    replace aC := eq_true aC
    go_wp2
    go_roundg k2
    case measure => have := aE.out; have := aF.out; omega
    case rel => exact ⟨(wrap64 (aA + 1)), cl_, H', ⟨by have := aE.out; have := aF.out; omega⟩, by repeat (first | exact Drawn0.refl _ | apply Drawn0.step)⟩
   rw [if_neg a8] at H
   have c8 := df_ a8
   clear a8
   by_cases aT : (bt a0 aA) = 95
   ·rw [if_pos aT] at H
    have c6 := et_ aT
    have dF := nf_ aT
    clear aT
    have H' := q_ H
    clear H
    have aB : 0 ≤ (aA : Int) := oa_
    have aC : aA < (a0.size : Int) := oa_
    have aD := y15 a0 aA
    replace aB := eq_true aB
    replace aC := eq_true aC
    go_wp2
    go_roundg k2
    case measure => have := aE.out; have := aF.out; omega
    case rel => exact ⟨(wrap64 (aA + 1)), cl_, H', ⟨by have := aE.out; have := aF.out; omega⟩, by repeat (first | exact Drawn0.refl _ | apply Drawn0.step)⟩
   rw [if_neg aT] at H
   have c6 := ef_ aT
   have dF := nt_ aT
   by_cases aL : (bt a0 aA) = 46
   ·rw [if_pos aL] at H
    have cK := et_ aL
    have cQ := nf_ aL
    clear aL
    have H' := q_ H
    clear H
    have aB : 0 ≤ (aA : Int) := oa_
    have aC : aA < (a0.size : Int) := oa_
    have aD := y15 a0 aA
    replace aB := eq_true aB
    replace aC := eq_true aC
    go_wp2
    go_roundg k2
    case measure => have := aE.out; have := aF.out; omega
    case rel => exact ⟨(wrap64 (aA + 1)), cl_, H', ⟨by have := aE.out; have := aF.out; omega⟩, by repeat (first | exact Drawn0.refl _ | apply Drawn0.step)⟩
   rw [if_neg aL] at H
   have cK := ef_ aL
   have cQ := nt_ aL
   by_cases a4 : ((bt a0 aA) = 36)
   rotate_left
   ·rw [if_neg a4] at H
    have b3 := ef_ a4
    have dA := nt_ a4
    obtain rfl := Option.some.inj H
    have aB : 0 ≤ (aA : Int) := oa_
    have aC : aA < (a0.size : Int) := oa_
    have aD := y15 a0 aA
    replace aB := eq_true aB
    replace aC := eq_true aC
    go_wp2
    go_ret
    exact ⟨by first | rfl | (simp; done) | (simp [y2o]; done) | (simp [*]; done), by repeat (first | exact Drawn0.refl _ | apply Drawn0.step)⟩
   rw [if_pos a4] at H
   have b3 := et_ a4
   have dA := nf_ a4
   clear a4
   have H' := q_ H
   clear H
   have aB : 0 ≤ (aA : Int) := oa_
   have aC : aA < (a0.size : Int) := oa_
   have aD := y15 a0 aA
   replace aB := eq_true aB
   replace aC := eq_true aC
   go_wp2
   go_roundg k2
   case measure => have := aE.out; have := aF.out; omega
   case rel => exact ⟨(wrap64 (aA + 1)), cl_, H', ⟨by have := aE.out; have := aF.out; omega⟩, by repeat (first | exact Drawn0.refl _ | apply Drawn0.step)⟩
  rw [if_pos bD] at H
  have cO := dt_ bD
  clear bD
  by_cases bJ : (bt a0 aA) ≤ 90
  ·rw [if_pos bJ] at H
   have dH := dt_ bJ
   clear bJ
   have H' := q_ H
   clear H
   have aB : 0 ≤ (aA : Int) := oa_
   have aC : aA < (a0.size : Int) := oa_
   have aD := y15 a0 aA
   replace aB := eq_true aB
   replace aC := eq_true aC
   go_wp2
   go_roundg k2
   case measure => have := aE.out; have := aF.out; omega
   case rel => exact ⟨(wrap64 (aA + 1)), cl_, H', ⟨by have := aE.out; have := aF.out; omega⟩, by repeat (first | exact Drawn0.refl _ | apply Drawn0.step)⟩
  rw [if_neg bJ] at H
  have dH := df_ bJ
  clear bJ
  by_cases a7 : (bt a0 aA) ≥ 48
  rotate_left
  ·rw [if_neg a7] at H
   have b2 := df_ a7
   clear a7
   by_cases aI : (bt a0 aA) = 95
   ·rw [if_pos aI] at H
    have cV := et_ aI
    have cB := nf_ aI
    clear aI
    have H' := q_ H
    clear H
    have aB : 0 ≤ (aA : Int) := oa_
    have aC : aA < (a0.size : Int) := oa_
    have aD := y15 a0 aA
    replace aB := eq_true aB
    replace aC := eq_true aC
    go_wp2
    go_roundg k2
    case measure => have := aE.out; have := aF.out; omega
    case rel => exact ⟨(wrap64 (aA + 1)), cl_, H', ⟨by have := aE.out; have := aF.out; omega⟩, by repeat (first | exact Drawn0.refl _ | apply Drawn0.step)⟩
   rw [if_neg aI] at H
   have cV := ef_ aI
   have cB := nt_ aI
   by_cases a3 : (bt a0 aA) = 46
   ·rw [if_pos a3] at H
    have cG := et_ a3
    have cR := nf_ a3
    clear a3
    have H' := q_ H
    clear H
    have aB : 0 ≤ (aA : Int) := oa_
    have aC : aA < (a0.size : Int) := oa_
    have aD := y15 a0 aA
    replace aB := eq_true aB
    replace aC := eq_true aC
    go_wp2
    go_roundg k2
    case measure => have := aE.out; have := aF.out; omega
    case rel => exact ⟨(wrap64 (aA + 1)), cl_, H', ⟨by have := aE.out; have := aF.out; omega⟩, by repeat (first | exact Drawn0.refl _ | apply Drawn0.step)⟩
   rw [if_neg a3] at H
   have cG := ef_ a3
   have cR := nt_ a3
   by_cases aK : ((bt a0 aA) = 36)
   rotate_left
   ·rw [if_neg aK] at H
    have cH := ef_ aK
    have bV := nt_ aK
    obtain rfl := Option.some.inj H
    have aB : 0 ≤ (aA : Int) := oa_
    have aC : aA < (a0.size : Int) := oa_
    have aD := y15 a0 aA
    replace aB := eq_true aB
    replace aC := eq_true aC
    go_wp2
    go_ret
    exact ⟨by first | rfl | (simp; done) | (simp [y2o]; done) | (simp [*]; done), by repeat (first | exact Drawn0.refl _ | apply Drawn0.step)⟩
   rw [if_pos aK] at H
   have cH := et_ aK
   have bV := nf_ aK
   clear aK
   have H' := q_ H
   clear H
   have aB : 0 ≤ (aA : Int) := oa_
   have aC : aA < (a0.size : Int) := oa_
   have aD := y15 a0 aA
   replace aB := eq_true aB
   replace aC := eq_true aC
   go_wp2
   go_roundg k2
   case measure => have := aE.out; have := aF.out; omega
   case rel => exact ⟨(wrap64 (aA + 1)), cl_, H', ⟨by have := aE.out; have := aF.out; omega⟩, by repeat (first | exact Drawn0.refl _ | apply Drawn0.step)⟩
  rw [if_pos a7] at H
  have b2 := dt_ a7
  clear a7
  by_cases a9 : (bt a0 aA) ≤ 57
  ·rw [if_pos a9] at H
   have cU := dt_ a9
   clear a9
   have H' := q_ H
   clear H
   have aB : 0 ≤ (aA : Int) := oa_
   have aC : aA < (a0.size : Int) := oa_
   have aD := y15 a0 aA
   replace aB := eq_true aB
   replace aC := eq_true aC
   go_wp2
   go_roundg k2
   case measure => have := aE.out; have := aF.out; omega
   case rel => exact ⟨(wrap64 (aA + 1)), cl_, H', ⟨by have := aE.out; have := aF.out; omega⟩, by repeat (first | exact Drawn0.refl _ | apply Drawn0.step)⟩
  rw [if_neg a9] at H
  have cU := df_ a9
  clear a9
  by_cases aS : (bt a0 aA) = 95
  ·rw [if_pos aS] at H
   have bX := et_ aS
   have b1 := nf_ aS
   clear aS
   have H' := q_ H
   clear H
   have aB : 0 ≤ (aA : Int) := oa_
   have aC : aA < (a0.size : Int) := oa_
   have aD := y15 a0 aA
   replace aB := eq_true aB
   replace aC := eq_true aC
   go_wp2
   go_roundg k2
   case measure => have := aE.out; have := aF.out; omega
   case rel => exact ⟨(wrap64 (aA + 1)), cl_, H', ⟨by have := aE.out; have := aF.out; omega⟩, by repeat (first | exact Drawn0.refl _ | apply Drawn0.step)⟩
  rw [if_neg aS] at H
  have bX := ef_ aS
  have b1 := nt_ aS
  by_cases a2 : (bt a0 aA) = 46
  ·rw [if_pos a2] at H
   have cW := et_ a2
   have b4 := nf_ a2
   clear a2
   have H' := q_ H
   clear H
   have aB : 0 ≤ (aA : Int) := oa_
   have aC : aA < (a0.size : Int) := oa_
   have aD := y15 a0 aA
   replace aB := eq_true aB
   replace aC := eq_true aC
   go_wp2
   go_roundg k2
   case measure => have := aE.out; have := aF.out; omega
   case rel => exact ⟨(wrap64 (aA + 1)), cl_, H', ⟨by have := aE.out; have := aF.out; omega⟩, by repeat (first | exact Drawn0.refl _ | apply Drawn0.step)⟩
  rw [if_neg a2] at H
  have cW := ef_ a2
  have b4 := nt_ a2
  by_cases aN : ((bt a0 aA) = 36)
  rotate_left
  ·rw [if_neg aN] at H
   have cI := ef_ aN
   have cS := nt_ aN
   obtain rfl := Option.some.inj H
   have aB : 0 ≤ (aA : Int) := oa_
   have aC : aA < (a0.size : Int) := oa_
   have aD := y15 a0 aA
   replace aB := eq_true aB
   replace aC := eq_true aC
   go_wp2
   go_ret
   exact ⟨by first | rfl | (simp; done) | (simp [y2o]; done) | (simp [*]; done), by repeat (first | exact Drawn0.refl _ | apply Drawn0.step)⟩
  rw [if_pos aN] at H
  have cI := et_ aN
  have cS := nf_ aN
  clear aN
  have H' := q_ H
  clear H
  have aB : 0 ≤ (aA : Int) := oa_
  have aC : aA < (a0.size : Int) := oa_
  have aD := y15 a0 aA
  replace aB := eq_true aB
  replace aC := eq_true aC
  go_wp2
  go_roundg k2
  case measure => have := aE.out; have := aF.out; omega
  case rel => exact ⟨(wrap64 (aA + 1)), cl_, H', ⟨by have := aE.out; have := aF.out; omega⟩, by repeat (first | exact Drawn0.refl _ | apply Drawn0.step)⟩
end Go.Proofs.Ytenlmckahaniiaa.K
end
section
namespace Go.Proofs.Ytenlmckahaniiaa.K
open Go.RowKit Go.Proofs.YtW.P Go.Proofs.YtW.L
def zqx.f (a0 : Int) : Option (Bool) := if a0 ≥ 0 then (some (decide (a0 ≤ 65535))) else (some false)
theorem zqx.calls (a0 : Int) (r : Bool) (w : World) (h : zqx.f a0 = some r) :
    Calls Try.prog 88 #[.int .i64 a0] w fun e w' => e = .returned (.bool r) ∧ Drawn0 w w' := by
  have H : (if a0 ≥ 0 then (some (decide (a0 ≤ 65535))) else (some false)) = some r := h
  clear h
  by_cases c2 : a0 ≥ 0
  · rw [if_pos c2] at H
    have aA := dt_ c2
    clear c2
    obtain rfl := Option.some.inj H
    go_enter Try.func88, Try.ntmps88
    go_wp2
    go_ret
    exact ⟨by first | rfl | (simp; done) | (simp [y2o]; done) | (simp [*]; done), by repeat (first | exact Drawn0.refl _ | apply Drawn0.step)⟩
  rw [if_neg c2] at H
  have aA := df_ c2
  clear c2
  obtain rfl := Option.some.inj H
  go_enter Try.func88, Try.ntmps88
  go_wp2
  go_ret
  exact ⟨by first | rfl | (simp; done) | (simp [y2o]; done) | (simp [*]; done), by repeat (first | exact Drawn0.refl _ | apply Drawn0.step)⟩
end Go.Proofs.Ytenlmckahaniiaa.K
end
