/- Lemmas for several laws: what their proofs need of this seat's texts, in one place. -/
import Derived.Lib.Bytealg
import Derived.Maps.OwnSet
import Derived.Test.YtenlmckahaniiaaZcLe4
set_option linter.unusedVariables false
set_option linter.unusedSimpArgs false
set_option linter.unusedSectionVars false
set_option maxHeartbeats 8000000
set_option maxRecDepth 100000
section
namespace Go.Proofs.Ytenlmckahaniiaa.K
open Go.RowKit Go.Proofs.YtW.P Go.Proofs.YtW.L
attribute [local go_sem high] eqA43 eqA62
mutual
def zq7.j0 : Nat → Bool → ByteArray → ByteArray → ByteArray → Int → List (S62) → List (S43) → ByteArray → ByteArray → ByteArray → Int → List (S62) → List (S43) → Option (Bool)
  | 0, _, _, _, _, _, _, _, _, _, _, _, _, _ => none
  | k + 1, x50, x743000, x743001, x743002, x743003, x743004, x743005, x744000, x744001, x744002, x744003, x744004, x744005 => if x50 = true then (some false) else (zq7.l0 k 0 x743000 x743001 x743002 x743003 x743004 x743005 x744000 x744001 x744002 x744003 x744004 x744005)
def zq7.l0 : Nat → Int → ByteArray → ByteArray → ByteArray → Int → List (S62) → List (S43) → ByteArray → ByteArray → ByteArray → Int → List (S62) → List (S43) → Option (Bool)
  | 0, _, _, _, _, _, _, _, _, _, _, _, _, _ => none
  | k + 1, x5, x743000, x743001, x743002, x743003, x743004, x743005, x744000, x744001, x744002, x744003, x744004, x744005 => if x5 < (x743004.length : Int) then (if 0 ≤ x5 then (if x5 < (x744004.length : Int) then (if (!((((y4b x743004 x5).f0).toList) == (((y4b x744004 x5).f0).toList)) || (!(((y4b x743004 x5).f1) == ((y4b x744004 x5).f1)) || (!(((y4b x743004 x5).f2) == ((y4b x744004 x5).f2)) || (!(((y4b x743004 x5).f3) == ((y4b x744004 x5).f3)))))) = true then (some false) else (zq7.l0 k (wrap64 (x5 + 1)) x743000 x743001 x743002 x743003 x743004 x743005 x744000 x744001 x744002 x744003 x744004 x744005)) else (none)) else (none)) else (zq7.l1 k 0 x743000 x743001 x743002 x743003 x743004 x743005 x744000 x744001 x744002 x744003 x744004 x744005)
def zq7.l1 : Nat → Int → ByteArray → ByteArray → ByteArray → Int → List (S62) → List (S43) → ByteArray → ByteArray → ByteArray → Int → List (S62) → List (S43) → Option (Bool)
  | 0, _, _, _, _, _, _, _, _, _, _, _, _, _ => none
  | k + 1, x6, x743000, x743001, x743002, x743003, x743004, x743005, x744000, x744001, x744002, x744003, x744004, x744005 => if x6 < (x743005.length : Int) then (if 0 ≤ x6 then (if x6 < (x744005.length : Int) then (if (!(((y4a x743005 x6).f0) == ((y4a x744005 x6).f0)) || (!(((y4a x743005 x6).f1) == ((y4a x744005 x6).f1)) || (!(((y4a x743005 x6).f2) == ((y4a x744005 x6).f2)) || (!((((y4a x743005 x6).f3).toList) == (((y4a x744005 x6).f3).toList)) || (!(((y4a x743005 x6).f4) == ((y4a x744005 x6).f4))))))) = true then (some false) else (zq7.l1 k (wrap64 (x6 + 1)) x743000 x743001 x743002 x743003 x743004 x743005 x744000 x744001 x744002 x744003 x744004 x744005)) else (none)) else (none)) else (some true)
end
def zq7.f (k : Nat) (a0_0 : ByteArray) (a0_1 : ByteArray) (a0_2 : ByteArray) (a0_3 : Int) (l0_4 : List (S62)) (l0_5 : List (S43)) (a1_0 : ByteArray) (a1_1 : ByteArray) (a1_2 : ByteArray) (a1_3 : Int) (l1_4 : List (S62)) (l1_5 : List (S43)) : Option (Bool) := if a0_0.toList = a1_0.toList then (if a0_1.toList = a1_1.toList then (if a0_2.toList = a1_2.toList then (if a0_3 = a1_3 then (if (l0_4.length : Int) = (l1_4.length : Int) then (zq7.j0 k ((l0_5.length : Int) != (l1_5.length : Int)) a0_0 a0_1 a0_2 a0_3 l0_4 l0_5 a1_0 a1_1 a1_2 a1_3 l1_4 l1_5) else (zq7.j0 k true a0_0 a0_1 a0_2 a0_3 l0_4 l0_5 a1_0 a1_1 a1_2 a1_3 l1_4 l1_5)) else (zq7.j0 k true a0_0 a0_1 a0_2 a0_3 l0_4 l0_5 a1_0 a1_1 a1_2 a1_3 l1_4 l1_5)) else (zq7.j0 k true a0_0 a0_1 a0_2 a0_3 l0_4 l0_5 a1_0 a1_1 a1_2 a1_3 l1_4 l1_5)) else (zq7.j0 k true a0_0 a0_1 a0_2 a0_3 l0_4 l0_5 a1_0 a1_1 a1_2 a1_3 l1_4 l1_5)) else (zq7.j0 k true a0_0 a0_1 a0_2 a0_3 l0_4 l0_5 a1_0 a1_1 a1_2 a1_3 l1_4 l1_5)
theorem zq7.mono_l : ∀ k, (∀ y0 y1 y2 y3 y4 y5 y6 y7 y8 y9 y10 y11 y12, LeO (zq7.j0 k y0 y1 y2 y3 y4 y5 y6 y7 y8 y9 y10 y11 y12) (zq7.j0 (k + 1) y0 y1 y2 y3 y4 y5 y6 y7 y8 y9 y10 y11 y12)) ∧ (∀ y0 y1 y2 y3 y4 y5 y6 y7 y8 y9 y10 y11 y12, LeO (zq7.l0 k y0 y1 y2 y3 y4 y5 y6 y7 y8 y9 y10 y11 y12) (zq7.l0 (k + 1) y0 y1 y2 y3 y4 y5 y6 y7 y8 y9 y10 y11 y12)) ∧ (∀ y0 y1 y2 y3 y4 y5 y6 y7 y8 y9 y10 y11 y12, LeO (zq7.l1 k y0 y1 y2 y3 y4 y5 y6 y7 y8 y9 y10 y11 y12) (zq7.l1 (k + 1) y0 y1 y2 y3 y4 y5 y6 y7 y8 y9 y10 y11 y12))
 | 0 => ⟨fun _ _ _ _ _ _ _ _ _ _ _ _ _ r h => by simp [zq7.j0] at h, fun _ _ _ _ _ _ _ _ _ _ _ _ _ r h => by simp [zq7.l0] at h, fun _ _ _ _ _ _ _ _ _ _ _ _ _ r h => by simp [zq7.l1] at h⟩
 | k + 1 => by
  obtain ⟨ih0, ih1, ih2⟩ := zq7.mono_l k
  refine ⟨?_, ?_, ?_⟩
  ·intro y0 y1 y2 y3 y4 y5 y6 y7 y8 y9 y10 y11 y12
   unfold zq7.j0
   with_reducible repeat' first | apply ih0 | apply ih1 | apply ih2 | exact LeO.refl _ | exact LeO.none _ | refine LeO.ite ?_ ?_ | refine LeO.bind ?_ (fun _ => ?_)
  ·intro y0 y1 y2 y3 y4 y5 y6 y7 y8 y9 y10 y11 y12
   unfold zq7.l0
   with_reducible repeat' first | apply ih0 | apply ih1 | apply ih2 | exact LeO.refl _ | exact LeO.none _ | refine LeO.ite ?_ ?_ | refine LeO.bind ?_ (fun _ => ?_)
  ·intro y0 y1 y2 y3 y4 y5 y6 y7 y8 y9 y10 y11 y12
   unfold zq7.l1
   with_reducible repeat' first | apply ih0 | apply ih1 | apply ih2 | exact LeO.refl _ | exact LeO.none _ | refine LeO.ite ?_ ?_ | refine LeO.bind ?_ (fun _ => ?_)
theorem zq7.mono : ∀ a0 a1 a2 a3 a4 a5 a6 a7 a8 a9 a10 a11 k, LeO (zq7.f k a0 a1 a2 a3 a4 a5 a6 a7 a8 a9 a10 a11) (zq7.f (k + 1) a0 a1 a2 a3 a4 a5 a6 a7 a8 a9 a10 a11) := by
 intro a0 a1 a2 a3 a4 a5 a6 a7 a8 a9 a10 a11 k
 obtain ⟨ih0, ih1, ih2⟩ := zq7.mono_l k
 unfold zq7.f
 with_reducible repeat' first | apply ih0 | apply ih1 | apply ih2 | exact LeO.refl _ | exact LeO.none _ | refine LeO.ite ?_ ?_ | refine LeO.bind ?_ (fun _ => ?_)
theorem zq7.calls (k : Nat) (aP : ByteArray) (aQ : ByteArray) (aK : ByteArray) (aO : Int) (bE : Option Addr) (bA : Nat) (aI : List (S62)) (bG : Option Addr) (bF : Nat) (aG : List (S43)) (aN : ByteArray) (aR : ByteArray) (aM : ByteArray) (aL : Int) (bH : Option Addr) (bD : Nat) (aH : List (S62)) (bI : Option Addr) (bB : Nat) (aF : List (S43)) (r : Bool) (w : World) (bZ : Kd.C k62 w bE aI.length aI) (b5 : aI.length ≤ bA) (b1 : Kd.C k43 w bG aG.length aG) (bX : aG.length ≤ bF) (b0 : Kd.C k62 w bH aH.length aH) (bV : aH.length ≤ bD) (bY : Kd.C k43 w bI aF.length aF) (cA : aF.length ≤ bB) (h : zq7.f k aP aQ aK aO aI aG aN aR aM aL aH aF = some r) :
  Calls Try.prog 83 #[.agg #[.string aP, .string aQ, .string aK, .int .i64 aO, .slice bE aI.length bA, .slice bG aG.length bF], .agg #[.string aN, .string aR, .string aM, .int .i64 aL, .slice bH aH.length bD, .slice bI aF.length bB]] w fun e w' => e = .returned (.bool r) ∧ Below w.heap.size w w' := by
 have lU := Try.underlying25
 have lV := Try.underlying62
 have lX := Try.underlying43
 have bW := q_ bZ
 have lI := q_ b5
 clear bZ b5
 have b4 := q_ b1
 have lK := q_ bX
 clear b1 bX
 have b6 := q_ b0
 have lF := q_ bV
 clear b0 bV
 have b3 := q_ bY
 have k0 := q_ cA
 clear bY cA
 have HB := q_ (Below.refl w.heap.size w)
 have H : (if aP.toList = aN.toList then (if aQ.toList = aR.toList then (if aK.toList = aM.toList then (if aO = aL then (if (aI.length : Int) = (aH.length : Int) then (zq7.j0 k ((aG.length : Int) != (aF.length : Int)) aP aQ aK aO aI aG aN aR aM aL aH aF) else (zq7.j0 k true aP aQ aK aO aI aG aN aR aM aL aH aF)) else (zq7.j0 k true aP aQ aK aO aI aG aN aR aM aL aH aF)) else (zq7.j0 k true aP aQ aK aO aI aG aN aR aM aL aH aF)) else (zq7.j0 k true aP aQ aK aO aI aG aN aR aM aL aH aF)) else (zq7.j0 k true aP aQ aK aO aI aG aN aR aM aL aH aF)) = some r := h
 clear h
 have kT := q_ H
 clear H
 go_enter Try.func83, Try.ntmps83
 go_upto_region 1 with (first | (refine gd_ 2 ?_; (try (refine y23 (by rfl) ?_; dsimp only)); refine bx_ 2 (cs := #[.string aP, .string aQ, .string aK, .int .i64 aO, .slice bE aI.length bA, .slice bG aG.length bF]) 25 ?_; intro bC hg w4 hbox hb; have aA := q_ (hbox); have b8 := gw_ w hg (y0j hb_); have b9 := gw_ w hg (y0j hb_); replace HB := q_ (y0k hb_ hb); clear hb hbox hg) | (refine gd_ 3 ?_; (try (refine y23 (by rfl) ?_; dsimp only)); refine bx_ 3 (cs := #[.string aN, .string aR, .string aM, .int .i64 aL, .slice bH aH.length bD, .slice bI aF.length bB]) 25 ?_; intro bJ hg w5 hbox hb; have aJ := q_ (hbox); have b7 := gw_ w hg (y0j hb_); have b2 := gw_ w hg (y0j hb_); replace HB := q_ (y0k hb_ hb); have aB := nl_ hg (bk_ aA.out); have aC := ng_ hg (bk_ aA.out); replace aA := q_ (y0n (bk_ aA.out) hb); clear hb hbox hg))
 repeat (go_quiet (first | (refine gd_ 2 ?_; (try (refine y23 (by rfl) ?_; dsimp only)); refine bx_ 2 (cs := #[.string aP, .string aQ, .string aK, .int .i64 aO, .slice bE aI.length bA, .slice bG aG.length bF]) 25 ?_; intro bC hg w4 hbox hb; have aA := q_ (hbox); have b8 := gw_ w hg (y0j hb_); have b9 := gw_ w hg (y0j hb_); replace HB := q_ (y0k hb_ hb); clear hb hbox hg) | (refine gd_ 3 ?_; (try (refine y23 (by rfl) ?_; dsimp only)); refine bx_ 3 (cs := #[.string aN, .string aR, .string aM, .int .i64 aL, .slice bH aH.length bD, .slice bI aF.length bB]) 25 ?_; intro bJ hg w5 hbox hb; have aJ := q_ (hbox); have b7 := gw_ w hg (y0j hb_); have b2 := gw_ w hg (y0j hb_); replace HB := q_ (y0k hb_ hb); have aB := nl_ hg (bk_ aA.out); have aC := ng_ hg (bk_ aA.out); replace aA := q_ (y0n (bk_ aA.out) hb); clear hb hbox hg)); go_upto_region 1 with (first | (refine gd_ 2 ?_; (try (refine y23 (by rfl) ?_; dsimp only)); refine bx_ 2 (cs := #[.string aP, .string aQ, .string aK, .int .i64 aO, .slice bE aI.length bA, .slice bG aG.length bF]) 25 ?_; intro bC hg w4 hbox hb; have aA := q_ (hbox); have b8 := gw_ w hg (y0j hb_); have b9 := gw_ w hg (y0j hb_); replace HB := q_ (y0k hb_ hb); clear hb hbox hg) | (refine gd_ 3 ?_; (try (refine y23 (by rfl) ?_; dsimp only)); refine bx_ 3 (cs := #[.string aN, .string aR, .string aM, .int .i64 aL, .slice bH aH.length bD, .slice bI aF.length bB]) 25 ?_; intro bJ hg w5 hbox hb; have aJ := q_ (hbox); have b7 := gw_ w hg (y0j hb_); have b2 := gw_ w hg (y0j hb_); replace HB := q_ (y0k hb_ hb); have aB := nl_ hg (bk_ aA.out); have aC := ng_ hg (bk_ aA.out); replace aA := q_ (y0n (bk_ aA.out) hb); clear hb hbox hg)))
 (try simp only [Act.put, List.setIfInBounds_toArray, List.set_cons_zero, List.set_cons_succ])
 go_cut [50] (fun lW wc => ∃ (kq : Nat) (bS : Bool), lW = .bool bS ∧ Aside0 (zq7.j0 kq bS aP aQ aK aO aI aG aN aR aM aL aH aF = some r) ∧ Aside0 (kq ≤ k) ∧ Aside0 (wc.heap[bC]? = some (.cells #[.string aP, .string aQ, .string aK, .int .i64 aO, (.slice bE aI.length bA), (.slice bG aG.length bF)] 25 (0, 0))) ∧ Aside0 (wc.heap[bJ]? = some (.cells #[.string aN, .string aR, .string aM, .int .i64 aL, (.slice bH aH.length bD), (.slice bI aF.length bB)] 25 (0, 0))) ∧ Aside0 (Below w.heap.size w wc))
 case first =>
  have H := kT.out
  clear kT
  by_cases c6 : aP.toList = aN.toList
  rotate_left
  ·rw [if_neg c6] at H
   have bT := ef_ c6
   have kP := nt_ c6
   (first | rw [bT] | (simp only [y2h, y2g]; rw [bT]) | skip)
   have H' := q_ H
   clear H
   have lM := aB.out
   have lT := aC.out
   obtain ⟨j9, fK, kF, hX, iL, dO, iO, iF, dZ, eK, jI, gE⟩ := b6_ aA.out
   obtain ⟨d7, jQ, dH, g5, e2, i0, eR, hR, iT, iJ, fL, gY⟩ := b6_ aJ.out
   go_wp2
   repeat (go_quiet (fail); try go_wp2)
   go_meet
   case rel => exact ⟨_, (true), cl_, H', ⟨oz_⟩, ⟨bk_ aA.out⟩, ⟨bk_ aJ.out⟩, ⟨hb_⟩⟩
  rw [if_pos c6] at H
  have bT := et_ c6
  have kP := nf_ c6
  clear c6
  (first | rw [bT] | (simp only [y2h, y2g]; rw [bT]) | skip)
  by_cases c7 : aQ.toList = aR.toList
  rotate_left
  ·rw [if_neg c7] at H
   have kO := ef_ c7
   have kR := nt_ c7
   have H' := q_ H
   clear H
   have kY := aB.out
   have lQ := aC.out
   obtain ⟨jP, dP, i7, i9, eN, dT, i5, iX, g8, jG, c5, jH⟩ := b6_ aA.out
   obtain ⟨j2, iQ, fZ, jY, hT, iK, dN, eL, h2, fF, iE, f7⟩ := b6_ aJ.out
   go_wp2
   repeat (go_quiet (fail); try go_wp2)
   go_meet
   case rel => exact ⟨_, (true), cl_, H', ⟨oz_⟩, ⟨bk_ aA.out⟩, ⟨bk_ aJ.out⟩, ⟨hb_⟩⟩
  rw [if_pos c7] at H
  have kO := et_ c7
  have kR := nf_ c7
  clear c7
  by_cases c8 : aK.toList = aM.toList
  rotate_left
  ·rw [if_neg c8] at H
   have kN := ef_ c8
   have kQ := nt_ c8
   have H' := q_ H
   clear H
   have k5 := aB.out
   have lJ := aC.out
   obtain ⟨e8, cZ, g7, jO, eQ, gV, e4, fQ, fB, gJ, gF, jB⟩ := b6_ aA.out
   obtain ⟨hQ, d5, hP, gP, d3, dJ, hC, fW, c2, f5, dX, e1⟩ := b6_ aJ.out
   go_wp2
   repeat (go_quiet (fail); try go_wp2)
   go_meet
   case rel => exact ⟨_, (true), cl_, H', ⟨oz_⟩, ⟨bk_ aA.out⟩, ⟨bk_ aJ.out⟩, ⟨hb_⟩⟩
  rw [if_pos c8] at H
  have kN := et_ c8
  have kQ := nf_ c8
  clear c8
  by_cases c9 : aO = aL
  rotate_left
  ·rw [if_neg c9] at H
   have kU := ef_ c9
   have kS := nt_ c9
   have H' := q_ H
   clear H
   have k7 := aB.out
   have k8 := aC.out
   obtain ⟨iC, iB, f8, fD, jD, eD, eA, gN, e5, iA, gK, h5⟩ := b6_ aA.out
   obtain ⟨fY, g3, d8, j8, kB, h0, jN, h4, fM, dC, hU, fE⟩ := b6_ aJ.out
   go_wp2
   repeat (go_quiet (fail); try go_wp2)
   go_meet
   case rel => exact ⟨_, (true), cl_, H', ⟨oz_⟩, ⟨bk_ aA.out⟩, ⟨bk_ aJ.out⟩, ⟨hb_⟩⟩
  rw [if_pos c9] at H
  have kU := et_ c9
  have kS := nf_ c9
  clear c9
  by_cases bU : (aI.length : Int) = (aH.length : Int)
  rotate_left
  ·rw [if_neg bU] at H
   have cJ := ef_ bU
   have cL := nt_ bU
   have cP : (aI.length == aH.length) = false := by first | simpa using bU | (simp at bU ⊢; omega)
   have H' := q_ H
   clear H
   have k9 := aB.out
   have lB := aC.out
   obtain ⟨hA, iM, iW, kJ, hY, h8, kL, fT, d6, cX, fX, jF⟩ := b6_ aA.out
   obtain ⟨gG, jJ, eE, eB, hJ, h3, d0, dA, hI, f6, jC, eP⟩ := b6_ aJ.out
   go_wp2
   repeat (go_quiet (fail); try go_wp2)
   go_meet
   case rel => exact ⟨_, (true), cl_, H', ⟨oz_⟩, ⟨bk_ aA.out⟩, ⟨bk_ aJ.out⟩, ⟨hb_⟩⟩
  rw [if_pos bU] at H
  have cJ := et_ bU
  have cL := nf_ bU
  have cP : (aI.length == aH.length) = true := by first | simpa using bU | (simp at bU ⊢; omega)
  clear bU
  have H' := q_ H
  clear H
  have lR := aB.out
  have lC := aC.out
  obtain ⟨eX, g4, gM, hV, eM, j3, eI, hL, gW, cY, fJ, gH⟩ := b6_ aA.out
  obtain ⟨kE, iU, cV, iH, fP, eF, gL, gU, hM, dL, cW, eC⟩ := b6_ aJ.out
  go_wp2
  repeat (go_quiet (fail); try go_wp2)
  go_meet
  case rel => exact ⟨_, (((aG.length : Int) != (aF.length : Int))), cl_, H', ⟨oz_⟩, ⟨bk_ aA.out⟩, ⟨bk_ aJ.out⟩, ⟨hb_⟩⟩
 clear kT
 obtain ⟨kq, bS, rfl, HA, iN, aA, aJ, HB⟩ := hcut
 obtain _ | kj2 := kq
 ·exact nn_ HA
 have H := HA.out
 clear HA
 simp only [zq7.j0] at H
 by_cases kG : bS = true
 ·subst kG
  rw [if_pos rfl] at H
  obtain rfl := Option.some.inj H
  go_wp2
  repeat (go_quiet (fail); try go_wp2)
  go_ret
  exact ⟨ew_, hb_⟩
 replace kG := Bool.eq_false_iff.mpr kG
 subst kG
 rw [if_neg (show ¬ (false = true) by decide)] at H
 have H' := q_ H
 clear H
 go_wp2
 repeat (go_quiet (fail); try go_wp2)
 go_loopg [5] kj2 (fun kq v5 w' => ∃ (aE : Int), v5 = .int .i64 aE ∧ Aside0 (zq7.l0 kq aE aP aQ aK aO aI aG aN aR aM aL aH aF = some r) ∧ Aside0 (kq ≤ kj2) ∧ Aside0 (w'.heap[bC]? = some (.cells #[.string aP, .string aQ, .string aK, .int .i64 aO, (.slice bE aI.length bA), (.slice bG aG.length bF)] 25 (0, 0))) ∧ Aside0 (w'.heap[bJ]? = some (.cells #[.string aN, .string aR, .string aM, .int .i64 aL, (.slice bH aH.length bD), (.slice bI aF.length bB)] 25 (0, 0))) ∧ Aside0 (Below w.heap.size w w'))
 case atStart => exact ⟨(0), cl_, H', ⟨Nat.le_refl _⟩, ⟨bk_ aA.out⟩, ⟨bk_ aJ.out⟩, ⟨hb_⟩⟩
 case round =>
  clear H'
  obtain ⟨aE, rfl, HA, dU, aA, aJ, HB⟩ := hrel
  obtain _ | k2 := gk
  ·exact nn_ HA
  have H := HA.out
  clear HA
  simp only [zq7.l0] at H
  by_cases cH : aE < (aI.length : Int)
  ·rw [if_pos cH] at H
   have cM := dt_ cH
   clear cH
   by_cases iV : 0 ≤ aE
   rotate_left
   ·rw [if_neg iV] at H
    exact absurd H (by simp)
   rw [if_pos iV] at H
   have kV := dt_ iV
   clear iV
   by_cases eO : aE < (aH.length : Int)
   rotate_left
   ·rw [if_neg eO] at H
    exact absurd H (by simp)
   rw [if_pos eO] at H
   have k6 := dt_ eO
   clear eO
   by_cases cI : (!((((y4b aI aE).f0).toList) == (((y4b aH aE).f0).toList)) || (!(((y4b aI aE).f1) == ((y4b aH aE).f1)) || (!(((y4b aI aE).f2) == ((y4b aH aE).f2)) || (!(((y4b aI aE).f3) == ((y4b aH aE).f3)))))) = true
   ·rw [if_pos cI] at H
    have cK : (!((((y4b aI aE).f0).toList) == (((y4b aH aE).f0).toList)) || (!(((y4b aI aE).f1) == ((y4b aH aE).f1)) || (!(((y4b aI aE).f2) == ((y4b aH aE).f2)) || (!(((y4b aI aE).f3) == ((y4b aH aE).f3)))))) = true := cI
    clear cI
    obtain rfl := Option.some.inj H
    have lE := aB.out
    have k4 := aC.out
    obtain ⟨c3, c1, d1, gA, fN, hF, jA, dS, hO, hE, fR, kC⟩ := b6_ aA.out
    have bQ : 0 ≤ (aE : Int) := oa_
    have bN : aE < (aI.length : Int) := oa_
    obtain ⟨cN, cC, a9, a4, aX, aT⟩ := y0e bW.out aE bQ bN
    cases cC
    replace a9 := cb_ HB.out a9
    replace a4 := cb_ HB.out a4
    replace aX := cb_ HB.out aX
    replace aT := cb_ HB.out aT
    replace bQ := eq_true bQ
    replace bN := eq_true bN
    obtain ⟨h1, iP, c0, dK, dE, jR, iG, kH, dM, jL, e6, d4⟩ := b6_ aJ.out
    have bK : 0 ≤ (aE : Int) := oa_
    have bL : aE < (aH.length : Int) := oa_
    obtain ⟨cS, cD, a0, a3, a8, aU⟩ := y0e b6.out aE bK bL
    cases cD
    replace a0 := cb_ HB.out a0
    replace a3 := cb_ HB.out a3
    replace a8 := cb_ HB.out a8
    replace aU := cb_ HB.out aU
    replace bK := eq_true bK
    replace bL := eq_true bL
    go_wp2
    repeat (go_quiet (fail); try go_wp2)
    go_ret
    exact ⟨ew_, hb_⟩
   rw [if_neg cI] at H
   have cK : (!((((y4b aI aE).f0).toList) == (((y4b aH aE).f0).toList)) || (!(((y4b aI aE).f1) == ((y4b aH aE).f1)) || (!(((y4b aI aE).f2) == ((y4b aH aE).f2)) || (!(((y4b aI aE).f3) == ((y4b aH aE).f3)))))) = false := by simpa using cI
   clear cI
   have H' := q_ H
   clear H
   have kX := aB.out
   have lP := aC.out
   obtain ⟨fG, eZ, jU, dV, gX, g0, iS, dI, e3, hS, hW, dW⟩ := b6_ aA.out
   have bQ : 0 ≤ (aE : Int) := oa_
   have bN : aE < (aI.length : Int) := oa_
   obtain ⟨cN, cC, a9, a4, aX, aT⟩ := y0e bW.out aE bQ bN
   cases cC
   replace a9 := cb_ HB.out a9
   replace a4 := cb_ HB.out a4
   replace aX := cb_ HB.out aX
   replace aT := cb_ HB.out aT
   replace bQ := eq_true bQ
   replace bN := eq_true bN
   obtain ⟨dQ, eJ, kD, jW, c4, fC, g6, j5, i2, jK, eH, g1⟩ := b6_ aJ.out
   have bK : 0 ≤ (aE : Int) := oa_
   have bL : aE < (aH.length : Int) := oa_
   obtain ⟨cS, cD, a0, a3, a8, aU⟩ := y0e b6.out aE bK bL
   cases cD
   replace a0 := cb_ HB.out a0
   replace a3 := cb_ HB.out a3
   replace a8 := cb_ HB.out a8
   replace aU := cb_ HB.out aU
   replace bK := eq_true bK
   replace bL := eq_true bL
   go_wp2
   repeat (go_quiet (fail); try go_wp2)
   go_roundg k2
   case measure => have := iN.out; have := dU.out; omega
   case rel => exact ⟨(wrap64 (aE + 1)), cl_, H', ⟨by have := iN.out; have := dU.out; omega⟩, ⟨bk_ aA.out⟩, ⟨bk_ aJ.out⟩, ⟨hb_⟩⟩
  rw [if_neg cH] at H
  have cM := df_ cH
  clear cH
  have H' := q_ H
  clear H
  have k1 := aB.out
  have kW := aC.out
  obtain ⟨kK, i8, dY, gO, jS, eS, iD, gD, dD, iY, gI, e7⟩ := b6_ aA.out
  go_wp2
  repeat (go_quiet (fail); try go_wp2)
  go_loopg [6] k2 (fun kq v6 w' => ∃ (aD : Int), v6 = .int .i64 aD ∧ Aside0 (zq7.l1 kq aD aP aQ aK aO aI aG aN aR aM aL aH aF = some r) ∧ Aside0 (kq ≤ k2) ∧ Aside0 (w'.heap[bC]? = some (.cells #[.string aP, .string aQ, .string aK, .int .i64 aO, (.slice bE aI.length bA), (.slice bG aG.length bF)] 25 (0, 0))) ∧ Aside0 (w'.heap[bJ]? = some (.cells #[.string aN, .string aR, .string aM, .int .i64 aL, (.slice bH aH.length bD), (.slice bI aF.length bB)] 25 (0, 0))) ∧ Aside0 (Below w.heap.size w w'))
  case atStart => exact ⟨(0), cl_, H', ⟨Nat.le_refl _⟩, ⟨bk_ aA.out⟩, ⟨bk_ aJ.out⟩, ⟨hb_⟩⟩
  case round =>
   clear H'
   obtain ⟨aD, rfl, HA, lL, aA, aJ, HB⟩ := hrel
   obtain _ | k3 := gk
   ·exact nn_ HA
   have H := HA.out
   clear HA
   simp only [zq7.l1] at H
   by_cases cG : aD < (aG.length : Int)
   rotate_left
   ·rw [if_neg cG] at H
    have cT := df_ cG
    clear cG
    obtain rfl := Option.some.inj H
    have lO := aB.out
    have lH := aC.out
    obtain ⟨fS, eY, jV, j7, iR, hD, dB, kI, i4, dG, dF, g9⟩ := b6_ aA.out
    go_wp2
    repeat (go_quiet (fail); try go_wp2)
    go_ret
    exact ⟨ew_, hb_⟩
   rw [if_pos cG] at H
   have cT := dt_ cG
   clear cG
   by_cases jT : 0 ≤ aD
   rotate_left
   ·rw [if_neg jT] at H
    exact absurd H (by simp)
   rw [if_pos jT] at H
   have lA := dt_ jT
   clear jT
   by_cases gC : aD < (aF.length : Int)
   rotate_left
   ·rw [if_neg gC] at H
    exact absurd H (by simp)
   rw [if_pos gC] at H
   have lS := dt_ gC
   clear gC
   by_cases cF : (!(((y4a aG aD).f0) == ((y4a aF aD).f0)) || (!(((y4a aG aD).f1) == ((y4a aF aD).f1)) || (!(((y4a aG aD).f2) == ((y4a aF aD).f2)) || (!((((y4a aG aD).f3).toList) == (((y4a aF aD).f3).toList)) || (!(((y4a aG aD).f4) == ((y4a aF aD).f4))))))) = true
   ·rw [if_pos cF] at H
    have cQ : (!(((y4a aG aD).f0) == ((y4a aF aD).f0)) || (!(((y4a aG aD).f1) == ((y4a aF aD).f1)) || (!(((y4a aG aD).f2) == ((y4a aF aD).f2)) || (!((((y4a aG aD).f3).toList) == (((y4a aF aD).f3).toList)) || (!(((y4a aG aD).f4) == ((y4a aF aD).f4))))))) = true := cF
    clear cF
    obtain rfl := Option.some.inj H
    have lG := aB.out
    have lD := aC.out
    obtain ⟨gS, eT, eU, f9, eW, h6, kA, cU, i6, d9, e0, e9⟩ := b6_ aA.out
    have bO : 0 ≤ (aD : Int) := oa_
    have bR : aD < (aG.length : Int) := oa_
    obtain ⟨cR, cB, a5, aV, a6, aS, aY⟩ := y0d b4.out aD bO bR
    cases cB
    replace a5 := cb_ HB.out a5
    replace aV := cb_ HB.out aV
    replace a6 := cb_ HB.out a6
    replace aS := cb_ HB.out aS
    replace aY := cb_ HB.out aY
    replace bO := eq_true bO
    replace bR := eq_true bR
    obtain ⟨hB, hK, j6, gZ, iZ, hZ, d2, fI, jX, hN, jM, j4⟩ := b6_ aJ.out
    have bP : 0 ≤ (aD : Int) := oa_
    have bM : aD < (aF.length : Int) := oa_
    obtain ⟨cO, cE, a7, a2, a1, aW, aZ⟩ := y0d b3.out aD bP bM
    cases cE
    replace a7 := cb_ HB.out a7
    replace a2 := cb_ HB.out a2
    replace a1 := cb_ HB.out a1
    replace aW := cb_ HB.out aW
    replace aZ := cb_ HB.out aZ
    replace bP := eq_true bP
    replace bM := eq_true bM
    go_wp2
    repeat (go_quiet (fail); try go_wp2)
    go_ret
    exact ⟨ew_, hb_⟩
   rw [if_neg cF] at H
   have cQ : (!(((y4a aG aD).f0) == ((y4a aF aD).f0)) || (!(((y4a aG aD).f1) == ((y4a aF aD).f1)) || (!(((y4a aG aD).f2) == ((y4a aF aD).f2)) || (!((((y4a aG aD).f3).toList) == (((y4a aF aD).f3).toList)) || (!(((y4a aG aD).f4) == ((y4a aF aD).f4))))))) = false := by simpa using cF
   clear cF
   have H' := q_ H
   clear H
   have lN := aB.out
   have kZ := aC.out
   obtain ⟨fA, h9, jE, i3, gQ, fH, kM, eV, iI, gB, eG, h7⟩ := b6_ aA.out
   have bO : 0 ≤ (aD : Int) := oa_
   have bR : aD < (aG.length : Int) := oa_
   obtain ⟨cR, cB, a5, aV, a6, aS, aY⟩ := y0d b4.out aD bO bR
   cases cB
   replace a5 := cb_ HB.out a5
   replace aV := cb_ HB.out aV
   replace a6 := cb_ HB.out a6
   replace aS := cb_ HB.out aS
   replace aY := cb_ HB.out aY
   replace bO := eq_true bO
   replace bR := eq_true bR
   obtain ⟨i1, g2, fV, dR, hG, j1, gT, gR, fU, hH, fO, jZ⟩ := b6_ aJ.out
   have bP : 0 ≤ (aD : Int) := oa_
   have bM : aD < (aF.length : Int) := oa_
   obtain ⟨cO, cE, a7, a2, a1, aW, aZ⟩ := y0d b3.out aD bP bM
   cases cE
   replace a7 := cb_ HB.out a7
   replace a2 := cb_ HB.out a2
   replace a1 := cb_ HB.out a1
   replace aW := cb_ HB.out aW
   replace aZ := cb_ HB.out aZ
   replace bP := eq_true bP
   replace bM := eq_true bM
   go_wp2
   repeat (go_quiet (fail); try go_wp2)
   go_roundg k3
   case measure => have := iN.out; have := dU.out; have := lL.out; omega
   case rel => exact ⟨(wrap64 (aD + 1)), cl_, H', ⟨by have := iN.out; have := dU.out; have := lL.out; omega⟩, ⟨bk_ aA.out⟩, ⟨bk_ aJ.out⟩, ⟨hb_⟩⟩
end Go.Proofs.Ytenlmckahaniiaa.K
end
section
namespace Go.Proofs.Ytenlmckahaniiaa.K
open Go.RowKit Go.Proofs.YtW.P Go.Proofs.YtW.L
def zqz.l0 : Nat → List (S25) → List (S25) → Int → Option (Bool)
  | 0, _, _, _ => none
  | k + 1, x0, x1, x5 => if x5 < (x0.length : Int) then (if 0 ≤ x5 then (if x5 < (x1.length : Int) then ((zq7.f k ((y49 x0 x5).f0) ((y49 x0 x5).f1) ((y49 x0 x5).f2) ((y49 x0 x5).f3) ((y49 x0 x5).f4) ((y49 x0 x5).f5) ((y49 x1 x5).f0) ((y49 x1 x5).f1) ((y49 x1 x5).f2) ((y49 x1 x5).f3) ((y49 x1 x5).f4) ((y49 x1 x5).f5)).bind fun t750 => (if t750 = true then (zqz.l0 k x0 x1 (wrap64 (x5 + 1))) else (some false))) else (none)) else (none)) else (some true)
def zqz.f (k : Nat) (l0 : List (S25)) (l1 : List (S25)) : Option (Bool) := if (l0.length : Int) = (l1.length : Int) then (zqz.l0 k l0 l1 0) else (some false)
theorem zqz.mono_l : ∀ k, (∀ y0 y1 y2, LeO (zqz.l0 k y0 y1 y2) (zqz.l0 (k + 1) y0 y1 y2))
 | 0 => fun _ _ _ r h => by simp [zqz.l0] at h
 | k + 1 => by
  have ih0 := zqz.mono_l k
  ·intro y0 y1 y2
   unfold zqz.l0
   with_reducible repeat' first | apply ih0 | apply zq7.mono | exact LeO.refl _ | exact LeO.none _ | refine LeO.ite ?_ ?_ | refine LeO.bind ?_ (fun _ => ?_)
theorem zqz.mono : ∀ a0 a1 k, LeO (zqz.f k a0 a1) (zqz.f (k + 1) a0 a1) := by
 intro a0 a1 k
 have ih0 := zqz.mono_l k
 unfold zqz.f
 with_reducible repeat' first | apply ih0 | apply zq7.mono | exact LeO.refl _ | exact LeO.none _ | refine LeO.ite ?_ ?_ | refine LeO.bind ?_ (fun _ => ?_)
def zqz.T6 : Bool × List (List Nat × List Nat) := (true, [([], []), ([], []), ([0, 1], [0, 1]), ([2], [2]), ([], []), ([], []), ([4, 5], [4, 5]), ([6], [6]), ([3, 7], [3, 7]), ([8], [8])])
def zqz.B6 : List Nat := [0, 0, 3, 7, 0, 0, 48, 112, 255, 511]
theorem zqz.tab6 : rtab .any (opsOf Try.f41 6) = zqz.T6 := by kernel_rfl
theorem zqz.bits6 : waitsOk zqz.T6.2 zqz.B6 = true := by kernel_rfl
theorem zqz.calls (k : Nat) (A0 : Option Addr) (c0 : Nat) (l0 : List (S25)) (A1 : Option Addr) (c1 : Nat) (l1 : List (S25)) (r : Bool) (w : World) (b5 : Kd.C k25 w A0 l0.length l0) (b4 : l0.length ≤ c0) (b0 : Kd.C k25 w A1 l1.length l1) (b1 : l1.length ≤ c1) (h : zqz.f k l0 l1 = some r) :
  Calls Try.prog 41 #[.slice A0 l0.length c0, .slice A1 l1.length c1] w fun e w' => e = .returned (.bool r) ∧ Below w.heap.size w w' := by
 have b6 := Try.underlying25
 have b3 := q_ b5
 have cD := q_ b4
 clear b5 b4
 have b2 := q_ b0
 have cA := q_ b1
 clear b0 b1
 have HB := q_ (Below.refl w.heap.size w)
 have H : (if (l0.length : Int) = (l1.length : Int) then (zqz.l0 k l0 l1 0) else (some false)) = some r := h
 clear h
 by_cases c3 : (l0.length : Int) = (l1.length : Int)
 rotate_left
 ·rw [if_neg c3] at H
  have bV := ef_ c3
  have bX := nt_ c3
  have bY : (l0.length == l1.length) = false := by first | simpa using c3 | (simp at c3 ⊢; omega)
  obtain rfl := Option.some.inj H
  go_enter Try.func41, Try.ntmps41
  go_wp2
  go_ret
  exact ⟨ew_, hb_⟩
 rw [if_pos c3] at H
 have bV := et_ c3
 have bX := nf_ c3
 have bY : (l0.length == l1.length) = true := by first | simpa using c3 | (simp at c3 ⊢; omega)
 clear c3
 have H' := q_ H
 clear H
 go_enter Try.func41, Try.ntmps41
 go_wp2
 go_loopg [5] k (fun kq v5 w' => ∃ (aA : Int), v5 = .int .i64 aA ∧ Aside0 (zqz.l0 kq l0 l1 aA = some r) ∧ Aside0 (kq ≤ k) ∧ Aside0 (Below w.heap.size w w'))
 case atStart => exact ⟨(0), cl_, H', ⟨Nat.le_refl _⟩, ⟨hb_⟩⟩
 case round =>
  clear H'
  obtain ⟨aA, rfl, HA, HK1, HB⟩ := hrel
  obtain _ | k1 := gk
  ·exact nn_ HA
  have H := HA.out
  clear HA
  simp only [zqz.l0] at H
  by_cases c4 : aA < (l0.length : Int)
  rotate_left
  ·rw [if_neg c4] at H
   have bW := df_ c4
   clear c4
   obtain rfl := Option.some.inj H
   go_wp2
   go_ret
   exact ⟨ew_, hb_⟩
  rw [if_pos c4] at H
  have bW := dt_ c4
  clear c4
  by_cases c5 : 0 ≤ aA
  rotate_left
  ·rw [if_neg c5] at H
   exact absurd H (by simp)
  rw [if_pos c5] at H
  have b7 := dt_ c5
  clear c5
  by_cases c6 : aA < (l1.length : Int)
  rotate_left
  ·rw [if_neg c6] at H
   exact absurd H (by simp)
  rw [if_pos c6] at H
  have b8 := dt_ c6
  clear c6
  obtain ⟨bZ, A7, H⟩ := bq_ H
  (try dsimp only at H)
  by_cases c8 : bZ = true
  rotate_left
  ·replace c8 := Bool.eq_false_iff.mpr c8
   subst c8
   rw [if_neg (show ¬ (false = true) by decide)] at H
   obtain rfl := Option.some.inj H
   try go_wp2
   replace HB := q_ (y0h HB.out)
   have bS : 0 ≤ (aA : Int) := oa_
   have bQ : aA < (l0.length : Int) := oa_
   obtain ⟨aB, bD, bF, bG, bI, bT, aK, aM, aL, aF, aG, aO, a5, a6, bC, a4⟩ := y0c b3.out aA bS bQ
   have bA := aO
   have a9 := aG
   have bB := aF
   have aW := aL
   have aU := aM
   have a7 := aK
   cases bT
   replace aK := cb_ HB.out aK
   replace aM := cb_ HB.out aM
   replace aL := cb_ HB.out aL
   replace aF := cb_ HB.out aF
   replace aG := cb_ HB.out aG
   replace aO := cb_ HB.out aO
   have aV := q_ a6
   have bN := q_ a5
   clear a6 a5
   have aP := q_ a4
   have bL := q_ bC
   clear a4 bC
   replace bS := eq_true bS
   replace bQ := eq_true bQ
   have bR : 0 ≤ (aA : Int) := oa_
   have bP : aA < (l1.length : Int) := oa_
   obtain ⟨aC, bK, bH, bJ, bE, bU, aI, aN, aJ, aD, aH, aE, aQ, a2, aS, a8⟩ := y0c b2.out aA bR bP
   have aR := aE
   have a3 := aH
   have aX := aD
   have a0 := aJ
   have aY := aN
   have aT := aI
   cases bU
   replace aI := cb_ HB.out aI
   replace aN := cb_ HB.out aN
   replace aJ := cb_ HB.out aJ
   replace aD := cb_ HB.out aD
   replace aH := cb_ HB.out aH
   replace aE := cb_ HB.out aE
   have a1 := q_ a2
   have bM := q_ aQ
   clear a2 aQ
   have aZ := q_ a8
   have bO := q_ aS
   clear a8 aS
   replace bR := eq_true bR
   replace bP := eq_true bP
   refine start_ (n := 10) (S := fun w' => w'.cell? (aB.add ((aA).toNat * 6)) = some (.string ((y49 l0 aA).f0)) ∧ w'.cell? ⟨(aB.add ((aA).toNat * 6)).block, (aB.add ((aA).toNat * 6)).off + 1, none⟩ = some (.string ((y49 l0 aA).f1)) ∧ w'.cell? ⟨(aB.add ((aA).toNat * 6)).block, (aB.add ((aA).toNat * 6)).off + 2, none⟩ = some (.string ((y49 l0 aA).f2)) ∧ w'.cell? ⟨(aB.add ((aA).toNat * 6)).block, (aB.add ((aA).toNat * 6)).off + 3, none⟩ = some (.int .i64 ((y49 l0 aA).f3)) ∧ w'.cell? ⟨(aB.add ((aA).toNat * 6)).block, (aB.add ((aA).toNat * 6)).off + 4, none⟩ = some (.slice bD ((y49 l0 aA).f4).length bF) ∧ w'.cell? ⟨(aB.add ((aA).toNat * 6)).block, (aB.add ((aA).toNat * 6)).off + 5, none⟩ = some (.slice bG ((y49 l0 aA).f5).length bI) ∧ w'.cell? (aC.add ((aA).toNat * 6)) = some (.string ((y49 l1 aA).f0)) ∧ w'.cell? ⟨(aC.add ((aA).toNat * 6)).block, (aC.add ((aA).toNat * 6)).off + 1, none⟩ = some (.string ((y49 l1 aA).f1)) ∧ w'.cell? ⟨(aC.add ((aA).toNat * 6)).block, (aC.add ((aA).toNat * 6)).off + 2, none⟩ = some (.string ((y49 l1 aA).f2)) ∧ w'.cell? ⟨(aC.add ((aA).toNat * 6)).block, (aC.add ((aA).toNat * 6)).off + 3, none⟩ = some (.int .i64 ((y49 l1 aA).f3)) ∧ w'.cell? ⟨(aC.add ((aA).toNat * 6)).block, (aC.add ((aA).toNat * 6)).off + 4, none⟩ = some (.slice bK ((y49 l1 aA).f4).length bH) ∧ w'.cell? ⟨(aC.add ((aA).toNat * 6)).block, (aC.add ((aA).toNat * 6)).off + 5, none⟩ = some (.slice bJ ((y49 l1 aA).f5).length bE)) (ds := []) #[false, false, false, false, false, false, false, false, false, false] (by kernel_rfl) rfl rfl ⟨(cb_ HB.out a7), (cb_ HB.out aU), (cb_ HB.out aW), (cb_ HB.out bB), (cb_ HB.out a9), (cb_ HB.out bA), (cb_ HB.out aT), (cb_ HB.out aY), (cb_ HB.out a0), (cb_ HB.out aX), (cb_ HB.out a3), (cb_ HB.out aR)⟩ (fun hHeld => ?_); refine y5o zqz.tab6 zqz.bits6 (fun HT_ HW_ => ?_)
   generalize wr.drew = b9 at HB aV aP a1 aZ aK aM aL aF aG aO aI aN aJ aD aH aE hHeld ⊢
   refine pv_ 0 (some 17) (fl 10 1) ?_
   refine pv_ 1 (some 18) (fl 10 3) ?_
   refine pv_ 2 (some 19) (fl 10 7) ?_
   refine pv_ 4 (some 21) (fl 10 23) ?_
   refine pv_ 5 (some 22) (fl 10 55) ?_
   refine pv_ 6 (some 23) (fl 10 119) ?_
   refine tv_ 3 (some 20) (fl 10 127) ?_
   refine tv_ 7 (some 24) (fl 10 255) ?_
   refine one_ (i := 8) (N := some 25) (fl 10 511) rfl rfl (y3l HT_.out (by kernel_rfl)) (by decide) (fun K hK => ?_)
   refine gs_ Try.func83 #[.agg #[.string ((y49 l0 aA).f0), .string ((y49 l0 aA).f1), .string ((y49 l0 aA).f2), .int .i64 ((y49 l0 aA).f3), .slice bD ((y49 l0 aA).f4).length bF, .slice bG ((y49 l0 aA).f5).length bI], .agg #[.string ((y49 l1 aA).f0), .string ((y49 l1 aA).f1), .string ((y49 l1 aA).f2), .int .i64 ((y49 l1 aA).f3), .slice bK ((y49 l1 aA).f4).length bH, .slice bJ ((y49 l1 aA).f5).length bE]] ?_
   with_reducible refine (zq7.calls k1 ((y49 l0 aA).f0) ((y49 l0 aA).f1) ((y49 l0 aA).f2) ((y49 l0 aA).f3) _ _ ((y49 l0 aA).f4) _ _ ((y49 l0 aA).f5) ((y49 l1 aA).f0) ((y49 l1 aA).f1) ((y49 l1 aA).f2) ((y49 l1 aA).f3) _ _ ((y49 l1 aA).f4) _ _ ((y49 l1 aA).f5) false _ ?side1 ?side2 ?side3 ?side4 ?side5 ?side6 ?side7 ?side8 A7.out).mono ?_
   (case side1 => exact ck_ (Kd.C_below aV.out HB.out))
   (case side2 => exact bN.out)
   (case side3 => exact ck_ (Kd.C_below aP.out HB.out))
   (case side4 => exact bL.out)
   (case side5 => exact ck_ (Kd.C_below a1.out HB.out))
   (case side6 => exact bM.out)
   (case side7 => exact ck_ (Kd.C_below aZ.out HB.out))
   (case side8 => exact bO.out)
   rintro e cC ⟨rfl, hb⟩
   refine ⟨_, rfl, ?_⟩
   replace HB := q_ (y0k hb_ hb)
   refine hK.out _ _ ⟨(cb_ HB.out a7), (cb_ HB.out aU), (cb_ HB.out aW), (cb_ HB.out bB), (cb_ HB.out a9), (cb_ HB.out bA), (cb_ HB.out aT), (cb_ HB.out aY), (cb_ HB.out a0), (cb_ HB.out aX), (cb_ HB.out a3), (cb_ HB.out aR)⟩ (fun hHeld => ?_)
   clear hK K
   refine no_ (N := some 25) ?_
   refine pv_ 9 (some 26) (fl 10 1023) ?_
   refine done_ (y1s HT_.out (by kernel_rfl)) ?_
   try go_wp2
   go_ret
   exact ⟨ew_, hb_⟩
  subst c8
  rw [if_pos rfl] at H
  have H' := q_ H
  clear H
  try go_wp2
  replace HB := q_ (y0h HB.out)
  have bS : 0 ≤ (aA : Int) := oa_
  have bQ : aA < (l0.length : Int) := oa_
  obtain ⟨aB, bD, bF, bG, bI, bT, aK, aM, aL, aF, aG, aO, a5, a6, bC, a4⟩ := y0c b3.out aA bS bQ
  have bA := aO
  have a9 := aG
  have bB := aF
  have aW := aL
  have aU := aM
  have a7 := aK
  cases bT
  replace aK := cb_ HB.out aK
  replace aM := cb_ HB.out aM
  replace aL := cb_ HB.out aL
  replace aF := cb_ HB.out aF
  replace aG := cb_ HB.out aG
  replace aO := cb_ HB.out aO
  have aV := q_ a6
  have bN := q_ a5
  clear a6 a5
  have aP := q_ a4
  have bL := q_ bC
  clear a4 bC
  replace bS := eq_true bS
  replace bQ := eq_true bQ
  have bR : 0 ≤ (aA : Int) := oa_
  have bP : aA < (l1.length : Int) := oa_
  obtain ⟨aC, bK, bH, bJ, bE, bU, aI, aN, aJ, aD, aH, aE, aQ, a2, aS, a8⟩ := y0c b2.out aA bR bP
  have aR := aE
  have a3 := aH
  have aX := aD
  have a0 := aJ
  have aY := aN
  have aT := aI
  cases bU
  replace aI := cb_ HB.out aI
  replace aN := cb_ HB.out aN
  replace aJ := cb_ HB.out aJ
  replace aD := cb_ HB.out aD
  replace aH := cb_ HB.out aH
  replace aE := cb_ HB.out aE
  have a1 := q_ a2
  have bM := q_ aQ
  clear a2 aQ
  have aZ := q_ a8
  have bO := q_ aS
  clear a8 aS
  replace bR := eq_true bR
  replace bP := eq_true bP
  refine start_ (n := 10) (S := fun w' => w'.cell? (aB.add ((aA).toNat * 6)) = some (.string ((y49 l0 aA).f0)) ∧ w'.cell? ⟨(aB.add ((aA).toNat * 6)).block, (aB.add ((aA).toNat * 6)).off + 1, none⟩ = some (.string ((y49 l0 aA).f1)) ∧ w'.cell? ⟨(aB.add ((aA).toNat * 6)).block, (aB.add ((aA).toNat * 6)).off + 2, none⟩ = some (.string ((y49 l0 aA).f2)) ∧ w'.cell? ⟨(aB.add ((aA).toNat * 6)).block, (aB.add ((aA).toNat * 6)).off + 3, none⟩ = some (.int .i64 ((y49 l0 aA).f3)) ∧ w'.cell? ⟨(aB.add ((aA).toNat * 6)).block, (aB.add ((aA).toNat * 6)).off + 4, none⟩ = some (.slice bD ((y49 l0 aA).f4).length bF) ∧ w'.cell? ⟨(aB.add ((aA).toNat * 6)).block, (aB.add ((aA).toNat * 6)).off + 5, none⟩ = some (.slice bG ((y49 l0 aA).f5).length bI) ∧ w'.cell? (aC.add ((aA).toNat * 6)) = some (.string ((y49 l1 aA).f0)) ∧ w'.cell? ⟨(aC.add ((aA).toNat * 6)).block, (aC.add ((aA).toNat * 6)).off + 1, none⟩ = some (.string ((y49 l1 aA).f1)) ∧ w'.cell? ⟨(aC.add ((aA).toNat * 6)).block, (aC.add ((aA).toNat * 6)).off + 2, none⟩ = some (.string ((y49 l1 aA).f2)) ∧ w'.cell? ⟨(aC.add ((aA).toNat * 6)).block, (aC.add ((aA).toNat * 6)).off + 3, none⟩ = some (.int .i64 ((y49 l1 aA).f3)) ∧ w'.cell? ⟨(aC.add ((aA).toNat * 6)).block, (aC.add ((aA).toNat * 6)).off + 4, none⟩ = some (.slice bK ((y49 l1 aA).f4).length bH) ∧ w'.cell? ⟨(aC.add ((aA).toNat * 6)).block, (aC.add ((aA).toNat * 6)).off + 5, none⟩ = some (.slice bJ ((y49 l1 aA).f5).length bE)) (ds := []) #[false, false, false, false, false, false, false, false, false, false] (by kernel_rfl) rfl rfl ⟨(cb_ HB.out a7), (cb_ HB.out aU), (cb_ HB.out aW), (cb_ HB.out bB), (cb_ HB.out a9), (cb_ HB.out bA), (cb_ HB.out aT), (cb_ HB.out aY), (cb_ HB.out a0), (cb_ HB.out aX), (cb_ HB.out a3), (cb_ HB.out aR)⟩ (fun hHeld => ?_); refine y5o zqz.tab6 zqz.bits6 (fun HT_ HW_ => ?_)
  generalize wr.drew = w9 at HB aV aP a1 aZ aK aM aL aF aG aO aI aN aJ aD aH aE hHeld ⊢
  refine pv_ 0 (some 17) (fl 10 1) ?_
  refine pv_ 1 (some 18) (fl 10 3) ?_
  refine pv_ 2 (some 19) (fl 10 7) ?_
  refine pv_ 4 (some 21) (fl 10 23) ?_
  refine pv_ 5 (some 22) (fl 10 55) ?_
  refine pv_ 6 (some 23) (fl 10 119) ?_
  refine tv_ 3 (some 20) (fl 10 127) ?_
  refine tv_ 7 (some 24) (fl 10 255) ?_
  refine one_ (i := 8) (N := some 25) (fl 10 511) rfl rfl (y3l HT_.out (by kernel_rfl)) (by decide) (fun K hK => ?_)
  refine gs_ Try.func83 #[.agg #[.string ((y49 l0 aA).f0), .string ((y49 l0 aA).f1), .string ((y49 l0 aA).f2), .int .i64 ((y49 l0 aA).f3), .slice bD ((y49 l0 aA).f4).length bF, .slice bG ((y49 l0 aA).f5).length bI], .agg #[.string ((y49 l1 aA).f0), .string ((y49 l1 aA).f1), .string ((y49 l1 aA).f2), .int .i64 ((y49 l1 aA).f3), .slice bK ((y49 l1 aA).f4).length bH, .slice bJ ((y49 l1 aA).f5).length bE]] ?_
  with_reducible refine (zq7.calls k1 ((y49 l0 aA).f0) ((y49 l0 aA).f1) ((y49 l0 aA).f2) ((y49 l0 aA).f3) _ _ ((y49 l0 aA).f4) _ _ ((y49 l0 aA).f5) ((y49 l1 aA).f0) ((y49 l1 aA).f1) ((y49 l1 aA).f2) ((y49 l1 aA).f3) _ _ ((y49 l1 aA).f4) _ _ ((y49 l1 aA).f5) true _ ?side1 ?side2 ?side3 ?side4 ?side5 ?side6 ?side7 ?side8 A7.out).mono ?_
  (case side1 => exact ck_ (Kd.C_below aV.out HB.out))
  (case side2 => exact bN.out)
  (case side3 => exact ck_ (Kd.C_below aP.out HB.out))
  (case side4 => exact bL.out)
  (case side5 => exact ck_ (Kd.C_below a1.out HB.out))
  (case side6 => exact bM.out)
  (case side7 => exact ck_ (Kd.C_below aZ.out HB.out))
  (case side8 => exact bO.out)
  rintro e cB ⟨rfl, hb⟩
  refine ⟨_, rfl, ?_⟩
  replace HB := q_ (y0k hb_ hb)
  refine hK.out _ _ ⟨(cb_ HB.out a7), (cb_ HB.out aU), (cb_ HB.out aW), (cb_ HB.out bB), (cb_ HB.out a9), (cb_ HB.out bA), (cb_ HB.out aT), (cb_ HB.out aY), (cb_ HB.out a0), (cb_ HB.out aX), (cb_ HB.out a3), (cb_ HB.out aR)⟩ (fun hHeld => ?_)
  clear hK K
  refine no_ (N := some 25) ?_
  refine pv_ 9 (some 26) (fl 10 1023) ?_
  refine done_ (y1s HT_.out (by kernel_rfl)) ?_
  try go_wp2
  go_roundg k1
  case measure => have := HK1.out; omega
  case rel => exact ⟨(wrap64 (aA + 1)), cl_, H', ⟨by have := HK1.out; omega⟩, ⟨hb_⟩⟩
end Go.Proofs.Ytenlmckahaniiaa.K
end
section
namespace Go.Proofs.Ytenlmckahaniiaa.K
open Go Go.Proofs Go.RowKit Go.Maps Go.Lib
def idxB (s : ByteArray) (c : Int) : Int := Lib.indexByte s.data.toList c.toNat.toUInt8
theorem y5e (s : ByteArray) (c : Int) (w : World) :
    Calls Try.prog 102 #[.string s, .int .u8 c] w fun e w' => e = .returned (.int .i64 (idxB s c)) ∧ w' = w := by
  go_enter Try.func102, Try.ntmps102
  go_wp2
  rw [run_callFunc_extern Try.func115 (by kernel_rfl) (by kernel_rfl) (by kernel_rfl) (e := Extern.BytealgIndexByte.indexByte) (by kernel_rfl), Lib.run_indexByteString]
  simp only [Result.andThen]
  rw [Oper.upon_value]
  go_wp2
  go_ret
  exact ⟨rfl, rfl⟩
theorem y5d (s : ByteArray) (c : Int) (w : World) :
    Calls Try.prog 87 #[.string s, .int .u8 c] w fun e w' => e = .returned (.int .i64 (idxB s c)) ∧ w' = w := by
  go_enter Try.func87, Try.ntmps87
  go_wp2_with (go_at_call 102; refine (y5e s c _).mono ?_; rintro e w' ⟨rfl, rfl⟩)
  go_ret
  exact ⟨rfl, rfl⟩
def Seen (w : World) (b : Nat) (l : List (List UInt8)) : Prop :=
  ∃ D : DataW Unit, w.ownsMap Try.prog 9 (plainElem Try.prog 4) b l.length D ∧ IsMap D ∧ ∀ s : ByteArray, D.atKey (.string s.data.toList) (.lit (.bool false)) = .lit (.bool (decide (s.data.toList ∈ l)))
theorem Seen.made (w : World) : Seen (w.alloc (.map #[] 0)) w.heap.size [] :=
  ⟨.map [], World.ownsMap_made _ _ _ _, ⟨[], rfl⟩, fun s => rfl⟩
theorem Seen.kept {w w' : World} {b : Nat} {l : List (List UInt8)} {row : Option Nat} (h : Seen w b l) (hg : w.grownBy w' row) (hne : some b ≠ row) : Seen w' b l := by
  obtain ⟨D, h1, h2, h3⟩ := h
  exact ⟨D, h1.kept hg hne, h2, h3⟩
theorem Seen.below {w w' : World} {b : Nat} {l : List (List UInt8)} (h : Seen w b l) (hb : Below w.heap.size w w') : Seen w' b l := by
  obtain ⟨D, ⟨es, clock, hh, F, hs, hD⟩, h2, h3⟩ := h
  exact ⟨D, ⟨es, clock, (hb.block b ((Array.getElem?_eq_some_iff.1 hh).1)).trans hh, F, hs, hD⟩, h2, h3⟩
theorem Seen.alloc {w : World} {b : Nat} {l : List (List UInt8)} (h : Seen w b l) (o : Obj) : Seen (w.alloc o) b l := by
  obtain ⟨D, h1, h2, h3⟩ := h
  exact ⟨D, h1.alloc o, h2, h3⟩
theorem Seen.set {w : World} {b : Nat} {l : List (List UInt8)} (h : Seen w b l) {p : Addr} (hp : b ≠ p.block) (u : Value) : Seen (w.setCell p u) b l := by
  obtain ⟨D, ⟨es, clock, hh, F, hs, hD⟩, h2, h3⟩ := h
  exact ⟨D, ⟨es, clock, (Below.heap_setCell w p u b hp).trans hh, F, hs, hD⟩, h2, h3⟩
theorem Seen.drewN {w : World} {b : Nat} {l : List (List UInt8)} (h : Seen w b l) (m : Nat) : Seen (w.drewN m) b l := h
theorem Seen.drew {w : World} {b : Nat} {l : List (List UInt8)} (h : Seen w b l) : Seen w.drew b l := h
theorem Seen.lt {w : World} {b : Nat} {l : List (List UInt8)} (h : Seen w b l) : b < w.heap.size := by
  obtain ⟨D, h1, _⟩ := h
  exact h1.lt
theorem key_ne {s t : List UInt8} (h : s ≠ t) : Lit.string s ≠ Lit.string t := by
  intro e
  injection e with e
  exact h e
theorem y3u {P : Program} {e : TypeId} (he : P.underlying e = some .bool) {v : Value} {x : Bool} {ps : List MemPlace} (h : plainElem (H := Unit) P e v = some (.lit (.bool x), ps)) : v = .bool x := by
  unfold plainElem at h
  rw [he] at h
  cases v <;> simp at h
  rw [h.1]
theorem y5u {P : Program} {w : World} {ops : Array Oper} {rest : List Oper} {o : Oper} {a : Act} {Q : Exit → Act → World → Prop} (hg : o.guard = none) (m x : Operand) (t : TypeId) (hop : o.op = Op.lookup t m x false)
    {M X v : Value} (hm : a.eval m = M) (hx : a.eval x = X) (hrun : (Instr.lookup t M X false).run P w = .ok v w)
    (hK : wpList P ops Q rest (a.put o.dst v) w) : wpList P ops Q (o :: rest) a w := by
  refine wpList_plain hg fun K' hK' => ?_
  unfold Oper.wp
  simp [execOp, hop, hm, hx, hrun, Result.andThen]
  exact hK' _ _ hK
section
variable {ops : Array Oper} {rest : List Oper} {o : Oper} {a : Act} {Q : Exit → Act → World → Prop}
theorem zero4 (w : World) : (zeroValue 4).run Try.prog w = .ok (.bool false) w := by kernel_rfl
theorem law9 : Keyed Try.prog 9 := string_keyed Try.underlying9
theorem y5v {w : World} (hg : o.guard = none) (m x : Operand) (hop : o.op = Op.lookup 98 m x false) (b : Nat) (l : List (List UInt8))
    (hm : a.eval m = .map (some b)) (hs : Seen w b l) (s : ByteArray) (hx : a.eval x = .string s) (hsz : s.size ≤ maxLen)
    (hK : wpList Try.prog ops Q rest (a.put o.dst (.bool (decide (s.data.toList ∈ l)))) w) : wpList Try.prog ops Q (o :: rest) a w := by
  obtain ⟨D, h1, _, h3⟩ := hs
  obtain ⟨v, ps, hrun, hv⟩ := h1.lookup law9 Try.underlying98 (zero4 w) (plainElem_bool Try.underlying4 false) (WideMaps.keyOf_string_mk Try.underlying9 hsz)
  rw [h3] at hv
  obtain rfl := y3u Try.underlying4 hv
  exact y5u hg m x 98 hop hm hx hrun hK
theorem wpList_see {w : World} (hg : o.guard = none) (m x v : Operand) (hop : o.op = Op.mapUpdate 98 m x v) (b : Nat) (l : List (List UInt8))
    (hm : a.eval m = .map (some b)) (hs : Seen w b l) (hn : l.length < maxLen) (s : ByteArray) (hx : a.eval x = .string s) (hv : a.eval v = .bool true) (hsz : s.size ≤ maxLen)
    (hK : ∀ w', Seen w' b (l ++ [s.data.toList]) → w.grownBy w' (some b) → wpList Try.prog ops Q rest (a.put o.dst undef) w') : wpList Try.prog ops Q (o :: rest) a w := by
  obtain ⟨D, h1, h2, h3⟩ := hs
  refine wpList_mapUpdate_own w hg m x v 98 hop 9 4 law9 Try.underlying98 (plainElem (H := Unit) Try.prog 4) b l.length D hm h1 hn _ _ _ hx hv (WideMaps.keyOf_string_mk Try.underlying9 hsz) _ [] (plainElem_bool Try.underlying4 true) ?_
  intro w' hown hgrow
  refine hK w' ⟨_, by simpa using hown, ?_, ?_⟩ hgrow
  · obtain ⟨es, rfl⟩ := h2
    exact ⟨_, rfl⟩
  · intro t
    by_cases ht : t.data.toList = s.data.toList
    · rw [ht, atKey_put_same h2 (show WideAt.IsKeyLit (.string s.data.toList) from trivial)]
      simp
    · rw [atKey_put_other (key_ne ht), h3 t]
      simp [ht]
end
end Go.Proofs.Ytenlmckahaniiaa.K
end
