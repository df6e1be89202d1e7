/- Lemmas for several laws: what their proofs need of this seat's texts, in one place. -/
import Derived.Shelf.Slices.CompactS
import Derived.Shelf.Slices.In.SortNone
import Derived.Shelf.Small.Strs
import Derived.Shelf.Sort.Plain
import Derived.Shelf.Strings.Builder1
import Derived.Shelf.Strings.Search1
import Derived.Sort.OwnSorted
import Derived.Test.YtenlmckahaniiaaZcLe7
set_option linter.unusedVariables false
set_option linter.unusedSimpArgs false
set_option linter.unusedSectionVars false
set_option maxHeartbeats 8000000
set_option maxRecDepth 100000
section
namespace Go.Proofs.Ytenlmckahaniiaa.K
open Go.RowKit Go.Proofs.YtW.P Go.Proofs.YtW.L
mutual
def zq1o.j0 : Nat → Bool → ByteArray → ByteArray → ByteArray → Int → List (S62) → List (S43) → Option (Int)
  | 0, _, _, _, _, _, _, _ => none
  | k + 1, x13, x123000, x123001, x123002, x123003, x123004, x123005 => if x13 = true then (some 7) else (if ((x123001.size : Int) % 2) = 0 then (if x123003 < 0 then (some 1) else ((zqt.f k x123004).bind fun t124 => (if t124 = 0 then (zq1o.l0 k x123005 (x123005.length : Int) 0 x123000 x123001 x123002 x123003 x123004 x123005 (-1) 0 0 nB_ false) else (some t124)))) else (some 1))
def zq1o.l0 : Nat → List (S43) → Int → Int → ByteArray → ByteArray → ByteArray → Int → List (S62) → List (S43) → Int → Int → Int → ByteArray → Bool → Option (Int)
  | 0, _, _, _, _, _, _, _, _, _, _, _, _, _, _ => none
  | k + 1, x60, x61, x62, x123000, x123001, x123002, x123003, x123004, x123005, x126000, x126001, x126002, x126003, x126004 => if x62 < x61 then (if 0 ≤ x62 then (if x62 < (x60.length : Int) then ((zq16.f k x123000 x123001 x123002 x123003 x123004 x123005 ((y4a x60 x62).f0) ((y4a x60 x62).f1) ((y4a x60 x62).f2) ((y4a x60 x62).f3) ((y4a x60 x62).f4) x126000 x126001 x126002 x126003 x126004).bind fun t128 => (if t128 = 0 then (zq1o.l0 k x60 x61 (wrap64 (x62 + 1)) x123000 x123001 x123002 x123003 x123004 x123005 ((y4a x60 x62).f0) ((y4a x60 x62).f1) ((y4a x60 x62).f2) ((y4a x60 x62).f3) ((y4a x60 x62).f4)) else (some t128))) else (none)) else (none)) else (some 0)
end
def zq1o.f (k : Nat) (a0_0 : ByteArray) (a0_1 : ByteArray) (a0_2 : ByteArray) (a0_3 : Int) (l0_4 : List (S62)) (l0_5 : List (S43)) : Option (Int) := (zq1j.f k a0_0).bind fun t123 => (if t123 = true then (if (a0_1.size : Int) > 16384 then (zq1o.j0 k true a0_0 a0_1 a0_2 a0_3 l0_4 l0_5) else (if (a0_2.size : Int) > 16384 then (zq1o.j0 k true a0_0 a0_1 a0_2 a0_3 l0_4 l0_5) else (if a0_3 > 16384 then (zq1o.j0 k true a0_0 a0_1 a0_2 a0_3 l0_4 l0_5) else (if (l0_4.length : Int) > 256 then (zq1o.j0 k true a0_0 a0_1 a0_2 a0_3 l0_4 l0_5) else (zq1o.j0 k (decide ((l0_5.length : Int) > 2048)) a0_0 a0_1 a0_2 a0_3 l0_4 l0_5))))) else (some 4))
theorem zq1o.mono_l : ∀ k, (∀ y0 y1 y2 y3 y4 y5 y6, LeO (zq1o.j0 k y0 y1 y2 y3 y4 y5 y6) (zq1o.j0 (k + 1) y0 y1 y2 y3 y4 y5 y6)) ∧ (∀ y0 y1 y2 y3 y4 y5 y6 y7 y8 y9 y10 y11 y12 y13, LeO (zq1o.l0 k y0 y1 y2 y3 y4 y5 y6 y7 y8 y9 y10 y11 y12 y13) (zq1o.l0 (k + 1) y0 y1 y2 y3 y4 y5 y6 y7 y8 y9 y10 y11 y12 y13))
 | 0 => ⟨fun _ _ _ _ _ _ _ r h => by simp [zq1o.j0] at h, fun _ _ _ _ _ _ _ _ _ _ _ _ _ _ r h => by simp [zq1o.l0] at h⟩
 | k + 1 => by
  obtain ⟨ih0, ih1⟩ := zq1o.mono_l k
  refine ⟨?_, ?_⟩
  ·intro y0 y1 y2 y3 y4 y5 y6
   unfold zq1o.j0
   with_reducible repeat' first | apply ih0 | apply ih1 | apply zq16.mono | apply zqt.mono | apply zq1j.mono | exact LeO.refl _ | exact LeO.none _ | refine LeO.ite ?_ ?_ | refine LeO.bind ?_ (fun _ => ?_)
  ·intro y0 y1 y2 y3 y4 y5 y6 y7 y8 y9 y10 y11 y12 y13
   unfold zq1o.l0
   with_reducible repeat' first | apply ih0 | apply ih1 | apply zq16.mono | apply zqt.mono | apply zq1j.mono | exact LeO.refl _ | exact LeO.none _ | refine LeO.ite ?_ ?_ | refine LeO.bind ?_ (fun _ => ?_)
theorem zq1o.mono : ∀ a0 a1 a2 a3 a4 a5 k, LeO (zq1o.f k a0 a1 a2 a3 a4 a5) (zq1o.f (k + 1) a0 a1 a2 a3 a4 a5) := by
 intro a0 a1 a2 a3 a4 a5 k
 obtain ⟨ih0, ih1⟩ := zq1o.mono_l k
 unfold zq1o.f
 with_reducible repeat' first | apply ih0 | apply ih1 | apply zq16.mono | apply zqt.mono | apply zq1j.mono | exact LeO.refl _ | exact LeO.none _ | refine LeO.ite ?_ ?_ | refine LeO.bind ?_ (fun _ => ?_)
theorem zq1o.calls (k : Nat) (aK : ByteArray) (aL : ByteArray) (aM : ByteArray) (aN : Int) (a1 : Option Addr) (a0 : Nat) (aI : List (S62)) (bB : Option Addr) (a2 : Nat) (aC : List (S43)) (r : Int) (w : World) (bG : Kd.C k62 w a1 aI.length aI) (bI : aI.length ≤ a0) (bH : Kd.C k43 w bB aC.length aC) (bF : aC.length ≤ a2) (h : zq1o.f k aK aL aM aN aI aC = some r) :
  Calls Try.prog 18 #[.agg #[.string aK, .string aL, .string aM, .int .i64 aN, .slice a1 aI.length a0, .slice bB aC.length a2]] w fun e w' => e = .returned (.int .i64 r) ∧ Below w.heap.size w w' := by
 have jY := Try.underlying25
 have j1 := Try.underlying43
 have a7 := q_ bG
 have a9 := q_ bI
 clear bG bI
 have a8 := q_ bH
 have bJ := q_ bF
 clear bH bF
 have HB := q_ (Below.refl w.heap.size w)
 have H : ((zq1j.f k aK).bind fun bK => (if bK = true then (if (aL.size : Int) > 16384 then (zq1o.j0 k true aK aL aM aN aI aC) else (if (aM.size : Int) > 16384 then (zq1o.j0 k true aK aL aM aN aI aC) else (if aN > 16384 then (zq1o.j0 k true aK aL aM aN aI aC) else (if (aI.length : Int) > 256 then (zq1o.j0 k true aK aL aM aN aI aC) else (zq1o.j0 k (decide ((aC.length : Int) > 2048)) aK aL aM aN aI aC))))) else (some 4))) = some r := h
 clear h
 obtain ⟨bK, A2, H⟩ := bq_ H
 (try dsimp only at H)
 by_cases c3 : bK = true
 rotate_left
 ·replace c3 := Bool.eq_false_iff.mpr c3
  subst c3
  rw [if_neg (show ¬ (false = true) by decide)] at H
  obtain rfl := Option.some.inj H
  go_enter Try.func18, Try.ntmps18
  go_wp2_with (first | (refine gd_ 1 ?_; (try (refine y23 (by rfl) ?_; dsimp only)); refine bx_ 1 (cs := #[.string aK, .string aL, .string aM, .int .i64 aN, .slice a1 aI.length a0, .slice bB aC.length a2]) 25 ?_; intro a3 hg j8 hbox hb; have aA := q_ (hbox); have cB := gw_ w hg (y0j hb_); have b6 := gw_ w hg (y0j hb_); replace HB := q_ (y0k hb_ hb); clear hb hbox hg; obtain ⟨iI, dB, eV, dO, eW, gD, fF, hB, iB, gW, fT, cT⟩ := b6_ aA.out) | (refine gc_ 48 ?_; refine gl_ (some 11) Try.func48 #[.string aK] ?_; (with_reducible refine (zq1j.calls k aK false _ A2.out).mono ?_); rintro e j3 ⟨rfl, hb⟩; refine ⟨_, rfl, ?_⟩; replace aA := q_ (y0n (bk_ aA.out) hb); replace HB := q_ (y0k hb_ hb)))
  go_ret
  exact ⟨ew_, hb_⟩
 subst c3
 rw [if_pos rfl] at H
 have i5 := q_ H
 clear H
 go_enter Try.func18, Try.ntmps18
 go_upto_region 3 with (first | (refine gd_ 1 ?_; (try (refine y23 (by rfl) ?_; dsimp only)); refine bx_ 1 (cs := #[.string aK, .string aL, .string aM, .int .i64 aN, .slice a1 aI.length a0, .slice bB aC.length a2]) 25 ?_; intro a3 hg w5 hbox hb; have aA := q_ (hbox); have cB := gw_ w hg (y0j hb_); have b6 := gw_ w hg (y0j hb_); replace HB := q_ (y0k hb_ hb); clear hb hbox hg; obtain ⟨i4, i8, iY, iS, iW, i7, iV, iX, i6, iQ, iN, i9⟩ := b6_ aA.out) | (refine gc_ 48 ?_; refine gl_ (some 11) Try.func48 #[.string aK] ?_; (with_reducible refine (zq1j.calls k aK true _ A2.out).mono ?_); rintro e w7 ⟨rfl, hb⟩; refine ⟨_, rfl, ?_⟩; replace aA := q_ (y0n (bk_ aA.out) hb); replace HB := q_ (y0k hb_ hb)))
 (try simp only [Act.put, List.setIfInBounds_toArray, List.set_cons_zero, List.set_cons_succ])
 go_cut [13] (fun jZ wc => ∃ (kq : Nat) (bA : Bool), jZ = .bool bA ∧ Aside0 (zq1o.j0 kq bA aK aL aM aN aI aC = some r) ∧ Aside0 (kq ≤ k) ∧ Aside0 (wc.heap[a3]? = some (.cells #[.string aK, .string aL, .string aM, .int .i64 aN, (.slice a1 aI.length a0), (.slice bB aC.length a2)] 25 (0, 0))) ∧ Aside0 (Below w.heap.size w wc))
 case first =>
  have H := i5.out
  clear i5
  by_cases c8 : (aL.size : Int) > 16384
  ·rw [if_pos c8] at H
   have bC := dt_ c8
   have iP : decide (16384 < aL.size) = true := decide_eq_true (by omega)
   clear c8
   (first | rw [bC] | (simp only [y2h, y2g]; rw [bC]) | skip)
   have H' := q_ H
   clear H
   obtain ⟨iT, iM, iL, i1, iR, i3, i0, iO, i2, iZ, jA, iU⟩ := b6_ aA.out
   go_wp2
   go_meet
   case rel => exact ⟨_, (true), cl_, H', ⟨oz_⟩, ⟨bk_ aA.out⟩, ⟨hb_⟩⟩
  rw [if_neg c8] at H
  have bC := df_ c8
  have iP : decide (16384 < aL.size) = false := decide_eq_false (by omega)
  clear c8
  (first | rw [bC] | (simp only [y2h, y2g]; rw [bC]) | skip)
  by_cases bU : (aM.size : Int) > 16384
  ·rw [if_pos bU] at H
   have bZ := dt_ bU
   have b4 : decide (16384 < aM.size) = true := decide_eq_true (by omega)
   clear bU
   have H' := q_ H
   clear H
   obtain ⟨c4, hV, eJ, gL, hL, cS, iE, eP, e6, hA, gG, fS⟩ := b6_ aA.out
   go_wp2
   go_meet
   case rel => exact ⟨_, (true), cl_, H', ⟨oz_⟩, ⟨bk_ aA.out⟩, ⟨hb_⟩⟩
  rw [if_neg bU] at H
  have bZ := df_ bU
  have b4 : decide (16384 < aM.size) = false := decide_eq_false (by omega)
  clear bU
  by_cases bR : aN > 16384
  ·rw [if_pos bR] at H
   have b0 := dt_ bR
   clear bR
   have H' := q_ H
   clear H
   obtain ⟨iA, g3, cE, gP, eT, dX, e8, fD, fX, c1, cH, dR⟩ := b6_ aA.out
   go_wp2
   go_meet
   case rel => exact ⟨_, (true), cl_, H', ⟨oz_⟩, ⟨bk_ aA.out⟩, ⟨hb_⟩⟩
  rw [if_neg bR] at H
  have b0 := df_ bR
  clear bR
  by_cases bT : (aI.length : Int) > 256
  ·rw [if_pos bT] at H
   have b9 := dt_ bT
   have bW : decide (256 < aI.length) = true := decide_eq_true (by omega)
   clear bT
   have H' := q_ H
   clear H
   obtain ⟨fO, gS, g5, fC, f9, gI, iJ, eU, dI, cL, eY, hO⟩ := b6_ aA.out
   go_wp2
   go_meet
   case rel => exact ⟨_, (true), cl_, H', ⟨oz_⟩, ⟨bk_ aA.out⟩, ⟨hb_⟩⟩
  rw [if_neg bT] at H
  have b9 := df_ bT
  have bW : decide (256 < aI.length) = false := decide_eq_false (by omega)
  clear bT
  have H' := q_ H
  clear H
  obtain ⟨e3, hP, dU, dQ, fW, gA, dF, cP, fV, e0, hH, d2⟩ := b6_ aA.out
  go_wp2
  go_meet
  case rel => exact ⟨_, (decide ((aC.length : Int) > 2048)), cl_, H', ⟨oz_⟩, ⟨bk_ aA.out⟩, ⟨hb_⟩⟩
 clear i5
 obtain ⟨kq, bA, rfl, HA, jO, aA, HB⟩ := hcut
 obtain _ | kj3 := kq
 ·exact nn_ HA
 have H := HA.out
 clear HA
 simp only [zq1o.j0] at H
 by_cases eE : bA = true
 ·subst eE
  rw [if_pos rfl] at H
  obtain rfl := Option.some.inj H
  go_wp2
  go_ret
  exact ⟨ew_, hb_⟩
 replace eE := Bool.eq_false_iff.mpr eE
 subst eE
 rw [if_neg (show ¬ (false = true) by decide)] at H
 by_cases bL : ((aL.size : Int) % 2) = 0
 rotate_left
 ·rw [if_neg bL] at H
  have b8 := ef_ bL
  have b2 := nt_ bL
  obtain rfl := Option.some.inj H
  obtain ⟨gT, f6, hK, fM, e4, dY, dL, e9, cR, fU, dA, eF⟩ := b6_ aA.out
  go_wp2
  go_ret
  exact ⟨ew_, hb_⟩
 rw [if_pos bL] at H
 have b8 := et_ bL
 have b2 := nf_ bL
 clear bL
 by_cases bS : aN < 0
 ·rw [if_pos bS] at H
  have cA := dt_ bS
  clear bS
  obtain rfl := Option.some.inj H
  obtain ⟨h9, hT, hS, dW, c5, hX, dV, dP, d6, f7, dG, d9⟩ := b6_ aA.out
  go_wp2
  go_ret
  exact ⟨ew_, hb_⟩
 rw [if_neg bS] at H
 have cA := df_ bS
 clear bS
 obtain ⟨bN, jD, H⟩ := bq_ H
 (try dsimp only at H)
 by_cases bP : bN = 0
 rotate_left
 ·rw [if_neg bP] at H
  have bY := ef_ bP
  have b3 := nt_ bP
  obtain rfl := Option.some.inj H
  obtain ⟨cN, eK, cF, iD, eX, eQ, cU, gF, gE, e5, dJ, cG⟩ := b6_ aA.out
  go_wp2_with (first | (refine gc_ 49 ?_; refine gl_ (some 54) Try.func49 #[.slice a1 aI.length a0] ?_; (with_reducible refine (zqt.calls kj3 _ _ aI bN _ ?side1 ?side2 jD.out).mono ?_); (case side1 => exact ck_ (Kd.C_below a7.out HB.out)); (case side2 => exact a9.out); rintro e j7 ⟨rfl, hb⟩; refine ⟨_, rfl, ?_⟩; replace aA := q_ (y0n (bk_ aA.out) hb); replace HB := q_ (y0k hb_ hb)))
  go_ret
  exact ⟨ew_, hb_⟩
 rw [if_pos bP] at H
 have bY := et_ bP
 have b3 := nf_ bP
 clear bP
 have H' := q_ H
 clear H
 obtain ⟨cI, cQ, hM, hC, eZ, hW, c6, gK, h5, hJ, hN, h3⟩ := b6_ aA.out
 go_wp2_with (first | (refine gc_ 49 ?_; refine gl_ (some 54) Try.func49 #[.slice a1 aI.length a0] ?_; (with_reducible refine (zqt.calls kj3 _ _ aI bN _ ?side1 ?side2 jD.out).mono ?_); (case side1 => exact ck_ (Kd.C_below a7.out HB.out)); (case side2 => exact a9.out); rintro e j6 ⟨rfl, hb⟩; refine ⟨_, rfl, ?_⟩; replace aA := q_ (y0n (bk_ aA.out) hb); replace HB := q_ (y0k hb_ hb)) | (refine gd_ 4 ?_; (try (refine y23 (by rfl) ?_; dsimp only)); refine bx_ 4 (cs := #[.int .i64 0, .int .i64 0, .int .i64 0, .string nB_, .bool false]) 43 ?_; intro bD hg j5 hbox hb; have aJ := q_ (hbox); have jU := gw_ w hg (y0j hb_); have jG := gw_ w hg (y0j hb_); replace HB := q_ (y0k hb_ hb); have aW := nl_ hg (bk_ aA.out); have aU := ng_ hg (bk_ aA.out); replace aA := q_ (y0n (bk_ aA.out) hb); clear hb hbox hg; have jQ := aU.out; have jV := aW.out; obtain ⟨h6, eR, iG, f8, gU, c2, gX, gO, dE, d1⟩ := b5_ aJ.out; obtain ⟨dK, hU, c0, fJ, eG, g7, d4, fY, g1, gR, eS, fH⟩ := b6_ aA.out))
 go_loopg [62] kj3 (fun kq jX w' => ∃ (aB : Int) (aH : Int) (aD : Int) (aG : Int) (aF : ByteArray) (aE : Bool), jX = .int .i64 aB ∧ Aside0 (zq1o.l0 kq aC (aC.length : Int) aB aK aL aM aN aI aC aH aD aG aF aE = some r) ∧ Aside0 (kq ≤ kj3) ∧ Aside0 (w'.heap[a3]? = some (.cells #[.string aK, .string aL, .string aM, .int .i64 aN, (.slice a1 aI.length a0), (.slice bB aC.length a2)] 25 (0, 0))) ∧ Aside0 (w'.heap[bD]? = some (.cells #[.int .i64 aH, .int .i64 aD, .int .i64 aG, .string aF, .bool aE] 43 (0, 0))) ∧ Aside0 (Below w.heap.size w w'))
 case atStart => exact ⟨(0), ((-1)), (0), (0), (nB_), (false), cl_, H', ⟨Nat.le_refl _⟩, ⟨bs_ aA.out⟩, ⟨bs_ aJ.out⟩, ⟨hb_⟩⟩
 case round =>
  clear H'
  obtain ⟨aB, aH, aD, aG, aF, aE, rfl, HA, jE, aA, aJ, HB⟩ := hrel
  obtain _ | k2 := gk
  ·exact nn_ HA
  have H := HA.out
  clear HA
  simp only [zq1o.l0] at H
  by_cases bV : aB < (aC.length : Int)
  rotate_left
  ·rw [if_neg bV] at H
   have bX := df_ bV
   clear bV
   obtain rfl := Option.some.inj H
   go_wp2
   go_ret
   exact ⟨ew_, hb_⟩
  rw [if_pos bV] at H
  have bX := dt_ bV
  clear bV
  by_cases gY : 0 ≤ aB
  rotate_left
  ·rw [if_neg gY] at H
   exact absurd H (by simp)
  rw [if_pos gY] at H
  have jM := dt_ gY
  clear gY
  by_cases g4 : aB < (aC.length : Int)
  rotate_left
  ·rw [if_neg g4] at H
   exact absurd H (by simp)
  rw [if_pos g4] at H
  have jB := dt_ g4
  clear g4
  obtain ⟨bM, jJ, H⟩ := bq_ H
  (try dsimp only at H)
  by_cases bQ : bM = 0
  rotate_left
  ·rw [if_neg bQ] at H
   have b1 := ef_ bQ
   have b7 := nt_ bQ
   obtain rfl := Option.some.inj H
   have a6 : 0 ≤ (aB : Int) := oa_
   have a5 : aB < (aC.length : Int) := oa_
   obtain ⟨a4, bO, aS, aR, aO, aQ, aP⟩ := y0d a8.out aB a6 a5
   cases bO
   replace aS := cb_ HB.out aS
   replace aR := cb_ HB.out aR
   replace aO := cb_ HB.out aO
   replace aQ := cb_ HB.out aQ
   replace aP := cb_ HB.out aP
   replace a6 := eq_true a6
   replace a5 := eq_true a5
   go_wp2_with (first | (refine gd_ 6 ?_; (try (refine y23 (by rfl) ?_; dsimp only)); refine bx_ 6 (cs := #[.int .i64 0, .int .i64 0, .int .i64 0, .string nB_, .bool false]) 43 ?_; intro bE hg kA hbox hb; have aZ := q_ (hbox); have cC := gw_ w hg (y0j hb_); have b5 := gw_ w hg (y0j hb_); replace HB := q_ (y0k hb_ hb); have aX := nl_ hg (bk_ aA.out); have aV := ng_ hg (bk_ aA.out); replace aA := q_ (y0n (bk_ aA.out) hb); have aT := nl_ hg (bk_ aJ.out); have aY := ng_ hg (bk_ aJ.out); replace aJ := q_ (y0n (bk_ aJ.out) hb); clear hb hbox hg; have jK := aV.out; have jI := aX.out; have jN := aY.out; have jW := aT.out; obtain ⟨fB, eA, eB, e1, eD, gH, h7, cD, hD, dM⟩ := b5_ aZ.out; have jR := aW.out; have jF := aU.out; obtain ⟨cW, gB, hG, dH, gM, cY, cX, fG, d3, h1, f5, e7⟩ := b6_ aA.out; obtain ⟨eL, gJ, hI, g9, fA, eO, iK, eC, gQ, e2⟩ := b5_ aJ.out) | (refine gc_ 50 ?_; refine gl_ (some 69) Try.func50 #[.agg #[.string aK, .string aL, .string aM, .int .i64 aN, .slice a1 aI.length a0, .slice (some a4) aC.length a2], .agg #[.int .i64 ((y4a aC aB).f0), .int .i64 ((y4a aC aB).f1), .int .i64 ((y4a aC aB).f2), .string ((y4a aC aB).f3), .bool ((y4a aC aB).f4)], .agg #[.int .i64 aH, .int .i64 aD, .int .i64 aG, .string aF, .bool aE]] ?_; (with_reducible refine (zq16.calls k2 aK aL aM aN _ _ aI _ _ aC ((y4a aC aB).f0) ((y4a aC aB).f1) ((y4a aC aB).f2) ((y4a aC aB).f3) ((y4a aC aB).f4) aH aD aG aF aE bM _ ?side1 ?side2 ?side3 ?side4 jJ.out).mono ?_); (case side1 => exact Kd.C_below a7.out hb_); (case side2 => exact a9.out); (case side3 => exact Kd.C_below a8.out hb_); (case side4 => exact bJ.out); rintro e j4 ⟨rfl, hb⟩; refine ⟨_, rfl, ?_⟩; replace aA := q_ (y0n (g := a3) (o := .cells #[.string aK, .string aL, .string aM, .int .i64 aN, .slice a1 aI.length a0, .slice (some a4) aC.length a2] 25 (0, 0)) (bs_ aA.out) hb); replace aJ := q_ (y0n (g := bD) (o := .cells #[.int .i64 aH, .int .i64 aD, .int .i64 aG, .string aF, .bool aE] 43 (0, 0)) (bs_ aJ.out) hb); replace aZ := q_ (y0n (g := bE) (o := .cells #[.int .i64 ((y4a aC aB).f0), .int .i64 ((y4a aC aB).f1), .int .i64 ((y4a aC aB).f2), .string ((y4a aC aB).f3), .bool ((y4a aC aB).f4)] 43 (0, 0)) (bs_ aZ.out) hb); replace HB := q_ (y0k hb_ hb)))
   go_ret
   exact ⟨ew_, hb_⟩
  rw [if_pos bQ] at H
  have b1 := et_ bQ
  have b7 := nf_ bQ
  clear bQ
  have H' := q_ H
  clear H
  have a6 : 0 ≤ (aB : Int) := oa_
  have a5 : aB < (aC.length : Int) := oa_
  obtain ⟨a4, bO, aS, aR, aO, aQ, aP⟩ := y0d a8.out aB a6 a5
  cases bO
  replace aS := cb_ HB.out aS
  replace aR := cb_ HB.out aR
  replace aO := cb_ HB.out aO
  replace aQ := cb_ HB.out aQ
  replace aP := cb_ HB.out aP
  replace a6 := eq_true a6
  replace a5 := eq_true a5
  go_wp2_with (first | (refine gd_ 6 ?_; (try (refine y23 (by rfl) ?_; dsimp only)); refine bx_ 6 (cs := #[.int .i64 0, .int .i64 0, .int .i64 0, .string nB_, .bool false]) 43 ?_; intro bE hg j9 hbox hb; have aZ := q_ (hbox); have cC := gw_ w hg (y0j hb_); have b5 := gw_ w hg (y0j hb_); replace HB := q_ (y0k hb_ hb); have aX := nl_ hg (bk_ aA.out); have aV := ng_ hg (bk_ aA.out); replace aA := q_ (y0n (bk_ aA.out) hb); have aT := nl_ hg (bk_ aJ.out); have aY := ng_ hg (bk_ aJ.out); replace aJ := q_ (y0n (bk_ aJ.out) hb); clear hb hbox hg; have jP := aV.out; have jH := aX.out; have jC := aY.out; have jT := aT.out; obtain ⟨fE, g0, d7, fQ, g6, eM, iC, c7, dN, fN⟩ := b5_ aZ.out; have jS := aW.out; have jL := aU.out; obtain ⟨c9, d0, h8, hY, cM, eN, fK, h2, g8, hR, dZ, fI⟩ := b6_ aA.out; obtain ⟨cV, hE, fR, hF, d5, gV, fZ, fL, eH, d8⟩ := b5_ aJ.out) | (refine gc_ 50 ?_; refine gl_ (some 69) Try.func50 #[.agg #[.string aK, .string aL, .string aM, .int .i64 aN, .slice a1 aI.length a0, .slice (some a4) aC.length a2], .agg #[.int .i64 ((y4a aC aB).f0), .int .i64 ((y4a aC aB).f1), .int .i64 ((y4a aC aB).f2), .string ((y4a aC aB).f3), .bool ((y4a aC aB).f4)], .agg #[.int .i64 aH, .int .i64 aD, .int .i64 aG, .string aF, .bool aE]] ?_; (with_reducible refine (zq16.calls k2 aK aL aM aN _ _ aI _ _ aC ((y4a aC aB).f0) ((y4a aC aB).f1) ((y4a aC aB).f2) ((y4a aC aB).f3) ((y4a aC aB).f4) aH aD aG aF aE bM _ ?side1 ?side2 ?side3 ?side4 jJ.out).mono ?_); (case side1 => exact Kd.C_below a7.out hb_); (case side2 => exact a9.out); (case side3 => exact Kd.C_below a8.out hb_); (case side4 => exact bJ.out); rintro e j2 ⟨rfl, hb⟩; refine ⟨_, rfl, ?_⟩; replace aA := q_ (y0n (g := a3) (o := .cells #[.string aK, .string aL, .string aM, .int .i64 aN, .slice a1 aI.length a0, .slice (some a4) aC.length a2] 25 (0, 0)) (bs_ aA.out) hb); replace aJ := q_ (y0n (g := bD) (o := .cells #[.int .i64 aH, .int .i64 aD, .int .i64 aG, .string aF, .bool aE] 43 (0, 0)) (bs_ aJ.out) hb); replace aZ := q_ (y0n (g := bE) (o := .cells #[.int .i64 ((y4a aC aB).f0), .int .i64 ((y4a aC aB).f1), .int .i64 ((y4a aC aB).f2), .string ((y4a aC aB).f3), .bool ((y4a aC aB).f4)] 43 (0, 0)) (bs_ aZ.out) hb); replace HB := q_ (y0k hb_ hb); obtain ⟨iH, cZ, hZ, dD, dS, gZ, cO, gC, dT, eI⟩ := b5_ aZ.out; obtain ⟨iF, cJ, g2, h4, gN, cK, hQ, h0, fP, dC⟩ := b5_ aJ.out))
  go_roundg k2
  case measure => have := jO.out; have := jE.out; omega
  case rel => exact ⟨(wrap64 (aB + 1)), ((y4a aC aB).f0), ((y4a aC aB).f1), ((y4a aC aB).f2), ((y4a aC aB).f3), ((y4a aC aB).f4), cl_, H', ⟨by have := jO.out; have := jE.out; omega⟩, ⟨bs_ aA.out⟩, ⟨bs_ aJ.out⟩, ⟨hb_⟩⟩
end Go.Proofs.Ytenlmckahaniiaa.K
end
section
namespace Go.Proofs.Ytenlmckahaniiaa.K
open Go.RowKit Go.Proofs.YtW.P Go.Proofs.YtW.L
def zq1g.go (k : Nat) (l0 : List S25) : Nat → Nat → Option Int
  | 0, _ => some 0
  | n + 1, i => (zq1o.f k (y49 l0 i).f0 (y49 l0 i).f1 (y49 l0 i).f2 (y49 l0 i).f3 (y49 l0 i).f4 (y49 l0 i).f5).bind fun e => if e = 0 then (if 0 ≤ idxF (pNam (y49 l0 i).f0) (l0.take i) then some 6 else zq1g.go k l0 n (i + 1)) else some e
def zq1g.f (k : Nat) (l0 : List S25) : Option Int := if (l0.length : Int) > 32 then some 12 else zq1g.go k l0 l0.length 0
theorem zq1g.go_mono (k : Nat) (l0 : List S25) : ∀ n i, LeO (zq1g.go k l0 n i) (zq1g.go (k + 1) l0 n i)
 | 0, _ => LeO.refl _
 | n + 1, i => by
  unfold zq1g.go
  refine LeO.bind (zq1o.mono _ _ _ _ _ _ _) (fun e => ?_)
  exact LeO.ite (LeO.ite (LeO.refl _) (zq1g.go_mono k l0 n (i + 1))) (LeO.refl _)
theorem zq1g.mono : ∀ a0 k, LeO (zq1g.f k a0) (zq1g.f (k + 1) a0) := by
 intro a0 k
 exact LeO.ite (LeO.refl _) (zq1g.go_mono k a0 _ _)
theorem zq1g.calls (k : Nat) (A0 : Option Addr) (c0 : Nat) (l0 : List S25) (r : Int) (w : World) (aL : Kd.C k25 w A0 l0.length l0) (aS : l0.length ≤ c0) (h : zq1g.f k l0 = some r) :
  Calls Try.prog 34 #[.slice A0 l0.length c0] w fun e w' => e = .returned (.int .i64 r) ∧ Below w.heap.size w w' := by
 have aU := Try.underlying25
 have HC := q_ aL
 have HCC := q_ aS
 have HL := q_ (show l0.length ≤ 9223372036854775807 from aL.2.1)
 clear aL aS
 unfold zq1g.f at h
 by_cases aI : (l0.length : Int) > 32
 ·rw [if_pos aI] at h
  obtain rfl := Option.some.inj h
  clear h
  have c1 : decide ((32 : Int) < (l0.length : Int)) = true := decide_eq_true aI
  go_enter Try.func34, Try.ntmps34
  go_wp2
  go_ret
  exact ⟨rfl, Below.refl _ _⟩
 rw [if_neg aI] at h
 have c1 : decide ((32 : Int) < (l0.length : Int)) = false := decide_eq_false aI
 have aP := q_ h
 clear h aI
 go_enter Try.func34, Try.ntmps34
 go_wp2
 clear c1
 go_loopg [11] l0.length (fun gk aW w' => ∃ i : Nat, aW = .int .i64 i ∧ i ≤ l0.length ∧ l0.length - i ≤ gk ∧ Aside0 (zq1g.go k l0 (l0.length - i) i = some r) ∧ Aside0 (Below w.heap.size w w'))
 case atStart => exact ⟨0, rfl, by omega, by omega, ⟨aP.out⟩, ⟨Below.refl _ _⟩⟩
 case round =>
  clear aP
  obtain ⟨i, rfl, hi, hk, HG, HB⟩ := hrel
  by_cases h2 : i < l0.length
  rotate_left
  ·have c2 : decide ((i : Int) < (l0.length : Int)) = false := by simpa using h2
   have hG := HG.out
   clear HG
   rw [show l0.length - i = 0 by omega] at hG
   obtain rfl := Option.some.inj (show some (0 : Int) = some r from hG)
   clear hG
   go_wp2
   go_ret
   exact ⟨rfl, HB.out⟩
  have c2 : decide ((i : Int) < (l0.length : Int)) = true := by simpa using h2
  have c3 : (0 ≤ (i : Int)) = True := by simp
  have hG := HG.out
  clear HG
  rw [show l0.length - i = (l0.length - (i + 1)) + 1 by omega] at hG
  unfold zq1g.go at hG
  obtain ⟨e, hE, aA⟩ := Option.bind_eq_some_iff.mp hG
  clear hG
  obtain ⟨ad, A4, c4, A5, c5, ead, aG, aC, aE, aF, aD, aB, aK, aN, aM, aO⟩ := y0c HC.out i (by omega) (by omega)
  cases ead
  replace aG := cb_ HB.out aG
  replace aC := cb_ HB.out aC
  replace aE := cb_ HB.out aE
  replace aF := cb_ HB.out aF
  replace aD := cb_ HB.out aD
  replace aB := cb_ HB.out aB
  generalize y49 l0 (i : Int) = sy at aG aC aE aF aD aB aK aN aM aO hE aA
  simp only [Int.toNat_natCast] at aG aC aE aF aD aB
  have HBA := q_ (y0f HB.out (.cells #[.string sy.f0, .string sy.f1, .string sy.f2, .int .i64 sy.f3, .slice A4 sy.f4.length c4, .slice A5 sy.f5.length c5] 25))
  have HQ := q_ (zq1o.calls k sy.f0 sy.f1 sy.f2 sy.f3 A4 c4 sy.f4 A5 c5 sy.f5 e _ (Kd.C_below aN HBA.out) aK (Kd.C_below aO HBA.out) aM hE)
  have HBK := q_ (blk_new wr (.cells #[.string sy.f0, .string sy.f1, .string sy.f2, .int .i64 sy.f3, .slice A4 sy.f4.length c4, .slice A5 sy.f5.length c5] 25))
  clear aN aO aK aM hE
  by_cases he : e = 0
  rotate_left
  ·rw [if_neg he] at aA
   obtain rfl := Option.some.inj aA
   clear aA
   have aR : (e != 0) = true := bne_iff_ne.mpr he
   go_wp2_with (go_at_call 18; (with_reducible refine HQ.out.mono ?_); rintro e w2 ⟨rfl, hb⟩; have aH := q_ (y0k HBA.out hb); clear hb)
   go_ret
   exact ⟨rfl, aH.out⟩
  subst he
  rw [if_pos rfl] at aA
  have hlen : (l0.take i).length = i := by rw [List.length_take]; omega
  have HT := q_ (Kd.C_take (m := i) HC.out hi)
  obtain ⟨q, hq⟩ : ∃ q, q = idxF (pNam sy.f0) (l0.take i) := ⟨_, rfl⟩
  have HX := q_ (fun w1 (aQ : Below (wr.alloc (.cells #[.string sy.f0, .string sy.f1, .string sy.f2, .int .i64 sy.f3, .slice A4 sy.f4.length c4, .slice A5 sy.f5.length c5] 25)).heap.size (wr.alloc (.cells #[.string sy.f0, .string sy.f1, .string sy.f2, .int .i64 sy.f3, .slice A4 sy.f4.length c4, .slice A5 sy.f5.length c5] 25)) w1) => y2k (pNam sy.f0) 76 wr.heap.size (fun args w => enters_ Try.func76 (by kernel_rfl) rfl args w) (some ad) c0 (l0.take i) w1 (Kd.C_below HT.out (y0k HBA.out aQ)) (fun x A4 c4 A5 c5 w2 aV _ _ _ _ => namedF_calls x A4 c4 A5 c5 _ sy.f0 w2 ((y0o (y0n (y0n HBK.out aQ) aV) 0).trans rfl)))
  rw [← hq] at aA HX
  rw [hlen] at HX
  clear hq HT hlen
  have z1 : (i : Int) ≤ (c0 : Int) := by have := HCC.out; omega
  have z2 : ((i : Int) ≤ (c0 : Int)) = True := eq_true z1
  have z3 : i ≤ c0 := by have := HCC.out; omega
  by_cases h0 : 0 ≤ q
  ·rw [if_pos h0] at aA
   obtain rfl := Option.some.inj aA
   clear aA
   have aR : decide (0 ≤ q) = true := decide_eq_true h0
   go_wp2_with (first
    | (go_at_call 18; (with_reducible refine HQ.out.mono ?_); rintro e w2 ⟨rfl, hb⟩; have aH := q_ hb; clear hb)
    | (go_at_call 74; (with_reducible refine (HX.out _ aH.out).mono ?_); rintro e w3 ⟨rfl, hb⟩; have aJ := q_ (y0k (y0k HBA.out aH.out) hb); clear hb))
   go_ret
   exact ⟨rfl, aJ.out⟩
  rw [if_neg h0] at aA
  have aT := q_ aA
  clear aA
  have aR : decide (0 ≤ q) = false := decide_eq_false h0
  have HLI := HL.out
  go_wp2_with (first
   | (go_at_call 18; (with_reducible refine HQ.out.mono ?_); rintro e w2 ⟨rfl, hb⟩; have aH := q_ hb; clear hb)
   | (go_at_call 74; (with_reducible refine (HX.out _ aH.out).mono ?_); rintro e w3 ⟨rfl, hb⟩; have aJ := q_ (y0k (y0k HBA.out aH.out) hb); clear hb))
  go_roundg (l0.length - (i + 1))
  case measure => omega
  case rel => exact ⟨i + 1, by go_num, by omega, by omega, aT, aJ⟩
end Go.Proofs.Ytenlmckahaniiaa.K
end
section
namespace Go.Proofs
open Go.Shelf
def Try.lays169_ren : Go.Shelf.Ren := ⟨fun | 169 => 94 | n => n, fun | 70 => 102 | 9 => 9 | 0 => 0 | 72 => 104 | 37 => 39 | 127 => 116 | 3 => 3 | 5 => 5 | n => n, fun | n => n⟩
theorem Try.lays169 : Go.Proofs.Lays.n169 Try.prog Try.lays169_ren := {
  mixed := by kernel_rfl
  f169 := Try.func94.trans (congrArg some (by kernel_rfl))
  t0 := Try.underlying0
  a0 := Try.isAgg0
  z0 := Try.sizeOf0
  v0 := Try.zeroValue0
  t3 := Try.underlying3
  a3 := Try.isAgg3
  z3 := Try.sizeOf3
  v3 := Try.zeroValue3
  t9 := Try.underlying9
  a9 := Try.isAgg9
  z9 := Try.sizeOf9
  v9 := Try.zeroValue9
  t37 := Try.underlying39
  a37 := Try.isAgg39
  z37 := Try.sizeOf39
  v37 := Try.zeroValue39
  t70 := Try.underlying102
  a70 := Try.isAgg102
  z70 := Try.sizeOf102
  v70 := Try.zeroValue102
  t72 := Try.underlying104
  a72 := Try.isAgg104
  z72 := Try.sizeOf104
  v72 := Try.zeroValue104
  t127 := Try.underlying116
  a127 := Try.isAgg116
  z127 := Try.sizeOf116
  v127 := Try.zeroValue116 }
theorem Try.Builder_Extra_169 : Builder.Extra Try.prog Try.lays169_ren := {
  sizeBuilder := by kernel_rfl
  liesBuilder := by kernel_rfl
  t5 := Try.underlying5
  a5 := Try.isAgg5
  z5 := Try.sizeOf5
  v5 := Try.zeroValue5
  infoByte := by kernel_rfl
  cellsByte := by kernel_rfl
  sizeByte := by kernel_rfl
  neB5 := by decide }
open Go.RowKit in
theorem Try.Builder_String_any (B b : Nat) (l : List UInt8) (w : World) (h : Lib.IsBuilder 104 5 B b (Lib.byteCells l) w) (hBw : B ≤ w.heap.size) :
    Calls Try.prog 94 #[.pointer (some ⟨b, 0, none⟩)] w fun e w' => e = .returned (.string ⟨l.toArray⟩) ∧ Below B w w' := Any.Builder_String_any Try.lays169 Try.Builder_Extra_169 B b l w h hBw
def Try.lays190_ren : Go.Shelf.Ren := ⟨fun | 190 => 70 | 125 => 100 | 258 => 99 | 128 => 113 | 129 => 114 | 302 => 104 | 303 => 105 | 304 => 106 | 305 => 107 | 306 => 108 | 307 => 109 | 308 => 110 | 309 => 111 | 310 => 112 | 333 => 117 | 329 => 118 | 330 => 119 | 334 => 120 | 335 => 121 | 336 => 122 | 344 => 123 | n => n, fun | 31 => 33 | 9 => 9 | 3 => 3 | 46 => 110 | 0 => 0 | 51 => 109 | 53 => 126 | 4 => 4 | 183 => 119 | 182 => 118 | 131 => 48 | 5 => 5 | 218 => 129 | 222 => 133 | 228 => 135 | 229 => 136 | n => n, fun | n => n⟩
theorem Try.lays190 : Go.Proofs.Lays.n190 Try.prog Try.lays190_ren := {
  mixed := by kernel_rfl
  f125 := Try.func100.trans (congrArg some (by kernel_rfl))
  f128 := Try.func113.trans (congrArg some (by kernel_rfl))
  f129 := Try.func114.trans (congrArg some (by kernel_rfl))
  f190 := Try.func70.trans (congrArg some (by kernel_rfl))
  f258 := Try.func99.trans (congrArg some (by kernel_rfl))
  f302 := Try.func104.trans (congrArg some (by kernel_rfl))
  f303 := Try.func105.trans (congrArg some (by kernel_rfl))
  f304 := Try.func106.trans (congrArg some (by kernel_rfl))
  f305 := Try.func107.trans (congrArg some (by kernel_rfl))
  f306 := Try.func108.trans (congrArg some (by kernel_rfl))
  f307 := Try.func109.trans (congrArg some (by kernel_rfl))
  f308 := Try.func110.trans (congrArg some (by kernel_rfl))
  f309 := Try.func111.trans (congrArg some (by kernel_rfl))
  f310 := Try.func112.trans (congrArg some (by kernel_rfl))
  f329 := Try.func118.trans (congrArg some (by kernel_rfl))
  f330 := Try.func119.trans (congrArg some (by kernel_rfl))
  f333 := Try.func117.trans (congrArg some (by kernel_rfl))
  f334 := Try.func120.trans (congrArg some (by kernel_rfl))
  f335 := Try.func121.trans (congrArg some (by kernel_rfl))
  f336 := Try.func122.trans (congrArg some (by kernel_rfl))
  f344 := Try.func123.trans (congrArg some (by kernel_rfl))
  t0 := Try.underlying0
  a0 := Try.isAgg0
  z0 := Try.sizeOf0
  v0 := Try.zeroValue0
  t3 := Try.underlying3
  a3 := Try.isAgg3
  z3 := Try.sizeOf3
  v3 := Try.zeroValue3
  t4 := Try.underlying4
  a4 := Try.isAgg4
  z4 := Try.sizeOf4
  v4 := Try.zeroValue4
  t5 := Try.underlying5
  a5 := Try.isAgg5
  z5 := Try.sizeOf5
  v5 := Try.zeroValue5
  t9 := Try.underlying9
  a9 := Try.isAgg9
  z9 := Try.sizeOf9
  v9 := Try.zeroValue9
  t31 := Try.underlying33
  a31 := Try.isAgg33
  z31 := Try.sizeOf33
  v31 := Try.zeroValue33
  t46 := Try.underlying110
  a46 := Try.isAgg110
  z46 := Try.sizeOf110
  v46 := Try.zeroValue110
  t51 := Try.underlying109
  a51 := Try.isAgg109
  z51 := Try.sizeOf109
  v51 := Try.zeroValue109
  t53 := Try.underlying126
  a53 := Try.isAgg126
  z53 := Try.sizeOf126
  v53 := Try.zeroValue126
  t131 := Try.underlying48
  a131 := Try.isAgg48
  z131 := Try.sizeOf48
  v131 := Try.zeroValue48
  t182 := Try.underlying118
  a182 := Try.isAgg118
  z182 := Try.sizeOf118
  v182 := Try.zeroValue118
  t183 := Try.underlying119
  a183 := Try.isAgg119
  z183 := Try.sizeOf119
  v183 := Try.zeroValue119
  t218 := Try.underlying129
  a218 := Try.isAgg129
  z218 := Try.sizeOf129
  v218 := Try.zeroValue129
  t222 := Try.underlying133
  a222 := Try.isAgg133
  z222 := Try.sizeOf133
  v222 := Try.zeroValue133
  t228 := Try.underlying135
  a228 := Try.isAgg135
  z228 := Try.sizeOf135
  v228 := Try.zeroValue135
  t229 := Try.underlying136
  a229 := Try.isAgg136
  z229 := Try.sizeOf136
  v229 := Try.zeroValue136 }
open Go.Sort Go.RowKit in
theorem Try.slices_Sort_string (blk off cap : Nat) (ss : List (List UInt8)) (w : World) (hH : Holds encStr w blk off ss.toArray) (hblk : blk < w.heap.size) (hsz : ss.length < 4611686018427387904) :
    Calls Try.prog 70 #[.slice (some ⟨blk, off, none⟩) ss.length cap] w fun e w' =>
      e = .returned (.tuple #[]) ∧ ∃ n os, w' = grow (putRow encStr (Sort.ahead w n) blk off (ss.mergeSort fun x y => decide (x ≤ y)).toArray) os := Any.slices_Sort_string Try.lays190 blk off cap ss w hH hblk hsz
def Try.lays194_ren : Go.Shelf.Ren := ⟨fun | 194 => 71 | n => n, fun | 31 => 33 | 9 => 9 | 3 => 3 | 4 => 4 | 0 => 0 | n => n, fun | n => n⟩
theorem Try.lays194 : Go.Proofs.Lays.n194 Try.prog Try.lays194_ren := {
  mixed := by kernel_rfl
  f194 := Try.func71.trans (congrArg some (by kernel_rfl))
  t0 := Try.underlying0
  a0 := Try.isAgg0
  z0 := Try.sizeOf0
  v0 := Try.zeroValue0
  t3 := Try.underlying3
  a3 := Try.isAgg3
  z3 := Try.sizeOf3
  v3 := Try.zeroValue3
  t4 := Try.underlying4
  a4 := Try.isAgg4
  z4 := Try.sizeOf4
  v4 := Try.zeroValue4
  t9 := Try.underlying9
  a9 := Try.isAgg9
  z9 := Try.sizeOf9
  v9 := Try.zeroValue9
  t31 := Try.underlying33
  a31 := Try.isAgg33
  z31 := Try.sizeOf33
  v31 := Try.zeroValue33 }
open Go.RowKit Go.Lib Go.Sort in
theorem Try.slices_Compact_string (blk off cap : Nat) (zs : List (List UInt8)) (w : World) (hH : Holds encStr w blk off zs.toArray) (hsz : zs.length ≤ 9223372036854775807) (hcap : zs.length ≤ cap) :
    Calls Try.prog 71 #[.slice (some ⟨blk, off, none⟩) zs.length cap] w fun e w' => e = .returned (.slice (some ⟨blk, off, none⟩) (Lib.compact zs).length cap) ∧ ∃ q, w' = putRow encStr (Sort.ahead w q) blk off (Lib.compact zs ++ List.replicate (zs.length - (Lib.compact zs).length) []).toArray := Any.slices_Compact_string Try.lays194 blk off cap zs w hH hsz hcap
open Go.RowKit Go.Lib Go.Sort in
theorem Try.slices_Compact_string_empty (a : Option Addr) (cap : Nat) (w : World) :
    Calls Try.prog 71 #[.slice a 0 cap] w fun e w' => e = .returned (.slice a 0 cap) ∧ w' = w := Any.slices_Compact_string_empty Try.lays194 a cap w
open Go.RowKit Go.Sort in
theorem Try.slices_Sort_string_none (p : Option Addr) (cap : Nat) (w : World) :
    Calls Try.prog 70 #[.slice p 0 cap] w fun e w' => e = .returned (.tuple #[]) ∧ w' = w := Any.slices_Sort_string_none Try.lays190 p cap w
def Try.lays166_ren : Go.Shelf.Ren := ⟨fun | 166 => 91 | 240 => 103 | 276 => 116 | n => n, fun | 0 => 0 | 3 => 3 | 4 => 4 | 9 => 9 | 20 => 20 | 37 => 39 | 70 => 102 | 72 => 104 | 75 => 106 | 164 => 127 | 5 => 5 | 80 => 75 | n => n, fun | n => n⟩
theorem Try.lays166 : Go.Proofs.Lays.n166 Try.prog Try.lays166_ren := {
  mixed := by kernel_rfl
  f166 := Try.func91.trans (congrArg some (by kernel_rfl))
  f240 := Try.func103.trans (congrArg some (by kernel_rfl))
  f276 := Try.func116.trans (congrArg some (by kernel_rfl))
  t0 := Try.underlying0
  a0 := Try.isAgg0
  z0 := Try.sizeOf0
  v0 := Try.zeroValue0
  t3 := Try.underlying3
  a3 := Try.isAgg3
  z3 := Try.sizeOf3
  v3 := Try.zeroValue3
  t4 := Try.underlying4
  a4 := Try.isAgg4
  z4 := Try.sizeOf4
  v4 := Try.zeroValue4
  t9 := Try.underlying9
  a9 := Try.isAgg9
  z9 := Try.sizeOf9
  v9 := Try.zeroValue9
  t20 := Try.underlying20
  a20 := Try.isAgg20
  z20 := Try.sizeOf20
  v20 := Try.zeroValue20
  t37 := Try.underlying39
  a37 := Try.isAgg39
  z37 := Try.sizeOf39
  v37 := Try.zeroValue39
  t70 := Try.underlying102
  a70 := Try.isAgg102
  z70 := Try.sizeOf102
  v70 := Try.zeroValue102
  t72 := Try.underlying104
  a72 := Try.isAgg104
  z72 := Try.sizeOf104
  v72 := Try.zeroValue104
  t75 := Try.underlying106
  a75 := Try.isAgg106
  z75 := Try.sizeOf106
  v75 := Try.zeroValue106
  t164 := Try.underlying127
  a164 := Try.isAgg127
  z164 := Try.sizeOf127
  v164 := Try.zeroValue127 }
theorem Try.Builder_Extra_166 : Builder.Extra Try.prog Try.lays166_ren := {
  sizeBuilder := by kernel_rfl
  liesBuilder := by kernel_rfl
  t5 := Try.underlying5
  a5 := Try.isAgg5
  z5 := Try.sizeOf5
  v5 := Try.zeroValue5
  infoByte := by kernel_rfl
  cellsByte := by kernel_rfl
  sizeByte := by kernel_rfl
  neB5 := by decide }
open Go.RowKit in
theorem Try.Builder_WriteString (B b : Nat) (bs : List Value) (s : ByteArray) (w : World) (h : Lib.IsBuilder 104 5 B b bs w) (hlen : bs.length + s.size ≤ 140737488355328) (hBw : B ≤ w.heap.size) :
    Calls Try.prog 91 #[.pointer (some ⟨b, 0, none⟩), .string s] w fun e w' => e = .returned (.tuple #[.int .i64 s.size, .nilIface]) ∧ (Lib.BuilderAt 104 5 B b (.pointer (some ⟨b, 0, none⟩)) (bs ++ Lib.strCells s) w' ∧ Below B w w') := Any.Builder_WriteString Try.lays166 Try.Builder_Extra_166 B b bs s w h hlen hBw
end Go.Proofs
end
section
namespace Go.Proofs.Ytenlmckahaniiaa.K
open Go Go.Proofs Go.Shelf Go.RowKit Go.Lib Go.Sort Go.Proofs.YtW.P Go.Proofs.YtW.L
def lofs (xs : List ByteArray) : List (List UInt8) := xs.map fun s => s.data.toList
def sofl (l : List (List UInt8)) : List ByteArray := l.map fun s => ⟨s.toArray⟩
theorem encs_lofs (xs : List ByteArray) : encs Value.string xs = (lofs xs).map encStr := by
  unfold encs lofs
  rw [List.map_map]
  apply List.map_congr_left
  intro s _
  simp
theorem encs_sofl (l : List (List UInt8)) : encs Value.string (sofl l) = l.map encStr := by
  unfold encs sofl
  rw [List.map_map]
  rfl
theorem y33 (xs : List ByteArray) : (lofs xs).length = xs.length := List.length_map _
theorem y57 (l : List (List UInt8)) : (sofl l).length = l.length := List.length_map _
theorem sofl_lofs (xs : List ByteArray) : sofl (lofs xs) = xs := by
  unfold sofl lofs
  rw [List.map_map]
  conv => rhs; rw [← List.map_id xs]
  apply List.map_congr_left
  intro s _
  simp
theorem lofs_sofl (l : List (List UInt8)) : lofs (sofl l) = l := by
  unfold sofl lofs
  rw [List.map_map]
  conv => rhs; rw [← List.map_id l]
  apply List.map_congr_left
  intro s _
  simp
def sortL (l : List (List UInt8)) : List (List UInt8) := l.mergeSort fun x y => decide (x ≤ y)
def sortS (xs : List ByteArray) : List ByteArray := sofl (sortL (lofs xs))
def compS (xs : List ByteArray) : List ByteArray := sofl (Lib.compact (lofs xs))
theorem y58 (l : List (List UInt8)) : (sortL l).length = l.length := List.length_mergeSort l
theorem sortS_length (xs : List ByteArray) : (sortS xs).length = xs.length := by unfold sortS; rw [y57, y58, y33]
theorem y1j (l : List (List UInt8)) : (Lib.compact l).length ≤ l.length := by
  unfold Lib.compact Lib.compactUpTo
  rw [List.length_map]
  exact Nat.le_trans (List.length_filter_le _ _) (by simp)
theorem below_row {w0 w : World} {g n : Nat} {os : Array Obj} (d : Array (List UInt8)) (h : Below w0.heap.size w0 w) (hg : w0.heap.size ≤ g) : Below w0.heap.size w0 (grow (putRow encStr (Sort.ahead w n) g 0 d) os) := by
  have hgr := grownBy_sorted (w := w) (g := g) (n := n) (os := os) d
  exact h.grown hgr h.size (fun j hj => by cases hj; exact hg)
theorem sort_step {v : Value} {xs : List ByteArray} {w wc : World} (hR : Kd.R Kd.string 9 wc w.heap.size (fun _ => True) v xs) (hB : Below w.heap.size w wc) (hlen : xs.length ≤ 8796093022208) :
    Calls Try.prog 70 #[v] wc fun e w' => e = .returned (.tuple #[]) ∧ Kd.R Kd.string 9 w' w.heap.size (fun _ => True) v (sortS xs) ∧ Below w.heap.size w w' := by
  have ho := Kd.own_of_R hR
  rw [encs_lofs] at ho
  obtain ⟨hl, ho⟩ := ho
  rcases ho with ⟨rfl, h0⟩ | ⟨g, cap, cur, rfl, hbase, hg, h1, h2, h3, h4⟩
  · obtain rfl : xs = [] := List.eq_nil_of_length_eq_zero h0
    refine (Try.slices_Sort_string_none none 0 wc).mono ?_
    rintro e w' ⟨rfl, rfl⟩
    exact ⟨rfl, by rw [show sortS [] = [] by simp [sortS, sortL, lofs, sofl]]; exact Kd.R_nil _ _ _ _ _, hB⟩
  · have hgs : g < wc.heap.size := (Array.getElem?_eq_some_iff.1 hg).1
    have hH : Holds encStr wc g 0 (lofs xs).toArray := holds_of_block hg (by rw [y33, ← Nat.mul_one xs.length]; exact h4)
    have hc := Try.slices_Sort_string g 0 cap (lofs xs) wc hH hgs (by rw [y33]; omega)
    rw [y33] at hc
    refine hc.mono ?_
    rintro e w' ⟨rfl, n, os, rfl⟩
    refine ⟨rfl, ?_, below_row _ hB hbase⟩
    have hls : (sortL (lofs xs)).length = (lofs xs).length := y58 _
    have hown := ownsRow_sorted (n := n) (os := os) hls hbase hg (by rw [y33]; exact h1) h2 h3
    rw [y33, ← encs_sofl] at hown
    have hsl : (sortS xs).length = xs.length := by unfold sortS; rw [y57, y58, y33]
    have := Kd.R_of_own (enc := Value.string) (h1 := fun _ => rfl) (xs := sortS xs) (ok := fun _ => True) (by rw [hsl]; exact hown) (fun _ _ => trivial)
    exact this
theorem take_put2 (cur : Array Value) (ts us : List (List UInt8)) (h : ts.length + us.length ≤ cur.size) : (putCells encStr 0 (ts ++ us).toArray cur).toList.take ts.length = ts.map encStr := by
  have h2 := take_putCells cur (ts ++ us) (by rw [List.length_append]; exact h)
  have h3 := congrArg (List.take ts.length) h2
  rw [List.take_take, List.length_append, Nat.min_eq_left (Nat.le_add_right _ _)] at h3
  rw [h3, List.map_append, List.take_left' (List.length_map _)]
theorem compact_step {v : Value} {xs : List ByteArray} {w wc : World} (hR : Kd.R Kd.string 9 wc w.heap.size (fun _ => True) v xs) (hB : Below w.heap.size w wc) (hlen : xs.length ≤ 8796093022208) :
    Calls Try.prog 71 #[v] wc fun e w' => ∃ v' : Value, e = .returned v' ∧ Kd.R Kd.string 9 w' w.heap.size (fun _ => True) v' (compS xs) ∧ Below w.heap.size w w' := by
  have ho := Kd.own_of_R hR
  rw [encs_lofs] at ho
  obtain ⟨hl, ho⟩ := ho
  rcases ho with ⟨rfl, h0⟩ | ⟨g, cap, cur, rfl, hbase, hg, h1, h2, h3, h4⟩
  · obtain rfl : xs = [] := List.eq_nil_of_length_eq_zero h0
    refine (Try.slices_Compact_string_empty none 0 wc).mono ?_
    rintro e w' ⟨rfl, rfl⟩
    exact ⟨_, rfl, by rw [show compS [] = [] by simp [compS, Lib.compact, Lib.compactUpTo, lofs, sofl]]; exact Kd.R_nil _ _ _ _ _, hB⟩
  · have hH : Holds encStr wc g 0 (lofs xs).toArray := holds_of_block hg (by rw [y33, ← Nat.mul_one xs.length]; exact h4)
    have hc := Try.slices_Compact_string g 0 cap (lofs xs) wc hH (by rw [y33]; omega) (by rw [y33]; exact h1)
    rw [y33] at hc
    refine hc.mono ?_
    rintro e w' ⟨rfl, q, rfl⟩
    have hle := y1j (lofs xs)
    rw [y33] at hle
    have hB2 := below_row (n := q) (os := #[]) (Lib.compact (lofs xs) ++ List.replicate (xs.length - (Lib.compact (lofs xs)).length) []).toArray hB hbase
    rw [grow_empty] at hB2
    refine ⟨_, rfl, ?_, hB2⟩
    have hsl : (compS xs).length = (Lib.compact (lofs xs)).length := by unfold compS; rw [y57]
    have hh := heap_sorted (n := q) (os := #[]) (Lib.compact (lofs xs) ++ List.replicate (xs.length - (Lib.compact (lofs xs)).length) []).toArray hg
    rw [grow_empty] at hh
    have := Kd.R_of_own (enc := Value.string) (h1 := fun _ => rfl) (xs := compS xs) (ok := fun _ => True) (e := 9) (base := w.heap.size) (v := .slice (some ⟨g, 0, none⟩) (Lib.compact (lofs xs)).length cap) (w := putRow encStr (Sort.ahead wc q) g 0 (Lib.compact (lofs xs) ++ List.replicate (xs.length - (Lib.compact (lofs xs)).length) []).toArray)
      (by
        rw [hsl]
        refine ⟨by rw [y1w, hsl, Nat.mul_one], .inr ⟨g, cap, _, rfl, hbase, hh, by omega, h2, by simp [putCells, h3], ?_⟩⟩
        unfold compS
        rw [encs_sofl, Nat.mul_one]
        refine take_put2 cur _ _ ?_
        rw [List.length_replicate]
        omega)
      (fun _ _ => trivial)
    exact this
end Go.Proofs.Ytenlmckahaniiaa.K
end
