/- Lemmas for several laws: what their proofs need of this seat's texts, in one place. -/
import Derived.Test.YtenlmckahaniiaaZcLe3
set_option linter.unusedVariables false
set_option linter.unusedSimpArgs false
set_option linter.unusedSectionVars false
set_option maxHeartbeats 8000000
set_option maxRecDepth 100000
section
namespace Go.Proofs.Ytenlmckahaniiaa.K
open Go.RowKit Go.Proofs.YtW.P Go.Proofs.YtW.L
mutual
def zqn.j0 : Nat → Bool → ByteArray → ByteArray → ByteArray → Int → List (S62) → List (S43) → Option (Int)
  | 0, _, _, _, _, _, _, _ => none
  | k + 1, x36, x142000, x142001, x142002, x142003, x142004, x142005 => if x36 = true then (some 7) else (if ((x142001.size : Int) % 2) = 0 then (zqn.j1 k (decide (x142003 < 0)) x142000 x142001 x142002 x142003 x142004 x142005) else (zqn.j1 k true x142000 x142001 x142002 x142003 x142004 x142005))
def zqn.j1 : Nat → Bool → ByteArray → ByteArray → ByteArray → Int → List (S62) → List (S43) → Option (Int)
  | 0, _, _, _, _, _, _, _ => none
  | k + 1, x46, x142000, x142001, x142002, x142003, x142004, x142005 => if x46 = true then (some 1) else ((zqb.f k x142004).bind fun t143 => (if t143 = 0 then (zqn.l0 k 0 x142000 x142001 x142002 x142003 x142004 x142005 (-1) 0 0 nB_ false) else (some t143)))
def zqn.l0 : Nat → Int → ByteArray → ByteArray → ByteArray → Int → List (S62) → List (S43) → Int → Int → Int → ByteArray → Bool → Option (Int)
  | 0, _, _, _, _, _, _, _, _, _, _, _, _ => none
  | k + 1, x5, x142000, x142001, x142002, x142003, x142004, x142005, x145000, x145001, x145002, x145003, x145004 => if x5 < (x142005.length : Int) then (if 0 ≤ x5 then ((zqp.f k x142000 x142001 x142002 x142003 x142004 x142005 ((y4a x142005 x5).f0) ((y4a x142005 x5).f1) ((y4a x142005 x5).f2) ((y4a x142005 x5).f3) ((y4a x142005 x5).f4) x145000 x145001 x145002 x145003 x145004).bind fun t146 => (if t146 = 0 then (zqn.l0 k (wrap64 (x5 + 1)) x142000 x142001 x142002 x142003 x142004 x142005 ((y4a x142005 x5).f0) ((y4a x142005 x5).f1) ((y4a x142005 x5).f2) ((y4a x142005 x5).f3) ((y4a x142005 x5).f4)) else (some t146))) else (none)) else (some 0)
end
def zqn.f (k : Nat) (a0_0 : ByteArray) (a0_1 : ByteArray) (a0_2 : ByteArray) (a0_3 : Int) (l0_4 : List (S62)) (l0_5 : List (S43)) : Option (Int) := (zqh.f k a0_0).bind fun t142 => (if t142 = true then (if (a0_1.size : Int) > 16384 then (zqn.j0 k true a0_0 a0_1 a0_2 a0_3 l0_4 l0_5) else (if (a0_2.size : Int) > 16384 then (zqn.j0 k true a0_0 a0_1 a0_2 a0_3 l0_4 l0_5) else (if a0_3 > 16384 then (zqn.j0 k true a0_0 a0_1 a0_2 a0_3 l0_4 l0_5) else (if (l0_4.length : Int) > 256 then (zqn.j0 k true a0_0 a0_1 a0_2 a0_3 l0_4 l0_5) else (zqn.j0 k (decide ((l0_5.length : Int) > 2048)) a0_0 a0_1 a0_2 a0_3 l0_4 l0_5))))) else (some 4))
theorem zqn.mono_l : ∀ k, (∀ y0 y1 y2 y3 y4 y5 y6, LeO (zqn.j0 k y0 y1 y2 y3 y4 y5 y6) (zqn.j0 (k + 1) y0 y1 y2 y3 y4 y5 y6)) ∧ (∀ y0 y1 y2 y3 y4 y5 y6, LeO (zqn.j1 k y0 y1 y2 y3 y4 y5 y6) (zqn.j1 (k + 1) y0 y1 y2 y3 y4 y5 y6)) ∧ (∀ y0 y1 y2 y3 y4 y5 y6 y7 y8 y9 y10 y11, LeO (zqn.l0 k y0 y1 y2 y3 y4 y5 y6 y7 y8 y9 y10 y11) (zqn.l0 (k + 1) y0 y1 y2 y3 y4 y5 y6 y7 y8 y9 y10 y11))
 | 0 => ⟨fun _ _ _ _ _ _ _ r h => by simp [zqn.j0] at h, fun _ _ _ _ _ _ _ r h => by simp [zqn.j1] at h, fun _ _ _ _ _ _ _ _ _ _ _ _ r h => by simp [zqn.l0] at h⟩
 | k + 1 => by
  obtain ⟨ih0, ih1, ih2⟩ := zqn.mono_l k
  refine ⟨?_, ?_, ?_⟩
  ·intro y0 y1 y2 y3 y4 y5 y6
   unfold zqn.j0
   with_reducible repeat' first | apply ih0 | apply ih1 | apply ih2 | apply zqh.mono | apply zqp.mono | apply zqb.mono | exact LeO.refl _ | exact LeO.none _ | refine LeO.ite ?_ ?_ | refine LeO.bind ?_ (fun _ => ?_)
  ·intro y0 y1 y2 y3 y4 y5 y6
   unfold zqn.j1
   with_reducible repeat' first | apply ih0 | apply ih1 | apply ih2 | apply zqh.mono | apply zqp.mono | apply zqb.mono | exact LeO.refl _ | exact LeO.none _ | refine LeO.ite ?_ ?_ | refine LeO.bind ?_ (fun _ => ?_)
  ·intro y0 y1 y2 y3 y4 y5 y6 y7 y8 y9 y10 y11
   unfold zqn.l0
   with_reducible repeat' first | apply ih0 | apply ih1 | apply ih2 | apply zqh.mono | apply zqp.mono | apply zqb.mono | exact LeO.refl _ | exact LeO.none _ | refine LeO.ite ?_ ?_ | refine LeO.bind ?_ (fun _ => ?_)
theorem zqn.mono : ∀ a0 a1 a2 a3 a4 a5 k, LeO (zqn.f k a0 a1 a2 a3 a4 a5) (zqn.f (k + 1) a0 a1 a2 a3 a4 a5) := by
 intro a0 a1 a2 a3 a4 a5 k
 obtain ⟨ih0, ih1, ih2⟩ := zqn.mono_l k
 unfold zqn.f
 with_reducible repeat' first | apply ih0 | apply ih1 | apply ih2 | apply zqh.mono | apply zqp.mono | apply zqb.mono | exact LeO.refl _ | exact LeO.none _ | refine LeO.ite ?_ ?_ | refine LeO.bind ?_ (fun _ => ?_)
def zqn.T14 : Bool × List (List Nat × List Nat) := (true, [([], []), ([], []), ([1], [1]), ([], []), ([2, 3], [2, 3]), ([4], [4]), ([], []), ([0, 5, 6], [0, 5, 6]), ([7, 7, 0, 1, 2, 3, 4, 5, 6, 7], [7])])
def zqn.B14 : List Nat := [0, 0, 2, 0, 14, 30, 0, 127, 255]
theorem zqn.tab14 : rtab .any (opsOf Try.f19 14) = zqn.T14 := by kernel_rfl
theorem zqn.bits14 : waitsOk zqn.T14.2 zqn.B14 = true := by kernel_rfl
theorem zqn.calls (k : Nat) (aL : ByteArray) (aM : ByteArray) (aN : ByteArray) (aP : Int) (a1 : Option Addr) (aY : Nat) (aK : List (S62)) (a7 : Option Addr) (a5 : Nat) (aC : List (S43)) (r : Int) (w : World) (bM : Kd.C k62 w a1 aK.length aK) (bO : aK.length ≤ aY) (bN : Kd.C k43 w a7 aC.length aC) (bL : aC.length ≤ a5) (h : zqn.f k aL aM aN aP aK aC = some r) :
  Calls Try.prog 19 #[.agg #[.string aL, .string aM, .string aN, .int .i64 aP, .slice a1 aK.length aY, .slice a7 aC.length a5]] w fun e w' => e = .returned (.int .i64 r) ∧ Below w.heap.size w w' := by
 have iY := Try.underlying25
 have i0 := Try.underlying43
 have bE := q_ bM
 have bH := q_ bO
 clear bM bO
 have a8 := q_ bN
 have bP := q_ bL
 clear bN bL
 have HB := q_ (Below.refl w.heap.size w)
 have H : ((zqh.f k aL).bind fun bW => (if bW = true then (if (aM.size : Int) > 16384 then (zqn.j0 k true aL aM aN aP aK aC) else (if (aN.size : Int) > 16384 then (zqn.j0 k true aL aM aN aP aK aC) else (if aP > 16384 then (zqn.j0 k true aL aM aN aP aK aC) else (if (aK.length : Int) > 256 then (zqn.j0 k true aL aM aN aP aK aC) else (zqn.j0 k (decide ((aC.length : Int) > 2048)) aL aM aN aP aK aC))))) else (some 4))) = some r := h
 clear h
 obtain ⟨bW, A2, H⟩ := bq_ H
 (try dsimp only at H)
 by_cases c3 : bW = true
 rotate_left
 ·replace c3 := Bool.eq_false_iff.mpr c3
  subst c3
  rw [if_neg (show ¬ (false = true) by decide)] at H
  obtain rfl := Option.some.inj H
  go_enter Try.func19, Try.ntmps19
  go_wp2_with (first | (refine gd_ 1 ?_; (try (refine y23 (by rfl) ?_; dsimp only)); refine bx_ 1 (cs := #[.string aL, .string aM, .string aN, .int .i64 aP, .slice a1 aK.length aY, .slice a7 aC.length a5]) 25 ?_; intro aO hg i5 hbox hb; have aA := q_ (hbox); have cD := gw_ w hg (y0j hb_); have b9 := gw_ w hg (y0j hb_); replace HB := q_ (y0k hb_ hb); clear hb hbox hg; obtain ⟨dX, f7, eD, dD, eM, eJ, cG, hA, g5, dF, dB, e8⟩ := b6_ aA.out) | (refine gc_ 51 ?_; refine gl_ (some 8) Try.func51 #[.string aL] ?_; (with_reducible refine (zqh.calls k aL false _ A2.out).mono ?_); rintro e w' ⟨rfl, ⟨nd, rfl⟩⟩; refine ⟨_, rfl, ?_⟩))
  go_ret
  exact ⟨ew_, hb_⟩
 subst c3
 rw [if_pos rfl] at H
 have h9 := q_ H
 clear H
 go_enter Try.func19, Try.ntmps19
 go_upto_region 3 with (first | (refine gd_ 1 ?_; (try (refine y23 (by rfl) ?_; dsimp only)); refine bx_ 1 (cs := #[.string aL, .string aM, .string aN, .int .i64 aP, .slice a1 aK.length aY, .slice a7 aC.length a5]) 25 ?_; intro aO hg w5 hbox hb; have aA := q_ (hbox); have cD := gw_ w hg (y0j hb_); have b9 := gw_ w hg (y0j hb_); replace HB := q_ (y0k hb_ hb); clear hb hbox hg; obtain ⟨h8, iC, h3, hY, h1, iB, h0, h2, iA, hX, hS, iG⟩ := b6_ aA.out) | (refine gc_ 51 ?_; refine gl_ (some 8) Try.func51 #[.string aL] ?_; (with_reducible refine (zqh.calls k aL true _ A2.out).mono ?_); rintro e w' ⟨rfl, ⟨nd, rfl⟩⟩; refine ⟨_, rfl, ?_⟩))
 (try simp only [Act.put, List.setIfInBounds_toArray, List.set_cons_zero, List.set_cons_succ])
 go_cut [36] (fun i1 wc => ∃ (kq : Nat) (bG : Bool), i1 = .bool bG ∧ Aside0 (zqn.j0 kq bG aL aM aN aP aK aC = some r) ∧ Aside0 (kq ≤ k) ∧ Aside0 (wc.heap[aO]? = some (.cells #[.string aL, .string aM, .string aN, .int .i64 aP, (.slice a1 aK.length aY), (.slice a7 aC.length a5)] 25 (0, 0))) ∧ Aside0 (Below w.heap.size w wc))
 case first =>
  have H := h9.out
  clear h9
  by_cases c7 : (aM.size : Int) > 16384
  ·rw [if_pos c7] at H
   have bK := dt_ c7
   have hV : decide (16384 < aM.size) = true := decide_eq_true (by omega)
   clear c7
   (first | rw [bK] | (simp only [y2h, y2g]; rw [bK]) | skip)
   have H' := q_ H
   clear H
   obtain ⟨hW, hQ, hP, iF, h4, hR, iD, h7, hU, hT, hZ, h6⟩ := b6_ aA.out
   go_wp2
   go_meet
   case rel => exact ⟨_, (true), cl_, H', ⟨oz_⟩, ⟨bk_ aA.out⟩, ⟨hb_⟩⟩
  rw [if_neg c7] at H
  have bK := df_ c7
  have hV : decide (16384 < aM.size) = false := decide_eq_false (by omega)
  clear c7
  (first | rw [bK] | (simp only [y2h, y2g]; rw [bK]) | skip)
  by_cases c9 : (aN.size : Int) > 16384
  ·rw [if_pos c9] at H
   have iH := dt_ c9
   have iE : decide (16384 < aN.size) = true := decide_eq_true (by omega)
   clear c9
   have H' := q_ H
   clear H
   obtain ⟨eR, fO, eO, fA, fJ, e6, d9, d8, eE, cY, eL, eV⟩ := b6_ aA.out
   go_wp2
   go_meet
   case rel => exact ⟨_, (true), cl_, H', ⟨oz_⟩, ⟨bk_ aA.out⟩, ⟨hb_⟩⟩
  rw [if_neg c9] at H
  have iH := df_ c9
  have iE : decide (16384 < aN.size) = false := decide_eq_false (by omega)
  clear c9
  by_cases b2 : aP > 16384
  ·rw [if_pos b2] at H
   have cC := dt_ b2
   clear b2
   have H' := q_ H
   clear H
   obtain ⟨dU, eW, eH, fE, dN, g4, dK, e9, eN, cK, d5, eF⟩ := b6_ aA.out
   go_wp2
   go_meet
   case rel => exact ⟨_, (true), cl_, H', ⟨oz_⟩, ⟨bk_ aA.out⟩, ⟨hb_⟩⟩
  rw [if_neg b2] at H
  have cC := df_ b2
  clear b2
  by_cases b0 : (aK.length : Int) > 256
  ·rw [if_pos b0] at H
   have b8 := dt_ b0
   have cE : decide (256 < aK.length) = true := decide_eq_true (by omega)
   clear b0
   have H' := q_ H
   clear H
   obtain ⟨fQ, cQ, gB, cO, e5, fM, eI, dV, eK, fB, gP, gE⟩ := b6_ aA.out
   go_wp2
   go_meet
   case rel => exact ⟨_, (true), cl_, H', ⟨oz_⟩, ⟨bk_ aA.out⟩, ⟨hb_⟩⟩
  rw [if_neg b0] at H
  have b8 := df_ b0
  have cE : decide (256 < aK.length) = false := decide_eq_false (by omega)
  clear b0
  have H' := q_ H
  clear H
  obtain ⟨e1, fW, f9, hN, fK, fR, hO, eA, c8, cL, eB, gK⟩ := b6_ aA.out
  go_wp2
  go_meet
  case rel => exact ⟨_, (decide ((aC.length : Int) > 2048)), cl_, H', ⟨oz_⟩, ⟨bk_ aA.out⟩, ⟨hb_⟩⟩
 clear h9
 obtain ⟨kq, bG, rfl, HA, fF, aA, HB⟩ := hcut
 obtain _ | kj3 := kq
 ·exact nn_ HA
 have H := HA.out
 clear HA
 simp only [zqn.j0] at H
 by_cases hG : bG = true
 ·subst hG
  rw [if_pos rfl] at H
  obtain rfl := Option.some.inj H
  go_wp2
  go_ret
  exact ⟨ew_, hb_⟩
 replace hG := Bool.eq_false_iff.mpr hG
 subst hG
 rw [if_neg (show ¬ (false = true) by decide)] at H
 have bR := q_ H
 clear H
 go_upto_region 5 with (fail)
 go_cut [46] (fun iZ wc => ∃ (kq : Nat) (a6 : Bool), iZ = .bool a6 ∧ Aside0 (zqn.j1 kq a6 aL aM aN aP aK aC = some r) ∧ Aside0 (kq ≤ kj3) ∧ Aside0 (wc.heap[aO]? = some (.cells #[.string aL, .string aM, .string aN, .int .i64 aP, (.slice a1 aK.length aY), (.slice a7 aC.length a5)] 25 (0, 0))) ∧ Aside0 (Below w.heap.size w wc))
 case first =>
  have H := bR.out
  clear bR
  by_cases bT : ((aM.size : Int) % 2) = 0
  rotate_left
  ·rw [if_neg bT] at H
   have a9 := ef_ bT
   have cA := nt_ bT
   (first | rw [a9] | (simp only [y2h, y2g]; rw [a9]) | skip)
   have H' := q_ H
   clear H
   obtain ⟨hD, gW, gT, dI, cX, g0, dG, dE, dQ, fH, c5, dS⟩ := b6_ aA.out
   go_wp2
   go_meet
   case rel => exact ⟨_, (true), cl_, H', ⟨by have := fF.out; first | omega | exact Nat.le_refl _⟩, ⟨bk_ aA.out⟩, ⟨hb_⟩⟩
  rw [if_pos bT] at H
  have a9 := et_ bT
  have cA := nf_ bT
  clear bT
  (first | rw [a9] | (simp only [y2h, y2g]; rw [a9]) | skip)
  have H' := q_ H
  clear H
  obtain ⟨eC, eU, dA, g8, hB, fL, gU, fP, d7, cR, fD, d1⟩ := b6_ aA.out
  go_wp2
  go_meet
  case rel => exact ⟨_, (decide (aP < 0)), cl_, H', ⟨by have := fF.out; first | omega | exact Nat.le_refl _⟩, ⟨bk_ aA.out⟩, ⟨hb_⟩⟩
 clear bR
 obtain ⟨kq, a6, rfl, HA, b5, aA, HB⟩ := hcut
 obtain _ | kj16 := kq
 ·exact nn_ HA
 have H := HA.out
 clear HA
 simp only [zqn.j1] at H
 by_cases gI : a6 = true
 ·subst gI
  rw [if_pos rfl] at H
  obtain rfl := Option.some.inj H
  go_wp2
  go_ret
  exact ⟨ew_, hb_⟩
 replace gI := Bool.eq_false_iff.mpr gI
 subst gI
 rw [if_neg (show ¬ (false = true) by decide)] at H
 obtain ⟨bQ, iO, H⟩ := bq_ H
 (try dsimp only at H)
 by_cases bZ : bQ = 0
 rotate_left
 ·rw [if_neg bZ] at H
  have b6 := ef_ bZ
  have cB := nt_ bZ
  obtain rfl := Option.some.inj H
  obtain ⟨g2, gF, d2, eQ, eY, hE, gN, gZ, fV, cH, eS, fC⟩ := b6_ aA.out
  go_wp2_with (first | (refine gc_ 52 ?_; refine gl_ (some 49) Try.func52 #[.slice a1 aK.length aY] ?_; (with_reducible refine (zqb.calls kj16 _ _ aK bQ _ ?side1 ?side2 iO.out).mono ?_); (case side1 => exact ck_ (Kd.C_below bE.out HB.out)); (case side2 => exact bH.out); rintro e w' ⟨rfl, ⟨nd, rfl⟩⟩; refine ⟨_, rfl, ?_⟩))
  go_ret
  exact ⟨ew_, hb_⟩
 rw [if_pos bZ] at H
 have b6 := et_ bZ
 have cB := nf_ bZ
 clear bZ
 have H' := q_ H
 clear H
 obtain ⟨gV, cV, gH, gJ, dO, c1, gG, gA, eZ, gM, cP, gO⟩ := b6_ aA.out
 go_wp2_with (first | (refine gc_ 52 ?_; refine gl_ (some 49) Try.func52 #[.slice a1 aK.length aY] ?_; (with_reducible refine (zqb.calls kj16 _ _ aK bQ _ ?side1 ?side2 iO.out).mono ?_); (case side1 => exact ck_ (Kd.C_below bE.out HB.out)); (case side2 => exact bH.out); rintro e w' ⟨rfl, ⟨nd, rfl⟩⟩; refine ⟨_, rfl, ?_⟩; (try (rw [y1u wc]; generalize hq_ : World.drewN wc _ = wc; have iU : Aside0 (wc.heap[aO]? = some (.cells #[.string aL, .string aM, .string aN, .int .i64 aP, .slice a1 aK.length aY, .slice a7 aC.length a5] 25 (0, 0))) := ⟨by rw [← hq_]; exact (bk_ aA.out)⟩; have iJ : Aside0 (Below w.heap.size w wc) := ⟨by rw [← hq_]; exact hb_⟩; clear aA HB hq_; have aA := iU; have HB := iJ; clear iU iJ))) | (refine gd_ 4 ?_; (try (refine y23 (by rfl) ?_; dsimp only)); refine bx_ 4 (cs := #[.int .i64 0, .int .i64 0, .int .i64 0, .string nB_, .bool false]) 43 ?_; intro aV hg i3 hbox hb; have aD := q_ (hbox); have iL := gw_ w hg (y0j hb_); have iM := gw_ w hg (y0j hb_); replace HB := q_ (y0k hb_ hb); have aX := nl_ hg (bk_ aA.out); have aW := ng_ hg (bk_ aA.out); replace aA := q_ (y0n (bk_ aA.out) hb); clear hb hbox hg; have iT := aW.out; have iX := aX.out; obtain ⟨g9, d6, hJ, fI, fX, cW, fY, fT, c4, dM⟩ := b5_ aD.out))
 go_loopg [5] kj16 (fun kq v5 w' => ∃ (aB : Int) (aF : Int) (aG : Int) (aH : Int) (aJ : ByteArray) (aI : Bool), v5 = .int .i64 aB ∧ Aside0 (zqn.l0 kq aB aL aM aN aP aK aC aF aG aH aJ aI = some r) ∧ Aside0 (kq ≤ kj16) ∧ Aside0 (w'.heap[aO]? = some (.cells #[.string aL, .string aM, .string aN, .int .i64 aP, (.slice a1 aK.length aY), (.slice a7 aC.length a5)] 25 (0, 0))) ∧ Aside0 (w'.heap[aV]? = some (.cells #[.int .i64 aF, .int .i64 aG, .int .i64 aH, .string aJ, .bool aI] 43 (0, 0))) ∧ Aside0 (Below w.heap.size w w'))
 case atStart => exact ⟨(0), ((-1)), (0), (0), (nB_), (false), cl_, H', ⟨Nat.le_refl _⟩, ⟨bs_ aA.out⟩, ⟨bs_ aD.out⟩, ⟨hb_⟩⟩
 case round =>
  clear H'
  obtain ⟨aB, aF, aG, aH, aJ, aI, rfl, HA, iS, aA, aD, HB⟩ := hrel
  obtain _ | k3 := gk
  ·exact nn_ HA
  have H := HA.out
  clear HA
  simp only [zqn.l0] at H
  by_cases b1 : aB < (aC.length : Int)
  rotate_left
  ·rw [if_neg b1] at H
   have b7 := df_ b1
   clear b1
   obtain rfl := Option.some.inj H
   have iP := aX.out
   have iR := aW.out
   obtain ⟨hI, cI, f8, g7, fS, cJ, gQ, g3, e3, c2, fG, hH⟩ := b6_ aA.out
   go_wp2
   go_ret
   exact ⟨ew_, hb_⟩
  rw [if_pos b1] at H
  have b7 := dt_ b1
  clear b1
  by_cases hL : 0 ≤ aB
  rotate_left
  ·rw [if_neg hL] at H
   exact absurd H (by simp)
  rw [if_pos hL] at H
  have iI := dt_ hL
  clear hL
  obtain ⟨bY, iK, H⟩ := bq_ H
  (try dsimp only at H)
  by_cases bX : bY = 0
  rotate_left
  ·rw [if_neg bX] at H
   have b3 := ef_ bX
   have b4 := nt_ bX
   obtain rfl := Option.some.inj H
   have iW := aX.out
   have iQ := aW.out
   obtain ⟨cZ, dL, hC, g1, cN, d0, eX, g6, gD, gR, dJ, eT⟩ := b6_ aA.out
   try go_wp2
   replace aA := q_ (y0p aA.out)
   replace aD := q_ (y0p aD.out)
   replace HB := q_ (y0h HB.out)
   have bA : 0 ≤ (aB : Int) := oa_
   have bB : aB < (aC.length : Int) := oa_
   obtain ⟨aE, bS, aT, aR, aU, aS, aQ⟩ := y0d a8.out aB bA bB
   have a4 := aQ
   have aZ := aS
   have a3 := aU
   have a2 := aR
   have a0 := aT
   cases bS
   replace aT := cb_ HB.out aT
   replace aR := cb_ HB.out aR
   replace aU := cb_ HB.out aU
   replace aS := cb_ HB.out aS
   replace aQ := cb_ HB.out aQ
   replace bA := eq_true bA
   replace bB := eq_true bB
   refine start_ (n := 9) (S := fun w' => w'.cell? ⟨aO, 0, none⟩ = some (.string aL) ∧ w'.cell? ⟨aO, 1, none⟩ = some (.string aM) ∧ w'.cell? ⟨aO, 2, none⟩ = some (.string aN) ∧ w'.cell? ⟨aO, 3, none⟩ = some (.int .i64 aP) ∧ w'.cell? ⟨aO, 4, none⟩ = some (.slice a1 aK.length aY) ∧ w'.cell? ⟨aO, 5, none⟩ = some (.slice (some aE) aC.length a5) ∧ w'.cell? ⟨aV, 0, none⟩ = some (.int .i64 aF) ∧ w'.cell? ⟨aV, 1, none⟩ = some (.int .i64 aG) ∧ w'.cell? ⟨aV, 2, none⟩ = some (.int .i64 aH) ∧ w'.cell? ⟨aV, 3, none⟩ = some (.string aJ) ∧ w'.cell? ⟨aV, 4, none⟩ = some (.bool aI) ∧ w'.cell? (aE.add ((aB).toNat * 5)) = some (.int .i64 ((y4a aC aB).f0)) ∧ w'.cell? ⟨(aE.add ((aB).toNat * 5)).block, (aE.add ((aB).toNat * 5)).off + 1, none⟩ = some (.int .i64 ((y4a aC aB).f1)) ∧ w'.cell? ⟨(aE.add ((aB).toNat * 5)).block, (aE.add ((aB).toNat * 5)).off + 2, none⟩ = some (.int .i64 ((y4a aC aB).f2)) ∧ w'.cell? ⟨(aE.add ((aB).toNat * 5)).block, (aE.add ((aB).toNat * 5)).off + 3, none⟩ = some (.string ((y4a aC aB).f3)) ∧ w'.cell? ⟨(aE.add ((aB).toNat * 5)).block, (aE.add ((aB).toNat * 5)).off + 4, none⟩ = some (.bool ((y4a aC aB).f4))) (ds := []) #[false, false, false, false, false, false, false, false, false] (by kernel_rfl) rfl rfl ⟨(y0o aA.out 0).trans rfl, (y0o aA.out 1).trans rfl, (y0o aA.out 2).trans rfl, (y0o aA.out 3).trans rfl, (y0o aA.out 4).trans rfl, (y0o aA.out 5).trans rfl, (y0o aD.out 0).trans rfl, (y0o aD.out 1).trans rfl, (y0o aD.out 2).trans rfl, (y0o aD.out 3).trans rfl, (y0o aD.out 4).trans rfl, (cb_ HB.out a0), (cb_ HB.out a2), (cb_ HB.out a3), (cb_ HB.out aZ), (cb_ HB.out a4)⟩ (fun hHeld => ?_); refine y5o zqn.tab14 zqn.bits14 (fun HT_ HW_ => ?_)
   generalize wr.drew = i4 at aA aD HB aT aR aU aS aQ hHeld ⊢
   refine pv_ 1 (some 62) (fl 9 2) ?_
   refine pv_ 3 (some 64) (fl 9 10) ?_
   refine tv_ 0 (some 61) (fl 9 11) ?_
   refine tv_ 2 (some 63) (fl 9 15) ?_
   refine pv_ 4 (some 65) (fl 9 31) ?_
   refine tv_ 5 (some 66) (fl 9 63) ?_
   refine tv_ 6 (some 67) (fl 9 127) ?_
   refine one_ (i := 7) (N := some 68) (fl 9 255) rfl rfl (y3l HT_.out (by kernel_rfl)) (by decide) (fun K hK => ?_)
   refine gs_ Try.func53 #[.agg #[.string aL, .string aM, .string aN, .int .i64 aP, .slice a1 aK.length aY, .slice (some aE) aC.length a5], .agg #[.int .i64 ((y4a aC aB).f0), .int .i64 ((y4a aC aB).f1), .int .i64 ((y4a aC aB).f2), .string ((y4a aC aB).f3), .bool ((y4a aC aB).f4)], .agg #[.int .i64 aF, .int .i64 aG, .int .i64 aH, .string aJ, .bool aI]] ?_
   with_reducible refine (zqp.calls k3 aL aM aN aP _ _ aK _ _ aC ((y4a aC aB).f0) ((y4a aC aB).f1) ((y4a aC aB).f2) ((y4a aC aB).f3) ((y4a aC aB).f4) aF aG aH aJ aI bY _ ?side1 ?side2 ?side3 ?side4 iK.out).mono ?_
   (case side1 => exact ck_ (Kd.C_below bE.out HB.out))
   (case side2 => exact bH.out)
   (case side3 => exact ck_ (Kd.C_below a8.out HB.out))
   (case side4 => exact bP.out)
   rintro e i2 ⟨rfl, hb⟩
   refine ⟨_, rfl, ?_⟩
   replace aA := q_ (y0n (bk_ aA.out) hb)
   replace aD := q_ (y0n (bk_ aD.out) hb)
   replace HB := q_ (y0k hb_ hb)
   refine hK.out _ _ ⟨(y0o aA.out 0).trans rfl, (y0o aA.out 1).trans rfl, (y0o aA.out 2).trans rfl, (y0o aA.out 3).trans rfl, (y0o aA.out 4).trans rfl, (y0o aA.out 5).trans rfl, (y0o aD.out 0).trans rfl, (y0o aD.out 1).trans rfl, (y0o aD.out 2).trans rfl, (y0o aD.out 3).trans rfl, (y0o aD.out 4).trans rfl, (cb_ HB.out a0), (cb_ HB.out a2), (cb_ HB.out a3), (cb_ HB.out aZ), (cb_ HB.out a4)⟩ (fun hHeld => ?_)
   clear hK K
   refine no_ (N := some 68) ?_
   refine pv_ 8 (some 3) (fl 9 511) ?_
   refine done_ (y1s HT_.out (by kernel_rfl)) ?_
   try go_wp2
   go_ret
   exact ⟨ew_, hb_⟩
  rw [if_pos bX] at H
  have b3 := et_ bX
  have b4 := nf_ bX
  clear bX
  have H' := q_ H
  clear H
  have iN := aX.out
  have iV := aW.out
  obtain ⟨eG, f6, dT, d4, gL, dP, d3, dH, dW, e7, e0, gX⟩ := b6_ aA.out
  try go_wp2
  replace aA := q_ (y0p aA.out)
  replace aD := q_ (y0p aD.out)
  replace HB := q_ (y0h HB.out)
  have bA : 0 ≤ (aB : Int) := oa_
  have bB : aB < (aC.length : Int) := oa_
  obtain ⟨aE, bS, aT, aR, aU, aS, aQ⟩ := y0d a8.out aB bA bB
  have a4 := aQ
  have aZ := aS
  have a3 := aU
  have a2 := aR
  have a0 := aT
  cases bS
  replace aT := cb_ HB.out aT
  replace aR := cb_ HB.out aR
  replace aU := cb_ HB.out aU
  replace aS := cb_ HB.out aS
  replace aQ := cb_ HB.out aQ
  replace bA := eq_true bA
  replace bB := eq_true bB
  refine start_ (n := 9) (S := fun w' => w'.cell? ⟨aO, 0, none⟩ = some (.string aL) ∧ w'.cell? ⟨aO, 1, none⟩ = some (.string aM) ∧ w'.cell? ⟨aO, 2, none⟩ = some (.string aN) ∧ w'.cell? ⟨aO, 3, none⟩ = some (.int .i64 aP) ∧ w'.cell? ⟨aO, 4, none⟩ = some (.slice a1 aK.length aY) ∧ w'.cell? ⟨aO, 5, none⟩ = some (.slice (some aE) aC.length a5) ∧ w'.cell? ⟨aV, 0, none⟩ = some (.int .i64 aF) ∧ w'.cell? ⟨aV, 1, none⟩ = some (.int .i64 aG) ∧ w'.cell? ⟨aV, 2, none⟩ = some (.int .i64 aH) ∧ w'.cell? ⟨aV, 3, none⟩ = some (.string aJ) ∧ w'.cell? ⟨aV, 4, none⟩ = some (.bool aI) ∧ w'.cell? (aE.add ((aB).toNat * 5)) = some (.int .i64 ((y4a aC aB).f0)) ∧ w'.cell? ⟨(aE.add ((aB).toNat * 5)).block, (aE.add ((aB).toNat * 5)).off + 1, none⟩ = some (.int .i64 ((y4a aC aB).f1)) ∧ w'.cell? ⟨(aE.add ((aB).toNat * 5)).block, (aE.add ((aB).toNat * 5)).off + 2, none⟩ = some (.int .i64 ((y4a aC aB).f2)) ∧ w'.cell? ⟨(aE.add ((aB).toNat * 5)).block, (aE.add ((aB).toNat * 5)).off + 3, none⟩ = some (.string ((y4a aC aB).f3)) ∧ w'.cell? ⟨(aE.add ((aB).toNat * 5)).block, (aE.add ((aB).toNat * 5)).off + 4, none⟩ = some (.bool ((y4a aC aB).f4))) (ds := []) #[false, false, false, false, false, false, false, false, false] (by kernel_rfl) rfl rfl ⟨(y0o aA.out 0).trans rfl, (y0o aA.out 1).trans rfl, (y0o aA.out 2).trans rfl, (y0o aA.out 3).trans rfl, (y0o aA.out 4).trans rfl, (y0o aA.out 5).trans rfl, (y0o aD.out 0).trans rfl, (y0o aD.out 1).trans rfl, (y0o aD.out 2).trans rfl, (y0o aD.out 3).trans rfl, (y0o aD.out 4).trans rfl, (cb_ HB.out a0), (cb_ HB.out a2), (cb_ HB.out a3), (cb_ HB.out aZ), (cb_ HB.out a4)⟩ (fun hHeld => ?_); refine y5o zqn.tab14 zqn.bits14 (fun HT_ HW_ => ?_)
  generalize wr.drew = i6 at aA aD HB aT aR aU aS aQ hHeld ⊢
  refine pv_ 1 (some 62) (fl 9 2) ?_
  refine pv_ 3 (some 64) (fl 9 10) ?_
  refine tv_ 0 (some 61) (fl 9 11) ?_
  refine tv_ 2 (some 63) (fl 9 15) ?_
  refine pv_ 4 (some 65) (fl 9 31) ?_
  refine tv_ 5 (some 66) (fl 9 63) ?_
  refine tv_ 6 (some 67) (fl 9 127) ?_
  refine one_ (i := 7) (N := some 68) (fl 9 255) rfl rfl (y3l HT_.out (by kernel_rfl)) (by decide) (fun K hK => ?_)
  refine gs_ Try.func53 #[.agg #[.string aL, .string aM, .string aN, .int .i64 aP, .slice a1 aK.length aY, .slice (some aE) aC.length a5], .agg #[.int .i64 ((y4a aC aB).f0), .int .i64 ((y4a aC aB).f1), .int .i64 ((y4a aC aB).f2), .string ((y4a aC aB).f3), .bool ((y4a aC aB).f4)], .agg #[.int .i64 aF, .int .i64 aG, .int .i64 aH, .string aJ, .bool aI]] ?_
  with_reducible refine (zqp.calls k3 aL aM aN aP _ _ aK _ _ aC ((y4a aC aB).f0) ((y4a aC aB).f1) ((y4a aC aB).f2) ((y4a aC aB).f3) ((y4a aC aB).f4) aF aG aH aJ aI bY _ ?side1 ?side2 ?side3 ?side4 iK.out).mono ?_
  (case side1 => exact ck_ (Kd.C_below bE.out HB.out))
  (case side2 => exact bH.out)
  (case side3 => exact ck_ (Kd.C_below a8.out HB.out))
  (case side4 => exact bP.out)
  rintro e i7 ⟨rfl, hb⟩
  refine ⟨_, rfl, ?_⟩
  replace aA := q_ (y0n (bk_ aA.out) hb)
  replace aD := q_ (y0n (bk_ aD.out) hb)
  replace HB := q_ (y0k hb_ hb)
  refine hK.out _ _ ⟨(y0o aA.out 0).trans rfl, (y0o aA.out 1).trans rfl, (y0o aA.out 2).trans rfl, (y0o aA.out 3).trans rfl, (y0o aA.out 4).trans rfl, (y0o aA.out 5).trans rfl, (y0o aD.out 0).trans rfl, (y0o aD.out 1).trans rfl, (y0o aD.out 2).trans rfl, (y0o aD.out 3).trans rfl, (y0o aD.out 4).trans rfl, (cb_ HB.out a0), (cb_ HB.out a2), (cb_ HB.out a3), (cb_ HB.out aZ), (cb_ HB.out a4)⟩ (fun hHeld => ?_)
  clear hK K
  refine no_ (N := some 68) ?_
  refine pv_ 8 (some 3) (fl 9 511) ?_
  refine done_ (y1s HT_.out (by kernel_rfl)) ?_
  obtain ⟨fN, fZ, cM, cT, cS, gY, fU, hM, cU, gS, dY, c6⟩ := b6_ aA.out
  have bV : 0 ≤ (aB : Int) := oa_
  have bU : aB < (aC.length : Int) := oa_
  obtain ⟨cF, h5, bF, bI, bJ, bC, bD⟩ := y0d a8.out aB bV bU
  obtain rfl : aE = cF := (by injection h5)
  replace bF := cb_ HB.out bF
  replace bI := cb_ HB.out bI
  replace bJ := cb_ HB.out bJ
  replace bC := cb_ HB.out bC
  replace bD := cb_ HB.out bD
  replace bV := eq_true bV
  replace bU := eq_true bU
  obtain ⟨eP, f5, dR, e4, gC, dZ, hF, c0, dC, e2⟩ := b5_ aD.out
  try go_wp2
  go_roundg k3
  case measure => have := fF.out; have := b5.out; have := iS.out; omega
  case rel => exact ⟨(wrap64 (aB + 1)), ((y4a aC aB).f0), ((y4a aC aB).f1), ((y4a aC aB).f2), ((y4a aC aB).f3), ((y4a aC aB).f4), cl_, H', ⟨by have := fF.out; have := b5.out; have := iS.out; omega⟩, ⟨bs_ aA.out⟩, ⟨bs_ aD.out⟩, ⟨hb_⟩⟩
end Go.Proofs.Ytenlmckahaniiaa.K
end
section
namespace Go.Proofs.Ytenlmckahaniiaa.K
open Go.RowKit Go.Proofs.YtW.P Go.Proofs.YtW.L
mutual
def zqq.l0 : Nat → List (S25) → Int → Option (Int)
  | 0, _, _ => none
  | k + 1, x0, x3 => if x3 < (x0.length : Int) then (if 0 ≤ x3 then ((zqn.f k ((y49 x0 x3).f0) ((y49 x0 x3).f1) ((y49 x0 x3).f2) ((y49 x0 x3).f3) ((y49 x0 x3).f4) ((y49 x0 x3).f5)).bind fun t703 => (if t703 = 0 then (zqq.l1 k x0 x3 0) else (some t703))) else (none)) else (some 0)
def zqq.l1 : Nat → List (S25) → Int → Int → Option (Int)
  | 0, _, _, _ => none
  | k + 1, x0, x3, x5 => if x5 < x3 then (if 0 ≤ x5 then (if x5 < (x0.length : Int) then (if 0 ≤ x3 then (if x3 < (x0.length : Int) then (if ((y49 x0 x5).f0).toList = ((y49 x0 x3).f0).toList then (some 6) else (zqq.l1 k x0 x3 (wrap64 (x5 + 1)))) else (none)) else (none)) else (none)) else (none)) else (zqq.l0 k x0 (wrap64 (x3 + 1)))
end
def zqq.f (k : Nat) (l0 : List (S25)) : Option (Int) := if (l0.length : Int) > 32 then (some 12) else (zqq.l0 k l0 0)
theorem zqq.mono_l : ∀ k, (∀ y0 y1, LeO (zqq.l0 k y0 y1) (zqq.l0 (k + 1) y0 y1)) ∧ (∀ y0 y1 y2, LeO (zqq.l1 k y0 y1 y2) (zqq.l1 (k + 1) y0 y1 y2))
 | 0 => ⟨fun _ _ r h => by simp [zqq.l0] at h, fun _ _ _ r h => by simp [zqq.l1] at h⟩
 | k + 1 => by
  obtain ⟨ih0, ih1⟩ := zqq.mono_l k
  refine ⟨?_, ?_⟩
  ·intro y0 y1
   unfold zqq.l0
   with_reducible repeat' first | apply ih0 | apply ih1 | apply zqn.mono | exact LeO.refl _ | exact LeO.none _ | refine LeO.ite ?_ ?_ | refine LeO.bind ?_ (fun _ => ?_)
  ·intro y0 y1 y2
   unfold zqq.l1
   with_reducible repeat' first | apply ih0 | apply ih1 | apply zqn.mono | exact LeO.refl _ | exact LeO.none _ | refine LeO.ite ?_ ?_ | refine LeO.bind ?_ (fun _ => ?_)
theorem zqq.mono : ∀ a0 k, LeO (zqq.f k a0) (zqq.f (k + 1) a0) := by
 intro a0 k
 obtain ⟨ih0, ih1⟩ := zqq.mono_l k
 unfold zqq.f
 with_reducible repeat' first | apply ih0 | apply ih1 | apply zqn.mono | exact LeO.refl _ | exact LeO.none _ | refine LeO.ite ?_ ?_ | refine LeO.bind ?_ (fun _ => ?_)
theorem zqq.calls (k : Nat) (A0 : Option Addr) (c0 : Nat) (l0 : List (S25)) (r : Int) (w : World) (cO : Kd.C k25 w A0 l0.length l0) (cN : l0.length ≤ c0) (h : zqq.f k l0 = some r) :
  Calls Try.prog 35 #[.slice A0 l0.length c0] w fun e w' => e = .returned (.int .i64 r) ∧ Below w.heap.size w w' := by
 have cR := Try.underlying25
 have b8 := q_ cO
 have cU := q_ cN
 clear cO cN
 have HB := q_ (Below.refl w.heap.size w)
 have H : (if (l0.length : Int) > 32 then (some 12) else (zqq.l0 k l0 0)) = some r := h
 clear h
 by_cases c2 : (l0.length : Int) > 32
 ·rw [if_pos c2] at H
  have cF := dt_ c2
  have cI : decide (32 < l0.length) = true := decide_eq_true (by omega)
  clear c2
  obtain rfl := Option.some.inj H
  go_enter Try.func35, Try.ntmps35
  go_wp2
  repeat (go_quiet (fail); try go_wp2)
  go_ret
  exact ⟨ew_, hb_⟩
 rw [if_neg c2] at H
 have cF := df_ c2
 have cI : decide (32 < l0.length) = false := decide_eq_false (by omega)
 clear c2
 have H' := q_ H
 clear H
 go_enter Try.func35, Try.ntmps35
 go_wp2
 repeat (go_quiet (fail); try go_wp2)
 go_loopg [3] k (fun kq v3 w' => ∃ (aA : Int), v3 = .int .i64 aA ∧ Aside0 (zqq.l0 kq l0 aA = some r) ∧ Aside0 (kq ≤ k) ∧ Aside0 (Below w.heap.size w w'))
 case atStart => exact ⟨(0), cl_, H', ⟨Nat.le_refl _⟩, ⟨hb_⟩⟩
 case round =>
  clear H'
  obtain ⟨aA, rfl, HA, HK1, HB⟩ := hrel
  obtain _ | k1 := gk
  ·exact nn_ HA
  have H := HA.out
  clear HA
  simp only [zqq.l0] at H
  by_cases c3 : aA < (l0.length : Int)
  rotate_left
  ·rw [if_neg c3] at H
   have cH := df_ c3
   clear c3
   obtain rfl := Option.some.inj H
   go_wp2
   repeat (go_quiet (fail); try go_wp2)
   go_ret
   exact ⟨ew_, hb_⟩
  rw [if_pos c3] at H
  have cH := dt_ c3
  clear c3
  by_cases c4 : 0 ≤ aA
  rotate_left
  ·rw [if_neg c4] at H
   exact absurd H (by simp)
  rw [if_pos c4] at H
  have cS := dt_ c4
  clear c4
  obtain ⟨bE, A5, H⟩ := bq_ H
  (try dsimp only at H)
  by_cases c6 : bE = 0
  rotate_left
  ·rw [if_neg c6] at H
   have cK := ef_ c6
   have cG := nt_ c6
   obtain rfl := Option.some.inj H
   have bC : 0 ≤ (aA : Int) := oa_
   have bF : aA < (l0.length : Int) := oa_
   obtain ⟨bA, bS, b4, b1, b0, bY, aJ, a6, aF, aW, a1, aR, aY, aL, a0, aG⟩ := y0c b8.out aA bC bF
   cases bY
   replace aJ := cb_ HB.out aJ
   replace a6 := cb_ HB.out a6
   replace aF := cb_ HB.out aF
   replace aW := cb_ HB.out aW
   replace a1 := cb_ HB.out a1
   replace aR := cb_ HB.out aR
   have aB := q_ aL
   have aD := q_ aY
   clear aL aY
   have aE := q_ aG
   have aC := q_ a0
   clear aG a0
   replace bC := eq_true bC
   replace bF := eq_true bF
   go_wp2_with (first | (go_at_call 19; (with_reducible refine (zqn.calls k1 ((y49 l0 aA).f0) ((y49 l0 aA).f1) ((y49 l0 aA).f2) ((y49 l0 aA).f3) _ _ ((y49 l0 aA).f4) _ _ ((y49 l0 aA).f5) bE _ ?side1 ?side2 ?side3 ?side4 A5.out).mono ?_); (case side1 => exact ck_ (Kd.C_below aB.out HB.out)); (case side2 => exact aD.out); (case side3 => exact ck_ (Kd.C_below aE.out HB.out)); (case side4 => exact aC.out); rintro e cP ⟨rfl, hb⟩; replace HB := q_ (y0k hb_ hb)))
   repeat (go_quiet (first | (go_at_call 19; (with_reducible refine (zqn.calls k1 ((y49 l0 aA).f0) ((y49 l0 aA).f1) ((y49 l0 aA).f2) ((y49 l0 aA).f3) _ _ ((y49 l0 aA).f4) _ _ ((y49 l0 aA).f5) bE _ ?side1 ?side2 ?side3 ?side4 A5.out).mono ?_); (case side1 => exact ck_ (Kd.C_below aB.out HB.out)); (case side2 => exact aD.out); (case side3 => exact ck_ (Kd.C_below aE.out HB.out)); (case side4 => exact aC.out); rintro e cP ⟨rfl, hb⟩; replace HB := q_ (y0k hb_ hb))); try go_wp2_with (first | (go_at_call 19; (with_reducible refine (zqn.calls k1 ((y49 l0 aA).f0) ((y49 l0 aA).f1) ((y49 l0 aA).f2) ((y49 l0 aA).f3) _ _ ((y49 l0 aA).f4) _ _ ((y49 l0 aA).f5) bE _ ?side1 ?side2 ?side3 ?side4 A5.out).mono ?_); (case side1 => exact ck_ (Kd.C_below aB.out HB.out)); (case side2 => exact aD.out); (case side3 => exact ck_ (Kd.C_below aE.out HB.out)); (case side4 => exact aC.out); rintro e cP ⟨rfl, hb⟩; replace HB := q_ (y0k hb_ hb))))
   go_ret
   exact ⟨ew_, hb_⟩
  rw [if_pos c6] at H
  have cK := et_ c6
  have cG := nf_ c6
  clear c6
  have H' := q_ H
  clear H
  have bC : 0 ≤ (aA : Int) := oa_
  have bF : aA < (l0.length : Int) := oa_
  obtain ⟨bA, bS, b4, b1, b0, bY, aJ, a6, aF, aW, a1, aR, aY, aL, a0, aG⟩ := y0c b8.out aA bC bF
  cases bY
  replace aJ := cb_ HB.out aJ
  replace a6 := cb_ HB.out a6
  replace aF := cb_ HB.out aF
  replace aW := cb_ HB.out aW
  replace a1 := cb_ HB.out a1
  replace aR := cb_ HB.out aR
  have aB := q_ aL
  have aD := q_ aY
  clear aL aY
  have aE := q_ aG
  have aC := q_ a0
  clear aG a0
  replace bC := eq_true bC
  replace bF := eq_true bF
  go_wp2_with (first | (go_at_call 19; (with_reducible refine (zqn.calls k1 ((y49 l0 aA).f0) ((y49 l0 aA).f1) ((y49 l0 aA).f2) ((y49 l0 aA).f3) _ _ ((y49 l0 aA).f4) _ _ ((y49 l0 aA).f5) bE _ ?side1 ?side2 ?side3 ?side4 A5.out).mono ?_); (case side1 => exact ck_ (Kd.C_below aB.out HB.out)); (case side2 => exact aD.out); (case side3 => exact ck_ (Kd.C_below aE.out HB.out)); (case side4 => exact aC.out); rintro e w7 ⟨rfl, hb⟩; replace HB := q_ (y0k hb_ hb)))
  repeat (go_quiet (first | (go_at_call 19; (with_reducible refine (zqn.calls k1 ((y49 l0 aA).f0) ((y49 l0 aA).f1) ((y49 l0 aA).f2) ((y49 l0 aA).f3) _ _ ((y49 l0 aA).f4) _ _ ((y49 l0 aA).f5) bE _ ?side1 ?side2 ?side3 ?side4 A5.out).mono ?_); (case side1 => exact ck_ (Kd.C_below aB.out HB.out)); (case side2 => exact aD.out); (case side3 => exact ck_ (Kd.C_below aE.out HB.out)); (case side4 => exact aC.out); rintro e w7 ⟨rfl, hb⟩; replace HB := q_ (y0k hb_ hb))); try go_wp2_with (first | (go_at_call 19; (with_reducible refine (zqn.calls k1 ((y49 l0 aA).f0) ((y49 l0 aA).f1) ((y49 l0 aA).f2) ((y49 l0 aA).f3) _ _ ((y49 l0 aA).f4) _ _ ((y49 l0 aA).f5) bE _ ?side1 ?side2 ?side3 ?side4 A5.out).mono ?_); (case side1 => exact ck_ (Kd.C_below aB.out HB.out)); (case side2 => exact aD.out); (case side3 => exact ck_ (Kd.C_below aE.out HB.out)); (case side4 => exact aC.out); rintro e w7 ⟨rfl, hb⟩; replace HB := q_ (y0k hb_ hb))))
  go_loopg [5] k1 (fun kq v5 w' => ∃ (aZ : Int), v5 = .int .i64 aZ ∧ Aside0 (zqq.l1 kq l0 aA aZ = some r) ∧ Aside0 (kq ≤ k1) ∧ Aside0 (Below w.heap.size w w'))
  case atStart => exact ⟨(0), cl_, H', ⟨Nat.le_refl _⟩, ⟨hb_⟩⟩
  case round =>
   clear H'
   obtain ⟨aZ, rfl, HA, cB, HB⟩ := hrel
   obtain _ | k2 := gk
   ·exact nn_ HA
   have H := HA.out
   clear HA
   simp only [zqq.l1] at H
   by_cases c8 : aZ < aA
   rotate_left
   ·rw [if_neg c8] at H
    have cJ := df_ c8
    clear c8
    have H' := q_ H
    clear H
    go_wp2
    repeat (go_quiet (fail); try go_wp2)
    go_roundg k2
    case measure => have := HK1.out; have := cB.out; omega
    case rel => exact ⟨(wrap64 (aA + 1)), cl_, H', ⟨by have := HK1.out; have := cB.out; omega⟩, ⟨hb_⟩⟩
   rw [if_pos c8] at H
   have cJ := dt_ c8
   clear c8
   by_cases c9 : 0 ≤ aZ
   rotate_left
   ·rw [if_neg c9] at H
    exact absurd H (by simp)
   rw [if_pos c9] at H
   have cT := dt_ c9
   clear c9
   by_cases cE : aZ < (l0.length : Int)
   rotate_left
   ·rw [if_neg cE] at H
    exact absurd H (by simp)
   rw [if_pos cE] at H
   have cL := dt_ cE
   clear cE
   by_cases cD : 0 ≤ aA
   rotate_left
   ·rw [if_neg cD] at H
    exact absurd H (by simp)
   rw [if_pos cD] at H
   have cQ := dt_ cD
   clear cD
   by_cases cC : aA < (l0.length : Int)
   rotate_left
   ·rw [if_neg cC] at H
    exact absurd H (by simp)
   rw [if_pos cC] at H
   have cM := dt_ cC
   clear cC
   by_cases bZ : ((y49 l0 aZ).f0).toList = ((y49 l0 aA).f0).toList
   ·rw [if_pos bZ] at H
    have cA := et_ bZ
    have b9 := nf_ bZ
    clear bZ
    obtain rfl := Option.some.inj H
    have bG : 0 ≤ (aZ : Int) := oa_
    have bH : aZ < (l0.length : Int) := oa_
    obtain ⟨bI, bX, b3, b7, bV, b6, a5, a8, a2, aO, aI, aV, aP, aT, aS, aU⟩ := y0c b8.out aZ bG bH
    obtain rfl : bA = bI := (by injection b6)
    replace a5 := cb_ HB.out a5
    replace a8 := cb_ HB.out a8
    replace a2 := cb_ HB.out a2
    replace aO := cb_ HB.out aO
    replace aI := cb_ HB.out aI
    replace aV := cb_ HB.out aV
    have bM := q_ aT
    have bN := q_ aP
    clear aT aP
    have bO := q_ aU
    have bK := q_ aS
    clear aU aS
    replace bG := eq_true bG
    replace bH := eq_true bH
    have bD : 0 ≤ (aA : Int) := oa_
    have bB : aA < (l0.length : Int) := oa_
    obtain ⟨bJ, bT, b5, b2, bW, bU, a7, aH, aM, aK, a3, a4, aQ, a9, aX, aN⟩ := y0c b8.out aA bD bB
    obtain rfl : bA = bJ := (by injection bU)
    replace a7 := cb_ HB.out a7
    replace aH := cb_ HB.out aH
    replace aM := cb_ HB.out aM
    replace aK := cb_ HB.out aK
    replace a3 := cb_ HB.out a3
    replace a4 := cb_ HB.out a4
    have bR := q_ a9
    have bP := q_ aQ
    clear a9 aQ
    have bQ := q_ aN
    have bL := q_ aX
    clear aN aX
    replace bD := eq_true bD
    replace bB := eq_true bB
    go_wp2
    repeat (go_quiet (fail); try go_wp2)
    go_ret
    exact ⟨ew_, hb_⟩
   rw [if_neg bZ] at H
   have cA := ef_ bZ
   have b9 := nt_ bZ
   have H' := q_ H
   clear H
   have bG : 0 ≤ (aZ : Int) := oa_
   have bH : aZ < (l0.length : Int) := oa_
   obtain ⟨bI, bX, b3, b7, bV, b6, a5, a8, a2, aO, aI, aV, aP, aT, aS, aU⟩ := y0c b8.out aZ bG bH
   obtain rfl : bA = bI := (by injection b6)
   replace a5 := cb_ HB.out a5
   replace a8 := cb_ HB.out a8
   replace a2 := cb_ HB.out a2
   replace aO := cb_ HB.out aO
   replace aI := cb_ HB.out aI
   replace aV := cb_ HB.out aV
   have bM := q_ aT
   have bN := q_ aP
   clear aT aP
   have bO := q_ aU
   have bK := q_ aS
   clear aU aS
   replace bG := eq_true bG
   replace bH := eq_true bH
   have bD : 0 ≤ (aA : Int) := oa_
   have bB : aA < (l0.length : Int) := oa_
   obtain ⟨bJ, bT, b5, b2, bW, bU, a7, aH, aM, aK, a3, a4, aQ, a9, aX, aN⟩ := y0c b8.out aA bD bB
   obtain rfl : bA = bJ := (by injection bU)
   replace a7 := cb_ HB.out a7
   replace aH := cb_ HB.out aH
   replace aM := cb_ HB.out aM
   replace aK := cb_ HB.out aK
   replace a3 := cb_ HB.out a3
   replace a4 := cb_ HB.out a4
   have bR := q_ a9
   have bP := q_ aQ
   clear a9 aQ
   have bQ := q_ aN
   have bL := q_ aX
   clear aN aX
   replace bD := eq_true bD
   replace bB := eq_true bB
   go_wp2
   repeat (go_quiet (fail); try go_wp2)
   go_roundg k2
   case measure => have := HK1.out; have := cB.out; omega
   case rel => exact ⟨(wrap64 (aZ + 1)), cl_, H', ⟨by have := HK1.out; have := cB.out; omega⟩, ⟨hb_⟩⟩
end Go.Proofs.Ytenlmckahaniiaa.K
end
section
namespace Go.Proofs.Ytenlmckahaniiaa.K
open Go.RowKit Go.Proofs.YtW.P Go.Proofs.YtW.L
theorem eqA43 (d : Nat) (w : World) (x0 y0 : Int) (x1 y1 : Int) (x2 y2 : Int) (x3 y3 : ByteArray) (x4 y4 : Bool) :
    (Op.equalIn (d + 2) 43 (.agg #[.int .i64 x0, .int .i64 x1, .int .i64 x2, .string x3, .bool x4]) (.agg #[.int .i64 y0, .int .i64 y1, .int .i64 y2, .string y3, .bool y4])).run Try.prog w = .ok (x0 == y0 && (x1 == y1 && (x2 == y2 && (x3.toList == y3.toList && (x4 == y4))))) w := by
  refine eqA_of Try.underlying43 (by kernel_rfl) ?_
  refine y1x (by rfl) (by go_simp; rfl) (by go_simp; rfl) (by go_simp) ?_
  refine y1x (by rfl) (by go_simp; rfl) (by go_simp; rfl) (by go_simp) ?_
  refine y1x (by rfl) (by go_simp; rfl) (by go_simp; rfl) (by go_simp) ?_
  refine y1x (by rfl) (by go_simp; rfl) (by go_simp; rfl) (by go_simp) ?_
  exact eqf_last (by rfl) (by go_simp; rfl) (by go_simp; rfl) (by go_simp)
end Go.Proofs.Ytenlmckahaniiaa.K
end
section
namespace Go.Proofs.Ytenlmckahaniiaa.K
open Go.RowKit Go.Proofs.YtW.P Go.Proofs.YtW.L
theorem eqA62 (d : Nat) (w : World) (x0 y0 : ByteArray) (x1 y1 : Int) (x2 y2 : Int) (x3 y3 : Bool) :
    (Op.equalIn (d + 2) 62 (.agg #[.string x0, .int .i64 x1, .int .i64 x2, .bool x3]) (.agg #[.string y0, .int .i64 y1, .int .i64 y2, .bool y3])).run Try.prog w = .ok (x0.toList == y0.toList && (x1 == y1 && (x2 == y2 && (x3 == y3)))) w := by
  refine eqA_of Try.underlying62 (by kernel_rfl) ?_
  refine y1x (by rfl) (by go_simp; rfl) (by go_simp; rfl) (by go_simp) ?_
  refine y1x (by rfl) (by go_simp; rfl) (by go_simp; rfl) (by go_simp) ?_
  refine y1x (by rfl) (by go_simp; rfl) (by go_simp; rfl) (by go_simp) ?_
  exact eqf_last (by rfl) (by go_simp; rfl) (by go_simp; rfl) (by go_simp)
end Go.Proofs.Ytenlmckahaniiaa.K
end
