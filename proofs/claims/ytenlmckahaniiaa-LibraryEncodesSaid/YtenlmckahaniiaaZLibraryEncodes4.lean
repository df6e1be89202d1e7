/- Lemmas for the law LibraryEncodes: what its proof needs beyond what it shares. -/
import Derived.Test.YtenlmckahaniiaaZLibraryEncodes2
import Derived.Test.YtenlmckahaniiaaZLibraryEncodes3
set_option linter.unusedVariables false
set_option linter.unusedSimpArgs false
set_option linter.unusedSectionVars false
set_option maxHeartbeats 8000000
set_option maxRecDepth 100000
section
namespace Go.Proofs.Ytenlmckahaniiaa.K
open Go.RowKit Go.Proofs.YtW.P Go.Proofs.YtW.L
mutual
def zqf.l0 : Nat → ByteArray → Int → ByteArray → Int → Bool → ByteArray → ByteArray → ByteArray → Int → List (S62) → List (S43) → Option (ByteArray × ByteArray × ByteArray × Int × (List (S62)) × (List (S43)) × Int)
  | 0, _, _, _, _, _, _, _, _, _, _, _ => none
  | k + 1, x0, x8, x511000, x511001, x511002, x512000, x512001, x512002, x512003, x512004, x512005 => if (x512005.length : Int) < x8 then (zqf.j1 k x0 x8 (!x511002) x511000 x511001 x511002 x512000 x512001 x512002 x512003 x512004 x512005) else (zqf.j1 k x0 x8 false x511000 x511001 x511002 x512000 x512001 x512002 x512003 x512004 x512005)
def zqf.j1 : Nat → ByteArray → Int → Bool → ByteArray → Int → Bool → ByteArray → ByteArray → ByteArray → Int → List (S62) → List (S43) → Option (ByteArray × ByteArray × ByteArray × Int × (List (S62)) × (List (S43)) × Int)
  | 0, _, _, _, _, _, _, _, _, _, _, _, _ => none
  | k + 1, x0, x8, x52, x511000, x511001, x511002, x512000, x512001, x512002, x512003, x512004, x512005 => if x52 = true then ((zq4.f k x511000 x511001 x511002 1).bind fun bt541 => ((zq4.f k bt541.2.1 bt541.2.2.1 bt541.2.2.2 2).bind fun bt545 => ((zq4.f k bt545.2.1 bt545.2.2.1 bt545.2.2.2 1).bind fun bt549 => ((zq5.f k bt549.2.1 bt549.2.2.1 bt549.2.2.2).bind fun bt553 => ((zq4.f k bt553.2.1 bt553.2.2.1 bt553.2.2.2 1).bind fun bt557 => (if x512005.length < 2932031007402 then (zqf.l0 k x0 x8 bt557.2.1 bt557.2.2.1 bt557.2.2.2 x512000 x512001 x512002 x512003 x512004 (x512005 ++ [(⟨bt541.1, bt545.1, bt549.1, bt553.1, (bt557.1 == 1)⟩ : S43)])) else (none))))))) else ((zqg.f k x512000 x512001 x512002 x512003 x512004 x512005).bind fun bt538 => (if x511002 = true then (some (nB_, nB_, nB_, 0, ([] : List (S62)), ([] : List (S43)), 9)) else (if bt538.2 = 0 then (if bt538.1.toList = x0.toList then (some (x512000, x512001, x512002, x512003, x512004, x512005, 0)) else (some (nB_, nB_, nB_, 0, ([] : List (S62)), ([] : List (S43)), 9))) else (some (nB_, nB_, nB_, 0, ([] : List (S62)), ([] : List (S43)), 9)))))
end
def zqf.f (k : Nat) (a0 : ByteArray) : Option (ByteArray × ByteArray × ByteArray × Int × (List (S62)) × (List (S43)) × Int) := (zqu.f k a0).bind fun bt508 => (if bt508.2 = 0 then ((zq5.f k bt508.1 4 false).bind fun bt512 => ((zq5.f k bt512.2.1 bt512.2.2.1 bt512.2.2.2).bind fun bt516 => ((zq5.f k bt516.2.1 bt516.2.2.1 bt516.2.2.2).bind fun bt520 => ((zq4.f k bt520.2.1 bt520.2.2.1 bt520.2.2.2 2).bind fun bt524 => ((zq2.f k bt524.2.1 bt524.2.2.1 bt524.2.2.2).bind fun bt528 => ((zq4.f k bt528.2.1 bt528.2.2.1 bt528.2.2.2 2).bind fun bt534 => (zqf.l0 k a0 bt534.1 bt534.2.1 bt534.2.2.1 bt534.2.2.2 bt512.1 bt516.1 bt520.1 bt524.1 bt528.1 ([] : List (S43))))))))) else (some (nB_, nB_, nB_, 0, ([] : List (S62)), ([] : List (S43)), bt508.2)))
theorem zqf.mono_l : ∀ k, (∀ y0 y1 y2 y3 y4 y5 y6 y7 y8 y9 y10, LeO (zqf.l0 k y0 y1 y2 y3 y4 y5 y6 y7 y8 y9 y10) (zqf.l0 (k + 1) y0 y1 y2 y3 y4 y5 y6 y7 y8 y9 y10)) ∧ (∀ y0 y1 y2 y3 y4 y5 y6 y7 y8 y9 y10 y11, LeO (zqf.j1 k y0 y1 y2 y3 y4 y5 y6 y7 y8 y9 y10 y11) (zqf.j1 (k + 1) y0 y1 y2 y3 y4 y5 y6 y7 y8 y9 y10 y11))
 | 0 => ⟨fun _ _ _ _ _ _ _ _ _ _ _ r h => by simp [zqf.l0] at h, fun _ _ _ _ _ _ _ _ _ _ _ _ r h => by simp [zqf.j1] at h⟩
 | k + 1 => by
  obtain ⟨ih0, ih1⟩ := zqf.mono_l k
  refine ⟨?_, ?_⟩
  ·intro y0 y1 y2 y3 y4 y5 y6 y7 y8 y9 y10
   unfold zqf.l0
   with_reducible repeat' first | apply ih0 | apply ih1 | apply zqu.mono | apply zqg.mono | apply zq4.mono | apply zq2.mono | apply zq5.mono | exact LeO.refl _ | exact LeO.none _ | refine LeO.ite ?_ ?_ | refine LeO.bind ?_ (fun _ => ?_)
  ·intro y0 y1 y2 y3 y4 y5 y6 y7 y8 y9 y10 y11
   unfold zqf.j1
   with_reducible repeat' first | apply ih0 | apply ih1 | apply zqu.mono | apply zqg.mono | apply zq4.mono | apply zq2.mono | apply zq5.mono | exact LeO.refl _ | exact LeO.none _ | refine LeO.ite ?_ ?_ | refine LeO.bind ?_ (fun _ => ?_)
theorem zqf.mono : ∀ a0 k, LeO (zqf.f k a0) (zqf.f (k + 1) a0) := by
 intro a0 k
 obtain ⟨ih0, ih1⟩ := zqf.mono_l k
 unfold zqf.f
 with_reducible repeat' first | apply ih0 | apply ih1 | apply zqu.mono | apply zqg.mono | apply zq4.mono | apply zq2.mono | apply zq5.mono | exact LeO.refl _ | exact LeO.none _ | refine LeO.ite ?_ ?_ | refine LeO.bind ?_ (fun _ => ?_)
theorem zqf.calls (k : Nat) (a0 : ByteArray) (r1 : ByteArray) (r2 : ByteArray) (r3 : ByteArray) (r4 : Int) (r5 : List (S62)) (r6 : List (S43)) (r7 : Int) (w : World) (h : zqf.f k a0 = some (r1, r2, r3, r4, r5, r6, r7)) :
  Calls Try.prog 25 #[.string a0] w fun e w' => ∃ v4_ v5_ : Value, e = .returned (.tuple #[.agg #[.string r1, .string r2, .string r3, .int .i64 r4, v4_, v5_], .int .i64 r7]) ∧ Kd.R k62 62 w' w.heap.size (fun _ => True) v4_ r5 ∧ Kd.R k43 43 w' w.heap.size (fun _ => True) v5_ r6 ∧ Below w.heap.size w w' := by
 have oJ := Try.underlying25
 have oE := Try.underlying79
 have oT := Try.underlying43
 have HB := q_ (Below.refl w.heap.size w)
 have H : ((zqu.f k a0).bind fun b2 => (if b2.2 = 0 then ((zq5.f k b2.1 4 false).bind fun bO => ((zq5.f k bO.2.1 bO.2.2.1 bO.2.2.2).bind fun bT => ((zq5.f k bT.2.1 bT.2.2.1 bT.2.2.2).bind fun bR => ((zq4.f k bR.2.1 bR.2.2.1 bR.2.2.2 2).bind fun bN => ((zq2.f k bN.2.1 bN.2.2.1 bN.2.2.2).bind fun bP => ((zq4.f k bP.2.1 bP.2.2.1 bP.2.2.2 2).bind fun bQ => (zqf.l0 k a0 bQ.1 bQ.2.1 bQ.2.2.1 bQ.2.2.2 bO.1 bT.1 bR.1 bN.1 bP.1 ([] : List (S43))))))))) else (some (nB_, nB_, nB_, 0, ([] : List (S62)), ([] : List (S43)), b2.2)))) = some (r1, r2, r3, r4, r5, r6, r7) := h
 clear h
 obtain ⟨⟨bM, cU⟩, A2, H⟩ := bq_ H
 (try dsimp only at H)
 by_cases c3 : cU = 0
 rotate_left
 ·rw [if_neg c3] at H
  have mU := ef_ c3
  have mW := nt_ c3
  simp only [Option.some.injEq, Prod.mk.injEq] at H
  obtain ⟨rfl, rfl, rfl, rfl, rfl, rfl, rfl⟩ := H
  go_enter Try.func25, Try.ntmps25
  go_wp2_with (first | (refine gd_ 2 ?_; refine bx_ 2 (cs := #[.string nB_, .string nB_, .string nB_, .int .i64 0, .slice none 0 0, .slice none 0 0]) 25 ?_; intro aM hg oN hbox hb; have aD := q_ (hbox); have cX := gw_ w hg (y0j hb_); have eH := gw_ w hg (y0j hb_); replace HB := q_ (y0k hb_ hb); clear hb hbox hg) | (refine gc_ 65 ?_; refine gl_ (some 14) Try.func65 #[.string a0] ?_; (with_reducible refine (zqu.calls k a0 bM cU _ A2.out).mono ?_); rintro e oF ⟨rfl, hb⟩; refine ⟨_, rfl, ?_⟩; replace aD := q_ (y0n (bk_ aD.out) hb); replace HB := q_ (y0k hb_ hb); obtain ⟨cZ, dD, d5, dZ, cY, eE, dG, dX, eD, eA, c9, d3⟩ := b6_ aD.out))
  refine bodyPost_ret (y4l rfl _ _ aM 25 #[.string nB_, .string nB_, .string nB_, .int .i64 0, .slice none 0 0, .slice none 0 0] (0, 0) _ rfl (bs_ aD.out) Try.underlying25 rfl (by kernel_rfl)) rfl ?_
  exact ⟨_, _, ew_, nil_, nil_, hb_⟩
 rw [if_pos c3] at H
 have mU := et_ c3
 have mW := nf_ c3
 clear c3
 obtain ⟨⟨aZ, eI, dA, c8⟩, A4, H⟩ := bq_ H
 obtain ⟨⟨a1, d4, d6, eJ⟩, A5, H⟩ := bq_ H
 obtain ⟨⟨a2, c5, dR, dU⟩, A6, H⟩ := bq_ H
 obtain ⟨⟨a3, dQ, dN, dT⟩, A7, H⟩ := bq_ H
 obtain ⟨⟨aY, cS, cT, cR⟩, A8, H⟩ := bq_ H
 obtain ⟨⟨b3, d8, dI, dH⟩, A9, H⟩ := bq_ H
 (try dsimp only at H)
 have H' := q_ H
 clear H
 go_enter Try.func25, Try.ntmps25
 go_wp2_with (first | (refine gd_ 2 ?_; refine bx_ 2 (cs := #[.string nB_, .string nB_, .string nB_, .int .i64 0, .slice none 0 0, .slice none 0 0]) 25 ?_; intro aM hg oY hbox hb; have aD := q_ (hbox); have cX := gw_ w hg (y0j hb_); have eH := gw_ w hg (y0j hb_); replace HB := q_ (y0k hb_ hb); clear hb hbox hg) | (refine gc_ 65 ?_; refine gl_ (some 14) Try.func65 #[.string a0] ?_; (with_reducible refine (zqu.calls k a0 bM cU _ A2.out).mono ?_); rintro e pA ⟨rfl, hb⟩; refine ⟨_, rfl, ?_⟩; replace aD := q_ (y0n (bk_ aD.out) hb); replace HB := q_ (y0k hb_ hb)) | (refine gd_ 23 ?_; refine bx_ 23 (cs := #[.string bM, .int .i64 4, .bool false]) 79 ?_; intro aJ hg oW hbox hb; have aE := q_ ((show IsS79 w oW aJ bM 4 false from ⟨hbox, by rw [hg]; exact (y0j hb_)⟩)); have nY := gw_ w hg (y0j hb_); have n7 := gw_ w hg (y0j hb_); replace HB := q_ (y0k hb_ hb); have aK := nl_ hg (bk_ aD.out); have a8 := ng_ hg (bk_ aD.out); replace aD := q_ (y0n (bk_ aD.out) hb); clear hb hbox hg) | (refine gd_ 7 ?_; refine bx_ 7 (cs := #[.string nB_, .string nB_, .string nB_, .int .i64 0, .slice none 0 0, .slice none 0 0]) 25 ?_; intro a5 hg pG hbox hb; have aG := q_ (hbox); have nB := gw_ w hg (y0j hb_); have nP := gw_ w hg (y0j hb_); replace HB := q_ (y0k hb_ hb); have aW := nl_ hg (bk_ aD.out); have aV := ng_ hg (bk_ aD.out); replace aD := q_ (y0n (bk_ aD.out) hb); have aX := ml_ hg (IsS79.lt (show IsS79 w _ aJ bM 4 false from s79_ aE.out)); have aI := mg_ hg (IsS79.lt (show IsS79 w _ aJ bM 4 false from s79_ aE.out)); replace aE := q_ (IsS79.below (s79_ aE.out) hb); clear hb hbox hg) | (refine gc_ 66 ?_; refine gl_ (some 25) Try.func66 #[.pointer (some ⟨aJ, 0, none⟩)] ?_; (with_reducible refine (zq5.calls k aJ bM 4 false aZ eI dA c8 w _ ?side1 ?side2 A4.out).mono ?_); (case side1 => exact s79_ aE.out); (case side2 => exact hb_); rintro e o8 ⟨rfl, hi, hb, hk⟩; refine ⟨_, rfl, ?_⟩; replace aD := q_ (KeepBut.blk hk (bk_ aD.out) aK.out (by simp)); replace aG := q_ (KeepBut.blk hk (bk_ aG.out) aI.out (by simp)); replace HB := q_ (hb); replace aE := q_ (hi); have nX := aV.out; have m3 := aW.out; have nI := aI.out; have nG := aX.out; obtain ⟨h8, fZ, mE, h7, fJ, g2, mF, eM, e5, g4, jI, hI⟩ := b6_ aG.out) | (refine gc_ 66 ?_; refine gl_ (some 28) Try.func66 #[.pointer (some ⟨aJ, 0, none⟩)] ?_; (with_reducible refine (zq5.calls k aJ eI dA c8 a1 d4 d6 eJ w _ ?side1 ?side2 A5.out).mono ?_); (case side1 => exact s79_ aE.out); (case side2 => exact hb_); rintro e pD ⟨rfl, hi, hb, hk⟩; refine ⟨_, rfl, ?_⟩; replace aD := q_ (KeepBut.blk hk (g' := aM) (o := .cells #[.string nB_, .string nB_, .string nB_, .int .i64 0, .slice none 0 0, .slice none 0 0] 25 (0, 0)) (bs_ aD.out) aK.out (by simp)); replace aG := q_ (KeepBut.blk hk (g' := a5) (o := .cells #[.string aZ, .string nB_, .string nB_, .int .i64 0, .slice none 0 0, .slice none 0 0] 25 (0, 0)) (bs_ aG.out) aI.out (by simp)); replace HB := q_ (hb); replace aE := q_ (hi); obtain ⟨hL, iK, fR, lS, lZ, jN, k8, jR, g8, e2, jD, g1⟩ := b6_ aG.out) | (refine gc_ 66 ?_; refine gl_ (some 31) Try.func66 #[.pointer (some ⟨aJ, 0, none⟩)] ?_; (with_reducible refine (zq5.calls k aJ d4 d6 eJ a2 c5 dR dU w _ ?side1 ?side2 A6.out).mono ?_); (case side1 => exact s79_ aE.out); (case side2 => exact hb_); rintro e oZ ⟨rfl, hi, hb, hk⟩; refine ⟨_, rfl, ?_⟩; replace aD := q_ (KeepBut.blk hk (g' := aM) (o := .cells #[.string nB_, .string nB_, .string nB_, .int .i64 0, .slice none 0 0, .slice none 0 0] 25 (0, 0)) (bs_ aD.out) aK.out (by simp)); replace aG := q_ (KeepBut.blk hk (g' := a5) (o := .cells #[.string aZ, .string a1, .string nB_, .int .i64 0, .slice none 0 0, .slice none 0 0] 25 (0, 0)) (bs_ aG.out) aI.out (by simp)); replace HB := q_ (hb); replace aE := q_ (hi); obtain ⟨gT, eT, iO, lA, f2, iC, gR, hA, gX, h1, hV, kS⟩ := b6_ aG.out) | (refine gc_ 67 ?_; refine gl_ (some 34) Try.func67 #[.pointer (some ⟨aJ, 0, none⟩), .int .i64 2] ?_; (with_reducible refine (zq4.calls k aJ c5 dR dU 2 a3 dQ dN dT w _ ?side1 ?side2 A7.out).mono ?_); (case side1 => exact s79_ aE.out); (case side2 => exact hb_); rintro e o1 ⟨rfl, hi, hb, hk⟩; refine ⟨_, rfl, ?_⟩; replace aD := q_ (KeepBut.blk hk (g' := aM) (o := .cells #[.string nB_, .string nB_, .string nB_, .int .i64 0, .slice none 0 0, .slice none 0 0] 25 (0, 0)) (bs_ aD.out) aK.out (by simp)); replace aG := q_ (KeepBut.blk hk (g' := a5) (o := .cells #[.string aZ, .string a1, .string a2, .int .i64 0, .slice none 0 0, .slice none 0 0] 25 (0, 0)) (bs_ aG.out) aI.out (by simp)); replace HB := q_ (hb); replace aE := q_ (hi); obtain ⟨eP, eZ, kV, kO, hH, lH, fD, j3, lU, kT, kY, lO⟩ := b6_ aG.out) | (refine gc_ 68 ?_; refine gl_ (some 37) Try.func68 #[.pointer (some ⟨aJ, 0, none⟩)] ?_; (with_reducible refine (zq2.calls k aJ dQ dN dT aY cS cT cR w _ ?side1 ?side2 A8.out).mono ?_); (case side1 => exact s79_ aE.out); (case side2 => exact hb_); rintro e o4 ⟨oH, rfl, oU, hi, hb, hk⟩; refine ⟨_, rfl, ?_⟩; replace aD := q_ (KeepBut.blk hk (g' := aM) (o := .cells #[.string nB_, .string nB_, .string nB_, .int .i64 0, .slice none 0 0, .slice none 0 0] 25 (0, 0)) (bs_ aD.out) aK.out (by simp)); replace aG := q_ (KeepBut.blk hk (g' := a5) (o := .cells #[.string aZ, .string a1, .string a2, .int .i64 a3, .slice none 0 0, .slice none 0 0] 25 (0, 0)) (bs_ aG.out) aI.out (by simp)); have bS := q_ (Kd.R_lower oU (y0j hb_)); replace HB := q_ (hb); replace aE := q_ (hi); obtain ⟨a6, a7, mY⟩ := Kd.R_slice bS.out; subst mY; obtain ⟨l5, jC, j0, hX, gS, j8, g6, j2, e1, jS, k2, gQ⟩ := b6_ aG.out) | (refine gc_ 67 ?_; refine gl_ (some 40) Try.func67 #[.pointer (some ⟨aJ, 0, none⟩), .int .i64 2] ?_; (with_reducible refine (zq4.calls k aJ cS cT cR 2 b3 d8 dI dH w _ ?side1 ?side2 A9.out).mono ?_); (case side1 => exact s79_ aE.out); (case side2 => exact hb_); rintro e oX ⟨rfl, hi, hb, hk⟩; refine ⟨_, rfl, ?_⟩; replace aD := q_ (KeepBut.blk hk (g' := aM) (o := .cells #[.string nB_, .string nB_, .string nB_, .int .i64 0, .slice none 0 0, .slice none 0 0] 25 (0, 0)) (bs_ aD.out) aK.out (by simp)); replace bS := q_ (Kd.R_mono (Kd.R_keep (IsS79.apart (show IsS79 w _ aJ cS cT cR from s79_ aE.out) (rm_ (Kd.R_far (p := ⟨a5, 4, none⟩) (Kd.R_types bS.out aG.out (by decide)) (fun _ hk => hk.2) (.slice a6 aY.length a7)) (fun _ h_ => h_.1)) (by decide)) hk (fun _ h => h.2)) (fun _ h => h.1)); replace aG := q_ (KeepBut.blk hk (g' := a5) (o := .cells #[.string aZ, .string a1, .string a2, .int .i64 a3, .slice a6 aY.length a7, .slice none 0 0] 25 (0, 0)) (bs_ aG.out) aI.out (by simp)); replace HB := q_ (hb); replace aE := q_ (hi)))
 go_loopg [] k (fun kq w' => ∃ (aR : ByteArray) (aT : Int) (aN : Bool) (aH : List (S43)) (u512005 : Value), Aside0 (zqf.l0 kq a0 b3 aR aT aN aZ a1 a2 a3 aY aH = some (r1, r2, r3, r4, r5, r6, r7)) ∧ Aside0 (kq ≤ k) ∧ Aside0 (Kd.R k62 62 w' w.heap.size (fun _ => True) (.slice a6 aY.length a7) aY) ∧ Aside0 (Kd.R k43 43 w' w.heap.size (fun _ => True) u512005 aH) ∧ Aside0 (w'.heap[aM]? = some (.cells #[.string nB_, .string nB_, .string nB_, .int .i64 0, (.slice none 0 0), (.slice none 0 0)] 25 (0, 0))) ∧ Aside0 (w'.heap[a5]? = some (.cells #[.string aZ, .string a1, .string a2, .int .i64 a3, (.slice a6 aY.length a7), u512005] 25 (0, 0))) ∧ Aside0 (IsS79 w w' aJ aR aT aN) ∧ Aside0 (Below w.heap.size w w'))
 case atStart => exact ⟨(d8), (dI), (dH), (([] : List (S43))), (.slice none 0 0), H', ⟨Nat.le_refl _⟩, ⟨rk_ bS.out⟩, ⟨nil_⟩, ⟨bk_ aD.out⟩, ⟨bk_ aG.out⟩, ⟨s79_ aE.out⟩, ⟨hb_⟩⟩
 case round =>
  clear H'
  obtain ⟨aR, aT, aN, aH, u512005, HA, HK1, aC, aA, aD, aG, aE, HB⟩ := hrel
  obtain _ | k1 := gk
  ·exact nn_ HA
  have H := HA.out
  clear HA
  simp only [zqf.l0] at H
  have cO := q_ H
  clear H
  go_upto_region 12 with (fail)
  go_cut [52] (fun oI wc => ∃ (kq : Nat) (bJ : Bool), oI = .bool bJ ∧ Aside0 (zqf.j1 kq a0 b3 bJ aR aT aN aZ a1 a2 a3 aY aH = some (r1, r2, r3, r4, r5, r6, r7)) ∧ Aside0 (kq ≤ k1) ∧ Aside0 (Kd.R k62 62 wc w.heap.size (fun _ => True) (.slice a6 aY.length a7) aY) ∧ Aside0 (Kd.R k43 43 wc w.heap.size (fun _ => True) u512005 aH) ∧ Aside0 (wc.heap[aM]? = some (.cells #[.string nB_, .string nB_, .string nB_, .int .i64 0, (.slice none 0 0), (.slice none 0 0)] 25 (0, 0))) ∧ Aside0 (wc.heap[a5]? = some (.cells #[.string aZ, .string a1, .string a2, .int .i64 a3, (.slice a6 aY.length a7), u512005] 25 (0, 0))) ∧ Aside0 (IsS79 w wc aJ aR aT aN) ∧ Aside0 (Below w.heap.size w wc))
  case first =>
   have H := cO.out
   clear cO
   by_cases cW : (aH.length : Int) < b3
   rotate_left
   ·rw [if_neg cW] at H
    have bK := df_ cW
    clear cW
    (first | rw [bK] | (simp only [y2h, y2g]; rw [bK]) | skip)
    have H' := q_ H
    clear H
    have nU := aV.out
    have m6 := aW.out
    have m0 := aI.out
    have n8 := aX.out
    obtain ⟨iD, kB, f5, iX, kK, gV, l4, fF, fT, iS, kW, jH⟩ := b6_ aG.out
    obtain ⟨oG, oL, mP⟩ := Kd.R_slice aA.out
    subst mP
    go_wp2
    go_meet
    case rel => exact ⟨_, (false), cl_, H', ⟨ok_⟩, ⟨rk_ aC.out⟩, ⟨rk_ aA.out⟩, ⟨bk_ aD.out⟩, ⟨bk_ aG.out⟩, ⟨s79_ aE.out⟩, ⟨hb_⟩⟩
   rw [if_pos cW] at H
   have bK := dt_ cW
   clear cW
   (first | rw [bK] | (simp only [y2h, y2g]; rw [bK]) | skip)
   have H' := q_ H
   clear H
   have nZ := aV.out
   have nV := aW.out
   have nL := aI.out
   have n9 := aX.out
   obtain ⟨lK, fV, fW, kZ, hO, eQ, gB, l7, kJ, hB, iY, hW⟩ := b6_ aG.out
   obtain ⟨oS, oO, mI⟩ := Kd.R_slice aA.out
   subst mI
   obtain ⟨bC, dB⟩ := aE.out
   have jT := y1e bC
   have fU := y1f bC
   have k6 := y1g bC
   have f4 := y0q bC 0
   have gA := y0q bC 1
   have k5 := y0q bC 2
   clear bC dB
   go_wp2
   go_meet
   case rel => exact ⟨_, (!aN), cl_, H', ⟨ok_⟩, ⟨rk_ aC.out⟩, ⟨rk_ aA.out⟩, ⟨bk_ aD.out⟩, ⟨bk_ aG.out⟩, ⟨s79_ aE.out⟩, ⟨hb_⟩⟩
  clear cO
  obtain ⟨kq, bJ, rfl, HA, dW, aC, aA, aD, aG, aE, HB⟩ := hcut
  obtain _ | kj27 := kq
  ·exact nn_ HA
  have H := HA.out
  clear HA
  simp only [zqf.j1] at H
  by_cases jW : bJ = true
  ·subst jW
   rw [if_pos rfl] at H
   obtain ⟨⟨bA, cJ, cA, cG⟩, oK, H⟩ := bq_ H
   obtain ⟨⟨bB, b8, b4, b6⟩, oR, H⟩ := bq_ H
   obtain ⟨⟨bD, cC, b9, cD⟩, oQ, H⟩ := bq_ H
   obtain ⟨⟨bI, cF, cK, cH⟩, oM, H⟩ := bq_ H
   obtain ⟨⟨bH, cI, cB, b5⟩, oV, H⟩ := bq_ H
   (try dsimp only at H)
   by_cases g9 : aH.length < 2932031007402
   rotate_left
   ·rw [if_neg g9] at H
    exact absurd H (by simp)
   rw [if_pos g9] at H
   have c6 := q_ g9
   clear g9
   obtain ⟨b1, bL⟩ : ∃ y_ : List (S43), y_ = (aH ++ [(⟨bA, bB, bD, bI, (bH == 1)⟩ : S43)]) := ⟨_, rfl⟩
   replace H : (zqf.l0 kj27 a0 b3 cI cB b5 aZ a1 a2 a3 aY b1) = some (r1, r2, r3, r4, r5, r6, r7) := by first | (rw [bL]; with_reducible exact H) | (have mJ := (Option.bind_some _ _).symm.trans H; rw [bL]; with_reducible exact mJ) | (have mJ := (Option.bind_some _ _).symm.trans H; with_reducible exact mJ) | with_reducible exact H | (rw [bL]; exact H) | exact H
   have dV := q_ bL
   clear bL
   have H' := q_ H
   clear H
   go_wp2_with (first | (refine gd_ 9 ?_; refine bx_ 9 (cs := #[.int .i64 0, .int .i64 0, .int .i64 0, .string nB_, .bool false]) 43 ?_; intro aQ hg o9 hbox hb; replace aC := q_ (Kd.R_below (rk_ aC.out) hb); replace aA := q_ (Kd.R_below (Kd.R_elderB (rk_ aA.out) aQ (Nat.le_of_eq hg.symm)) hb); have aU := q_ (hbox); have nA := gw_ w hg (y0j hb_); have nO := gw_ w hg (y0j hb_); replace HB := q_ (y0k hb_ hb); have bW := nl_ hg (bk_ aD.out); have bV := ng_ hg (bk_ aD.out); replace aD := q_ (y0n (bk_ aD.out) hb); have bX := nl_ hg (bk_ aG.out); have bY := ng_ hg (bk_ aG.out); replace aG := q_ (y0n (bk_ aG.out) hb); have bU := ml_ hg (IsS79.lt (show IsS79 w _ aJ aR aT aN from s79_ aE.out)); have a4 := mg_ hg (IsS79.lt (show IsS79 w _ aJ aR aT aN from s79_ aE.out)); replace aE := q_ (IsS79.below (s79_ aE.out) hb); clear hb hbox hg) | (refine gc_ 67 ?_; refine gl_ (some 54) Try.func67 #[.pointer (some ⟨aJ, 0, none⟩), .int .i64 1] ?_; (with_reducible refine (zq4.calls kj27 aJ aR aT aN 1 bA cJ cA cG w _ ?side1 ?side2 oK.out).mono ?_); (case side1 => exact s79_ aE.out); (case side2 => exact hb_); rintro e o3 ⟨rfl, hi, hb, hk⟩; refine ⟨_, rfl, ?_⟩; replace aC := q_ (Kd.R_mono (Kd.R_keep (IsS79.apart (show IsS79 w _ aJ aR aT aN from s79_ aE.out) (rk_ aC.out) (by decide)) hk (fun _ h => h.2)) (fun _ h => h.1)); replace aA := q_ (Kd.R_mono (Kd.R_keep (IsS79.apart (show IsS79 w _ aJ aR aT aN from s79_ aE.out) (rk_ aA.out) (by decide)) hk (fun _ h => h.2)) (fun _ h => h.1)); replace aD := q_ (KeepBut.blk hk (bk_ aD.out) aK.out (by simp)); replace aG := q_ (KeepBut.blk hk (bk_ aG.out) aI.out (by simp)); replace aU := q_ (KeepBut.blk hk (bk_ aU.out) a4.out (by simp)); replace HB := q_ (hb); replace aE := q_ (hi); have n3 := bV.out; have m5 := bW.out; have n0 := bY.out; have m1 := bX.out; have nK := a4.out; have oB := bU.out; obtain ⟨kL, iJ, hG, fE, i3, lJ, iB, h9, hC, i4⟩ := b5_ aU.out) | (refine gc_ 67 ?_; refine gl_ (some 57) Try.func67 #[.pointer (some ⟨aJ, 0, none⟩), .int .i64 2] ?_; (with_reducible refine (zq4.calls kj27 aJ cJ cA cG 2 bB b8 b4 b6 w _ ?side1 ?side2 oR.out).mono ?_); (case side1 => exact s79_ aE.out); (case side2 => exact hb_); rintro e pE ⟨rfl, hi, hb, hk⟩; refine ⟨_, rfl, ?_⟩; replace aC := q_ (Kd.R_mono (Kd.R_keep (IsS79.apart (show IsS79 w _ aJ cJ cA cG from s79_ aE.out) (rm_ (Kd.R_far (p := ⟨aQ, 0, none⟩) (Kd.R_types aC.out aU.out (by decide)) (fun _ hk => hk.2) (.int .i64 bA)) (fun _ h_ => h_.1)) (by decide)) hk (fun _ h => h.2)) (fun _ h => h.1)); replace aA := q_ (Kd.R_mono (Kd.R_keep (IsS79.apart (show IsS79 w _ aJ cJ cA cG from s79_ aE.out) (rm_ (Kd.R_far (p := ⟨aQ, 0, none⟩) (Kd.R_mono aA.out (fun k_ hk => (⟨hk, hk.2⟩ : _ ∧ k_ ≠ aQ))) (fun _ hk => hk.2) (.int .i64 bA)) (fun _ h_ => h_.1)) (by decide)) hk (fun _ h => h.2)) (fun _ h => h.1)); replace aD := q_ (KeepBut.blk hk (g' := aM) (o := .cells #[.string nB_, .string nB_, .string nB_, .int .i64 0, .slice none 0 0, .slice none 0 0] 25 (0, 0)) (bs_ aD.out) aK.out (by simp)); replace aG := q_ (KeepBut.blk hk (g' := a5) (o := .cells #[.string aZ, .string a1, .string a2, .int .i64 a3, .slice a6 aY.length a7, u512005] 25 (0, 0)) (bs_ aG.out) aI.out (by simp)); replace aU := q_ (KeepBut.blk hk (g' := aQ) (o := .cells #[.int .i64 bA, .int .i64 0, .int .i64 0, .string nB_, .bool false] 43 (0, 0)) (bs_ aU.out) a4.out (by simp)); replace HB := q_ (hb); replace aE := q_ (hi); obtain ⟨hD, gD, lG, lP, kC, iW, e0, mD, kN, e6⟩ := b5_ aU.out) | (refine gc_ 67 ?_; refine gl_ (some 60) Try.func67 #[.pointer (some ⟨aJ, 0, none⟩), .int .i64 1] ?_; (with_reducible refine (zq4.calls kj27 aJ b8 b4 b6 1 bD cC b9 cD w _ ?side1 ?side2 oQ.out).mono ?_); (case side1 => exact s79_ aE.out); (case side2 => exact hb_); rintro e pF ⟨rfl, hi, hb, hk⟩; refine ⟨_, rfl, ?_⟩; replace aC := q_ (Kd.R_mono (Kd.R_keep (IsS79.apart (show IsS79 w _ aJ b8 b4 b6 from s79_ aE.out) (rm_ (Kd.R_far (p := ⟨aQ, 1, none⟩) (Kd.R_types aC.out aU.out (by decide)) (fun _ hk => hk.2) (.int .i64 bB)) (fun _ h_ => h_.1)) (by decide)) hk (fun _ h => h.2)) (fun _ h => h.1)); replace aA := q_ (Kd.R_mono (Kd.R_keep (IsS79.apart (show IsS79 w _ aJ b8 b4 b6 from s79_ aE.out) (rm_ (Kd.R_far (p := ⟨aQ, 1, none⟩) (Kd.R_mono aA.out (fun k_ hk => (⟨hk, hk.2⟩ : _ ∧ k_ ≠ aQ))) (fun _ hk => hk.2) (.int .i64 bB)) (fun _ h_ => h_.1)) (by decide)) hk (fun _ h => h.2)) (fun _ h => h.1)); replace aD := q_ (KeepBut.blk hk (g' := aM) (o := .cells #[.string nB_, .string nB_, .string nB_, .int .i64 0, .slice none 0 0, .slice none 0 0] 25 (0, 0)) (bs_ aD.out) aK.out (by simp)); replace aG := q_ (KeepBut.blk hk (g' := a5) (o := .cells #[.string aZ, .string a1, .string a2, .int .i64 a3, .slice a6 aY.length a7, u512005] 25 (0, 0)) (bs_ aG.out) aI.out (by simp)); replace aU := q_ (KeepBut.blk hk (g' := aQ) (o := .cells #[.int .i64 bA, .int .i64 bB, .int .i64 0, .string nB_, .bool false] 43 (0, 0)) (bs_ aU.out) a4.out (by simp)); replace HB := q_ (hb); replace aE := q_ (hi); obtain ⟨f9, j9, hM, jJ, eV, jM, fO, gP, kD, hS⟩ := b5_ aU.out) | (refine gc_ 66 ?_; refine gl_ (some 63) Try.func66 #[.pointer (some ⟨aJ, 0, none⟩)] ?_; (with_reducible refine (zq5.calls kj27 aJ cC b9 cD bI cF cK cH w _ ?side1 ?side2 oM.out).mono ?_); (case side1 => exact s79_ aE.out); (case side2 => exact hb_); rintro e o7 ⟨rfl, hi, hb, hk⟩; refine ⟨_, rfl, ?_⟩; replace aC := q_ (Kd.R_mono (Kd.R_keep (IsS79.apart (show IsS79 w _ aJ cC b9 cD from s79_ aE.out) (rm_ (Kd.R_far (p := ⟨aQ, 2, none⟩) (Kd.R_types aC.out aU.out (by decide)) (fun _ hk => hk.2) (.int .i64 bD)) (fun _ h_ => h_.1)) (by decide)) hk (fun _ h => h.2)) (fun _ h => h.1)); replace aA := q_ (Kd.R_mono (Kd.R_keep (IsS79.apart (show IsS79 w _ aJ cC b9 cD from s79_ aE.out) (rm_ (Kd.R_far (p := ⟨aQ, 2, none⟩) (Kd.R_mono aA.out (fun k_ hk => (⟨hk, hk.2⟩ : _ ∧ k_ ≠ aQ))) (fun _ hk => hk.2) (.int .i64 bD)) (fun _ h_ => h_.1)) (by decide)) hk (fun _ h => h.2)) (fun _ h => h.1)); replace aD := q_ (KeepBut.blk hk (g' := aM) (o := .cells #[.string nB_, .string nB_, .string nB_, .int .i64 0, .slice none 0 0, .slice none 0 0] 25 (0, 0)) (bs_ aD.out) aK.out (by simp)); replace aG := q_ (KeepBut.blk hk (g' := a5) (o := .cells #[.string aZ, .string a1, .string a2, .int .i64 a3, .slice a6 aY.length a7, u512005] 25 (0, 0)) (bs_ aG.out) aI.out (by simp)); replace aU := q_ (KeepBut.blk hk (g' := aQ) (o := .cells #[.int .i64 bA, .int .i64 bB, .int .i64 bD, .string nB_, .bool false] 43 (0, 0)) (bs_ aU.out) a4.out (by simp)); replace HB := q_ (hb); replace aE := q_ (hi); obtain ⟨iN, lN, fN, iR, f7, mA, hY, jV, iG, k0⟩ := b5_ aU.out) | (refine gc_ 67 ?_; refine gl_ (some 66) Try.func67 #[.pointer (some ⟨aJ, 0, none⟩), .int .i64 1] ?_; (with_reducible refine (zq4.calls kj27 aJ cF cK cH 1 bH cI cB b5 w _ ?side1 ?side2 oV.out).mono ?_); (case side1 => exact s79_ aE.out); (case side2 => exact hb_); rintro e pC ⟨rfl, hi, hb, hk⟩; refine ⟨_, rfl, ?_⟩; replace aC := q_ (Kd.R_mono (Kd.R_keep (IsS79.apart (show IsS79 w _ aJ cF cK cH from s79_ aE.out) (rm_ (Kd.R_far (p := ⟨aQ, 3, none⟩) (Kd.R_types aC.out aU.out (by decide)) (fun _ hk => hk.2) (.string bI)) (fun _ h_ => h_.1)) (by decide)) hk (fun _ h => h.2)) (fun _ h => h.1)); replace aA := q_ (Kd.R_mono (Kd.R_keep (IsS79.apart (show IsS79 w _ aJ cF cK cH from s79_ aE.out) (rm_ (Kd.R_far (p := ⟨aQ, 3, none⟩) (Kd.R_mono aA.out (fun k_ hk => (⟨hk, hk.2⟩ : _ ∧ k_ ≠ aQ))) (fun _ hk => hk.2) (.string bI)) (fun _ h_ => h_.1)) (by decide)) hk (fun _ h => h.2)) (fun _ h => h.1)); replace aD := q_ (KeepBut.blk hk (g' := aM) (o := .cells #[.string nB_, .string nB_, .string nB_, .int .i64 0, .slice none 0 0, .slice none 0 0] 25 (0, 0)) (bs_ aD.out) aK.out (by simp)); replace aG := q_ (KeepBut.blk hk (g' := a5) (o := .cells #[.string aZ, .string a1, .string a2, .int .i64 a3, .slice a6 aY.length a7, u512005] 25 (0, 0)) (bs_ aG.out) aI.out (by simp)); replace aU := q_ (KeepBut.blk hk (g' := aQ) (o := .cells #[.int .i64 bA, .int .i64 bB, .int .i64 bD, .string bI, .bool false] 43 (0, 0)) (bs_ aU.out) a4.out (by simp)); replace HB := q_ (hb); replace aE := q_ (hi); obtain ⟨lT, eL, e7, jB, kH, gU, fB, kG, jF, iT⟩ := b5_ aU.out; have nF := aV.out; have oC := aW.out; have m4 := aI.out; have nE := aX.out; obtain ⟨gY, kP, k3, gN, gZ, l2, hR, lX, l8, k7, i9, lL⟩ := b6_ aG.out) | ((with_reducible refine y22 (b := .append) (xs := #[.tmp 70, .tmp 72]) rfl ?_); at_builtin; refine Kd.R_append k43 (w0 := w) w.heap.size rfl (.tmp 70) (.tmp 72) 23 43 (.agg #[(.int .i64 0), (.int .i64 0), (.int .i64 0), (.string ⟨#[]⟩), (.bool false)]) 48 rfl Try.underlying23 info43 rfl (by decide) (by omega) u512005 aH (⟨bA, bB, bD, bI, (bH == 1)⟩ : S43) [.int .i64 bA, .int .i64 bB, .int .i64 bD, .string bI, .bool (bH == 1)] (fun k_ => k_ ≠ aQ) (fun _ => False) rfl (by first | (go_simp; done) | (go_simp; rfl)) ?aP (fun _ hk => hk.elim) ?aF ?aO ?aB ?aS ?aL ?_; (case aP => exact y2v _ _ _ (⟨bA, bB, bD, bI, (bH == 1)⟩ : S43)); (case aB => exact hb_); (case aF => exact (fun k_ hk => Kd.freshB (g := aQ) (o := .cells #[.int .i64 bA, .int .i64 bB, .int .i64 bD, .string bI, .bool (bH == 1)] 43 (0, 0)) (bs_ aU.out) k_ hk)); (case aO => exact (rm_ (Kd.R_far (p := ⟨aQ, 4, none⟩) (Kd.R_mono aA.out (fun k_ hk => (⟨hk, hk.2⟩ : _ ∧ k_ ≠ aQ))) (fun _ hk => hk.2) (.bool (bH == 1))) (fun _ hk => hk.1.2))); (case aS => exact (y0j hb_)); (case aL => have := c6.out; omega); intro oP o2 ho hb hg hat; rw [← dV.out] at ho; replace aC := q_ (Kd.R_over' (rm_ (Kd.R_far (p := ⟨aQ, 4, none⟩) (Kd.R_types aC.out aU.out (by decide)) (fun _ hk => hk.2) (.bool (bH == 1))) (fun _ h_ => h_.1)) (Kd.R_typed (rm_ (Kd.R_far (p := ⟨aQ, 4, none⟩) (Kd.R_mono aA.out (fun k_ hk => (⟨hk, hk.2⟩ : _ ∧ k_ ≠ aQ))) (fun _ hk => hk.2) (.bool (bH == 1))) (fun _ h_ => h_.1))) (by decide) hg); replace aD := q_ (y0r (g := aM) (o := .cells #[.string nB_, .string nB_, .string nB_, .int .i64 0, .slice none 0 0, .slice none 0 0] 25 (0, 0)) (bs_ aD.out) hg (Kd.R_ne aA.out aD.out (by decide))); replace aG := q_ (y0r (g := a5) (o := .cells #[.string aZ, .string a1, .string a2, .int .i64 a3, .slice a6 aY.length a7, u512005] 25 (0, 0)) (bs_ aG.out) hg (Kd.R_ne aA.out aG.out (by decide))); replace aE := q_ (IsS79.grown (show IsS79 w _ aJ cI cB b5 from s79_ aE.out) hg (IsS79.own_ne aE.out aA.out (by decide))); replace aU := q_ (y0r (g := aQ) (o := .cells #[.int .i64 bA, .int .i64 bB, .int .i64 bD, .string bI, .bool (bH == 1)] 43 (0, 0)) (bs_ aU.out) hg (Kd.R_away aA.out (fun _ hk => hk.2))); replace HB := q_ (hb); have cL := q_ (ho); clear aA; clear ho hb hg hat; obtain ⟨cP, cQ, mN⟩ := Kd.R_slice cL.out; subst mN; obtain ⟨e3, hP, hE, iH, kU, iF, kI, kQ, fA, fI, eN, j7⟩ := b6_ aG.out))
   go_roundg kj27
   case measure => have := HK1.out; have := dW.out; omega
   case rel => exact ⟨(cI), (cB), (b5), (b1), (.slice cP b1.length cQ), H', ⟨oj_ dW.out⟩, ⟨rm_ (Kd.R_far (p := ⟨a5, 5, none⟩) (Kd.R_types aC.out aG.out (by decide)) (fun _ hk => hk.2) (.slice cP b1.length cQ)) (fun _ hk => trivial)⟩, ⟨rm_ (Kd.R_far (p := ⟨a5, 5, none⟩) (Kd.R_types cL.out aG.out (by decide)) (fun _ hk => hk.2) (.slice cP b1.length cQ)) (fun _ hk => trivial)⟩, ⟨bs_ aD.out⟩, ⟨bs_ aG.out⟩, ⟨s79_ aE.out⟩, ⟨hb_⟩⟩
  replace jW := Bool.eq_false_iff.mpr jW
  subst jW
  rw [if_neg (show ¬ (false = true) by decide)] at H
  obtain ⟨⟨b0, bZ⟩, jY, H⟩ := bq_ H
  (try dsimp only at H)
  by_cases iP : aN = true
  ·subst iP
   rw [if_pos rfl] at H
   simp only [Option.some.injEq, Prod.mk.injEq] at H
   obtain ⟨rfl, rfl, rfl, rfl, rfl, rfl, rfl⟩ := H
   have n5 := aV.out
   have nR := aW.out
   have nW := aI.out
   have nJ := aX.out
   obtain ⟨gF, hZ, hJ, i1, j5, iQ, g5, jA, l1, i7, lE, gH⟩ := b6_ aG.out
   obtain ⟨mH, mV, mR⟩ := Kd.R_slice aA.out
   subst mR
   go_wp2_with (first | (refine gc_ 22 ?_; refine gl_ (some 77) Try.func22 #[.agg #[.string aZ, .string a1, .string a2, .int .i64 a3, .slice a6 aY.length a7, .slice mH aH.length mV]] ?_; (with_reducible refine (zqg.calls kj27 aZ a1 a2 a3 _ _ aY _ _ aH b0 bZ _ ?side1 ?side2 ?side3 ?side4 jY.out).mono ?_); (case side1 => exact ck_ (Kd.R_reads' aC.out).2.2); (case side2 => exact (Kd.R_reads' aC.out).2.1); (case side3 => exact ck_ (Kd.R_reads' aA.out).2.2); (case side4 => exact (Kd.R_reads' aA.out).2.1); rintro e o0 ⟨rfl, hb⟩; refine ⟨_, rfl, ?_⟩; replace aC := q_ (Kd.R_below (rk_ aC.out) hb); replace aA := q_ (Kd.R_below (rk_ aA.out) hb); replace aD := q_ (y0n (bk_ aD.out) hb); replace aG := q_ (y0n (bk_ aG.out) hb); replace HB := q_ (y0k hb_ hb); replace aE := q_ (IsS79.below (s79_ aE.out) hb); obtain ⟨bE, dL⟩ := aE.out; have e4 := y1e bE; have h0 := y1f bE; have l6 := y1g bE; have hF := y0q bE 0; have eU := y0q bE 1; have jO := y0q bE 2; clear bE dL; have nN := aK.out; have nD := a8.out; obtain ⟨fG, k9, hK, fK, mB, iI, lD, kA, hU, fY, kE, lB⟩ := b6_ aD.out))
   refine bodyPost_ret (y4l rfl _ _ aM 25 #[.string nB_, .string nB_, .string nB_, .int .i64 0, .slice none 0 0, .slice none 0 0] (0, 0) _ rfl (bs_ aD.out) Try.underlying25 rfl (by kernel_rfl)) rfl ?_
   exact ⟨_, _, ew_, nil_, nil_, hb_⟩
  replace iP := Bool.eq_false_iff.mpr iP
  subst iP
  rw [if_neg (show ¬ (false = true) by decide)] at H
  by_cases cN : bZ = 0
  rotate_left
  ·rw [if_neg cN] at H
   have d0 := ef_ cN
   have c7 := nt_ cN
   simp only [Option.some.injEq, Prod.mk.injEq] at H
   obtain ⟨rfl, rfl, rfl, rfl, rfl, rfl, rfl⟩ := H
   have oD := aV.out
   have m9 := aW.out
   have oA := aI.out
   have nC := aX.out
   obtain ⟨iV, kR, iA, jG, jZ, f3, gE, gG, kF, lQ, h5, gM⟩ := b6_ aG.out
   obtain ⟨mT, mS, mZ⟩ := Kd.R_slice aA.out
   subst mZ
   go_wp2_with (first | (refine gc_ 22 ?_; refine gl_ (some 77) Try.func22 #[.agg #[.string aZ, .string a1, .string a2, .int .i64 a3, .slice a6 aY.length a7, .slice mT aH.length mS]] ?_; (with_reducible refine (zqg.calls kj27 aZ a1 a2 a3 _ _ aY _ _ aH b0 bZ _ ?side1 ?side2 ?side3 ?side4 jY.out).mono ?_); (case side1 => exact ck_ (Kd.R_reads' aC.out).2.2); (case side2 => exact (Kd.R_reads' aC.out).2.1); (case side3 => exact ck_ (Kd.R_reads' aA.out).2.2); (case side4 => exact (Kd.R_reads' aA.out).2.1); rintro e pB ⟨rfl, hb⟩; refine ⟨_, rfl, ?_⟩; replace aC := q_ (Kd.R_below (rk_ aC.out) hb); replace aA := q_ (Kd.R_below (rk_ aA.out) hb); replace aD := q_ (y0n (bk_ aD.out) hb); replace aG := q_ (y0n (bk_ aG.out) hb); replace HB := q_ (y0k hb_ hb); replace aE := q_ (IsS79.below (s79_ aE.out) hb); obtain ⟨a9, cM⟩ := aE.out; have dJ := y1e a9; have c4 := y1f a9; have c2 := y1g a9; have d7 := y0q a9 0; have d9 := y0q a9 1; have dK := y0q a9 2; clear a9 cM; have mO := aK.out; have mX := a8.out; obtain ⟨dY, dE, eB, d2, eC, c0, eF, eG, dM, dC, dF, d1⟩ := b6_ aD.out))
   refine bodyPost_ret (y4l rfl _ _ aM 25 #[.string nB_, .string nB_, .string nB_, .int .i64 0, .slice none 0 0, .slice none 0 0] (0, 0) _ rfl (bs_ aD.out) Try.underlying25 rfl (by kernel_rfl)) rfl ?_
   exact ⟨_, _, ew_, nil_, nil_, hb_⟩
  rw [if_pos cN] at H
  have d0 := et_ cN
  have c7 := nf_ cN
  clear cN
  by_cases cV : b0.toList = a0.toList
  rotate_left
  ·rw [if_neg cV] at H
   have dP := ef_ cV
   have dS := nt_ cV
   simp only [Option.some.injEq, Prod.mk.injEq] at H
   obtain ⟨rfl, rfl, rfl, rfl, rfl, rfl, rfl⟩ := H
   have nH := aV.out
   have m8 := aW.out
   have nT := aI.out
   have n4 := aX.out
   obtain ⟨eO, jX, eY, f8, l3, hN, fC, eW, iU, iE, gC, lW⟩ := b6_ aG.out
   obtain ⟨mQ, mK, mL⟩ := Kd.R_slice aA.out
   subst mL
   go_wp2_with (first | (refine gc_ 22 ?_; refine gl_ (some 77) Try.func22 #[.agg #[.string aZ, .string a1, .string a2, .int .i64 a3, .slice a6 aY.length a7, .slice mQ aH.length mK]] ?_; (with_reducible refine (zqg.calls kj27 aZ a1 a2 a3 _ _ aY _ _ aH b0 bZ _ ?side1 ?side2 ?side3 ?side4 jY.out).mono ?_); (case side1 => exact ck_ (Kd.R_reads' aC.out).2.2); (case side2 => exact (Kd.R_reads' aC.out).2.1); (case side3 => exact ck_ (Kd.R_reads' aA.out).2.2); (case side4 => exact (Kd.R_reads' aA.out).2.1); rintro e o6 ⟨rfl, hb⟩; refine ⟨_, rfl, ?_⟩; replace aC := q_ (Kd.R_below (rk_ aC.out) hb); replace aA := q_ (Kd.R_below (rk_ aA.out) hb); replace aD := q_ (y0n (bk_ aD.out) hb); replace aG := q_ (y0n (bk_ aG.out) hb); replace HB := q_ (y0k hb_ hb); replace aE := q_ (IsS79.below (s79_ aE.out) hb); obtain ⟨bG, c1⟩ := aE.out; have l9 := y1e bG; have hT := y1f bG; have hQ := y1g bG; have i5 := y0q bG 0; have fP := y0q bG 1; have eR := y0q bG 2; clear bG c1; have m7 := aK.out; have nM := a8.out; obtain ⟨gW, jE, gO, iL, mG, h2, f1, jK, jU, fL, f6, eS⟩ := b6_ aD.out))
   refine bodyPost_ret (y4l rfl _ _ aM 25 #[.string nB_, .string nB_, .string nB_, .int .i64 0, .slice none 0 0, .slice none 0 0] (0, 0) _ rfl (bs_ aD.out) Try.underlying25 rfl (by kernel_rfl)) rfl ?_
   exact ⟨_, _, ew_, nil_, nil_, hb_⟩
  rw [if_pos cV] at H
  have dP := et_ cV
  have dS := nf_ cV
  clear cV
  simp only [Option.some.injEq, Prod.mk.injEq] at H
  obtain ⟨rfl, rfl, rfl, rfl, rfl, rfl, rfl⟩ := H
  have nQ := aV.out
  have nS := aW.out
  have m2 := aI.out
  have n6 := aX.out
  obtain ⟨jQ, h4, lM, g3, fS, h3, iZ, gI, gL, j4, lR, lC⟩ := b6_ aG.out
  obtain ⟨cE, b7, mM⟩ := Kd.R_slice aA.out
  subst mM
  go_wp2_with (first | (refine gc_ 22 ?_; refine gl_ (some 77) Try.func22 #[.agg #[.string aZ, .string a1, .string a2, .int .i64 a3, .slice a6 aY.length a7, .slice cE aH.length b7]] ?_; (with_reducible refine (zqg.calls kj27 aZ a1 a2 a3 _ _ aY _ _ aH b0 bZ _ ?side1 ?side2 ?side3 ?side4 jY.out).mono ?_); (case side1 => exact ck_ (Kd.R_reads' aC.out).2.2); (case side2 => exact (Kd.R_reads' aC.out).2.1); (case side3 => exact ck_ (Kd.R_reads' aA.out).2.2); (case side4 => exact (Kd.R_reads' aA.out).2.1); rintro e o5 ⟨rfl, hb⟩; refine ⟨_, rfl, ?_⟩; replace aC := q_ (Kd.R_below (rk_ aC.out) hb); replace aA := q_ (Kd.R_below (rk_ aA.out) hb); replace aD := q_ (y0n (bk_ aD.out) hb); replace aG := q_ (y0n (bk_ aG.out) hb); replace HB := q_ (y0k hb_ hb); replace aE := q_ (IsS79.below (s79_ aE.out) hb); obtain ⟨bF, dO⟩ := aE.out; have g0 := y1e bF; have i6 := y1f bF; have lV := y1g bF; have i8 := y0q bF 0; have fQ := y0q bF 1; have jL := y0q bF 2; clear bF dO; obtain ⟨jP, i0, eX, g7, gJ, gK, i2, lY, iM, e9, lF, kX⟩ := b6_ aG.out; have n1 := aK.out; have n2 := a8.out; obtain ⟨e8, k4, j6, eK, lI, kM, fM, fX, h6, f0, fH, mC⟩ := b6_ aD.out))
  refine bodyPost_ret (y4l rfl _ _ aM 25 #[.string aZ, .string a1, .string a2, .int .i64 a3, .slice a6 aY.length a7, .slice cE aH.length b7] (0, 0) _ rfl (bs_ aD.out) Try.underlying25 rfl (by kernel_rfl)) rfl ?_
  exact ⟨_, _, ew_, by (with_reducible repeat (first | apply Kd.R_alloc | apply Kd.R_drewN | apply Kd.R_drew)); exact Kd.R_mono (Kd.R_far (p := ⟨aM, 5, none⟩) (Kd.R_far (p := ⟨aM, 4, none⟩) (Kd.R_far (p := ⟨aM, 3, none⟩) (Kd.R_far (p := ⟨aM, 2, none⟩) (Kd.R_far (p := ⟨aM, 1, none⟩) (Kd.R_far (p := ⟨aM, 0, none⟩) (Kd.R_types aC.out aD.out (by decide)) (fun _ hk => hk.2) (.string aZ)) (fun _ hk => hk.2) (.string a1)) (fun _ hk => hk.2) (.string a2)) (fun _ hk => hk.2) (.int .i64 a3)) (fun _ hk => hk.2) (.slice a6 aY.length a7)) (fun _ hk => hk.2) (.slice cE aH.length b7)) (fun _ hk => trivial), by (with_reducible repeat (first | apply Kd.R_alloc | apply Kd.R_drewN | apply Kd.R_drew)); exact Kd.R_mono (Kd.R_far (p := ⟨aM, 5, none⟩) (Kd.R_far (p := ⟨aM, 4, none⟩) (Kd.R_far (p := ⟨aM, 3, none⟩) (Kd.R_far (p := ⟨aM, 2, none⟩) (Kd.R_far (p := ⟨aM, 1, none⟩) (Kd.R_far (p := ⟨aM, 0, none⟩) (Kd.R_types aA.out aD.out (by decide)) (fun _ hk => hk.2) (.string aZ)) (fun _ hk => hk.2) (.string a1)) (fun _ hk => hk.2) (.string a2)) (fun _ hk => hk.2) (.int .i64 a3)) (fun _ hk => hk.2) (.slice a6 aY.length a7)) (fun _ hk => hk.2) (.slice cE aH.length b7)) (fun _ hk => trivial), hb_⟩
end Go.Proofs.Ytenlmckahaniiaa.K
end
