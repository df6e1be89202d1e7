/- Lemmas for the law LibraryEncodes: what its proof needs beyond what it shares. -/
import Derived.Test.YtenlmckahaniiaaZLibraryEncodes0
set_option linter.unusedVariables false
set_option linter.unusedSimpArgs false
set_option linter.unusedSectionVars false
set_option maxHeartbeats 8000000
set_option maxRecDepth 100000
section
namespace Go.Proofs.Ytenlmckahaniiaa.K
open Go.RowKit Go.Proofs.YtW.P Go.Proofs.YtW.L
def zq4.f (k : Nat) (s0_0 : ByteArray) (s0_1 : Int) (s0_2 : Bool) (a1 : Int) : Option (Int × ByteArray × Int × Bool) := (zq13.f k s0_0 s0_1 a1).bind fun bt480 => (if bt480.2.2 = 0 then (some (bt480.1, s0_0, bt480.2.1, s0_2)) else (some (0, s0_0, s0_1, true)))
theorem zq4.mono : ∀ a0 a1 a2 a3 k, LeO (zq4.f k a0 a1 a2 a3) (zq4.f (k + 1) a0 a1 a2 a3) := by
 intro a0 a1 a2 a3 k
 unfold zq4.f
 with_reducible repeat' first | apply zq13.mono | exact LeO.refl _ | exact LeO.none _ | refine LeO.ite ?_ ?_ | refine LeO.bind ?_ (fun _ => ?_)
theorem zq4.calls (k : Nat) (g : Nat) (aA : ByteArray) (aB : Int) (aI : Bool) (a1 : Int) (r1 : Int) (r2 : ByteArray) (r3 : Int) (r4 : Bool) (w0 w : World) (hI : IsS79 w0 w g aA aB aI) (hB : Below w0.heap.size w0 w) (h : zq4.f k aA aB aI a1 = some (r1, r2, r3, r4)) :
  Calls Try.prog 67 #[.pointer (some ⟨g, 0, none⟩), .int .i64 a1] w fun e w' => e = .returned (.int .i64 r1) ∧ IsS79 w0 w' g r2 r3 r4 ∧ Below w0.heap.size w0 w' ∧ KeepBut w w' g none := by
 have aJ := q_ hI
 have HK := q_ (KeepBut.refl w g none)
 have HL := q_ hB.size
 clear hI
 have a0 := q_ hB.size
 have HB := q_ hB
 clear hB
 have H : ((zq13.f k aA aB a1).bind fun aH => (if aH.2.2 = 0 then (some (aH.1, aA, aH.2.1, aI)) else (some (0, aA, aB, true)))) = some (r1, r2, r3, r4) := h
 clear h
 obtain ⟨⟨aG, aF, aC⟩, A3, H⟩ := bq_ H
 (try dsimp only at H)
 by_cases c4 : aC = 0
 rotate_left
 ·rw [if_neg c4] at H
  have aX := ef_ c4
  have aP := nt_ c4
  simp only [Option.some.injEq, Prod.mk.injEq] at H
  obtain ⟨rfl, rfl, rfl, rfl⟩ := H
  obtain ⟨aD, aQ⟩ := aJ.out
  have aT := y1e aD
  have aZ := y1f aD
  have aY := y1g aD
  have aN := y0q aD 0
  have aR := y0q aD 1
  have aL := y0q aD 2
  clear aD aQ
  go_enter Try.func67, Try.ntmps67
  go_wp2_with (first | (go_at_call 98; (with_reducible refine (zq13.calls k aA aB a1 aG aF aC _ A3.out).mono ?_); rintro e w' ⟨rfl, ⟨nd, rfl⟩⟩; (try first | exact ⟨rfl, _, World.drewN_drewN _ _ _⟩ | exact ⟨rfl, _, Eq.trans (World.drewN_drewN _ _ _) (congrArg (World.drewN _) (Nat.add_assoc _ _ _))⟩)))
  repeat (go_quiet (first | (go_at_call 98; (with_reducible refine (zq13.calls k aA aB a1 aG aF aC _ A3.out).mono ?_); rintro e w' ⟨rfl, ⟨nd, rfl⟩⟩; (try first | exact ⟨rfl, _, World.drewN_drewN _ _ _⟩ | exact ⟨rfl, _, Eq.trans (World.drewN_drewN _ _ _) (congrArg (World.drewN _) (Nat.add_assoc _ _ _))⟩))); try go_wp2_with (first | (go_at_call 98; (with_reducible refine (zq13.calls k aA aB a1 aG aF aC _ A3.out).mono ?_); rintro e w' ⟨rfl, ⟨nd, rfl⟩⟩; (try first | exact ⟨rfl, _, World.drewN_drewN _ _ _⟩ | exact ⟨rfl, _, Eq.trans (World.drewN_drewN _ _ _) (congrArg (World.drewN _) (Nat.add_assoc _ _ _))⟩))))
  go_ret
  exact ⟨ew_, s79_ aJ.out, hb_, hk_⟩
 rw [if_pos c4] at H
 have aX := et_ c4
 have aP := nf_ c4
 clear c4
 simp only [Option.some.injEq, Prod.mk.injEq] at H
 obtain ⟨rfl, rfl, rfl, rfl⟩ := H
 obtain ⟨aE, aV⟩ := aJ.out
 have aS := y1e aE
 have aM := y1f aE
 have aW := y1g aE
 have aU := y0q aE 0
 have aO := y0q aE 1
 have aK := y0q aE 2
 clear aE aV
 go_enter Try.func67, Try.ntmps67
 go_wp2_with (first | (go_at_call 98; (with_reducible refine (zq13.calls k aA aB a1 aG aF aC _ A3.out).mono ?_); rintro e w' ⟨rfl, ⟨nd, rfl⟩⟩; (try first | exact ⟨rfl, _, World.drewN_drewN _ _ _⟩ | exact ⟨rfl, _, Eq.trans (World.drewN_drewN _ _ _) (congrArg (World.drewN _) (Nat.add_assoc _ _ _))⟩)))
 repeat (go_quiet (first | (go_at_call 98; (with_reducible refine (zq13.calls k aA aB a1 aG aF aC _ A3.out).mono ?_); rintro e w' ⟨rfl, ⟨nd, rfl⟩⟩; (try first | exact ⟨rfl, _, World.drewN_drewN _ _ _⟩ | exact ⟨rfl, _, Eq.trans (World.drewN_drewN _ _ _) (congrArg (World.drewN _) (Nat.add_assoc _ _ _))⟩))); try go_wp2_with (first | (go_at_call 98; (with_reducible refine (zq13.calls k aA aB a1 aG aF aC _ A3.out).mono ?_); rintro e w' ⟨rfl, ⟨nd, rfl⟩⟩; (try first | exact ⟨rfl, _, World.drewN_drewN _ _ _⟩ | exact ⟨rfl, _, Eq.trans (World.drewN_drewN _ _ _) (congrArg (World.drewN _) (Nat.add_assoc _ _ _))⟩))))
 go_ret
 exact ⟨ew_, s79_ aJ.out, hb_, hk_⟩
mutual
def zq2.l0 : Nat → List (S62) → Int → ByteArray → Int → Bool → Option ((List (S62)) × ByteArray × Int × Bool)
  | 0, _, _, _, _, _ => none
  | k + 1, x3, x4, x1000, x1001, x1002 => if (x3.length : Int) < x4 then (zq2.j1 k x3 x4 (!x1002) x1000 x1001 x1002) else (zq2.j1 k x3 x4 false x1000 x1001 x1002)
def zq2.j1 : Nat → List (S62) → Int → Bool → ByteArray → Int → Bool → Option ((List (S62)) × ByteArray × Int × Bool)
  | 0, _, _, _, _, _, _ => none
  | k + 1, x3, x4, x18, x1000, x1001, x1002 => if x18 = true then ((zq5.f k x1000 x1001 x1002).bind fun bt488 => ((zq4.f k bt488.2.1 bt488.2.2.1 bt488.2.2.2 1).bind fun bt492 => ((zq4.f k bt492.2.1 bt492.2.2.1 bt492.2.2.2 2).bind fun bt496 => ((zq4.f k bt496.2.1 bt496.2.2.1 bt496.2.2.2 1).bind fun bt500 => (if x3.length < 3518437208883 then (zq2.l0 k (x3 ++ [(⟨bt488.1, bt492.1, bt496.1, (bt500.1 == 1)⟩ : S62)]) x4 bt500.2.1 bt500.2.2.1 bt500.2.2.2) else (none)))))) else (some (x3, x1000, x1001, x1002))
end
def zq2.f (k : Nat) (s0_0 : ByteArray) (s0_1 : Int) (s0_2 : Bool) : Option ((List (S62)) × ByteArray × Int × Bool) := (zq4.f k s0_0 s0_1 s0_2 2).bind fun bt483 => (zq2.l0 k ([] : List (S62)) bt483.1 bt483.2.1 bt483.2.2.1 bt483.2.2.2)
theorem zq2.mono_l : ∀ k, (∀ y0 y1 y2 y3 y4, LeO (zq2.l0 k y0 y1 y2 y3 y4) (zq2.l0 (k + 1) y0 y1 y2 y3 y4)) ∧ (∀ y0 y1 y2 y3 y4 y5, LeO (zq2.j1 k y0 y1 y2 y3 y4 y5) (zq2.j1 (k + 1) y0 y1 y2 y3 y4 y5))
 | 0 => ⟨fun _ _ _ _ _ r h => by simp [zq2.l0] at h, fun _ _ _ _ _ _ r h => by simp [zq2.j1] at h⟩
 | k + 1 => by
  obtain ⟨ih0, ih1⟩ := zq2.mono_l k
  refine ⟨?_, ?_⟩
  ·intro y0 y1 y2 y3 y4
   unfold zq2.l0
   with_reducible repeat' first | apply ih0 | apply ih1 | apply zq4.mono | apply zq5.mono | exact LeO.refl _ | exact LeO.none _ | refine LeO.ite ?_ ?_ | refine LeO.bind ?_ (fun _ => ?_)
  ·intro y0 y1 y2 y3 y4 y5
   unfold zq2.j1
   with_reducible repeat' first | apply ih0 | apply ih1 | apply zq4.mono | apply zq5.mono | exact LeO.refl _ | exact LeO.none _ | refine LeO.ite ?_ ?_ | refine LeO.bind ?_ (fun _ => ?_)
theorem zq2.mono : ∀ a0 a1 a2 k, LeO (zq2.f k a0 a1 a2) (zq2.f (k + 1) a0 a1 a2) := by
 intro a0 a1 a2 k
 obtain ⟨ih0, ih1⟩ := zq2.mono_l k
 unfold zq2.f
 with_reducible repeat' first | apply ih0 | apply ih1 | apply zq4.mono | apply zq5.mono | exact LeO.refl _ | exact LeO.none _ | refine LeO.ite ?_ ?_ | refine LeO.bind ?_ (fun _ => ?_)
theorem zq2.calls (k : Nat) (g : Nat) (a3 : ByteArray) (a4 : Int) (a0 : Bool) (r1 : List (S62)) (r2 : ByteArray) (r3 : Int) (r4 : Bool) (w0 w : World) (hI : IsS79 w0 w g a3 a4 a0) (hB : Below w0.heap.size w0 w) (h : zq2.f k a3 a4 a0 = some (r1, r2, r3, r4)) :
  Calls Try.prog 68 #[.pointer (some ⟨g, 0, none⟩)] w fun e w' => ∃ v0_ : Value, e = .returned (v0_) ∧ Kd.R k62 62 w' w.heap.size (fun _ => True) v0_ r1 ∧ IsS79 w0 w' g r2 r3 r4 ∧ Below w0.heap.size w0 w' ∧ KeepBut w w' g none := by
 have c2 := Try.underlying62
 have aH := q_ hI
 have HK := q_ (KeepBut.refl w g none)
 have HL := q_ hB.size
 clear hI
 have cX := q_ hB.size
 have HB := q_ hB
 clear hB
 have H : ((zq4.f k a3 a4 a0 2).bind fun aV => (zq2.l0 k ([] : List (S62)) aV.1 aV.2.1 aV.2.2.1 aV.2.2.2)) = some (r1, r2, r3, r4) := h
 clear h
 obtain ⟨⟨aX, bE, bI, bJ⟩, A2, H⟩ := bq_ H
 (try dsimp only at H)
 have H' := q_ H
 clear H
 go_enter Try.func68, Try.ntmps68
 go_wp2_with (first | (refine gc_ 67 ?_; refine gl_ (some 7) Try.func67 #[.pointer (some ⟨g, 0, none⟩), .int .i64 2] ?_; (with_reducible refine (zq4.calls k g a3 a4 a0 2 aX bE bI bJ w0 _ ?side1 ?side2 A2.out).mono ?_); (case side1 => exact s79_ aH.out); (case side2 => exact hb_); rintro e w3 ⟨rfl, hi, hb, hk⟩; refine ⟨_, rfl, ?_⟩; replace HK := q_ (KeepBut.trans (hk_ : KeepBut w _ g none) hk (.inl rfl)); replace HB := q_ (hb); replace aH := q_ (hi)))
 go_loopg [3] k (fun kq v3 w' => ∃ (aM : List (S62)) (aD : ByteArray) (aC : Int) (aA : Bool), Aside0 (zq2.l0 kq aM aX aD aC aA = some (r1, r2, r3, r4)) ∧ Aside0 (kq ≤ k) ∧ Aside0 (Kd.R k62 62 w' w.heap.size (fun _ => True) v3 aM) ∧ Aside0 (IsS79 w0 w' g aD aC aA) ∧ Aside0 (KeepBut w w' g none) ∧ Aside0 (Below w0.heap.size w0 w'))
 case atStart => exact ⟨(([] : List (S62))), (bE), (bI), (bJ), H', ⟨Nat.le_refl _⟩, ⟨nil_⟩, ⟨s79_ aH.out⟩, ⟨hk_⟩, ⟨hb_⟩⟩
 case round =>
  clear H'
  obtain ⟨aM, aD, aC, aA, HA, HK1, aG, aH, HK, HB⟩ := hrel
  obtain _ | k1 := gk
  ·exact nn_ HA
  have H := HA.out
  clear HA
  simp only [zq2.l0] at H
  have cJ := q_ H
  clear H
  go_upto_region 3 with (fail)
  go_cut [18] (fun c4 wc => ∃ (kq : Nat) (aU : Bool), c4 = .bool aU ∧ Aside0 (zq2.j1 kq aM aX aU aD aC aA = some (r1, r2, r3, r4)) ∧ Aside0 (kq ≤ k1) ∧ Aside0 (Kd.R k62 62 wc w.heap.size (fun _ => True) u3 aM) ∧ Aside0 (IsS79 w0 wc g aD aC aA) ∧ Aside0 (KeepBut w wc g none) ∧ Aside0 (Below w0.heap.size w0 wc))
  case first =>
   have H := cJ.out
   clear cJ
   by_cases c5 : (aM.length : Int) < aX
   rotate_left
   ·rw [if_neg c5] at H
    have aW := df_ c5
    clear c5
    (first | rw [aW] | (simp only [y2h, y2g]; rw [aW]) | skip)
    have H' := q_ H
    clear H
    obtain ⟨dH, dG, cW⟩ := Kd.R_slice aG.out
    subst cW
    go_wp2
    go_meet
    case rel => exact ⟨_, (false), cl_, H', ⟨ok_⟩, ⟨rk_ aG.out⟩, ⟨s79_ aH.out⟩, ⟨hk_⟩, ⟨hb_⟩⟩
   rw [if_pos c5] at H
   have aW := dt_ c5
   clear c5
   (first | rw [aW] | (simp only [y2h, y2g]; rw [aW]) | skip)
   have H' := q_ H
   clear H
   obtain ⟨dA, dC, cY⟩ := Kd.R_slice aG.out
   subst cY
   obtain ⟨aT, cQ⟩ := aH.out
   have cK := y1e aT
   have cN := y1f aT
   have cP := y1g aT
   have cI := y0q aT 0
   have cM := y0q aT 1
   have cL := y0q aT 2
   clear aT cQ
   go_wp2
   go_meet
   case rel => exact ⟨_, (!aA), cl_, H', ⟨ok_⟩, ⟨rk_ aG.out⟩, ⟨s79_ aH.out⟩, ⟨hk_⟩, ⟨hb_⟩⟩
  clear cJ
  obtain ⟨kq, aU, rfl, HA, cT, aG, aH, HK, HB⟩ := hcut
  obtain _ | kj3 := kq
  ·exact nn_ HA
  have H := HA.out
  clear HA
  simp only [zq2.j1] at H
  by_cases c9 : aU = true
  rotate_left
  ·replace c9 := Bool.eq_false_iff.mpr c9
   subst c9
   rw [if_neg (show ¬ (false = true) by decide)] at H
   simp only [Option.some.injEq, Prod.mk.injEq] at H
   obtain ⟨rfl, rfl, rfl, rfl⟩ := H
   go_wp2
   go_ret
   exact ⟨_, ew_, rk_ aG.out, s79_ aH.out, hb_, hk_⟩
  subst c9
  rw [if_pos rfl] at H
  obtain ⟨⟨aJ, a5, a7, a9⟩, c6, H⟩ := bq_ H
  obtain ⟨⟨aK, bB, a6, a8⟩, cZ, H⟩ := bq_ H
  obtain ⟨⟨aN, bC, bD, bA⟩, c1, H⟩ := bq_ H
  obtain ⟨⟨aR, aZ, aY, a2⟩, c0, H⟩ := bq_ H
  (try dsimp only at H)
  by_cases cE : aM.length < 3518437208883
  rotate_left
  ·rw [if_neg cE] at H
   exact absurd H (by simp)
  rw [if_pos cE] at H
  have bF := q_ cE
  clear cE
  obtain ⟨bG, aQ⟩ : ∃ y_ : List (S62), y_ = (aM ++ [(⟨aJ, aK, aN, (aR == 1)⟩ : S62)]) := ⟨_, rfl⟩
  replace H : (zq2.l0 kj3 bG aX aZ aY a2) = some (r1, r2, r3, r4) := by first | (rw [aQ]; with_reducible exact H) | (have cO := (Option.bind_some _ _).symm.trans H; rw [aQ]; with_reducible exact cO) | (have cO := (Option.bind_some _ _).symm.trans H; with_reducible exact cO) | with_reducible exact H | (rw [aQ]; exact H) | exact H
  have bK := q_ aQ
  clear aQ
  have H' := q_ H
  clear H
  go_wp2_with (first | (refine gd_ 5 ?_; refine bx_ 5 (cs := #[.string nB_, .int .i64 0, .int .i64 0, .bool false]) 62 ?_; intro aB hg c8 hbox hb; replace aG := q_ (Kd.R_below (Kd.R_elderB (rk_ aG.out) aB (Nat.le_of_eq hg.symm)) hb); replace HB := q_ (y0k hb_ hb); have aE := q_ (hbox); have cU := gw_ w hg (y2w (w := w) (g := g) (row := none) hk_); have cV := q_ ((Nat.le_trans cX.out (by rw [hg]; exact (y2w (w := w) (g := g) (row := none) hk_) : w.heap.size ≤ aB) : w0.heap.size ≤ aB)); replace HK := q_ (KeepBut.trans (hk_ : KeepBut w _ g none) (KeepBut.of_below hb g none) (.inl rfl)); have a1 := ml_ hg (IsS79.lt (show IsS79 w0 _ g aD aC aA from s79_ aH.out)); have aI := mg_ hg (IsS79.lt (show IsS79 w0 _ g aD aC aA from s79_ aH.out)); replace aH := q_ (IsS79.below (s79_ aH.out) hb); clear hb hbox hg) | (refine gc_ 66 ?_; refine gl_ (some 20) Try.func66 #[.pointer (some ⟨g, 0, none⟩)] ?_; (with_reducible refine (zq5.calls kj3 g aD aC aA aJ a5 a7 a9 w0 _ ?side1 ?side2 c6.out).mono ?_); (case side1 => exact s79_ aH.out); (case side2 => exact hb_); rintro e dF ⟨rfl, hi, hb, hk⟩; refine ⟨_, rfl, ?_⟩; replace aG := q_ (Kd.R_mono (Kd.R_keep (IsS79.apart (show IsS79 w0 _ g aD aC aA from s79_ aH.out) (rk_ aG.out) (by decide)) hk (fun _ h => h.2)) (fun _ h => h.1)); replace aE := q_ (KeepBut.blk hk (bk_ aE.out) aI.out (by simp)); replace HK := q_ (KeepBut.trans (hk_ : KeepBut w _ g none) hk (.inl rfl)); replace HB := q_ (hb); replace aH := q_ (hi); have cR := aI.out; have cS := a1.out; obtain ⟨cC, cB, b6, bS, bQ, b8, b5, cF⟩ := b4_ aE.out) | (refine gc_ 67 ?_; refine gl_ (some 23) Try.func67 #[.pointer (some ⟨g, 0, none⟩), .int .i64 1] ?_; (with_reducible refine (zq4.calls kj3 g a5 a7 a9 1 aK bB a6 a8 w0 _ ?side1 ?side2 cZ.out).mono ?_); (case side1 => exact s79_ aH.out); (case side2 => exact hb_); rintro e dE ⟨rfl, hi, hb, hk⟩; refine ⟨_, rfl, ?_⟩; replace aG := q_ (Kd.R_mono (Kd.R_keep (IsS79.apart (show IsS79 w0 _ g a5 a7 a9 from s79_ aH.out) (rm_ (Kd.R_far (p := ⟨aB, 0, none⟩) (Kd.R_mono aG.out (fun k_ hk => (⟨hk, hk.2⟩ : _ ∧ k_ ≠ aB))) (fun _ hk => hk.2) (.string aJ)) (fun _ h_ => h_.1)) (by decide)) hk (fun _ h => h.2)) (fun _ h => h.1)); replace aE := q_ (KeepBut.blk hk (g' := aB) (o := .cells #[.string aJ, .int .i64 0, .int .i64 0, .bool false] 62 (0, 0)) (bs_ aE.out) aI.out (by simp)); replace HK := q_ (KeepBut.trans (hk_ : KeepBut w _ g none) hk (.inl rfl)); replace HB := q_ (hb); replace aH := q_ (hi); obtain ⟨cD, bZ, bW, cA, bV, b1, b9, b7⟩ := b4_ aE.out) | (refine gc_ 67 ?_; refine gl_ (some 26) Try.func67 #[.pointer (some ⟨g, 0, none⟩), .int .i64 2] ?_; (with_reducible refine (zq4.calls kj3 g bB a6 a8 2 aN bC bD bA w0 _ ?side1 ?side2 c1.out).mono ?_); (case side1 => exact s79_ aH.out); (case side2 => exact hb_); rintro e dB ⟨rfl, hi, hb, hk⟩; refine ⟨_, rfl, ?_⟩; replace aG := q_ (Kd.R_mono (Kd.R_keep (IsS79.apart (show IsS79 w0 _ g bB a6 a8 from s79_ aH.out) (rm_ (Kd.R_far (p := ⟨aB, 1, none⟩) (Kd.R_mono aG.out (fun k_ hk => (⟨hk, hk.2⟩ : _ ∧ k_ ≠ aB))) (fun _ hk => hk.2) (.int .i64 aK)) (fun _ h_ => h_.1)) (by decide)) hk (fun _ h => h.2)) (fun _ h => h.1)); replace aE := q_ (KeepBut.blk hk (g' := aB) (o := .cells #[.string aJ, .int .i64 aK, .int .i64 0, .bool false] 62 (0, 0)) (bs_ aE.out) aI.out (by simp)); replace HK := q_ (KeepBut.trans (hk_ : KeepBut w _ g none) hk (.inl rfl)); replace HB := q_ (hb); replace aH := q_ (hi); obtain ⟨bX, b3, bU, cH, b2, bR, bM, b4⟩ := b4_ aE.out) | (refine gc_ 67 ?_; refine gl_ (some 29) Try.func67 #[.pointer (some ⟨g, 0, none⟩), .int .i64 1] ?_; (with_reducible refine (zq4.calls kj3 g bC bD bA 1 aR aZ aY a2 w0 _ ?side1 ?side2 c0.out).mono ?_); (case side1 => exact s79_ aH.out); (case side2 => exact hb_); rintro e dD ⟨rfl, hi, hb, hk⟩; refine ⟨_, rfl, ?_⟩; replace aG := q_ (Kd.R_mono (Kd.R_keep (IsS79.apart (show IsS79 w0 _ g bC bD bA from s79_ aH.out) (rm_ (Kd.R_far (p := ⟨aB, 2, none⟩) (Kd.R_mono aG.out (fun k_ hk => (⟨hk, hk.2⟩ : _ ∧ k_ ≠ aB))) (fun _ hk => hk.2) (.int .i64 aN)) (fun _ h_ => h_.1)) (by decide)) hk (fun _ h => h.2)) (fun _ h => h.1)); replace aE := q_ (KeepBut.blk hk (g' := aB) (o := .cells #[.string aJ, .int .i64 aK, .int .i64 aN, .bool false] 62 (0, 0)) (bs_ aE.out) aI.out (by simp)); replace HK := q_ (KeepBut.trans (hk_ : KeepBut w _ g none) hk (.inl rfl)); replace HB := q_ (hb); replace aH := q_ (hi); obtain ⟨bY, bT, bO, bP, cG, b0, bN, bL⟩ := b4_ aE.out) | ((with_reducible refine y22 (b := .append) (xs := #[.tmp 32, .tmp 34]) rfl ?_); at_builtin; refine Kd.R_append k62 w.heap.size rfl (.tmp 32) (.tmp 34) 22 62 (.agg #[(.string ⟨#[]⟩), (.int .i64 0), (.int .i64 0), (.bool false)]) 40 rfl Try.underlying22 info62 rfl (by decide) (by omega) u3 aM (⟨aJ, aK, aN, (aR == 1)⟩ : S62) [.string aJ, .int .i64 aK, .int .i64 aN, .bool (aR == 1)] (fun k_ => k_ ≠ aB) (fun _ => False) rfl (by first | (go_simp; done) | (go_simp; rfl)) ?aP (fun _ hk => hk.elim) ?aF ?aO (Below.refl _ _) ?aS ?aL ?_; (case aP => exact k62_mkM _ _ _ (⟨aJ, aK, aN, (aR == 1)⟩ : S62)); (case aF => exact (fun k_ hk => Kd.freshB (g := aB) (o := .cells #[.string aJ, .int .i64 aK, .int .i64 aN, .bool (aR == 1)] 62 (0, 0)) (bs_ aE.out) k_ hk)); (case aO => exact (rm_ (Kd.R_far (p := ⟨aB, 3, none⟩) (Kd.R_mono aG.out (fun k_ hk => (⟨hk, hk.2⟩ : _ ∧ k_ ≠ aB))) (fun _ hk => hk.2) (.bool (aR == 1))) (fun _ hk => hk.1.2))); (case aS => exact (y2w (w := w) (g := g) (row := none) hk_)); (case aL => have := bF.out; omega); intro c3 c7 ho hb hg hat; rw [← bK.out] at ho; replace aE := q_ (y0r (g := aB) (o := .cells #[.string aJ, .int .i64 aK, .int .i64 aN, .bool (aR == 1)] 62 (0, 0)) (bs_ aE.out) hg (Kd.R_away aG.out (fun _ hk => hk.2))); replace HB := q_ (y0l hb_ HL.out hb); replace aH := q_ (IsS79.grown (show IsS79 w0 _ g aZ aY a2 from s79_ aH.out) hg (IsS79.own_ne aH.out aG.out (by decide))); replace HK := q_ (KeepBut.trans (hk_ : KeepBut w _ g none) (KeepBut.of_grown hg g) (Kd.R_base2 aG.out)); have bH := q_ (ho); clear aG; clear ho hb hg hat))
  go_roundg kj3
  case measure => have := HK1.out; have := cT.out; omega
  case rel => exact ⟨(bG), (aZ), (aY), (a2), H', ⟨oj_ cT.out⟩, ⟨rm_ bH.out (fun _ hk => trivial)⟩, ⟨s79_ aH.out⟩, ⟨hk_⟩, ⟨hb_⟩⟩
end Go.Proofs.Ytenlmckahaniiaa.K
end
