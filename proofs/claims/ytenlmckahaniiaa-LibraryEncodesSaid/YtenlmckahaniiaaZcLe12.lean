/- Lemmas for several laws: what their proofs need of this seat's texts, in one place. -/
import Derived.Test.YtenlmckahaniiaaZcLe10
import Derived.Test.YtenlmckahaniiaaZcLe11
set_option linter.unusedVariables false
set_option linter.unusedSimpArgs false
set_option linter.unusedSectionVars false
set_option maxHeartbeats 8000000
set_option maxRecDepth 100000
section
namespace Go.Proofs.Ytenlmckahaniiaa.K
open Go.RowKit Go.Proofs.YtW.P Go.Proofs.YtW.L
mutual
def zq1h.l0 : Nat → ByteArray → Int → ByteArray → Int → Bool → ByteArray → ByteArray → ByteArray → Int → List (S62) → Option (ByteArray × ByteArray × ByteArray × Int × (List (S62)) × (List (S43)) × Int)
  | 0, _, _, _, _, _, _, _, _, _, _ => none
  | k + 1, x4, x8, x195000, x195001, x195002, x212000, x212001, x212002, x212003, x212004 => if x8 > 0 then (zq1h.j1 k x4 x8 (!x195002) x195000 x195001 x195002 x212000 x212001 x212002 x212003 x212004) else (zq1h.j1 k x4 x8 false x195000 x195001 x195002 x212000 x212001 x212002 x212003 x212004)
def zq1h.j1 : Nat → ByteArray → Int → Bool → ByteArray → Int → Bool → ByteArray → ByteArray → ByteArray → Int → List (S62) → Option (ByteArray × ByteArray × ByteArray × Int × (List (S62)) × (List (S43)) × Int)
  | 0, _, _, _, _, _, _, _, _, _, _, _ => none
  | k + 1, x4, x8, x45, x195000, x195001, x195002, x212000, x212001, x212002, x212003, x212004 => if x45 = true then ((zq11.f k x195000 x195001 x195002).bind fun bt216 => ((zq17.f k bt216.2.1 bt216.2.2.1 bt216.2.2.2 1).bind fun bt220 => ((zq17.f k bt220.2.1 bt220.2.2.1 bt220.2.2.2 2).bind fun bt224 => ((zq17.f k bt224.2.1 bt224.2.2.1 bt224.2.2.2 1).bind fun bt228 => (if x212004.length < 3518437208883 then (zq1h.l0 k x4 (wrap64 (x8 - 1)) bt228.2.1 bt228.2.2.1 bt228.2.2.2 x212000 x212001 x212002 x212003 (x212004 ++ [(⟨bt216.1, bt220.1, bt224.1, (bt228.1 == 1)⟩ : S62)])) else (none)))))) else ((zq17.f k x195000 x195001 x195002 2).bind fun bt235 => (zq1h.l1 k x4 bt235.1 bt235.2.1 bt235.2.2.1 bt235.2.2.2 x212000 x212001 x212002 x212003 x212004 ([] : List (S43))))
def zq1h.l1 : Nat → ByteArray → Int → ByteArray → Int → Bool → ByteArray → ByteArray → ByteArray → Int → List (S62) → List (S43) → Option (ByteArray × ByteArray × ByteArray × Int × (List (S62)) × (List (S43)) × Int)
  | 0, _, _, _, _, _, _, _, _, _, _, _ => none
  | k + 1, x4, x9, x195000, x195001, x195002, x212000, x212001, x212002, x212003, x212004, x212005 => if x9 > 0 then (zq1h.j3 k x4 x9 (!x195002) x195000 x195001 x195002 x212000 x212001 x212002 x212003 x212004 x212005) else (zq1h.j3 k x4 x9 false x195000 x195001 x195002 x212000 x212001 x212002 x212003 x212004 x212005)
def zq1h.j3 : Nat → ByteArray → Int → Bool → ByteArray → Int → Bool → ByteArray → ByteArray → ByteArray → Int → List (S62) → List (S43) → Option (ByteArray × ByteArray × ByteArray × Int × (List (S62)) × (List (S43)) × Int)
  | 0, _, _, _, _, _, _, _, _, _, _, _, _ => none
  | k + 1, x4, x9, x73, x195000, x195001, x195002, x212000, x212001, x212002, x212003, x212004, x212005 => if x73 = true then ((zq17.f k x195000 x195001 x195002 1).bind fun bt239 => ((zq17.f k bt239.2.1 bt239.2.2.1 bt239.2.2.2 2).bind fun bt243 => ((zq17.f k bt243.2.1 bt243.2.2.1 bt243.2.2.2 1).bind fun bt247 => ((zq11.f k bt247.2.1 bt247.2.2.1 bt247.2.2.2).bind fun bt251 => ((zq17.f k bt251.2.1 bt251.2.2.1 bt251.2.2.2 1).bind fun bt255 => (if x212005.length < 2932031007402 then (zq1h.l1 k x4 (wrap64 (x9 - 1)) bt255.2.1 bt255.2.2.1 bt255.2.2.2 x212000 x212001 x212002 x212003 x212004 (x212005 ++ [(⟨bt239.1, bt243.1, bt247.1, bt251.1, (bt255.1 == 1)⟩ : S43)])) else (none))))))) else (if x195002 = true then (some (nB_, nB_, nB_, 0, ([] : List (S62)), ([] : List (S43)), 9)) else ((zq1o.f k x212000 x212001 x212002 x212003 x212004 x212005).bind fun t262 => (if t262 = 0 then ((zq1s.f k x212000 x212001 x212002 x212003 x212004 x212005).bind fun t263 => (if t263.toList = x4.toList then (some (x212000, x212001, x212002, x212003, x212004, x212005, 0)) else (some (nB_, nB_, nB_, 0, ([] : List (S62)), ([] : List (S43)), 9)))) else (some (nB_, nB_, nB_, 0, ([] : List (S62)), ([] : List (S43)), 9)))))
end
def zq1h.f (k : Nat) (a0 : ByteArray) : Option (ByteArray × ByteArray × ByteArray × Int × (List (S62)) × (List (S43)) × Int) := (zq1t.f k a0).bind fun bt191 => (if bt191.2 = 0 then ((zq18.f bt191.1 (⟨#[79, 66, 74, 49]⟩ : ByteArray)).bind fun t193 => (if t193 = true then ((zq11.f k bt191.1 4 false).bind fun bt195 => ((zq11.f k bt195.2.1 bt195.2.2.1 bt195.2.2.2).bind fun bt199 => ((zq11.f k bt199.2.1 bt199.2.2.1 bt199.2.2.2).bind fun bt203 => ((zq17.f k bt203.2.1 bt203.2.2.1 bt203.2.2.2 2).bind fun bt207 => ((zq17.f k bt207.2.1 bt207.2.2.1 bt207.2.2.2 2).bind fun bt212 => (zq1h.l0 k bt191.1 bt212.1 bt212.2.1 bt212.2.2.1 bt212.2.2.2 bt195.1 bt199.1 bt203.1 bt207.1 ([] : List (S62)))))))) else (some (nB_, nB_, nB_, 0, ([] : List (S62)), ([] : List (S43)), 9)))) else (some (nB_, nB_, nB_, 0, ([] : List (S62)), ([] : List (S43)), bt191.2)))
theorem zq1h.mono_l : ∀ k, (∀ y0 y1 y2 y3 y4 y5 y6 y7 y8 y9, LeO (zq1h.l0 k y0 y1 y2 y3 y4 y5 y6 y7 y8 y9) (zq1h.l0 (k + 1) y0 y1 y2 y3 y4 y5 y6 y7 y8 y9)) ∧ (∀ y0 y1 y2 y3 y4 y5 y6 y7 y8 y9 y10, LeO (zq1h.j1 k y0 y1 y2 y3 y4 y5 y6 y7 y8 y9 y10) (zq1h.j1 (k + 1) y0 y1 y2 y3 y4 y5 y6 y7 y8 y9 y10)) ∧ (∀ y0 y1 y2 y3 y4 y5 y6 y7 y8 y9 y10, LeO (zq1h.l1 k y0 y1 y2 y3 y4 y5 y6 y7 y8 y9 y10) (zq1h.l1 (k + 1) y0 y1 y2 y3 y4 y5 y6 y7 y8 y9 y10)) ∧ (∀ y0 y1 y2 y3 y4 y5 y6 y7 y8 y9 y10 y11, LeO (zq1h.j3 k y0 y1 y2 y3 y4 y5 y6 y7 y8 y9 y10 y11) (zq1h.j3 (k + 1) y0 y1 y2 y3 y4 y5 y6 y7 y8 y9 y10 y11))
 | 0 => ⟨fun _ _ _ _ _ _ _ _ _ _ r h => by simp [zq1h.l0] at h, fun _ _ _ _ _ _ _ _ _ _ _ r h => by simp [zq1h.j1] at h, fun _ _ _ _ _ _ _ _ _ _ _ r h => by simp [zq1h.l1] at h, fun _ _ _ _ _ _ _ _ _ _ _ _ r h => by simp [zq1h.j3] at h⟩
 | k + 1 => by
  obtain ⟨ih0, ih1, ih2, ih3⟩ := zq1h.mono_l k
  refine ⟨?_, ?_, ?_, ?_⟩
  ·intro y0 y1 y2 y3 y4 y5 y6 y7 y8 y9
   unfold zq1h.l0
   with_reducible repeat' first | apply ih0 | apply ih1 | apply ih2 | apply ih3 | apply zq1o.mono | apply zq1s.mono | apply zq17.mono | apply zq11.mono | apply zq1t.mono | exact LeO.refl _ | exact LeO.none _ | refine LeO.ite ?_ ?_ | refine LeO.bind ?_ (fun _ => ?_)
  ·intro y0 y1 y2 y3 y4 y5 y6 y7 y8 y9 y10
   unfold zq1h.j1
   with_reducible repeat' first | apply ih0 | apply ih1 | apply ih2 | apply ih3 | apply zq1o.mono | apply zq1s.mono | apply zq17.mono | apply zq11.mono | apply zq1t.mono | exact LeO.refl _ | exact LeO.none _ | refine LeO.ite ?_ ?_ | refine LeO.bind ?_ (fun _ => ?_)
  ·intro y0 y1 y2 y3 y4 y5 y6 y7 y8 y9 y10
   unfold zq1h.l1
   with_reducible repeat' first | apply ih0 | apply ih1 | apply ih2 | apply ih3 | apply zq1o.mono | apply zq1s.mono | apply zq17.mono | apply zq11.mono | apply zq1t.mono | exact LeO.refl _ | exact LeO.none _ | refine LeO.ite ?_ ?_ | refine LeO.bind ?_ (fun _ => ?_)
  ·intro y0 y1 y2 y3 y4 y5 y6 y7 y8 y9 y10 y11
   unfold zq1h.j3
   with_reducible repeat' first | apply ih0 | apply ih1 | apply ih2 | apply ih3 | apply zq1o.mono | apply zq1s.mono | apply zq17.mono | apply zq11.mono | apply zq1t.mono | exact LeO.refl _ | exact LeO.none _ | refine LeO.ite ?_ ?_ | refine LeO.bind ?_ (fun _ => ?_)
theorem zq1h.mono : ∀ a0 k, LeO (zq1h.f k a0) (zq1h.f (k + 1) a0) := by
 intro a0 k
 obtain ⟨ih0, ih1, ih2, ih3⟩ := zq1h.mono_l k
 unfold zq1h.f
 with_reducible repeat' first | apply ih0 | apply ih1 | apply ih2 | apply ih3 | apply zq1o.mono | apply zq1s.mono | apply zq17.mono | apply zq11.mono | apply zq1t.mono | exact LeO.refl _ | exact LeO.none _ | refine LeO.ite ?_ ?_ | refine LeO.bind ?_ (fun _ => ?_)
def zq1h.T11 : Bool × List (List Nat × List Nat) := (true, [([], []), ([0], [0]), ([], []), ([2], [2]), ([], []), ([4, 3], [4]), ([], []), ([6, 5], [6]), ([], []), ([8, 7], [8]), ([9], [9]), ([3, 5, 7, 10], [3, 5, 7, 10]), ([11], [11]), ([1, 12, 9], [1, 12]), ([0, 1, 2, 3, 4, 5, 6, 7, 8, 9, 10, 11, 12, 13], []), ([14, 13, 13, 0, 1, 2, 3, 4, 5, 6, 7, 8, 9, 10, 11, 12, 13], [13, 14])])
def zq1h.B11 : List Nat := [0, 1, 0, 4, 0, 28, 0, 124, 0, 508, 1020, 2044, 4092, 8191, 16383, 32767]
theorem zq1h.tab11 : rtab .any (opsOf Try.f24 11) = zq1h.T11 := by kernel_rfl
theorem zq1h.bits11 : waitsOk zq1h.T11.2 zq1h.B11 = true := by kernel_rfl
def zq1h.T15 : Bool × List (List Nat × List Nat) := (true, [([], []), ([0], [0]), ([], []), ([2], [2]), ([], []), ([4, 3], [4]), ([], []), ([6, 5], [6]), ([], []), ([8, 7], [8]), ([], []), ([10, 9], [10]), ([11], [11]), ([3, 5, 7, 9, 12], [3, 5, 7, 9, 12]), ([13], [13]), ([1, 14, 11], [1, 14]), ([0, 1, 2, 3, 4, 5, 6, 7, 8, 9, 10, 11, 12, 13, 14, 15], []), ([16, 15, 15, 0, 1, 2, 3, 4, 5, 6, 7, 8, 9, 10, 11, 12, 13, 14, 15], [15, 16])])
def zq1h.B15 : List Nat := [0, 1, 0, 4, 0, 28, 0, 124, 0, 508, 0, 2044, 4092, 8188, 16380, 32767, 65535, 131071]
theorem zq1h.tab15 : rtab .any (opsOf Try.f24 15) = zq1h.T15 := by kernel_rfl
theorem zq1h.bits15 : waitsOk zq1h.T15.2 zq1h.B15 = true := by kernel_rfl
theorem zq1h.calls (k : Nat) (a0 : ByteArray) (r1 : ByteArray) (r2 : ByteArray) (r3 : ByteArray) (r4 : Int) (r5 : List (S62)) (r6 : List (S43)) (r7 : Int) (w : World) (h : zq1h.f k a0 = some (r1, r2, r3, r4, r5, r6, r7)) :
  Calls Try.prog 24 #[.string a0] w fun e w' => ∃ v4_ v5_ : Value, e = .returned (.tuple #[.agg #[.string r1, .string r2, .string r3, .int .i64 r4, v4_, v5_], .int .i64 r7]) ∧ Kd.R k62 62 w' w.heap.size (fun _ => True) v4_ r5 ∧ Kd.R k43 43 w' w.heap.size (fun _ => True) v5_ r6 ∧ Below w.heap.size w w' := by
 have l6 := Try.underlying25
 have lX := Try.underlying74
 have mB := Try.underlying62
 have mQ := Try.underlying43
 have HB := q_ (Below.refl w.heap.size w)
 have H : ((zq1t.f k a0).bind fun bG => (if bG.2 = 0 then ((zq18.f bG.1 (⟨#[79, 66, 74, 49]⟩ : ByteArray)).bind fun dK => (if dK = true then ((zq11.f k bG.1 4 false).bind fun bO => ((zq11.f k bO.2.1 bO.2.2.1 bO.2.2.2).bind fun bP => ((zq11.f k bP.2.1 bP.2.2.1 bP.2.2.2).bind fun bN => ((zq17.f k bN.2.1 bN.2.2.1 bN.2.2.2 2).bind fun bQ => ((zq17.f k bQ.2.1 bQ.2.2.1 bQ.2.2.2 2).bind fun bR => (zq1h.l0 k bG.1 bR.1 bR.2.1 bR.2.2.1 bR.2.2.2 bO.1 bP.1 bN.1 bQ.1 ([] : List (S62)))))))) else (some (nB_, nB_, nB_, 0, ([] : List (S62)), ([] : List (S43)), 9)))) else (some (nB_, nB_, nB_, 0, ([] : List (S62)), ([] : List (S43)), bG.2)))) = some (r1, r2, r3, r4, r5, r6, r7) := h
 clear h
 obtain ⟨⟨a5, cT⟩, A2, H⟩ := bq_ H
 (try dsimp only at H)
 by_cases c3 : cT = 0
 rotate_left
 ·rw [if_neg c3] at H
  have kP := ef_ c3
  have kR := nt_ c3
  simp only [Option.some.injEq, Prod.mk.injEq] at H
  obtain ⟨rfl, rfl, rfl, rfl, rfl, rfl, rfl⟩ := H
  go_enter Try.func24, Try.ntmps24
  go_wp2_with (first | (refine gd_ 2 ?_; refine bx_ 2 (cs := #[.string nB_, .string nB_, .string nB_, .int .i64 0, .slice none 0 0, .slice none 0 0]) 25 ?_; intro aN hg l5 hbox hb; have aE := q_ (hbox); have cU := gw_ w hg (y0j hb_); have cX := gw_ w hg (y0j hb_); replace HB := q_ (y0k hb_ hb); clear hb hbox hg) | (refine gc_ 61 ?_; refine gl_ (some 12) Try.func61 #[.string a0] ?_; (with_reducible refine (zq1t.calls k a0 a5 cT _ A2.out).mono ?_); rintro e mN ⟨rfl, hb⟩; refine ⟨_, rfl, ?_⟩; replace aE := q_ (y0n (bk_ aE.out) hb); replace HB := q_ (y0k hb_ hb); obtain ⟨eV, e3, eH, eJ, d7, eA, eE, eG, dW, fO, dR, d5⟩ := b6_ aE.out))
  refine bodyPost_ret (y4l rfl _ _ aN 25 #[.string nB_, .string nB_, .string nB_, .int .i64 0, .slice none 0 0, .slice none 0 0] (0, 0) _ rfl (bs_ aE.out) Try.underlying25 rfl (by kernel_rfl)) rfl ?_
  exact ⟨_, _, ew_, nil_, nil_, hb_⟩
 rw [if_pos c3] at H
 have kP := et_ c3
 have kR := nf_ c3
 clear c3
 obtain ⟨dK, A4, H⟩ := bq_ H
 (try dsimp only at H)
 by_cases c5 : dK = true
 rotate_left
 ·replace c5 := Bool.eq_false_iff.mpr c5
  subst c5
  rw [if_neg (show ¬ (false = true) by decide)] at H
  simp only [Option.some.injEq, Prod.mk.injEq] at H
  obtain ⟨rfl, rfl, rfl, rfl, rfl, rfl, rfl⟩ := H
  go_enter Try.func24, Try.ntmps24
  go_wp2_with (first | (refine gd_ 2 ?_; refine bx_ 2 (cs := #[.string nB_, .string nB_, .string nB_, .int .i64 0, .slice none 0 0, .slice none 0 0]) 25 ?_; intro aN hg lZ hbox hb; have aE := q_ (hbox); have cU := gw_ w hg (y0j hb_); have cX := gw_ w hg (y0j hb_); replace HB := q_ (y0k hb_ hb); clear hb hbox hg) | (refine gc_ 61 ?_; refine gl_ (some 12) Try.func61 #[.string a0] ?_; (with_reducible refine (zq1t.calls k a0 a5 cT _ A2.out).mono ?_); rintro e bY ⟨rfl, hb⟩; refine ⟨_, rfl, ?_⟩; replace aE := q_ (y0n (bk_ aE.out) hb); replace HB := q_ (y0k hb_ hb)) | (refine gc_ 62 ?_; refine gl_ (some 20) Try.func62 #[.string a5, .string (⟨#[79, 66, 74, 49]⟩ : ByteArray)] ?_; (with_reducible refine (zq18.calls a5 (⟨#[79, 66, 74, 49]⟩ : ByteArray) false _ A4.out).mono ?_); rintro e w' ⟨rfl, ⟨nd, rfl⟩⟩; refine ⟨_, rfl, ?_⟩; (try (rw [y1u bY]; generalize hq_ : World.drewN bY _ = bY; have b1 : Aside0 (bY.heap[aN]? = some (.cells #[.string nB_, .string nB_, .string nB_, .int .i64 0, .slice none 0 0, .slice none 0 0] 25 (0, 0))) := ⟨by rw [← hq_]; exact (bk_ aE.out)⟩; have bU : Aside0 (Below w.heap.size w bY) := ⟨by rw [← hq_]; exact hb_⟩; clear aE HB hq_; have aE := b1; have HB := bU; clear b1 bU)); obtain ⟨eF, fB, e0, d3, dQ, fG, d8, eI, fM, fK, dT, eT⟩ := b6_ aE.out))
  refine bodyPost_ret (y4l rfl _ _ aN 25 #[.string nB_, .string nB_, .string nB_, .int .i64 0, .slice none 0 0, .slice none 0 0] (0, 0) _ rfl (bs_ aE.out) Try.underlying25 rfl (by kernel_rfl)) rfl ?_
  exact ⟨_, _, ew_, nil_, nil_, hb_⟩
 subst c5
 rw [if_pos rfl] at H
 obtain ⟨⟨a3, fH, fP, dP⟩, A6, H⟩ := bq_ H
 obtain ⟨⟨a4, fF, eL, e2⟩, A7, H⟩ := bq_ H
 obtain ⟨⟨a2, fJ, eK, eQ⟩, A8, H⟩ := bq_ H
 obtain ⟨⟨a1, cS, cM, cQ⟩, A9, H⟩ := bq_ H
 obtain ⟨⟨e8, d1, fN, fE⟩, l3, H⟩ := bq_ H
 (try dsimp only at H)
 have H' := q_ H
 clear H
 go_enter Try.func24, Try.ntmps24
 go_wp2_with (first | (refine gd_ 2 ?_; refine bx_ 2 (cs := #[.string nB_, .string nB_, .string nB_, .int .i64 0, .slice none 0 0, .slice none 0 0]) 25 ?_; intro aN hg nB hbox hb; have aE := q_ (hbox); have cU := gw_ w hg (y0j hb_); have cX := gw_ w hg (y0j hb_); replace HB := q_ (y0k hb_ hb); clear hb hbox hg) | (refine gc_ 61 ?_; refine gl_ (some 12) Try.func61 #[.string a0] ?_; (with_reducible refine (zq1t.calls k a0 a5 cT _ A2.out).mono ?_); rintro e fI ⟨rfl, hb⟩; refine ⟨_, rfl, ?_⟩; replace aE := q_ (y0n (bk_ aE.out) hb); replace HB := q_ (y0k hb_ hb)) | (refine gc_ 62 ?_; refine gl_ (some 20) Try.func62 #[.string a5, .string (⟨#[79, 66, 74, 49]⟩ : ByteArray)] ?_; (with_reducible refine (zq18.calls a5 (⟨#[79, 66, 74, 49]⟩ : ByteArray) true _ A4.out).mono ?_); rintro e w' ⟨rfl, ⟨nd, rfl⟩⟩; refine ⟨_, rfl, ?_⟩; (try (rw [y1u fI]; generalize hq_ : World.drewN fI _ = fI; have b1 : Aside0 (fI.heap[aN]? = some (.cells #[.string nB_, .string nB_, .string nB_, .int .i64 0, .slice none 0 0, .slice none 0 0] 25 (0, 0))) := ⟨by rw [← hq_]; exact (bk_ aE.out)⟩; have bU : Aside0 (Below w.heap.size w fI) := ⟨by rw [← hq_]; exact hb_⟩; clear aE HB hq_; have aE := b1; have HB := bU; clear b1 bU))) | (refine gd_ 25 ?_; refine bx_ 25 (cs := #[.string a5, .int .i64 4, .bool false]) 74 ?_; intro aH hg mS hbox hb; have aG := q_ ((show IsS74 w mS aH a5 4 false from ⟨hbox, by rw [hg]; exact (y0j hb_)⟩)); have k2 := gw_ w hg (y0j hb_); have k5 := gw_ w hg (y0j hb_); replace HB := q_ (y0k hb_ hb); have aJ := nl_ hg (bk_ aE.out); have a6 := ng_ hg (bk_ aE.out); replace aE := q_ (y0n (bk_ aE.out) hb); clear hb hbox hg) | (refine gc_ 63 ?_; refine gl_ (some 27) Try.func63 #[.pointer (some ⟨aH, 0, none⟩)] ?_; (with_reducible refine (zq11.calls k aH a5 4 false a3 fH fP dP w _ ?side1 ?side2 A6.out).mono ?_); (case side1 => exact s74_ aG.out); (case side2 => exact hb_); rintro e m7 ⟨rfl, hi, hb, hk⟩; refine ⟨_, rfl, ?_⟩; replace aE := q_ (KeepBut.blk hk (bk_ aE.out) aJ.out (by simp)); replace HB := q_ (hb); replace aG := q_ (hi)) | (refine gc_ 63 ?_; refine gl_ (some 29) Try.func63 #[.pointer (some ⟨aH, 0, none⟩)] ?_; (with_reducible refine (zq11.calls k aH fH fP dP a4 fF eL e2 w _ ?side1 ?side2 A7.out).mono ?_); (case side1 => exact s74_ aG.out); (case side2 => exact hb_); rintro e m0 ⟨rfl, hi, hb, hk⟩; refine ⟨_, rfl, ?_⟩; replace aE := q_ (KeepBut.blk hk (bk_ aE.out) aJ.out (by simp)); replace HB := q_ (hb); replace aG := q_ (hi)) | (refine gc_ 63 ?_; refine gl_ (some 31) Try.func63 #[.pointer (some ⟨aH, 0, none⟩)] ?_; (with_reducible refine (zq11.calls k aH fF eL e2 a2 fJ eK eQ w _ ?side1 ?side2 A8.out).mono ?_); (case side1 => exact s74_ aG.out); (case side2 => exact hb_); rintro e m3 ⟨rfl, hi, hb, hk⟩; refine ⟨_, rfl, ?_⟩; replace aE := q_ (KeepBut.blk hk (bk_ aE.out) aJ.out (by simp)); replace HB := q_ (hb); replace aG := q_ (hi)) | (refine gc_ 64 ?_; refine gl_ (some 33) Try.func64 #[.pointer (some ⟨aH, 0, none⟩), .int .i64 2] ?_; (with_reducible refine (zq17.calls k aH fJ eK eQ 2 a1 cS cM cQ w _ ?side1 ?side2 A9.out).mono ?_); (case side1 => exact s74_ aG.out); (case side2 => exact hb_); rintro e m5 ⟨rfl, hi, hb, hk⟩; refine ⟨_, rfl, ?_⟩; replace aE := q_ (KeepBut.blk hk (bk_ aE.out) aJ.out (by simp)); replace HB := q_ (hb); replace aG := q_ (hi)) | (refine gd_ 7 ?_; refine bx_ 7 (cs := #[.string nB_, .string nB_, .string nB_, .int .i64 0, .slice none 0 0, .slice none 0 0]) 25 ?_; intro aV hg nD hbox hb; have aA := q_ (hbox); have lG := gw_ w hg (y0j hb_); have lJ := gw_ w hg (y0j hb_); replace HB := q_ (y0k hb_ hb); have aY := nl_ hg (bk_ aE.out); have aZ := ng_ hg (bk_ aE.out); replace aE := q_ (y0n (bk_ aE.out) hb); have a7 := ml_ hg (IsS74.lt (show IsS74 w _ aH cS cM cQ from s74_ aG.out)); have aM := mg_ hg (IsS74.lt (show IsS74 w _ aH cS cM cQ from s74_ aG.out)); replace aG := q_ (IsS74.below (s74_ aG.out) hb); clear hb hbox hg; have lQ := aZ.out; have lN := aY.out; have kY := aM.out; have lD := a7.out; obtain ⟨g7, fX, iD, jR, gW, h5, g4, hI, g9, hZ, hU, jJ⟩ := b6_ aA.out) | (refine gc_ 64 ?_; refine gl_ (some 36) Try.func64 #[.pointer (some ⟨aH, 0, none⟩), .int .i64 2] ?_; (with_reducible refine (zq17.calls k aH cS cM cQ 2 e8 d1 fN fE w _ ?side1 ?side2 l3.out).mono ?_); (case side1 => exact s74_ aG.out); (case side2 => exact hb_); rintro e mY ⟨rfl, hi, hb, hk⟩; refine ⟨_, rfl, ?_⟩; replace aE := q_ (KeepBut.blk hk (g' := aN) (o := .cells #[.string nB_, .string nB_, .string nB_, .int .i64 0, .slice none 0 0, .slice none 0 0] 25 (0, 0)) (bs_ aE.out) aJ.out (by simp)); replace aA := q_ (KeepBut.blk hk (g' := aV) (o := .cells #[.string a3, .string a4, .string a2, .int .i64 a1, .slice none 0 0, .slice none 0 0] 25 (0, 0)) (bs_ aA.out) aM.out (by simp)); replace HB := q_ (hb); replace aG := q_ (hi)))
 go_loopg [8] k (fun kq v8 w' => ∃ (bM : Int) (aU : ByteArray) (aT : Int) (aR : Bool) (aI : List (S62)) (u212004 : Value), v8 = .int .i64 bM ∧ Aside0 (zq1h.l0 kq a5 bM aU aT aR a3 a4 a2 a1 aI = some (r1, r2, r3, r4, r5, r6, r7)) ∧ Aside0 (kq ≤ k) ∧ Aside0 (Kd.R k62 62 w' w.heap.size (fun _ => True) u212004 aI) ∧ Aside0 (w'.heap[aN]? = some (.cells #[.string nB_, .string nB_, .string nB_, .int .i64 0, (.slice none 0 0), (.slice none 0 0)] 25 (0, 0))) ∧ Aside0 (w'.heap[aV]? = some (.cells #[.string a3, .string a4, .string a2, .int .i64 a1, u212004, (.slice none 0 0)] 25 (0, 0))) ∧ Aside0 (IsS74 w w' aH aU aT aR) ∧ Aside0 (Below w.heap.size w w'))
 case atStart => exact ⟨(e8), (d1), (fN), (fE), (([] : List (S62))), (.slice none 0 0), cl_, H', ⟨Nat.le_refl _⟩, ⟨nil_⟩, ⟨bk_ aE.out⟩, ⟨bk_ aA.out⟩, ⟨s74_ aG.out⟩, ⟨hb_⟩⟩
 case round =>
  clear H'
  obtain ⟨bM, aU, aT, aR, aI, u212004, rfl, HA, HK1, aC, aE, aA, aG, HB⟩ := hrel
  obtain _ | k1 := gk
  ·exact nn_ HA
  have H := HA.out
  clear HA
  simp only [zq1h.l0] at H
  have dF := q_ H
  clear H
  go_upto_region 9 with (fail)
  go_cut [45] (fun mC wc => ∃ (kq : Nat) (bF : Bool), mC = .bool bF ∧ Aside0 (zq1h.j1 kq a5 bM bF aU aT aR a3 a4 a2 a1 aI = some (r1, r2, r3, r4, r5, r6, r7)) ∧ Aside0 (kq ≤ k1) ∧ Aside0 (Kd.R k62 62 wc w.heap.size (fun _ => True) u212004 aI) ∧ Aside0 (wc.heap[aN]? = some (.cells #[.string nB_, .string nB_, .string nB_, .int .i64 0, (.slice none 0 0), (.slice none 0 0)] 25 (0, 0))) ∧ Aside0 (wc.heap[aV]? = some (.cells #[.string a3, .string a4, .string a2, .int .i64 a1, u212004, (.slice none 0 0)] 25 (0, 0))) ∧ Aside0 (IsS74 w wc aH aU aT aR) ∧ Aside0 (Below w.heap.size w wc))
  case first =>
   have H := dF.out
   clear dF
   by_cases dM : bM > 0
   rotate_left
   ·rw [if_neg dM] at H
    have bI := df_ dM
    clear dM
    (first | rw [bI] | (simp only [y2h, y2g]; rw [bI]) | skip)
    have H' := q_ H
    clear H
    go_wp2
    go_meet
    case rel => exact ⟨_, (false), cl_, H', ⟨ok_⟩, ⟨rk_ aC.out⟩, ⟨bk_ aE.out⟩, ⟨bk_ aA.out⟩, ⟨s74_ aG.out⟩, ⟨hb_⟩⟩
   rw [if_pos dM] at H
   have bI := dt_ dM
   clear dM
   (first | rw [bI] | (simp only [y2h, y2g]; rw [bI]) | skip)
   have H' := q_ H
   clear H
   obtain ⟨a9, e9⟩ := aG.out
   have jY := y1b a9
   have hO := y1c a9
   have iS := y1d a9
   have jA := y0q a9 0
   have jW := y0q a9 1
   have i6 := y0q a9 2
   clear a9 e9
   go_wp2
   go_meet
   case rel => exact ⟨_, (!aR), cl_, H', ⟨ok_⟩, ⟨rk_ aC.out⟩, ⟨bk_ aE.out⟩, ⟨bk_ aA.out⟩, ⟨s74_ aG.out⟩, ⟨hb_⟩⟩
  clear dF
  obtain ⟨kq, bF, rfl, HA, bS, aC, aE, aA, aG, HB⟩ := hcut
  obtain _ | kj22 := kq
  ·exact nn_ HA
  have H := HA.out
  clear HA
  simp only [zq1h.j1] at H
  by_cases fZ : bF = true
  ·subst fZ
   rw [if_pos rfl] at H
   obtain ⟨⟨bW, c9, c8, c6⟩, mJ, H⟩ := bq_ H
   obtain ⟨⟨bT, dC, dE, cZ⟩, mH, H⟩ := bq_ H
   obtain ⟨⟨bX, c0, dD, c7⟩, mE, H⟩ := bq_ H
   obtain ⟨⟨b2, cB, cP, b7⟩, lU, H⟩ := bq_ H
   (try dsimp only at H)
   by_cases jB : aI.length < 3518437208883
   rotate_left
   ·rw [if_neg jB] at H
    exact absurd H (by simp)
   rw [if_pos jB] at H
   have dZ := q_ jB
   clear jB
   obtain ⟨cJ, bK⟩ : ∃ y_ : List (S62), y_ = (aI ++ [(⟨bW, bT, bX, (b2 == 1)⟩ : S62)]) := ⟨_, rfl⟩
   replace H : (zq1h.l0 kj22 a5 (wrap64 (bM - 1)) cB cP b7 a3 a4 a2 a1 cJ) = some (r1, r2, r3, r4, r5, r6, r7) := by first | (rw [bK]; with_reducible exact H) | (have c1 := (Option.bind_some _ _).symm.trans H; rw [bK]; with_reducible exact c1) | (have c1 := (Option.bind_some _ _).symm.trans H; with_reducible exact c1) | with_reducible exact H | (rw [bK]; exact H) | exact H
   have eU := q_ bK
   clear bK
   have H' := q_ H
   clear H
   try go_wp2
   replace aC := q_ (Kd.R_drew aC.out)
   replace aE := q_ (y0p aE.out)
   replace aA := q_ (y0p aA.out)
   replace aG := q_ (IsS74.drew aG.out)
   replace HB := q_ (y0h HB.out)
   refine start_ (n := 16) (S := fun w' => w'.cell? ⟨aV, 0, none⟩ = some (.string a3) ∧ w'.cell? ⟨aV, 1, none⟩ = some (.string a4) ∧ w'.cell? ⟨aV, 2, none⟩ = some (.string a2) ∧ w'.cell? ⟨aV, 3, none⟩ = some (.int .i64 a1) ∧ w'.cell? ⟨aV, 4, none⟩ = some (u212004) ∧ w'.cell? ⟨aV, 5, none⟩ = some (.slice none 0 0)) (ds := [15]) #[false, false, false, false, false, false, false, false, false, false, false, false, false, false, false, false] (by kernel_rfl) rfl rfl ⟨(y0o aA.out 0).trans rfl, (y0o aA.out 1).trans rfl, (y0o aA.out 2).trans rfl, (y0o aA.out 3).trans rfl, (y0o aA.out 4).trans rfl, (y0o aA.out 5).trans rfl⟩ (fun hHeld => ?_); refine y5o zq1h.tab11 zq1h.bits11 (fun HT_ HW_ => ?_)
   generalize wc.drew = m4 at aC aE aA aG HB hHeld ⊢
   refine pv_ 0 (some 48) (fl 16 1) ?_
   refine pv_ 2 (some 50) (fl 16 5) ?_
   refine pv_ 4 (some 52) (fl 16 21) ?_
   refine pv_ 6 (some 54) (fl 16 85) ?_
   refine pv_ 8 (some 56) (fl 16 341) ?_
   refine tv_ 1 (some 49) (fl 16 343) ?_
   refine one_ (i := 3) (N := some 51) (fl 16 351) rfl rfl (y3l HT_.out (by kernel_rfl)) (by decide) (fun K hK => ?_)
   refine gs_ Try.func63 #[.pointer (some ⟨aH, 0, none⟩)] ?_
   with_reducible refine (zq11.calls kj22 aH aU aT aR bW c9 c8 c6 w _ ?side1 ?side2 mJ.out).mono ?_
   (case side1 => exact s74_ aG.out)
   (case side2 => exact hb_)
   rintro e mV ⟨rfl, hi, hb, hk⟩
   refine ⟨_, rfl, ?_⟩
   replace aC := q_ (Kd.R_mono (Kd.R_keep (IsS74.apart (show IsS74 w _ aH aU aT aR from s74_ aG.out) (rk_ aC.out) (by decide)) hk (fun _ h => h.2)) (fun _ h => h.1))
   replace aE := q_ (KeepBut.blk hk (bk_ aE.out) aJ.out (by simp))
   replace aA := q_ (KeepBut.blk hk (bk_ aA.out) aM.out (by simp))
   replace HB := q_ (hb)
   replace aG := q_ (hi)
   refine hK.out _ _ ⟨(y0o aA.out 0).trans rfl, (y0o aA.out 1).trans rfl, (y0o aA.out 2).trans rfl, (y0o aA.out 3).trans rfl, (y0o aA.out 4).trans rfl, (y0o aA.out 5).trans rfl⟩ (fun hHeld => ?_)
   clear hK K
   refine no_ (N := some 51) ?_
   refine one_ (i := 5) (N := some 53) (fl 16 383) rfl rfl (y3l HT_.out (by kernel_rfl)) (by decide) (fun K hK => ?_)
   refine gs_ Try.func64 #[.pointer (some ⟨aH, 0, none⟩), .int .i64 1] ?_
   with_reducible refine (zq17.calls kj22 aH c9 c8 c6 1 bT dC dE cZ w _ ?side1 ?side2 mH.out).mono ?_
   (case side1 => exact s74_ aG.out)
   (case side2 => exact hb_)
   rintro e nA ⟨rfl, hi, hb, hk⟩
   refine ⟨_, rfl, ?_⟩
   replace aC := q_ (Kd.R_mono (Kd.R_keep (IsS74.apart (show IsS74 w _ aH c9 c8 c6 from s74_ aG.out) (rk_ aC.out) (by decide)) hk (fun _ h => h.2)) (fun _ h => h.1))
   replace aE := q_ (KeepBut.blk hk (bk_ aE.out) aJ.out (by simp))
   replace aA := q_ (KeepBut.blk hk (bk_ aA.out) aM.out (by simp))
   replace HB := q_ (hb)
   replace aG := q_ (hi)
   refine hK.out _ _ ⟨(y0o aA.out 0).trans rfl, (y0o aA.out 1).trans rfl, (y0o aA.out 2).trans rfl, (y0o aA.out 3).trans rfl, (y0o aA.out 4).trans rfl, (y0o aA.out 5).trans rfl⟩ (fun hHeld => ?_)
   clear hK K
   refine no_ (N := some 53) ?_
   refine one_ (i := 7) (N := some 55) (fl 16 511) rfl rfl (y3l HT_.out (by kernel_rfl)) (by decide) (fun K hK => ?_)
   refine gs_ Try.func64 #[.pointer (some ⟨aH, 0, none⟩), .int .i64 2] ?_
   with_reducible refine (zq17.calls kj22 aH dC dE cZ 2 bX c0 dD c7 w _ ?side1 ?side2 mE.out).mono ?_
   (case side1 => exact s74_ aG.out)
   (case side2 => exact hb_)
   rintro e nF ⟨rfl, hi, hb, hk⟩
   refine ⟨_, rfl, ?_⟩
   replace aC := q_ (Kd.R_mono (Kd.R_keep (IsS74.apart (show IsS74 w _ aH dC dE cZ from s74_ aG.out) (rk_ aC.out) (by decide)) hk (fun _ h => h.2)) (fun _ h => h.1))
   replace aE := q_ (KeepBut.blk hk (bk_ aE.out) aJ.out (by simp))
   replace aA := q_ (KeepBut.blk hk (bk_ aA.out) aM.out (by simp))
   replace HB := q_ (hb)
   replace aG := q_ (hi)
   refine hK.out _ _ ⟨(y0o aA.out 0).trans rfl, (y0o aA.out 1).trans rfl, (y0o aA.out 2).trans rfl, (y0o aA.out 3).trans rfl, (y0o aA.out 4).trans rfl, (y0o aA.out 5).trans rfl⟩ (fun hHeld => ?_)
   clear hK K
   refine no_ (N := some 55) ?_
   refine one_ (i := 9) (N := some 57) (fl 16 1023) rfl rfl (y3l HT_.out (by kernel_rfl)) (by decide) (fun K hK => ?_)
   refine gs_ Try.func64 #[.pointer (some ⟨aH, 0, none⟩), .int .i64 1] ?_
   with_reducible refine (zq17.calls kj22 aH c0 dD c7 1 b2 cB cP b7 w _ ?side1 ?side2 lU.out).mono ?_
   (case side1 => exact s74_ aG.out)
   (case side2 => exact hb_)
   rintro e mU ⟨rfl, hi, hb, hk⟩
   refine ⟨_, rfl, ?_⟩
   replace aC := q_ (Kd.R_mono (Kd.R_keep (IsS74.apart (show IsS74 w _ aH c0 dD c7 from s74_ aG.out) (rk_ aC.out) (by decide)) hk (fun _ h => h.2)) (fun _ h => h.1))
   replace aE := q_ (KeepBut.blk hk (bk_ aE.out) aJ.out (by simp))
   replace aA := q_ (KeepBut.blk hk (bk_ aA.out) aM.out (by simp))
   replace HB := q_ (hb)
   replace aG := q_ (hi)
   refine hK.out _ _ ⟨(y0o aA.out 0).trans rfl, (y0o aA.out 1).trans rfl, (y0o aA.out 2).trans rfl, (y0o aA.out 3).trans rfl, (y0o aA.out 4).trans rfl, (y0o aA.out 5).trans rfl⟩ (fun hHeld => ?_)
   clear hK K
   refine no_ (N := some 57) ?_
   refine pv_ 10 (some 58) (fl 16 2047) ?_
   refine pv_ 11 (some 59) (fl 16 4095) ?_
   refine one_ (i := 12) (N := some 60) (fl 16 8191) rfl rfl (y3l HT_.out (by kernel_rfl)) (by decide) (fun K hK => ?_)
   refine value_ (w1 := ?_) (v := ?_) (by rfl) rfl ?_ ?_
   rotate_left 2
   ·go_simp
    constructor
    ·rfl
    ·rfl
   refine hK.out _ _ ⟨(y0o (y0m aA.out _) 0).trans rfl, (y0o (y0m aA.out _) 1).trans rfl, (y0o (y0m aA.out _) 2).trans rfl, (y0o (y0m aA.out _) 3).trans rfl, (y0o (y0m aA.out _) 4).trans rfl, (y0o (y0m aA.out _) 5).trans rfl⟩ (fun hHeld => ?_)
   clear hK K
   refine no_ (N := some 60) ?_
   refine one_ (i := 13) (N := some 61) (fl 16 16383) rfl rfl (y3l HT_.out (by kernel_rfl)) (by decide) (fun K hK => ?_)
   refine Kd.R_append_step k62 (w0 := w) w.heap.size (by rfl) (.tmp 49) (.tmp 60) 22 62 (.agg #[(.string ⟨#[]⟩), (.int .i64 0), (.int .i64 0), (.bool false)]) 40 rfl Try.underlying22 info62 rfl (by decide) (by omega) u212004 aI (⟨bW, bT, bX, (b2 == 1)⟩ : S62) [.string bW, .int .i64 bT, .int .i64 bX, .bool (b2 == 1)] (fun _ => True) (fun _ => False) rfl rfl ?aP (fun _ hk => hk.elim) ?aF ?aO ?aB ?aS ?aL ?_
   (case aP => exact k62_mkM _ _ _ (⟨bW, bT, bX, (b2 == 1)⟩ : S62))
   (case aB => exact hb_)
   (case aF => exact (fun _ _ => trivial))
   (case aO => exact (rk_ aC.out))
   (case aS => exact (y0j hb_))
   (case aL => have := dZ.out; omega)
   intro lY lW ho hb hg hat
   rw [← eU.out] at ho
   have b1 := q_ (y0r (bk_ aE.out) hg (Kd.R_ne aC.out aE.out (by decide)))
   have bU := q_ (y0r (bk_ aA.out) hg (Kd.R_ne aC.out aA.out (by decide)))
   have eX := q_ (IsS74.grown (show IsS74 w _ aH cB cP b7 from s74_ aG.out) hg (IsS74.own_ne aG.out aC.out (by decide)))
   have eB := q_ (hb)
   have d2 := q_ (ho)
   clear aE aA aG HB aC
   have aE := b1; have aA := bU; have aG := eX; have HB := eB; have cW := d2
   clear b1 bU eX eB d2 ho hb hg hat
   obtain ⟨d0, eO, eS⟩ := Kd.R_slice cW.out
   (first | subst eS | (injection eS with f1_ f2_ f3_; have kO := f1_.symm; have kM := f3_.symm; clear f1_ f2_ f3_; subst kO; subst kM))
   refine hK.out _ _ ⟨(y0o aA.out 0).trans rfl, (y0o aA.out 1).trans rfl, (y0o aA.out 2).trans rfl, (y0o aA.out 3).trans rfl, (y0o aA.out 4).trans rfl, (y0o aA.out 5).trans rfl⟩ (fun hHeld => ?_)
   clear hK K
   refine no_ (N := some 61) ?_
   refine pv_ 14 (some 62) (fl 16 32767) ?_
   refine last_ (i := 15) (N := none) (fl 16 65535) rfl rfl (y3l HT_.out (by kernel_rfl)) (by decide) (fun K hK => ?_)
   have mF : lW.cell? ⟨aV, 4, none⟩ = some (u212004) := (y0o aA.out 4).trans rfl
   have k4 := y0q aA.out 4
   have kE := aY.out
   have i5 := aZ.out
   refine skip_ (w1 := ?_) (by rfl) rfl ?_ ?_
   rotate_left
   ·go_simp
    rfl
   refine hK.out _ _ ?_
   clear hK K
   refine done_ (y1s HT_.out (by kernel_rfl)) ?_
   try go_wp2
   go_roundg kj22
   case measure => have := HK1.out; have := bS.out; omega
   case rel => exact ⟨(wrap64 (bM - 1)), (cB), (cP), (b7), (cJ), (.slice d0 cJ.length eO), cl_, H', ⟨oj_ bS.out⟩, ⟨rm_ (Kd.R_far (p := ⟨aV, 4, none⟩) (Kd.R_types cW.out aA.out (by decide)) (fun _ hk => hk.2) (.slice d0 cJ.length eO)) (fun _ hk => trivial)⟩, ⟨bs_ aE.out⟩, ⟨bs_ aA.out⟩, ⟨s74_ aG.out⟩, ⟨hb_⟩⟩
  replace fZ := Bool.eq_false_iff.mpr fZ
  subst fZ
  rw [if_neg (show ¬ (false = true) by decide)] at H
  obtain ⟨⟨e6, e1, fC, d9⟩, mA, H⟩ := bq_ H
  (try dsimp only at H)
  have H' := q_ H
  clear H
  go_wp2_with (first | (refine gc_ 64 ?_; refine gl_ (some 64) Try.func64 #[.pointer (some ⟨aH, 0, none⟩), .int .i64 2] ?_; (with_reducible refine (zq17.calls kj22 aH aU aT aR 2 e6 e1 fC d9 w _ ?side1 ?side2 mA.out).mono ?_); (case side1 => exact s74_ aG.out); (case side2 => exact hb_); rintro e mT ⟨rfl, hi, hb, hk⟩; refine ⟨_, rfl, ?_⟩; replace aC := q_ (Kd.R_mono (Kd.R_keep (IsS74.apart (show IsS74 w _ aH aU aT aR from s74_ aG.out) (rk_ aC.out) (by decide)) hk (fun _ h => h.2)) (fun _ h => h.1)); replace aE := q_ (KeepBut.blk hk (bk_ aE.out) aJ.out (by simp)); replace aA := q_ (KeepBut.blk hk (bk_ aA.out) aM.out (by simp)); replace HB := q_ (hb); replace aG := q_ (hi)))
  go_loopg [9] kj22 (fun kq v9 w' => ∃ (bL : Int) (aX : ByteArray) (aW : Int) (aQ : Bool) (aK : List (S43)) (u212005 : Value), v9 = .int .i64 bL ∧ Aside0 (zq1h.l1 kq a5 bL aX aW aQ a3 a4 a2 a1 aI aK = some (r1, r2, r3, r4, r5, r6, r7)) ∧ Aside0 (kq ≤ kj22) ∧ Aside0 (Kd.R k62 62 w' w.heap.size (fun _ => True) u212004 aI) ∧ Aside0 (Kd.R k43 43 w' w.heap.size (fun _ => True) u212005 aK) ∧ Aside0 (w'.heap[aN]? = some (.cells #[.string nB_, .string nB_, .string nB_, .int .i64 0, (.slice none 0 0), (.slice none 0 0)] 25 (0, 0))) ∧ Aside0 (w'.heap[aV]? = some (.cells #[.string a3, .string a4, .string a2, .int .i64 a1, u212004, u212005] 25 (0, 0))) ∧ Aside0 (IsS74 w w' aH aX aW aQ) ∧ Aside0 (Below w.heap.size w w'))
  case atStart => exact ⟨(e6), (e1), (fC), (d9), (([] : List (S43))), (.slice none 0 0), cl_, H', ⟨Nat.le_refl _⟩, ⟨rk_ aC.out⟩, ⟨nil_⟩, ⟨bk_ aE.out⟩, ⟨bk_ aA.out⟩, ⟨s74_ aG.out⟩, ⟨hb_⟩⟩
  case round =>
   clear H'
   obtain ⟨bL, aX, aW, aQ, aK, u212005, rfl, HA, i7, aC, aD, aE, aA, aG, HB⟩ := hrel
   obtain _ | k3 := gk
   ·exact nn_ HA
   have H := HA.out
   clear HA
   simp only [zq1h.l1] at H
   have dL := q_ H
   clear H
   go_upto_region 13 with (fail)
   go_cut [73] (fun mI wc => ∃ (kq : Nat) (bE : Bool), mI = .bool bE ∧ Aside0 (zq1h.j3 kq a5 bL bE aX aW aQ a3 a4 a2 a1 aI aK = some (r1, r2, r3, r4, r5, r6, r7)) ∧ Aside0 (kq ≤ k3) ∧ Aside0 (Kd.R k62 62 wc w.heap.size (fun _ => True) u212004 aI) ∧ Aside0 (Kd.R k43 43 wc w.heap.size (fun _ => True) u212005 aK) ∧ Aside0 (wc.heap[aN]? = some (.cells #[.string nB_, .string nB_, .string nB_, .int .i64 0, (.slice none 0 0), (.slice none 0 0)] 25 (0, 0))) ∧ Aside0 (wc.heap[aV]? = some (.cells #[.string a3, .string a4, .string a2, .int .i64 a1, u212004, u212005] 25 (0, 0))) ∧ Aside0 (IsS74 w wc aH aX aW aQ) ∧ Aside0 (Below w.heap.size w wc))
   case first =>
    have H := dL.out
    clear dL
    by_cases dN : bL > 0
    rotate_left
    ·rw [if_neg dN] at H
     have bH := df_ dN
     clear dN
     (first | rw [bH] | (simp only [y2h, y2g]; rw [bH]) | skip)
     have H' := q_ H
     clear H
     go_wp2
     go_meet
     case rel => exact ⟨_, (false), cl_, H', ⟨by have := HK1.out; have := bS.out; have := i7.out; first | omega | exact Nat.le_refl _⟩, ⟨rk_ aC.out⟩, ⟨rk_ aD.out⟩, ⟨bk_ aE.out⟩, ⟨bk_ aA.out⟩, ⟨s74_ aG.out⟩, ⟨hb_⟩⟩
    rw [if_pos dN] at H
    have bH := dt_ dN
    clear dN
    (first | rw [bH] | (simp only [y2h, y2g]; rw [bH]) | skip)
    have H' := q_ H
    clear H
    obtain ⟨bD, dU⟩ := aG.out
    have jV := y1b bD
    have hC := y1c bD
    have iE := y1d bD
    have jF := y0q bD 0
    have h8 := y0q bD 1
    have j8 := y0q bD 2
    clear bD dU
    go_wp2
    go_meet
    case rel => exact ⟨_, (!aQ), cl_, H', ⟨by have := HK1.out; have := bS.out; have := i7.out; first | omega | exact Nat.le_refl _⟩, ⟨rk_ aC.out⟩, ⟨rk_ aD.out⟩, ⟨bk_ aE.out⟩, ⟨bk_ aA.out⟩, ⟨s74_ aG.out⟩, ⟨hb_⟩⟩
   clear dL
   obtain ⟨kq, bE, rfl, HA, eP, aC, aD, aE, aA, aG, HB⟩ := hcut
   obtain _ | kj41 := kq
   ·exact nn_ HA
   have H := HA.out
   clear HA
   simp only [zq1h.j3] at H
   by_cases hH : bE = true
   rotate_left
   ·replace hH := Bool.eq_false_iff.mpr hH
    subst hH
    rw [if_neg (show ¬ (false = true) by decide)] at H
    by_cases f3 : aQ = true
    ·subst f3
     rw [if_pos rfl] at H
     simp only [Option.some.injEq, Prod.mk.injEq] at H
     obtain ⟨rfl, rfl, rfl, rfl, rfl, rfl, rfl⟩ := H
     obtain ⟨a8, eC⟩ := aG.out
     have hA := y1b a8
     have jO := y1c a8
     have hB := y1d a8
     have jI := y0q a8 0
     have g3 := y0q a8 1
     have j6 := y0q a8 2
     clear a8 eC
     have kV := aY.out
     have lI := aZ.out
     have kW := aJ.out
     have kX := a6.out
     obtain ⟨f5, hQ, hJ, iA, jK, h7, jC, jH, gC, gI, fT, i8⟩ := b6_ aE.out
     go_wp2
     refine bodyPost_ret (y4l rfl _ _ aN 25 #[.string nB_, .string nB_, .string nB_, .int .i64 0, .slice none 0 0, .slice none 0 0] (0, 0) _ rfl (bs_ aE.out) Try.underlying25 rfl (by kernel_rfl)) rfl ?_
     exact ⟨_, _, ew_, nil_, nil_, hb_⟩
    replace f3 := Bool.eq_false_iff.mpr f3
    subst f3
    rw [if_neg (show ¬ (false = true) by decide)] at H
    obtain ⟨cF, kN, H⟩ := bq_ H
    (try dsimp only at H)
    by_cases dB : cF = 0
    rotate_left
    ·rw [if_neg dB] at H
     have dY := ef_ dB
     have dX := nt_ dB
     simp only [Option.some.injEq, Prod.mk.injEq] at H
     obtain ⟨rfl, rfl, rfl, rfl, rfl, rfl, rfl⟩ := H
     obtain ⟨bA, eM⟩ := aG.out
     have h1 := y1b bA
     have iZ := y1c bA
     have i1 := y1d bA
     have f7 := y0q bA 0
     have gO := y0q bA 1
     have g5 := y0q bA 2
     clear bA eM
     have kU := aZ.out
     have lA := aY.out
     have lR := aM.out
     have kZ := a7.out
     obtain ⟨iN, iL, gS, hM, gF, iW, gP, gK, gA, jG, jL, j0⟩ := b6_ aA.out
     obtain ⟨l2, lV, kL⟩ := Kd.R_slice aC.out
     subst kL
     obtain ⟨mM, mK, kT⟩ := Kd.R_slice aD.out
     subst kT
     go_wp2_with (first | (go_at_call 18; (with_reducible refine (zq1o.calls kj41 a3 a4 a2 a1 _ _ aI _ _ aK cF _ ?side1 ?side2 ?side3 ?side4 kN.out).mono ?_); (case side1 => exact ck_ (Kd.R_reads' aC.out).2.2); (case side2 => exact (Kd.R_reads' aC.out).2.1); (case side3 => exact ck_ (Kd.R_reads' aD.out).2.2); (case side4 => exact (Kd.R_reads' aD.out).2.1); rintro e nC ⟨rfl, hb⟩; replace aC := q_ (Kd.R_below (rk_ aC.out) hb); replace aD := q_ (Kd.R_below (rk_ aD.out) hb); replace aE := q_ (y0n (bk_ aE.out) hb); replace aA := q_ (y0n (bk_ aA.out) hb); replace HB := q_ (y0k hb_ hb); replace aG := q_ (IsS74.below (s74_ aG.out) hb); have kK := aJ.out; have kI := a6.out; obtain ⟨dS, fQ, fL, dO, d6, eR, e7, e5, d4, dV, e4, eD⟩ := b6_ aE.out))
     refine bodyPost_ret (y4l rfl _ _ aN 25 #[.string nB_, .string nB_, .string nB_, .int .i64 0, .slice none 0 0, .slice none 0 0] (0, 0) _ rfl (bs_ aE.out) Try.underlying25 rfl (by kernel_rfl)) rfl ?_
     exact ⟨_, _, ew_, nil_, nil_, hb_⟩
    rw [if_pos dB] at H
    have dY := et_ dB
    have dX := nf_ dB
    clear dB
    obtain ⟨dJ, lK, H⟩ := bq_ H
    (try dsimp only at H)
    by_cases dH : dJ.toList = a5.toList
    rotate_left
    ·rw [if_neg dH] at H
     have eN := ef_ dH
     have fA := nt_ dH
     simp only [Option.some.injEq, Prod.mk.injEq] at H
     obtain ⟨rfl, rfl, rfl, rfl, rfl, rfl, rfl⟩ := H
     obtain ⟨bB, fR⟩ := aG.out
     have h4 := y1b bB
     have hE := y1c bB
     have gU := y1d bB
     have hF := y0q bB 0
     have iU := y0q bB 1
     have gX := y0q bB 2
     clear bB fR
     have lF := aZ.out
     have lH := aY.out
     have k7 := aM.out
     have k6 := a7.out
     obtain ⟨fS, hV, hD, f8, h0, h2, iT, j9, iP, jU, iB, gY⟩ := b6_ aA.out
     obtain ⟨l9, l4, kJ⟩ := Kd.R_slice aC.out
     subst kJ
     obtain ⟨mP, lS, kH⟩ := Kd.R_slice aD.out
     subst kH
     go_wp2_with (first | (go_at_call 18; (with_reducible refine (zq1o.calls kj41 a3 a4 a2 a1 _ _ aI _ _ aK cF _ ?side1 ?side2 ?side3 ?side4 kN.out).mono ?_); (case side1 => exact ck_ (Kd.R_reads' aC.out).2.2); (case side2 => exact (Kd.R_reads' aC.out).2.1); (case side3 => exact ck_ (Kd.R_reads' aD.out).2.2); (case side4 => exact (Kd.R_reads' aD.out).2.1); rintro e m1 ⟨rfl, hb⟩; replace aC := q_ (Kd.R_below (rk_ aC.out) hb); replace aD := q_ (Kd.R_below (rk_ aD.out) hb); replace aE := q_ (y0n (bk_ aE.out) hb); replace aA := q_ (y0n (bk_ aA.out) hb); replace HB := q_ (y0k hb_ hb); replace aG := q_ (IsS74.below (s74_ aG.out) hb); obtain ⟨fU, i0, f2, gZ, j7, hP, gH, f0, iH, h6, g1, j2⟩ := b6_ aA.out) | (go_at_call 55; (with_reducible refine (zq1s.calls kj41 a3 a4 a2 a1 _ _ aI _ _ aK dJ _ ?side1 ?side2 ?side3 ?side4 lK.out).mono ?_); (case side1 => exact ck_ (Kd.R_reads' aC.out).2.2); (case side2 => exact (Kd.R_reads' aC.out).2.1); (case side3 => exact ck_ (Kd.R_reads' aD.out).2.2); (case side4 => exact (Kd.R_reads' aD.out).2.1); rintro e mZ ⟨rfl, hb⟩; replace aC := q_ (Kd.R_below (rk_ aC.out) hb); replace aD := q_ (Kd.R_below (rk_ aD.out) hb); replace aE := q_ (y0n (bk_ aE.out) hb); replace aA := q_ (y0n (bk_ aA.out) hb); replace HB := q_ (y0k hb_ hb); replace aG := q_ (IsS74.below (s74_ aG.out) hb); have lP := aJ.out; have lC := a6.out; obtain ⟨kC, iO, hS, gL, hR, fV, i2, f1, kF, gV, jX, gM⟩ := b6_ aE.out))
     refine bodyPost_ret (y4l rfl _ _ aN 25 #[.string nB_, .string nB_, .string nB_, .int .i64 0, .slice none 0 0, .slice none 0 0] (0, 0) _ rfl (bs_ aE.out) Try.underlying25 rfl (by kernel_rfl)) rfl ?_
     exact ⟨_, _, ew_, nil_, nil_, hb_⟩
    rw [if_pos dH] at H
    have eN := et_ dH
    have fA := nf_ dH
    clear dH
    simp only [Option.some.injEq, Prod.mk.injEq] at H
    obtain ⟨rfl, rfl, rfl, rfl, rfl, rfl, rfl⟩ := H
    obtain ⟨bC, eY⟩ := aG.out
    have g2 := y1b bC
    have hN := y1c bC
    have i3 := y1d bC
    have hW := y0q bC 0
    have iM := y0q bC 1
    have iF := y0q bC 2
    clear bC eY
    have lB := aZ.out
    have k8 := aY.out
    have lO := aM.out
    have lM := a7.out
    obtain ⟨f6, hL, hY, fY, kA, iV, kB, i9, gD, jZ, gN, gQ⟩ := b6_ aA.out
    obtain ⟨dG, dI, kS⟩ := Kd.R_slice aC.out
    subst kS
    obtain ⟨c2, cY, kQ⟩ := Kd.R_slice aD.out
    subst kQ
    go_wp2_with (first | (go_at_call 18; (with_reducible refine (zq1o.calls kj41 a3 a4 a2 a1 _ _ aI _ _ aK cF _ ?side1 ?side2 ?side3 ?side4 kN.out).mono ?_); (case side1 => exact ck_ (Kd.R_reads' aC.out).2.2); (case side2 => exact (Kd.R_reads' aC.out).2.1); (case side3 => exact ck_ (Kd.R_reads' aD.out).2.2); (case side4 => exact (Kd.R_reads' aD.out).2.1); rintro e mX ⟨rfl, hb⟩; replace aC := q_ (Kd.R_below (rk_ aC.out) hb); replace aD := q_ (Kd.R_below (rk_ aD.out) hb); replace aE := q_ (y0n (bk_ aE.out) hb); replace aA := q_ (y0n (bk_ aA.out) hb); replace HB := q_ (y0k hb_ hb); replace aG := q_ (IsS74.below (s74_ aG.out) hb); obtain ⟨jP, iQ, fW, iG, iX, gG, iC, gE, iR, j5, hG, jN⟩ := b6_ aA.out) | (go_at_call 55; (with_reducible refine (zq1s.calls kj41 a3 a4 a2 a1 _ _ aI _ _ aK dJ _ ?side1 ?side2 ?side3 ?side4 lK.out).mono ?_); (case side1 => exact ck_ (Kd.R_reads' aC.out).2.2); (case side2 => exact (Kd.R_reads' aC.out).2.1); (case side3 => exact ck_ (Kd.R_reads' aD.out).2.2); (case side4 => exact (Kd.R_reads' aD.out).2.1); rintro e m9 ⟨rfl, hb⟩; replace aC := q_ (Kd.R_below (rk_ aC.out) hb); replace aD := q_ (Kd.R_below (rk_ aD.out) hb); replace aE := q_ (y0n (bk_ aE.out) hb); replace aA := q_ (y0n (bk_ aA.out) hb); replace HB := q_ (y0k hb_ hb); replace aG := q_ (IsS74.below (s74_ aG.out) hb); obtain ⟨jE, kD, gB, iY, j4, iI, gR, hT, g6, h9, g8, gJ⟩ := b6_ aA.out; have lE := aJ.out; have k0 := a6.out; obtain ⟨jM, jQ, gT, f9, jT, i4, kG, h3, iK, iJ, hX, jS⟩ := b6_ aE.out))
    refine bodyPost_ret (y4l rfl _ _ aN 25 #[.string a3, .string a4, .string a2, .int .i64 a1, .slice dG aI.length dI, .slice c2 aK.length cY] (0, 0) _ rfl (bs_ aE.out) Try.underlying25 rfl (by kernel_rfl)) rfl ?_
    exact ⟨_, _, ew_, by (with_reducible repeat (first | apply Kd.R_alloc | apply Kd.R_drewN | apply Kd.R_drew)); exact Kd.R_mono (Kd.R_far (p := ⟨aN, 5, none⟩) (Kd.R_far (p := ⟨aN, 4, none⟩) (Kd.R_far (p := ⟨aN, 3, none⟩) (Kd.R_far (p := ⟨aN, 2, none⟩) (Kd.R_far (p := ⟨aN, 1, none⟩) (Kd.R_far (p := ⟨aN, 0, none⟩) (Kd.R_types aC.out aE.out (by decide)) (fun _ hk => hk.2) (.string a3)) (fun _ hk => hk.2) (.string a4)) (fun _ hk => hk.2) (.string a2)) (fun _ hk => hk.2) (.int .i64 a1)) (fun _ hk => hk.2) (.slice dG aI.length dI)) (fun _ hk => hk.2) (.slice c2 aK.length cY)) (fun _ hk => trivial), by (with_reducible repeat (first | apply Kd.R_alloc | apply Kd.R_drewN | apply Kd.R_drew)); exact Kd.R_mono (Kd.R_far (p := ⟨aN, 5, none⟩) (Kd.R_far (p := ⟨aN, 4, none⟩) (Kd.R_far (p := ⟨aN, 3, none⟩) (Kd.R_far (p := ⟨aN, 2, none⟩) (Kd.R_far (p := ⟨aN, 1, none⟩) (Kd.R_far (p := ⟨aN, 0, none⟩) (Kd.R_types aD.out aE.out (by decide)) (fun _ hk => hk.2) (.string a3)) (fun _ hk => hk.2) (.string a4)) (fun _ hk => hk.2) (.string a2)) (fun _ hk => hk.2) (.int .i64 a1)) (fun _ hk => hk.2) (.slice dG aI.length dI)) (fun _ hk => hk.2) (.slice c2 aK.length cY)) (fun _ hk => trivial), hb_⟩
   subst hH
   rw [if_pos rfl] at H
   obtain ⟨⟨b3, cA, cC, cR⟩, mO, H⟩ := bq_ H
   obtain ⟨⟨b5, cK, cG, b9⟩, l7, H⟩ := bq_ H
   obtain ⟨⟨bZ, cO, cI, b6⟩, mL, H⟩ := bq_ H
   obtain ⟨⟨bV, cD, cH, b8⟩, mD, H⟩ := bq_ H
   obtain ⟨⟨b4, cL, cE, cN⟩, l8, H⟩ := bq_ H
   (try dsimp only at H)
   by_cases jD : aK.length < 2932031007402
   rotate_left
   ·rw [if_neg jD] at H
    exact absurd H (by simp)
   rw [if_pos jD] at H
   have eZ := q_ jD
   clear jD
   obtain ⟨b0, bJ⟩ : ∃ y_ : List (S43), y_ = (aK ++ [(⟨b3, b5, bZ, bV, (b4 == 1)⟩ : S43)]) := ⟨_, rfl⟩
   replace H : (zq1h.l1 kj41 a5 (wrap64 (bL - 1)) cL cE cN a3 a4 a2 a1 aI b0) = some (r1, r2, r3, r4, r5, r6, r7) := by first | (rw [bJ]; with_reducible exact H) | (have c1 := (Option.bind_some _ _).symm.trans H; rw [bJ]; with_reducible exact c1) | (have c1 := (Option.bind_some _ _).symm.trans H; with_reducible exact c1) | with_reducible exact H | (rw [bJ]; exact H) | exact H
   have eW := q_ bJ
   clear bJ
   have H' := q_ H
   clear H
   try go_wp2
   replace aC := q_ (Kd.R_drew aC.out)
   replace aD := q_ (Kd.R_drew aD.out)
   replace aE := q_ (y0p aE.out)
   replace aA := q_ (y0p aA.out)
   replace aG := q_ (IsS74.drew aG.out)
   replace HB := q_ (y0h HB.out)
   refine start_ (n := 18) (S := fun w' => w'.cell? ⟨aV, 0, none⟩ = some (.string a3) ∧ w'.cell? ⟨aV, 1, none⟩ = some (.string a4) ∧ w'.cell? ⟨aV, 2, none⟩ = some (.string a2) ∧ w'.cell? ⟨aV, 3, none⟩ = some (.int .i64 a1) ∧ w'.cell? ⟨aV, 4, none⟩ = some (u212004) ∧ w'.cell? ⟨aV, 5, none⟩ = some (u212005)) (ds := [17]) #[false, false, false, false, false, false, false, false, false, false, false, false, false, false, false, false, false, false] (by kernel_rfl) rfl rfl ⟨(y0o aA.out 0).trans rfl, (y0o aA.out 1).trans rfl, (y0o aA.out 2).trans rfl, (y0o aA.out 3).trans rfl, (y0o aA.out 4).trans rfl, (y0o aA.out 5).trans rfl⟩ (fun hHeld => ?_); refine y5o zq1h.tab15 zq1h.bits15 (fun HT_ HW_ => ?_)
   generalize wc.drew = nE at aC aD aE aA aG HB hHeld ⊢
   refine pv_ 0 (some 76) (fl 18 1) ?_
   refine pv_ 2 (some 78) (fl 18 5) ?_
   refine pv_ 4 (some 80) (fl 18 21) ?_
   refine pv_ 6 (some 82) (fl 18 85) ?_
   refine pv_ 8 (some 84) (fl 18 341) ?_
   refine pv_ 10 (some 86) (fl 18 1365) ?_
   refine tv_ 1 (some 77) (fl 18 1367) ?_
   refine one_ (i := 3) (N := some 79) (fl 18 1375) rfl rfl (y3l HT_.out (by kernel_rfl)) (by decide) (fun K hK => ?_)
   refine gs_ Try.func64 #[.pointer (some ⟨aH, 0, none⟩), .int .i64 1] ?_
   with_reducible refine (zq17.calls kj41 aH aX aW aQ 1 b3 cA cC cR w _ ?side1 ?side2 mO.out).mono ?_
   (case side1 => exact s74_ aG.out)
   (case side2 => exact hb_)
   rintro e m2 ⟨rfl, hi, hb, hk⟩
   refine ⟨_, rfl, ?_⟩
   replace aC := q_ (Kd.R_mono (Kd.R_keep (IsS74.apart (show IsS74 w _ aH aX aW aQ from s74_ aG.out) (rk_ aC.out) (by decide)) hk (fun _ h => h.2)) (fun _ h => h.1))
   replace aD := q_ (Kd.R_mono (Kd.R_keep (IsS74.apart (show IsS74 w _ aH aX aW aQ from s74_ aG.out) (rk_ aD.out) (by decide)) hk (fun _ h => h.2)) (fun _ h => h.1))
   replace aE := q_ (KeepBut.blk hk (bk_ aE.out) aJ.out (by simp))
   replace aA := q_ (KeepBut.blk hk (bk_ aA.out) aM.out (by simp))
   replace HB := q_ (hb)
   replace aG := q_ (hi)
   refine hK.out _ _ ⟨(y0o aA.out 0).trans rfl, (y0o aA.out 1).trans rfl, (y0o aA.out 2).trans rfl, (y0o aA.out 3).trans rfl, (y0o aA.out 4).trans rfl, (y0o aA.out 5).trans rfl⟩ (fun hHeld => ?_)
   clear hK K
   refine no_ (N := some 79) ?_
   refine one_ (i := 5) (N := some 81) (fl 18 1407) rfl rfl (y3l HT_.out (by kernel_rfl)) (by decide) (fun K hK => ?_)
   refine gs_ Try.func64 #[.pointer (some ⟨aH, 0, none⟩), .int .i64 2] ?_
   with_reducible refine (zq17.calls kj41 aH cA cC cR 2 b5 cK cG b9 w _ ?side1 ?side2 l7.out).mono ?_
   (case side1 => exact s74_ aG.out)
   (case side2 => exact hb_)
   rintro e nG ⟨rfl, hi, hb, hk⟩
   refine ⟨_, rfl, ?_⟩
   replace aC := q_ (Kd.R_mono (Kd.R_keep (IsS74.apart (show IsS74 w _ aH cA cC cR from s74_ aG.out) (rk_ aC.out) (by decide)) hk (fun _ h => h.2)) (fun _ h => h.1))
   replace aD := q_ (Kd.R_mono (Kd.R_keep (IsS74.apart (show IsS74 w _ aH cA cC cR from s74_ aG.out) (rk_ aD.out) (by decide)) hk (fun _ h => h.2)) (fun _ h => h.1))
   replace aE := q_ (KeepBut.blk hk (bk_ aE.out) aJ.out (by simp))
   replace aA := q_ (KeepBut.blk hk (bk_ aA.out) aM.out (by simp))
   replace HB := q_ (hb)
   replace aG := q_ (hi)
   refine hK.out _ _ ⟨(y0o aA.out 0).trans rfl, (y0o aA.out 1).trans rfl, (y0o aA.out 2).trans rfl, (y0o aA.out 3).trans rfl, (y0o aA.out 4).trans rfl, (y0o aA.out 5).trans rfl⟩ (fun hHeld => ?_)
   clear hK K
   refine no_ (N := some 81) ?_
   refine one_ (i := 7) (N := some 83) (fl 18 1535) rfl rfl (y3l HT_.out (by kernel_rfl)) (by decide) (fun K hK => ?_)
   refine gs_ Try.func64 #[.pointer (some ⟨aH, 0, none⟩), .int .i64 1] ?_
   with_reducible refine (zq17.calls kj41 aH cK cG b9 1 bZ cO cI b6 w _ ?side1 ?side2 mL.out).mono ?_
   (case side1 => exact s74_ aG.out)
   (case side2 => exact hb_)
   rintro e m6 ⟨rfl, hi, hb, hk⟩
   refine ⟨_, rfl, ?_⟩
   replace aC := q_ (Kd.R_mono (Kd.R_keep (IsS74.apart (show IsS74 w _ aH cK cG b9 from s74_ aG.out) (rk_ aC.out) (by decide)) hk (fun _ h => h.2)) (fun _ h => h.1))
   replace aD := q_ (Kd.R_mono (Kd.R_keep (IsS74.apart (show IsS74 w _ aH cK cG b9 from s74_ aG.out) (rk_ aD.out) (by decide)) hk (fun _ h => h.2)) (fun _ h => h.1))
   replace aE := q_ (KeepBut.blk hk (bk_ aE.out) aJ.out (by simp))
   replace aA := q_ (KeepBut.blk hk (bk_ aA.out) aM.out (by simp))
   replace HB := q_ (hb)
   replace aG := q_ (hi)
   refine hK.out _ _ ⟨(y0o aA.out 0).trans rfl, (y0o aA.out 1).trans rfl, (y0o aA.out 2).trans rfl, (y0o aA.out 3).trans rfl, (y0o aA.out 4).trans rfl, (y0o aA.out 5).trans rfl⟩ (fun hHeld => ?_)
   clear hK K
   refine no_ (N := some 83) ?_
   refine one_ (i := 9) (N := some 85) (fl 18 2047) rfl rfl (y3l HT_.out (by kernel_rfl)) (by decide) (fun K hK => ?_)
   refine gs_ Try.func63 #[.pointer (some ⟨aH, 0, none⟩)] ?_
   with_reducible refine (zq11.calls kj41 aH cO cI b6 bV cD cH b8 w _ ?side1 ?side2 mD.out).mono ?_
   (case side1 => exact s74_ aG.out)
   (case side2 => exact hb_)
   rintro e m8 ⟨rfl, hi, hb, hk⟩
   refine ⟨_, rfl, ?_⟩
   replace aC := q_ (Kd.R_mono (Kd.R_keep (IsS74.apart (show IsS74 w _ aH cO cI b6 from s74_ aG.out) (rk_ aC.out) (by decide)) hk (fun _ h => h.2)) (fun _ h => h.1))
   replace aD := q_ (Kd.R_mono (Kd.R_keep (IsS74.apart (show IsS74 w _ aH cO cI b6 from s74_ aG.out) (rk_ aD.out) (by decide)) hk (fun _ h => h.2)) (fun _ h => h.1))
   replace aE := q_ (KeepBut.blk hk (bk_ aE.out) aJ.out (by simp))
   replace aA := q_ (KeepBut.blk hk (bk_ aA.out) aM.out (by simp))
   replace HB := q_ (hb)
   replace aG := q_ (hi)
   refine hK.out _ _ ⟨(y0o aA.out 0).trans rfl, (y0o aA.out 1).trans rfl, (y0o aA.out 2).trans rfl, (y0o aA.out 3).trans rfl, (y0o aA.out 4).trans rfl, (y0o aA.out 5).trans rfl⟩ (fun hHeld => ?_)
   clear hK K
   refine no_ (N := some 85) ?_
   refine one_ (i := 11) (N := some 87) (fl 18 4095) rfl rfl (y3l HT_.out (by kernel_rfl)) (by decide) (fun K hK => ?_)
   refine gs_ Try.func64 #[.pointer (some ⟨aH, 0, none⟩), .int .i64 1] ?_
   with_reducible refine (zq17.calls kj41 aH cD cH b8 1 b4 cL cE cN w _ ?side1 ?side2 l8.out).mono ?_
   (case side1 => exact s74_ aG.out)
   (case side2 => exact hb_)
   rintro e mW ⟨rfl, hi, hb, hk⟩
   refine ⟨_, rfl, ?_⟩
   replace aC := q_ (Kd.R_mono (Kd.R_keep (IsS74.apart (show IsS74 w _ aH cD cH b8 from s74_ aG.out) (rk_ aC.out) (by decide)) hk (fun _ h => h.2)) (fun _ h => h.1))
   replace aD := q_ (Kd.R_mono (Kd.R_keep (IsS74.apart (show IsS74 w _ aH cD cH b8 from s74_ aG.out) (rk_ aD.out) (by decide)) hk (fun _ h => h.2)) (fun _ h => h.1))
   replace aE := q_ (KeepBut.blk hk (bk_ aE.out) aJ.out (by simp))
   replace aA := q_ (KeepBut.blk hk (bk_ aA.out) aM.out (by simp))
   replace HB := q_ (hb)
   replace aG := q_ (hi)
   refine hK.out _ _ ⟨(y0o aA.out 0).trans rfl, (y0o aA.out 1).trans rfl, (y0o aA.out 2).trans rfl, (y0o aA.out 3).trans rfl, (y0o aA.out 4).trans rfl, (y0o aA.out 5).trans rfl⟩ (fun hHeld => ?_)
   clear hK K
   refine no_ (N := some 87) ?_
   refine pv_ 12 (some 88) (fl 18 8191) ?_
   refine pv_ 13 (some 89) (fl 18 16383) ?_
   refine one_ (i := 14) (N := some 90) (fl 18 32767) rfl rfl (y3l HT_.out (by kernel_rfl)) (by decide) (fun K hK => ?_)
   refine value_ (w1 := ?_) (v := ?_) (by rfl) rfl ?_ ?_
   rotate_left 2
   ·go_simp
    constructor
    ·rfl
    ·rfl
   refine hK.out _ _ ⟨(y0o (y0m aA.out _) 0).trans rfl, (y0o (y0m aA.out _) 1).trans rfl, (y0o (y0m aA.out _) 2).trans rfl, (y0o (y0m aA.out _) 3).trans rfl, (y0o (y0m aA.out _) 4).trans rfl, (y0o (y0m aA.out _) 5).trans rfl⟩ (fun hHeld => ?_)
   clear hK K
   refine no_ (N := some 90) ?_
   refine one_ (i := 15) (N := some 91) (fl 18 65535) rfl rfl (y3l HT_.out (by kernel_rfl)) (by decide) (fun K hK => ?_)
   refine Kd.R_append_step k43 (w0 := w) w.heap.size (by rfl) (.tmp 77) (.tmp 90) 23 43 (.agg #[(.int .i64 0), (.int .i64 0), (.int .i64 0), (.string ⟨#[]⟩), (.bool false)]) 48 rfl Try.underlying23 info43 rfl (by decide) (by omega) u212005 aK (⟨b3, b5, bZ, bV, (b4 == 1)⟩ : S43) [.int .i64 b3, .int .i64 b5, .int .i64 bZ, .string bV, .bool (b4 == 1)] (fun _ => True) (fun _ => False) rfl rfl ?aP (fun _ hk => hk.elim) ?aF ?aO ?aB ?aS ?aL ?_
   (case aP => exact y2v _ _ _ (⟨b3, b5, bZ, bV, (b4 == 1)⟩ : S43))
   (case aB => exact hb_)
   (case aF => exact (fun _ _ => trivial))
   (case aO => exact (rk_ aD.out))
   (case aS => exact (y0j hb_))
   (case aL => have := eZ.out; omega)
   intro lT mR ho hb hg hat
   rw [← eW.out] at ho
   have b1 := q_ (Kd.R_over' (rk_ aC.out) (Kd.R_typed (rk_ aD.out)) (by decide) hg)
   have bU := q_ (y0r (bk_ aE.out) hg (Kd.R_ne aD.out aE.out (by decide)))
   have eX := q_ (y0r (bk_ aA.out) hg (Kd.R_ne aD.out aA.out (by decide)))
   have eB := q_ (IsS74.grown (show IsS74 w _ aH cL cE cN from s74_ aG.out) hg (IsS74.own_ne aG.out aD.out (by decide)))
   have d2 := q_ (hb)
   have k9 := q_ (ho)
   clear aC aE aA aG HB aD
   have aC := b1; have aE := bU; have aA := eX; have aG := eB; have HB := d2; have cV := k9
   clear b1 bU eX eB d2 k9 ho hb hg hat
   obtain ⟨dA, c4, fD⟩ := Kd.R_slice cV.out
   (first | subst fD | (injection fD with f1_ f2_ f3_; have kO := f1_.symm; have kM := f3_.symm; clear f1_ f2_ f3_; subst kO; subst kM))
   refine hK.out _ _ ⟨(y0o aA.out 0).trans rfl, (y0o aA.out 1).trans rfl, (y0o aA.out 2).trans rfl, (y0o aA.out 3).trans rfl, (y0o aA.out 4).trans rfl, (y0o aA.out 5).trans rfl⟩ (fun hHeld => ?_)
   clear hK K
   refine no_ (N := some 91) ?_
   refine pv_ 16 (some 92) (fl 18 131071) ?_
   refine last_ (i := 17) (N := none) (fl 18 262143) rfl rfl (y3l HT_.out (by kernel_rfl)) (by decide) (fun K hK => ?_)
   have mG : mR.cell? ⟨aV, 5, none⟩ = some (u212005) := (y0o aA.out 5).trans rfl
   have lL := y0q aA.out 5
   have f4 := aY.out
   have g0 := aZ.out
   refine skip_ (w1 := ?_) (by rfl) rfl ?_ ?_
   rotate_left
   ·go_simp
    rfl
   refine hK.out _ _ ?_
   clear hK K
   refine done_ (y1s HT_.out (by kernel_rfl)) ?_
   try go_wp2
   go_roundg kj41
   case measure => have := HK1.out; have := bS.out; have := i7.out; have := eP.out; omega
   case rel => exact ⟨(wrap64 (bL - 1)), (cL), (cE), (cN), (b0), (.slice dA b0.length c4), cl_, H', ⟨by have := HK1.out; have := bS.out; have := i7.out; have := eP.out; omega⟩, ⟨rm_ (Kd.R_far (p := ⟨aV, 5, none⟩) (Kd.R_types aC.out aA.out (by decide)) (fun _ hk => hk.2) (.slice dA b0.length c4)) (fun _ hk => trivial)⟩, ⟨rm_ (Kd.R_far (p := ⟨aV, 5, none⟩) (Kd.R_types cV.out aA.out (by decide)) (fun _ hk => hk.2) (.slice dA b0.length c4)) (fun _ hk => trivial)⟩, ⟨bs_ aE.out⟩, ⟨bs_ aA.out⟩, ⟨s74_ aG.out⟩, ⟨hb_⟩⟩
end Go.Proofs.Ytenlmckahaniiaa.K
end
