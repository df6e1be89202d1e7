/- Lemmas for several laws: what their proofs need of this seat's texts, in one place. -/
import Derived.Test.YtenlmckahaniiaaZcLe12
set_option linter.unusedVariables false
set_option linter.unusedSimpArgs false
set_option linter.unusedSectionVars false
set_option maxHeartbeats 8000000
set_option maxRecDepth 100000
section
namespace Go.Proofs.Ytenlmckahaniiaa.K
open Go.RowKit Go.Proofs.YtW.P Go.Proofs.YtW.L
def zq1d.l0 : Nat → ByteArray → List (S25) → Int → Int → Option (ByteArray × Int)
  | 0, _, _, _, _ => none
  | k + 1, x5, x19, x20, x21 => if x21 < x20 then (if 0 ≤ x21 then (if x21 < (x19.length : Int) then ((zq1i.f k ((y49 x19 x21).f0) ((y49 x19 x21).f1) ((y49 x19 x21).f2) ((y49 x19 x21).f3) ((y49 x19 x21).f4) ((y49 x19 x21).f5)).bind fun bt711 => (if bt711.2 = 0 then ((zq1w.f k (bt711.1.size : Int) 4).bind fun t713 => (if t713.size + bt711.1.size ≤ 9223372036854775807 then (if x5.size + (t713 ++ bt711.1).size ≤ 9223372036854775807 then (zq1d.l0 k (x5 ++ (t713 ++ bt711.1)) x19 x20 (wrap64 (x21 + 1))) else (none)) else (none))) else (some (nB_, bt711.2)))) else (none)) else (none)) else ((zq1u.f k x5).bind fun t708 => (some (t708, 0)))
def zq1d.f (k : Nat) (l0 : List (S25)) : Option (ByteArray × Int) := (zq1g.f k l0).bind fun t706 => (if t706 = 0 then ((zq1w.f k (l0.length : Int) 2).bind fun t707 => (if 4 + t707.size ≤ 9223372036854775807 then (zq1d.l0 k ((⟨#[76, 73, 66, 49]⟩ : ByteArray) ++ t707) l0 (l0.length : Int) 0) else (none))) else (some (nB_, t706)))
theorem zq1d.mono_l : ∀ k, (∀ y0 y1 y2 y3, LeO (zq1d.l0 k y0 y1 y2 y3) (zq1d.l0 (k + 1) y0 y1 y2 y3))
 | 0 => fun _ _ _ _ r h => by simp [zq1d.l0] at h
 | k + 1 => by
  have ih0 := zq1d.mono_l k
  ·intro y0 y1 y2 y3
   unfold zq1d.l0
   with_reducible repeat' first | apply ih0 | apply zq1g.mono | apply zq1i.mono | apply zq1w.mono | apply zq1u.mono | exact LeO.refl _ | exact LeO.none _ | refine LeO.ite ?_ ?_ | refine LeO.bind ?_ (fun _ => ?_)
theorem zq1d.mono : ∀ a0 k, LeO (zq1d.f k a0) (zq1d.f (k + 1) a0) := by
 intro a0 k
 have ih0 := zq1d.mono_l k
 unfold zq1d.f
 with_reducible repeat' first | apply ih0 | apply zq1g.mono | apply zq1i.mono | apply zq1w.mono | apply zq1u.mono | exact LeO.refl _ | exact LeO.none _ | refine LeO.ite ?_ ?_ | refine LeO.bind ?_ (fun _ => ?_)
theorem zq1d.calls (k : Nat) (A0 : Option Addr) (c0 : Nat) (l0 : List (S25)) (r1 : ByteArray) (r2 : Int) (w : World) (cG : Kd.C k25 w A0 l0.length l0) (cF : l0.length ≤ c0) (h : zq1d.f k l0 = some (r1, r2)) :
  Calls Try.prog 37 #[.slice A0 l0.length c0] w fun e w' => e = .returned (.tuple #[.string r1, .int .i64 r2]) ∧ Below w.heap.size w w' := by
 have cH := Try.underlying25
 have bS := q_ cG
 have cB := q_ cF
 clear cG cF
 have HB := q_ (Below.refl w.heap.size w)
 have H : ((zq1g.f k l0).bind fun aZ => (if aZ = 0 then ((zq1w.f k (l0.length : Int) 2).bind fun aY => (if 4 + aY.size ≤ 9223372036854775807 then (zq1d.l0 k ((⟨#[76, 73, 66, 49]⟩ : ByteArray) ++ aY) l0 (l0.length : Int) 0) else (none))) else (some (nB_, aZ)))) = some (r1, r2) := h
 clear h
 obtain ⟨aZ, A2, H⟩ := bq_ H
 (try dsimp only at H)
 by_cases c3 : aZ = 0
 rotate_left
 ·rw [if_neg c3] at H
  have b3 := ef_ c3
  have b4 := nt_ c3
  simp only [Option.some.injEq, Prod.mk.injEq] at H
  obtain ⟨rfl, rfl⟩ := H
  go_enter Try.func37, Try.ntmps37
  go_wp2_with (first | (refine gc_ 34 ?_; refine gl_ (some 11) Try.func34 #[.slice A0 l0.length c0] ?_; (with_reducible refine (zq1g.calls k _ _ l0 aZ _ ?side1 ?side2 A2.out).mono ?_); (case side1 => exact ck_ bS.out); (case side2 => exact cB.out); rintro e cQ ⟨rfl, hb⟩; refine ⟨_, rfl, ?_⟩; replace HB := q_ (y0k hb_ hb)))
  go_ret2
  exact ⟨ew_, hb_⟩
 rw [if_pos c3] at H
 have b3 := et_ c3
 have b4 := nf_ c3
 clear c3
 obtain ⟨aY, A4, H⟩ := bq_ H
 (try dsimp only at H)
 by_cases c5 : 4 + aY.size ≤ 9223372036854775807
 rotate_left
 ·rw [if_neg c5] at H
  exact absurd H (by simp)
 rw [if_pos c5] at H
 have cK := eq_true c5
 have cM := dt_ c5
 try have cN : (9223372036854775807 < 4 + aY.size) = False := eq_false (Nat.not_lt.2 c5)
 have H' := q_ H
 clear H
 go_enter Try.func37, Try.ntmps37
 go_wp2_with (first | (refine gc_ 34 ?_; refine gl_ (some 11) Try.func34 #[.slice A0 l0.length c0] ?_; (with_reducible refine (zq1g.calls k _ _ l0 aZ _ ?side1 ?side2 A2.out).mono ?_); (case side1 => exact ck_ bS.out); (case side2 => exact cB.out); rintro e w6 ⟨rfl, hb⟩; refine ⟨_, rfl, ?_⟩; replace HB := q_ (y0k hb_ hb)) | (refine gc_ 78 ?_; refine gl_ (some 17) Try.func78 #[.int .i64 (l0.length : Int), .int .i64 2] ?_; (with_reducible refine (zq1w.calls k (l0.length : Int) 2 aY _ A4.out).mono ?_); rintro e w7 ⟨rfl, hb⟩; refine ⟨_, rfl, ?_⟩; replace HB := q_ (y0k hb_ hb)))
 go_loopg [5, 21] k (fun kq v5 cI w' => ∃ (aV : ByteArray) (aA : Int), v5 = .string aV ∧ cI = .int .i64 aA ∧ Aside0 (zq1d.l0 kq aV l0 (l0.length : Int) aA = some (r1, r2)) ∧ Aside0 (kq ≤ k) ∧ Aside0 (Below w.heap.size w w'))
 case atStart => exact ⟨((⟨#[76, 73, 66, 49]⟩ : ByteArray) ++ aY), (0), cl_, cl_, H', ⟨Nat.le_refl _⟩, ⟨hb_⟩⟩
 case round =>
  clear H'
  obtain ⟨aV, aA, rfl, rfl, HA, HK1, HB⟩ := hrel
  obtain _ | k1 := gk
  ·exact nn_ HA
  have H := HA.out
  clear HA
  simp only [zq1d.l0] at H
  by_cases c8 : aA < (l0.length : Int)
  rotate_left
  ·rw [if_neg c8] at H
   have b5 := df_ c8
   clear c8
   obtain ⟨b2, cJ, H⟩ := bq_ H
   (try dsimp only at H)
   simp only [Option.some.injEq, Prod.mk.injEq] at H
   obtain ⟨rfl, rfl⟩ := H
   go_wp2_with (first | (refine gc_ 54 ?_; refine gl_ (some 42) Try.func54 #[.string aV] ?_; (with_reducible refine (zq1u.calls k1 aV b2 _ cJ.out).mono ?_); rintro e cS ⟨rfl, hb⟩; refine ⟨_, rfl, ?_⟩; replace HB := q_ (y0k hb_ hb)))
   go_ret2
   exact ⟨ew_, hb_⟩
  rw [if_pos c8] at H
  have b5 := dt_ c8
  clear c8
  by_cases c9 : 0 ≤ aA
  rotate_left
  ·rw [if_neg c9] at H
   exact absurd H (by simp)
  rw [if_pos c9] at H
  have cO := dt_ c9
  clear c9
  by_cases bU : aA < (l0.length : Int)
  rotate_left
  ·rw [if_neg bU] at H
   exact absurd H (by simp)
  rw [if_pos bU] at H
  have cE := dt_ bU
  clear bU
  obtain ⟨⟨aS, a4⟩, cA, H⟩ := bq_ H
  (try dsimp only at H)
  by_cases a3 : a4 = 0
  rotate_left
  ·rw [if_neg a3] at H
   have a9 := ef_ a3
   have bB := nt_ a3
   simp only [Option.some.injEq, Prod.mk.injEq] at H
   obtain ⟨rfl, rfl⟩ := H
   have aX : 0 ≤ (aA : Int) := oa_
   have aW : aA < (l0.length : Int) := oa_
   obtain ⟨a7, aM, aN, aP, aO, a2, aG, aE, aK, aB, aI, aL, aH, aF, aC, aJ⟩ := y0c bS.out aA aX aW
   cases a2
   replace aG := cb_ HB.out aG
   replace aE := cb_ HB.out aE
   replace aK := cb_ HB.out aK
   replace aB := cb_ HB.out aB
   replace aI := cb_ HB.out aI
   replace aL := cb_ HB.out aL
   have aT := q_ aF
   have aQ := q_ aH
   clear aF aH
   have aR := q_ aJ
   have aU := q_ aC
   clear aJ aC
   replace aX := eq_true aX
   replace aW := eq_true aW
   go_wp2_with (first | (refine gd_ 7 ?_; refine bx_ 7 (cs := #[.string nB_, .string nB_, .string nB_, .int .i64 0, .slice none 0 0, .slice none 0 0]) 25 ?_; intro a1 hg cU hbox hb; have aD := q_ (hbox); have a5 := gw_ w hg (y0j hb_); have a8 := gw_ w hg (y0j hb_); replace HB := q_ (y0k hb_ hb); clear hb hbox hg; obtain ⟨bJ, bE, bF, bL, bX, bC, bG, bP, bK, bV, bT, bI⟩ := b6_ aD.out) | (refine gc_ 21 ?_; refine gl_ (some 27) Try.func21 #[.agg #[.string ((y49 l0 aA).f0), .string ((y49 l0 aA).f1), .string ((y49 l0 aA).f2), .int .i64 ((y49 l0 aA).f3), .slice aM ((y49 l0 aA).f4).length aN, .slice aP ((y49 l0 aA).f5).length aO]] ?_; (with_reducible refine (zq1i.calls k1 ((y49 l0 aA).f0) ((y49 l0 aA).f1) ((y49 l0 aA).f2) ((y49 l0 aA).f3) _ _ ((y49 l0 aA).f4) _ _ ((y49 l0 aA).f5) aS a4 _ ?side1 ?side2 ?side3 ?side4 cA.out).mono ?_); (case side1 => exact Kd.C_below aT.out hb_); (case side2 => exact aQ.out); (case side3 => exact Kd.C_below aR.out hb_); (case side4 => exact aU.out); rintro e cP ⟨rfl, hb⟩; refine ⟨_, rfl, ?_⟩; replace aD := q_ (y0n (g := a1) (o := .cells #[.string ((y49 l0 aA).f0), .string ((y49 l0 aA).f1), .string ((y49 l0 aA).f2), .int .i64 ((y49 l0 aA).f3), .slice aM ((y49 l0 aA).f4).length aN, .slice aP ((y49 l0 aA).f5).length aO] 25 (0, 0)) (bs_ aD.out) hb); replace HB := q_ (y0k hb_ hb)))
   go_ret2
   exact ⟨ew_, hb_⟩
  rw [if_pos a3] at H
  have a9 := et_ a3
  have bB := nf_ a3
  clear a3
  obtain ⟨a0, cL, H⟩ := bq_ H
  (try dsimp only at H)
  by_cases bA : a0.size + aS.size ≤ 9223372036854775807
  rotate_left
  ·rw [if_neg bA] at H
   exact absurd H (by simp)
  rw [if_pos bA] at H
  have b9 := eq_true bA
  have b8 := dt_ bA
  try have b7 : (9223372036854775807 < a0.size + aS.size) = False := eq_false (Nat.not_lt.2 bA)
  by_cases a6 : aV.size + (a0 ++ aS).size ≤ 9223372036854775807
  rotate_left
  ·rw [if_neg a6] at H
   exact absurd H (by simp)
  rw [if_pos a6] at H
  have cD := eq_true a6
  have cC := dt_ a6
  try have b6 : (9223372036854775807 < aV.size + (a0 ++ aS).size) = False := eq_false (Nat.not_lt.2 a6)
  have H' := q_ H
  clear H
  have aX : 0 ≤ (aA : Int) := oa_
  have aW : aA < (l0.length : Int) := oa_
  obtain ⟨a7, aM, aN, aP, aO, a2, aG, aE, aK, aB, aI, aL, aH, aF, aC, aJ⟩ := y0c bS.out aA aX aW
  cases a2
  replace aG := cb_ HB.out aG
  replace aE := cb_ HB.out aE
  replace aK := cb_ HB.out aK
  replace aB := cb_ HB.out aB
  replace aI := cb_ HB.out aI
  replace aL := cb_ HB.out aL
  have aT := q_ aF
  have aQ := q_ aH
  clear aF aH
  have aR := q_ aJ
  have aU := q_ aC
  clear aJ aC
  replace aX := eq_true aX
  replace aW := eq_true aW
  go_wp2_with (first | (refine gd_ 7 ?_; refine bx_ 7 (cs := #[.string nB_, .string nB_, .string nB_, .int .i64 0, .slice none 0 0, .slice none 0 0]) 25 ?_; intro a1 hg cV hbox hb; have aD := q_ (hbox); have a5 := gw_ w hg (y0j hb_); have a8 := gw_ w hg (y0j hb_); replace HB := q_ (y0k hb_ hb); clear hb hbox hg; obtain ⟨bZ, bW, b0, bY, bO, bM, b1, bD, bH, bN, bQ, bR⟩ := b6_ aD.out) | (refine gc_ 21 ?_; refine gl_ (some 27) Try.func21 #[.agg #[.string ((y49 l0 aA).f0), .string ((y49 l0 aA).f1), .string ((y49 l0 aA).f2), .int .i64 ((y49 l0 aA).f3), .slice aM ((y49 l0 aA).f4).length aN, .slice aP ((y49 l0 aA).f5).length aO]] ?_; (with_reducible refine (zq1i.calls k1 ((y49 l0 aA).f0) ((y49 l0 aA).f1) ((y49 l0 aA).f2) ((y49 l0 aA).f3) _ _ ((y49 l0 aA).f4) _ _ ((y49 l0 aA).f5) aS a4 _ ?side1 ?side2 ?side3 ?side4 cA.out).mono ?_); (case side1 => exact Kd.C_below aT.out hb_); (case side2 => exact aQ.out); (case side3 => exact Kd.C_below aR.out hb_); (case side4 => exact aU.out); rintro e cR ⟨rfl, hb⟩; refine ⟨_, rfl, ?_⟩; replace aD := q_ (y0n (g := a1) (o := .cells #[.string ((y49 l0 aA).f0), .string ((y49 l0 aA).f1), .string ((y49 l0 aA).f2), .int .i64 ((y49 l0 aA).f3), .slice aM ((y49 l0 aA).f4).length aN, .slice aP ((y49 l0 aA).f5).length aO] 25 (0, 0)) (bs_ aD.out) hb); replace HB := q_ (y0k hb_ hb)) | (refine gc_ 78 ?_; refine gl_ (some 36) Try.func78 #[.int .i64 (aS.size : Int), .int .i64 4] ?_; (with_reducible refine (zq1w.calls k1 (aS.size : Int) 4 a0 _ cL.out).mono ?_); rintro e cT ⟨rfl, hb⟩; refine ⟨_, rfl, ?_⟩; replace aD := q_ (y0n (bk_ aD.out) hb); replace HB := q_ (y0k hb_ hb)))
  go_roundg k1
  case measure => have := HK1.out; omega
  case rel => exact ⟨(aV ++ (a0 ++ aS)), (wrap64 (aA + 1)), cl_, cl_, H', ⟨by have := HK1.out; omega⟩, ⟨hb_⟩⟩
end Go.Proofs.Ytenlmckahaniiaa.K
end
section
namespace Go.Proofs.Ytenlmckahaniiaa.K
open Go.RowKit Go.Proofs.YtW.P Go.Proofs.YtW.L
mutual
def zq1b.l0 : Nat → ByteArray → Int → List (S25) → Int → Int → Option ((List (S25)) × Bool)
  | 0, _, _, _, _, _ => none
  | k + 1, x0, x1, x8, x13, x14 => if x14 < x13 then ((zq1v.f k x0 x1 4).bind fun bt714 => (if bt714.2.2 = 0 then (zq1b.j1 k x0 x8 bt714.1 bt714.2.1 x13 x14 (decide (bt714.1 > (wrap64 ((x0.size : Int) - bt714.2.1))))) else (zq1b.j1 k x0 x8 bt714.1 bt714.2.1 x13 x14 true))) else (some (x8, (x1 == (x0.size : Int))))
def zq1b.j1 : Nat → ByteArray → List (S25) → Int → Int → Int → Int → Bool → Option ((List (S25)) × Bool)
  | 0, _, _, _, _, _, _, _ => none
  | k + 1, x0, x8, x9, x10, x13, x14, x32 => if x32 = true then (some (([] : List (S25)), false)) else (if 0 ≤ x10 then (if x10 ≤ (wrap64 (x10 + x9)) then (if (wrap64 (x10 + x9)) ≤ (x0.size : Int) then ((zq1h.f k (x0.extract (x10 : Int).toNat ((wrap64 (x10 + x9)) : Int).toNat)).bind fun bt717 => (if bt717.2.2.2.2.2.2 = 0 then (if x8.length < 1353245080339 then (zq1b.l0 k x0 (wrap64 (x10 + x9)) (x8 ++ [(⟨bt717.1, bt717.2.1, bt717.2.2.1, bt717.2.2.2.1, bt717.2.2.2.2.1, bt717.2.2.2.2.2.1⟩ : S25)]) x13 (wrap64 (x14 + 1))) else (none)) else (some (([] : List (S25)), false)))) else (none)) else (none)) else (none))
end
def zq1b.f (k : Nat) (a0 : ByteArray) (a1 : Int) (a2 : Int) : Option ((List (S25)) × Bool) := zq1b.l0 k a0 a1 ([] : List (S25)) a2 0
theorem zq1b.mono_l : ∀ k, (∀ y0 y1 y2 y3 y4, LeO (zq1b.l0 k y0 y1 y2 y3 y4) (zq1b.l0 (k + 1) y0 y1 y2 y3 y4)) ∧ (∀ y0 y1 y2 y3 y4 y5 y6, LeO (zq1b.j1 k y0 y1 y2 y3 y4 y5 y6) (zq1b.j1 (k + 1) y0 y1 y2 y3 y4 y5 y6))
 | 0 => ⟨fun _ _ _ _ _ r h => by simp [zq1b.l0] at h, fun _ _ _ _ _ _ _ r h => by simp [zq1b.j1] at h⟩
 | k + 1 => by
  obtain ⟨ih0, ih1⟩ := zq1b.mono_l k
  refine ⟨?_, ?_⟩
  ·intro y0 y1 y2 y3 y4
   unfold zq1b.l0
   with_reducible repeat' first | apply ih0 | apply ih1 | apply zq1h.mono | apply zq1v.mono | exact LeO.refl _ | exact LeO.none _ | refine LeO.ite ?_ ?_ | refine LeO.bind ?_ (fun _ => ?_)
  ·intro y0 y1 y2 y3 y4 y5 y6
   unfold zq1b.j1
   with_reducible repeat' first | apply ih0 | apply ih1 | apply zq1h.mono | apply zq1v.mono | exact LeO.refl _ | exact LeO.none _ | refine LeO.ite ?_ ?_ | refine LeO.bind ?_ (fun _ => ?_)
theorem zq1b.mono : ∀ a0 a1 a2 k, LeO (zq1b.f k a0 a1 a2) (zq1b.f (k + 1) a0 a1 a2) := by
 intro a0 a1 a2 k
 obtain ⟨ih0, ih1⟩ := zq1b.mono_l k
 unfold zq1b.f
 with_reducible repeat' first | apply ih0 | apply ih1 | apply zq1h.mono | apply zq1v.mono | exact LeO.refl _ | exact LeO.none _ | refine LeO.ite ?_ ?_ | refine LeO.bind ?_ (fun _ => ?_)
theorem zq1b.calls (k : Nat) (a0 : ByteArray) (a1 : Int) (a2 : Int) (r1 : List (S25)) (r2 : Bool) (w : World) (h : zq1b.f k a0 a1 a2 = some (r1, r2)) :
  Calls Try.prog 81 #[.string a0, .int .i64 a1, .int .i64 a2] w fun e w' => ∃ v0_ : Value, e = .returned (.tuple #[v0_, .bool r2]) ∧ Kd.S k25 25 w' w.heap.size (fun _ => True) v0_ r1 ∧ Below w.heap.size w w' := by
 have dD := Try.underlying25
 have HB := q_ (Below.refl w.heap.size w)
 have H : (zq1b.l0 k a0 a1 ([] : List (S25)) a2 0) = some (r1, r2) := h
 clear h
 have H' := q_ H
 clear H
 go_enter Try.func81, Try.ntmps81
 go_wp2
 go_loopg [1, 8, 14] k (fun kq v1 v8 dC w' => ∃ (a4 : Int) (aV : List (S25)) (aR : Int), v1 = .int .i64 a4 ∧ dC = .int .i64 aR ∧ Aside0 (zq1b.l0 kq a0 a4 aV a2 aR = some (r1, r2)) ∧ Aside0 (kq ≤ k) ∧ Aside0 (Kd.S k25 25 w' w.heap.size (fun _ => True) v8 aV) ∧ Aside0 (Below w.heap.size w w'))
 case atStart => exact ⟨(a1), (([] : List (S25))), (0), cl_, cl_, H', ⟨Nat.le_refl _⟩, ⟨by first | exact Kd.S_nil _ _ _ _ _ | exact Kd.N_nil _ _ _ _ _ | exact Kd.V_nil _ _ _ _ _ | exact Kd.Q_nil _ _ _ _ _ | exact Kd.R_nil _ _ _ _ _⟩, ⟨hb_⟩⟩
 case round =>
  clear H'
  obtain ⟨a4, aV, aR, rfl, rfl, HA, HK1, aD, HB⟩ := hrel
  obtain _ | k1 := gk
  ·exact nn_ HA
  have H := HA.out
  clear HA
  simp only [zq1b.l0] at H
  by_cases c4 : aR < a2
  rotate_left
  ·rw [if_neg c4] at H
   have cP := df_ c4
   clear c4
   simp only [Option.some.injEq, Prod.mk.injEq] at H
   obtain ⟨rfl, rfl⟩ := H
   go_wp2
   go_ret2
   exact ⟨_, ew_, by (with_reducible repeat (first | apply Kd.S_alloc | apply Kd.S_drewN | apply Kd.S_drew)); exact aD.out, hb_⟩
  rw [if_pos c4] at H
  have cP := dt_ c4
  clear c4
  obtain ⟨⟨aN, aH, bJ⟩, A5, H⟩ := bq_ H
  (try dsimp only at H)
  have cQ := q_ H
  clear H
  go_upto_region 5 with (first | (refine gc_ 80 ?_; refine gl_ (some 19) Try.func80 #[.string a0, .int .i64 a4, .int .i64 4] ?_; (with_reducible refine (zq1v.calls k1 a0 a4 4 aN aH bJ _ A5.out).mono ?_); rintro e w' ⟨rfl, ⟨nd, rfl⟩⟩; refine ⟨_, rfl, ?_⟩))
  (try simp only [Act.put, List.setIfInBounds_toArray, List.set_cons_zero, List.set_cons_succ])
  go_cut [32] (fun dI wc => ∃ (kq : Nat) (a3 : Bool), dI = .bool a3 ∧ Aside0 (zq1b.j1 kq a0 aV aN aH a2 aR a3 = some (r1, r2)) ∧ Aside0 (kq ≤ k1) ∧ Aside0 (Kd.S k25 25 wc w.heap.size (fun _ => True) u8 aV) ∧ Aside0 (Below w.heap.size w wc))
  case first =>
   have H := cQ.out
   clear cQ
   by_cases c7 : bJ = 0
   rotate_left
   ·rw [if_neg c7] at H
    have a5 := ef_ c7
    have cO := nt_ c7
    (first | rw [a5] | (simp only [y2h, y2g]; rw [a5]) | skip)
    have H' := q_ H
    clear H
    go_wp2
    go_meet
    case rel => exact ⟨_, (true), cl_, H', ⟨ok_⟩, ⟨sk_ aD.out⟩, ⟨hb_⟩⟩
   rw [if_pos c7] at H
   have a5 := et_ c7
   have cO := nf_ c7
   clear c7
   (first | rw [a5] | (simp only [y2h, y2g]; rw [a5]) | skip)
   have H' := q_ H
   clear H
   go_wp2
   go_meet
   case rel => exact ⟨_, (decide (aN > (wrap64 ((a0.size : Int) - aH)))), cl_, H', ⟨ok_⟩, ⟨sk_ aD.out⟩, ⟨hb_⟩⟩
  clear cQ
  obtain ⟨kq, a3, rfl, HA, c2, aD, HB⟩ := hcut
  obtain _ | kj5 := kq
  ·exact nn_ HA
  have H := HA.out
  clear HA
  simp only [zq1b.j1] at H
  by_cases c8 : a3 = true
  ·subst c8
   rw [if_pos rfl] at H
   simp only [Option.some.injEq, Prod.mk.injEq] at H
   obtain ⟨rfl, rfl⟩ := H
   go_wp2
   go_ret2
   exact ⟨_, ew_, by first | exact Kd.S_nil _ _ _ _ _ | exact Kd.N_nil _ _ _ _ _ | exact Kd.V_nil _ _ _ _ _ | exact Kd.Q_nil _ _ _ _ _ | exact Kd.R_nil _ _ _ _ _, hb_⟩
  replace c8 := Bool.eq_false_iff.mpr c8
  subst c8
  rw [if_neg (show ¬ (false = true) by decide)] at H
  by_cases c9 : 0 ≤ aH
  rotate_left
  ·rw [if_neg c9] at H
   exact absurd H (by simp)
  rw [if_pos c9] at H
  have dL := eq_true c9
  have dJ := dt_ c9
  clear c9
  by_cases cA : aH ≤ (wrap64 (aH + aN))
  rotate_left
  ·rw [if_neg cA] at H
   exact absurd H (by simp)
  rw [if_pos cA] at H
  have c5 := eq_true cA
  have c3 := dt_ cA
  by_cases b4 : (wrap64 (aH + aN)) ≤ (a0.size : Int)
  rotate_left
  ·rw [if_neg b4] at H
   exact absurd H (by simp)
  rw [if_pos b4] at H
  have dB := eq_true b4
  have dA := dt_ b4
  obtain ⟨⟨aM, aQ, aK, aT, aJ, aI, a7⟩, c1, H⟩ := bq_ H
  (try dsimp only at H)
  by_cases a6 : a7 = 0
  rotate_left
  ·rw [if_neg a6] at H
   have bH := ef_ a6
   have a8 := nt_ a6
   simp only [Option.some.injEq, Prod.mk.injEq] at H
   obtain ⟨rfl, rfl⟩ := H
   go_wp2_with (first | (refine gc_ 24 ?_; refine goesL_ (some 40) rfl rfl Try.func24 (by kernel_rfl) rfl #[.string (a0.extract (aH : Int).toNat ((wrap64 (aH + aN)) : Int).toNat)] rfl (by (try simp only [List.map_toArray, List.map_cons, List.map_nil]); first | done | rfl | (simp only [List.length_drop, List.length_take]; rfl) | (simp only [ByteArray.size_extract, Nat.sub_zero]; rfl) | (simp only [ByteArray.size_extract, Nat.sub_zero]; done) | ((try go_simp); (try simp only [ByteArray.size_extract, Nat.sub_zero]); (try simp only [eq_iff_iff, iff_true] at *); repeat (first | rfl | omega | congr 1))) ?_; (with_reducible refine (zq1h.calls kj5 (a0.extract (aH : Int).toNat ((wrap64 (aH + aN)) : Int).toNat) aM aQ aK aT aJ aI a7 _ c1.out).mono ?_); rintro e dQ ⟨cU, cN, rfl, bC, bB, hb⟩; refine ⟨_, rfl, ?_⟩; replace aD := q_ (Kd.S_mono (Kd.S_told (Kd.S_told (Kd.S_old (sk_ aD.out) hb) (Kd.R_base bC)) (Kd.R_base bB)) (fun _ h_ => h_.1)); have aG := q_ (Kd.R_lower bC (y0j hb_)); have aE := q_ (Kd.R_lower bB (y0j hb_)); replace HB := q_ (y0k hb_ hb)) | (refine gd_ 12 ?_; (try (refine y23 (by rfl) ?_; dsimp only)); refine bx_ 12 (cs := #[.string nB_, .string nB_, .string nB_, .int .i64 0, .slice none 0 0, .slice none 0 0]) 25 ?_; intro aA hg dP hbox hb; replace aD := q_ (Kd.S_below (Kd.S_elderB (sk_ aD.out) aA (Nat.le_of_eq hg.symm)) hb); replace aG := q_ (Kd.R_below (rk_ aG.out) hb); replace aE := q_ (Kd.R_below (rk_ aE.out) hb); have aC := q_ (hbox); have bG := gw_ w hg (y0j hb_); have bD := gw_ w hg (y0j hb_); replace HB := q_ (y0k hb_ hb); clear hb hbox hg; obtain ⟨b3, cK, b5, b1, bY, cG, bU, cE, b7, bT, cB, b8⟩ := b6_ aC.out; obtain ⟨dG, dE, cV⟩ := Kd.R_slice aG.out; subst cV; obtain ⟨dM, dH, cW⟩ := Kd.R_slice aE.out; subst cW))
   go_ret2
   exact ⟨_, ew_, by first | exact Kd.S_nil _ _ _ _ _ | exact Kd.N_nil _ _ _ _ _ | exact Kd.V_nil _ _ _ _ _ | exact Kd.Q_nil _ _ _ _ _ | exact Kd.R_nil _ _ _ _ _, hb_⟩
  rw [if_pos a6] at H
  have bH := et_ a6
  have a8 := nf_ a6
  clear a6
  by_cases cD : aV.length < 1353245080339
  rotate_left
  ·rw [if_neg cD] at H
   exact absurd H (by simp)
  rw [if_pos cD] at H
  have bA := q_ cD
  clear cD
  obtain ⟨a9, aZ⟩ : ∃ y_ : List (S25), y_ = (aV ++ [(⟨aM, aQ, aK, aT, aJ, aI⟩ : S25)]) := ⟨_, rfl⟩
  replace H : (zq1b.l0 kj5 a0 (wrap64 (aH + aN)) a9 a2 (wrap64 (aR + 1))) = some (r1, r2) := by first | (rw [aZ]; with_reducible exact H) | (have cT := (Option.bind_some _ _).symm.trans H; rw [aZ]; with_reducible exact cT) | (have cT := (Option.bind_some _ _).symm.trans H; with_reducible exact cT) | with_reducible exact H | (rw [aZ]; exact H) | exact H
  have bE := q_ aZ
  clear aZ
  have H' := q_ H
  clear H
  go_wp2_with (first | (refine gc_ 24 ?_; refine goesL_ (some 40) rfl rfl Try.func24 (by kernel_rfl) rfl #[.string (a0.extract (aH : Int).toNat ((wrap64 (aH + aN)) : Int).toNat)] rfl (by (try simp only [List.map_toArray, List.map_cons, List.map_nil]); first | done | rfl | (simp only [List.length_drop, List.length_take]; rfl) | (simp only [ByteArray.size_extract, Nat.sub_zero]; rfl) | (simp only [ByteArray.size_extract, Nat.sub_zero]; done) | ((try go_simp); (try simp only [ByteArray.size_extract, Nat.sub_zero]); (try simp only [eq_iff_iff, iff_true] at *); repeat (first | rfl | omega | congr 1))) ?_; (with_reducible refine (zq1h.calls kj5 (a0.extract (aH : Int).toNat ((wrap64 (aH + aN)) : Int).toNat) aM aQ aK aT aJ aI a7 _ c1.out).mono ?_); rintro e dO ⟨cU, cN, rfl, bC, bB, hb⟩; refine ⟨_, rfl, ?_⟩; replace aD := q_ (Kd.S_mono (Kd.S_told (Kd.S_told (Kd.S_old (sk_ aD.out) hb) (Kd.R_base bC)) (Kd.R_base bB)) (fun _ h_ => h_.1)); have aG := q_ (Kd.R_lower bC (y0j hb_)); have aE := q_ (Kd.R_lower bB (y0j hb_)); replace HB := q_ (y0k hb_ hb)) | (refine gd_ 12 ?_; (try (refine y23 (by rfl) ?_; dsimp only)); refine bx_ 12 (cs := #[.string nB_, .string nB_, .string nB_, .int .i64 0, .slice none 0 0, .slice none 0 0]) 25 ?_; intro aA hg dK hbox hb; replace aD := q_ (Kd.S_below (Kd.S_elderB (sk_ aD.out) aA (Nat.le_of_eq hg.symm)) hb); replace aG := q_ (Kd.R_below (rk_ aG.out) hb); replace aE := q_ (Kd.R_below (rk_ aE.out) hb); have aC := q_ (hbox); have bG := gw_ w hg (y0j hb_); have bD := gw_ w hg (y0j hb_); replace HB := q_ (y0k hb_ hb); clear hb hbox hg; obtain ⟨cJ, cF, cL, cI, bZ, bW, cM, bL, bP, bX, b2, b6⟩ := b6_ aC.out; obtain ⟨aX, aU, cR⟩ := Kd.R_slice aG.out; subst cR; obtain ⟨aY, aW, cS⟩ := Kd.R_slice aE.out; subst cS) | ((with_reducible refine y24 (t := 25) (p := 12) rfl ?_); refine y5b (t := 25) (p := 12) (v := ?vo_w20) (w1 := ((((((dK.setCell ⟨aA, 0, none⟩ (.string aM)).setCell ⟨aA, 1, none⟩ (.string aQ)).setCell ⟨aA, 2, none⟩ (.string aK)).setCell ⟨aA, 3, none⟩ (.int .i64 aT)).setCell ⟨aA, 4, none⟩ (.slice aX aJ.length aU)).setCell ⟨aA, 5, none⟩ (.slice aY aI.length aW))) ?hg ?ho ?hn ?hr ?_; (case ho => rfl); (case hg => rfl); (case hn => rfl); (case hr => first | (go_simp; done) | (go_simp; rfl)); intro bF hw; have cX : Aside0 (Kd.S k25 25 bF w.heap.size (fun k_ => some k_ ≠ (.slice aX aJ.length aU : Value).ownBlock ∧ some k_ ≠ (.slice aY aI.length aW : Value).ownBlock ∧ k_ ≠ aA) u8 aV) := ⟨(by rw [hw]; exact (sm_ (Kd.S_far (p := ⟨aA, 5, none⟩) (Kd.S_far (p := ⟨aA, 4, none⟩) (Kd.S_far (p := ⟨aA, 3, none⟩) (Kd.S_far (p := ⟨aA, 2, none⟩) (Kd.S_far (p := ⟨aA, 1, none⟩) (Kd.S_far (p := ⟨aA, 0, none⟩) (Kd.S_mono aD.out (fun k_ hk => (⟨hk, hk.2⟩ : _ ∧ k_ ≠ aA))) (fun _ hk => hk.2) (.string aM)) (fun _ hk => hk.2) (.string aQ)) (fun _ hk => hk.2) (.string aK)) (fun _ hk => hk.2) (.int .i64 aT)) (fun _ hk => hk.2) (.slice aX aJ.length aU)) (fun _ hk => hk.2) (.slice aY aI.length aW)) (fun _ hk => ⟨hk.1.1.1.2, ⟨hk.1.1.2, hk.1.2⟩⟩)))⟩; have cZ : Aside0 (Kd.R k62 62 bF w.heap.size (fun _ => True) (.slice aX aJ.length aU) aJ) := ⟨(by rw [hw]; exact (rm_ (Kd.R_far (p := ⟨aA, 5, none⟩) (Kd.R_far (p := ⟨aA, 4, none⟩) (Kd.R_far (p := ⟨aA, 3, none⟩) (Kd.R_far (p := ⟨aA, 2, none⟩) (Kd.R_far (p := ⟨aA, 1, none⟩) (Kd.R_far (p := ⟨aA, 0, none⟩) (Kd.R_types aG.out aC.out (by decide)) (fun _ hk => hk.2) (.string aM)) (fun _ hk => hk.2) (.string aQ)) (fun _ hk => hk.2) (.string aK)) (fun _ hk => hk.2) (.int .i64 aT)) (fun _ hk => hk.2) (.slice aX aJ.length aU)) (fun _ hk => hk.2) (.slice aY aI.length aW)) (fun _ hk => trivial)))⟩; have cY : Aside0 (Kd.R k43 43 bF w.heap.size (fun _ => True) (.slice aY aI.length aW) aI) := ⟨(by rw [hw]; exact (rm_ (Kd.R_far (p := ⟨aA, 5, none⟩) (Kd.R_far (p := ⟨aA, 4, none⟩) (Kd.R_far (p := ⟨aA, 3, none⟩) (Kd.R_far (p := ⟨aA, 2, none⟩) (Kd.R_far (p := ⟨aA, 1, none⟩) (Kd.R_far (p := ⟨aA, 0, none⟩) (Kd.R_types aE.out aC.out (by decide)) (fun _ hk => hk.2) (.string aM)) (fun _ hk => hk.2) (.string aQ)) (fun _ hk => hk.2) (.string aK)) (fun _ hk => hk.2) (.int .i64 aT)) (fun _ hk => hk.2) (.slice aX aJ.length aU)) (fun _ hk => hk.2) (.slice aY aI.length aW)) (fun _ hk => trivial)))⟩; have c6 : Aside0 (bF.heap[aA]? = some (.cells #[.string aM, .string aQ, .string aK, .int .i64 aT, .slice aX aJ.length aU, .slice aY aI.length aW] 25 (0, 0))) := ⟨(by rw [hw]; exact (bs_ aC.out))⟩; have c0 : Aside0 (Below w.heap.size w bF) := ⟨(by rw [hw]; exact hb_)⟩; clear hw aD aG aE aC HB; have aD := cX; have aG := cZ; have aE := cY; have aC := c6; have HB := c0; clear cX cZ cY c6 c0; obtain ⟨bR, bM, bN, bV, cH, bK, bO, b0, bS, cC, b9, bQ⟩ := b6_ aC.out) | ((with_reducible refine y22 (b := .append) (xs := #[.tmp 45, .tmp 47]) rfl ?_); (try (refine y23 (by rfl) ?_; dsimp only)); at_builtin; refine Kd.S_append k25 (w0 := w) w.heap.size rfl (.tmp 45) (.tmp 47) 46 25 (.agg #[(.string ⟨#[]⟩), (.string ⟨#[]⟩), (.string ⟨#[]⟩), (.int .i64 0), (.slice none 0 0), (.slice none 0 0)]) 104 rfl Try.underlying46 info25 rfl (by decide) (by omega) u8 aV (⟨aM, aQ, aK, aT, aJ, aI⟩ : S25) [.string aM, .string aQ, .string aK, .int .i64 aT, .slice aX aJ.length aU, .slice aY aI.length aW] (fun k_ => k_ ≠ aA) (fun k_ => some k_ = (.slice aX aJ.length aU : Value).ownBlock ∨ some k_ = (.slice aY aI.length aW : Value).ownBlock) rfl rfl ?aP (fun k_ hk_ => hk_.elim (fun h_ => ((Kd.R_mono (ok' := fun k_ => ((fun k_ => k_ ≠ aA)) k_ ∧ some k_ ≠ (u8 : Value).ownBlock) (Kd.R_types (Kd.R_apart' (aG.out) (Kd.S_typed aD.out) (by decide)) aC.out (by decide)) (fun k_ hk => ⟨hk.2, hk.1.2⟩))).1 k_ h_.symm) (fun h_ => ((Kd.R_mono (ok' := fun k_ => ((fun k_ => k_ ≠ aA)) k_ ∧ some k_ ≠ (u8 : Value).ownBlock) (Kd.R_types (Kd.R_apart' (aE.out) (Kd.S_typed aD.out) (by decide)) aC.out (by decide)) (fun k_ hk => ⟨hk.2, hk.1.2⟩))).1 k_ h_.symm)) ?aF ?aO ?aB ?aS ?aL ?_; (case aP => exact k25_mkM _ _ _ (⟨aM, aQ, aK, aT, aJ, aI⟩ : S25) (Kd.R_mono (Kd.R_tight rfl (Kd.R_mono (ok' := fun k_ => ((fun k_ => k_ ≠ aA)) k_ ∧ some k_ ≠ (u8 : Value).ownBlock) (Kd.R_types (Kd.R_apart' (aG.out) (Kd.S_typed aD.out) (by decide)) aC.out (by decide)) (fun k_ hk => ⟨hk.2, hk.1.2⟩))) (fun _ h_ => Or.inl h_)) (Kd.R_mono (Kd.R_tight rfl (Kd.R_mono (ok' := fun k_ => ((fun k_ => k_ ≠ aA)) k_ ∧ some k_ ≠ (u8 : Value).ownBlock) (Kd.R_types (Kd.R_apart' (aE.out) (Kd.S_typed aD.out) (by decide)) aC.out (by decide)) (fun k_ hk => ⟨hk.2, hk.1.2⟩))) (fun _ h_ => Or.inr (h_)))); (case aB => exact hb_); (case aF => exact (fun k_ hk => Kd.freshB (bk_ aC.out) k_ hk)); (case aO => exact (sm_ aD.out (fun k_ hk => ⟨hk.2.2, fun e_ => e_.elim (fun h_ => hk.1 h_) (fun h_ => hk.2.1 h_)⟩))); (case aS => exact (y0j hb_)); (case aL => have := bA.out; omega); intro dF dN ho hb hg hat; rw [← bE.out] at ho; replace aC := q_ (y0r (bk_ aC.out) hg (Kd.S_away aD.out (fun _ hk => hk.2.2))); replace HB := q_ (hb); have bI := q_ (ho); clear aD aG aE; clear ho hb hg hat))
  go_roundg kj5
  case measure => have := HK1.out; have := c2.out; omega
  case rel => exact ⟨(wrap64 (aH + aN)), (a9), (wrap64 (aR + 1)), cl_, cl_, H', ⟨oj_ c2.out⟩, ⟨sm_ bI.out (fun _ hk => trivial)⟩, ⟨hb_⟩⟩
end Go.Proofs.Ytenlmckahaniiaa.K
end
section
namespace Go.Proofs.Ytenlmckahaniiaa.K
open Go.RowKit Go.Proofs.YtW.P Go.Proofs.YtW.L
mutual
def zq1c.j0 : Nat → ByteArray → Bool → Option ((List (S25)) × Int)
  | 0, _, _ => none
  | k + 1, x4, x25 => if x25 = true then (some (([] : List (S25)), 9)) else ((zq1v.f k x4 4 2).bind fun bt734 => (if bt734.2.2 = 0 then (zq1c.j1 k x4 bt734.1 bt734.2.1 (decide (bt734.1 > 32))) else (zq1c.j1 k x4 bt734.1 bt734.2.1 true)))
def zq1c.j1 : Nat → ByteArray → Int → Int → Bool → Option ((List (S25)) × Int)
  | 0, _, _, _, _ => none
  | k + 1, x4, x6, x7, x37 => if x37 = true then (some (([] : List (S25)), 9)) else ((zq1b.f k x4 x7 x6).bind fun bt737 => (if bt737.2 = true then ((zq1g.f k bt737.1).bind fun t741 => (if t741 = 0 then (some (bt737.1, 0)) else (some (([] : List (S25)), 9)))) else (some (([] : List (S25)), 9))))
end
def zq1c.f (k : Nat) (a0 : ByteArray) : Option ((List (S25)) × Int) := (zq1t.f k a0).bind fun bt732 => (if bt732.2 = 0 then (if (bt732.1.size : Int) < 6 then (zq1c.j0 k bt732.1 true) else (if 0 ≤ 4 then (if 4 ≤ (bt732.1.size : Int) then (zq1c.j0 k bt732.1 ((bt732.1.extract 0 4).toList != ([76, 73, 66, 49] : List UInt8))) else (none)) else (none))) else (some (([] : List (S25)), bt732.2)))
theorem zq1c.mono_l : ∀ k, (∀ y0 y1, LeO (zq1c.j0 k y0 y1) (zq1c.j0 (k + 1) y0 y1)) ∧ (∀ y0 y1 y2 y3, LeO (zq1c.j1 k y0 y1 y2 y3) (zq1c.j1 (k + 1) y0 y1 y2 y3))
 | 0 => ⟨fun _ _ r h => by simp [zq1c.j0] at h, fun _ _ _ _ r h => by simp [zq1c.j1] at h⟩
 | k + 1 => by
  obtain ⟨ih0, ih1⟩ := zq1c.mono_l k
  refine ⟨?_, ?_⟩
  ·intro y0 y1
   unfold zq1c.j0
   with_reducible repeat' first | apply ih0 | apply ih1 | apply zq1g.mono | apply zq1b.mono | apply zq1v.mono | apply zq1t.mono | exact LeO.refl _ | exact LeO.none _ | refine LeO.ite ?_ ?_ | refine LeO.bind ?_ (fun _ => ?_)
  ·intro y0 y1 y2 y3
   unfold zq1c.j1
   with_reducible repeat' first | apply ih0 | apply ih1 | apply zq1g.mono | apply zq1b.mono | apply zq1v.mono | apply zq1t.mono | exact LeO.refl _ | exact LeO.none _ | refine LeO.ite ?_ ?_ | refine LeO.bind ?_ (fun _ => ?_)
theorem zq1c.mono : ∀ a0 k, LeO (zq1c.f k a0) (zq1c.f (k + 1) a0) := by
 intro a0 k
 obtain ⟨ih0, ih1⟩ := zq1c.mono_l k
 unfold zq1c.f
 with_reducible repeat' first | apply ih0 | apply ih1 | apply zq1g.mono | apply zq1b.mono | apply zq1v.mono | apply zq1t.mono | exact LeO.refl _ | exact LeO.none _ | refine LeO.ite ?_ ?_ | refine LeO.bind ?_ (fun _ => ?_)
theorem zq1c.calls (k : Nat) (a0 : ByteArray) (r1 : List (S25)) (r2 : Int) (w : World) (h : zq1c.f k a0 = some (r1, r2)) :
  Calls Try.prog 39 #[.string a0] w fun e w' => ∃ v0_ : Value, e = .returned (.tuple #[v0_, .int .i64 r2]) ∧ Kd.S k25 25 w' w.heap.size (fun _ => True) v0_ r1 ∧ Below w.heap.size w w' := by
 have HB := q_ (Below.refl w.heap.size w)
 have H : ((zq1t.f k a0).bind fun aC => (if aC.2 = 0 then (if (aC.1.size : Int) < 6 then (zq1c.j0 k aC.1 true) else (if 0 ≤ 4 then (if 4 ≤ (aC.1.size : Int) then (zq1c.j0 k aC.1 ((aC.1.extract 0 4).toList != ([76, 73, 66, 49] : List UInt8))) else (none)) else (none))) else (some (([] : List (S25)), aC.2)))) = some (r1, r2) := h
 clear h
 obtain ⟨⟨aB, aN⟩, A2, H⟩ := bq_ H
 (try dsimp only at H)
 by_cases c3 : aN = 0
 rotate_left
 ·rw [if_neg c3] at H
  have a3 := ef_ c3
  have aX := nt_ c3
  simp only [Option.some.injEq, Prod.mk.injEq] at H
  obtain ⟨rfl, rfl⟩ := H
  go_enter Try.func39, Try.ntmps39
  go_wp2_with (first | (refine gc_ 61 ?_; refine gl_ (some 12) Try.func61 #[.string a0] ?_; (with_reducible refine (zq1t.calls k a0 aB aN _ A2.out).mono ?_); rintro e bO ⟨rfl, hb⟩; refine ⟨_, rfl, ?_⟩; replace HB := q_ (y0k hb_ hb)))
  go_ret2
  exact ⟨_, ew_, by first | exact Kd.S_nil _ _ _ _ _ | exact Kd.N_nil _ _ _ _ _ | exact Kd.V_nil _ _ _ _ _ | exact Kd.Q_nil _ _ _ _ _ | exact Kd.R_nil _ _ _ _ _, hb_⟩
 rw [if_pos c3] at H
 have a3 := et_ c3
 have aX := nf_ c3
 clear c3
 have a2 := q_ H
 clear H
 go_enter Try.func39, Try.ntmps39
 go_upto_region 4 with (first | (refine gc_ 61 ?_; refine gl_ (some 12) Try.func61 #[.string a0] ?_; (with_reducible refine (zq1t.calls k a0 aB aN _ A2.out).mono ?_); rintro e w5 ⟨rfl, hb⟩; refine ⟨_, rfl, ?_⟩; replace HB := q_ (y0k hb_ hb)))
 (try simp only [Act.put, List.setIfInBounds_toArray, List.set_cons_zero, List.set_cons_succ])
 go_cut [25] (fun bD wc => ∃ (kq : Nat) (aH : Bool), bD = .bool aH ∧ Aside0 (zq1c.j0 kq aB aH = some (r1, r2)) ∧ Aside0 (kq ≤ k) ∧ Aside0 (Below w.heap.size w wc))
 case first =>
  have H := a2.out
  clear a2
  by_cases c6 : (aB.size : Int) < 6
  ·rw [if_pos c6] at H
   have aI := dt_ c6
   have aY : decide (aB.size < 6) = true := decide_eq_true (by omega)
   clear c6
   (first | rw [aI] | (simp only [y2h, y2g]; rw [aI]) | skip)
   have H' := q_ H
   clear H
   go_wp2
   go_meet
   case rel => exact ⟨_, (true), cl_, H', ⟨oz_⟩, ⟨hb_⟩⟩
  rw [if_neg c6] at H
  have aI := df_ c6
  have aY : decide (aB.size < 6) = false := decide_eq_false (by omega)
  clear c6
  (first | rw [aI] | (simp only [y2h, y2g]; rw [aI]) | skip)
  by_cases c7 : 0 ≤ 4
  rotate_left
  ·rw [if_neg c7] at H
   exact absurd H (by simp)
  rw [if_pos c7] at H
  have bB := eq_true c7
  have bI := dt_ c7
  clear c7
  by_cases c8 : 4 ≤ (aB.size : Int)
  rotate_left
  ·rw [if_neg c8] at H
   exact absurd H (by simp)
  rw [if_pos c8] at H
  have a9 := eq_true c8
  have bG := dt_ c8
  clear c8
  have H' := q_ H
  clear H
  go_wp2
  go_meet
  case rel => exact ⟨_, (((aB.extract 0 4).toList != ([76, 73, 66, 49] : List UInt8))), cl_, H', ⟨oz_⟩, ⟨hb_⟩⟩
 clear a2
 obtain ⟨kq, aH, rfl, HA, a6, HB⟩ := hcut
 obtain _ | kj3 := kq
 ·exact nn_ HA
 have H := HA.out
 clear HA
 simp only [zq1c.j0] at H
 by_cases c9 : aH = true
 ·subst c9
  rw [if_pos rfl] at H
  simp only [Option.some.injEq, Prod.mk.injEq] at H
  obtain ⟨rfl, rfl⟩ := H
  go_wp2
  go_ret2
  exact ⟨_, ew_, by first | exact Kd.S_nil _ _ _ _ _ | exact Kd.N_nil _ _ _ _ _ | exact Kd.V_nil _ _ _ _ _ | exact Kd.Q_nil _ _ _ _ _ | exact Kd.R_nil _ _ _ _ _, hb_⟩
 replace c9 := Bool.eq_false_iff.mpr c9
 subst c9
 rw [if_neg (show ¬ (false = true) by decide)] at H
 obtain ⟨⟨aE, aF, aP⟩, bJ, H⟩ := bq_ H
 (try dsimp only at H)
 have aO := q_ H
 clear H
 go_upto_region 7 with (first | (refine gc_ 80 ?_; refine gl_ (some 28) Try.func80 #[.string aB, .int .i64 4, .int .i64 2] ?_; (with_reducible refine (zq1v.calls kj3 aB 4 2 aE aF aP _ bJ.out).mono ?_); rintro e w' ⟨rfl, ⟨nd, rfl⟩⟩; refine ⟨_, rfl, ?_⟩))
 (try simp only [Act.put, List.setIfInBounds_toArray, List.set_cons_zero, List.set_cons_succ])
 go_cut [37] (fun bA wc => ∃ (kq : Nat) (aD : Bool), bA = .bool aD ∧ Aside0 (zq1c.j1 kq aB aE aF aD = some (r1, r2)) ∧ Aside0 (kq ≤ kj3) ∧ Aside0 (Below w.heap.size w wc))
 case first =>
  have H := aO.out
  clear aO
  by_cases aL : aP = 0
  rotate_left
  ·rw [if_neg aL] at H
   have aG := ef_ aL
   have aU := nt_ aL
   (first | rw [aG] | (simp only [y2h, y2g]; rw [aG]) | skip)
   have H' := q_ H
   clear H
   go_wp2
   go_meet
   case rel => exact ⟨_, (true), cl_, H', ⟨by have := a6.out; first | omega | exact Nat.le_refl _⟩, ⟨hb_⟩⟩
  rw [if_pos aL] at H
  have aG := et_ aL
  have aU := nf_ aL
  clear aL
  (first | rw [aG] | (simp only [y2h, y2g]; rw [aG]) | skip)
  have H' := q_ H
  clear H
  go_wp2
  go_meet
  case rel => exact ⟨_, (decide (aE > 32)), cl_, H', ⟨by have := a6.out; first | omega | exact Nat.le_refl _⟩, ⟨hb_⟩⟩
 clear aO
 obtain ⟨kq, aD, rfl, HA, a8, HB⟩ := hcut
 obtain _ | kj10 := kq
 ·exact nn_ HA
 have H := HA.out
 clear HA
 simp only [zq1c.j1] at H
 by_cases aW : aD = true
 ·subst aW
  rw [if_pos rfl] at H
  simp only [Option.some.injEq, Prod.mk.injEq] at H
  obtain ⟨rfl, rfl⟩ := H
  go_wp2
  go_ret2
  exact ⟨_, ew_, by first | exact Kd.S_nil _ _ _ _ _ | exact Kd.N_nil _ _ _ _ _ | exact Kd.V_nil _ _ _ _ _ | exact Kd.Q_nil _ _ _ _ _ | exact Kd.R_nil _ _ _ _ _, hb_⟩
 replace aW := Bool.eq_false_iff.mpr aW
 subst aW
 rw [if_neg (show ¬ (false = true) by decide)] at H
 obtain ⟨⟨aJ, a1⟩, a4, H⟩ := bq_ H
 (try dsimp only at H)
 by_cases aV : a1 = true
 rotate_left
 ·replace aV := Bool.eq_false_iff.mpr aV
  subst aV
  rw [if_neg (show ¬ (false = true) by decide)] at H
  simp only [Option.some.injEq, Prod.mk.injEq] at H
  obtain ⟨rfl, rfl⟩ := H
  go_wp2_with (first | (refine gc_ 81 ?_; refine gl_ (some 42) Try.func81 #[.string aB, .int .i64 aF, .int .i64 aE] ?_; (with_reducible refine (zq1b.calls kj10 aB aF aE aJ false _ a4.out).mono ?_); rintro e bL ⟨aT, rfl, aS, hb⟩; refine ⟨_, rfl, ?_⟩; have aA := q_ (Kd.S_lower aS (y0j hb_)); replace HB := q_ (y0k hb_ hb)))
  go_ret2
  exact ⟨_, ew_, by first | exact Kd.S_nil _ _ _ _ _ | exact Kd.N_nil _ _ _ _ _ | exact Kd.V_nil _ _ _ _ _ | exact Kd.Q_nil _ _ _ _ _ | exact Kd.R_nil _ _ _ _ _, hb_⟩
 subst aV
 rw [if_pos rfl] at H
 obtain ⟨aM, a7, H⟩ := bq_ H
 (try dsimp only at H)
 by_cases aK : aM = 0
 rotate_left
 ·rw [if_neg aK] at H
  have aQ := ef_ aK
  have aR := nt_ aK
  simp only [Option.some.injEq, Prod.mk.injEq] at H
  obtain ⟨rfl, rfl⟩ := H
  go_wp2_with (first | (refine gc_ 81 ?_; refine gl_ (some 42) Try.func81 #[.string aB, .int .i64 aF, .int .i64 aE] ?_; (with_reducible refine (zq1b.calls kj10 aB aF aE aJ true _ a4.out).mono ?_); rintro e bK ⟨aT, rfl, aS, hb⟩; refine ⟨_, rfl, ?_⟩; have aA := q_ (Kd.S_lower aS (y0j hb_)); replace HB := q_ (y0k hb_ hb); obtain ⟨bH, bC, aZ⟩ := Kd.S_slice aA.out; subst aZ) | (go_at_call 34; (with_reducible refine (zq1g.calls kj10 _ _ aJ aM _ ?side1 ?side2 a7.out).mono ?_); (case side1 => exact ck_ (Kd.S_reads' aA.out).2.2); (case side2 => exact (Kd.S_reads' aA.out).2.1); rintro e bM ⟨rfl, hb⟩; replace aA := q_ (Kd.S_below (sk_ aA.out) hb); replace HB := q_ (y0k hb_ hb)))
  go_ret2
  exact ⟨_, ew_, by first | exact Kd.S_nil _ _ _ _ _ | exact Kd.N_nil _ _ _ _ _ | exact Kd.V_nil _ _ _ _ _ | exact Kd.Q_nil _ _ _ _ _ | exact Kd.R_nil _ _ _ _ _, hb_⟩
 rw [if_pos aK] at H
 have aQ := et_ aK
 have aR := nf_ aK
 clear aK
 simp only [Option.some.injEq, Prod.mk.injEq] at H
 obtain ⟨rfl, rfl⟩ := H
 go_wp2_with (first | (refine gc_ 81 ?_; refine gl_ (some 42) Try.func81 #[.string aB, .int .i64 aF, .int .i64 aE] ?_; (with_reducible refine (zq1b.calls kj10 aB aF aE aJ true _ a4.out).mono ?_); rintro e bP ⟨aT, rfl, aS, hb⟩; refine ⟨_, rfl, ?_⟩; have aA := q_ (Kd.S_lower aS (y0j hb_)); replace HB := q_ (y0k hb_ hb); obtain ⟨bE, bF, a5⟩ := Kd.S_slice aA.out; subst a5) | (go_at_call 34; (with_reducible refine (zq1g.calls kj10 _ _ aJ aM _ ?side1 ?side2 a7.out).mono ?_); (case side1 => exact ck_ (Kd.S_reads' aA.out).2.2); (case side2 => exact (Kd.S_reads' aA.out).2.1); rintro e bN ⟨rfl, hb⟩; replace aA := q_ (Kd.S_below (sk_ aA.out) hb); replace HB := q_ (y0k hb_ hb)))
 go_ret2
 exact ⟨_, ew_, by (with_reducible repeat (first | apply Kd.S_alloc | apply Kd.S_drewN | apply Kd.S_drew)); exact aA.out, hb_⟩
end Go.Proofs.Ytenlmckahaniiaa.K
end
section
namespace Go.Proofs.Ytenlmckahaniiaa.K
open Go.RowKit Go.Proofs.YtW.P Go.Proofs.YtW.L
def zqw.l0 : Nat → List Int → List Int → Int → Option (Bool)
  | 0, _, _, _ => none
  | k + 1, x0, x1, x5 => if x5 < (x0.length : Int) then (if 0 ≤ x5 then (if x5 < (x1.length : Int) then (if (rd x0 x5) = (rd x1 x5) then (zqw.l0 k x0 x1 (wrap64 (x5 + 1))) else (some false)) else (none)) else (none)) else (some true)
def zqw.f (k : Nat) (l0 : List Int) (l1 : List Int) : Option (Bool) := if (l0.length : Int) = (l1.length : Int) then (zqw.l0 k l0 l1 0) else (some false)
theorem zqw.mono_l : ∀ k, (∀ y0 y1 y2, LeO (zqw.l0 k y0 y1 y2) (zqw.l0 (k + 1) y0 y1 y2))
 | 0 => fun _ _ _ r h => by simp [zqw.l0] at h
 | k + 1 => by
  have ih0 := zqw.mono_l k
  ·intro y0 y1 y2
   unfold zqw.l0
   with_reducible repeat' first | apply ih0 | exact LeO.refl _ | exact LeO.none _ | refine LeO.ite ?_ ?_ | refine LeO.bind ?_ (fun _ => ?_)
theorem zqw.mono : ∀ a0 a1 k, LeO (zqw.f k a0 a1) (zqw.f (k + 1) a0 a1) := by
 intro a0 a1 k
 have ih0 := zqw.mono_l k
 unfold zqw.f
 with_reducible repeat' first | apply ih0 | exact LeO.refl _ | exact LeO.none _ | refine LeO.ite ?_ ?_ | refine LeO.bind ?_ (fun _ => ?_)
theorem zqw.calls (k : Nat) (A0 : Option Addr) (c0 : Nat) (l0 : List Int) (A1 : Option Addr) (c1 : Nat) (l1 : List Int) (r : Bool) (w : World) (aV : Kd.C (Kd.int .i64) w A0 l0.length l0) (aU : l0.length ≤ c0) (aR : Kd.C (Kd.int .i64) w A1 l1.length l1) (aS : l1.length ≤ c1) (h : zqw.f k l0 l1 = some r) :
  Calls Try.prog 42 #[.slice A0 l0.length c0, .slice A1 l1.length c1] w fun e w' => e = .returned (.bool r) ∧ Drawn0 w w' := by
 have aT := q_ aV
 have a0 := q_ aU
 clear aV aU
 have aW := q_ aR
 have aZ := q_ aS
 clear aR aS
 have H : (if (l0.length : Int) = (l1.length : Int) then (zqw.l0 k l0 l1 0) else (some false)) = some r := h
 clear h
 by_cases c3 : (l0.length : Int) = (l1.length : Int)
 rotate_left
 ·rw [if_neg c3] at H
  have aP := ef_ c3
  have aL := nt_ c3
  have aN : (l0.length == l1.length) = false := by first | simpa using c3 | (simp at c3 ⊢; omega)
  obtain rfl := Option.some.inj H
  go_enter Try.func42, Try.ntmps42
  go_wp2
  repeat (go_quiet (fail); try go_wp2)
  go_ret
  exact ⟨by first | rfl | (simp; done) | (simp [y2o]; done) | (simp [*]; done), by repeat (first | exact Drawn0.refl _ | apply Drawn0.step)⟩
 rw [if_pos c3] at H
 have aP := et_ c3
 have aL := nf_ c3
 have aN : (l0.length == l1.length) = true := by first | simpa using c3 | (simp at c3 ⊢; omega)
 clear c3
 have H' := q_ H
 clear H
 go_enter Try.func42, Try.ntmps42
 go_wp2
 repeat (go_quiet (fail); try go_wp2)
 go_loopg [5] k (fun kq v5 w' => ∃ (aA : Int), v5 = .int .i64 aA ∧ Aside0 (zqw.l0 kq l0 l1 aA = some r) ∧ Aside0 (kq ≤ k) ∧ Drawn0 w w')
 case atStart => exact ⟨(0), cl_, H', ⟨Nat.le_refl _⟩, by repeat (first | exact Drawn0.refl _ | apply Drawn0.step)⟩
 case round =>
  clear H'
  obtain ⟨aA, rfl, HA, HK1, ⟨m1, rfl⟩⟩ := hrel
  obtain _ | k1 := gk
  ·exact nn_ HA
  have H := HA.out
  clear HA
  simp only [zqw.l0] at H
  by_cases c4 : aA < (l0.length : Int)
  rotate_left
  ·rw [if_neg c4] at H
   have aQ := df_ c4
   clear c4
   obtain rfl := Option.some.inj H
   go_wp2
   repeat (go_quiet (fail); try go_wp2)
   go_ret
   exact ⟨by first | rfl | (simp; done) | (simp [y2o]; done) | (simp [*]; done), by repeat (first | exact Drawn0.refl _ | apply Drawn0.step)⟩
  rw [if_pos c4] at H
  have aQ := dt_ c4
  clear c4
  by_cases c5 : 0 ≤ aA
  rotate_left
  ·rw [if_neg c5] at H
   exact absurd H (by simp)
  rw [if_pos c5] at H
  have aY := dt_ c5
  clear c5
  by_cases c6 : aA < (l1.length : Int)
  rotate_left
  ·rw [if_neg c6] at H
   exact absurd H (by simp)
  rw [if_pos c6] at H
  have aX := dt_ c6
  clear c6
  by_cases c7 : (rd l0 aA) = (rd l1 aA)
  rotate_left
  ·rw [if_neg c7] at H
   have aM := ef_ c7
   have aO := nt_ c7
   obtain rfl := Option.some.inj H
   have aB : 0 ≤ (aA : Int) := oa_
   have aD : aA < (l0.length : Int) := oa_
   obtain ⟨aJ, aH, aG⟩ := Kd.at_int aT.out aA aB aD
   cases aH
   replace aB := eq_true aB
   replace aD := eq_true aD
   have aE : 0 ≤ (aA : Int) := oa_
   have aC : aA < (l1.length : Int) := oa_
   obtain ⟨aK, aI, aF⟩ := Kd.at_int aW.out aA aE aC
   cases aI
   replace aE := eq_true aE
   replace aC := eq_true aC
   go_wp2
   repeat (go_quiet (fail); try go_wp2)
   go_ret
   exact ⟨by first | rfl | (simp; done) | (simp [y2o]; done) | (simp [*]; done), by repeat (first | exact Drawn0.refl _ | apply Drawn0.step)⟩
  rw [if_pos c7] at H
  have aM := et_ c7
  have aO := nf_ c7
  clear c7
  have H' := q_ H
  clear H
  have aB : 0 ≤ (aA : Int) := oa_
  have aD : aA < (l0.length : Int) := oa_
  obtain ⟨aJ, aH, aG⟩ := Kd.at_int aT.out aA aB aD
  cases aH
  replace aB := eq_true aB
  replace aD := eq_true aD
  have aE : 0 ≤ (aA : Int) := oa_
  have aC : aA < (l1.length : Int) := oa_
  obtain ⟨aK, aI, aF⟩ := Kd.at_int aW.out aA aE aC
  cases aI
  replace aE := eq_true aE
  replace aC := eq_true aC
  go_wp2
  repeat (go_quiet (fail); try go_wp2)
  go_roundg k1
  case measure => have := HK1.out; omega
  case rel => exact ⟨(wrap64 (aA + 1)), cl_, H', ⟨by have := HK1.out; omega⟩, by repeat (first | exact Drawn0.refl _ | apply Drawn0.step)⟩
end Go.Proofs.Ytenlmckahaniiaa.K
end
