/- Lemmas for several laws: what their proofs need of this seat's texts, in one place. -/
import Derived.Test.YtgcmhfoegbaaiaaZcTw1
set_option linter.unusedVariables false
set_option linter.unusedSimpArgs false
set_option linter.unusedSectionVars false
set_option maxHeartbeats 8000000
set_option maxRecDepth 100000
section
namespace Go.Proofs.Ytgcmhfoegbaaiaa.K
open Go.RowKit Go.Proofs.YtW.P Go.Proofs.YtW.L
mutual
def zq9.j0 : Nat → Bool → Bool → ByteArray → List ByteArray → ByteArray → Option (Bool)
  | 0, _, _, _, _, _ => none
  | k + 1, x29, x105000, x105001, x105002, x105003 => if x29 = true then (some false) else (zq9.l0 k 0 x105000 x105001 x105002 x105003)
def zq9.l0 : Nat → Int → Bool → ByteArray → List ByteArray → ByteArray → Option (Bool)
  | 0, _, _, _, _, _ => none
  | k + 1, x3, x105000, x105001, x105002, x105003 => if x3 < (x105001.size : Int) then (if 0 ≤ x3 then ((zqb.f (wrap64 (bt x105001 x3))).bind fun t105 => (if t105 = true then (zq9.l0 k (wrap64 (x3 + 1)) x105000 x105001 x105002 x105003) else (some false))) else (none)) else (zq9.l1 k 0 x105000 x105001 x105002 x105003)
def zq9.l1 : Nat → Int → Bool → ByteArray → List ByteArray → ByteArray → Option (Bool)
  | 0, _, _, _, _, _ => none
  | k + 1, x4, x105000, x105001, x105002, x105003 => if x4 < (x105002.length : Int) then (if 0 ≤ x4 then (if ((rdOf ByteArray.empty x105002 x4).size : Int) = 1 then (zq9.l1 k (wrap64 (x4 + 1)) x105000 x105001 x105002 x105003) else ((zqg.f k (rdOf ByteArray.empty x105002 x4)).bind fun t108 => (if t108 = true then (zq9.l1 k (wrap64 (x4 + 1)) x105000 x105001 x105002 x105003) else (some false)))) else (none)) else (some true)
end
def zq9.f (k : Nat) (a0_0 : Bool) (a0_1 : ByteArray) (l0_2 : List ByteArray) (a0_3 : ByteArray) : Option (Bool) := if (a0_3.size : Int) > 256 then (zq9.j0 k true a0_0 a0_1 l0_2 a0_3) else (if (l0_2.length : Int) > 16 then (zq9.j0 k true a0_0 a0_1 l0_2 a0_3) else (if (a0_1.size : Int) > 79 then (zq9.j0 k true a0_0 a0_1 l0_2 a0_3) else (if a0_0 = true then (zq9.j0 k (a0_1.toList != ([] : List UInt8)) a0_0 a0_1 l0_2 a0_3) else (zq9.j0 k false a0_0 a0_1 l0_2 a0_3))))
theorem zq9.mono_l : ∀ k, (∀ y0 y1 y2 y3 y4, LeO (zq9.j0 k y0 y1 y2 y3 y4) (zq9.j0 (k + 1) y0 y1 y2 y3 y4)) ∧ (∀ y0 y1 y2 y3 y4, LeO (zq9.l0 k y0 y1 y2 y3 y4) (zq9.l0 (k + 1) y0 y1 y2 y3 y4)) ∧ (∀ y0 y1 y2 y3 y4, LeO (zq9.l1 k y0 y1 y2 y3 y4) (zq9.l1 (k + 1) y0 y1 y2 y3 y4))
 | 0 => ⟨fun _ _ _ _ _ r h => by simp [zq9.j0] at h, fun _ _ _ _ _ r h => by simp [zq9.l0] at h, fun _ _ _ _ _ r h => by simp [zq9.l1] at h⟩
 | k + 1 => by
  obtain ⟨ih0, ih1, ih2⟩ := zq9.mono_l k
  refine ⟨?_, ?_, ?_⟩
  ·intro y0 y1 y2 y3 y4
   unfold zq9.j0
   with_reducible repeat' first | apply ih0 | apply ih1 | apply ih2 | apply zqg.mono | exact LeO.refl _ | exact LeO.none _ | refine LeO.ite ?_ ?_ | refine LeO.bind ?_ (fun _ => ?_)
  ·intro y0 y1 y2 y3 y4
   unfold zq9.l0
   with_reducible repeat' first | apply ih0 | apply ih1 | apply ih2 | apply zqg.mono | exact LeO.refl _ | exact LeO.none _ | refine LeO.ite ?_ ?_ | refine LeO.bind ?_ (fun _ => ?_)
  ·intro y0 y1 y2 y3 y4
   unfold zq9.l1
   with_reducible repeat' first | apply ih0 | apply ih1 | apply ih2 | apply zqg.mono | exact LeO.refl _ | exact LeO.none _ | refine LeO.ite ?_ ?_ | refine LeO.bind ?_ (fun _ => ?_)
theorem zq9.mono : ∀ a0 a1 a2 a3 k, LeO (zq9.f k a0 a1 a2 a3) (zq9.f (k + 1) a0 a1 a2 a3) := by
 intro a0 a1 a2 a3 k
 obtain ⟨ih0, ih1, ih2⟩ := zq9.mono_l k
 unfold zq9.f
 with_reducible repeat' first | apply ih0 | apply ih1 | apply ih2 | apply zqg.mono | exact LeO.refl _ | exact LeO.none _ | refine LeO.ite ?_ ?_ | refine LeO.bind ?_ (fun _ => ?_)
theorem zq9.calls (k : Nat) (aG : Bool) (aC : ByteArray) (aQ : Option Addr) (aR : Nat) (aB : List ByteArray) (aF : ByteArray) (r : Bool) (w : World) (aX : Kd.C Kd.string w aQ aB.length aB) (aW : aB.length ≤ aR) (h : zq9.f k aG aC aB aF = some r) :
  Calls Try.prog 20 #[.agg #[.bool aG, .string aC, .slice aQ aB.length aR, .string aF]] w fun e w' => e = .returned (.bool r) ∧ Below w.heap.size w w' := by
 have eO := Try.underlying24
 have aL := q_ aX
 have eL := q_ aW
 clear aX aW
 have HB := q_ (Below.refl w.heap.size w)
 have H : (if (aF.size : Int) > 256 then (zq9.j0 k true aG aC aB aF) else (if (aB.length : Int) > 16 then (zq9.j0 k true aG aC aB aF) else (if (aC.size : Int) > 79 then (zq9.j0 k true aG aC aB aF) else (if aG = true then (zq9.j0 k (aC.toList != ([] : List UInt8)) aG aC aB aF) else (zq9.j0 k false aG aC aB aF))))) = some r := h
 clear h
 have dK := q_ H
 clear H
 go_enter Try.func20, Try.ntmps20
 go_upto_region 1 with (first | (refine gd_ 1 ?_; (try (refine y12 (by rfl) ?_; dsimp only)); refine bx_ 1 (cs := #[.bool aG, .string aC, .slice aQ aB.length aR, .string aF]) 24 ?_; intro aV hg w3 hbox hb; have aA := q_ (hbox); have eK := gw_ w hg (y08 hb_); have eJ := gw_ w hg (y08 hb_); replace HB := q_ (y09 hb_ hb); clear hb hbox hg))
 (try simp only [Act.put, List.setIfInBounds_toArray, List.set_cons_zero, List.set_cons_succ])
 go_cut [29] (fun eP wc => ∃ (kq : Nat) (aP : Bool), eP = .bool aP ∧ Aside0 (zq9.j0 kq aP aG aC aB aF = some r) ∧ Aside0 (kq ≤ k) ∧ Aside0 (wc.heap[aV]? = some (.cells #[.bool aG, .string aC, (.slice aQ aB.length aR), .string aF] 24 (0, 0))) ∧ Aside0 (Below w.heap.size w wc))
 case first =>
  have H := dK.out
  clear dK
  by_cases c4 : (aF.size : Int) > 256
  ·rw [if_pos c4] at H
   have aT := dt_ c4
   have dL : decide (256 < aF.size) = true := decide_eq_true (by omega)
   clear c4
   (first | rw [aT] | (simp only [y17, y15]; rw [aT]) | skip)
   have H' := q_ H
   clear H
   obtain ⟨dQ, d2, dR, d3, dS, d4, dT, d5⟩ := b4_ aA.out
   go_wp2
   go_meet
   case rel => exact ⟨_, (true), cl_, H', ⟨oz_⟩, ⟨bk_ aA.out⟩, ⟨hb_⟩⟩
  rw [if_neg c4] at H
  have aT := df_ c4
  have dL : decide (256 < aF.size) = false := decide_eq_false (by omega)
  clear c4
  (first | rw [aT] | (simp only [y17, y15]; rw [aT]) | skip)
  by_cases c6 : (aB.length : Int) > 16
  ·rw [if_pos c6] at H
   have dM := dt_ c6
   have dN : decide (16 < aB.length) = true := decide_eq_true (by omega)
   clear c6
   have H' := q_ H
   clear H
   obtain ⟨dU, d6, dV, d7, dW, d8, dX, d9⟩ := b4_ aA.out
   go_wp2
   go_meet
   case rel => exact ⟨_, (true), cl_, H', ⟨oz_⟩, ⟨bk_ aA.out⟩, ⟨hb_⟩⟩
  rw [if_neg c6] at H
  have dM := df_ c6
  have dN : decide (16 < aB.length) = false := decide_eq_false (by omega)
  clear c6
  by_cases c8 : (aC.size : Int) > 79
  ·rw [if_pos c8] at H
   have dO := dt_ c8
   have dP : decide (79 < aC.size) = true := decide_eq_true (by omega)
   clear c8
   have H' := q_ H
   clear H
   obtain ⟨dY, eA, dZ, eB, d0, eC, d1, eD⟩ := b4_ aA.out
   go_wp2
   go_meet
   case rel => exact ⟨_, (true), cl_, H', ⟨oz_⟩, ⟨bk_ aA.out⟩, ⟨hb_⟩⟩
  rw [if_neg c8] at H
  have dO := df_ c8
  have dP : decide (79 < aC.size) = false := decide_eq_false (by omega)
  clear c8
  by_cases bB : aG = true
  ·subst bB
   rw [if_pos rfl] at H
   have H' := q_ H
   clear H
   obtain ⟨bH, cH, bI, cI, bJ, cJ, bK, cK⟩ := b4_ aA.out
   go_wp2
   go_meet
   case rel => exact ⟨_, ((aC.toList != ([] : List UInt8))), cl_, H', ⟨oz_⟩, ⟨bk_ aA.out⟩, ⟨hb_⟩⟩
  replace bB := Bool.eq_false_iff.mpr bB
  subst bB
  rw [if_neg (show ¬ (false = true) by decide)] at H
  have H' := q_ H
  clear H
  obtain ⟨bL, cL, bM, cM, bN, cN, bO, cO⟩ := b4_ aA.out
  go_wp2
  go_meet
  case rel => exact ⟨_, (false), cl_, H', ⟨oz_⟩, ⟨bk_ aA.out⟩, ⟨hb_⟩⟩
 clear dK
 obtain ⟨kq, aP, rfl, HA, a0, aA, HB⟩ := hcut
 obtain _ | kj1 := kq
 ·exact nn_ HA
 have H := HA.out
 clear HA
 simp only [zq9.j0] at H
 by_cases bC : aP = true
 ·subst bC
  rw [if_pos rfl] at H
  obtain rfl := Option.some.inj H
  go_wp2
  go_ret
  exact ⟨ew_, hb_⟩
 replace bC := Bool.eq_false_iff.mpr bC
 subst bC
 rw [if_neg (show ¬ (false = true) by decide)] at H
 have H' := q_ H
 clear H
 go_wp2
 go_loopg [3] kj1 (fun kq v3 w' => ∃ (aH : Int), v3 = .int .i64 aH ∧ Aside0 (zq9.l0 kq aH aG aC aB aF = some r) ∧ Aside0 (kq ≤ kj1) ∧ Aside0 (w'.heap[aV]? = some (.cells #[.bool aG, .string aC, (.slice aQ aB.length aR), .string aF] 24 (0, 0))) ∧ Aside0 (Below w.heap.size w w'))
 case atStart => exact ⟨(0), cl_, H', ⟨Nat.le_refl _⟩, ⟨bk_ aA.out⟩, ⟨hb_⟩⟩
 case round =>
  clear H'
  obtain ⟨aH, rfl, HA, a1, aA, HB⟩ := hrel
  obtain _ | k2 := gk
  ·exact nn_ HA
  have H := HA.out
  clear HA
  simp only [zq9.l0] at H
  by_cases a2 : aH < (aC.size : Int)
  ·rw [if_pos a2] at H
   have a4 := dt_ a2
   clear a2
   by_cases bD : 0 ≤ aH
   rotate_left
   ·rw [if_neg bD] at H
    exact absurd H (by simp)
   rw [if_pos bD] at H
   have eM := dt_ bD
   clear bD
   obtain ⟨eF, eH, H⟩ := bq_ H
   (try dsimp only at H)
   by_cases bE : eF = true
   rotate_left
   ·replace bE := Bool.eq_false_iff.mpr bE
    subst bE
    rw [if_neg (show ¬ (false = true) by decide)] at H
    obtain rfl := Option.some.inj H
    obtain ⟨bT, cT, bU, cU, bV, cV, bW, cW⟩ := b4_ aA.out
    have a8 : 0 ≤ (aH : Int) := oa_
    have a9 : aH < (aC.size : Int) := oa_
    have eE := y0q aC aH
    replace a8 := eq_true a8
    replace a9 := eq_true a9
    go_wp2_with (first | (refine gc_ 34 ?_; refine gl_ (some 42) Try.func34 #[.int .i64 (wrap64 (bt aC aH))] ?_; (with_reducible refine (zqb.calls (wrap64 (bt aC aH)) false _ eH.out).mono ?_); rintro e w' ⟨rfl, ⟨nd, rfl⟩⟩; refine ⟨_, rfl, ?_⟩))
    go_ret
    exact ⟨ew_, hb_⟩
   subst bE
   rw [if_pos rfl] at H
   have H' := q_ H
   clear H
   obtain ⟨bP, cP, bQ, cQ, bR, cR, bS, cS⟩ := b4_ aA.out
   have a8 : 0 ≤ (aH : Int) := oa_
   have a9 : aH < (aC.size : Int) := oa_
   have eE := y0q aC aH
   replace a8 := eq_true a8
   replace a9 := eq_true a9
   go_wp2_with (first | (refine gc_ 34 ?_; refine gl_ (some 42) Try.func34 #[.int .i64 (wrap64 (bt aC aH))] ?_; (with_reducible refine (zqb.calls (wrap64 (bt aC aH)) true _ eH.out).mono ?_); rintro e w' ⟨rfl, ⟨nd, rfl⟩⟩; refine ⟨_, rfl, ?_⟩))
   go_roundg k2
   case measure => have := a0.out; have := a1.out; omega
   case rel => exact ⟨(wrap64 (aH + 1)), cl_, H', ⟨by have := a0.out; have := a1.out; omega⟩, ⟨bk_ aA.out⟩, ⟨hb_⟩⟩
  rw [if_neg a2] at H
  have a4 := df_ a2
  clear a2
  have H' := q_ H
  clear H
  obtain ⟨bX, cX, bY, cY, bZ, cZ, b0, c0⟩ := b4_ aA.out
  go_wp2
  go_loopg [4] k2 (fun kq v4 w' => ∃ (aD : Int), v4 = .int .i64 aD ∧ Aside0 (zq9.l1 kq aD aG aC aB aF = some r) ∧ Aside0 (kq ≤ k2) ∧ Aside0 (w'.heap[aV]? = some (.cells #[.bool aG, .string aC, (.slice aQ aB.length aR), .string aF] 24 (0, 0))) ∧ Aside0 (Below w.heap.size w w'))
  case atStart => exact ⟨(0), cl_, H', ⟨Nat.le_refl _⟩, ⟨bk_ aA.out⟩, ⟨hb_⟩⟩
  case round =>
   clear H'
   obtain ⟨aD, rfl, HA, bA, aA, HB⟩ := hrel
   obtain _ | k3 := gk
   ·exact nn_ HA
   have H := HA.out
   clear HA
   simp only [zq9.l1] at H
   by_cases a3 : aD < (aB.length : Int)
   rotate_left
   ·rw [if_neg a3] at H
    have a5 := df_ a3
    clear a3
    obtain rfl := Option.some.inj H
    obtain ⟨cD, dG, cE, dH, cF, dI, cG, dJ⟩ := b4_ aA.out
    go_wp2
    go_ret
    exact ⟨ew_, hb_⟩
   rw [if_pos a3] at H
   have a5 := dt_ a3
   clear a3
   by_cases bF : 0 ≤ aD
   rotate_left
   ·rw [if_neg bF] at H
    exact absurd H (by simp)
   rw [if_pos bF] at H
   have eN := dt_ bF
   clear bF
   by_cases aY : ((rdOf ByteArray.empty aB aD).size : Int) = 1
   ·rw [if_pos aY] at H
    have a6 := et_ aY
    have a7 := nf_ aY
    clear aY
    have H' := q_ H
    clear H
    obtain ⟨b1, c1, b2, c2, b3, c3, b4, c5⟩ := b4_ aA.out
    have aJ : 0 ≤ (aD : Int) := oa_
    have aK : aD < (aB.length : Int) := oa_
    obtain ⟨aO, aU, aE⟩ := Kd.at_string aL.out aD aJ aK
    cases aU
    replace aE := cb_ HB.out aE
    replace aJ := eq_true aJ
    replace aK := eq_true aK
    go_wp2
    go_roundg k3
    case measure => have := a0.out; have := a1.out; have := bA.out; omega
    case rel => exact ⟨(wrap64 (aD + 1)), cl_, H', ⟨by have := a0.out; have := a1.out; have := bA.out; omega⟩, ⟨bk_ aA.out⟩, ⟨hb_⟩⟩
   rw [if_neg aY] at H
   have a6 := ef_ aY
   have a7 := nt_ aY
   obtain ⟨eG, eI, H⟩ := bq_ H
   (try dsimp only at H)
   by_cases bG : eG = true
   rotate_left
   ·replace bG := Bool.eq_false_iff.mpr bG
    subst bG
    rw [if_neg (show ¬ (false = true) by decide)] at H
    obtain rfl := Option.some.inj H
    obtain ⟨b9, dC, cA, dD, cB, dE, cC, dF⟩ := b4_ aA.out
    have aJ : 0 ≤ (aD : Int) := oa_
    have aK : aD < (aB.length : Int) := oa_
    obtain ⟨aO, aU, aE⟩ := Kd.at_string aL.out aD aJ aK
    cases aU
    replace aE := cb_ HB.out aE
    replace aJ := eq_true aJ
    replace aK := eq_true aK
    have aM : 0 ≤ (aD : Int) := oa_
    have aN : aD < (aB.length : Int) := oa_
    obtain ⟨aS, aZ, aI⟩ := Kd.at_string aL.out aD aM aN
    obtain rfl : aO = aS := (by injection aZ)
    replace aI := cb_ HB.out aI
    replace aM := eq_true aM
    replace aN := eq_true aN
    go_wp2_with (first | (go_at_call 35; (with_reducible refine (zqg.calls k3 (rdOf ByteArray.empty aB aD) false _ eI.out).mono ?_); rintro e w' ⟨rfl, ⟨nd, rfl⟩⟩))
    go_ret
    exact ⟨ew_, hb_⟩
   subst bG
   rw [if_pos rfl] at H
   have H' := q_ H
   clear H
   obtain ⟨b5, c7, b6, c9, b7, dA, b8, dB⟩ := b4_ aA.out
   have aJ : 0 ≤ (aD : Int) := oa_
   have aK : aD < (aB.length : Int) := oa_
   obtain ⟨aO, aU, aE⟩ := Kd.at_string aL.out aD aJ aK
   cases aU
   replace aE := cb_ HB.out aE
   replace aJ := eq_true aJ
   replace aK := eq_true aK
   have aM : 0 ≤ (aD : Int) := oa_
   have aN : aD < (aB.length : Int) := oa_
   obtain ⟨aS, aZ, aI⟩ := Kd.at_string aL.out aD aM aN
   obtain rfl : aO = aS := (by injection aZ)
   replace aI := cb_ HB.out aI
   replace aM := eq_true aM
   replace aN := eq_true aN
   go_wp2_with (first | (go_at_call 35; (with_reducible refine (zqg.calls k3 (rdOf ByteArray.empty aB aD) true _ eI.out).mono ?_); rintro e w' ⟨rfl, ⟨nd, rfl⟩⟩))
   go_roundg k3
   case measure => have := a0.out; have := a1.out; have := bA.out; omega
   case rel => exact ⟨(wrap64 (aD + 1)), cl_, H', ⟨by have := a0.out; have := a1.out; have := bA.out; omega⟩, ⟨bk_ aA.out⟩, ⟨hb_⟩⟩
end Go.Proofs.Ytgcmhfoegbaaiaa.K
end
section
namespace Go.Proofs.Ytgcmhfoegbaaiaa.K
open Go.RowKit Go.Proofs.YtW.P Go.Proofs.YtW.L
def zqc.f (k : Nat) (a0_0 : Bool) (a0_1 : ByteArray) (l0_2 : List ByteArray) (a0_3 : ByteArray) : Option (Bool) := (zqd.f k a0_0 a0_1 l0_2 a0_3).bind fun t110 => (if t110 = true then ((zq9.f k a0_0 a0_1 l0_2 a0_3).bind fun t111 => (some t111)) else (some false))
theorem zqc.mono : ∀ a0 a1 a2 a3 k, LeO (zqc.f k a0 a1 a2 a3) (zqc.f (k + 1) a0 a1 a2 a3) := by
 intro a0 a1 a2 a3 k
 unfold zqc.f
 with_reducible repeat' first | apply zqd.mono | apply zq9.mono | exact LeO.refl _ | exact LeO.none _ | refine LeO.ite ?_ ?_ | refine LeO.bind ?_ (fun _ => ?_)
theorem zqc.calls (k : Nat) (aC : Bool) (aD : ByteArray) (aF : Option Addr) (aG : Nat) (aB : List ByteArray) (aE : ByteArray) (r : Bool) (w : World) (aK : Kd.C Kd.string w aF aB.length aB) (aJ : aB.length ≤ aG) (h : zqc.f k aC aD aB aE = some r) :
  Calls Try.prog 10 #[.agg #[.bool aC, .string aD, .slice aF aB.length aG, .string aE]] w fun e w' => e = .returned (.bool r) ∧ Below w.heap.size w w' := by
 have bE := Try.underlying24
 have aI := q_ aK
 have aH := q_ aJ
 clear aK aJ
 have HB := q_ (Below.refl w.heap.size w)
 have H : ((zqd.f k aC aD aB aE).bind fun aL => (if aL = true then ((zq9.f k aC aD aB aE).bind fun aM => (some aM)) else (some false))) = some r := h
 clear h
 obtain ⟨aL, A2, H⟩ := bq_ H
 (try dsimp only at H)
 by_cases c3 : aL = true
 rotate_left
 ·replace c3 := Bool.eq_false_iff.mpr c3
  subst c3
  rw [if_neg (show ¬ (false = true) by decide)] at H
  obtain rfl := Option.some.inj H
  go_enter Try.func10, Try.ntmps10
  go_wp2_with (first | (refine gd_ 1 ?_; refine bx_ 1 (cs := #[.bool aC, .string aD, .slice aF aB.length aG, .string aE]) 24 ?_; intro aP hg bF hbox hb; have aA := q_ (hbox); have aO := gw_ w hg (y08 hb_); have aN := gw_ w hg (y08 hb_); replace HB := q_ (y09 hb_ hb); clear hb hbox hg; obtain ⟨aQ, aU, aR, aV, aS, aW, aT, aX⟩ := b4_ aA.out) | (refine gc_ 18 ?_; refine gl_ (some 4) Try.func18 #[.agg #[.bool aC, .string aD, .slice aF aB.length aG, .string aE]] ?_; (with_reducible refine (zqd.calls k aC aD _ _ aB aE false _ ?side1 ?side2 A2.out).mono ?_); (case side1 => exact ck_ (Kd.C_below aI.out HB.out)); (case side2 => exact aH.out); rintro e bG ⟨rfl, hb⟩; refine ⟨_, rfl, ?_⟩; replace aA := q_ (y0b (bk_ aA.out) hb); replace HB := q_ (y09 hb_ hb)))
  go_ret
  exact ⟨ew_, hb_⟩
 subst c3
 rw [if_pos rfl] at H
 obtain ⟨aM, A4, H⟩ := bq_ H
 (try dsimp only at H)
 obtain rfl := Option.some.inj H
 go_enter Try.func10, Try.ntmps10
 go_wp2_with (first | (refine gd_ 1 ?_; refine bx_ 1 (cs := #[.bool aC, .string aD, .slice aF aB.length aG, .string aE]) 24 ?_; intro aP hg w5 hbox hb; have aA := q_ (hbox); have aO := gw_ w hg (y08 hb_); have aN := gw_ w hg (y08 hb_); replace HB := q_ (y09 hb_ hb); clear hb hbox hg; obtain ⟨aY, a6, aZ, a7, a0, a8, a1, a9⟩ := b4_ aA.out) | (refine gc_ 18 ?_; refine gl_ (some 4) Try.func18 #[.agg #[.bool aC, .string aD, .slice aF aB.length aG, .string aE]] ?_; (with_reducible refine (zqd.calls k aC aD _ _ aB aE true _ ?side1 ?side2 A2.out).mono ?_); (case side1 => exact ck_ (Kd.C_below aI.out HB.out)); (case side2 => exact aH.out); rintro e w7 ⟨rfl, hb⟩; refine ⟨_, rfl, ?_⟩; replace aA := q_ (y0b (bk_ aA.out) hb); replace HB := q_ (y09 hb_ hb); obtain ⟨a2, bA, a3, bB, a4, bC, a5, bD⟩ := b4_ aA.out) | (go_at_call 20; (with_reducible refine (zq9.calls k aC aD _ _ aB aE aM _ ?side1 ?side2 A4.out).mono ?_); (case side1 => exact ck_ (Kd.C_below aI.out HB.out)); (case side2 => exact aH.out); rintro e w9 ⟨rfl, hb⟩; replace aA := q_ (y0b (bk_ aA.out) hb); replace HB := q_ (y09 hb_ hb)))
 go_ret
 exact ⟨ew_, hb_⟩
def zq0.f (l0 : List ByteArray) : Option (List ByteArray) := if l0.length * 16 ≤ 140737488355328 then some l0 else none
theorem zq0.calls (A0 : Option Addr) (c0 : Nat) (l0 : List ByteArray) (r : List ByteArray) (w : World) (aA : Kd.C Kd.string w A0 l0.length l0) (aD : l0.length ≤ c0) (h : zq0.f l0 = some r) :
  Calls Try.prog 30 #[.slice A0 l0.length c0] w fun e w' => ∃ v0_ : Value, e = .returned (v0_) ∧ Kd.R Kd.string 9 w' w.heap.size (fun _ => True) v0_ r ∧ Below w.heap.size w w' := by
 obtain ⟨hlt, h⟩ := ite_some h
 obtain rfl := Option.some.inj h
 have aE : ∀ (w : World) (a : Option Addr) (n c n' c' : Nat), (binOp .eql 22 (.slice a n c) (.slice none n' c')).run Try.prog w = .ok (.bool a.isNone) w := fun w a n c n' c' => Lib.run_eql_slice_nil w _ _ a n c n' c' Try.underlying22
 have inf : (Try.prog.info? 9).map (fun i => (i.zero, i.size, i.bytes)) = some (some (.string ⟨#[]⟩), 1, 16) := by kernel_rfl
 cases A0 with
 | none =>
  have hl : l0 = [] := by
   rcases Nat.eq_zero_or_pos l0.length with h0 | h0
   ·exact List.eq_nil_of_length_eq_zero h0
   ·obtain ⟨_, h1, _⟩ := aA.2.2 h0
    cases h1
  clear aA
  subst hl
  go_enter Try.func30, Try.ntmps30
  go_wp2
  go_ret
  exact ⟨_, rfl, Kd.R_nil _ _ _ _ _, Below.refl _ _⟩
 | some a =>
  have HL := q_ hlt
  have HR := q_ aA
  have HO : Aside0 (Kd.R Kd.string 9 (w.alloc (.cells #[] 9)) w.heap.size (fun _ => True) (.slice (some ⟨w.heap.size, 0, none⟩) 0 0) []) := ⟨Kd.R_of_own (World.ownsRow_lit (base := w.heap.size) (e := 9) (size := 1) w #[] 0 (Nat.le_refl _) (Nat.zero_le _) (by simp)) (fun _ _ => trivial)⟩
  have HS := q_ (Nat.le_of_lt (show w.heap.size < (w.alloc (.cells #[] 9)).heap.size by simp))
  have HB := q_ ((Below.refl w.heap.size w).alloc (Nat.le_refl _) (.cells #[] 9))
  have HRW := q_ (HR.out.imp_ ((Below.refl w.heap.size w).alloc (Nat.le_refl _) (.cells #[] 9)) (fun p c hp => hp))
  clear hlt aA aD
  go_enter Try.func30, Try.ntmps30
  go_wp2_with (at_builtin; refine Kd.R_append_rows Kd.string (w0 := w) w.heap.size rfl (.tmp 5) (.tmp 6) 22 9 (.string ⟨#[]⟩) 16 rfl Try.underlying22 inf rfl (by decide) (by omega) (.slice (some ⟨w.heap.size, 0, none⟩) 0 0) [] l0 (some a) l0.length c0 (fun _ => True) (fun _ => False) rfl rfl HO.out HRW.out (fun x cs hk => hk) (fun _ hk => hk.elim) (fun _ _ => trivial) HB.out HS.out (by have := HL.out; simp only [List.length_nil, Nat.zero_add]; exact this) ?_; intro v1 w1 ho hb hg hat; rw [List.nil_append] at ho; have aC := q_ ho; have aB := q_ hb; clear ho hb hg hat HO HB HRW HR)
  go_ret
  exact ⟨_, rfl, aC.out, aB.out⟩
end Go.Proofs.Ytgcmhfoegbaaiaa.K
end
section
namespace Go.Proofs.Ytgcmhfoegbaaiaa.K
open Go.RowKit Go.Proofs.YtW.P Go.Proofs.YtW.L
def zqs.f  : Option (Bool × ByteArray × List ByteArray × ByteArray) := some (false, nB_, ([] : List ByteArray), nB_)
theorem zqs.calls  (r1 : Bool) (r2 : ByteArray) (r3 : List ByteArray) (r4 : ByteArray) (w : World) (h : zqs.f  = some (r1, r2, r3, r4)) :
  Calls Try.prog 15 #[] w fun e w' => ∃ v2_ : Value, e = .returned (.agg #[.bool r1, .string r2, v2_, .string r4]) ∧ Kd.R Kd.string 9 w' w.heap.size (fun _ => True) v2_ r3 ∧ Below w.heap.size w w' := by
 have aM := Try.underlying24
 have HB := q_ (Below.refl w.heap.size w)
 have H : (some (false, nB_, ([] : List ByteArray), nB_)) = some (r1, r2, r3, r4) := h
 clear h
 simp only [Option.some.injEq, Prod.mk.injEq] at H
 obtain ⟨rfl, rfl, rfl, rfl⟩ := H
 go_enter Try.func15, Try.ntmps15
 go_wp2_with (first | (refine gd_ 0 ?_; refine bx_ 0 (cs := #[.bool false, .string nB_, .slice none 0 0, .string nB_]) 24 ?_; intro aB hg w1 hbox hb; have aA := q_ (hbox); have aL := gw_ w hg (y08 hb_); have aK := gw_ w hg (y08 hb_); replace HB := q_ (y09 hb_ hb); clear hb hbox hg; obtain ⟨aC, aG, aD, aH, aE, aI, aF, aJ⟩ := b4_ aA.out))
 refine bodyPost_ret (results_cell_row rfl _ _ aB 24 #[.bool false, .string nB_, .slice none 0 0, .string nB_] (0, 0) _ rfl (bs_ aA.out) Try.underlying24 rfl (by kernel_rfl)) rfl ?_
 exact ⟨_, ew_, nil_, hb_⟩
def zqm.l0 : Nat → ByteArray → List Int → Int → Int → Bool → ByteArray → List ByteArray → ByteArray → Option (Bool × ByteArray × List ByteArray × ByteArray × Int)
  | 0, _, _, _, _, _, _, _, _ => none
  | k + 1, x1, x10, x11, x12, x209000, x209001, x209002, x209003 => if x12 < x11 then (if 0 ≤ x12 then (if x12 < (x10.length : Int) then ((some (([rd x10 x12] : List Int) : List Int)).bind fun y214 => (if (rd x10 x12) = 10 then (if (wrap64 ((x209003.size : Int) + 2)) > 256 then (some (x209000, x209001, x209002, x209003, x12)) else (if x209003.size + 2 ≤ 9223372036854775807 then (zqm.l0 k x1 x10 x11 (wrap64 (x12 + 1)) x209000 x209001 x209002 (x209003 ++ (⟨#[13, 10]⟩ : ByteArray))) else (none))) else (if (wrap64 ((x209003.size : Int) + ((strOfNums y214).size : Int))) > 256 then (some (x209000, x209001, x209002, x209003, x12)) else (if x209003.size + (strOfNums y214).size ≤ 9223372036854775807 then (zqm.l0 k x1 x10 x11 (wrap64 (x12 + 1)) x209000 x209001 x209002 (x209003 ++ (strOfNums y214))) else (none))))) else (none)) else (none)) else (some (x209000, x209001, x209002, x209003, (x1.size : Int)))
def zqm.f (k : Nat) (a0_0 : Bool) (a0_1 : ByteArray) (l0_2 : List ByteArray) (a0_3 : ByteArray) (a1 : ByteArray) : Option (Bool × ByteArray × List ByteArray × ByteArray × Int) := if (a1.size : Int) ≤ 9223372036854775807 then ((some (bytesOf a1 : List Int)).bind fun y210 => (zqm.l0 k a1 y210 (y210.length : Int) 0 a0_0 a0_1 l0_2 a0_3)) else (none)
theorem zqm.mono_l : ∀ k, (∀ y0 y1 y2 y3 y4 y5 y6 y7, LeO (zqm.l0 k y0 y1 y2 y3 y4 y5 y6 y7) (zqm.l0 (k + 1) y0 y1 y2 y3 y4 y5 y6 y7))
 | 0 => fun _ _ _ _ _ _ _ _ r h => by simp [zqm.l0] at h
 | k + 1 => by
  have ih0 := zqm.mono_l k
  ·intro y0 y1 y2 y3 y4 y5 y6 y7
   unfold zqm.l0
   with_reducible repeat' first | apply ih0 | exact LeO.refl _ | exact LeO.none _ | refine LeO.ite ?_ ?_ | refine LeO.bind ?_ (fun _ => ?_)
theorem zqm.mono : ∀ a0 a1 a2 a3 a4 k, LeO (zqm.f k a0 a1 a2 a3 a4) (zqm.f (k + 1) a0 a1 a2 a3 a4) := by
 intro a0 a1 a2 a3 a4 k
 have ih0 := zqm.mono_l k
 unfold zqm.f
 with_reducible repeat' first | apply ih0 | exact LeO.refl _ | exact LeO.none _ | refine LeO.ite ?_ ?_ | refine LeO.bind ?_ (fun _ => ?_)
theorem zqm.calls (k : Nat) (aM : Bool) (aN : ByteArray) (aZ : Nat → Prop) (aU : Option Addr) (aV : Nat) (aH : List ByteArray) (a9 : ByteArray) (a1 : ByteArray) (r1 : Bool) (r2 : ByteArray) (r3 : List ByteArray) (r4 : ByteArray) (r5 : Int) (w : World) (bP : Kd.V Kd.string 9 w w.heap.size (fun k_ => aZ k_) (.slice aU aH.length aV) aH) (h : zqm.f k aM aN aH a9 a1 = some (r1, r2, r3, r4, r5)) :
  Calls Try.prog 16 #[.agg #[.bool aM, .string aN, .slice aU aH.length aV, .string a9], .string a1] w fun e w' => ∃ v2_ : Value, e = .returned (.tuple #[.agg #[.bool r1, .string r2, v2_, .string r4], .int .i64 r5]) ∧ Kd.V Kd.string 9 w' w.heap.size (fun k_ => (aZ k_ ∨ w.heap.size ≤ k_)) v2_ r3 ∧ Below w.heap.size w w' := by
 have eL := Try.underlying24
 have aX := q_ (show Kd.V Kd.string 9 w w.heap.size (fun k_ => (aZ k_ ∨ w.heap.size ≤ k_)) (.slice aU aH.length aV) aH from Kd.V_mono bP (fun k_ hk => .inl hk))
 have HB := q_ (Below.refl w.heap.size w)
 have H : (if (a1.size : Int) ≤ 9223372036854775807 then ((some (bytesOf a1 : List Int)).bind fun aD => (zqm.l0 k a1 aD (aD.length : Int) 0 aM aN aH a9)) else (none)) = some (r1, r2, r3, r4, r5) := h
 clear h
 by_cases c3 : (a1.size : Int) ≤ 9223372036854775807
 rotate_left
 ·rw [if_neg c3] at H
  exact absurd H (by simp)
 rw [if_pos c3] at H
 have eG := eq_true c3
 have eH := dt_ c3
 try have eI : (9223372036854775807 < (a1.size : Int)) = False := eq_false (Nat.not_lt.2 c3)
 clear c3
 obtain ⟨aD, a2⟩ : ∃ y_ : List Int, y_ = (bytesOf a1) := ⟨_, rfl⟩
 replace H : (zqm.l0 k a1 aD (aD.length : Int) 0 aM aN aH a9) = some (r1, r2, r3, r4, r5) := by first | (rw [a2]; with_reducible exact H) | (have bF := (Option.bind_some _ _).symm.trans H; rw [a2]; with_reducible exact bF) | (have bF := (Option.bind_some _ _).symm.trans H; with_reducible exact bF) | with_reducible exact H | (rw [a2]; exact H) | exact H
 have bC := q_ a2
 clear a2
 have H' := q_ H
 clear H
 go_enter Try.func16, Try.ntmps16
 go_wp2_with (first | (refine gd_ 2 ?_; refine bx_ 2 (cs := #[.bool aM, .string aN, .slice aU aH.length aV, .string a9]) 24 ?_; intro aL hg w4 hbox hb; replace aX := q_ (Kd.V_below (Kd.V_elderB (vk_ aX.out) aL (Nat.le_of_eq hg.symm)) hb); have aE := q_ (hbox); have dR := gw_ w hg (y08 hb_); have dP := gw_ w hg (y08 hb_); replace HB := q_ (y09 hb_ hb); clear hb hbox hg) | (refine gd_ 4 ?_; refine bx_ 4 (cs := #[.bool false, .string nB_, .slice none 0 0, .string nB_]) 24 ?_; intro aF hg w5 hbox hb; replace aX := q_ (Kd.V_below (Kd.V_elderB (vk_ aX.out) aF (Nat.le_of_eq hg.symm)) hb); have aG := q_ (hbox); have dS := gw_ w hg (y08 hb_); have dQ := gw_ w hg (y08 hb_); replace HB := q_ (y09 hb_ hb); have aJ := nl_ hg (bk_ aE.out); have aK := ng_ hg (bk_ aE.out); replace aE := q_ (y0b (bk_ aE.out) hb); clear hb hbox hg) | (refine gd_ 10 ?_; refine Kd.V_conv _ 5 rfl (N := 10) rfl 9 47 _ rfl a1 (by go_simp) Try.underlying9 Try.underlying47 Try.underlying5 (oa_) (Below.refl _ _) (Nat.le_refl _) ?_; intro eN w6 bO hb hg_ hnew_; clear hg_ hnew_; (first | rw [← bC.out] at bO | (simp only [Int.reduceToNat] at bO; rw [← bC.out] at bO)); replace aX := q_ (Kd.V_below (vk_ aX.out) hb); have bB := q_ (Kd.V_lower (Kd.V_mono (ok' := fun k_ => (aZ k_ ∨ w.heap.size ≤ k_) ∧ k_ ≠ aL ∧ k_ ≠ aF) bO (fun k_ hk_ => ⟨(.inr (Nat.le_trans (y08 hb_) hk_)), (Kd.freshB (bk_ aE.out) k_ hk_), (Kd.freshB (bk_ aG.out) k_ hk_)⟩)) (y08 hb_)); replace aE := q_ (y0b (bk_ aE.out) hb); replace aG := q_ (y0b (bk_ aG.out) hb); replace HB := q_ (y09 hb_ hb); clear hb bO; obtain ⟨eF, eJ, eK⟩ := Kd.V_slice bB.out; subst eK))
 go_loopg [12] k (fun kq eM w' => ∃ (aB : Int) (aA : ByteArray) (aO : Bool) (aP : ByteArray) (aQ : ByteArray), eM = .int .i64 aB ∧ Aside0 (zqm.l0 kq a1 aD (aD.length : Int) aB aM aN aH aA = some (r1, r2, r3, r4, r5)) ∧ Aside0 (kq ≤ k) ∧ Aside0 (Kd.V (Kd.int .u8) 5 w' w.heap.size (fun k_ => (aZ k_ ∨ w.heap.size ≤ k_) ∧ k_ ≠ aL ∧ k_ ≠ aF) (.slice eF aD.length eJ) aD) ∧ Aside0 (Kd.V Kd.string 9 w' w.heap.size (fun k_ => (aZ k_ ∨ w.heap.size ≤ k_) ∧ k_ ≠ aL ∧ k_ ≠ aF) (.slice aU aH.length aV) aH) ∧ Aside0 (w'.heap[aL]? = some (.cells #[.bool aM, .string aN, (.slice aU aH.length aV), .string aA] 24 (0, 0))) ∧ Aside0 (w'.heap[aF]? = some (.cells #[.bool aO, .string aP, (.slice none 0 0), .string aQ] 24 (0, 0))) ∧ Aside0 (Below w.heap.size w w'))
 case atStart => exact ⟨(0), (a9), (false), (nB_), (nB_), cl_, H', ⟨Nat.le_refl _⟩, ⟨vk_ bB.out⟩, ⟨vm_ aX.out (fun _ hk => ⟨hk.1.1, ⟨hk.1.2, hk.2⟩⟩)⟩, ⟨bk_ aE.out⟩, ⟨bk_ aG.out⟩, ⟨hb_⟩⟩
 case round =>
  clear H'
  obtain ⟨aB, aA, aO, aP, aQ, rfl, HA, HK1, aI, aC, aE, aG, HB⟩ := hrel
  obtain _ | k1 := gk
  ·exact nn_ HA
  have H := HA.out
  clear HA
  simp only [zqm.l0] at H
  by_cases c9 : aB < (aD.length : Int)
  rotate_left
  ·rw [if_neg c9] at H
   have dO := df_ c9
   clear c9
   simp only [Option.some.injEq, Prod.mk.injEq] at H
   obtain ⟨rfl, rfl, rfl, rfl, rfl⟩ := H
   have d9 := aJ.out
   have eE := aK.out
   obtain ⟨cG, dE, cH, dF, cI, dG, cJ, dH⟩ := b4_ aE.out
   obtain ⟨cK, dI, cL, dJ, cM, dK, cN, dL⟩ := b4_ aG.out
   go_wp2
   refine bodyPost_ret (y1o rfl _ _ aF 24 #[.bool aM, .string aN, .slice aU aH.length aV, .string aA] (0, 0) _ rfl (bs_ aG.out) Try.underlying24 rfl (by kernel_rfl)) rfl ?_
   exact ⟨_, ew_, by (with_reducible repeat (first | apply Kd.V_alloc | apply Kd.V_drewN | apply Kd.V_drew)); exact Kd.V_mono (Kd.V_far (p := ⟨aF, 3, none⟩) (Kd.V_far (p := ⟨aF, 2, none⟩) (Kd.V_far (p := ⟨aF, 1, none⟩) (Kd.V_far (p := ⟨aF, 0, none⟩) (Kd.V_mono aC.out (fun k_ hk => (⟨hk, hk.2.2⟩ : _ ∧ k_ ≠ aF))) (fun _ hk => hk.2) (.bool aM)) (fun _ hk => hk.2) (.string aN)) (fun _ hk => hk.2) (.slice aU aH.length aV)) (fun _ hk => hk.2) (.string aA)) (fun _ hk => hk.1.1), hb_⟩
  rw [if_pos c9] at H
  have dO := dt_ c9
  clear c9
  by_cases bQ : 0 ≤ aB
  rotate_left
  ·rw [if_neg bQ] at H
   exact absurd H (by simp)
  rw [if_pos bQ] at H
  have dT := dt_ bQ
  clear bQ
  by_cases bR : aB < (aD.length : Int)
  rotate_left
  ·rw [if_neg bR] at H
   exact absurd H (by simp)
  rw [if_pos bR] at H
  have dU := dt_ bR
  clear bR
  obtain ⟨aW, a3⟩ : ∃ y_ : List Int, y_ = (([rd aD aB] : List Int)) := ⟨_, rfl⟩
  replace H : (if (rd aD aB) = 10 then (if (wrap64 ((aA.size : Int) + 2)) > 256 then (some (aM, aN, aH, aA, aB)) else (if aA.size + 2 ≤ 9223372036854775807 then (zqm.l0 k1 a1 aD (aD.length : Int) (wrap64 (aB + 1)) aM aN aH (aA ++ (⟨#[13, 10]⟩ : ByteArray))) else (none))) else (if (wrap64 ((aA.size : Int) + ((strOfNums aW).size : Int))) > 256 then (some (aM, aN, aH, aA, aB)) else (if aA.size + (strOfNums aW).size ≤ 9223372036854775807 then (zqm.l0 k1 a1 aD (aD.length : Int) (wrap64 (aB + 1)) aM aN aH (aA ++ (strOfNums aW))) else (none)))) = some (r1, r2, r3, r4, r5) := by first | (rw [a3]; with_reducible exact H) | (have bF := (Option.bind_some _ _).symm.trans H; rw [a3]; with_reducible exact bF) | (have bF := (Option.bind_some _ _).symm.trans H; with_reducible exact bF) | with_reducible exact H | (rw [a3]; exact H) | exact H
  have aT := q_ a3
  clear a3
  by_cases bG : (rd aD aB) = 10
  rotate_left
  ·rw [if_neg bG] at H
   have bK := ef_ bG
   have bL := nt_ bG
   by_cases bJ : (wrap64 ((aA.size : Int) + ((strOfNums aW).size : Int))) > 256
   ·rw [if_pos bJ] at H
    have bE := dt_ bJ
    clear bJ
    simp only [Option.some.injEq, Prod.mk.injEq] at H
    obtain ⟨rfl, rfl, rfl, rfl, rfl⟩ := H
    have aR : 0 ≤ (aB : Int) := oa_
    have aS : aB < (aD.length : Int) := oa_
    obtain ⟨bA, a4, a0⟩ := Kd.at_int (Kd.V_reads' aI.out).2.2 aB aR aS
    cases a4
    replace aR := eq_true aR
    replace aS := eq_true aS
    go_wp2_with (first | (refine gd_ 18 ?_; refine Kd.R_lit (Kd.int .u8) _ 5 ?hg (N := 18) ?hd (xs := ([rd aD aB] : List Int)) (inner := [.int .u8 (rd aD aB)]) (ok := fun _ => True) (okp := fun _ => True) ?hr ?hp (fun _ hk => hk) trivial (Below.refl _ _) (Nat.le_refl _) (by simp) ?_; (case hd => rfl); (case hg => rfl); (case hr => first | (go_simp; done) | (go_simp; rfl)); (case hp => exact (Reps.one (show Kd.M (Kd.int .u8) _ _ _ (rd aD aB) [.int .u8 (rd aD aB)] from rfl) (Reps.none _ _))); intro bH eQ a7 hb hg_ hnew_; clear hg_ hnew_; (first | rw [← aT.out] at a7 | (simp only [Int.reduceToNat] at a7; rw [← aT.out] at a7)); replace aI := q_ (Kd.V_elder' (vk_ aI.out) (Kd.R_base a7) hb); replace aC := q_ (Kd.V_elder' (vk_ aC.out) (Kd.R_base a7) hb); have aY := q_ (Kd.R_lower (Kd.R_newM (M := fun k_ => (w.heap.size ≤ k_)) a7 (y08 hb_) (fun k_ h_ => h_)) (y08 hb_)); replace aE := q_ (y0b (bk_ aE.out) hb); replace aG := q_ (y0b (bk_ aG.out) hb); replace HB := q_ (y09 hb_ hb); clear hb a7; have d3 := y1g (P := Try.prog) Try.underlying47 Try.underlying5 Try.underlying9 (Kd.own_of_R aY.out); have d7 := aJ.out; have eC := aK.out; obtain ⟨b4, c0, b5, c1, b6, c2, b7, c4⟩ := b4_ aE.out; obtain ⟨b8, c5, b9, c6, cA, c7, cB, c8⟩ := b4_ aG.out))
    refine bodyPost_ret (y1o rfl _ _ aF 24 #[.bool aM, .string aN, .slice aU aH.length aV, .string aA] (0, 0) _ rfl (bs_ aG.out) Try.underlying24 rfl (by kernel_rfl)) rfl ?_
    exact ⟨_, ew_, by (with_reducible repeat (first | apply Kd.V_alloc | apply Kd.V_drewN | apply Kd.V_drew)); exact Kd.V_mono (Kd.V_far (p := ⟨aF, 3, none⟩) (Kd.V_far (p := ⟨aF, 2, none⟩) (Kd.V_far (p := ⟨aF, 1, none⟩) (Kd.V_far (p := ⟨aF, 0, none⟩) (Kd.V_mono aC.out (fun k_ hk => (⟨hk, hk.1.2.2⟩ : _ ∧ k_ ≠ aF))) (fun _ hk => hk.2) (.bool aM)) (fun _ hk => hk.2) (.string aN)) (fun _ hk => hk.2) (.slice aU aH.length aV)) (fun _ hk => hk.2) (.string aA)) (fun _ hk => hk.1.1.1), hb_⟩
   rw [if_neg bJ] at H
   have bE := df_ bJ
   clear bJ
   by_cases bN : aA.size + (strOfNums aW).size ≤ 9223372036854775807
   rotate_left
   ·rw [if_neg bN] at H
    exact absurd H (by simp)
   rw [if_pos bN] at H
   have dY := eq_true bN
   have dZ := dt_ bN
   try have d0 : (9223372036854775807 < aA.size + (strOfNums aW).size) = False := eq_false (Nat.not_lt.2 bN)
   (try (have dN : decide (256 < (((aA.size : Int) + ((strOfNums aW).size : Int)))) = false := by have h_ := bE; rw [show wrap64 ((aA.size : Int) + ((strOfNums aW).size : Int)) = ((aA.size : Int) + ((strOfNums aW).size : Int)) by unfold wrap64; omega] at h_; exact h_))
   have H' := q_ H
   clear H
   have aR : 0 ≤ (aB : Int) := oa_
   have aS : aB < (aD.length : Int) := oa_
   obtain ⟨bA, a4, a0⟩ := Kd.at_int (Kd.V_reads' aI.out).2.2 aB aR aS
   cases a4
   replace aR := eq_true aR
   replace aS := eq_true aS
   go_wp2_with (first | (refine gd_ 18 ?_; refine Kd.R_lit (Kd.int .u8) _ 5 ?hg (N := 18) ?hd (xs := ([rd aD aB] : List Int)) (inner := [.int .u8 (rd aD aB)]) (ok := fun _ => True) (okp := fun _ => True) ?hr ?hp (fun _ hk => hk) trivial (Below.refl _ _) (Nat.le_refl _) (by simp) ?_; (case hd => rfl); (case hg => rfl); (case hr => first | (go_simp; done) | (go_simp; rfl)); (case hp => exact (Reps.one (show Kd.M (Kd.int .u8) _ _ _ (rd aD aB) [.int .u8 (rd aD aB)] from rfl) (Reps.none _ _))); intro bH eR a8 hb hg_ hnew_; clear hg_ hnew_; (first | rw [← aT.out] at a8 | (simp only [Int.reduceToNat] at a8; rw [← aT.out] at a8)); replace aI := q_ (Kd.V_elder' (vk_ aI.out) (Kd.R_base a8) hb); replace aC := q_ (Kd.V_elder' (vk_ aC.out) (Kd.R_base a8) hb); have aY := q_ (Kd.R_lower (Kd.R_newM (M := fun k_ => (w.heap.size ≤ k_)) a8 (y08 hb_) (fun k_ h_ => h_)) (y08 hb_)); replace aE := q_ (y0b (bk_ aE.out) hb); replace aG := q_ (y0b (bk_ aG.out) hb); replace HB := q_ (y09 hb_ hb); clear hb a8; have d4 := y1g (P := Try.prog) Try.underlying47 Try.underlying5 Try.underlying9 (Kd.own_of_R aY.out); have d8 := aJ.out; have eD := aK.out; obtain ⟨cC, dA, cD, dB, cE, dC, cF, dD⟩ := b4_ aE.out))
   go_roundg k1
   case measure => have := HK1.out; omega
   case rel => exact ⟨(wrap64 (aB + 1)), (aA ++ (strOfNums aW)), (aO), (aP), (aQ), cl_, H', ⟨by have := HK1.out; omega⟩, ⟨vm_ (Kd.V_far (p := ⟨aL, 3, none⟩) (Kd.V_mono aI.out (fun k_ hk => (⟨hk, hk.1.2.1⟩ : _ ∧ k_ ≠ aL))) (fun _ hk => hk.2) (.string (aA ++ (strOfNums aW)))) (fun _ hk => ⟨hk.1.1.1, ⟨hk.1.1.2.1, hk.1.1.2.2⟩⟩)⟩, ⟨vm_ (Kd.V_far (p := ⟨aL, 3, none⟩) (Kd.V_mono aC.out (fun k_ hk => (⟨hk, hk.1.2.1⟩ : _ ∧ k_ ≠ aL))) (fun _ hk => hk.2) (.string (aA ++ (strOfNums aW)))) (fun _ hk => ⟨hk.1.1.1, ⟨hk.1.1.2.1, hk.1.1.2.2⟩⟩)⟩, ⟨bs_ aE.out⟩, ⟨bs_ aG.out⟩, ⟨hb_⟩⟩
  rw [if_pos bG] at H
  have bK := et_ bG
  have bL := nf_ bG
  clear bG
  by_cases bI : (wrap64 ((aA.size : Int) + 2)) > 256
  ·rw [if_pos bI] at H
   have bD := dt_ bI
   clear bI
   simp only [Option.some.injEq, Prod.mk.injEq] at H
   obtain ⟨rfl, rfl, rfl, rfl, rfl⟩ := H
   have aR : 0 ≤ (aB : Int) := oa_
   have aS : aB < (aD.length : Int) := oa_
   obtain ⟨bA, a4, a0⟩ := Kd.at_int (Kd.V_reads' aI.out).2.2 aB aR aS
   cases a4
   replace aR := eq_true aR
   replace aS := eq_true aS
   go_wp2_with (first | (refine gd_ 18 ?_; refine Kd.R_lit (Kd.int .u8) _ 5 ?hg (N := 18) ?hd (xs := ([rd aD aB] : List Int)) (inner := [.int .u8 (rd aD aB)]) (ok := fun _ => True) (okp := fun _ => True) ?hr ?hp (fun _ hk => hk) trivial (Below.refl _ _) (Nat.le_refl _) (by simp) ?_; (case hd => rfl); (case hg => rfl); (case hr => first | (go_simp; done) | (go_simp; rfl)); (case hp => exact (Reps.one (show Kd.M (Kd.int .u8) _ _ _ (rd aD aB) [.int .u8 (rd aD aB)] from rfl) (Reps.none _ _))); intro bH eO a5 hb hg_ hnew_; clear hg_ hnew_; (first | rw [← aT.out] at a5 | (simp only [Int.reduceToNat] at a5; rw [← aT.out] at a5)); replace aI := q_ (Kd.V_elder' (vk_ aI.out) (Kd.R_base a5) hb); replace aC := q_ (Kd.V_elder' (vk_ aC.out) (Kd.R_base a5) hb); have aY := q_ (Kd.R_lower (Kd.R_newM (M := fun k_ => (w.heap.size ≤ k_)) a5 (y08 hb_) (fun k_ h_ => h_)) (y08 hb_)); replace aE := q_ (y0b (bk_ aE.out) hb); replace aG := q_ (y0b (bk_ aG.out) hb); replace HB := q_ (y09 hb_ hb); clear hb a5; have d1 := y1g (P := Try.prog) Try.underlying47 Try.underlying5 Try.underlying9 (Kd.own_of_R aY.out); have d5 := aJ.out; have eA := aK.out; obtain ⟨bS, cO, bT, cP, bU, cQ, bV, cR⟩ := b4_ aE.out; obtain ⟨bW, cS, bX, cT, bY, cU, bZ, cV⟩ := b4_ aG.out))
   refine bodyPost_ret (y1o rfl _ _ aF 24 #[.bool aM, .string aN, .slice aU aH.length aV, .string aA] (0, 0) _ rfl (bs_ aG.out) Try.underlying24 rfl (by kernel_rfl)) rfl ?_
   exact ⟨_, ew_, by (with_reducible repeat (first | apply Kd.V_alloc | apply Kd.V_drewN | apply Kd.V_drew)); exact Kd.V_mono (Kd.V_far (p := ⟨aF, 3, none⟩) (Kd.V_far (p := ⟨aF, 2, none⟩) (Kd.V_far (p := ⟨aF, 1, none⟩) (Kd.V_far (p := ⟨aF, 0, none⟩) (Kd.V_mono aC.out (fun k_ hk => (⟨hk, hk.1.2.2⟩ : _ ∧ k_ ≠ aF))) (fun _ hk => hk.2) (.bool aM)) (fun _ hk => hk.2) (.string aN)) (fun _ hk => hk.2) (.slice aU aH.length aV)) (fun _ hk => hk.2) (.string aA)) (fun _ hk => hk.1.1.1), hb_⟩
  rw [if_neg bI] at H
  have bD := df_ bI
  clear bI
  by_cases bM : aA.size + 2 ≤ 9223372036854775807
  rotate_left
  ·rw [if_neg bM] at H
   exact absurd H (by simp)
  rw [if_pos bM] at H
  have dV := eq_true bM
  have dW := dt_ bM
  try have dX : (9223372036854775807 < aA.size + 2) = False := eq_false (Nat.not_lt.2 bM)
  (try (have dM : decide (256 < (((aA.size : Int) + 2))) = false := by have h_ := bD; rw [show wrap64 ((aA.size : Int) + 2) = ((aA.size : Int) + 2) by unfold wrap64; omega] at h_; exact h_))
  have H' := q_ H
  clear H
  have aR : 0 ≤ (aB : Int) := oa_
  have aS : aB < (aD.length : Int) := oa_
  obtain ⟨bA, a4, a0⟩ := Kd.at_int (Kd.V_reads' aI.out).2.2 aB aR aS
  cases a4
  replace aR := eq_true aR
  replace aS := eq_true aS
  go_wp2_with (first | (refine gd_ 18 ?_; refine Kd.R_lit (Kd.int .u8) _ 5 ?hg (N := 18) ?hd (xs := ([rd aD aB] : List Int)) (inner := [.int .u8 (rd aD aB)]) (ok := fun _ => True) (okp := fun _ => True) ?hr ?hp (fun _ hk => hk) trivial (Below.refl _ _) (Nat.le_refl _) (by simp) ?_; (case hd => rfl); (case hg => rfl); (case hr => first | (go_simp; done) | (go_simp; rfl)); (case hp => exact (Reps.one (show Kd.M (Kd.int .u8) _ _ _ (rd aD aB) [.int .u8 (rd aD aB)] from rfl) (Reps.none _ _))); intro bH eP a6 hb hg_ hnew_; clear hg_ hnew_; (first | rw [← aT.out] at a6 | (simp only [Int.reduceToNat] at a6; rw [← aT.out] at a6)); replace aI := q_ (Kd.V_elder' (vk_ aI.out) (Kd.R_base a6) hb); replace aC := q_ (Kd.V_elder' (vk_ aC.out) (Kd.R_base a6) hb); have aY := q_ (Kd.R_lower (Kd.R_newM (M := fun k_ => (w.heap.size ≤ k_)) a6 (y08 hb_) (fun k_ h_ => h_)) (y08 hb_)); replace aE := q_ (y0b (bk_ aE.out) hb); replace aG := q_ (y0b (bk_ aG.out) hb); replace HB := q_ (y09 hb_ hb); clear hb a6; have d2 := y1g (P := Try.prog) Try.underlying47 Try.underlying5 Try.underlying9 (Kd.own_of_R aY.out); have d6 := aJ.out; have eB := aK.out; obtain ⟨b0, cW, b1, cX, b2, cY, b3, cZ⟩ := b4_ aE.out))
  go_roundg k1
  case measure => have := HK1.out; omega
  case rel => exact ⟨(wrap64 (aB + 1)), (aA ++ (⟨#[13, 10]⟩ : ByteArray)), (aO), (aP), (aQ), cl_, H', ⟨by have := HK1.out; omega⟩, ⟨vm_ (Kd.V_far (p := ⟨aL, 3, none⟩) (Kd.V_mono aI.out (fun k_ hk => (⟨hk, hk.1.2.1⟩ : _ ∧ k_ ≠ aL))) (fun _ hk => hk.2) (.string (aA ++ (⟨#[13, 10]⟩ : ByteArray)))) (fun _ hk => ⟨hk.1.1.1, ⟨hk.1.1.2.1, hk.1.1.2.2⟩⟩)⟩, ⟨vm_ (Kd.V_far (p := ⟨aL, 3, none⟩) (Kd.V_mono aC.out (fun k_ hk => (⟨hk, hk.1.2.1⟩ : _ ∧ k_ ≠ aL))) (fun _ hk => hk.2) (.string (aA ++ (⟨#[13, 10]⟩ : ByteArray)))) (fun _ hk => ⟨hk.1.1.1, ⟨hk.1.1.2.1, hk.1.1.2.2⟩⟩)⟩, ⟨bs_ aE.out⟩, ⟨bs_ aG.out⟩, ⟨hb_⟩⟩
end Go.Proofs.Ytgcmhfoegbaaiaa.K
end
