/- Lemmas for several laws: what their proofs need of this seat's texts, in one place. -/
import Derived.Test.YtgcmhfoegbaaiaaZcTw1
set_option linter.unusedVariables false
set_option linter.unusedSimpArgs false
set_option linter.unusedSectionVars false
set_option maxHeartbeats 8000000
set_option maxRecDepth 100000
section
namespace Go.Proofs.Ytgcmhfoegbaaiaa.K
open Go.RowKit Go.Proofs.YtW.P Go.Proofs.YtW.L
def zqa.l0 : Nat → ByteArray → Int → Bool → ByteArray → List ByteArray → ByteArray → Option (Bool × ByteArray × List ByteArray × ByteArray × Int)
  | 0, _, _, _, _, _, _ => none
  | k + 1, x1, x6, x312000, x312001, x312002, x312003 => if x6 < (x1.size : Int) then (if 0 ≤ x6 then (if x6 ≤ (wrap64 (x6 + 1)) then (if (wrap64 (x6 + 1)) ≤ (x1.size : Int) then (if (x1.extract (x6 : Int).toNat ((wrap64 (x6 + 1)) : Int).toNat).toList = ([10] : List UInt8) then (if (wrap64 ((x312003.size : Int) + 2)) > 256 then (some (x312000, x312001, x312002, x312003, x6)) else (if x312003.size + 2 ≤ 9223372036854775807 then (zqa.l0 k x1 (wrap64 (x6 + 1)) x312000 x312001 x312002 (x312003 ++ (⟨#[13, 10]⟩ : ByteArray))) else (none))) else (if (wrap64 ((x312003.size : Int) + ((x1.extract (x6 : Int).toNat ((wrap64 (x6 + 1)) : Int).toNat).size : Int))) > 256 then (some (x312000, x312001, x312002, x312003, x6)) else (if x312003.size + (x1.extract (x6 : Int).toNat ((wrap64 (x6 + 1)) : Int).toNat).size ≤ 9223372036854775807 then (zqa.l0 k x1 (wrap64 (x6 + 1)) x312000 x312001 x312002 (x312003 ++ (x1.extract (x6 : Int).toNat ((wrap64 (x6 + 1)) : Int).toNat))) else (none)))) else (none)) else (none)) else (none)) else (some (x312000, x312001, x312002, x312003, (x1.size : Int)))
def zqa.f (k : Nat) (a0_0 : Bool) (a0_1 : ByteArray) (l0_2 : List ByteArray) (a0_3 : ByteArray) (a1 : ByteArray) : Option (Bool × ByteArray × List ByteArray × ByteArray × Int) := zqa.l0 k a1 0 a0_0 a0_1 l0_2 a0_3
theorem zqa.mono_l : ∀ k, (∀ y0 y1 y2 y3 y4 y5, LeO (zqa.l0 k y0 y1 y2 y3 y4 y5) (zqa.l0 (k + 1) y0 y1 y2 y3 y4 y5))
 | 0 => fun _ _ _ _ _ _ r h => by simp [zqa.l0] at h
 | k + 1 => by
  have ih0 := zqa.mono_l k
  ·intro y0 y1 y2 y3 y4 y5
   unfold zqa.l0
   with_reducible repeat' first | apply ih0 | exact LeO.refl _ | exact LeO.none _ | refine LeO.ite ?_ ?_ | refine LeO.bind ?_ (fun _ => ?_)
theorem zqa.mono : ∀ a0 a1 a2 a3 a4 k, LeO (zqa.f k a0 a1 a2 a3 a4) (zqa.f (k + 1) a0 a1 a2 a3 a4) := by
 intro a0 a1 a2 a3 a4 k
 have ih0 := zqa.mono_l k
 unfold zqa.f
 with_reducible repeat' first | apply ih0 | exact LeO.refl _ | exact LeO.none _ | refine LeO.ite ?_ ?_ | refine LeO.bind ?_ (fun _ => ?_)
theorem zqa.calls (k : Nat) (aN : Bool) (aO : ByteArray) (aS : Nat → Prop) (aM : Option Addr) (aP : Nat) (aH : List ByteArray) (aU : ByteArray) (a1 : ByteArray) (r1 : Bool) (r2 : ByteArray) (r3 : List ByteArray) (r4 : ByteArray) (r5 : Int) (w : World) (bH : Kd.V Kd.string 9 w w.heap.size (fun k_ => aS k_) (.slice aM aH.length aP) aH) (h : zqa.f k aN aO aH aU a1 = some (r1, r2, r3, r4, r5)) :
  Calls Try.prog 26 #[.agg #[.bool aN, .string aO, .slice aM aH.length aP, .string aU], .string a1] w fun e w' => ∃ v2_ : Value, e = .returned (.tuple #[.agg #[.bool r1, .string r2, v2_, .string r4], .int .i64 r5]) ∧ Kd.V Kd.string 9 w' w.heap.size (fun k_ => (aS k_ ∨ w.heap.size ≤ k_)) v2_ r3 ∧ Below w.heap.size w w' := by
 have d7 := Try.underlying24
 have aR := q_ (show Kd.V Kd.string 9 w w.heap.size (fun k_ => (aS k_ ∨ w.heap.size ≤ k_)) (.slice aM aH.length aP) aH from Kd.V_mono bH (fun k_ hk => .inl hk))
 have HB := q_ (Below.refl w.heap.size w)
 have H : (zqa.l0 k a1 0 aN aO aH aU) = some (r1, r2, r3, r4, r5) := h
 clear h
 have H' := q_ H
 clear H
 go_enter Try.func26, Try.ntmps26
 go_wp2_with (first | (refine gd_ 2 ?_; refine bx_ 2 (cs := #[.bool aN, .string aO, .slice aM aH.length aP, .string aU]) 24 ?_; intro aQ hg w3 hbox hb; replace aR := q_ (Kd.V_below (Kd.V_elderB (vk_ aR.out) aQ (Nat.le_of_eq hg.symm)) hb); have aD := q_ (hbox); have dM := gw_ w hg (y08 hb_); have dK := gw_ w hg (y08 hb_); replace HB := q_ (y09 hb_ hb); clear hb hbox hg) | (refine gd_ 4 ?_; refine bx_ 4 (cs := #[.bool false, .string nB_, .slice none 0 0, .string nB_]) 24 ?_; intro aC hg w4 hbox hb; replace aR := q_ (Kd.V_below (Kd.V_elderB (vk_ aR.out) aC (Nat.le_of_eq hg.symm)) hb); have aL := q_ (hbox); have dN := gw_ w hg (y08 hb_); have dL := gw_ w hg (y08 hb_); replace HB := q_ (y09 hb_ hb); have aF := nl_ hg (bk_ aD.out); have aG := ng_ hg (bk_ aD.out); replace aD := q_ (y0b (bk_ aD.out) hb); clear hb hbox hg))
 go_loopg [6] k (fun kq v6 w' => ∃ (aA : Int) (aB : ByteArray) (aI : Bool) (aJ : ByteArray) (aK : ByteArray), v6 = .int .i64 aA ∧ Aside0 (zqa.l0 kq a1 aA aN aO aH aB = some (r1, r2, r3, r4, r5)) ∧ Aside0 (kq ≤ k) ∧ Aside0 (Kd.V Kd.string 9 w' w.heap.size (fun k_ => (aS k_ ∨ w.heap.size ≤ k_) ∧ k_ ≠ aQ ∧ k_ ≠ aC) (.slice aM aH.length aP) aH) ∧ Aside0 (w'.heap[aQ]? = some (.cells #[.bool aN, .string aO, (.slice aM aH.length aP), .string aB] 24 (0, 0))) ∧ Aside0 (w'.heap[aC]? = some (.cells #[.bool aI, .string aJ, (.slice none 0 0), .string aK] 24 (0, 0))) ∧ Aside0 (Below w.heap.size w w'))
 case atStart => exact ⟨(0), (aU), (false), (nB_), (nB_), cl_, H', ⟨Nat.le_refl _⟩, ⟨vm_ aR.out (fun _ hk => ⟨hk.1.1, ⟨hk.1.2, hk.2⟩⟩)⟩, ⟨bk_ aD.out⟩, ⟨bk_ aL.out⟩, ⟨hb_⟩⟩
 case round =>
  clear H'
  obtain ⟨aA, aB, aI, aJ, aK, rfl, HA, HK1, aE, aD, aL, HB⟩ := hrel
  obtain _ | k1 := gk
  ·exact nn_ HA
  have H := HA.out
  clear HA
  simp only [zqa.l0] at H
  by_cases c5 : aA < (a1.size : Int)
  rotate_left
  ·rw [if_neg c5] at H
   have dJ := df_ c5
   clear c5
   simp only [Option.some.injEq, Prod.mk.injEq] at H
   obtain ⟨rfl, rfl, rfl, rfl, rfl⟩ := H
   have dX := aF.out
   have d2 := aG.out
   obtain ⟨b6, c2, b7, c3, b8, c4, b9, dA⟩ := b4_ aD.out
   obtain ⟨cA, dB, cB, dC, cC, dD, cD, dE⟩ := b4_ aL.out
   go_wp2
   refine bodyPost_ret (y1o rfl _ _ aC 24 #[.bool aN, .string aO, .slice aM aH.length aP, .string aB] (0, 0) _ rfl (bs_ aL.out) Try.underlying24 rfl (by kernel_rfl)) rfl ?_
   exact ⟨_, ew_, by (with_reducible repeat (first | apply Kd.V_alloc | apply Kd.V_drewN | apply Kd.V_drew)); exact Kd.V_mono (Kd.V_far (p := ⟨aC, 3, none⟩) (Kd.V_far (p := ⟨aC, 2, none⟩) (Kd.V_far (p := ⟨aC, 1, none⟩) (Kd.V_far (p := ⟨aC, 0, none⟩) (Kd.V_mono aE.out (fun k_ hk => (⟨hk, hk.2.2⟩ : _ ∧ k_ ≠ aC))) (fun _ hk => hk.2) (.bool aN)) (fun _ hk => hk.2) (.string aO)) (fun _ hk => hk.2) (.slice aM aH.length aP)) (fun _ hk => hk.2) (.string aB)) (fun _ hk => hk.1.1), hb_⟩
  rw [if_pos c5] at H
  have dJ := dt_ c5
  clear c5
  by_cases c6 : 0 ≤ aA
  rotate_left
  ·rw [if_neg c6] at H
   exact absurd H (by simp)
  rw [if_pos c6] at H
  have d3 := eq_true c6
  have d4 := dt_ c6
  clear c6
  by_cases c7 : aA ≤ (wrap64 (aA + 1))
  rotate_left
  ·rw [if_neg c7] at H
   exact absurd H (by simp)
  rw [if_pos c7] at H
  have a7 := eq_true c7
  have a9 := dt_ c7
  by_cases c8 : (wrap64 (aA + 1)) ≤ (a1.size : Int)
  rotate_left
  ·rw [if_neg c8] at H
   exact absurd H (by simp)
  rw [if_pos c8] at H
  have bB := eq_true c8
  have bD := dt_ c8
  by_cases c9 : (a1.extract (aA : Int).toNat ((wrap64 (aA + 1)) : Int).toNat).toList = ([10] : List UInt8)
  ·rw [if_pos c9] at H
   have aZ := et_ c9
   have a0 := nf_ c9
   clear c9
   by_cases a2 : (wrap64 ((aB.size : Int) + 2)) > 256
   ·rw [if_pos a2] at H
    have aV := dt_ a2
    clear a2
    simp only [Option.some.injEq, Prod.mk.injEq] at H
    obtain ⟨rfl, rfl, rfl, rfl, rfl⟩ := H
    have dT := aF.out
    have dY := aG.out
    obtain ⟨bI, cE, bJ, cF, bK, cG, bL, cH⟩ := b4_ aD.out
    obtain ⟨bM, cI, bN, cJ, bO, cK, bP, cL⟩ := b4_ aL.out
    go_wp2
    refine bodyPost_ret (y1o rfl _ _ aC 24 #[.bool aN, .string aO, .slice aM aH.length aP, .string aB] (0, 0) _ rfl (bs_ aL.out) Try.underlying24 rfl (by kernel_rfl)) rfl ?_
    exact ⟨_, ew_, by (with_reducible repeat (first | apply Kd.V_alloc | apply Kd.V_drewN | apply Kd.V_drew)); exact Kd.V_mono (Kd.V_far (p := ⟨aC, 3, none⟩) (Kd.V_far (p := ⟨aC, 2, none⟩) (Kd.V_far (p := ⟨aC, 1, none⟩) (Kd.V_far (p := ⟨aC, 0, none⟩) (Kd.V_mono aE.out (fun k_ hk => (⟨hk, hk.2.2⟩ : _ ∧ k_ ≠ aC))) (fun _ hk => hk.2) (.bool aN)) (fun _ hk => hk.2) (.string aO)) (fun _ hk => hk.2) (.slice aM aH.length aP)) (fun _ hk => hk.2) (.string aB)) (fun _ hk => hk.1.1), hb_⟩
   rw [if_neg a2] at H
   have aV := df_ a2
   clear a2
   by_cases a4 : aB.size + 2 ≤ 9223372036854775807
   rotate_left
   ·rw [if_neg a4] at H
    exact absurd H (by simp)
   rw [if_pos a4] at H
   have dO := eq_true a4
   have dP := dt_ a4
   try have dQ : (9223372036854775807 < aB.size + 2) = False := eq_false (Nat.not_lt.2 a4)
   (try (have a8 : aA ≤ ((aA + 1)) := by have h_ := a7; rw [show wrap64 (aA + 1) = (aA + 1) by unfold wrap64; omega] at h_; exact h_))
   (try (have bA : aA ≤ ((aA + 1)) := by have h_ := a9; rw [show wrap64 (aA + 1) = (aA + 1) by unfold wrap64; omega] at h_; exact h_))
   (try (have d5 : aA ≤ ((aA + 1)) := by have h_ := c7; rw [show wrap64 (aA + 1) = (aA + 1) by unfold wrap64; omega] at h_; exact h_))
   (try (have bC : ((aA + 1)) ≤ (a1.size : Int) := by have h_ := bB; rw [show wrap64 (aA + 1) = (aA + 1) by unfold wrap64; omega] at h_; exact h_))
   (try (have bE : ((aA + 1)) ≤ (a1.size : Int) := by have h_ := bD; rw [show wrap64 (aA + 1) = (aA + 1) by unfold wrap64; omega] at h_; exact h_))
   (try (have d6 : ((aA + 1)) ≤ (a1.size : Int) := by have h_ := c8; rw [show wrap64 (aA + 1) = (aA + 1) by unfold wrap64; omega] at h_; exact h_))
   (try (have bF : ((a1.extract (aA : Int).toNat (((aA + 1)) : Int).toNat).toList == ([10] : List UInt8)) = true := by have h_ := aZ; rw [show wrap64 (aA + 1) = (aA + 1) by unfold wrap64; omega] at h_; exact h_))
   (try (have bG : ((a1.extract (aA : Int).toNat (((aA + 1)) : Int).toNat).toList != ([10] : List UInt8)) = false := by have h_ := a0; rw [show wrap64 (aA + 1) = (aA + 1) by unfold wrap64; omega] at h_; exact h_))
   (try (have dF : decide (256 < (((aB.size : Int) + 2))) = false := by have h_ := aV; rw [show wrap64 ((aB.size : Int) + 2) = ((aB.size : Int) + 2) by unfold wrap64; omega] at h_; exact h_))
   have H' := q_ H
   clear H
   have dU := aF.out
   have dZ := aG.out
   obtain ⟨bQ, cM, bR, cN, bS, cO, bT, cP⟩ := b4_ aD.out
   go_wp2
   go_roundg k1
   case measure => have := HK1.out; omega
   case rel => exact ⟨(wrap64 (aA + 1)), (aB ++ (⟨#[13, 10]⟩ : ByteArray)), (aI), (aJ), (aK), cl_, H', ⟨by have := HK1.out; omega⟩, ⟨vm_ (Kd.V_far (p := ⟨aQ, 3, none⟩) (Kd.V_mono aE.out (fun k_ hk => (⟨hk, hk.2.1⟩ : _ ∧ k_ ≠ aQ))) (fun _ hk => hk.2) (.string (aB ++ (⟨#[13, 10]⟩ : ByteArray)))) (fun _ hk => ⟨hk.1.1, ⟨hk.1.2.1, hk.1.2.2⟩⟩)⟩, ⟨bs_ aD.out⟩, ⟨bs_ aL.out⟩, ⟨hb_⟩⟩
  rw [if_neg c9] at H
  have aZ := ef_ c9
  have a0 := nt_ c9
  by_cases a3 : (wrap64 ((aB.size : Int) + ((a1.extract (aA : Int).toNat ((wrap64 (aA + 1)) : Int).toNat).size : Int))) > 256
  ·rw [if_pos a3] at H
   have aT := dt_ a3
   (try (have aY : decide (256 < (wrap64 ((aB.size : Int) + ((((wrap64 (aA + 1)) : Int).toNat - (aA : Int).toNat : Nat) : Int)))) = true := by have h_ := aT; rw [show (a1.extract (aA : Int).toNat ((wrap64 (aA + 1)) : Int).toNat).size = (((wrap64 (aA + 1)) : Int).toNat - (aA : Int).toNat : Nat) by rw [ByteArray.size_extract]; omega] at h_; exact h_))
   clear a3
   simp only [Option.some.injEq, Prod.mk.injEq] at H
   obtain ⟨rfl, rfl, rfl, rfl, rfl⟩ := H
   have dV := aF.out
   have d0 := aG.out
   obtain ⟨bU, cQ, bV, cR, bW, cS, bX, cT⟩ := b4_ aD.out
   obtain ⟨bY, cU, bZ, cV, b0, cW, b1, cX⟩ := b4_ aL.out
   go_wp2
   refine bodyPost_ret (y1o rfl _ _ aC 24 #[.bool aN, .string aO, .slice aM aH.length aP, .string aB] (0, 0) _ rfl (bs_ aL.out) Try.underlying24 rfl (by kernel_rfl)) rfl ?_
   exact ⟨_, ew_, by (with_reducible repeat (first | apply Kd.V_alloc | apply Kd.V_drewN | apply Kd.V_drew)); exact Kd.V_mono (Kd.V_far (p := ⟨aC, 3, none⟩) (Kd.V_far (p := ⟨aC, 2, none⟩) (Kd.V_far (p := ⟨aC, 1, none⟩) (Kd.V_far (p := ⟨aC, 0, none⟩) (Kd.V_mono aE.out (fun k_ hk => (⟨hk, hk.2.2⟩ : _ ∧ k_ ≠ aC))) (fun _ hk => hk.2) (.bool aN)) (fun _ hk => hk.2) (.string aO)) (fun _ hk => hk.2) (.slice aM aH.length aP)) (fun _ hk => hk.2) (.string aB)) (fun _ hk => hk.1.1), hb_⟩
  rw [if_neg a3] at H
  have aT := df_ a3
  (try (have aY : decide (256 < (wrap64 ((aB.size : Int) + ((((wrap64 (aA + 1)) : Int).toNat - (aA : Int).toNat : Nat) : Int)))) = false := by have h_ := aT; rw [show (a1.extract (aA : Int).toNat ((wrap64 (aA + 1)) : Int).toNat).size = (((wrap64 (aA + 1)) : Int).toNat - (aA : Int).toNat : Nat) by rw [ByteArray.size_extract]; omega] at h_; exact h_))
  clear a3
  by_cases a5 : aB.size + (a1.extract (aA : Int).toNat ((wrap64 (aA + 1)) : Int).toNat).size ≤ 9223372036854775807
  rotate_left
  ·rw [if_neg a5] at H
   exact absurd H (by simp)
  rw [if_pos a5] at H
  have a6 := eq_true a5
  have aW := dt_ a5
  try have dR : (9223372036854775807 < aB.size + (a1.extract (aA : Int).toNat ((wrap64 (aA + 1)) : Int).toNat).size) = False := eq_false (Nat.not_lt.2 a5)
  (try (have dH : (aB.size + (((wrap64 (aA + 1)) : Int).toNat - (aA : Int).toNat : Nat) ≤ 9223372036854775807) = True := by have h_ := a6; rw [show (a1.extract (aA : Int).toNat ((wrap64 (aA + 1)) : Int).toNat).size = (((wrap64 (aA + 1)) : Int).toNat - (aA : Int).toNat : Nat) by rw [ByteArray.size_extract]; omega] at h_; exact h_))
  (try (have dI : decide (aB.size + (((wrap64 (aA + 1)) : Int).toNat - (aA : Int).toNat : Nat) ≤ 9223372036854775807) = true := by have h_ := aW; rw [show (a1.extract (aA : Int).toNat ((wrap64 (aA + 1)) : Int).toNat).size = (((wrap64 (aA + 1)) : Int).toNat - (aA : Int).toNat : Nat) by rw [ByteArray.size_extract]; omega] at h_; exact h_))
  (try (have aX := aW; simp only [ByteArray.size_extract, Nat.min_self] at aX))
  (try (have dS := eq_true (of_decide_eq_true aX)))
  (try (have a8 : aA ≤ ((aA + 1)) := by have h_ := a7; rw [show wrap64 (aA + 1) = (aA + 1) by unfold wrap64; omega] at h_; exact h_))
  (try (have bA : aA ≤ ((aA + 1)) := by have h_ := a9; rw [show wrap64 (aA + 1) = (aA + 1) by unfold wrap64; omega] at h_; exact h_))
  (try (have d5 : aA ≤ ((aA + 1)) := by have h_ := c7; rw [show wrap64 (aA + 1) = (aA + 1) by unfold wrap64; omega] at h_; exact h_))
  (try (have bC : ((aA + 1)) ≤ (a1.size : Int) := by have h_ := bB; rw [show wrap64 (aA + 1) = (aA + 1) by unfold wrap64; omega] at h_; exact h_))
  (try (have bE : ((aA + 1)) ≤ (a1.size : Int) := by have h_ := bD; rw [show wrap64 (aA + 1) = (aA + 1) by unfold wrap64; omega] at h_; exact h_))
  (try (have d6 : ((aA + 1)) ≤ (a1.size : Int) := by have h_ := c8; rw [show wrap64 (aA + 1) = (aA + 1) by unfold wrap64; omega] at h_; exact h_))
  (try (have bF : ((a1.extract (aA : Int).toNat (((aA + 1)) : Int).toNat).toList == ([10] : List UInt8)) = false := by have h_ := aZ; rw [show wrap64 (aA + 1) = (aA + 1) by unfold wrap64; omega] at h_; exact h_))
  (try (have bG : ((a1.extract (aA : Int).toNat (((aA + 1)) : Int).toNat).toList != ([10] : List UInt8)) = true := by have h_ := a0; rw [show wrap64 (aA + 1) = (aA + 1) by unfold wrap64; omega] at h_; exact h_))
  (try (have dG : decide (256 < (wrap64 ((aB.size : Int) + ((a1.extract (aA : Int).toNat (((aA + 1)) : Int).toNat).size : Int)))) = false := by have h_ := aT; rw [show wrap64 (aA + 1) = (aA + 1) by unfold wrap64; omega] at h_; exact h_))
  have H' := q_ H
  clear H
  have dW := aF.out
  have d1 := aG.out
  obtain ⟨b2, cY, b3, cZ, b4, c0, b5, c1⟩ := b4_ aD.out
  go_wp2
  go_roundg k1
  case measure => have := HK1.out; omega
  case rel => exact ⟨(wrap64 (aA + 1)), (aB ++ (a1.extract (aA : Int).toNat ((wrap64 (aA + 1)) : Int).toNat)), (aI), (aJ), (aK), cl_, H', ⟨by have := HK1.out; omega⟩, ⟨vm_ (Kd.V_far (p := ⟨aQ, 3, none⟩) (Kd.V_mono aE.out (fun k_ hk => (⟨hk, hk.2.1⟩ : _ ∧ k_ ≠ aQ))) (fun _ hk => hk.2) (.string (aB ++ (a1.extract (aA : Int).toNat ((wrap64 (aA + 1)) : Int).toNat)))) (fun _ hk => ⟨hk.1.1, ⟨hk.1.2.1, hk.1.2.2⟩⟩)⟩, ⟨bs_ aD.out⟩, ⟨bs_ aL.out⟩, ⟨hb_⟩⟩
def zqo.f (a0_0 : Bool) (a0_1 : ByteArray) (l0_2 : List ByteArray) (a0_3 : ByteArray) : Option (Bool × ByteArray × List ByteArray × ByteArray × Int × Bool) := if a0_3.toList = ([] : List UInt8) then (some (a0_0, a0_1, l0_2, a0_3, 0, false)) else (if 0 < (a0_3.size : Int) then (if 1 ≤ (a0_3.size : Int) then (some (a0_0, a0_1, l0_2, a0_3.extract 1 a0_3.size, wrap64 (bt a0_3 0), true)) else (none)) else (none))
theorem zqo.calls (aH : Bool) (aI : ByteArray) (aN : Nat → Prop) (aJ : Option Addr) (aK : Nat) (aE : List ByteArray) (aA : ByteArray) (r1 : Bool) (r2 : ByteArray) (r3 : List ByteArray) (r4 : ByteArray) (r5 : Int) (r6 : Bool) (w : World) (aT : Kd.V Kd.string 9 w w.heap.size (fun k_ => aN k_) (.slice aJ aE.length aK) aE) (h : zqo.f aH aI aE aA = some (r1, r2, r3, r4, r5, r6)) :
  Calls Try.prog 27 #[.agg #[.bool aH, .string aI, .slice aJ aE.length aK, .string aA]] w fun e w' => ∃ v2_ : Value, e = .returned (.tuple #[.agg #[.bool r1, .string r2, v2_, .string r4], .int .i64 r5, .bool r6]) ∧ Kd.V Kd.string 9 w' w.heap.size (fun k_ => (aN k_ ∨ w.heap.size ≤ k_)) v2_ r3 ∧ Below w.heap.size w w' := by
 have b0 := Try.underlying24
 have aD := q_ (show Kd.V Kd.string 9 w w.heap.size (fun k_ => (aN k_ ∨ w.heap.size ≤ k_)) (.slice aJ aE.length aK) aE from Kd.V_mono aT (fun k_ hk => .inl hk))
 have HB := q_ (Below.refl w.heap.size w)
 have H : (if aA.toList = ([] : List UInt8) then (some (aH, aI, aE, aA, 0, false)) else (if 0 < (aA.size : Int) then (if 1 ≤ (aA.size : Int) then (some (aH, aI, aE, aA.extract 1 aA.size, wrap64 (bt aA 0), true)) else (none)) else (none))) = some (r1, r2, r3, r4, r5, r6) := h
 clear h
 by_cases c2 : aA.toList = ([] : List UInt8)
 ·rw [if_pos c2] at H
  have bA := et_ c2
  have bB := nf_ c2
  clear c2
  simp only [Option.some.injEq, Prod.mk.injEq] at H
  obtain ⟨rfl, rfl, rfl, rfl, rfl, rfl⟩ := H
  go_enter Try.func27, Try.ntmps27
  go_wp2_with (first | (refine gd_ 1 ?_; refine bx_ 1 (cs := #[.bool aH, .string aI, .slice aJ aE.length aK, .string aA]) 24 ?_; intro aM hg w3 hbox hb; replace aD := q_ (Kd.V_below (Kd.V_elderB (vk_ aD.out) aM (Nat.le_of_eq hg.symm)) hb); have aC := q_ (hbox); have aQ := gw_ w hg (y08 hb_); have aO := gw_ w hg (y08 hb_); replace HB := q_ (y09 hb_ hb); clear hb hbox hg) | (refine gd_ 2 ?_; refine bx_ 2 (cs := #[.bool false, .string nB_, .slice none 0 0, .string nB_]) 24 ?_; intro aB hg w4 hbox hb; replace aD := q_ (Kd.V_below (Kd.V_elderB (vk_ aD.out) aB (Nat.le_of_eq hg.symm)) hb); have aL := q_ (hbox); have aR := gw_ w hg (y08 hb_); have aP := gw_ w hg (y08 hb_); replace HB := q_ (y09 hb_ hb); have aF := nl_ hg (bk_ aC.out); have aG := ng_ hg (bk_ aC.out); replace aC := q_ (y0b (bk_ aC.out) hb); clear hb hbox hg; have bY := aF.out; have bZ := aG.out; obtain ⟨bC, bK, bD, bL, bE, bM, bF, bN⟩ := b4_ aC.out; obtain ⟨bG, bO, bH, bP, bI, bQ, bJ, bR⟩ := b4_ aL.out))
  refine bodyPost_ret (y1p rfl _ _ aB 24 #[.bool aH, .string aI, .slice aJ aE.length aK, .string aA] (0, 0) _ rfl (bs_ aL.out) Try.underlying24 rfl (by kernel_rfl)) rfl ?_
  exact ⟨_, ew_, by (with_reducible repeat (first | apply Kd.V_alloc | apply Kd.V_drewN | apply Kd.V_drew)); exact Kd.V_mono (Kd.V_far (p := ⟨aB, 3, none⟩) (Kd.V_far (p := ⟨aB, 2, none⟩) (Kd.V_far (p := ⟨aB, 1, none⟩) (Kd.V_far (p := ⟨aB, 0, none⟩) (Kd.V_mono aD.out (fun k_ hk => (⟨hk, hk.2⟩ : _ ∧ k_ ≠ aB))) (fun _ hk => hk.2) (.bool aH)) (fun _ hk => hk.2) (.string aI)) (fun _ hk => hk.2) (.slice aJ aE.length aK)) (fun _ hk => hk.2) (.string aA)) (fun _ hk => hk.1.1.1), hb_⟩
 rw [if_neg c2] at H
 have bA := ef_ c2
 have bB := nt_ c2
 by_cases c8 : 0 < (aA.size : Int)
 rotate_left
 ·rw [if_neg c8] at H
  exact absurd H (by simp)
 rw [if_pos c8] at H
 have bW := dt_ c8
 have bX : decide (0 < aA.size) = true := decide_eq_true (by omega)
 clear c8
 by_cases aS : 1 ≤ (aA.size : Int)
 rotate_left
 ·rw [if_neg aS] at H
  exact absurd H (by simp)
 rw [if_pos aS] at H
 have bS := eq_true aS
 have bT := dt_ aS
 clear aS
 simp only [Option.some.injEq, Prod.mk.injEq] at H
 obtain ⟨rfl, rfl, rfl, rfl, rfl, rfl⟩ := H
 go_enter Try.func27, Try.ntmps27
 go_wp2_with (first | (refine gd_ 1 ?_; refine bx_ 1 (cs := #[.bool aH, .string aI, .slice aJ aE.length aK, .string aA]) 24 ?_; intro aM hg b3 hbox hb; replace aD := q_ (Kd.V_below (Kd.V_elderB (vk_ aD.out) aM (Nat.le_of_eq hg.symm)) hb); have aC := q_ (hbox); have aQ := gw_ w hg (y08 hb_); have aO := gw_ w hg (y08 hb_); replace HB := q_ (y09 hb_ hb); clear hb hbox hg) | (refine gd_ 2 ?_; refine bx_ 2 (cs := #[.bool false, .string nB_, .slice none 0 0, .string nB_]) 24 ?_; intro aB hg b4 hbox hb; replace aD := q_ (Kd.V_below (Kd.V_elderB (vk_ aD.out) aB (Nat.le_of_eq hg.symm)) hb); have aL := q_ (hbox); have aR := gw_ w hg (y08 hb_); have aP := gw_ w hg (y08 hb_); replace HB := q_ (y09 hb_ hb); have aF := nl_ hg (bk_ aC.out); have aG := ng_ hg (bk_ aC.out); replace aC := q_ (y0b (bk_ aC.out) hb); clear hb hbox hg; have bU := aF.out; have bV := aG.out; obtain ⟨aU, a2, aV, a3, aW, a4, aX, a5⟩ := b4_ aC.out; have p9 : 0 ≤ (0 : Int) := (by omega); have q9 : 0 < aA.size := (by have : (0 : Int) < (aA.size : Int) := oa_; omega); have b1 : ∀ h : 0 < aA.size, ((aA[0]'h).toNat : Int) = bt aA 0 := y0q aA 0; clear p9; have b2 : (0 < (aA.size : Int)) = True := eq_true (oa_); replace q9 := eq_true q9; obtain ⟨aY, a6, aZ, a7, a0, a8, a1, a9⟩ := b4_ aL.out))
 refine bodyPost_ret (y1p rfl _ _ aB 24 #[.bool aH, .string aI, .slice aJ aE.length aK, .string (aA.extract 1 aA.size)] (0, 0) _ rfl (bs_ aL.out) Try.underlying24 rfl (by kernel_rfl)) rfl ?_
 exact ⟨_, ew_, by (with_reducible repeat (first | apply Kd.V_alloc | apply Kd.V_drewN | apply Kd.V_drew)); exact Kd.V_mono (Kd.V_far (p := ⟨aB, 3, none⟩) (Kd.V_far (p := ⟨aB, 2, none⟩) (Kd.V_far (p := ⟨aB, 1, none⟩) (Kd.V_far (p := ⟨aB, 0, none⟩) (Kd.V_far (p := ⟨aM, 3, none⟩) (Kd.V_mono (Kd.V_mono aD.out (fun k_ hk => (⟨hk, hk.1.2⟩ : _ ∧ k_ ≠ aM))) (fun k_ hk => (⟨hk, hk.1.2⟩ : _ ∧ k_ ≠ aB))) (fun _ hk => hk.1.2) (.string (aA.extract 1 aA.size))) (fun _ hk => hk.2) (.bool aH)) (fun _ hk => hk.2) (.string aI)) (fun _ hk => hk.2) (.slice aJ aE.length aK)) (fun _ hk => hk.2) (.string (aA.extract 1 aA.size))) (fun _ hk => hk.1.1.1.1), hb_⟩
end Go.Proofs.Ytgcmhfoegbaaiaa.K
end
section
namespace Go.Proofs.Ytgcmhfoegbaaiaa.K
open Go.RowKit Go.Proofs.YtW.P Go.Proofs.YtW.L
def zqe.f (a0_0 : Bool) (a0_1 : ByteArray) (l0_2 : List ByteArray) (a0_3 : ByteArray) : Option (Bool × ByteArray × List ByteArray × ByteArray × Int × Bool) := if a0_3.toList = ([] : List UInt8) then (some (a0_0, a0_1, l0_2, a0_3, 0, false)) else (if 0 < (a0_3.size : Int) then (if 1 ≤ (a0_3.size : Int) then (some (a0_0, a0_1, l0_2, a0_3.extract 1 a0_3.size, wrap64 (bt a0_3 0), true)) else (none)) else (none))
theorem zqe.calls (aH : Bool) (aI : ByteArray) (aN : Nat → Prop) (aJ : Option Addr) (aK : Nat) (aE : List ByteArray) (aA : ByteArray) (r1 : Bool) (r2 : ByteArray) (r3 : List ByteArray) (r4 : ByteArray) (r5 : Int) (r6 : Bool) (w : World) (aT : Kd.V Kd.string 9 w w.heap.size (fun k_ => aN k_) (.slice aJ aE.length aK) aE) (h : zqe.f aH aI aE aA = some (r1, r2, r3, r4, r5, r6)) :
  Calls Try.prog 28 #[.agg #[.bool aH, .string aI, .slice aJ aE.length aK, .string aA]] w fun e w' => ∃ v2_ : Value, e = .returned (.tuple #[.agg #[.bool r1, .string r2, v2_, .string r4], .int .i64 r5, .bool r6]) ∧ Kd.V Kd.string 9 w' w.heap.size (fun k_ => (aN k_ ∨ w.heap.size ≤ k_)) v2_ r3 ∧ Below w.heap.size w w' := by
 have b0 := Try.underlying24
 have aD := q_ (show Kd.V Kd.string 9 w w.heap.size (fun k_ => (aN k_ ∨ w.heap.size ≤ k_)) (.slice aJ aE.length aK) aE from Kd.V_mono aT (fun k_ hk => .inl hk))
 have HB := q_ (Below.refl w.heap.size w)
 have H : (if aA.toList = ([] : List UInt8) then (some (aH, aI, aE, aA, 0, false)) else (if 0 < (aA.size : Int) then (if 1 ≤ (aA.size : Int) then (some (aH, aI, aE, aA.extract 1 aA.size, wrap64 (bt aA 0), true)) else (none)) else (none))) = some (r1, r2, r3, r4, r5, r6) := h
 clear h
 by_cases c2 : aA.toList = ([] : List UInt8)
 ·rw [if_pos c2] at H
  have bA := et_ c2
  have bB := nf_ c2
  clear c2
  simp only [Option.some.injEq, Prod.mk.injEq] at H
  obtain ⟨rfl, rfl, rfl, rfl, rfl, rfl⟩ := H
  go_enter Try.func28, Try.ntmps28
  go_wp2_with (first | (refine gd_ 1 ?_; refine bx_ 1 (cs := #[.bool aH, .string aI, .slice aJ aE.length aK, .string aA]) 24 ?_; intro aM hg w3 hbox hb; replace aD := q_ (Kd.V_below (Kd.V_elderB (vk_ aD.out) aM (Nat.le_of_eq hg.symm)) hb); have aC := q_ (hbox); have aQ := gw_ w hg (y08 hb_); have aO := gw_ w hg (y08 hb_); replace HB := q_ (y09 hb_ hb); clear hb hbox hg) | (refine gd_ 2 ?_; refine bx_ 2 (cs := #[.bool false, .string nB_, .slice none 0 0, .string nB_]) 24 ?_; intro aB hg w4 hbox hb; replace aD := q_ (Kd.V_below (Kd.V_elderB (vk_ aD.out) aB (Nat.le_of_eq hg.symm)) hb); have aL := q_ (hbox); have aR := gw_ w hg (y08 hb_); have aP := gw_ w hg (y08 hb_); replace HB := q_ (y09 hb_ hb); have aF := nl_ hg (bk_ aC.out); have aG := ng_ hg (bk_ aC.out); replace aC := q_ (y0b (bk_ aC.out) hb); clear hb hbox hg; have bY := aF.out; have bZ := aG.out; obtain ⟨bC, bK, bD, bL, bE, bM, bF, bN⟩ := b4_ aC.out; obtain ⟨bG, bO, bH, bP, bI, bQ, bJ, bR⟩ := b4_ aL.out))
  refine bodyPost_ret (y1p rfl _ _ aB 24 #[.bool aH, .string aI, .slice aJ aE.length aK, .string aA] (0, 0) _ rfl (bs_ aL.out) Try.underlying24 rfl (by kernel_rfl)) rfl ?_
  exact ⟨_, ew_, by (with_reducible repeat (first | apply Kd.V_alloc | apply Kd.V_drewN | apply Kd.V_drew)); exact Kd.V_mono (Kd.V_far (p := ⟨aB, 3, none⟩) (Kd.V_far (p := ⟨aB, 2, none⟩) (Kd.V_far (p := ⟨aB, 1, none⟩) (Kd.V_far (p := ⟨aB, 0, none⟩) (Kd.V_mono aD.out (fun k_ hk => (⟨hk, hk.2⟩ : _ ∧ k_ ≠ aB))) (fun _ hk => hk.2) (.bool aH)) (fun _ hk => hk.2) (.string aI)) (fun _ hk => hk.2) (.slice aJ aE.length aK)) (fun _ hk => hk.2) (.string aA)) (fun _ hk => hk.1.1.1), hb_⟩
 rw [if_neg c2] at H
 have bA := ef_ c2
 have bB := nt_ c2
 by_cases c8 : 0 < (aA.size : Int)
 rotate_left
 ·rw [if_neg c8] at H
  exact absurd H (by simp)
 rw [if_pos c8] at H
 have bW := dt_ c8
 have bX : decide (0 < aA.size) = true := decide_eq_true (by omega)
 clear c8
 by_cases aS : 1 ≤ (aA.size : Int)
 rotate_left
 ·rw [if_neg aS] at H
  exact absurd H (by simp)
 rw [if_pos aS] at H
 have bS := eq_true aS
 have bT := dt_ aS
 clear aS
 simp only [Option.some.injEq, Prod.mk.injEq] at H
 obtain ⟨rfl, rfl, rfl, rfl, rfl, rfl⟩ := H
 go_enter Try.func28, Try.ntmps28
 go_wp2_with (first | (refine gd_ 1 ?_; refine bx_ 1 (cs := #[.bool aH, .string aI, .slice aJ aE.length aK, .string aA]) 24 ?_; intro aM hg b3 hbox hb; replace aD := q_ (Kd.V_below (Kd.V_elderB (vk_ aD.out) aM (Nat.le_of_eq hg.symm)) hb); have aC := q_ (hbox); have aQ := gw_ w hg (y08 hb_); have aO := gw_ w hg (y08 hb_); replace HB := q_ (y09 hb_ hb); clear hb hbox hg) | (refine gd_ 2 ?_; refine bx_ 2 (cs := #[.bool false, .string nB_, .slice none 0 0, .string nB_]) 24 ?_; intro aB hg b4 hbox hb; replace aD := q_ (Kd.V_below (Kd.V_elderB (vk_ aD.out) aB (Nat.le_of_eq hg.symm)) hb); have aL := q_ (hbox); have aR := gw_ w hg (y08 hb_); have aP := gw_ w hg (y08 hb_); replace HB := q_ (y09 hb_ hb); have aF := nl_ hg (bk_ aC.out); have aG := ng_ hg (bk_ aC.out); replace aC := q_ (y0b (bk_ aC.out) hb); clear hb hbox hg; have bU := aF.out; have bV := aG.out; obtain ⟨aU, a2, aV, a3, aW, a4, aX, a5⟩ := b4_ aC.out; have p9 : 0 ≤ (0 : Int) := (by omega); have q9 : 0 < aA.size := (by have : (0 : Int) < (aA.size : Int) := oa_; omega); have b1 : ∀ h : 0 < aA.size, ((aA[0]'h).toNat : Int) = bt aA 0 := y0q aA 0; clear p9; have b2 : (0 < (aA.size : Int)) = True := eq_true (oa_); replace q9 := eq_true q9; obtain ⟨aY, a6, aZ, a7, a0, a8, a1, a9⟩ := b4_ aL.out))
 refine bodyPost_ret (y1p rfl _ _ aB 24 #[.bool aH, .string aI, .slice aJ aE.length aK, .string (aA.extract 1 aA.size)] (0, 0) _ rfl (bs_ aL.out) Try.underlying24 rfl (by kernel_rfl)) rfl ?_
 exact ⟨_, ew_, by (with_reducible repeat (first | apply Kd.V_alloc | apply Kd.V_drewN | apply Kd.V_drew)); exact Kd.V_mono (Kd.V_far (p := ⟨aB, 3, none⟩) (Kd.V_far (p := ⟨aB, 2, none⟩) (Kd.V_far (p := ⟨aB, 1, none⟩) (Kd.V_far (p := ⟨aB, 0, none⟩) (Kd.V_far (p := ⟨aM, 3, none⟩) (Kd.V_mono (Kd.V_mono aD.out (fun k_ hk => (⟨hk, hk.1.2⟩ : _ ∧ k_ ≠ aM))) (fun k_ hk => (⟨hk, hk.1.2⟩ : _ ∧ k_ ≠ aB))) (fun _ hk => hk.1.2) (.string (aA.extract 1 aA.size))) (fun _ hk => hk.2) (.bool aH)) (fun _ hk => hk.2) (.string aI)) (fun _ hk => hk.2) (.slice aJ aE.length aK)) (fun _ hk => hk.2) (.string (aA.extract 1 aA.size))) (fun _ hk => hk.1.1.1.1), hb_⟩
def zqf.f (a0_0 : Bool) (a0_1 : ByteArray) (l0_2 : List ByteArray) (a0_3 : ByteArray) (a1 : ByteArray) : Option (Bool × ByteArray × List ByteArray × ByteArray) := if 0 ≤ (mn (a1.size : Int) (mx 0 (wrap64 (256 - (a0_3.size : Int))))) then (if (mn (a1.size : Int) (mx 0 (wrap64 (256 - (a0_3.size : Int))))) ≤ (a1.size : Int) then (if a0_3.size + (a1.extract 0 ((mn (a1.size : Int) (mx 0 (wrap64 (256 - (a0_3.size : Int))))) : Int).toNat).size ≤ 9223372036854775807 then (some (a0_0, a0_1, l0_2, a0_3 ++ (a1.extract 0 ((mn (a1.size : Int) (mx 0 (wrap64 (256 - (a0_3.size : Int))))) : Int).toNat))) else (none)) else (none)) else (none)
def zqf.T1 : Bool × List (List Nat × List Nat) := (true, [([], []), ([0], [0]), ([], []), ([], []), ([3], [3]), ([], []), ([5], [5]), ([6], [6]), ([7], [7]), ([8], [8]), ([4, 9], [4, 9]), ([2, 10], [2, 10]), ([1, 11], [1, 11]), ([0, 1, 2, 3, 4, 5, 6, 7, 8, 9, 10, 11, 12], []), ([13, 12, 0, 1, 2, 3, 4, 5, 6, 7, 8, 9, 10, 11, 12], [12, 13])])
def zqf.B1 : List Nat := [0, 1, 0, 0, 8, 0, 32, 96, 224, 480, 1016, 2044, 4095, 8191, 16383]
theorem zqf.tab1 : rtab .any (opsOf Try.f38 1) = zqf.T1 := by kernel_rfl
theorem zqf.bits1 : waitsOk zqf.T1.2 zqf.B1 = true := by kernel_rfl
theorem zqf.calls (aI : Bool) (aJ : ByteArray) (aQ : Nat → Prop) (aL : Option Addr) (aM : Nat) (aC : List ByteArray) (aA : ByteArray) (a1 : ByteArray) (r1 : Bool) (r2 : ByteArray) (r3 : List ByteArray) (r4 : ByteArray) (w : World) (aT : Kd.V Kd.string 9 w w.heap.size (fun k_ => aQ k_) (.slice aL aC.length aM) aC) (h : zqf.f aI aJ aC aA a1 = some (r1, r2, r3, r4)) :
  Calls Try.prog 38 #[.agg #[.bool aI, .string aJ, .slice aL aC.length aM, .string aA], .string a1] w fun e w' => ∃ v2_ : Value, e = .returned (.agg #[.bool r1, .string r2, v2_, .string r4]) ∧ Kd.V Kd.string 9 w' w.heap.size (fun k_ => (aQ k_ ∨ w.heap.size ≤ k_)) v2_ r3 ∧ Below w.heap.size w w' := by
 have b0 := Try.underlying24
 have aD := q_ (show Kd.V Kd.string 9 w w.heap.size (fun k_ => (aQ k_ ∨ w.heap.size ≤ k_)) (.slice aL aC.length aM) aC from Kd.V_mono aT (fun k_ hk => .inl hk))
 have HB := q_ (Below.refl w.heap.size w)
 have H : (if 0 ≤ (mn (a1.size : Int) (mx 0 (wrap64 (256 - (aA.size : Int))))) then (if (mn (a1.size : Int) (mx 0 (wrap64 (256 - (aA.size : Int))))) ≤ (a1.size : Int) then (if aA.size + (a1.extract 0 ((mn (a1.size : Int) (mx 0 (wrap64 (256 - (aA.size : Int))))) : Int).toNat).size ≤ 9223372036854775807 then (some (aI, aJ, aC, aA ++ (a1.extract 0 ((mn (a1.size : Int) (mx 0 (wrap64 (256 - (aA.size : Int))))) : Int).toNat))) else (none)) else (none)) else (none)) = some (r1, r2, r3, r4) := h
 clear h
 obtain ⟨aP, aO⟩ : ∃ j_ : Int, (mx 0 (wrap64 (256 - (aA.size : Int)))) = j_ := ⟨_, rfl⟩
 replace H : (if 0 ≤ (mn (a1.size : Int) (aP)) then (if (mn (a1.size : Int) (aP)) ≤ (a1.size : Int) then (if aA.size + (a1.extract 0 ((mn (a1.size : Int) (aP)) : Int).toNat).size ≤ 9223372036854775807 then (some (aI, aJ, aC, aA ++ (a1.extract 0 ((mn (a1.size : Int) (aP)) : Int).toNat))) else (none)) else (none)) else (none)) = some (r1, r2, r3, r4) := by first | (rw [aO] at H; exact H) | (simp only [aO] at H ⊢; exact H)
 (try (have bK : 0 ≤ aP := by (rw [← aO]; unfold mx; (repeat' split) <;> omega)))
 (try (have bL : 0 ≤ aP := by omega))
 have bJ : (if 0 < (wrap64 (256 - (aA.size : Int))) then (wrap64 (256 - (aA.size : Int))) else 0) = aP := aO
 (try (have bM : max 0 (wrap64 (256 - (aA.size : Int))) = aP := by rw [← aO]; unfold mx; (repeat' split) <;> omega))
 obtain ⟨aN, aR⟩ : ∃ j_ : Int, (mn (a1.size : Int) (aP)) = j_ := ⟨_, rfl⟩
 replace H : (if 0 ≤ (aN) then (if (aN) ≤ (a1.size : Int) then (if aA.size + (a1.extract 0 ((aN) : Int).toNat).size ≤ 9223372036854775807 then (some (aI, aJ, aC, aA ++ (a1.extract 0 ((aN) : Int).toNat))) else (none)) else (none)) else (none)) = some (r1, r2, r3, r4) := by first | (rw [aR] at H; exact H) | (simp only [aR] at H ⊢; exact H)
 have bN : (if (aP) < (a1.size : Int) then (aP) else (a1.size : Int)) = aN := aR
 (try (have bO : min (a1.size : Int) (aP) = aN := by rw [← aR]; unfold mn; (repeat' split) <;> omega))
 by_cases c5 : 0 ≤ (aN)
 rotate_left
 ·rw [if_neg c5] at H
  exact absurd H (by simp)
 rw [if_pos c5] at H
 have bR := eq_true c5
 have bS := dt_ c5
 clear c5
 by_cases c6 : (aN) ≤ (a1.size : Int)
 rotate_left
 ·rw [if_neg c6] at H
  exact absurd H (by simp)
 rw [if_pos c6] at H
 have bT := eq_true c6
 have bU := dt_ c6
 clear c6
 by_cases c7 : aA.size + (a1.extract 0 ((aN) : Int).toNat).size ≤ 9223372036854775807
 rotate_left
 ·rw [if_neg c7] at H
  exact absurd H (by simp)
 rw [if_pos c7] at H
 have bV := eq_true c7
 have bD := dt_ c7
 try have bW : (9223372036854775807 < aA.size + (a1.extract 0 ((aN) : Int).toNat).size) = False := eq_false (Nat.not_lt.2 c7)
 (try (have aS := bD; simp only [ByteArray.size_extract, Nat.min_self] at aS))
 (try (have bX := eq_true (of_decide_eq_true aS)))
 (try (have bY : (9223372036854775807 < aA.size + aN.toNat) = False := eq_false (by have h_ := c7; simp only [ByteArray.size_extract] at h_; (try simp only [eq_iff_iff, iff_true] at *); omega)))
 simp only [Option.some.injEq, Prod.mk.injEq] at H
 obtain ⟨rfl, rfl, rfl, rfl⟩ := H
 go_enter Try.func38, Try.ntmps38
 try go_wp2_with (first | (refine gd_ 2 ?_; refine bx_ 2 (cs := #[.bool aI, .string aJ, .slice aL aC.length aM, .string aA]) 24 ?_; intro aE hg w8 hbox hb; replace aD := q_ (Kd.V_below (Kd.V_elderB (vk_ aD.out) aE (Nat.le_of_eq hg.symm)) hb); have aB := q_ (hbox); have bG := gw_ w hg (y08 hb_); have bE := gw_ w hg (y08 hb_); replace HB := q_ (y09 hb_ hb); clear hb hbox hg) | (refine gd_ 4 ?_; refine bx_ 4 (cs := #[.bool false, .string nB_, .slice none 0 0, .string nB_]) 24 ?_; intro aF hg w9 hbox hb; replace aD := q_ (Kd.V_below (Kd.V_elderB (vk_ aD.out) aF (Nat.le_of_eq hg.symm)) hb); have aK := q_ (hbox); have bH := gw_ w hg (y08 hb_); have bF := gw_ w hg (y08 hb_); replace HB := q_ (y09 hb_ hb); have aG := nl_ hg (bk_ aB.out); have aH := ng_ hg (bk_ aB.out); replace aB := q_ (y0b (bk_ aB.out) hb); clear hb hbox hg))
 replace aD := q_ (Kd.V_drew aD.out)
 replace aB := q_ (y0d aB.out)
 replace aK := q_ (y0d aK.out)
 replace HB := q_ (y07 HB.out)
 refine start_ (n := 15) (S := fun w' => w'.cell? ⟨aE, 0, none⟩ = some (.bool aI) ∧ w'.cell? ⟨aE, 1, none⟩ = some (.string aJ) ∧ w'.cell? ⟨aE, 2, none⟩ = some (.slice aL aC.length aM) ∧ w'.cell? ⟨aE, 3, none⟩ = some (.string aA)) (ds := [14]) #[false, false, false, false, false, false, false, false, false, false, false, false, false, false, false] (by kernel_rfl) rfl rfl ⟨(y0c aB.out 0).trans rfl, (y0c aB.out 1).trans rfl, (y0c aB.out 2).trans rfl, (y0c aB.out 3).trans rfl⟩ (fun hHeld => ?_); refine y20 zqf.tab1 zqf.bits1 (fun HT_ HW_ => ?_)
 generalize w9.drew = b1 at aD aB aK HB hHeld ⊢
 refine pv_ 0 (some 5) (fl 15 1) ?_
 refine pv_ 2 (some 7) (fl 15 5) ?_
 refine pv_ 3 (some 8) (fl 15 13) ?_
 refine pv_ 4 (some 9) (fl 15 29) ?_
 refine pv_ 5 (some 10) (fl 15 61) ?_
 refine tv_ 1 (some 6) (fl 15 63) ?_
 refine tv_ 6 (some 11) (fl 15 127) ?_
 refine pv_ 7 (some 12) (fl 15 255) ?_
 refine pv_ 8 (some 13) (fl 15 511) ?_
 refine pv_ 9 (some 14) (fl 15 1023) ?_
 refine pv_ 10 (some 15) (fl 15 2047) ?_
 refine pv_ 11 (some 16) (fl 15 4095) ?_
 refine pv_ 12 (some 17) (fl 15 8191) ?_
 refine pv_ 13 (some 18) (fl 15 16383) ?_
 refine last_ (i := 14) (N := none) (fl 15 32767) rfl rfl (y1e HT_.out (by kernel_rfl)) (by decide) (fun K hK => ?_)
 have bZ : b1.cell? ⟨aE, 3, none⟩ = some (.string aA) := (y0c aB.out 3).trans rfl
 have bI := y0g aB.out 3
 have bC := aH.out
 have bB := aG.out
 refine skip_ (w1 := ?_) (by rfl) rfl ?_ ?_
 rotate_left
 ·go_simp
  rfl
 refine hK.out _ _ ?_
 clear hK K
 refine done_ (done_of HT_.out (by kernel_rfl)) ?_
 have bP := aG.out
 have bQ := aH.out
 obtain ⟨aU, a3, aV, a4, aW, a5, aX, a6⟩ := b4_ aB.out
 obtain ⟨aY, a7, aZ, a8, a0, a9, a2, bA⟩ := b4_ aK.out
 try go_wp2
 refine bodyPost_ret (results_cell_row rfl _ _ aF 24 #[.bool aI, .string aJ, .slice aL aC.length aM, .string (aA ++ (a1.extract 0 ((aN) : Int).toNat))] (0, 0) _ rfl (bs_ aK.out) Try.underlying24 rfl (by kernel_rfl)) rfl ?_
 exact ⟨_, by first | rfl | (simp [y0z, y10] <;> rfl) | (simp only [← aO, ← aR]; first | rfl | (simp [y0z, y10] <;> rfl)) | (simp [*, y0z, y10] <;> rfl), by (with_reducible repeat (first | apply Kd.V_alloc | apply Kd.V_drewN | apply Kd.V_drew)); exact Kd.V_mono (Kd.V_far (p := ⟨aF, 3, none⟩) (Kd.V_far (p := ⟨aF, 2, none⟩) (Kd.V_far (p := ⟨aF, 1, none⟩) (Kd.V_far (p := ⟨aF, 0, none⟩) (Kd.V_far (p := ⟨aE, 3, none⟩) (Kd.V_mono (Kd.V_mono aD.out (fun k_ hk => (⟨hk, hk.1.2⟩ : _ ∧ k_ ≠ aE))) (fun k_ hk => (⟨hk, hk.1.2⟩ : _ ∧ k_ ≠ aF))) (fun _ hk => hk.1.2) (.string (aA ++ (a1.extract 0 ((aN) : Int).toNat)))) (fun _ hk => hk.2) (.bool aI)) (fun _ hk => hk.2) (.string aJ)) (fun _ hk => hk.2) (.slice aL aC.length aM)) (fun _ hk => hk.2) (.string (aA ++ (a1.extract 0 ((aN) : Int).toNat)))) (fun _ hk => hk.1.1.1.1), hb_⟩
end Go.Proofs.Ytgcmhfoegbaaiaa.K
end
