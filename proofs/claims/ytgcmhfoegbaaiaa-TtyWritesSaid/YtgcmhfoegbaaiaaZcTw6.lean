/- Lemmas for several laws: what their proofs need of this seat's texts, in one place. -/
import Derived.Test.YtgcmhfoegbaaiaaZcTw2
set_option linter.unusedVariables false
set_option linter.unusedSimpArgs false
set_option linter.unusedSectionVars false
set_option maxHeartbeats 8000000
set_option maxRecDepth 100000
section
namespace Go.Proofs.Ytgcmhfoegbaaiaa.K
open Go.RowKit Go.Proofs.YtW.P Go.Proofs.YtW.L
def zqp.f (a0_0 : Bool) (a0_1 : ByteArray) (l0_2 : List ByteArray) (a0_3 : ByteArray) (a1 : Int) : Option (Bool × ByteArray × List ByteArray × ByteArray × ByteArray × Int) := if a1 < 0 then (some (false, nB_, ([] : List ByteArray), nB_, nB_, 1)) else (if (l0_2.length : Int) = 0 then (some (false, nB_, ([] : List ByteArray), nB_, nB_, 20)) else (if a1 = 0 then (some (a0_0, a0_1, l0_2, a0_3, nB_, 0)) else (if 0 < (l0_2.length : Int) then ((zq0.f l0_2).bind fun t199 => (if 0 ≤ (mn a1 ((rdOf ByteArray.empty l0_2 0).size : Int)) then (if (mn a1 ((rdOf ByteArray.empty l0_2 0).size : Int)) ≤ ((rdOf ByteArray.empty l0_2 0).size : Int) then (if 0 < (t199.length : Int) then ((some (t199.set (0 : Int).toNat ((rdOf ByteArray.empty l0_2 0).extract ((mn a1 ((rdOf ByteArray.empty l0_2 0).size : Int)) : Int).toNat (rdOf ByteArray.empty l0_2 0).size) : List ByteArray)).bind fun y202 => (if ((rdOf ByteArray.empty l0_2 0).extract ((mn a1 ((rdOf ByteArray.empty l0_2 0).size : Int)) : Int).toNat (rdOf ByteArray.empty l0_2 0).size).toList = ([] : List UInt8) then (if 1 ≤ (t199.length : Int) then (some (a0_0, a0_1, (y202.drop (1 : Int).toNat), a0_3, (rdOf ByteArray.empty l0_2 0).extract 0 ((mn a1 ((rdOf ByteArray.empty l0_2 0).size : Int)) : Int).toNat, 0)) else (none)) else (some (a0_0, a0_1, y202, a0_3, (rdOf ByteArray.empty l0_2 0).extract 0 ((mn a1 ((rdOf ByteArray.empty l0_2 0).size : Int)) : Int).toNat, 0)))) else (none)) else (none)) else (none))) else (none))))
theorem zqp.calls (aM : Bool) (aN : ByteArray) (aX : Nat → Prop) (a7 : Option Addr) (aS : Nat) (aB : List ByteArray) (aO : ByteArray) (a1 : Int) (r1 : Bool) (r2 : ByteArray) (r3 : List ByteArray) (r4 : ByteArray) (r5 : ByteArray) (r6 : Int) (w : World) (cQ : Kd.V Kd.string 9 w w.heap.size (fun k_ => aX k_) (.slice a7 aB.length aS) aB) (h : zqp.f aM aN aB aO a1 = some (r1, r2, r3, r4, r5, r6)) :
  Calls Try.prog 13 #[.agg #[.bool aM, .string aN, .slice a7 aB.length aS, .string aO], .int .i64 a1] w fun e w' => ∃ v2_ : Value, e = .returned (.tuple #[.agg #[.bool r1, .string r2, v2_, .string r4], .string r5, .int .i64 r6]) ∧ Kd.V Kd.string 9 w' w.heap.size (fun k_ => (aX k_ ∨ w.heap.size ≤ k_)) v2_ r3 ∧ Below w.heap.size w w' := by
 have hM := Try.underlying24
 have aG := q_ (show Kd.V Kd.string 9 w w.heap.size (fun k_ => (aX k_ ∨ w.heap.size ≤ k_)) (.slice a7 aB.length aS) aB from Kd.V_mono cQ (fun k_ hk => .inl hk))
 have HB := q_ (Below.refl w.heap.size w)
 have H : (if a1 < 0 then (some (false, nB_, ([] : List ByteArray), nB_, nB_, 1)) else (if (aB.length : Int) = 0 then (some (false, nB_, ([] : List ByteArray), nB_, nB_, 20)) else (if a1 = 0 then (some (aM, aN, aB, aO, nB_, 0)) else (if 0 < (aB.length : Int) then ((zq0.f aB).bind fun aH => (if 0 ≤ (mn a1 ((rdOf ByteArray.empty aB 0).size : Int)) then (if (mn a1 ((rdOf ByteArray.empty aB 0).size : Int)) ≤ ((rdOf ByteArray.empty aB 0).size : Int) then (if 0 < (aH.length : Int) then ((some (aH.set (0 : Int).toNat ((rdOf ByteArray.empty aB 0).extract ((mn a1 ((rdOf ByteArray.empty aB 0).size : Int)) : Int).toNat (rdOf ByteArray.empty aB 0).size) : List ByteArray)).bind fun a6 => (if ((rdOf ByteArray.empty aB 0).extract ((mn a1 ((rdOf ByteArray.empty aB 0).size : Int)) : Int).toNat (rdOf ByteArray.empty aB 0).size).toList = ([] : List UInt8) then (if 1 ≤ (aH.length : Int) then (some (aM, aN, (a6.drop (1 : Int).toNat), aO, (rdOf ByteArray.empty aB 0).extract 0 ((mn a1 ((rdOf ByteArray.empty aB 0).size : Int)) : Int).toNat, 0)) else (none)) else (some (aM, aN, a6, aO, (rdOf ByteArray.empty aB 0).extract 0 ((mn a1 ((rdOf ByteArray.empty aB 0).size : Int)) : Int).toNat, 0)))) else (none)) else (none)) else (none))) else (none))))) = some (r1, r2, r3, r4, r5, r6) := h
 clear h
 by_cases c3 : a1 < 0
 ·rw [if_pos c3] at H
  have fR := dt_ c3
  clear c3
  simp only [Option.some.injEq, Prod.mk.injEq] at H
  obtain ⟨rfl, rfl, rfl, rfl, rfl, rfl⟩ := H
  go_enter Try.func13, Try.ntmps13
  go_wp2_with (first | (refine gd_ 2 ?_; refine bx_ 2 (cs := #[.bool aM, .string aN, .slice a7 aB.length aS, .string aO]) 24 ?_; intro aE hg w4 hbox hb; replace aG := q_ (Kd.V_below (Kd.V_elderB (vk_ aG.out) aE (Nat.le_of_eq hg.symm)) hb); have aC := q_ (hbox); have bJ := gw_ w hg (y08 hb_); have bH := gw_ w hg (y08 hb_); replace HB := q_ (y09 hb_ hb); clear hb hbox hg) | (refine gd_ 4 ?_; refine bx_ 4 (cs := #[.bool false, .string nB_, .slice none 0 0, .string nB_]) 24 ?_; intro aD hg w5 hbox hb; replace aG := q_ (Kd.V_below (Kd.V_elderB (vk_ aG.out) aD (Nat.le_of_eq hg.symm)) hb); have aF := q_ (hbox); have bK := gw_ w hg (y08 hb_); have bI := gw_ w hg (y08 hb_); replace HB := q_ (y09 hb_ hb); have aA := nl_ hg (bk_ aC.out); have aI := ng_ hg (bk_ aC.out); replace aC := q_ (y0b (bk_ aC.out) hb); clear hb hbox hg; have hB := aI.out; have hC := aA.out; obtain ⟨fY, f2, fZ, f3, f0, f4, f1, f5⟩ := b4_ aF.out))
  refine bodyPost_ret (y1p rfl _ _ aD 24 #[.bool false, .string nB_, .slice none 0 0, .string nB_] (0, 0) _ rfl (bs_ aF.out) Try.underlying24 rfl (by kernel_rfl)) rfl ?_
  exact ⟨_, ew_, Kd.V_nil _ _ _ _ _, hb_⟩
 rw [if_neg c3] at H
 have fR := df_ c3
 clear c3
 by_cases c8 : (aB.length : Int) = 0
 ·rw [if_pos c8] at H
  have fS := et_ c8
  have fT := nf_ c8
  clear c8
  simp only [Option.some.injEq, Prod.mk.injEq] at H
  obtain ⟨rfl, rfl, rfl, rfl, rfl, rfl⟩ := H
  go_enter Try.func13, Try.ntmps13
  go_wp2_with (first | (refine gd_ 2 ?_; refine bx_ 2 (cs := #[.bool aM, .string aN, .slice a7 aB.length aS, .string aO]) 24 ?_; intro aE hg w9 hbox hb; replace aG := q_ (Kd.V_below (Kd.V_elderB (vk_ aG.out) aE (Nat.le_of_eq hg.symm)) hb); have aC := q_ (hbox); have bJ := gw_ w hg (y08 hb_); have bH := gw_ w hg (y08 hb_); replace HB := q_ (y09 hb_ hb); clear hb hbox hg) | (refine gd_ 4 ?_; refine bx_ 4 (cs := #[.bool false, .string nB_, .slice none 0 0, .string nB_]) 24 ?_; intro aD hg hN hbox hb; replace aG := q_ (Kd.V_below (Kd.V_elderB (vk_ aG.out) aD (Nat.le_of_eq hg.symm)) hb); have aF := q_ (hbox); have bK := gw_ w hg (y08 hb_); have bI := gw_ w hg (y08 hb_); replace HB := q_ (y09 hb_ hb); have aA := nl_ hg (bk_ aC.out); have aI := ng_ hg (bk_ aC.out); replace aC := q_ (y0b (bk_ aC.out) hb); clear hb hbox hg; have gY := aA.out; have g2 := aI.out; obtain ⟨cW, d3, cX, d4, cY, d5, cZ, d6⟩ := b4_ aC.out; obtain ⟨c0, d7, c2, d8, c4, d9, c5, eA⟩ := b4_ aF.out))
  refine bodyPost_ret (y1p rfl _ _ aD 24 #[.bool false, .string nB_, .slice none 0 0, .string nB_] (0, 0) _ rfl (bs_ aF.out) Try.underlying24 rfl (by kernel_rfl)) rfl ?_
  exact ⟨_, ew_, Kd.V_nil _ _ _ _ _, hb_⟩
 rw [if_neg c8] at H
 have fS := ef_ c8
 have fT := nt_ c8
 have hA : ¬ (aB = []) := fun h_ => c8 (by rw [h_]; rfl)
 by_cases b7 : a1 = 0
 ·rw [if_pos b7] at H
  have cI := et_ b7
  have cJ := nf_ b7
  clear b7
  simp only [Option.some.injEq, Prod.mk.injEq] at H
  obtain ⟨rfl, rfl, rfl, rfl, rfl, rfl⟩ := H
  go_enter Try.func13, Try.ntmps13
  go_wp2_with (first | (refine gd_ 2 ?_; refine bx_ 2 (cs := #[.bool aM, .string aN, .slice a7 aB.length aS, .string aO]) 24 ?_; intro aE hg hO hbox hb; replace aG := q_ (Kd.V_below (Kd.V_elderB (vk_ aG.out) aE (Nat.le_of_eq hg.symm)) hb); have aC := q_ (hbox); have bJ := gw_ w hg (y08 hb_); have bH := gw_ w hg (y08 hb_); replace HB := q_ (y09 hb_ hb); clear hb hbox hg) | (refine gd_ 4 ?_; refine bx_ 4 (cs := #[.bool false, .string nB_, .slice none 0 0, .string nB_]) 24 ?_; intro aD hg hP hbox hb; replace aG := q_ (Kd.V_below (Kd.V_elderB (vk_ aG.out) aD (Nat.le_of_eq hg.symm)) hb); have aF := q_ (hbox); have bK := gw_ w hg (y08 hb_); have bI := gw_ w hg (y08 hb_); replace HB := q_ (y09 hb_ hb); have aA := nl_ hg (bk_ aC.out); have aI := ng_ hg (bk_ aC.out); replace aC := q_ (y0b (bk_ aC.out) hb); clear hb hbox hg; have gZ := aA.out; have g3 := aI.out; obtain ⟨c6, eB, c7, eC, c9, eD, dA, eE⟩ := b4_ aC.out; obtain ⟨dB, eF, dC, eG, dD, eH, dE, eI⟩ := b4_ aF.out))
  refine bodyPost_ret (y1p rfl _ _ aD 24 #[.bool aM, .string aN, .slice a7 aB.length aS, .string aO] (0, 0) _ rfl (bs_ aF.out) Try.underlying24 rfl (by kernel_rfl)) rfl ?_
  exact ⟨_, ew_, by (with_reducible repeat (first | apply Kd.V_alloc | apply Kd.V_drewN | apply Kd.V_drew)); exact Kd.V_mono (Kd.V_far (p := ⟨aD, 3, none⟩) (Kd.V_far (p := ⟨aD, 2, none⟩) (Kd.V_far (p := ⟨aD, 1, none⟩) (Kd.V_far (p := ⟨aD, 0, none⟩) (Kd.V_mono aG.out (fun k_ hk => (⟨hk, hk.2⟩ : _ ∧ k_ ≠ aD))) (fun _ hk => hk.2) (.bool aM)) (fun _ hk => hk.2) (.string aN)) (fun _ hk => hk.2) (.slice a7 aB.length aS)) (fun _ hk => hk.2) (.string aO)) (fun _ hk => hk.1.1.1), hb_⟩
 rw [if_neg b7] at H
 have cI := ef_ b7
 have cJ := nt_ b7
 by_cases cU : 0 < (aB.length : Int)
 rotate_left
 ·rw [if_neg cU] at H
  exact absurd H (by simp)
 rw [if_pos cU] at H
 have gC := dt_ cU
 have gD : decide (0 < aB.length) = true := decide_eq_true (by omega)
 clear cU
 obtain ⟨aK, bC⟩ : ∃ j_ : Int, (mn a1 ((rdOf ByteArray.empty aB 0).size : Int)) = j_ := ⟨_, rfl⟩
 replace H : ((zq0.f aB).bind fun aH => (if 0 ≤ (aK) then (if (aK) ≤ ((rdOf ByteArray.empty aB 0).size : Int) then (if 0 < (aH.length : Int) then ((some (aH.set (0 : Int).toNat ((rdOf ByteArray.empty aB 0).extract ((aK) : Int).toNat (rdOf ByteArray.empty aB 0).size) : List ByteArray)).bind fun a6 => (if ((rdOf ByteArray.empty aB 0).extract ((aK) : Int).toNat (rdOf ByteArray.empty aB 0).size).toList = ([] : List UInt8) then (if 1 ≤ (aH.length : Int) then (some (aM, aN, (a6.drop (1 : Int).toNat), aO, (rdOf ByteArray.empty aB 0).extract 0 ((aK) : Int).toNat, 0)) else (none)) else (some (aM, aN, a6, aO, (rdOf ByteArray.empty aB 0).extract 0 ((aK) : Int).toNat, 0)))) else (none)) else (none)) else (none))) = some (r1, r2, r3, r4, r5, r6) := by first | (rw [bC] at H; exact H) | (simp only [bC] at H ⊢; exact H)
 have f6 : (if ((rdOf ByteArray.empty aB 0).size : Int) < a1 then ((rdOf ByteArray.empty aB 0).size : Int) else a1) = aK := bC
 (try (have f7 : min a1 ((rdOf ByteArray.empty aB 0).size : Int) = aK := by rw [← bC]; unfold mn; (repeat' split) <;> omega))
 obtain ⟨aH, gB, H⟩ := bq_ H
 (try dsimp only at H)
 by_cases cK : 0 ≤ (aK)
 rotate_left
 ·rw [if_neg cK] at H
  exact absurd H (by simp)
 rw [if_pos cK] at H
 have gE := eq_true cK
 have gF := dt_ cK
 clear cK
 by_cases cL : (aK) ≤ ((rdOf ByteArray.empty aB 0).size : Int)
 rotate_left
 ·rw [if_neg cL] at H
  exact absurd H (by simp)
 rw [if_pos cL] at H
 have gG := eq_true cL
 have gH := dt_ cL
 clear cL
 by_cases cV : 0 < (aH.length : Int)
 rotate_left
 ·rw [if_neg cV] at H
  exact absurd H (by simp)
 rw [if_pos cV] at H
 have gI := dt_ cV
 have gJ : decide (0 < aH.length) = true := decide_eq_true (by omega)
 clear cV
 obtain ⟨a6, bD⟩ : ∃ y_ : List ByteArray, y_ = (aH.set (0 : Int).toNat ((rdOf ByteArray.empty aB 0).extract ((aK) : Int).toNat (rdOf ByteArray.empty aB 0).size)) := ⟨_, rfl⟩
 replace H : (if ((rdOf ByteArray.empty aB 0).extract ((aK) : Int).toNat (rdOf ByteArray.empty aB 0).size).toList = ([] : List UInt8) then (if 1 ≤ (aH.length : Int) then (some (aM, aN, (a6.drop (1 : Int).toNat), aO, (rdOf ByteArray.empty aB 0).extract 0 ((aK) : Int).toNat, 0)) else (none)) else (some (aM, aN, a6, aO, (rdOf ByteArray.empty aB 0).extract 0 ((aK) : Int).toNat, 0))) = some (r1, r2, r3, r4, r5, r6) := by first | (rw [bD]; with_reducible exact H) | (have b4 := (Option.bind_some _ _).symm.trans H; rw [bD]; with_reducible exact b4) | (have b4 := (Option.bind_some _ _).symm.trans H; with_reducible exact b4) | with_reducible exact H | (rw [bD]; exact H) | exact H
 have bL := q_ bD
 clear bD
 by_cases b8 : ((rdOf ByteArray.empty aB 0).extract ((aK) : Int).toNat (rdOf ByteArray.empty aB 0).size).toList = ([] : List UInt8)
 rotate_left
 ·rw [if_neg b8] at H
  have cM := ef_ b8
  have cN := nt_ b8
  have gO := eq_true (oa_ : 0 ≤ (aK))
  have gP := eq_true (oa_ : (aK) ≤ ((rdOf ByteArray.empty aB 0).size : Int))
  simp only [Option.some.injEq, Prod.mk.injEq] at H
  obtain ⟨rfl, rfl, rfl, rfl, rfl, rfl⟩ := H
  go_enter Try.func13, Try.ntmps13
  try go_wp2_with (first | (refine gd_ 2 ?_; refine bx_ 2 (cs := #[.bool aM, .string aN, .slice a7 aB.length aS, .string aO]) 24 ?_; intro aE hg hS hbox hb; replace aG := q_ (Kd.V_below (Kd.V_elderB (vk_ aG.out) aE (Nat.le_of_eq hg.symm)) hb); have aC := q_ (hbox); have bJ := gw_ w hg (y08 hb_); have bH := gw_ w hg (y08 hb_); replace HB := q_ (y09 hb_ hb); clear hb hbox hg) | (refine gd_ 4 ?_; refine bx_ 4 (cs := #[.bool false, .string nB_, .slice none 0 0, .string nB_]) 24 ?_; intro aD hg hT hbox hb; replace aG := q_ (Kd.V_below (Kd.V_elderB (vk_ aG.out) aD (Nat.le_of_eq hg.symm)) hb); have aF := q_ (hbox); have bK := gw_ w hg (y08 hb_); have bI := gw_ w hg (y08 hb_); replace HB := q_ (y09 hb_ hb); have aA := nl_ hg (bk_ aC.out); have aI := ng_ hg (bk_ aC.out); replace aC := q_ (y0b (bk_ aC.out) hb); clear hb hbox hg; have g1 := aA.out; have g5 := aI.out; obtain ⟨dR, eV, dS, eW, dT, eX, dU, eY⟩ := b4_ aC.out; have bF : 0 ≤ (0 : Int) := (by omega); have bG : 0 < (aB.length : Int) := oa_; obtain ⟨aZ, b9, aY⟩ := Kd.at_string (Kd.V_reads' aG.out).2.2 0 bF bG; cases b9; have cT : (0 < aB.length) = True := eq_true (by omega); (try rw [show ((0 : Int)).toNat = 0 from rfl] at aY); (try rw [Addr.add_zero'] at aY); replace bF := eq_true bF; replace bG := eq_true bG) | (refine gc_ 30 ?_; refine gl_ (some 32) Try.func30 #[.slice (some aZ) aB.length aS] ?_; (with_reducible refine (zq0.calls _ _ aB aH _ ?side1 ?side2 gB.out).mono ?_); (case side1 => exact ck_ (Kd.V_reads' aG.out).2.2); (case side2 => exact (Kd.V_reads' aG.out).2.1); rintro e b1 ⟨gA, rfl, cP, hb⟩; refine ⟨_, rfl, ?_⟩; replace aG := q_ (Kd.V_elder' (vk_ aG.out) (Kd.R_base cP) hb); have aJ := q_ (Kd.R_lower (Kd.R_newM (M := fun k_ => (w.heap.size ≤ k_)) cP (y08 hb_) (fun k_ h_ => h_)) (y08 hb_)); replace aC := q_ (y0b (bk_ aC.out) hb); replace aF := q_ (y0b (bk_ aF.out) hb); replace HB := q_ (y09 hb_ hb); obtain ⟨aW, aR, fX⟩ := Kd.R_slice aJ.out; subst fX; obtain ⟨dV, eZ, dW, e0, dX, e1, dY, e2⟩ := b4_ aC.out))
  have a0 : Aside0 (Kd.V Kd.string 9 (b1.setCell ⟨aE, 2, none⟩ (.slice aW aH.length aR)) w.heap.size (fun k_ => (aX k_ ∨ w.heap.size ≤ k_) ∧ some k_ ≠ (.slice aW aH.length aR : Value).ownBlock ∧ k_ ≠ aE ∧ k_ ≠ aD) (.slice (some aZ) aB.length aS) aB) := ⟨vm_ (Kd.V_far (p := ⟨aE, 2, none⟩) (Kd.V_mono aG.out (fun k_ hk => (⟨hk, hk.1.1.2⟩ : _ ∧ k_ ≠ aE))) (fun _ hk => hk.2) (.slice aW aH.length aR)) (fun _ hk => ⟨hk.1.1.1.1, ⟨hk.1.2, ⟨hk.1.1.1.2, hk.1.1.2⟩⟩⟩)⟩
  have a2 : Aside0 (Kd.R Kd.string 9 (b1.setCell ⟨aE, 2, none⟩ (.slice aW aH.length aR)) w.heap.size (fun k_ => (w.heap.size ≤ k_)) (.slice aW aH.length aR) aH) := ⟨rm_ (Kd.R_far (p := ⟨aE, 2, none⟩) (Kd.R_types aJ.out aC.out (by decide)) (fun _ hk => hk.2) (.slice aW aH.length aR)) (fun _ hk => hk.1.1)⟩
  have a3 : Aside0 ((b1.setCell ⟨aE, 2, none⟩ (.slice aW aH.length aR)).heap[aE]? = some (.cells #[.bool aM, .string aN, .slice aW aH.length aR, .string aO] 24 (0, 0))) := ⟨bs_ aC.out⟩
  have a4 : Aside0 ((b1.setCell ⟨aE, 2, none⟩ (.slice aW aH.length aR)).heap[aD]? = some (.cells #[.bool false, .string nB_, .slice none 0 0, .string nB_] 24 (0, 0))) := ⟨bs_ aF.out⟩
  have a5 : Aside0 (Below w.heap.size w (b1.setCell ⟨aE, 2, none⟩ (.slice aW aH.length aR))) := ⟨hb_⟩
  (try (have bV : ((b1.setCell ⟨aE, 2, none⟩ (.slice aW aH.length aR))).cell? ⟨aE, 2, none⟩ = some (.slice aW aH.length aR) := World.cell?_setCell_same _ _ _ (by assumption)))
  (first | generalize (b1.setCell ⟨aE, 2, none⟩ (.slice aW aH.length aR)) = g8 at a0 a2 a3 a4 a5 bV ⊢ | generalize (b1.setCell ⟨aE, 2, none⟩ (.slice aW aH.length aR)) = g8 at a0 a2 a3 a4 a5 ⊢)
  have aG := a0; have aJ := a2; have aC := a3; have aF := a4; have HB := a5
  clear a0 a2 a3 a4 a5
  replace aG := q_ (Kd.V_drew aG.out)
  replace aJ := q_ (Kd.R_drew aJ.out)
  replace aC := q_ (y0d aC.out)
  replace aF := q_ (y0d aF.out)
  replace HB := q_ (y07 HB.out)
  have cE : 0 ≤ (0 : Int) := (by omega)
  have cF : (0 : Int) < ((aH.length : Int) : Int) := oa_
  have f9 : (0 < aH.length) = True := eq_true (by omega)
  obtain ⟨aL, fV, bN, bO, cA, fU, bM⟩ := Kd.R_form aJ.out (by omega)
  (first | cases bN | (injection bN with ea_ en_ ec_; (first | subst ea_ | (injection ea_ with ea_; subst ea_)); subst ec_; clear en_))
  have fP := q_ bO
  have b3 := q_ bM
  clear bO cA bM
  obtain ⟨aU, aT⟩ := Kd.R_celln nB_ aJ.out (0 : Int) cE cF
  (try rw [show ((0 : Int)).toNat = 0 from rfl] at aU)
  (try simp only [Nat.reduceMul, Nat.zero_mul, Nat.zero_add, Nat.reduceAdd] at aU)
  (try rw [show ((0 : Int)).toNat = 0 from rfl] at aT)
  (try simp only [Nat.reduceMul, Nat.zero_mul, Nat.zero_add, Nat.reduceAdd] at aT)
  replace cE := eq_true cE
  replace cF := eq_true cF
  have b6 := Kd.R_putn aJ.out (0 : Int) ((rdOf ByteArray.empty aB 0).extract ((aK) : Int).toNat (rdOf ByteArray.empty aB 0).size)
  rw [← bL.out] at b6
  have cH := q_ b6
  clear b6
  refine start_ (n := 7) (S := fun w' => w'.cell? ⟨aE, 0, none⟩ = some (.bool aM) ∧ w'.cell? ⟨aE, 1, none⟩ = some (.string aN) ∧ w'.cell? ⟨aE, 2, none⟩ = some (.slice (some ⟨aL, 0, none⟩) aH.length aR) ∧ w'.cell? ⟨aE, 3, none⟩ = some (.string aO)) (ds := [6]) #[false, false, false, false, false, false, false] (by kernel_rfl) rfl rfl ⟨(y0c aC.out 0).trans rfl, (y0c aC.out 1).trans rfl, (y0c aC.out 2).trans rfl, (y0c aC.out 3).trans rfl⟩ (fun hHeld => ?_)
  generalize g8.drew = b2 at aG aJ aC aF HB b3 cH aT aU hHeld ⊢
  refine pure_ (i := 0) (N := some 34) (v := ?_) (a' := ?_) #[true, false, false, false, false, false, false] rfl rfl (by kernel_rfl) (fun _ _ _ h => h) (Or.inl ⟨by rfl, ?_⟩) ?_ ?_
  rotate_left
  ·intro w'
   go_simp
   first | with_reducible rfl | (refine (if_neg ?_).trans ?_; (first | omega | (rw [← ByteArray.size_append]; first | omega | (rw [← ByteArray.size_append]; first | omega | (rw [← ByteArray.size_append]; first | omega | (rw [← ByteArray.size_append]; first | omega | (rw [← ByteArray.size_append]; first | omega | (rw [← ByteArray.size_append]; omega))))))); with_reducible rfl)
  rotate_left
  ·simp only [Act.put, List.setIfInBounds_toArray, List.set_cons_zero, List.set_cons_succ, y17, y15]
   rfl
  refine pure_ (i := 2) (N := some 36) (v := ?_) (a' := ?_) #[true, false, true, false, false, false, false] rfl rfl (by kernel_rfl) (fun _ _ _ h => h) (Or.inl ⟨by rfl, ?_⟩) ?_ ?_
  rotate_left
  ·intro w'
   go_simp
   first | with_reducible rfl | (refine (if_neg ?_).trans ?_; (first | omega | (rw [← ByteArray.size_append]; first | omega | (rw [← ByteArray.size_append]; first | omega | (rw [← ByteArray.size_append]; first | omega | (rw [← ByteArray.size_append]; first | omega | (rw [← ByteArray.size_append]; first | omega | (rw [← ByteArray.size_append]; omega))))))); with_reducible rfl)
  rotate_left
  ·simp only [Act.put, List.setIfInBounds_toArray, List.set_cons_zero, List.set_cons_succ, y17, y15]
   rfl
  refine pure_ (i := 3) (N := some 37) (v := ?_) (a' := ?_) #[true, false, true, true, false, false, false] rfl rfl (by kernel_rfl) (fun _ _ _ h => h) (Or.inl ⟨by rfl, ?_⟩) ?_ ?_
  rotate_left
  ·intro w'
   go_simp
   first | with_reducible rfl | (refine (if_neg ?_).trans ?_; (first | omega | (rw [← ByteArray.size_append]; first | omega | (rw [← ByteArray.size_append]; first | omega | (rw [← ByteArray.size_append]; first | omega | (rw [← ByteArray.size_append]; first | omega | (rw [← ByteArray.size_append]; first | omega | (rw [← ByteArray.size_append]; omega))))))); with_reducible rfl)
  rotate_left
  ·simp only [Act.put, List.setIfInBounds_toArray, List.set_cons_zero, List.set_cons_succ, y17, y15]
   rfl
  refine pure_ (i := 4) (N := some 38) (v := ?_) (a' := ?_) #[true, false, true, true, true, false, false] rfl rfl (by kernel_rfl) (fun _ _ _ h => h) (Or.inl ⟨by rfl, ?_⟩) ?_ ?_
  rotate_left
  ·intro w'
   go_simp
   first | with_reducible rfl | (refine (if_neg ?_).trans ?_; (first | omega | (rw [← ByteArray.size_append]; first | omega | (rw [← ByteArray.size_append]; first | omega | (rw [← ByteArray.size_append]; first | omega | (rw [← ByteArray.size_append]; first | omega | (rw [← ByteArray.size_append]; first | omega | (rw [← ByteArray.size_append]; omega))))))); with_reducible rfl)
  rotate_left
  ·simp only [Act.put, List.setIfInBounds_toArray, List.set_cons_zero, List.set_cons_succ, y17, y15]
   rfl
  refine take_ (i := 1) (N := some 35) (v := ?_) (a' := ?_) #[true, true, true, true, true, false, false] rfl rfl (by kernel_rfl) (fun _ _ _ h => h) (Or.inl ⟨by rfl, ?_⟩) hHeld ?_ ?_
  rotate_left
  ·rintro w' ⟨s0, s1, s2, s3⟩
   go_simp
   first | with_reducible rfl | (refine (if_neg ?_).trans ?_; (first | omega | (rw [← ByteArray.size_append]; first | omega | (rw [← ByteArray.size_append]; first | omega | (rw [← ByteArray.size_append]; first | omega | (rw [← ByteArray.size_append]; first | omega | (rw [← ByteArray.size_append]; first | omega | (rw [← ByteArray.size_append]; omega))))))); with_reducible rfl)
  rotate_left
  ·simp only [Act.put, List.setIfInBounds_toArray, List.set_cons_zero, List.set_cons_succ, y17, y15]
   rfl
  refine pure_ (i := 5) (N := some 39) (v := ?_) (a' := ?_) #[true, true, true, true, true, true, false] rfl rfl (by kernel_rfl) (fun _ _ _ h => h) (Or.inl ⟨by rfl, ?_⟩) ?_ ?_
  rotate_left
  ·intro w'
   go_simp
   first | with_reducible rfl | (refine (if_neg ?_).trans ?_; (first | omega | (rw [← ByteArray.size_append]; first | omega | (rw [← ByteArray.size_append]; first | omega | (rw [← ByteArray.size_append]; first | omega | (rw [← ByteArray.size_append]; first | omega | (rw [← ByteArray.size_append]; first | omega | (rw [← ByteArray.size_append]; omega))))))); with_reducible rfl)
  rotate_left
  ·simp only [Act.put, List.setIfInBounds_toArray, List.set_cons_zero, List.set_cons_succ, y17, y15]
   rfl
  refine last_ (i := 6) (N := none) (fl 7 127) rfl rfl (by kernel_rfl) (by decide) (fun K hK => ?_)
  refine skip_ (w1 := ?_) (by rfl) rfl ?_ ?_
  rotate_left
  ·go_simp
   rfl
  refine hK.out _ _ ?_
  clear hK K
  refine done_ (by kernel_rfl) ?_
  have a0 : Aside0 (Kd.V Kd.string 9 (b2.setCell ⟨aL, 0, none⟩ (.string ((rdOf ByteArray.empty aB 0).extract ((aK) : Int).toNat (rdOf ByteArray.empty aB 0).size))) w.heap.size (fun k_ => (aX k_ ∨ w.heap.size ≤ k_) ∧ some k_ ≠ (.slice (some ⟨aL, 0, none⟩) aH.length aR : Value).ownBlock ∧ k_ ≠ aE ∧ k_ ≠ aD) (.slice (some aZ) aB.length aS) aB) := ⟨vm_ (Kd.V_far (p := ⟨aL, 0, none⟩) (Kd.V_mono aG.out (fun k_ hk => (⟨hk, fun e_ => hk.2.1 (by rw [e_]; rfl)⟩ : _ ∧ k_ ≠ aL))) (fun _ hk => hk.2) (.string ((rdOf ByteArray.empty aB 0).extract ((aK) : Int).toNat (rdOf ByteArray.empty aB 0).size))) (fun _ hk => ⟨hk.1.1, ⟨hk.1.2.1, ⟨hk.1.2.2.1, hk.1.2.2.2⟩⟩⟩)⟩
  have a2 : Aside0 (Kd.R Kd.string 9 (b2.setCell ⟨aL, 0, none⟩ (.string ((rdOf ByteArray.empty aB 0).extract ((aK) : Int).toNat (rdOf ByteArray.empty aB 0).size))) w.heap.size (fun k_ => (w.heap.size ≤ k_)) (.slice (some ⟨aL, 0, none⟩) aH.length aR) a6) := ⟨rk_ cH.out⟩
  have a3 : Aside0 ((b2.setCell ⟨aL, 0, none⟩ (.string ((rdOf ByteArray.empty aB 0).extract ((aK) : Int).toNat (rdOf ByteArray.empty aB 0).size))).heap[aE]? = some (.cells #[.bool aM, .string aN, .slice (some ⟨aL, 0, none⟩) aH.length aR, .string aO] 24 (0, 0))) := ⟨by (with_reducible repeat (first | refine y0e ?_ _ | refine y0d ?_ | refine y0a ?_ _)); refine y0f ?_ (by have h_ := Kd.R_ne aJ.out aC.out (by decide); intro e_; exact h_ (by rw [e_]; rfl)) _; exact bk_ aC.out⟩
  have a4 : Aside0 ((b2.setCell ⟨aL, 0, none⟩ (.string ((rdOf ByteArray.empty aB 0).extract ((aK) : Int).toNat (rdOf ByteArray.empty aB 0).size))).heap[aD]? = some (.cells #[.bool false, .string nB_, .slice none 0 0, .string nB_] 24 (0, 0))) := ⟨by (with_reducible repeat (first | refine y0e ?_ _ | refine y0d ?_ | refine y0a ?_ _)); refine y0f ?_ (by have h_ := Kd.R_ne aJ.out aF.out (by decide); intro e_; exact h_ (by rw [e_]; rfl)) _; exact bk_ aF.out⟩
  have a5 : Aside0 (Below w.heap.size w (b2.setCell ⟨aL, 0, none⟩ (.string ((rdOf ByteArray.empty aB 0).extract ((aK) : Int).toNat (rdOf ByteArray.empty aB 0).size)))) := ⟨hb_⟩
  (try (have bW : ((b2.setCell ⟨aL, 0, none⟩ (.string ((rdOf ByteArray.empty aB 0).extract ((aK) : Int).toNat (rdOf ByteArray.empty aB 0).size)))).cell? ⟨aL, 0, none⟩ = some (.string ((rdOf ByteArray.empty aB 0).extract ((aK) : Int).toNat (rdOf ByteArray.empty aB 0).size)) := World.cell?_setCell_same _ _ _ (by assumption)))
  (first | generalize (b2.setCell ⟨aL, 0, none⟩ (.string ((rdOf ByteArray.empty aB 0).extract ((aK) : Int).toNat (rdOf ByteArray.empty aB 0).size))) = g9 at a0 a2 a3 a4 a5 bW ⊢ | generalize (b2.setCell ⟨aL, 0, none⟩ (.string ((rdOf ByteArray.empty aB 0).extract ((aK) : Int).toNat (rdOf ByteArray.empty aB 0).size))) = g9 at a0 a2 a3 a4 a5 ⊢)
  have aG := a0; have aJ := a2; have aC := a3; have aF := a4; have HB := a5
  clear a0 a2 a3 a4 a5
  obtain ⟨dZ, e3, d0, e4, d1, e5, d2, e6⟩ := b4_ aC.out
  have cR : 0 ≤ (0 : Int) := (by omega)
  have cS : (0 : Int) < ((aH.length : Int) : Int) := oa_
  replace cR := eq_true cR
  replace cS := eq_true cS
  try go_wp2
  replace aG := q_ (Kd.V_drew aG.out)
  replace aJ := q_ (Kd.R_drew aJ.out)
  replace aC := q_ (y0d aC.out)
  replace aF := q_ (y0d aF.out)
  replace HB := q_ (y07 HB.out)
  refine start_ (n := 7) (S := fun w' => w'.cell? ⟨aE, 0, none⟩ = some (.bool aM) ∧ w'.cell? ⟨aE, 1, none⟩ = some (.string aN) ∧ w'.cell? ⟨aE, 2, none⟩ = some (.slice (some ⟨aL, 0, none⟩) aH.length aR) ∧ w'.cell? ⟨aE, 3, none⟩ = some (.string aO)) (ds := []) #[false, false, false, false, false, false, false] (by kernel_rfl) rfl rfl ⟨(y0c aC.out 0).trans rfl, (y0c aC.out 1).trans rfl, (y0c aC.out 2).trans rfl, (y0c aC.out 3).trans rfl⟩ (fun hHeld => ?_)
  generalize g9.drew = fO at aG aJ aC aF HB hHeld ⊢
  refine pure_ (i := 1) (N := some 50) (v := ?_) (a' := ?_) #[false, true, false, false, false, false, false] rfl rfl (by kernel_rfl) (fun _ _ _ h => h) (Or.inl ⟨by rfl, ?_⟩) ?_ ?_
  rotate_left
  ·intro w'
   go_simp
   first | with_reducible rfl | (refine (if_neg ?_).trans ?_; (first | omega | (rw [← ByteArray.size_append]; first | omega | (rw [← ByteArray.size_append]; first | omega | (rw [← ByteArray.size_append]; first | omega | (rw [← ByteArray.size_append]; first | omega | (rw [← ByteArray.size_append]; first | omega | (rw [← ByteArray.size_append]; omega))))))); with_reducible rfl)
  rotate_left
  ·simp only [Act.put, List.setIfInBounds_toArray, List.set_cons_zero, List.set_cons_succ, y17, y15]
   rfl
  refine pure_ (i := 2) (N := some 51) (v := ?_) (a' := ?_) #[false, true, true, false, false, false, false] rfl rfl (by kernel_rfl) (fun _ _ _ h => h) (Or.inl ⟨by rfl, ?_⟩) ?_ ?_
  rotate_left
  ·intro w'
   go_simp
   first | with_reducible rfl | (refine (if_neg ?_).trans ?_; (first | omega | (rw [← ByteArray.size_append]; first | omega | (rw [← ByteArray.size_append]; first | omega | (rw [← ByteArray.size_append]; first | omega | (rw [← ByteArray.size_append]; first | omega | (rw [← ByteArray.size_append]; first | omega | (rw [← ByteArray.size_append]; omega))))))); with_reducible rfl)
  rotate_left
  ·simp only [Act.put, List.setIfInBounds_toArray, List.set_cons_zero, List.set_cons_succ, y17, y15]
   rfl
  refine pure_ (i := 3) (N := some 52) (v := ?_) (a' := ?_) #[false, true, true, true, false, false, false] rfl rfl (by kernel_rfl) (fun _ _ _ h => h) (Or.inl ⟨by rfl, ?_⟩) ?_ ?_
  rotate_left
  ·intro w'
   go_simp
   first | with_reducible rfl | (refine (if_neg ?_).trans ?_; (first | omega | (rw [← ByteArray.size_append]; first | omega | (rw [← ByteArray.size_append]; first | omega | (rw [← ByteArray.size_append]; first | omega | (rw [← ByteArray.size_append]; first | omega | (rw [← ByteArray.size_append]; first | omega | (rw [← ByteArray.size_append]; omega))))))); with_reducible rfl)
  rotate_left
  ·simp only [Act.put, List.setIfInBounds_toArray, List.set_cons_zero, List.set_cons_succ, y17, y15]
   rfl
  refine take_ (i := 0) (N := some 49) (v := ?_) (a' := ?_) #[true, true, true, true, false, false, false] rfl rfl (by kernel_rfl) (fun _ _ _ h => h) (Or.inl ⟨by rfl, ?_⟩) hHeld ?_ ?_
  rotate_left
  ·rintro w' ⟨s0, s1, s2, s3⟩
   go_simp
   first | with_reducible rfl | (refine (if_neg ?_).trans ?_; (first | omega | (rw [← ByteArray.size_append]; first | omega | (rw [← ByteArray.size_append]; first | omega | (rw [← ByteArray.size_append]; first | omega | (rw [← ByteArray.size_append]; first | omega | (rw [← ByteArray.size_append]; first | omega | (rw [← ByteArray.size_append]; omega))))))); with_reducible rfl)
  rotate_left
  ·simp only [Act.put, List.setIfInBounds_toArray, List.set_cons_zero, List.set_cons_succ, y17, y15]
   rfl
  refine one_ (i := 4) (N := none) (fl 7 31) rfl rfl (by kernel_rfl) (by decide) (fun K hK => ?_)
  have hH : fO.cell? ⟨aD, 0, none⟩ = some (.bool false) := (y0c aF.out 0).trans rfl
  have gU := y0g aF.out 0
  have fJ := aA.out
  have fB := aI.out
  have hI : fO.cell? ⟨aD, 1, none⟩ = some (.string nB_) := (y0c aF.out 1).trans rfl
  have gV := y0g aF.out 1
  have fK := aA.out
  have fC := aI.out
  have hJ : fO.cell? ⟨aD, 2, none⟩ = some (.slice none 0 0) := (y0c aF.out 2).trans rfl
  have gW := y0g aF.out 2
  have fL := aA.out
  have fD := aI.out
  have hL : fO.cell? ⟨aD, 3, none⟩ = some (.string nB_) := (y0c aF.out 3).trans rfl
  have gX := y0g aF.out 3
  have fM := aA.out
  have fE := aI.out
  refine skip_ (w1 := ?_) (by rfl) rfl ?_ ?_
  rotate_left
  ·go_simp
   rfl
  refine hK.out _ _ ⟨((y0t (p := ⟨aD, _, none⟩) aA.out _).trans (((y0t (p := ⟨aD, _, none⟩) aA.out _).trans (((y0t (p := ⟨aD, _, none⟩) aA.out _).trans (((y0t (p := ⟨aD, _, none⟩) aA.out _).trans (hHeld.1)))))))), ((y0t (p := ⟨aD, _, none⟩) aA.out _).trans (((y0t (p := ⟨aD, _, none⟩) aA.out _).trans (((y0t (p := ⟨aD, _, none⟩) aA.out _).trans (((y0t (p := ⟨aD, _, none⟩) aA.out _).trans (hHeld.2.1)))))))), ((y0t (p := ⟨aD, _, none⟩) aA.out _).trans (((y0t (p := ⟨aD, _, none⟩) aA.out _).trans (((y0t (p := ⟨aD, _, none⟩) aA.out _).trans (((y0t (p := ⟨aD, _, none⟩) aA.out _).trans (hHeld.2.2.1)))))))), ((y0t (p := ⟨aD, _, none⟩) aA.out _).trans (((y0t (p := ⟨aD, _, none⟩) aA.out _).trans (((y0t (p := ⟨aD, _, none⟩) aA.out _).trans (((y0t (p := ⟨aD, _, none⟩) aA.out _).trans (hHeld.2.2.2))))))))⟩ (fun hHeld => ?_)
  clear hK K
  refine pure_ (i := 5) (N := some 5) (v := ?_) (a' := ?_) #[true, true, true, true, true, true, false] rfl rfl (by kernel_rfl) (fun _ _ _ h => h) (Or.inl ⟨by rfl, ?_⟩) ?_ ?_
  rotate_left
  ·intro w'
   go_simp
   first | with_reducible rfl | (refine (if_neg ?_).trans ?_; (first | omega | (rw [← ByteArray.size_append]; first | omega | (rw [← ByteArray.size_append]; first | omega | (rw [← ByteArray.size_append]; first | omega | (rw [← ByteArray.size_append]; first | omega | (rw [← ByteArray.size_append]; first | omega | (rw [← ByteArray.size_append]; omega))))))); with_reducible rfl)
  rotate_left
  ·simp only [Act.put, List.setIfInBounds_toArray, List.set_cons_zero, List.set_cons_succ, y17, y15]
   rfl
  refine pure_ (i := 6) (N := some 6) (v := ?_) (a' := ?_) #[true, true, true, true, true, true, true] rfl rfl (by kernel_rfl) (fun _ _ _ h => h) (Or.inl ⟨by rfl, ?_⟩) ?_ ?_
  rotate_left
  ·intro w'
   go_simp
   first | with_reducible rfl | (refine (if_neg ?_).trans ?_; (first | omega | (rw [← ByteArray.size_append]; first | omega | (rw [← ByteArray.size_append]; first | omega | (rw [← ByteArray.size_append]; first | omega | (rw [← ByteArray.size_append]; first | omega | (rw [← ByteArray.size_append]; first | omega | (rw [← ByteArray.size_append]; omega))))))); with_reducible rfl)
  rotate_left
  ·simp only [Act.put, List.setIfInBounds_toArray, List.set_cons_zero, List.set_cons_succ, y17, y15]
   rfl
  refine done_ (by kernel_rfl) ?_
  try go_wp2
  refine bodyPost_ret (y1p rfl _ _ aD 24 #[.bool aM, .string aN, .slice (some ⟨aL, 0, none⟩) aH.length aR, .string aO] (0, 0) _ rfl (bs_ aF.out) Try.underlying24 rfl (by kernel_rfl)) rfl ?_
  exact ⟨_, by first | rfl | (simp [y0z, y10] <;> rfl) | (simp only [← bC]; first | rfl | (simp [y0z, y10] <;> rfl)) | (simp [*, y0z, y10] <;> rfl), Kd.V_mono (Kd.R_V (rm_ (Kd.R_far (p := ⟨aD, 3, none⟩) (Kd.R_far (p := ⟨aD, 2, none⟩) (Kd.R_far (p := ⟨aD, 1, none⟩) (Kd.R_far (p := ⟨aD, 0, none⟩) (Kd.R_types aJ.out aF.out (by decide)) (fun _ hk => hk.2) (.bool aM)) (fun _ hk => hk.2) (.string aN)) (fun _ hk => hk.2) (.slice (some ⟨aL, 0, none⟩) aH.length aR)) (fun _ hk => hk.2) (.string aO)) (fun _ hk => hk.1))) (fun k_ hk => by first | exact ⟨(.inr (hk.1)), hk.2⟩ | exact (.inr (hk))), hb_⟩
 rw [if_pos b8] at H
 have cM := et_ b8
 have cN := nf_ b8
 clear b8
 by_cases cO : 1 ≤ (aH.length : Int)
 rotate_left
 ·rw [if_neg cO] at H
  exact absurd H (by simp)
 rw [if_pos cO] at H
 have gK := eq_true cO
 have gL := dt_ cO
 clear cO
 obtain ⟨aP, bE⟩ : ∃ y_ : List ByteArray, y_ = (a6.drop (1 : Int).toNat) := ⟨_, rfl⟩
 replace H : (some (aM, aN, aP, aO, (rdOf ByteArray.empty aB 0).extract 0 ((aK) : Int).toNat, 0)) = some (r1, r2, r3, r4, r5, r6) := by first | (rw [bE]; with_reducible exact H) | (have b4 := (Option.bind_some _ _).symm.trans H; rw [bE]; with_reducible exact b4) | (have b4 := (Option.bind_some _ _).symm.trans H; with_reducible exact b4) | with_reducible exact H | (rw [bE]; exact H) | exact H
 have bA := q_ bE
 clear bE
 have gM := eq_true (oa_ : 0 ≤ (aK))
 have gN := eq_true (oa_ : (aK) ≤ ((rdOf ByteArray.empty aB 0).size : Int))
 simp only [Option.some.injEq, Prod.mk.injEq] at H
 obtain ⟨rfl, rfl, rfl, rfl, rfl, rfl⟩ := H
 go_enter Try.func13, Try.ntmps13
 try go_wp2_with (first | (refine gd_ 2 ?_; refine bx_ 2 (cs := #[.bool aM, .string aN, .slice a7 aB.length aS, .string aO]) 24 ?_; intro aE hg hQ hbox hb; replace aG := q_ (Kd.V_below (Kd.V_elderB (vk_ aG.out) aE (Nat.le_of_eq hg.symm)) hb); have aC := q_ (hbox); have bJ := gw_ w hg (y08 hb_); have bH := gw_ w hg (y08 hb_); replace HB := q_ (y09 hb_ hb); clear hb hbox hg) | (refine gd_ 4 ?_; refine bx_ 4 (cs := #[.bool false, .string nB_, .slice none 0 0, .string nB_]) 24 ?_; intro aD hg hR hbox hb; replace aG := q_ (Kd.V_below (Kd.V_elderB (vk_ aG.out) aD (Nat.le_of_eq hg.symm)) hb); have aF := q_ (hbox); have bK := gw_ w hg (y08 hb_); have bI := gw_ w hg (y08 hb_); replace HB := q_ (y09 hb_ hb); have aA := nl_ hg (bk_ aC.out); have aI := ng_ hg (bk_ aC.out); replace aC := q_ (y0b (bk_ aC.out) hb); clear hb hbox hg; have g0 := aA.out; have g4 := aI.out; obtain ⟨dF, eJ, dG, eK, dH, eL, dI, eM⟩ := b4_ aC.out; have bF : 0 ≤ (0 : Int) := (by omega); have bG : 0 < (aB.length : Int) := oa_; obtain ⟨aZ, b9, aY⟩ := Kd.at_string (Kd.V_reads' aG.out).2.2 0 bF bG; cases b9; have cT : (0 < aB.length) = True := eq_true (by omega); (try rw [show ((0 : Int)).toNat = 0 from rfl] at aY); (try rw [Addr.add_zero'] at aY); replace bF := eq_true bF; replace bG := eq_true bG) | (refine gc_ 30 ?_; refine gl_ (some 32) Try.func30 #[.slice (some aZ) aB.length aS] ?_; (with_reducible refine (zq0.calls _ _ aB aH _ ?side1 ?side2 gB.out).mono ?_); (case side1 => exact ck_ (Kd.V_reads' aG.out).2.2); (case side2 => exact (Kd.V_reads' aG.out).2.1); rintro e bZ ⟨gA, rfl, cP, hb⟩; refine ⟨_, rfl, ?_⟩; replace aG := q_ (Kd.V_elder' (vk_ aG.out) (Kd.R_base cP) hb); have aJ := q_ (Kd.R_lower (Kd.R_newM (M := fun k_ => (w.heap.size ≤ k_)) cP (y08 hb_) (fun k_ h_ => h_)) (y08 hb_)); replace aC := q_ (y0b (bk_ aC.out) hb); replace aF := q_ (y0b (bk_ aF.out) hb); replace HB := q_ (y09 hb_ hb); obtain ⟨aV, aQ, fW⟩ := Kd.R_slice aJ.out; subst fW; obtain ⟨dJ, eN, dK, eO, dL, eP, dM, eQ⟩ := b4_ aC.out))
 have a0 : Aside0 (Kd.V Kd.string 9 (bZ.setCell ⟨aE, 2, none⟩ (.slice aV aH.length aQ)) w.heap.size (fun k_ => (aX k_ ∨ w.heap.size ≤ k_) ∧ some k_ ≠ (.slice aV aH.length aQ : Value).ownBlock ∧ k_ ≠ aE ∧ k_ ≠ aD) (.slice (some aZ) aB.length aS) aB) := ⟨vm_ (Kd.V_far (p := ⟨aE, 2, none⟩) (Kd.V_mono aG.out (fun k_ hk => (⟨hk, hk.1.1.2⟩ : _ ∧ k_ ≠ aE))) (fun _ hk => hk.2) (.slice aV aH.length aQ)) (fun _ hk => ⟨hk.1.1.1.1, ⟨hk.1.2, ⟨hk.1.1.1.2, hk.1.1.2⟩⟩⟩)⟩
 have a2 : Aside0 (Kd.R Kd.string 9 (bZ.setCell ⟨aE, 2, none⟩ (.slice aV aH.length aQ)) w.heap.size (fun k_ => (w.heap.size ≤ k_)) (.slice aV aH.length aQ) aH) := ⟨rm_ (Kd.R_far (p := ⟨aE, 2, none⟩) (Kd.R_types aJ.out aC.out (by decide)) (fun _ hk => hk.2) (.slice aV aH.length aQ)) (fun _ hk => hk.1.1)⟩
 have a3 : Aside0 ((bZ.setCell ⟨aE, 2, none⟩ (.slice aV aH.length aQ)).heap[aE]? = some (.cells #[.bool aM, .string aN, .slice aV aH.length aQ, .string aO] 24 (0, 0))) := ⟨bs_ aC.out⟩
 have a4 : Aside0 ((bZ.setCell ⟨aE, 2, none⟩ (.slice aV aH.length aQ)).heap[aD]? = some (.cells #[.bool false, .string nB_, .slice none 0 0, .string nB_] 24 (0, 0))) := ⟨bs_ aF.out⟩
 have a5 : Aside0 (Below w.heap.size w (bZ.setCell ⟨aE, 2, none⟩ (.slice aV aH.length aQ))) := ⟨hb_⟩
 (try (have bS : ((bZ.setCell ⟨aE, 2, none⟩ (.slice aV aH.length aQ))).cell? ⟨aE, 2, none⟩ = some (.slice aV aH.length aQ) := World.cell?_setCell_same _ _ _ (by assumption)))
 (first | generalize (bZ.setCell ⟨aE, 2, none⟩ (.slice aV aH.length aQ)) = g6 at a0 a2 a3 a4 a5 bS ⊢ | generalize (bZ.setCell ⟨aE, 2, none⟩ (.slice aV aH.length aQ)) = g6 at a0 a2 a3 a4 a5 ⊢)
 have aG := a0; have aJ := a2; have aC := a3; have aF := a4; have HB := a5
 clear a0 a2 a3 a4 a5
 replace aG := q_ (Kd.V_drew aG.out)
 replace aJ := q_ (Kd.R_drew aJ.out)
 replace aC := q_ (y0d aC.out)
 replace aF := q_ (y0d aF.out)
 replace HB := q_ (y07 HB.out)
 have cE : 0 ≤ (0 : Int) := (by omega)
 have cF : (0 : Int) < ((aH.length : Int) : Int) := oa_
 have f9 : (0 < aH.length) = True := eq_true (by omega)
 obtain ⟨aL, fV, bN, bO, cA, fU, bM⟩ := Kd.R_form aJ.out (by omega)
 (first | cases bN | (injection bN with ea_ en_ ec_; (first | subst ea_ | (injection ea_ with ea_; subst ea_)); subst ec_; clear en_))
 have fP := q_ bO
 have b3 := q_ bM
 clear bO cA bM
 obtain ⟨aU, aT⟩ := Kd.R_celln nB_ aJ.out (0 : Int) cE cF
 (try rw [show ((0 : Int)).toNat = 0 from rfl] at aU)
 (try simp only [Nat.reduceMul, Nat.zero_mul, Nat.zero_add, Nat.reduceAdd] at aU)
 (try rw [show ((0 : Int)).toNat = 0 from rfl] at aT)
 (try simp only [Nat.reduceMul, Nat.zero_mul, Nat.zero_add, Nat.reduceAdd] at aT)
 replace cE := eq_true cE
 replace cF := eq_true cF
 have b5 := Kd.R_putn aJ.out (0 : Int) ((rdOf ByteArray.empty aB 0).extract ((aK) : Int).toNat (rdOf ByteArray.empty aB 0).size)
 rw [← bL.out] at b5
 have cG := q_ b5
 clear b5
 refine start_ (n := 7) (S := fun w' => w'.cell? ⟨aE, 0, none⟩ = some (.bool aM) ∧ w'.cell? ⟨aE, 1, none⟩ = some (.string aN) ∧ w'.cell? ⟨aE, 2, none⟩ = some (.slice (some ⟨aL, 0, none⟩) aH.length aQ) ∧ w'.cell? ⟨aE, 3, none⟩ = some (.string aO)) (ds := [6]) #[false, false, false, false, false, false, false] (by kernel_rfl) rfl rfl ⟨(y0c aC.out 0).trans rfl, (y0c aC.out 1).trans rfl, (y0c aC.out 2).trans rfl, (y0c aC.out 3).trans rfl⟩ (fun hHeld => ?_)
 generalize g6.drew = b0 at aG aJ aC aF HB b3 cG aT aU hHeld ⊢
 refine pure_ (i := 0) (N := some 34) (v := ?_) (a' := ?_) #[true, false, false, false, false, false, false] rfl rfl (by kernel_rfl) (fun _ _ _ h => h) (Or.inl ⟨by rfl, ?_⟩) ?_ ?_
 rotate_left
 ·intro w'
  go_simp
  first | with_reducible rfl | (refine (if_neg ?_).trans ?_; (first | omega | (rw [← ByteArray.size_append]; first | omega | (rw [← ByteArray.size_append]; first | omega | (rw [← ByteArray.size_append]; first | omega | (rw [← ByteArray.size_append]; first | omega | (rw [← ByteArray.size_append]; first | omega | (rw [← ByteArray.size_append]; omega))))))); with_reducible rfl)
 rotate_left
 ·simp only [Act.put, List.setIfInBounds_toArray, List.set_cons_zero, List.set_cons_succ, y17, y15]
  rfl
 refine pure_ (i := 2) (N := some 36) (v := ?_) (a' := ?_) #[true, false, true, false, false, false, false] rfl rfl (by kernel_rfl) (fun _ _ _ h => h) (Or.inl ⟨by rfl, ?_⟩) ?_ ?_
 rotate_left
 ·intro w'
  go_simp
  first | with_reducible rfl | (refine (if_neg ?_).trans ?_; (first | omega | (rw [← ByteArray.size_append]; first | omega | (rw [← ByteArray.size_append]; first | omega | (rw [← ByteArray.size_append]; first | omega | (rw [← ByteArray.size_append]; first | omega | (rw [← ByteArray.size_append]; first | omega | (rw [← ByteArray.size_append]; omega))))))); with_reducible rfl)
 rotate_left
 ·simp only [Act.put, List.setIfInBounds_toArray, List.set_cons_zero, List.set_cons_succ, y17, y15]
  rfl
 refine pure_ (i := 3) (N := some 37) (v := ?_) (a' := ?_) #[true, false, true, true, false, false, false] rfl rfl (by kernel_rfl) (fun _ _ _ h => h) (Or.inl ⟨by rfl, ?_⟩) ?_ ?_
 rotate_left
 ·intro w'
  go_simp
  first | with_reducible rfl | (refine (if_neg ?_).trans ?_; (first | omega | (rw [← ByteArray.size_append]; first | omega | (rw [← ByteArray.size_append]; first | omega | (rw [← ByteArray.size_append]; first | omega | (rw [← ByteArray.size_append]; first | omega | (rw [← ByteArray.size_append]; first | omega | (rw [← ByteArray.size_append]; omega))))))); with_reducible rfl)
 rotate_left
 ·simp only [Act.put, List.setIfInBounds_toArray, List.set_cons_zero, List.set_cons_succ, y17, y15]
  rfl
 refine pure_ (i := 4) (N := some 38) (v := ?_) (a' := ?_) #[true, false, true, true, true, false, false] rfl rfl (by kernel_rfl) (fun _ _ _ h => h) (Or.inl ⟨by rfl, ?_⟩) ?_ ?_
 rotate_left
 ·intro w'
  go_simp
  first | with_reducible rfl | (refine (if_neg ?_).trans ?_; (first | omega | (rw [← ByteArray.size_append]; first | omega | (rw [← ByteArray.size_append]; first | omega | (rw [← ByteArray.size_append]; first | omega | (rw [← ByteArray.size_append]; first | omega | (rw [← ByteArray.size_append]; first | omega | (rw [← ByteArray.size_append]; omega))))))); with_reducible rfl)
 rotate_left
 ·simp only [Act.put, List.setIfInBounds_toArray, List.set_cons_zero, List.set_cons_succ, y17, y15]
  rfl
 refine take_ (i := 1) (N := some 35) (v := ?_) (a' := ?_) #[true, true, true, true, true, false, false] rfl rfl (by kernel_rfl) (fun _ _ _ h => h) (Or.inl ⟨by rfl, ?_⟩) hHeld ?_ ?_
 rotate_left
 ·rintro w' ⟨s0, s1, s2, s3⟩
  go_simp
  first | with_reducible rfl | (refine (if_neg ?_).trans ?_; (first | omega | (rw [← ByteArray.size_append]; first | omega | (rw [← ByteArray.size_append]; first | omega | (rw [← ByteArray.size_append]; first | omega | (rw [← ByteArray.size_append]; first | omega | (rw [← ByteArray.size_append]; first | omega | (rw [← ByteArray.size_append]; omega))))))); with_reducible rfl)
 rotate_left
 ·simp only [Act.put, List.setIfInBounds_toArray, List.set_cons_zero, List.set_cons_succ, y17, y15]
  rfl
 refine pure_ (i := 5) (N := some 39) (v := ?_) (a' := ?_) #[true, true, true, true, true, true, false] rfl rfl (by kernel_rfl) (fun _ _ _ h => h) (Or.inl ⟨by rfl, ?_⟩) ?_ ?_
 rotate_left
 ·intro w'
  go_simp
  first | with_reducible rfl | (refine (if_neg ?_).trans ?_; (first | omega | (rw [← ByteArray.size_append]; first | omega | (rw [← ByteArray.size_append]; first | omega | (rw [← ByteArray.size_append]; first | omega | (rw [← ByteArray.size_append]; first | omega | (rw [← ByteArray.size_append]; first | omega | (rw [← ByteArray.size_append]; omega))))))); with_reducible rfl)
 rotate_left
 ·simp only [Act.put, List.setIfInBounds_toArray, List.set_cons_zero, List.set_cons_succ, y17, y15]
  rfl
 refine last_ (i := 6) (N := none) (fl 7 127) rfl rfl (by kernel_rfl) (by decide) (fun K hK => ?_)
 refine skip_ (w1 := ?_) (by rfl) rfl ?_ ?_
 rotate_left
 ·go_simp
  rfl
 refine hK.out _ _ ?_
 clear hK K
 refine done_ (by kernel_rfl) ?_
 have a0 : Aside0 (Kd.V Kd.string 9 (b0.setCell ⟨aL, 0, none⟩ (.string ((rdOf ByteArray.empty aB 0).extract ((aK) : Int).toNat (rdOf ByteArray.empty aB 0).size))) w.heap.size (fun k_ => (aX k_ ∨ w.heap.size ≤ k_) ∧ some k_ ≠ (.slice (some ⟨aL, 0, none⟩) aH.length aQ : Value).ownBlock ∧ k_ ≠ aE ∧ k_ ≠ aD) (.slice (some aZ) aB.length aS) aB) := ⟨vm_ (Kd.V_far (p := ⟨aL, 0, none⟩) (Kd.V_mono aG.out (fun k_ hk => (⟨hk, fun e_ => hk.2.1 (by rw [e_]; rfl)⟩ : _ ∧ k_ ≠ aL))) (fun _ hk => hk.2) (.string ((rdOf ByteArray.empty aB 0).extract ((aK) : Int).toNat (rdOf ByteArray.empty aB 0).size))) (fun _ hk => ⟨hk.1.1, ⟨hk.1.2.1, ⟨hk.1.2.2.1, hk.1.2.2.2⟩⟩⟩)⟩
 have a2 : Aside0 (Kd.R Kd.string 9 (b0.setCell ⟨aL, 0, none⟩ (.string ((rdOf ByteArray.empty aB 0).extract ((aK) : Int).toNat (rdOf ByteArray.empty aB 0).size))) w.heap.size (fun k_ => (w.heap.size ≤ k_)) (.slice (some ⟨aL, 0, none⟩) aH.length aQ) a6) := ⟨rk_ cG.out⟩
 have a3 : Aside0 ((b0.setCell ⟨aL, 0, none⟩ (.string ((rdOf ByteArray.empty aB 0).extract ((aK) : Int).toNat (rdOf ByteArray.empty aB 0).size))).heap[aE]? = some (.cells #[.bool aM, .string aN, .slice (some ⟨aL, 0, none⟩) aH.length aQ, .string aO] 24 (0, 0))) := ⟨by (with_reducible repeat (first | refine y0e ?_ _ | refine y0d ?_ | refine y0a ?_ _)); refine y0f ?_ (by have h_ := Kd.R_ne aJ.out aC.out (by decide); intro e_; exact h_ (by rw [e_]; rfl)) _; exact bk_ aC.out⟩
 have a4 : Aside0 ((b0.setCell ⟨aL, 0, none⟩ (.string ((rdOf ByteArray.empty aB 0).extract ((aK) : Int).toNat (rdOf ByteArray.empty aB 0).size))).heap[aD]? = some (.cells #[.bool false, .string nB_, .slice none 0 0, .string nB_] 24 (0, 0))) := ⟨by (with_reducible repeat (first | refine y0e ?_ _ | refine y0d ?_ | refine y0a ?_ _)); refine y0f ?_ (by have h_ := Kd.R_ne aJ.out aF.out (by decide); intro e_; exact h_ (by rw [e_]; rfl)) _; exact bk_ aF.out⟩
 have a5 : Aside0 (Below w.heap.size w (b0.setCell ⟨aL, 0, none⟩ (.string ((rdOf ByteArray.empty aB 0).extract ((aK) : Int).toNat (rdOf ByteArray.empty aB 0).size)))) := ⟨hb_⟩
 (try (have bT : ((b0.setCell ⟨aL, 0, none⟩ (.string ((rdOf ByteArray.empty aB 0).extract ((aK) : Int).toNat (rdOf ByteArray.empty aB 0).size)))).cell? ⟨aL, 0, none⟩ = some (.string ((rdOf ByteArray.empty aB 0).extract ((aK) : Int).toNat (rdOf ByteArray.empty aB 0).size)) := World.cell?_setCell_same _ _ _ (by assumption)))
 (first | generalize (b0.setCell ⟨aL, 0, none⟩ (.string ((rdOf ByteArray.empty aB 0).extract ((aK) : Int).toNat (rdOf ByteArray.empty aB 0).size))) = bQ at a0 a2 a3 a4 a5 bT ⊢ | generalize (b0.setCell ⟨aL, 0, none⟩ (.string ((rdOf ByteArray.empty aB 0).extract ((aK) : Int).toNat (rdOf ByteArray.empty aB 0).size))) = bQ at a0 a2 a3 a4 a5 ⊢)
 have aG := a0; have aJ := a2; have aC := a3; have aF := a4; have HB := a5
 clear a0 a2 a3 a4 a5
 obtain ⟨dN, eR, dO, eS, dP, eT, dQ, eU⟩ := b4_ aC.out
 have cR : 0 ≤ (0 : Int) := (by omega)
 have cS : (0 : Int) < ((aH.length : Int) : Int) := oa_
 replace cR := eq_true cR
 replace cS := eq_true cS
 have f8 : (1 : Int) ≤ ((aH.length : Int) : Int) := oa_
 obtain ⟨i044, bX, _, bY, _⟩ := info_parts info9
 have cC := cut_from (P := Try.prog) 22 9 .i64 Try.underlying22 bX 1 bY (some ⟨aL, 0, none⟩) aH.length aQ 1 (by omega) f8
 have bP := Kd.Q_drop (k := (1 : Int).toNat) (Kd.Q_of_R aJ.out) (by first | omega | (rw [bL.out, List.length_set]; omega) | (rw [bA.out, List.length_set]; omega))
 obtain ⟨a8, bR⟩ : ∃ A1, A1 = (if aQ = (1 : Int).toNat then (some ⟨aL, 0, none⟩) else ((some ⟨aL, 0, none⟩) : Option Addr).map (·.add ((1 : Int).toNat * 1))) := ⟨_, rfl⟩
 obtain ⟨bB, cB⟩ : ∃ c1, c1 = aQ - (1 : Int).toNat := ⟨_, rfl⟩
 have cD : aP.length = aH.length - (1 : Int).toNat := (by first | (rw [bA.out, List.length_drop]; done) | (rw [bA.out, List.length_drop, bL.out, List.length_set]; done) | (rw [bA.out, List.length_drop, bA.out, List.length_set]; done))
 rw [← bA.out] at bP
 rw [← cD, ← bR, ← cB] at cC
 replace bP : Kd.Q Kd.string 9 bQ w.heap.size (fun k_ => (w.heap.size ≤ k_)) (.slice a8 aP.length bB) aP := (by rw [bR, cB, cD]; exact bP)
 have fQ : Aside0 ((Value.slice a8 aP.length bB).ownBlock = (.slice (some ⟨aL, 0, none⟩) aH.length aQ : Value).ownBlock) := ⟨by rw [bR]; split <;> (cases ((some ⟨aL, 0, none⟩) : Option Addr) <;> rfl)⟩
 clear cD bX bY aJ bR cB
 have a9 := q_ bP
 clear bP
 replace f8 := eq_true f8
 have n_ := q_ (Kd.V_mono (ok' := fun k_ => (((aX k_ ∨ w.heap.size ≤ k_)) ∧ (some k_ ≠ (.slice a8 aP.length bB : Value).ownBlock ∧ (k_ ≠ aE ∧ k_ ≠ aD)))) aG.out (fun k_ hk => ⟨hk.1, ⟨(by rw [fQ.out]; exact hk.2.1), ⟨hk.2.2.1, hk.2.2.2⟩⟩⟩))
 clear aG
 have aG := n_
 clear n_
 try go_wp2
 have a0 : Aside0 (Kd.V Kd.string 9 (bQ.setCell ⟨aE, 2, none⟩ (.slice a8 aP.length bB)) w.heap.size (fun k_ => (aX k_ ∨ w.heap.size ≤ k_) ∧ some k_ ≠ (.slice a8 aP.length bB : Value).ownBlock ∧ k_ ≠ aE ∧ k_ ≠ aD) (.slice (some aZ) aB.length aS) aB) := ⟨vm_ (Kd.V_far (p := ⟨aE, 2, none⟩) (Kd.V_mono aG.out (fun k_ hk => (⟨hk, hk.2.2.1⟩ : _ ∧ k_ ≠ aE))) (fun _ hk => hk.2) (.slice a8 aP.length bB)) (fun _ hk => ⟨hk.1.1, ⟨hk.1.2.1, ⟨hk.1.2.2.1, hk.1.2.2.2⟩⟩⟩)⟩
 have a2 : Aside0 (Kd.Q Kd.string 9 (bQ.setCell ⟨aE, 2, none⟩ (.slice a8 aP.length bB)) w.heap.size (fun k_ => (w.heap.size ≤ k_)) (.slice a8 aP.length bB) aP) := ⟨qm_ (Kd.Q_far (p := ⟨aE, 2, none⟩) (Kd.Q_types a9.out aC.out (by decide)) (fun _ hk => hk.2) (.slice a8 aP.length bB)) (fun _ hk => hk.1)⟩
 have a3 : Aside0 ((bQ.setCell ⟨aE, 2, none⟩ (.slice a8 aP.length bB)).heap[aE]? = some (.cells #[.bool aM, .string aN, .slice a8 aP.length bB, .string aO] 24 (0, 0))) := ⟨bs_ aC.out⟩
 have a4 : Aside0 ((bQ.setCell ⟨aE, 2, none⟩ (.slice a8 aP.length bB)).heap[aD]? = some (.cells #[.bool false, .string nB_, .slice none 0 0, .string nB_] 24 (0, 0))) := ⟨bs_ aF.out⟩
 have a5 : Aside0 (Below w.heap.size w (bQ.setCell ⟨aE, 2, none⟩ (.slice a8 aP.length bB))) := ⟨hb_⟩
 (try (have bU : ((bQ.setCell ⟨aE, 2, none⟩ (.slice a8 aP.length bB))).cell? ⟨aE, 2, none⟩ = some (.slice a8 aP.length bB) := World.cell?_setCell_same _ _ _ (by assumption)))
 (first | generalize (bQ.setCell ⟨aE, 2, none⟩ (.slice a8 aP.length bB)) = g7 at a0 a2 a3 a4 a5 bU ⊢ | generalize (bQ.setCell ⟨aE, 2, none⟩ (.slice a8 aP.length bB)) = g7 at a0 a2 a3 a4 a5 ⊢)
 have aG := a0; have a9 := a2; have aC := a3; have aF := a4; have HB := a5
 clear a0 a2 a3 a4 a5
 replace aG := q_ (Kd.V_drew aG.out)
 replace a9 := q_ (Kd.Q_drew a9.out)
 replace aC := q_ (y0d aC.out)
 replace aF := q_ (y0d aF.out)
 replace HB := q_ (y07 HB.out)
 refine start_ (n := 7) (S := fun w' => w'.cell? ⟨aE, 0, none⟩ = some (.bool aM) ∧ w'.cell? ⟨aE, 1, none⟩ = some (.string aN) ∧ w'.cell? ⟨aE, 2, none⟩ = some (.slice a8 aP.length bB) ∧ w'.cell? ⟨aE, 3, none⟩ = some (.string aO)) (ds := []) #[false, false, false, false, false, false, false] (by kernel_rfl) rfl rfl ⟨(y0c aC.out 0).trans rfl, (y0c aC.out 1).trans rfl, (y0c aC.out 2).trans rfl, (y0c aC.out 3).trans rfl⟩ (fun hHeld => ?_)
 generalize g7.drew = fN at aG a9 aC aF HB hHeld ⊢
 refine pure_ (i := 1) (N := some 50) (v := ?_) (a' := ?_) #[false, true, false, false, false, false, false] rfl rfl (by kernel_rfl) (fun _ _ _ h => h) (Or.inl ⟨by rfl, ?_⟩) ?_ ?_
 rotate_left
 ·intro w'
  go_simp
  first | with_reducible rfl | (refine (if_neg ?_).trans ?_; (first | omega | (rw [← ByteArray.size_append]; first | omega | (rw [← ByteArray.size_append]; first | omega | (rw [← ByteArray.size_append]; first | omega | (rw [← ByteArray.size_append]; first | omega | (rw [← ByteArray.size_append]; first | omega | (rw [← ByteArray.size_append]; omega))))))); with_reducible rfl)
 rotate_left
 ·simp only [Act.put, List.setIfInBounds_toArray, List.set_cons_zero, List.set_cons_succ, y17, y15]
  rfl
 refine pure_ (i := 2) (N := some 51) (v := ?_) (a' := ?_) #[false, true, true, false, false, false, false] rfl rfl (by kernel_rfl) (fun _ _ _ h => h) (Or.inl ⟨by rfl, ?_⟩) ?_ ?_
 rotate_left
 ·intro w'
  go_simp
  first | with_reducible rfl | (refine (if_neg ?_).trans ?_; (first | omega | (rw [← ByteArray.size_append]; first | omega | (rw [← ByteArray.size_append]; first | omega | (rw [← ByteArray.size_append]; first | omega | (rw [← ByteArray.size_append]; first | omega | (rw [← ByteArray.size_append]; first | omega | (rw [← ByteArray.size_append]; omega))))))); with_reducible rfl)
 rotate_left
 ·simp only [Act.put, List.setIfInBounds_toArray, List.set_cons_zero, List.set_cons_succ, y17, y15]
  rfl
 refine pure_ (i := 3) (N := some 52) (v := ?_) (a' := ?_) #[false, true, true, true, false, false, false] rfl rfl (by kernel_rfl) (fun _ _ _ h => h) (Or.inl ⟨by rfl, ?_⟩) ?_ ?_
 rotate_left
 ·intro w'
  go_simp
  first | with_reducible rfl | (refine (if_neg ?_).trans ?_; (first | omega | (rw [← ByteArray.size_append]; first | omega | (rw [← ByteArray.size_append]; first | omega | (rw [← ByteArray.size_append]; first | omega | (rw [← ByteArray.size_append]; first | omega | (rw [← ByteArray.size_append]; first | omega | (rw [← ByteArray.size_append]; omega))))))); with_reducible rfl)
 rotate_left
 ·simp only [Act.put, List.setIfInBounds_toArray, List.set_cons_zero, List.set_cons_succ, y17, y15]
  rfl
 refine take_ (i := 0) (N := some 49) (v := ?_) (a' := ?_) #[true, true, true, true, false, false, false] rfl rfl (by kernel_rfl) (fun _ _ _ h => h) (Or.inl ⟨by rfl, ?_⟩) hHeld ?_ ?_
 rotate_left
 ·rintro w' ⟨s0, s1, s2, s3⟩
  go_simp
  first | with_reducible rfl | (refine (if_neg ?_).trans ?_; (first | omega | (rw [← ByteArray.size_append]; first | omega | (rw [← ByteArray.size_append]; first | omega | (rw [← ByteArray.size_append]; first | omega | (rw [← ByteArray.size_append]; first | omega | (rw [← ByteArray.size_append]; first | omega | (rw [← ByteArray.size_append]; omega))))))); with_reducible rfl)
 rotate_left
 ·simp only [Act.put, List.setIfInBounds_toArray, List.set_cons_zero, List.set_cons_succ, y17, y15]
  rfl
 refine one_ (i := 4) (N := none) (fl 7 31) rfl rfl (by kernel_rfl) (by decide) (fun K hK => ?_)
 have hD : fN.cell? ⟨aD, 0, none⟩ = some (.bool false) := (y0c aF.out 0).trans rfl
 have gQ := y0g aF.out 0
 have fF := aA.out
 have e7 := aI.out
 have hE : fN.cell? ⟨aD, 1, none⟩ = some (.string nB_) := (y0c aF.out 1).trans rfl
 have gR := y0g aF.out 1
 have fG := aA.out
 have e8 := aI.out
 have hF : fN.cell? ⟨aD, 2, none⟩ = some (.slice none 0 0) := (y0c aF.out 2).trans rfl
 have gS := y0g aF.out 2
 have fH := aA.out
 have e9 := aI.out
 have hG : fN.cell? ⟨aD, 3, none⟩ = some (.string nB_) := (y0c aF.out 3).trans rfl
 have gT := y0g aF.out 3
 have fI := aA.out
 have fA := aI.out
 refine skip_ (w1 := ?_) (by rfl) rfl ?_ ?_
 rotate_left
 ·go_simp
  rfl
 refine hK.out _ _ ⟨((y0t (p := ⟨aD, _, none⟩) aA.out _).trans (((y0t (p := ⟨aD, _, none⟩) aA.out _).trans (((y0t (p := ⟨aD, _, none⟩) aA.out _).trans (((y0t (p := ⟨aD, _, none⟩) aA.out _).trans (hHeld.1)))))))), ((y0t (p := ⟨aD, _, none⟩) aA.out _).trans (((y0t (p := ⟨aD, _, none⟩) aA.out _).trans (((y0t (p := ⟨aD, _, none⟩) aA.out _).trans (((y0t (p := ⟨aD, _, none⟩) aA.out _).trans (hHeld.2.1)))))))), ((y0t (p := ⟨aD, _, none⟩) aA.out _).trans (((y0t (p := ⟨aD, _, none⟩) aA.out _).trans (((y0t (p := ⟨aD, _, none⟩) aA.out _).trans (((y0t (p := ⟨aD, _, none⟩) aA.out _).trans (hHeld.2.2.1)))))))), ((y0t (p := ⟨aD, _, none⟩) aA.out _).trans (((y0t (p := ⟨aD, _, none⟩) aA.out _).trans (((y0t (p := ⟨aD, _, none⟩) aA.out _).trans (((y0t (p := ⟨aD, _, none⟩) aA.out _).trans (hHeld.2.2.2))))))))⟩ (fun hHeld => ?_)
 clear hK K
 refine pure_ (i := 5) (N := some 5) (v := ?_) (a' := ?_) #[true, true, true, true, true, true, false] rfl rfl (by kernel_rfl) (fun _ _ _ h => h) (Or.inl ⟨by rfl, ?_⟩) ?_ ?_
 rotate_left
 ·intro w'
  go_simp
  first | with_reducible rfl | (refine (if_neg ?_).trans ?_; (first | omega | (rw [← ByteArray.size_append]; first | omega | (rw [← ByteArray.size_append]; first | omega | (rw [← ByteArray.size_append]; first | omega | (rw [← ByteArray.size_append]; first | omega | (rw [← ByteArray.size_append]; first | omega | (rw [← ByteArray.size_append]; omega))))))); with_reducible rfl)
 rotate_left
 ·simp only [Act.put, List.setIfInBounds_toArray, List.set_cons_zero, List.set_cons_succ, y17, y15]
  rfl
 refine pure_ (i := 6) (N := some 6) (v := ?_) (a' := ?_) #[true, true, true, true, true, true, true] rfl rfl (by kernel_rfl) (fun _ _ _ h => h) (Or.inl ⟨by rfl, ?_⟩) ?_ ?_
 rotate_left
 ·intro w'
  go_simp
  first | with_reducible rfl | (refine (if_neg ?_).trans ?_; (first | omega | (rw [← ByteArray.size_append]; first | omega | (rw [← ByteArray.size_append]; first | omega | (rw [← ByteArray.size_append]; first | omega | (rw [← ByteArray.size_append]; first | omega | (rw [← ByteArray.size_append]; first | omega | (rw [← ByteArray.size_append]; omega))))))); with_reducible rfl)
 rotate_left
 ·simp only [Act.put, List.setIfInBounds_toArray, List.set_cons_zero, List.set_cons_succ, y17, y15]
  rfl
 refine done_ (by kernel_rfl) ?_
 try go_wp2
 refine bodyPost_ret (y1p rfl _ _ aD 24 #[.bool aM, .string aN, .slice a8 aP.length bB, .string aO] (0, 0) _ rfl (bs_ aF.out) Try.underlying24 rfl (by kernel_rfl)) rfl ?_
 exact ⟨_, by first | rfl | (simp [y0z, y10] <;> rfl) | (simp only [← bC]; first | rfl | (simp [y0z, y10] <;> rfl)) | (simp [*, y0z, y10] <;> rfl), Kd.V_mono (Kd.Q_V (qm_ (Kd.Q_far (p := ⟨aD, 3, none⟩) (Kd.Q_far (p := ⟨aD, 2, none⟩) (Kd.Q_far (p := ⟨aD, 1, none⟩) (Kd.Q_far (p := ⟨aD, 0, none⟩) (Kd.Q_types a9.out aF.out (by decide)) (fun _ hk => hk.2) (.bool aM)) (fun _ hk => hk.2) (.string aN)) (fun _ hk => hk.2) (.slice a8 aP.length bB)) (fun _ hk => hk.2) (.string aO)) (fun _ hk => hk.1))) (fun k_ hk => by first | exact ⟨(.inr (hk.1)), hk.2⟩ | exact (.inr (hk))), hb_⟩
end Go.Proofs.Ytgcmhfoegbaaiaa.K
end
