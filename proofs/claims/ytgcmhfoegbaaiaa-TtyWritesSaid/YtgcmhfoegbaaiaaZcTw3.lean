/- Lemmas for several laws: what their proofs need of this seat's texts, in one place. -/
import Derived.Test.YtgcmhfoegbaaiaaZcTw2
set_option linter.unusedVariables false
set_option linter.unusedSimpArgs false
set_option linter.unusedSectionVars false
set_option maxHeartbeats 8000000
set_option maxRecDepth 100000
section
namespace Go.Proofs.Ytgcmhfoegbaaiaa.K
open Go.RowKit Go.Proofs.YtW.P Go.Proofs.YtW.L
def zqq.f (a0_0 : Bool) (a0_1 : ByteArray) (l0_2 : List ByteArray) (a0_3 : ByteArray) (a1 : ByteArray) : Option (Bool × ByteArray × List ByteArray × ByteArray) := if 0 ≤ (mx 0 (mn (a1.size : Int) (wrap64 (256 - (a0_3.size : Int))))) then (if (mx 0 (mn (a1.size : Int) (wrap64 (256 - (a0_3.size : Int))))) ≤ (a1.size : Int) then (if a0_3.size + (a1.extract 0 ((mx 0 (mn (a1.size : Int) (wrap64 (256 - (a0_3.size : Int))))) : Int).toNat).size ≤ 9223372036854775807 then (some (a0_0, a0_1, l0_2, a0_3 ++ (a1.extract 0 ((mx 0 (mn (a1.size : Int) (wrap64 (256 - (a0_3.size : Int))))) : Int).toNat))) else (none)) else (none)) else (none)
def zqq.T1 : Bool × List (List Nat × List Nat) := (true, [([], []), ([0], [0]), ([], []), ([], []), ([3], [3]), ([], []), ([5], [5]), ([6], [6]), ([7], [7]), ([4, 8], [4, 8]), ([9], [9]), ([2, 10], [2, 10]), ([1, 11], [1, 11]), ([0, 1, 2, 3, 4, 5, 6, 7, 8, 9, 10, 11, 12], []), ([13, 12, 0, 1, 2, 3, 4, 5, 6, 7, 8, 9, 10, 11, 12], [12, 13])])
def zqq.B1 : List Nat := [0, 1, 0, 0, 8, 0, 32, 96, 224, 504, 1016, 2044, 4095, 8191, 16383]
theorem zqq.tab1 : rtab .any (opsOf Try.f36 1) = zqq.T1 := by kernel_rfl
theorem zqq.bits1 : waitsOk zqq.T1.2 zqq.B1 = true := by kernel_rfl
theorem zqq.calls (aI : Bool) (aJ : ByteArray) (aO : Nat → Prop) (aL : Option Addr) (aM : Nat) (aC : List ByteArray) (aA : ByteArray) (a1 : ByteArray) (r1 : Bool) (r2 : ByteArray) (r3 : List ByteArray) (r4 : ByteArray) (w : World) (aT : Kd.V Kd.string 9 w w.heap.size (fun k_ => aO k_) (.slice aL aC.length aM) aC) (h : zqq.f aI aJ aC aA a1 = some (r1, r2, r3, r4)) :
  Calls Try.prog 36 #[.agg #[.bool aI, .string aJ, .slice aL aC.length aM, .string aA], .string a1] w fun e w' => ∃ v2_ : Value, e = .returned (.agg #[.bool r1, .string r2, v2_, .string r4]) ∧ Kd.V Kd.string 9 w' w.heap.size (fun k_ => (aO k_ ∨ w.heap.size ≤ k_)) v2_ r3 ∧ Below w.heap.size w w' := by
 have bY := Try.underlying24
 have aD := q_ (show Kd.V Kd.string 9 w w.heap.size (fun k_ => (aO k_ ∨ w.heap.size ≤ k_)) (.slice aL aC.length aM) aC from Kd.V_mono aT (fun k_ hk => .inl hk))
 have HB := q_ (Below.refl w.heap.size w)
 have H : (if 0 ≤ (mx 0 (mn (a1.size : Int) (wrap64 (256 - (aA.size : Int))))) then (if (mx 0 (mn (a1.size : Int) (wrap64 (256 - (aA.size : Int))))) ≤ (a1.size : Int) then (if aA.size + (a1.extract 0 ((mx 0 (mn (a1.size : Int) (wrap64 (256 - (aA.size : Int))))) : Int).toNat).size ≤ 9223372036854775807 then (some (aI, aJ, aC, aA ++ (a1.extract 0 ((mx 0 (mn (a1.size : Int) (wrap64 (256 - (aA.size : Int))))) : Int).toNat))) else (none)) else (none)) else (none)) = some (r1, r2, r3, r4) := h
 clear h
 obtain ⟨aR, aP⟩ : ∃ j_ : Int, (mn (a1.size : Int) (wrap64 (256 - (aA.size : Int)))) = j_ := ⟨_, rfl⟩
 replace H : (if 0 ≤ (mx 0 (aR)) then (if (mx 0 (aR)) ≤ (a1.size : Int) then (if aA.size + (a1.extract 0 ((mx 0 (aR)) : Int).toNat).size ≤ 9223372036854775807 then (some (aI, aJ, aC, aA ++ (a1.extract 0 ((mx 0 (aR)) : Int).toNat))) else (none)) else (none)) else (none)) = some (r1, r2, r3, r4) := by first | (rw [aP] at H; exact H) | (simp only [aP] at H ⊢; exact H)
 have bJ : (if (wrap64 (256 - (aA.size : Int))) < (a1.size : Int) then (wrap64 (256 - (aA.size : Int))) else (a1.size : Int)) = aR := aP
 (try (have bK : min (a1.size : Int) (wrap64 (256 - (aA.size : Int))) = aR := by rw [← aP]; unfold mn; (repeat' split) <;> omega))
 obtain ⟨aN, aQ⟩ : ∃ j_ : Int, (mx 0 (aR)) = j_ := ⟨_, rfl⟩
 replace H : (if 0 ≤ (aN) then (if (aN) ≤ (a1.size : Int) then (if aA.size + (a1.extract 0 ((aN) : Int).toNat).size ≤ 9223372036854775807 then (some (aI, aJ, aC, aA ++ (a1.extract 0 ((aN) : Int).toNat))) else (none)) else (none)) else (none)) = some (r1, r2, r3, r4) := by first | (rw [aQ] at H; exact H) | (simp only [aQ] at H ⊢; exact H)
 have bL : (if 0 < (aR) then (aR) else 0) = aN := aQ
 (try (have bM : max 0 (aR) = aN := by rw [← aQ]; unfold mx; (repeat' split) <;> omega))
 by_cases c5 : 0 ≤ (aN)
 rotate_left
 ·rw [if_neg c5] at H
  exact absurd H (by simp)
 rw [if_pos c5] at H
 have bP := eq_true c5
 have bQ := dt_ c5
 clear c5
 by_cases c6 : (aN) ≤ (a1.size : Int)
 rotate_left
 ·rw [if_neg c6] at H
  exact absurd H (by simp)
 rw [if_pos c6] at H
 have bR := eq_true c6
 have bS := dt_ c6
 clear c6
 by_cases c7 : aA.size + (a1.extract 0 ((aN) : Int).toNat).size ≤ 9223372036854775807
 rotate_left
 ·rw [if_neg c7] at H
  exact absurd H (by simp)
 rw [if_pos c7] at H
 have bT := eq_true c7
 have bD := dt_ c7
 try have bU : (9223372036854775807 < aA.size + (a1.extract 0 ((aN) : Int).toNat).size) = False := eq_false (Nat.not_lt.2 c7)
 (try (have aS := bD; simp only [ByteArray.size_extract, Nat.min_self] at aS))
 (try (have bV := eq_true (of_decide_eq_true aS)))
 (try (have bW : (9223372036854775807 < aA.size + aN.toNat) = False := eq_false (by have h_ := c7; simp only [ByteArray.size_extract] at h_; (try simp only [eq_iff_iff, iff_true] at *); omega)))
 simp only [Option.some.injEq, Prod.mk.injEq] at H
 obtain ⟨rfl, rfl, rfl, rfl⟩ := H
 go_enter Try.func36, Try.ntmps36
 try go_wp2_with (first | (refine gd_ 2 ?_; refine bx_ 2 (cs := #[.bool aI, .string aJ, .slice aL aC.length aM, .string aA]) 24 ?_; intro aE hg w8 hbox hb; replace aD := q_ (Kd.V_below (Kd.V_elderB (vk_ aD.out) aE (Nat.le_of_eq hg.symm)) hb); have aB := q_ (hbox); have bG := gw_ w hg (y08 hb_); have bE := gw_ w hg (y08 hb_); replace HB := q_ (y09 hb_ hb); clear hb hbox hg) | (refine gd_ 4 ?_; refine bx_ 4 (cs := #[.bool false, .string nB_, .slice none 0 0, .string nB_]) 24 ?_; intro aF hg w9 hbox hb; replace aD := q_ (Kd.V_below (Kd.V_elderB (vk_ aD.out) aF (Nat.le_of_eq hg.symm)) hb); have aK := q_ (hbox); have bH := gw_ w hg (y08 hb_); have bF := gw_ w hg (y08 hb_); replace HB := q_ (y09 hb_ hb); have aG := nl_ hg (bk_ aB.out); have aH := ng_ hg (bk_ aB.out); replace aB := q_ (y0b (bk_ aB.out) hb); clear hb hbox hg))
 replace aD := q_ (Kd.V_drew aD.out)
 replace aB := q_ (y0d aB.out)
 replace aK := q_ (y0d aK.out)
 replace HB := q_ (y07 HB.out)
 refine start_ (n := 15) (S := fun w' => w'.cell? ⟨aE, 0, none⟩ = some (.bool aI) ∧ w'.cell? ⟨aE, 1, none⟩ = some (.string aJ) ∧ w'.cell? ⟨aE, 2, none⟩ = some (.slice aL aC.length aM) ∧ w'.cell? ⟨aE, 3, none⟩ = some (.string aA)) (ds := [14]) #[false, false, false, false, false, false, false, false, false, false, false, false, false, false, false] (by kernel_rfl) rfl rfl ⟨(y0c aB.out 0).trans rfl, (y0c aB.out 1).trans rfl, (y0c aB.out 2).trans rfl, (y0c aB.out 3).trans rfl⟩ (fun hHeld => ?_); refine y20 zqq.tab1 zqq.bits1 (fun HT_ HW_ => ?_)
 generalize w9.drew = bZ at aD aB aK HB hHeld ⊢
 refine pv_ 0 (some 5) (fl 15 1) ?_
 refine pv_ 2 (some 7) (fl 15 5) ?_
 refine pv_ 3 (some 8) (fl 15 13) ?_
 refine pv_ 4 (some 9) (fl 15 29) ?_
 refine pv_ 5 (some 10) (fl 15 61) ?_
 refine tv_ 1 (some 6) (fl 15 63) ?_
 refine tv_ 6 (some 11) (fl 15 127) ?_
 refine pv_ 7 (some 12) (fl 15 255) ?_
 refine pv_ 8 (some 13) (fl 15 511) ?_
 refine pv_ 9 (some 14) (fl 15 1023) ?_
 refine pv_ 10 (some 15) (fl 15 2047) ?_
 refine pv_ 11 (some 16) (fl 15 4095) ?_
 refine pv_ 12 (some 17) (fl 15 8191) ?_
 refine pv_ 13 (some 18) (fl 15 16383) ?_
 refine last_ (i := 14) (N := none) (fl 15 32767) rfl rfl (y1e HT_.out (by kernel_rfl)) (by decide) (fun K hK => ?_)
 have bX : bZ.cell? ⟨aE, 3, none⟩ = some (.string aA) := (y0c aB.out 3).trans rfl
 have bI := y0g aB.out 3
 have bC := aH.out
 have bB := aG.out
 refine skip_ (w1 := ?_) (by rfl) rfl ?_ ?_
 rotate_left
 ·go_simp
  rfl
 refine hK.out _ _ ?_
 clear hK K
 refine done_ (done_of HT_.out (by kernel_rfl)) ?_
 have bN := aG.out
 have bO := aH.out
 obtain ⟨aU, a3, aV, a4, aW, a5, aX, a6⟩ := b4_ aB.out
 obtain ⟨aY, a7, aZ, a8, a0, a9, a2, bA⟩ := b4_ aK.out
 try go_wp2
 refine bodyPost_ret (results_cell_row rfl _ _ aF 24 #[.bool aI, .string aJ, .slice aL aC.length aM, .string (aA ++ (a1.extract 0 ((aN) : Int).toNat))] (0, 0) _ rfl (bs_ aK.out) Try.underlying24 rfl (by kernel_rfl)) rfl ?_
 exact ⟨_, by first | rfl | (simp [y0z, y10] <;> rfl) | (simp only [← aP, ← aQ]; first | rfl | (simp [y0z, y10] <;> rfl)) | (simp [*, y0z, y10] <;> rfl), by (with_reducible repeat (first | apply Kd.V_alloc | apply Kd.V_drewN | apply Kd.V_drew)); exact Kd.V_mono (Kd.V_far (p := ⟨aF, 3, none⟩) (Kd.V_far (p := ⟨aF, 2, none⟩) (Kd.V_far (p := ⟨aF, 1, none⟩) (Kd.V_far (p := ⟨aF, 0, none⟩) (Kd.V_far (p := ⟨aE, 3, none⟩) (Kd.V_mono (Kd.V_mono aD.out (fun k_ hk => (⟨hk, hk.1.2⟩ : _ ∧ k_ ≠ aE))) (fun k_ hk => (⟨hk, hk.1.2⟩ : _ ∧ k_ ≠ aF))) (fun _ hk => hk.1.2) (.string (aA ++ (a1.extract 0 ((aN) : Int).toNat)))) (fun _ hk => hk.2) (.bool aI)) (fun _ hk => hk.2) (.string aJ)) (fun _ hk => hk.2) (.slice aL aC.length aM)) (fun _ hk => hk.2) (.string (aA ++ (a1.extract 0 ((aN) : Int).toNat)))) (fun _ hk => hk.1.1.1.1), hb_⟩
def zqi.f (a0_0 : Bool) (a0_1 : ByteArray) (l0_2 : List ByteArray) (a0_3 : ByteArray) (a1 : ByteArray) (a2 : ByteArray) : Option (Bool × ByteArray × List ByteArray × ByteArray) := if (l0_2.length : Int) ≥ 16 then ((zqq.f a0_0 nB_ l0_2 a0_3 (⟨#[7]⟩ : ByteArray)).bind fun bt116 => (some (bt116.1, bt116.2.1, bt116.2.2.1, bt116.2.2.2))) else ((zq0.f l0_2).bind fun t122 => (if t122.length < 8796093022208 then ((zqq.f a0_0 nB_ (t122 ++ [a1]) a0_3 a2).bind fun bt128 => (some (bt128.1, bt128.2.1, bt128.2.2.1, bt128.2.2.2))) else (none)))
theorem zqi.calls (aK : Bool) (a4 : ByteArray) (aJ : Nat → Prop) (aU : Option Addr) (aT : Nat) (aH : List ByteArray) (aM : ByteArray) (a1 : ByteArray) (a2 : ByteArray) (r1 : Bool) (r2 : ByteArray) (r3 : List ByteArray) (r4 : ByteArray) (w : World) (bQ : Kd.V Kd.string 9 w w.heap.size (fun k_ => aJ k_) (.slice aU aH.length aT) aH) (h : zqi.f aK a4 aH aM a1 a2 = some (r1, r2, r3, r4)) :
  Calls Try.prog 31 #[.agg #[.bool aK, .string a4, .slice aU aH.length aT, .string aM], .string a1, .string a2] w fun e w' => ∃ v2_ : Value, e = .returned (.agg #[.bool r1, .string r2, v2_, .string r4]) ∧ Kd.V Kd.string 9 w' w.heap.size (fun k_ => (aJ k_ ∨ w.heap.size ≤ k_)) v2_ r3 ∧ Below w.heap.size w w' := by
 have dX := Try.underlying24
 have aD := q_ (show Kd.V Kd.string 9 w w.heap.size (fun k_ => (aJ k_ ∨ w.heap.size ≤ k_)) (.slice aU aH.length aT) aH from Kd.V_mono bQ (fun k_ hk => .inl hk))
 have HB := q_ (Below.refl w.heap.size w)
 have H : (if (aH.length : Int) ≥ 16 then ((zqq.f aK nB_ aH aM (⟨#[7]⟩ : ByteArray)).bind fun a3 => (some (a3.1, a3.2.1, a3.2.2.1, a3.2.2.2))) else ((zq0.f aH).bind fun aZ => (if aZ.length < 8796093022208 then ((zqq.f aK nB_ (aZ ++ [a1]) aM a2).bind fun aN => (some (aN.1, aN.2.1, aN.2.2.1, aN.2.2.2))) else (none)))) = some (r1, r2, r3, r4) := h
 clear h
 by_cases c4 : (aH.length : Int) ≥ 16
 ·rw [if_pos c4] at H
  have dC := dt_ c4
  have dD : decide (16 ≤ aH.length) = true := decide_eq_true (by omega)
  clear c4
  obtain ⟨⟨a7, a8, a9, bA⟩, A5, H⟩ := bq_ H
  (try dsimp only at H)
  simp only [Option.some.injEq, Prod.mk.injEq] at H
  obtain ⟨rfl, rfl, rfl, rfl⟩ := H
  go_enter Try.func31, Try.ntmps31
  go_wp2_with (first | (refine gd_ 3 ?_; refine bx_ 3 (cs := #[.bool aK, .string a4, .slice aU aH.length aT, .string aM]) 24 ?_; intro aG hg w6 hbox hb; replace aD := q_ (Kd.V_below (Kd.V_elderB (vk_ aD.out) aG (Nat.le_of_eq hg.symm)) hb); have aA := q_ (hbox); have bK := gw_ w hg (y08 hb_); have bI := gw_ w hg (y08 hb_); replace HB := q_ (y09 hb_ hb); clear hb hbox hg) | (refine gd_ 6 ?_; refine bx_ 6 (cs := #[.bool false, .string nB_, .slice none 0 0, .string nB_]) 24 ?_; intro aE hg w7 hbox hb; replace aD := q_ (Kd.V_below (Kd.V_elderB (vk_ aD.out) aE (Nat.le_of_eq hg.symm)) hb); have aC := q_ (hbox); have bL := gw_ w hg (y08 hb_); have bJ := gw_ w hg (y08 hb_); replace HB := q_ (y09 hb_ hb); have aQ := nl_ hg (bk_ aA.out); have aR := ng_ hg (bk_ aA.out); replace aA := q_ (y0b (bk_ aA.out) hb); clear hb hbox hg; have dV := aQ.out; have dW := aR.out; obtain ⟨dH, dL, dI, dM, dJ, dN, dK, dO⟩ := b4_ aA.out) | ((with_reducible refine y13 (t := 9) (p := 7) rfl ?_); refine y1w (t := 9) (p := 7) (v := ?vo_w10) (w1 := (w7.setCell ⟨aG, 1, none⟩ (.string nB_))) ?hg ?ho ?hn ?hr ?_; (case ho => rfl); (case hg => rfl); (case hn => rfl); (case hr => first | (go_simp; done) | (go_simp; rfl)); intro dA hw; have bR : Aside0 (Kd.V Kd.string 9 dA w.heap.size (fun k_ => (aJ k_ ∨ w.heap.size ≤ k_) ∧ k_ ≠ aG ∧ k_ ≠ aE) (.slice aU aH.length aT) aH) := ⟨(by rw [hw]; exact (vm_ (Kd.V_far (p := ⟨aG, 1, none⟩) (Kd.V_mono aD.out (fun k_ hk => (⟨hk, hk.1.2⟩ : _ ∧ k_ ≠ aG))) (fun _ hk => hk.2) (.string nB_)) (fun _ hk => ⟨hk.1.1.1, ⟨hk.1.1.2, hk.1.2⟩⟩)))⟩; have bS : Aside0 (dA.heap[aG]? = some (.cells #[.bool aK, .string nB_, .slice aU aH.length aT, .string aM] 24 (0, 0))) := ⟨(by rw [hw]; exact (bs_ aA.out))⟩; have bT : Aside0 (dA.heap[aE]? = some (.cells #[.bool false, .string nB_, .slice none 0 0, .string nB_] 24 (0, 0))) := ⟨(by rw [hw]; exact (bs_ aC.out))⟩; have bU : Aside0 (Below w.heap.size w dA) := ⟨(by rw [hw]; exact hb_)⟩; clear hw aD aA aC HB; have aD := bR; have aA := bS; have aC := bT; have HB := bU; clear bR bS bT bU; obtain ⟨bX, cL, bY, cM, bZ, cN, b0, cO⟩ := b4_ aA.out) | (refine gc_ 36 ?_; refine gl_ (some 13) Try.func36 #[.agg #[.bool aK, .string nB_, .slice aU aH.length aT, .string aM], .string (⟨#[7]⟩ : ByteArray)] ?_; (with_reducible refine (zqq.calls aK nB_ (fun k_ => ((aJ k_ ∨ w.heap.size ≤ k_) ∧ (k_ ≠ aG ∧ k_ ≠ aE))) _ _ aH aM (⟨#[7]⟩ : ByteArray) a7 a8 a9 bA _ ?side1 A5.out).mono ?_); (case side1 => exact aD.out); rintro e d2 ⟨dY, rfl, bF, hb⟩; refine ⟨_, rfl, ?_⟩; replace aD := q_ (Kd.V_below (vk_ aD.out) hb); have a5 := q_ (Kd.V_lower (Kd.V_mono (ok' := fun k_ => (aJ k_ ∨ w.heap.size ≤ k_) ∧ k_ ≠ aG ∧ k_ ≠ aE) bF (fun k_ hk_ => ⟨Or.elim hk_ (fun hs_ => hs_.1) (fun hn_ => (.inr (Nat.le_trans (y08 hb_) hn_))), Or.elim hk_ (fun hs_ => hs_.2.1) (fun hn_ => (Kd.freshB (bk_ aA.out) k_ hn_)), Or.elim hk_ (fun hs_ => hs_.2.2) (fun hn_ => (Kd.freshB (bk_ aC.out) k_ hn_))⟩)) (y08 hb_)); replace aA := q_ (y0b (bk_ aA.out) hb); replace aC := q_ (y0b (bk_ aC.out) hb); replace HB := q_ (y09 hb_ hb); obtain ⟨b1, cP, b2, cQ, b3, cR, b4, cS⟩ := b4_ aC.out; obtain ⟨bG, bO, dE⟩ := Kd.V_slice a5.out; subst dE))
  refine bodyPost_ret (results_cell_row rfl _ _ aE 24 #[.bool a7, .string a8, .slice bG a9.length bO, .string bA] (0, 0) _ rfl (bs_ aC.out) Try.underlying24 rfl (by kernel_rfl)) rfl ?_
  exact ⟨_, ew_, by (with_reducible repeat (first | apply Kd.V_alloc | apply Kd.V_drewN | apply Kd.V_drew)); exact Kd.V_mono (Kd.V_far (p := ⟨aE, 3, none⟩) (Kd.V_far (p := ⟨aE, 2, none⟩) (Kd.V_far (p := ⟨aE, 1, none⟩) (Kd.V_far (p := ⟨aE, 0, none⟩) (Kd.V_mono a5.out (fun k_ hk => (⟨hk, hk.2.2⟩ : _ ∧ k_ ≠ aE))) (fun _ hk => hk.2) (.bool a7)) (fun _ hk => hk.2) (.string a8)) (fun _ hk => hk.2) (.slice bG a9.length bO)) (fun _ hk => hk.2) (.string bA)) (fun _ hk => hk.1.1), hb_⟩
 rw [if_neg c4] at H
 have dC := df_ c4
 have dD : decide (16 ≤ aH.length) = false := decide_eq_false (by omega)
 clear c4
 obtain ⟨aZ, dT, H⟩ := bq_ H
 (try dsimp only at H)
 by_cases bW : aZ.length < 8796093022208
 rotate_left
 ·rw [if_neg bW] at H
  exact absurd H (by simp)
 rw [if_pos bW] at H
 have bM := q_ bW
 clear bW
 obtain ⟨aV, aY⟩ : ∃ y_ : List ByteArray, y_ = (aZ ++ [a1]) := ⟨_, rfl⟩
 replace H : ((zqq.f aK nB_ aV aM a2).bind fun aN => (some (aN.1, aN.2.1, aN.2.2.1, aN.2.2.2))) = some (r1, r2, r3, r4) := by first | (rw [aY]; with_reducible exact H) | (have dB := (Option.bind_some _ _).symm.trans H; rw [aY]; with_reducible exact dB) | (have dB := (Option.bind_some _ _).symm.trans H; with_reducible exact dB) | with_reducible exact H | (rw [aY]; exact H) | exact H
 have bN := q_ aY
 clear aY
 obtain ⟨⟨bB, bC, bD, bE⟩, dU, H⟩ := bq_ H
 (try dsimp only at H)
 simp only [Option.some.injEq, Prod.mk.injEq] at H
 obtain ⟨rfl, rfl, rfl, rfl⟩ := H
 go_enter Try.func31, Try.ntmps31
 go_wp2_with (first | (refine gd_ 3 ?_; refine bx_ 3 (cs := #[.bool aK, .string a4, .slice aU aH.length aT, .string aM]) 24 ?_; intro aG hg d3 hbox hb; replace aD := q_ (Kd.V_below (Kd.V_elderB (vk_ aD.out) aG (Nat.le_of_eq hg.symm)) hb); have aA := q_ (hbox); have bK := gw_ w hg (y08 hb_); have bI := gw_ w hg (y08 hb_); replace HB := q_ (y09 hb_ hb); clear hb hbox hg) | (refine gd_ 6 ?_; refine bx_ 6 (cs := #[.bool false, .string nB_, .slice none 0 0, .string nB_]) 24 ?_; intro aE hg d4 hbox hb; replace aD := q_ (Kd.V_below (Kd.V_elderB (vk_ aD.out) aE (Nat.le_of_eq hg.symm)) hb); have aC := q_ (hbox); have bL := gw_ w hg (y08 hb_); have bJ := gw_ w hg (y08 hb_); replace HB := q_ (y09 hb_ hb); have aQ := nl_ hg (bk_ aA.out); have aR := ng_ hg (bk_ aA.out); replace aA := q_ (y0b (bk_ aA.out) hb); clear hb hbox hg; have dQ := aQ.out; have dR := aR.out; obtain ⟨b5, cT, b6, cU, b7, cV, b8, cW⟩ := b4_ aA.out) | (refine gc_ 30 ?_; refine gl_ (some 16) Try.func30 #[.slice aU aH.length aT] ?_; (with_reducible refine (zq0.calls _ _ aH aZ _ ?side1 ?side2 dT.out).mono ?_); (case side1 => refine (Kd.V_reads' (e := 9) (base := w.heap.size) (ok := fun k_ => (((aJ k_ ∨ w.heap.size ≤ k_) ∧ k_ ≠ aG) ∧ k_ ≠ aE)) (n := aH.length) (c := aT) ?_).2.2; exact (vm_ (Kd.V_far (p := ⟨aG, 1, none⟩) (Kd.V_mono aD.out (fun k_ hk => (⟨hk, hk.1.2⟩ : _ ∧ k_ ≠ aG))) (fun _ hk => hk.2) (.string nB_)) (fun _ h_ => h_.1))); (case side2 => exact (Kd.V_reads' aD.out).2.1); rintro e d5 ⟨dP, rfl, bF, hb⟩; refine ⟨_, rfl, ?_⟩; replace aD := q_ (Kd.V_elder' (vm_ (Kd.V_far (p := ⟨aG, 1, none⟩) (Kd.V_mono aD.out (fun k_ hk => (⟨hk, hk.1.2⟩ : _ ∧ k_ ≠ aG))) (fun _ hk => hk.2) (.string nB_)) (fun _ h_ => h_.1)) (Kd.R_base bF) hb); have a0 := q_ (Kd.R_lower (Kd.R_newM (M := fun k_ => (w.heap.size ≤ k_)) bF (y08 hb_) (fun k_ h_ => h_)) (y08 hb_)); replace aA := q_ (y0b (g := aG) (o := .cells #[.bool aK, .string nB_, .slice aU aH.length aT, .string aM] 24 (0, 0)) (bs_ aA.out) hb); replace aC := q_ (y0b (g := aE) (o := .cells #[.bool false, .string nB_, .slice none 0 0, .string nB_] 24 (0, 0)) (bs_ aC.out) hb); replace HB := q_ (y09 hb_ hb)) | ((with_reducible refine y11 (b := .append) (xs := #[.tmp 16, .tmp 18]) rfl ?_); at_builtin; refine Kd.R_append Kd.string (w0 := w) w.heap.size rfl (.tmp 16) (.tmp 18) 22 9 (.string ⟨#[]⟩) 16 rfl Try.underlying22 info9 rfl (by decide) (by omega) dP aZ a1 [.string a1] (fun k_ => (w.heap.size ≤ k_)) (fun _ => False) rfl rfl ?aP (fun _ hk => hk.elim) ?aF ?aO ?aB ?aS ?aL ?_; (case aP => exact rfl); (case aB => exact hb_); (case aF => exact (fun k_ hk => (Nat.le_trans (y08 hb_) hk))); (case aO => exact (rm_ a0.out (fun _ hk => hk.1))); (case aS => exact (y08 hb_)); (case aL => have := bM.out; omega); intro dZ d1 ho hb hg hat; rw [← bN.out] at ho; replace aD := q_ (Kd.V_afterv (ok := (fun k_ => (aJ k_ ∨ w.heap.size ≤ k_) ∧ k_ ≠ aG ∧ k_ ≠ aE)) (vm_ aD.out (fun _ hk => ⟨⟨hk.1.1.1, ⟨hk.1.1.2, hk.1.2⟩⟩, hk.2⟩)) hg hat); replace aA := q_ (y0h (bk_ aA.out) hg (Kd.R_ne a0.out aA.out (by decide))); replace aC := q_ (y0h (bk_ aC.out) hg (Kd.R_ne a0.out aC.out (by decide))); replace HB := q_ (hb); have aI := q_ (ho); clear a0; clear ho hb hg hat; obtain ⟨aW, aX, dF⟩ := Kd.R_slice aI.out; subst dF; obtain ⟨b9, cX, cA, cY, cB, cZ, cC, c0⟩ := b4_ aA.out) | ((with_reducible refine y13 (t := 22) (p := 20) rfl ?_); refine y1w (t := 22) (p := 20) (v := ?vo_w26) (w1 := (d1.setCell ⟨aG, 2, none⟩ (.slice aW aV.length aX))) ?hg ?ho ?hn ?hr ?_; (case ho => rfl); (case hg => rfl); (case hn => rfl); (case hr => first | (go_simp; done) | (go_simp; rfl)); intro bV hw; have bR : Aside0 (Kd.V Kd.string 9 bV w.heap.size (fun k_ => (aJ k_ ∨ w.heap.size ≤ k_) ∧ some k_ ≠ (.slice aW aV.length aX : Value).ownBlock ∧ k_ ≠ aG ∧ k_ ≠ aE) (.slice aU aH.length aT) aH) := ⟨(by rw [hw]; exact (vm_ (Kd.V_far (p := ⟨aG, 2, none⟩) (Kd.V_mono aD.out (fun k_ hk => (⟨hk, hk.1.2.1⟩ : _ ∧ k_ ≠ aG))) (fun _ hk => hk.2) (.slice aW aV.length aX)) (fun _ hk => ⟨hk.1.1.1, ⟨hk.1.2, ⟨hk.1.1.2.1, hk.1.1.2.2⟩⟩⟩)))⟩; have bS : Aside0 (Kd.R Kd.string 9 bV w.heap.size (fun k_ => (w.heap.size ≤ k_)) (.slice aW aV.length aX) aV) := ⟨(by rw [hw]; exact (rm_ (Kd.R_far (p := ⟨aG, 2, none⟩) (Kd.R_types aI.out aA.out (by decide)) (fun _ hk => hk.2) (.slice aW aV.length aX)) (fun _ hk => hk.1)))⟩; have bT : Aside0 (bV.heap[aG]? = some (.cells #[.bool aK, .string nB_, .slice aW aV.length aX, .string aM] 24 (0, 0))) := ⟨(by rw [hw]; exact (bs_ aA.out))⟩; have bU : Aside0 (bV.heap[aE]? = some (.cells #[.bool false, .string nB_, .slice none 0 0, .string nB_] 24 (0, 0))) := ⟨(by rw [hw]; exact (bs_ aC.out))⟩; have dS : Aside0 (Below w.heap.size w bV) := ⟨(by rw [hw]; exact hb_)⟩; clear hw aD aI aA aC HB; have aD := bR; have aI := bS; have aA := bT; have aC := bU; have HB := dS; clear bR bS bT bU dS; obtain ⟨cD, c1, cE, c2, cF, c3, cG, c5⟩ := b4_ aA.out) | (refine gc_ 36 ?_; refine gl_ (some 23) Try.func36 #[.agg #[.bool aK, .string nB_, .slice aW aV.length aX, .string aM], .string a2] ?_; (with_reducible refine (zqq.calls aK nB_ (fun k_ => some k_ = (.slice aW aV.length aX : Value).ownBlock) _ _ aV aM a2 bB bC bD bE _ ?side1 dU.out).mono ?_); (case side1 => exact Kd.R_V (Kd.R_tight rfl (Kd.R_types (Kd.R_types (aI.out) aA.out (by decide)) aC.out (by decide)))); rintro e d6 ⟨d0, rfl, bF, hb⟩; refine ⟨_, rfl, ?_⟩; replace aD := q_ (Kd.V_below (vk_ aD.out) hb); have a6 := q_ (Kd.V_lower (Kd.V_mono (ok' := fun k_ => (aJ k_ ∨ w.heap.size ≤ k_) ∧ k_ ≠ aG ∧ k_ ≠ aE) bF (fun k_ hk_ => ⟨Or.elim hk_ (fun hs_ => (.inr (((Kd.R_types (Kd.R_types (aI.out) aA.out (by decide)) aC.out (by decide)).1 k_ hs_.symm).1.1))) (fun hn_ => (.inr (Nat.le_trans (y08 hb_) hn_))), Or.elim hk_ (fun hs_ => ((Kd.R_types (Kd.R_types (aI.out) aA.out (by decide)) aC.out (by decide)).1 k_ hs_.symm).1.2) (fun hn_ => (Kd.freshB (bk_ aA.out) k_ hn_)), Or.elim hk_ (fun hs_ => ((Kd.R_types (Kd.R_types (aI.out) aA.out (by decide)) aC.out (by decide)).1 k_ hs_.symm).2) (fun hn_ => (Kd.freshB (bk_ aC.out) k_ hn_))⟩)) (y08 hb_)); replace aI := q_ (Kd.R_below (rk_ aI.out) hb); replace aA := q_ (y0b (bk_ aA.out) hb); replace aC := q_ (y0b (bk_ aC.out) hb); replace HB := q_ (y09 hb_ hb); obtain ⟨cH, c6, cI, c7, cJ, c8, cK, c9⟩ := b4_ aC.out; obtain ⟨bH, bP, dG⟩ := Kd.V_slice a6.out; subst dG))
 refine bodyPost_ret (results_cell_row rfl _ _ aE 24 #[.bool bB, .string bC, .slice bH bD.length bP, .string bE] (0, 0) _ rfl (bs_ aC.out) Try.underlying24 rfl (by kernel_rfl)) rfl ?_
 exact ⟨_, ew_, by (with_reducible repeat (first | apply Kd.V_alloc | apply Kd.V_drewN | apply Kd.V_drew)); exact Kd.V_mono (Kd.V_far (p := ⟨aE, 3, none⟩) (Kd.V_far (p := ⟨aE, 2, none⟩) (Kd.V_far (p := ⟨aE, 1, none⟩) (Kd.V_far (p := ⟨aE, 0, none⟩) (Kd.V_mono a6.out (fun k_ hk => (⟨hk, hk.2.2⟩ : _ ∧ k_ ≠ aE))) (fun _ hk => hk.2) (.bool bB)) (fun _ hk => hk.2) (.string bC)) (fun _ hk => hk.2) (.slice bH bD.length bP)) (fun _ hk => hk.2) (.string bE)) (fun _ hk => hk.1.1), hb_⟩
end Go.Proofs.Ytgcmhfoegbaaiaa.K
end
section
namespace Go.Proofs.Ytgcmhfoegbaaiaa.K
open Go.RowKit Go.Proofs.YtW.P Go.Proofs.YtW.L
def zqn.f (a0 : Int) : Option (Bool) := if a0 ≥ 32 then (if a0 ≤ 126 then (some true) else (some (a0 == 9))) else (some (a0 == 9))
theorem zqn.calls (a0 : Int) (r : Bool) (w : World) (h : zqn.f a0 = some r) :
    Calls Try.prog 37 #[.int .u8 a0] w fun e w' => e = .returned (.bool r) ∧ Drawn0 w w' := by
  have H : (if a0 ≥ 32 then (if a0 ≤ 126 then (some true) else (some (a0 == 9))) else (some (a0 == 9))) = some r := h
  clear h
  by_cases c2 : a0 ≥ 32
  rotate_left
  · rw [if_neg c2] at H
    have aA := df_ c2
    clear c2
    obtain rfl := Option.some.inj H
    go_enter Try.func37, Try.ntmps37
    go_wp2
    go_ret
    exact ⟨by first | rfl | (simp; done) | (simp [y18]; done) | (simp [*]; done), by repeat (first | exact Drawn0.refl _ | apply Drawn0.step)⟩
  rw [if_pos c2] at H
  have aA := dt_ c2
  clear c2
  by_cases c3 : a0 ≤ 126
  · rw [if_pos c3] at H
    have aB := dt_ c3
    clear c3
    obtain rfl := Option.some.inj H
    go_enter Try.func37, Try.ntmps37
    go_wp2
    go_ret
    exact ⟨by first | rfl | (simp; done) | (simp [y18]; done) | (simp [*]; done), by repeat (first | exact Drawn0.refl _ | apply Drawn0.step)⟩
  rw [if_neg c3] at H
  have aB := df_ c3
  clear c3
  obtain rfl := Option.some.inj H
  go_enter Try.func37, Try.ntmps37
  go_wp2
  go_ret
  exact ⟨by first | rfl | (simp; done) | (simp [y18]; done) | (simp [*]; done), by repeat (first | exact Drawn0.refl _ | apply Drawn0.step)⟩
end Go.Proofs.Ytgcmhfoegbaaiaa.K
end
