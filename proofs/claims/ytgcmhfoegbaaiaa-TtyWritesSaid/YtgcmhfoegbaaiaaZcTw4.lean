/- Lemmas for several laws: what their proofs need of this seat's texts, in one place. -/
import Derived.Test.YtgcmhfoegbaaiaaZcTw3
set_option linter.unusedVariables false
set_option linter.unusedSimpArgs false
set_option linter.unusedSectionVars false
set_option maxHeartbeats 8000000
set_option maxRecDepth 100000
section
namespace Go.Proofs.Ytgcmhfoegbaaiaa.K
open Go.RowKit Go.Proofs.YtW.P Go.Proofs.YtW.L
def zqk.j0 : Nat → ByteArray → Int → Bool → Bool → ByteArray → List ByteArray → ByteArray → Option (Bool × ByteArray × List ByteArray × ByteArray)
  | 0, _, _, _, _, _, _, _ => none
  | k + 1, x5, x16, x17, x135000, x135001, x135002, x135003 => if x17 = true then (if x135001.toList = ([] : List UInt8) then (some (x135000, x135001, x135002, x135003)) else (if 0 ≤ (wrap64 ((x135001.size : Int) - 1)) then (if (wrap64 ((x135001.size : Int) - 1)) ≤ (x135001.size : Int) then ((zqq.f x135000 (x135001.extract 0 ((wrap64 ((x135001.size : Int) - 1)) : Int).toNat) x135002 x135003 (⟨#[8, 32, 8]⟩ : ByteArray)).bind fun bt169 => (some (bt169.1, bt169.2.1, bt169.2.2.1, bt169.2.2.2))) else (none)) else (none))) else (if x16 = 21 then ((zqq.f x135000 nB_ x135002 x135003 (⟨#[94, 85, 13, 10]⟩ : ByteArray)).bind fun bt145 => (some (bt145.1, bt145.2.1, bt145.2.2.1, bt145.2.2.2))) else (if x16 = 13 then (if x135001.size + 1 ≤ 9223372036854775807 then ((zqi.f x135000 x135001 x135002 x135003 (x135001 ++ (⟨#[10]⟩ : ByteArray)) (⟨#[13, 10]⟩ : ByteArray)).bind fun bt151 => (some (bt151.1, bt151.2.1, bt151.2.2.1, bt151.2.2.2))) else (none)) else (if x16 = 10 then (if x135001.size + 1 ≤ 9223372036854775807 then ((zqi.f x135000 x135001 x135002 x135003 (x135001 ++ (⟨#[10]⟩ : ByteArray)) (⟨#[13, 10]⟩ : ByteArray)).bind fun bt157 => (some (bt157.1, bt157.2.1, bt157.2.2.1, bt157.2.2.2))) else (none)) else (if x16 = 4 then ((zqi.f x135000 x135001 x135002 x135003 x135001 nB_).bind fun bt163 => (some (bt163.1, bt163.2.1, bt163.2.2.1, bt163.2.2.2))) else (if 0 < (x5.size : Int) then ((zqn.f (bt x5 0)).bind fun t175 => (if t175 = true then (if (x135001.size : Int) ≥ 79 then ((zqq.f x135000 x135001 x135002 x135003 (⟨#[7]⟩ : ByteArray)).bind fun bt176 => (some (bt176.1, bt176.2.1, bt176.2.2.1, bt176.2.2.2))) else (if x135001.size + x5.size ≤ 9223372036854775807 then ((zqq.f x135000 (x135001 ++ x5) x135002 x135003 x5).bind fun bt182 => (some (bt182.1, bt182.2.1, bt182.2.2.1, bt182.2.2.2))) else (none))) else (some (x135000, x135001, x135002, x135003)))) else (none))))))
def zqk.f (k : Nat) (a0_0 : Bool) (a0_1 : ByteArray) (l0_2 : List ByteArray) (a0_3 : ByteArray) (a1 : Int) : Option (Bool × ByteArray × List ByteArray × ByteArray) := (some (([(a1) % 256] : List Int) : List Int)).bind fun y136 => (if a0_0 = true then ((zqi.f a0_0 a0_1 l0_2 a0_3 (strOfNums y136) nB_).bind fun bt139 => (some (bt139.1, bt139.2.1, bt139.2.2.1, bt139.2.2.2))) else (if 0 < ((strOfNums y136).size : Int) then (if (bt (strOfNums y136) 0) = 8 then (zqk.j0 k (strOfNums y136) (bt (strOfNums y136) 0) ((bt (strOfNums y136) 0) == 8) a0_0 a0_1 l0_2 a0_3) else (zqk.j0 k (strOfNums y136) (bt (strOfNums y136) 0) ((bt (strOfNums y136) 0) == 127) a0_0 a0_1 l0_2 a0_3)) else (none)))
theorem zqk.mono_l : ∀ k, (∀ y0 y1 y2 y3 y4 y5 y6, LeO (zqk.j0 k y0 y1 y2 y3 y4 y5 y6) (zqk.j0 (k + 1) y0 y1 y2 y3 y4 y5 y6))
 | 0 => fun _ _ _ _ _ _ _ r h => by simp [zqk.j0] at h
 | k + 1 => by
  have ih0 := zqk.mono_l k
  ·intro y0 y1 y2 y3 y4 y5 y6
   unfold zqk.j0
   with_reducible repeat' first | apply ih0 | exact LeO.refl _ | exact LeO.none _ | refine LeO.ite ?_ ?_ | refine LeO.bind ?_ (fun _ => ?_)
theorem zqk.mono : ∀ a0 a1 a2 a3 a4 k, LeO (zqk.f k a0 a1 a2 a3 a4) (zqk.f (k + 1) a0 a1 a2 a3 a4) := by
 intro a0 a1 a2 a3 a4 k
 have ih0 := zqk.mono_l k
 unfold zqk.f
 with_reducible repeat' first | apply ih0 | exact LeO.refl _ | exact LeO.none _ | refine LeO.ite ?_ ?_ | refine LeO.bind ?_ (fun _ => ?_)
theorem zqk.calls (k : Nat) (aQ : Bool) (aG : ByteArray) (aK : Nat → Prop) (aM : Option Addr) (aN : Nat) (aH : List ByteArray) (aL : ByteArray) (a1 : Int) (r1 : Bool) (r2 : ByteArray) (r3 : List ByteArray) (r4 : ByteArray) (w : World) (dO : Kd.V Kd.string 9 w w.heap.size (fun k_ => aK k_) (.slice aM aH.length aN) aH) (h : zqk.f k aQ aG aH aL a1 = some (r1, r2, r3, r4)) :
  Calls Try.prog 23 #[.agg #[.bool aQ, .string aG, .slice aM aH.length aN, .string aL], .int .i64 a1] w fun e w' => ∃ v2_ : Value, e = .returned (.agg #[.bool r1, .string r2, v2_, .string r4]) ∧ Kd.V Kd.string 9 w' w.heap.size (fun k_ => (aK k_ ∨ w.heap.size ≤ k_)) v2_ r3 ∧ Below w.heap.size w w' := by
 have k2 := Try.underlying24
 have aO := q_ (show Kd.V Kd.string 9 w w.heap.size (fun k_ => (aK k_ ∨ w.heap.size ≤ k_)) (.slice aM aH.length aN) aH from Kd.V_mono dO (fun k_ hk => .inl hk))
 have HB := q_ (Below.refl w.heap.size w)
 have H : ((some (([(a1) % 256] : List Int) : List Int)).bind fun aE => (if aQ = true then ((zqi.f aQ aG aH aL (strOfNums aE) nB_).bind fun aP => (some (aP.1, aP.2.1, aP.2.2.1, aP.2.2.2))) else (if 0 < ((strOfNums aE).size : Int) then (if (bt (strOfNums aE) 0) = 8 then (zqk.j0 k (strOfNums aE) (bt (strOfNums aE) 0) ((bt (strOfNums aE) 0) == 8) aQ aG aH aL) else (zqk.j0 k (strOfNums aE) (bt (strOfNums aE) 0) ((bt (strOfNums aE) 0) == 127) aQ aG aH aL)) else (none)))) = some (r1, r2, r3, r4) := h
 clear h
 obtain ⟨aE, aW⟩ : ∃ y_ : List Int, y_ = (([(a1) % 256] : List Int)) := ⟨_, rfl⟩
 replace H : (if aQ = true then ((zqi.f aQ aG aH aL (strOfNums aE) nB_).bind fun aP => (some (aP.1, aP.2.1, aP.2.2.1, aP.2.2.2))) else (if 0 < ((strOfNums aE).size : Int) then (if (bt (strOfNums aE) 0) = 8 then (zqk.j0 k (strOfNums aE) (bt (strOfNums aE) 0) ((bt (strOfNums aE) 0) == 8) aQ aG aH aL) else (zqk.j0 k (strOfNums aE) (bt (strOfNums aE) 0) ((bt (strOfNums aE) 0) == 127) aQ aG aH aL)) else (none))) = some (r1, r2, r3, r4) := by first | (rw [aW]; with_reducible exact H) | (have jC := (Option.bind_some _ _).symm.trans H; rw [aW]; with_reducible exact jC) | (have jC := (Option.bind_some _ _).symm.trans H; with_reducible exact jC) | with_reducible exact H | (rw [aW]; exact H) | exact H
 have a3 := q_ aW
 clear aW
 by_cases c3 : aQ = true
 ·subst c3
  rw [if_pos rfl] at H
  obtain ⟨⟨bM, bN, bO, bP⟩, A4, H⟩ := bq_ H
  (try dsimp only at H)
  simp only [Option.some.injEq, Prod.mk.injEq] at H
  obtain ⟨rfl, rfl, rfl, rfl⟩ := H
  go_enter Try.func23, Try.ntmps23
  go_wp2_with (first | (refine gd_ 2 ?_; refine bx_ 2 (cs := #[.bool true, .string aG, .slice aM aH.length aN, .string aL]) 24 ?_; intro aF hg w5 hbox hb; replace aO := q_ (Kd.V_below (Kd.V_elderB (vk_ aO.out) aF (Nat.le_of_eq hg.symm)) hb); have aC := q_ (hbox); have cV := gw_ w hg (y08 hb_); have cT := gw_ w hg (y08 hb_); replace HB := q_ (y09 hb_ hb); clear hb hbox hg) | (refine gd_ 4 ?_; refine bx_ 4 (cs := #[.bool false, .string nB_, .slice none 0 0, .string nB_]) 24 ?_; intro aB hg w6 hbox hb; replace aO := q_ (Kd.V_below (Kd.V_elderB (vk_ aO.out) aB (Nat.le_of_eq hg.symm)) hb); have aD := q_ (hbox); have cW := gw_ w hg (y08 hb_); have cU := gw_ w hg (y08 hb_); replace HB := q_ (y09 hb_ hb); have aI := nl_ hg (bk_ aC.out); have aJ := ng_ hg (bk_ aC.out); replace aC := q_ (y0b (bk_ aC.out) hb); clear hb hbox hg) | (refine gd_ 8 ?_; refine Kd.R_lit (Kd.int .u8) _ 5 ?hg (N := 8) ?hd (xs := ([(a1) % 256] : List Int)) (inner := [.int .u8 ((a1) % 256)]) (ok := fun _ => True) (okp := fun _ => True) ?hr ?hp (fun _ hk => hk) trivial (Below.refl _ _) (Nat.le_refl _) (by simp) ?_; (case hd => rfl); (case hg => rfl); (case hr => first | (go_simp; done) | (go_simp; rfl)); (case hp => exact (Reps.one (show Kd.M (Kd.int .u8) _ _ _ ((a1) % 256) [.int .u8 ((a1) % 256)] from rfl) (Reps.none _ _))); intro cI w7 cK hb hg_ hnew_; clear hg_ hnew_; (first | rw [← a3.out] at cK | (simp only [Int.reduceToNat] at cK; rw [← a3.out] at cK)); replace aO := q_ (Kd.V_elder' (vk_ aO.out) (Kd.R_base cK) hb); have aS := q_ (Kd.R_lower (Kd.R_newM (M := fun k_ => (w.heap.size ≤ k_)) cK (y08 hb_) (fun k_ h_ => h_)) (y08 hb_)); replace aC := q_ (y0b (bk_ aC.out) hb); replace aD := q_ (y0b (bk_ aD.out) hb); replace HB := q_ (y09 hb_ hb); clear hb cK; have k1 := y1g (P := Try.prog) Try.underlying47 Try.underlying5 Try.underlying9 (Kd.own_of_R aS.out); have j6 := aI.out; have kH := aJ.out; obtain ⟨dW, gK, dX, gL, dY, gM, dZ, gN⟩ := b4_ aC.out) | (refine gc_ 31 ?_; refine gl_ (some 14) Try.func31 #[.agg #[.bool true, .string aG, .slice aM aH.length aN, .string aL], .string (strOfNums aE), .string nB_] ?_; (with_reducible refine (zqi.calls true aG (fun k_ => ((((aK k_ ∨ w.heap.size ≤ k_) ∧ k_ ≠ aF) ∧ k_ ≠ aB) ∧ some k_ ≠ (cI : Value).ownBlock)) _ _ aH aL (strOfNums aE) nB_ bM bN bO bP _ ?side1 A4.out).mono ?_); (case side1 => exact aO.out); rintro e lF ⟨k6, rfl, a2, hb⟩; refine ⟨_, rfl, ?_⟩; replace aO := q_ (Kd.V_below (vk_ aO.out) hb); have a6 := q_ (Kd.V_lower (Kd.V_mono (ok' := fun k_ => (aK k_ ∨ w.heap.size ≤ k_) ∧ some k_ ≠ (cI : Value).ownBlock ∧ k_ ≠ aF ∧ k_ ≠ aB) a2 (fun k_ hk_ => ⟨Or.elim hk_ (fun hs_ => hs_.1.1.1) (fun hn_ => (.inr (Nat.le_trans (y08 hb_) hn_))), Or.elim hk_ (fun hs_ => hs_.2) (fun hn_ => (Kd.fresh' (Kd.R_lt (rk_ aS.out)) k_ hn_)), Or.elim hk_ (fun hs_ => hs_.1.1.2) (fun hn_ => (Kd.freshB (bk_ aC.out) k_ hn_)), Or.elim hk_ (fun hs_ => hs_.1.2) (fun hn_ => (Kd.freshB (bk_ aD.out) k_ hn_))⟩)) (y08 hb_)); replace aS := q_ (Kd.R_below (rk_ aS.out) hb); replace aC := q_ (y0b (bk_ aC.out) hb); replace aD := q_ (y0b (bk_ aD.out) hb); replace HB := q_ (y09 hb_ hb); obtain ⟨d0, gO, d1, gP, d2, gQ, d3, gR⟩ := b4_ aD.out; obtain ⟨cL, dG, jD⟩ := Kd.V_slice a6.out; subst jD))
  refine bodyPost_ret (results_cell_row rfl _ _ aB 24 #[.bool bM, .string bN, .slice cL bO.length dG, .string bP] (0, 0) _ rfl (bs_ aD.out) Try.underlying24 rfl (by kernel_rfl)) rfl ?_
  exact ⟨_, ew_, by (with_reducible repeat (first | apply Kd.V_alloc | apply Kd.V_drewN | apply Kd.V_drew)); exact Kd.V_mono (Kd.V_far (p := ⟨aB, 3, none⟩) (Kd.V_far (p := ⟨aB, 2, none⟩) (Kd.V_far (p := ⟨aB, 1, none⟩) (Kd.V_far (p := ⟨aB, 0, none⟩) (Kd.V_mono a6.out (fun k_ hk => (⟨hk, hk.2.2.2⟩ : _ ∧ k_ ≠ aB))) (fun _ hk => hk.2) (.bool bM)) (fun _ hk => hk.2) (.string bN)) (fun _ hk => hk.2) (.slice cL bO.length dG)) (fun _ hk => hk.2) (.string bP)) (fun _ hk => hk.1.1), hb_⟩
 replace c3 := Bool.eq_false_iff.mpr c3
 subst c3
 rw [if_neg (show ¬ (false = true) by decide)] at H
 by_cases dS : 0 < ((strOfNums aE).size : Int)
 rotate_left
 ·rw [if_neg dS] at H
  exact absurd H (by simp)
 rw [if_pos dS] at H
 have jN := dt_ dS
 have jO : decide (0 < (strOfNums aE).size) = true := decide_eq_true (by omega)
 clear dS
 have bF := q_ H
 clear H
 go_enter Try.func23, Try.ntmps23
 go_upto_if 17 with (first | (refine gd_ 2 ?_; refine bx_ 2 (cs := #[.bool false, .string aG, .slice aM aH.length aN, .string aL]) 24 ?_; intro aF hg lG hbox hb; replace aO := q_ (Kd.V_below (Kd.V_elderB (vk_ aO.out) aF (Nat.le_of_eq hg.symm)) hb); have aC := q_ (hbox); have cV := gw_ w hg (y08 hb_); have cT := gw_ w hg (y08 hb_); replace HB := q_ (y09 hb_ hb); clear hb hbox hg) | (refine gd_ 4 ?_; refine bx_ 4 (cs := #[.bool false, .string nB_, .slice none 0 0, .string nB_]) 24 ?_; intro aB hg lH hbox hb; replace aO := q_ (Kd.V_below (Kd.V_elderB (vk_ aO.out) aB (Nat.le_of_eq hg.symm)) hb); have aD := q_ (hbox); have cW := gw_ w hg (y08 hb_); have cU := gw_ w hg (y08 hb_); replace HB := q_ (y09 hb_ hb); have aI := nl_ hg (bk_ aC.out); have aJ := ng_ hg (bk_ aC.out); replace aC := q_ (y0b (bk_ aC.out) hb); clear hb hbox hg) | (refine gd_ 8 ?_; refine Kd.R_lit (Kd.int .u8) _ 5 ?hg (N := 8) ?hd (xs := ([(a1) % 256] : List Int)) (inner := [.int .u8 ((a1) % 256)]) (ok := fun _ => True) (okp := fun _ => True) ?hr ?hp (fun _ hk => hk) trivial (Below.refl _ _) (Nat.le_refl _) (by simp) ?_; (case hd => rfl); (case hg => rfl); (case hr => first | (go_simp; done) | (go_simp; rfl)); (case hp => exact (Reps.one (show Kd.M (Kd.int .u8) _ _ _ ((a1) % 256) [.int .u8 ((a1) % 256)] from rfl) (Reps.none _ _))); intro cI lI a5 hb hg_ hnew_; clear hg_ hnew_; (first | rw [← a3.out] at a5 | (simp only [Int.reduceToNat] at a5; rw [← a3.out] at a5)); replace aO := q_ (Kd.V_elder' (vk_ aO.out) (Kd.R_base a5) hb); have aS := q_ (Kd.R_lower (Kd.R_newM (M := fun k_ => (w.heap.size ≤ k_)) a5 (y08 hb_) (fun k_ h_ => h_)) (y08 hb_)); replace aC := q_ (y0b (bk_ aC.out) hb); replace aD := q_ (y0b (bk_ aD.out) hb); replace HB := q_ (y09 hb_ hb); clear hb a5; have j5 := y1g (P := Try.prog) Try.underlying47 Try.underlying5 Try.underlying9 (Kd.own_of_R aS.out); have j7 := aI.out; have kI := aJ.out; obtain ⟨d4, gS, d5, gT, d6, gU, d7, gV⟩ := b4_ aC.out; have k4 : 0 ≤ (0 : Int) := (by omega); have kS : 0 < (strOfNums aE).size := (by have : (0 : Int) < ((strOfNums aE).size : Int) := oa_; omega); have k3 : ∀ h : 0 < (strOfNums aE).size, (((strOfNums aE)[0]'h).toNat : Int) = bt (strOfNums aE) 0 := y0q (strOfNums aE) 0; clear k4; have k5 : (0 < ((strOfNums aE).size : Int)) = True := eq_true (oa_); replace kS := eq_true kS))
 (try simp only [Act.put, List.setIfInBounds_toArray, List.set_cons_zero, List.set_cons_succ])
 go_cut [17] (fun lB wc => ∃ (kq : Nat) (aT : Bool), lB = .bool aT ∧ Aside0 (zqk.j0 kq (strOfNums aE) (bt (strOfNums aE) 0) aT false aG aH aL = some (r1, r2, r3, r4)) ∧ Aside0 (kq ≤ k) ∧ Aside0 (Kd.V Kd.string 9 wc w.heap.size (fun k_ => (aK k_ ∨ w.heap.size ≤ k_) ∧ k_ ≠ aF ∧ k_ ≠ aB) (.slice aM aH.length aN) aH) ∧ Aside0 (wc.heap[aF]? = some (.cells #[.bool false, .string aG, (.slice aM aH.length aN), .string aL] 24 (0, 0))) ∧ Aside0 (wc.heap[aB]? = some (.cells #[.bool false, .string nB_, (.slice none 0 0), .string nB_] 24 (0, 0))) ∧ Aside0 (Below w.heap.size w wc))
 case first =>
  have H := bF.out
  clear bF
  by_cases bG : (bt (strOfNums aE) 0) = 8
  rotate_left
  ·rw [if_neg bG] at H
   have aU := ef_ bG
   have cX := nt_ bG
   (first | rw [aU] | (simp only [y17, y15]; rw [aU]) | skip)
   have H' := q_ H
   clear H
   go_wp2
   go_meet
   case rel => exact ⟨_, (((bt (strOfNums aE) 0) == 127)), cl_, H', ⟨oz_⟩, ⟨vm_ aO.out (fun _ hk => ⟨hk.1.1.1, ⟨hk.1.1.2, hk.1.2⟩⟩)⟩, ⟨bk_ aC.out⟩, ⟨bk_ aD.out⟩, ⟨hb_⟩⟩
  rw [if_pos bG] at H
  have aU := et_ bG
  have cX := nf_ bG
  clear bG
  (first | rw [aU] | (simp only [y17, y15]; rw [aU]) | skip)
  have H' := q_ H
  clear H
  go_wp2
  go_meet
  case rel => exact ⟨_, (((bt (strOfNums aE) 0) == 8)), cl_, H', ⟨oz_⟩, ⟨vm_ aO.out (fun _ hk => ⟨hk.1.1.1, ⟨hk.1.1.2, hk.1.2⟩⟩)⟩, ⟨bk_ aC.out⟩, ⟨bk_ aD.out⟩, ⟨hb_⟩⟩
 clear bF
 obtain ⟨kq, aT, rfl, HA, k0, aA, aC, aD, HB⟩ := hcut
 obtain _ | kj16 := kq
 ·exact nn_ HA
 have H := HA.out
 clear HA
 simp only [zqk.j0] at H
 by_cases dT : aT = true
 ·subst dT
  rw [if_pos rfl] at H
  by_cases bH : aG.toList = ([] : List UInt8)
  ·rw [if_pos bH] at H
   have cY := et_ bH
   have cZ := nf_ bH
   clear bH
   simp only [Option.some.injEq, Prod.mk.injEq] at H
   obtain ⟨rfl, rfl, rfl, rfl⟩ := H
   have j8 := aI.out
   have kJ := aJ.out
   obtain ⟨d8, gW, d9, gX, eA, gY, eB, gZ⟩ := b4_ aC.out
   obtain ⟨eC, g0, eD, g1, eE, g2, eF, g3⟩ := b4_ aD.out
   go_wp2
   refine bodyPost_ret (results_cell_row rfl _ _ aB 24 #[.bool false, .string aG, .slice aM aH.length aN, .string aL] (0, 0) _ rfl (bs_ aD.out) Try.underlying24 rfl (by kernel_rfl)) rfl ?_
   exact ⟨_, ew_, by (with_reducible repeat (first | apply Kd.V_alloc | apply Kd.V_drewN | apply Kd.V_drew)); exact Kd.V_mono (Kd.V_far (p := ⟨aB, 3, none⟩) (Kd.V_far (p := ⟨aB, 2, none⟩) (Kd.V_far (p := ⟨aB, 1, none⟩) (Kd.V_far (p := ⟨aB, 0, none⟩) (Kd.V_mono aA.out (fun k_ hk => (⟨hk, hk.2.2⟩ : _ ∧ k_ ≠ aB))) (fun _ hk => hk.2) (.bool false)) (fun _ hk => hk.2) (.string aG)) (fun _ hk => hk.2) (.slice aM aH.length aN)) (fun _ hk => hk.2) (.string aL)) (fun _ hk => hk.1.1), hb_⟩
  rw [if_neg bH] at H
  have cY := ef_ bH
  have cZ := nt_ bH
  obtain ⟨aR, aV⟩ : ∃ j_ : Int, (wrap64 ((aG.size : Int) - 1)) = j_ := ⟨_, rfl⟩
  replace H : (if 0 ≤ (aR) then (if (aR) ≤ (aG.size : Int) then ((zqq.f false (aG.extract 0 ((aR) : Int).toNat) aH aL (⟨#[8, 32, 8]⟩ : ByteArray)).bind fun a4 => (some (a4.1, a4.2.1, a4.2.2.1, a4.2.2.2))) else (none)) else (none)) = some (r1, r2, r3, r4) := by first | (rw [aV] at H; exact H) | (simp only [aV] at H ⊢; exact H)
  have jL : (IntKind.i64.wrap ((aG.size : Int) - 1)) = aR := (y17 _).trans aV
  by_cases c0 : 0 ≤ (aR)
  rotate_left
  ·rw [if_neg c0] at H
   exact absurd H (by simp)
  rw [if_pos c0] at H
  have jP := eq_true c0
  have jQ := dt_ c0
  clear c0
  by_cases c1 : (aR) ≤ (aG.size : Int)
  rotate_left
  ·rw [if_neg c1] at H
   exact absurd H (by simp)
  rw [if_pos c1] at H
  have jR := eq_true c1
  have jS := dt_ c1
  clear c1
  obtain ⟨⟨b6, b7, b8, b9⟩, kT, H⟩ := bq_ H
  (try dsimp only at H)
  simp only [Option.some.injEq, Prod.mk.injEq] at H
  obtain ⟨rfl, rfl, rfl, rfl⟩ := H
  have j9 := aI.out
  have kK := aJ.out
  obtain ⟨eG, g4, eH, g5, eI, g6, eJ, g7⟩ := b4_ aC.out
  go_wp2_with (first | ((with_reducible refine y13 (t := 9) (p := 39) rfl ?_); refine y1w (t := 9) (p := 39) (v := ?vo_w37) (w1 := (wc.setCell ⟨aF, 1, none⟩ (.string (aG.extract 0 ((aR) : Int).toNat)))) ?hg ?ho ?hn ?hr ?_; (case ho => rfl); (case hg => rfl); (case hn => rfl); (case hr => first | (go_simp; done) | (go_simp; rfl)); intro i8 hw; have aX : Aside0 (Kd.V Kd.string 9 i8 w.heap.size (fun k_ => (aK k_ ∨ w.heap.size ≤ k_) ∧ k_ ≠ aF ∧ k_ ≠ aB) (.slice aM aH.length aN) aH) := ⟨(by rw [hw]; exact (vm_ (Kd.V_far (p := ⟨aF, 1, none⟩) (Kd.V_mono aA.out (fun k_ hk => (⟨hk, hk.2.1⟩ : _ ∧ k_ ≠ aF))) (fun _ hk => hk.2) (.string (aG.extract 0 ((aR) : Int).toNat))) (fun _ hk => ⟨hk.1.1, ⟨hk.1.2.1, hk.1.2.2⟩⟩)))⟩; have aY : Aside0 (i8.heap[aF]? = some (.cells #[.bool false, .string (aG.extract 0 ((aR) : Int).toNat), .slice aM aH.length aN, .string aL] 24 (0, 0))) := ⟨(by rw [hw]; exact (bs_ aC.out))⟩; have aZ : Aside0 (i8.heap[aB]? = some (.cells #[.bool false, .string nB_, .slice none 0 0, .string nB_] 24 (0, 0))) := ⟨(by rw [hw]; exact (bs_ aD.out))⟩; have a0 : Aside0 (Below w.heap.size w i8) := ⟨(by rw [hw]; exact hb_)⟩; clear hw aA aC aD HB; have aA := aX; have aC := aY; have aD := aZ; have HB := a0; clear aX aY aZ a0; obtain ⟨eK, g8, eL, g9, eM, hA, eN, hB⟩ := b4_ aC.out) | (refine gc_ 36 ?_; refine goesL_ (some 41) rfl rfl Try.func36 (by kernel_rfl) rfl #[.agg #[.bool false, .string (aG.extract 0 ((aR) : Int).toNat), .slice aM aH.length aN, .string aL], .string (⟨#[8, 32, 8]⟩ : ByteArray)] rfl (by (try simp only [List.map_toArray, List.map_cons, List.map_nil]); first | done | (simp only [aV]; rfl) | rfl | (simp only [List.length_drop, List.length_take]; rfl) | (simp only [ByteArray.size_extract, Nat.sub_zero]; rfl) | (simp only [ByteArray.size_extract, Nat.sub_zero]; done) | ((try go_simp); (try simp only [ByteArray.size_extract, Nat.sub_zero]); (try simp only [eq_iff_iff, iff_true] at *); repeat (first | rfl | omega | congr 1))) ?_; (with_reducible refine (zqq.calls false (aG.extract 0 ((aR) : Int).toNat) (fun k_ => ((aK k_ ∨ w.heap.size ≤ k_) ∧ (k_ ≠ aF ∧ k_ ≠ aB))) _ _ aH aL (⟨#[8, 32, 8]⟩ : ByteArray) b6 b7 b8 b9 _ ?side1 kT.out).mono ?_); (case side1 => exact aA.out); rintro e lJ ⟨lC, rfl, a2, hb⟩; refine ⟨_, rfl, ?_⟩; replace aA := q_ (Kd.V_below (vk_ aA.out) hb); have bB := q_ (Kd.V_lower (Kd.V_mono (ok' := fun k_ => (aK k_ ∨ w.heap.size ≤ k_) ∧ k_ ≠ aF ∧ k_ ≠ aB) a2 (fun k_ hk_ => ⟨Or.elim hk_ (fun hs_ => hs_.1) (fun hn_ => (.inr (Nat.le_trans (y08 hb_) hn_))), Or.elim hk_ (fun hs_ => hs_.2.1) (fun hn_ => (Kd.freshB (bk_ aC.out) k_ hn_)), Or.elim hk_ (fun hs_ => hs_.2.2) (fun hn_ => (Kd.freshB (bk_ aD.out) k_ hn_))⟩)) (y08 hb_)); replace aC := q_ (y0b (bk_ aC.out) hb); replace aD := q_ (y0b (bk_ aD.out) hb); replace HB := q_ (y09 hb_ hb); obtain ⟨eO, hC, eP, hD, eQ, hE, eR, hF⟩ := b4_ aD.out; obtain ⟨cM, dH, jE⟩ := Kd.V_slice bB.out; subst jE))
  refine bodyPost_ret (results_cell_row rfl _ _ aB 24 #[.bool b6, .string b7, .slice cM b8.length dH, .string b9] (0, 0) _ rfl (bs_ aD.out) Try.underlying24 rfl (by kernel_rfl)) rfl ?_
  exact ⟨_, by first | rfl | (simp [y0z, y10] <;> rfl) | (simp only [← aV]; first | rfl | (simp [y0z, y10] <;> rfl)) | (simp [*, y0z, y10] <;> rfl), by (with_reducible repeat (first | apply Kd.V_alloc | apply Kd.V_drewN | apply Kd.V_drew)); exact Kd.V_mono (Kd.V_far (p := ⟨aB, 3, none⟩) (Kd.V_far (p := ⟨aB, 2, none⟩) (Kd.V_far (p := ⟨aB, 1, none⟩) (Kd.V_far (p := ⟨aB, 0, none⟩) (Kd.V_mono bB.out (fun k_ hk => (⟨hk, hk.2.2⟩ : _ ∧ k_ ≠ aB))) (fun _ hk => hk.2) (.bool b6)) (fun _ hk => hk.2) (.string b7)) (fun _ hk => hk.2) (.slice cM b8.length dH)) (fun _ hk => hk.2) (.string b9)) (fun _ hk => hk.1.1), hb_⟩
 replace dT := Bool.eq_false_iff.mpr dT
 subst dT
 rw [if_neg (show ¬ (false = true) by decide)] at H
 by_cases bI : (bt (strOfNums aE) 0) = 21
 ·rw [if_pos bI] at H
  have c2 := et_ bI
  have c4 := nf_ bI
  clear bI
  obtain ⟨⟨bQ, bR, bS, bT⟩, kU, H⟩ := bq_ H
  (try dsimp only at H)
  simp only [Option.some.injEq, Prod.mk.injEq] at H
  obtain ⟨rfl, rfl, rfl, rfl⟩ := H
  have kA := aI.out
  have kL := aJ.out
  obtain ⟨eS, hG, eT, hH, eU, hI, eV, hJ⟩ := b4_ aC.out
  go_wp2_with (first | ((with_reducible refine y13 (t := 9) (p := 42) rfl ?_); refine y1w (t := 9) (p := 42) (v := ?vo_w46) (w1 := (wc.setCell ⟨aF, 1, none⟩ (.string nB_))) ?hg ?ho ?hn ?hr ?_; (case ho => rfl); (case hg => rfl); (case hn => rfl); (case hr => first | (go_simp; done) | (go_simp; rfl)); intro i9 hw; have aX : Aside0 (Kd.V Kd.string 9 i9 w.heap.size (fun k_ => (aK k_ ∨ w.heap.size ≤ k_) ∧ k_ ≠ aF ∧ k_ ≠ aB) (.slice aM aH.length aN) aH) := ⟨(by rw [hw]; exact (vm_ (Kd.V_far (p := ⟨aF, 1, none⟩) (Kd.V_mono aA.out (fun k_ hk => (⟨hk, hk.2.1⟩ : _ ∧ k_ ≠ aF))) (fun _ hk => hk.2) (.string nB_)) (fun _ hk => ⟨hk.1.1, ⟨hk.1.2.1, hk.1.2.2⟩⟩)))⟩; have aY : Aside0 (i9.heap[aF]? = some (.cells #[.bool false, .string nB_, .slice aM aH.length aN, .string aL] 24 (0, 0))) := ⟨(by rw [hw]; exact (bs_ aC.out))⟩; have aZ : Aside0 (i9.heap[aB]? = some (.cells #[.bool false, .string nB_, .slice none 0 0, .string nB_] 24 (0, 0))) := ⟨(by rw [hw]; exact (bs_ aD.out))⟩; have a0 : Aside0 (Below w.heap.size w i9) := ⟨(by rw [hw]; exact hb_)⟩; clear hw aA aC aD HB; have aA := aX; have aC := aY; have aD := aZ; have HB := a0; clear aX aY aZ a0; obtain ⟨eW, hK, eX, hL, eY, hM, eZ, hN⟩ := b4_ aC.out) | (refine gc_ 36 ?_; refine gl_ (some 44) Try.func36 #[.agg #[.bool false, .string nB_, .slice aM aH.length aN, .string aL], .string (⟨#[94, 85, 13, 10]⟩ : ByteArray)] ?_; (with_reducible refine (zqq.calls false nB_ (fun k_ => ((aK k_ ∨ w.heap.size ≤ k_) ∧ (k_ ≠ aF ∧ k_ ≠ aB))) _ _ aH aL (⟨#[94, 85, 13, 10]⟩ : ByteArray) bQ bR bS bT _ ?side1 kU.out).mono ?_); (case side1 => exact aA.out); rintro e lK ⟨k7, rfl, a2, hb⟩; refine ⟨_, rfl, ?_⟩; replace aA := q_ (Kd.V_below (vk_ aA.out) hb); have a7 := q_ (Kd.V_lower (Kd.V_mono (ok' := fun k_ => (aK k_ ∨ w.heap.size ≤ k_) ∧ k_ ≠ aF ∧ k_ ≠ aB) a2 (fun k_ hk_ => ⟨Or.elim hk_ (fun hs_ => hs_.1) (fun hn_ => (.inr (Nat.le_trans (y08 hb_) hn_))), Or.elim hk_ (fun hs_ => hs_.2.1) (fun hn_ => (Kd.freshB (bk_ aC.out) k_ hn_)), Or.elim hk_ (fun hs_ => hs_.2.2) (fun hn_ => (Kd.freshB (bk_ aD.out) k_ hn_))⟩)) (y08 hb_)); replace aC := q_ (y0b (bk_ aC.out) hb); replace aD := q_ (y0b (bk_ aD.out) hb); replace HB := q_ (y09 hb_ hb); obtain ⟨e0, hO, e1, hP, e2, hQ, e3, hR⟩ := b4_ aD.out; obtain ⟨cN, dI, jF⟩ := Kd.V_slice a7.out; subst jF))
  refine bodyPost_ret (results_cell_row rfl _ _ aB 24 #[.bool bQ, .string bR, .slice cN bS.length dI, .string bT] (0, 0) _ rfl (bs_ aD.out) Try.underlying24 rfl (by kernel_rfl)) rfl ?_
  exact ⟨_, ew_, by (with_reducible repeat (first | apply Kd.V_alloc | apply Kd.V_drewN | apply Kd.V_drew)); exact Kd.V_mono (Kd.V_far (p := ⟨aB, 3, none⟩) (Kd.V_far (p := ⟨aB, 2, none⟩) (Kd.V_far (p := ⟨aB, 1, none⟩) (Kd.V_far (p := ⟨aB, 0, none⟩) (Kd.V_mono a7.out (fun k_ hk => (⟨hk, hk.2.2⟩ : _ ∧ k_ ≠ aB))) (fun _ hk => hk.2) (.bool bQ)) (fun _ hk => hk.2) (.string bR)) (fun _ hk => hk.2) (.slice cN bS.length dI)) (fun _ hk => hk.2) (.string bT)) (fun _ hk => hk.1.1), hb_⟩
 rw [if_neg bI] at H
 have c2 := ef_ bI
 have c4 := nt_ bI
 by_cases bJ : (bt (strOfNums aE) 0) = 13
 ·rw [if_pos bJ] at H
  have c5 := et_ bJ
  have c6 := nf_ bJ
  clear bJ
  by_cases c7 : aG.size + 1 ≤ 9223372036854775807
  rotate_left
  ·rw [if_neg c7] at H
   exact absurd H (by simp)
  rw [if_pos c7] at H
  have jT := eq_true c7
  have jU := dt_ c7
  try have jV : (9223372036854775807 < aG.size + 1) = False := eq_false (Nat.not_lt.2 c7)
  obtain ⟨⟨bU, bV, bW, bX⟩, kV, H⟩ := bq_ H
  (try dsimp only at H)
  simp only [Option.some.injEq, Prod.mk.injEq] at H
  obtain ⟨rfl, rfl, rfl, rfl⟩ := H
  have kB := aI.out
  have kM := aJ.out
  obtain ⟨e4, hS, e5, hT, e6, hU, e7, hV⟩ := b4_ aC.out
  go_wp2_with (first | (refine gc_ 31 ?_; refine gl_ (some 49) Try.func31 #[.agg #[.bool false, .string aG, .slice aM aH.length aN, .string aL], .string (aG ++ (⟨#[10]⟩ : ByteArray)), .string (⟨#[13, 10]⟩ : ByteArray)] ?_; (with_reducible refine (zqi.calls false aG (fun k_ => ((aK k_ ∨ w.heap.size ≤ k_) ∧ (k_ ≠ aF ∧ k_ ≠ aB))) _ _ aH aL (aG ++ (⟨#[10]⟩ : ByteArray)) (⟨#[13, 10]⟩ : ByteArray) bU bV bW bX _ ?side1 kV.out).mono ?_); (case side1 => exact aA.out); rintro e lL ⟨k8, rfl, a2, hb⟩; refine ⟨_, rfl, ?_⟩; replace aA := q_ (Kd.V_below (vk_ aA.out) hb); have a8 := q_ (Kd.V_lower (Kd.V_mono (ok' := fun k_ => (aK k_ ∨ w.heap.size ≤ k_) ∧ k_ ≠ aF ∧ k_ ≠ aB) a2 (fun k_ hk_ => ⟨Or.elim hk_ (fun hs_ => hs_.1) (fun hn_ => (.inr (Nat.le_trans (y08 hb_) hn_))), Or.elim hk_ (fun hs_ => hs_.2.1) (fun hn_ => (Kd.freshB (bk_ aC.out) k_ hn_)), Or.elim hk_ (fun hs_ => hs_.2.2) (fun hn_ => (Kd.freshB (bk_ aD.out) k_ hn_))⟩)) (y08 hb_)); replace aC := q_ (y0b (bk_ aC.out) hb); replace aD := q_ (y0b (bk_ aD.out) hb); replace HB := q_ (y09 hb_ hb); obtain ⟨e8, hW, e9, hX, fA, hY, fB, hZ⟩ := b4_ aD.out; obtain ⟨cO, dJ, jG⟩ := Kd.V_slice a8.out; subst jG))
  refine bodyPost_ret (results_cell_row rfl _ _ aB 24 #[.bool bU, .string bV, .slice cO bW.length dJ, .string bX] (0, 0) _ rfl (bs_ aD.out) Try.underlying24 rfl (by kernel_rfl)) rfl ?_
  exact ⟨_, ew_, by (with_reducible repeat (first | apply Kd.V_alloc | apply Kd.V_drewN | apply Kd.V_drew)); exact Kd.V_mono (Kd.V_far (p := ⟨aB, 3, none⟩) (Kd.V_far (p := ⟨aB, 2, none⟩) (Kd.V_far (p := ⟨aB, 1, none⟩) (Kd.V_far (p := ⟨aB, 0, none⟩) (Kd.V_mono a8.out (fun k_ hk => (⟨hk, hk.2.2⟩ : _ ∧ k_ ≠ aB))) (fun _ hk => hk.2) (.bool bU)) (fun _ hk => hk.2) (.string bV)) (fun _ hk => hk.2) (.slice cO bW.length dJ)) (fun _ hk => hk.2) (.string bX)) (fun _ hk => hk.1.1), hb_⟩
 rw [if_neg bJ] at H
 have c5 := ef_ bJ
 have c6 := nt_ bJ
 by_cases bK : (bt (strOfNums aE) 0) = 10
 ·rw [if_pos bK] at H
  have c8 := et_ bK
  have c9 := nf_ bK
  clear bK
  by_cases dA : aG.size + 1 ≤ 9223372036854775807
  rotate_left
  ·rw [if_neg dA] at H
   exact absurd H (by simp)
  rw [if_pos dA] at H
  have jW := eq_true dA
  have jX := dt_ dA
  try have jY : (9223372036854775807 < aG.size + 1) = False := eq_false (Nat.not_lt.2 dA)
  obtain ⟨⟨bY, bZ, b0, b1⟩, kW, H⟩ := bq_ H
  (try dsimp only at H)
  simp only [Option.some.injEq, Prod.mk.injEq] at H
  obtain ⟨rfl, rfl, rfl, rfl⟩ := H
  have kC := aI.out
  have kN := aJ.out
  obtain ⟨fC, h0, fD, h1, fE, h2, fF, h3⟩ := b4_ aC.out
  go_wp2_with (first | (refine gc_ 31 ?_; refine gl_ (some 49) Try.func31 #[.agg #[.bool false, .string aG, .slice aM aH.length aN, .string aL], .string (aG ++ (⟨#[10]⟩ : ByteArray)), .string (⟨#[13, 10]⟩ : ByteArray)] ?_; (with_reducible refine (zqi.calls false aG (fun k_ => ((aK k_ ∨ w.heap.size ≤ k_) ∧ (k_ ≠ aF ∧ k_ ≠ aB))) _ _ aH aL (aG ++ (⟨#[10]⟩ : ByteArray)) (⟨#[13, 10]⟩ : ByteArray) bY bZ b0 b1 _ ?side1 kW.out).mono ?_); (case side1 => exact aA.out); rintro e lM ⟨k9, rfl, a2, hb⟩; refine ⟨_, rfl, ?_⟩; replace aA := q_ (Kd.V_below (vk_ aA.out) hb); have a9 := q_ (Kd.V_lower (Kd.V_mono (ok' := fun k_ => (aK k_ ∨ w.heap.size ≤ k_) ∧ k_ ≠ aF ∧ k_ ≠ aB) a2 (fun k_ hk_ => ⟨Or.elim hk_ (fun hs_ => hs_.1) (fun hn_ => (.inr (Nat.le_trans (y08 hb_) hn_))), Or.elim hk_ (fun hs_ => hs_.2.1) (fun hn_ => (Kd.freshB (bk_ aC.out) k_ hn_)), Or.elim hk_ (fun hs_ => hs_.2.2) (fun hn_ => (Kd.freshB (bk_ aD.out) k_ hn_))⟩)) (y08 hb_)); replace aC := q_ (y0b (bk_ aC.out) hb); replace aD := q_ (y0b (bk_ aD.out) hb); replace HB := q_ (y09 hb_ hb); obtain ⟨fG, h4, fH, h5, fI, h6, fJ, h7⟩ := b4_ aD.out; obtain ⟨cP, dK, jH⟩ := Kd.V_slice a9.out; subst jH))
  refine bodyPost_ret (results_cell_row rfl _ _ aB 24 #[.bool bY, .string bZ, .slice cP b0.length dK, .string b1] (0, 0) _ rfl (bs_ aD.out) Try.underlying24 rfl (by kernel_rfl)) rfl ?_
  exact ⟨_, ew_, by (with_reducible repeat (first | apply Kd.V_alloc | apply Kd.V_drewN | apply Kd.V_drew)); exact Kd.V_mono (Kd.V_far (p := ⟨aB, 3, none⟩) (Kd.V_far (p := ⟨aB, 2, none⟩) (Kd.V_far (p := ⟨aB, 1, none⟩) (Kd.V_far (p := ⟨aB, 0, none⟩) (Kd.V_mono a9.out (fun k_ hk => (⟨hk, hk.2.2⟩ : _ ∧ k_ ≠ aB))) (fun _ hk => hk.2) (.bool bY)) (fun _ hk => hk.2) (.string bZ)) (fun _ hk => hk.2) (.slice cP b0.length dK)) (fun _ hk => hk.2) (.string b1)) (fun _ hk => hk.1.1), hb_⟩
 rw [if_neg bK] at H
 have c8 := ef_ bK
 have c9 := nt_ bK
 by_cases bL : (bt (strOfNums aE) 0) = 4
 ·rw [if_pos bL] at H
  have dB := et_ bL
  have dC := nf_ bL
  clear bL
  obtain ⟨⟨b2, b3, b4, b5⟩, kX, H⟩ := bq_ H
  (try dsimp only at H)
  simp only [Option.some.injEq, Prod.mk.injEq] at H
  obtain ⟨rfl, rfl, rfl, rfl⟩ := H
  have kD := aI.out
  have kO := aJ.out
  obtain ⟨fK, h8, fL, h9, fM, iA, fN, iB⟩ := b4_ aC.out
  go_wp2_with (first | (refine gc_ 31 ?_; refine gl_ (some 53) Try.func31 #[.agg #[.bool false, .string aG, .slice aM aH.length aN, .string aL], .string aG, .string nB_] ?_; (with_reducible refine (zqi.calls false aG (fun k_ => ((aK k_ ∨ w.heap.size ≤ k_) ∧ (k_ ≠ aF ∧ k_ ≠ aB))) _ _ aH aL aG nB_ b2 b3 b4 b5 _ ?side1 kX.out).mono ?_); (case side1 => exact aA.out); rintro e lN ⟨lA, rfl, a2, hb⟩; refine ⟨_, rfl, ?_⟩; replace aA := q_ (Kd.V_below (vk_ aA.out) hb); have bA := q_ (Kd.V_lower (Kd.V_mono (ok' := fun k_ => (aK k_ ∨ w.heap.size ≤ k_) ∧ k_ ≠ aF ∧ k_ ≠ aB) a2 (fun k_ hk_ => ⟨Or.elim hk_ (fun hs_ => hs_.1) (fun hn_ => (.inr (Nat.le_trans (y08 hb_) hn_))), Or.elim hk_ (fun hs_ => hs_.2.1) (fun hn_ => (Kd.freshB (bk_ aC.out) k_ hn_)), Or.elim hk_ (fun hs_ => hs_.2.2) (fun hn_ => (Kd.freshB (bk_ aD.out) k_ hn_))⟩)) (y08 hb_)); replace aC := q_ (y0b (bk_ aC.out) hb); replace aD := q_ (y0b (bk_ aD.out) hb); replace HB := q_ (y09 hb_ hb); obtain ⟨fO, iC, fP, iD, fQ, iE, fR, iF⟩ := b4_ aD.out; obtain ⟨cQ, dL, jI⟩ := Kd.V_slice bA.out; subst jI))
  refine bodyPost_ret (results_cell_row rfl _ _ aB 24 #[.bool b2, .string b3, .slice cQ b4.length dL, .string b5] (0, 0) _ rfl (bs_ aD.out) Try.underlying24 rfl (by kernel_rfl)) rfl ?_
  exact ⟨_, ew_, by (with_reducible repeat (first | apply Kd.V_alloc | apply Kd.V_drewN | apply Kd.V_drew)); exact Kd.V_mono (Kd.V_far (p := ⟨aB, 3, none⟩) (Kd.V_far (p := ⟨aB, 2, none⟩) (Kd.V_far (p := ⟨aB, 1, none⟩) (Kd.V_far (p := ⟨aB, 0, none⟩) (Kd.V_mono bA.out (fun k_ hk => (⟨hk, hk.2.2⟩ : _ ∧ k_ ≠ aB))) (fun _ hk => hk.2) (.bool b2)) (fun _ hk => hk.2) (.string b3)) (fun _ hk => hk.2) (.slice cQ b4.length dL)) (fun _ hk => hk.2) (.string b5)) (fun _ hk => hk.1.1), hb_⟩
 rw [if_neg bL] at H
 have dB := ef_ bL
 have dC := nt_ bL
 by_cases dU : 0 < ((strOfNums aE).size : Int)
 rotate_left
 ·rw [if_neg dU] at H
  exact absurd H (by simp)
 rw [if_pos dU] at H
 have jZ := dt_ dU
 have j1 : decide (0 < (strOfNums aE).size) = true := decide_eq_true (by omega)
 clear dU
 obtain ⟨jM, jB, H⟩ := bq_ H
 (try dsimp only at H)
 by_cases dV : jM = true
 rotate_left
 ·replace dV := Bool.eq_false_iff.mpr dV
  subst dV
  rw [if_neg (show ¬ (false = true) by decide)] at H
  simp only [Option.some.injEq, Prod.mk.injEq] at H
  obtain ⟨rfl, rfl, rfl, rfl⟩ := H
  have dQ : 0 ≤ (0 : Int) := (by omega)
  have bE : 0 < (strOfNums aE).size := (by have : (0 : Int) < ((strOfNums aE).size : Int) := oa_; omega)
  have dP : ∀ h : 0 < (strOfNums aE).size, (((strOfNums aE)[0]'h).toNat : Int) = bt (strOfNums aE) 0 := y0q (strOfNums aE) 0
  clear dQ
  have dR : (0 < ((strOfNums aE).size : Int)) = True := eq_true (oa_)
  replace bE := eq_true bE
  go_wp2_with (first | (refine gc_ 37 ?_; refine gl_ (some 57) Try.func37 #[.int .u8 (bt (strOfNums aE) 0)] ?_; (with_reducible refine (zqn.calls (bt (strOfNums aE) 0) false _ jB.out).mono ?_); rintro e w' ⟨rfl, ⟨nd, rfl⟩⟩; refine ⟨_, rfl, ?_⟩; (try (rw [y0x wc]; generalize hq_ : World.drewN wc _ = wc; have aX : Aside0 (Kd.V Kd.string 9 wc w.heap.size (fun k_ => (aK k_ ∨ w.heap.size ≤ k_) ∧ k_ ≠ aF ∧ k_ ≠ aB) (.slice aM aH.length aN) aH) := ⟨by rw [← hq_]; exact (vk_ aA.out)⟩; have aY : Aside0 (wc.heap[aF]? = some (.cells #[.bool false, .string aG, .slice aM aH.length aN, .string aL] 24 (0, 0))) := ⟨by rw [← hq_]; exact (bk_ aC.out)⟩; have aZ : Aside0 (wc.heap[aB]? = some (.cells #[.bool false, .string nB_, .slice none 0 0, .string nB_] 24 (0, 0))) := ⟨by rw [← hq_]; exact (bk_ aD.out)⟩; have a0 : Aside0 (Below w.heap.size w wc) := ⟨by rw [← hq_]; exact hb_⟩; clear aA aC aD HB hq_; have aA := aX; have aC := aY; have aD := aZ; have HB := a0; clear aX aY aZ a0)); have kG := aI.out; have kR := aJ.out; obtain ⟨gC, i0, gD, i1, gE, i2, gF, i3⟩ := b4_ aC.out; obtain ⟨gG, i4, gH, i5, gI, i6, gJ, i7⟩ := b4_ aD.out))
  refine bodyPost_ret (results_cell_row rfl _ _ aB 24 #[.bool false, .string aG, .slice aM aH.length aN, .string aL] (0, 0) _ rfl (bs_ aD.out) Try.underlying24 rfl (by kernel_rfl)) rfl ?_
  exact ⟨_, ew_, by (with_reducible repeat (first | apply Kd.V_alloc | apply Kd.V_drewN | apply Kd.V_drew)); exact Kd.V_mono (Kd.V_far (p := ⟨aB, 3, none⟩) (Kd.V_far (p := ⟨aB, 2, none⟩) (Kd.V_far (p := ⟨aB, 1, none⟩) (Kd.V_far (p := ⟨aB, 0, none⟩) (Kd.V_mono aA.out (fun k_ hk => (⟨hk, hk.2.2⟩ : _ ∧ k_ ≠ aB))) (fun _ hk => hk.2) (.bool false)) (fun _ hk => hk.2) (.string aG)) (fun _ hk => hk.2) (.slice aM aH.length aN)) (fun _ hk => hk.2) (.string aL)) (fun _ hk => hk.1.1), hb_⟩
 subst dV
 rw [if_pos rfl] at H
 by_cases cJ : (aG.size : Int) ≥ 79
 ·rw [if_pos cJ] at H
  have dD := dt_ cJ
  have dE : decide (79 ≤ aG.size) = true := decide_eq_true (by omega)
  clear cJ
  obtain ⟨⟨cA, cB, cC, cD⟩, kY, H⟩ := bq_ H
  (try dsimp only at H)
  simp only [Option.some.injEq, Prod.mk.injEq] at H
  obtain ⟨rfl, rfl, rfl, rfl⟩ := H
  have dQ : 0 ≤ (0 : Int) := (by omega)
  have bE : 0 < (strOfNums aE).size := (by have : (0 : Int) < ((strOfNums aE).size : Int) := oa_; omega)
  have dP : ∀ h : 0 < (strOfNums aE).size, (((strOfNums aE)[0]'h).toNat : Int) = bt (strOfNums aE) 0 := y0q (strOfNums aE) 0
  clear dQ
  have dR : (0 < ((strOfNums aE).size : Int)) = True := eq_true (oa_)
  replace bE := eq_true bE
  go_wp2_with (first | (refine gc_ 37 ?_; refine gl_ (some 57) Try.func37 #[.int .u8 (bt (strOfNums aE) 0)] ?_; (with_reducible refine (zqn.calls (bt (strOfNums aE) 0) true _ jB.out).mono ?_); rintro e w' ⟨rfl, ⟨nd, rfl⟩⟩; refine ⟨_, rfl, ?_⟩; (try (rw [y0x wc]; generalize hq_ : World.drewN wc _ = wc; have aX : Aside0 (Kd.V Kd.string 9 wc w.heap.size (fun k_ => (aK k_ ∨ w.heap.size ≤ k_) ∧ k_ ≠ aF ∧ k_ ≠ aB) (.slice aM aH.length aN) aH) := ⟨by rw [← hq_]; exact (vk_ aA.out)⟩; have aY : Aside0 (wc.heap[aF]? = some (.cells #[.bool false, .string aG, .slice aM aH.length aN, .string aL] 24 (0, 0))) := ⟨by rw [← hq_]; exact (bk_ aC.out)⟩; have aZ : Aside0 (wc.heap[aB]? = some (.cells #[.bool false, .string nB_, .slice none 0 0, .string nB_] 24 (0, 0))) := ⟨by rw [← hq_]; exact (bk_ aD.out)⟩; have a0 : Aside0 (Below w.heap.size w wc) := ⟨by rw [← hq_]; exact hb_⟩; clear aA aC aD HB hq_; have aA := aX; have aC := aY; have aD := aZ; have HB := a0; clear aX aY aZ a0)); have kE := aI.out; have kP := aJ.out; obtain ⟨fS, iG, fT, iH, fU, iI, fV, iJ⟩ := b4_ aC.out) | (refine gc_ 36 ?_; refine gl_ (some 66) Try.func36 #[.agg #[.bool false, .string aG, .slice aM aH.length aN, .string aL], .string (⟨#[7]⟩ : ByteArray)] ?_; (with_reducible refine (zqq.calls false aG (fun k_ => ((aK k_ ∨ w.heap.size ≤ k_) ∧ (k_ ≠ aF ∧ k_ ≠ aB))) _ _ aH aL (⟨#[7]⟩ : ByteArray) cA cB cC cD _ ?side1 kY.out).mono ?_); (case side1 => exact aA.out); rintro e lO ⟨lD, rfl, a2, hb⟩; refine ⟨_, rfl, ?_⟩; replace aA := q_ (Kd.V_below (vk_ aA.out) hb); have bC := q_ (Kd.V_lower (Kd.V_mono (ok' := fun k_ => (aK k_ ∨ w.heap.size ≤ k_) ∧ k_ ≠ aF ∧ k_ ≠ aB) a2 (fun k_ hk_ => ⟨Or.elim hk_ (fun hs_ => hs_.1) (fun hn_ => (.inr (Nat.le_trans (y08 hb_) hn_))), Or.elim hk_ (fun hs_ => hs_.2.1) (fun hn_ => (Kd.freshB (bk_ aC.out) k_ hn_)), Or.elim hk_ (fun hs_ => hs_.2.2) (fun hn_ => (Kd.freshB (bk_ aD.out) k_ hn_))⟩)) (y08 hb_)); replace aC := q_ (y0b (bk_ aC.out) hb); replace aD := q_ (y0b (bk_ aD.out) hb); replace HB := q_ (y09 hb_ hb); obtain ⟨fW, iK, fX, iL, fY, iM, fZ, iN⟩ := b4_ aD.out; obtain ⟨cR, dM, jJ⟩ := Kd.V_slice bC.out; subst jJ))
  refine bodyPost_ret (results_cell_row rfl _ _ aB 24 #[.bool cA, .string cB, .slice cR cC.length dM, .string cD] (0, 0) _ rfl (bs_ aD.out) Try.underlying24 rfl (by kernel_rfl)) rfl ?_
  exact ⟨_, ew_, by (with_reducible repeat (first | apply Kd.V_alloc | apply Kd.V_drewN | apply Kd.V_drew)); exact Kd.V_mono (Kd.V_far (p := ⟨aB, 3, none⟩) (Kd.V_far (p := ⟨aB, 2, none⟩) (Kd.V_far (p := ⟨aB, 1, none⟩) (Kd.V_far (p := ⟨aB, 0, none⟩) (Kd.V_mono bC.out (fun k_ hk => (⟨hk, hk.2.2⟩ : _ ∧ k_ ≠ aB))) (fun _ hk => hk.2) (.bool cA)) (fun _ hk => hk.2) (.string cB)) (fun _ hk => hk.2) (.slice cR cC.length dM)) (fun _ hk => hk.2) (.string cD)) (fun _ hk => hk.1.1), hb_⟩
 rw [if_neg cJ] at H
 have dD := df_ cJ
 have dE : decide (79 ≤ aG.size) = false := decide_eq_false (by omega)
 clear cJ
 by_cases dF : aG.size + (strOfNums aE).size ≤ 9223372036854775807
 rotate_left
 ·rw [if_neg dF] at H
  exact absurd H (by simp)
 rw [if_pos dF] at H
 have j2 := eq_true dF
 have j3 := dt_ dF
 try have j4 : (9223372036854775807 < aG.size + (strOfNums aE).size) = False := eq_false (Nat.not_lt.2 dF)
 obtain ⟨⟨cE, cF, cG, cH⟩, kZ, H⟩ := bq_ H
 (try dsimp only at H)
 simp only [Option.some.injEq, Prod.mk.injEq] at H
 obtain ⟨rfl, rfl, rfl, rfl⟩ := H
 have dQ : 0 ≤ (0 : Int) := (by omega)
 have bE : 0 < (strOfNums aE).size := (by have : (0 : Int) < ((strOfNums aE).size : Int) := oa_; omega)
 have dP : ∀ h : 0 < (strOfNums aE).size, (((strOfNums aE)[0]'h).toNat : Int) = bt (strOfNums aE) 0 := y0q (strOfNums aE) 0
 clear dQ
 have dR : (0 < ((strOfNums aE).size : Int)) = True := eq_true (oa_)
 replace bE := eq_true bE
 go_wp2_with (first | (refine gc_ 37 ?_; refine gl_ (some 57) Try.func37 #[.int .u8 (bt (strOfNums aE) 0)] ?_; (with_reducible refine (zqn.calls (bt (strOfNums aE) 0) true _ jB.out).mono ?_); rintro e w' ⟨rfl, ⟨nd, rfl⟩⟩; refine ⟨_, rfl, ?_⟩; (try (rw [y0x wc]; generalize hq_ : World.drewN wc _ = wc; have aX : Aside0 (Kd.V Kd.string 9 wc w.heap.size (fun k_ => (aK k_ ∨ w.heap.size ≤ k_) ∧ k_ ≠ aF ∧ k_ ≠ aB) (.slice aM aH.length aN) aH) := ⟨by rw [← hq_]; exact (vk_ aA.out)⟩; have aY : Aside0 (wc.heap[aF]? = some (.cells #[.bool false, .string aG, .slice aM aH.length aN, .string aL] 24 (0, 0))) := ⟨by rw [← hq_]; exact (bk_ aC.out)⟩; have aZ : Aside0 (wc.heap[aB]? = some (.cells #[.bool false, .string nB_, .slice none 0 0, .string nB_] 24 (0, 0))) := ⟨by rw [← hq_]; exact (bk_ aD.out)⟩; have a0 : Aside0 (Below w.heap.size w wc) := ⟨by rw [← hq_]; exact hb_⟩; clear aA aC aD HB hq_; have aA := aX; have aC := aY; have aD := aZ; have HB := a0; clear aX aY aZ a0)); have kF := aI.out; have kQ := aJ.out; obtain ⟨f0, iO, f1, iP, f2, iQ, f3, iR⟩ := b4_ aC.out) | ((with_reducible refine y13 (t := 9) (p := 71) rfl ?_); refine y1w (t := 9) (p := 71) (v := ?vo_w89) (w1 := (wc.setCell ⟨aF, 1, none⟩ (.string (aG ++ (strOfNums aE))))) ?hg ?ho ?hn ?hr ?_; (case ho => rfl); (case hg => rfl); (case hn => rfl); (case hr => first | (go_simp; done) | (go_simp; rfl)); intro jA hw; have aX : Aside0 (Kd.V Kd.string 9 jA w.heap.size (fun k_ => (aK k_ ∨ w.heap.size ≤ k_) ∧ k_ ≠ aF ∧ k_ ≠ aB) (.slice aM aH.length aN) aH) := ⟨(by rw [hw]; exact (vm_ (Kd.V_far (p := ⟨aF, 1, none⟩) (Kd.V_mono aA.out (fun k_ hk => (⟨hk, hk.2.1⟩ : _ ∧ k_ ≠ aF))) (fun _ hk => hk.2) (.string (aG ++ (strOfNums aE)))) (fun _ hk => ⟨hk.1.1, ⟨hk.1.2.1, hk.1.2.2⟩⟩)))⟩; have aY : Aside0 (jA.heap[aF]? = some (.cells #[.bool false, .string (aG ++ (strOfNums aE)), .slice aM aH.length aN, .string aL] 24 (0, 0))) := ⟨(by rw [hw]; exact (bs_ aC.out))⟩; have aZ : Aside0 (jA.heap[aB]? = some (.cells #[.bool false, .string nB_, .slice none 0 0, .string nB_] 24 (0, 0))) := ⟨(by rw [hw]; exact (bs_ aD.out))⟩; have a0 : Aside0 (Below w.heap.size w jA) := ⟨(by rw [hw]; exact hb_)⟩; clear hw aA aC aD HB; have aA := aX; have aC := aY; have aD := aZ; have HB := a0; clear aX aY aZ a0; obtain ⟨f4, iS, f5, iT, f6, iU, f7, iV⟩ := b4_ aC.out) | (refine gc_ 36 ?_; refine gl_ (some 74) Try.func36 #[.agg #[.bool false, .string (aG ++ (strOfNums aE)), .slice aM aH.length aN, .string aL], .string (strOfNums aE)] ?_; (with_reducible refine (zqq.calls false (aG ++ (strOfNums aE)) (fun k_ => ((aK k_ ∨ w.heap.size ≤ k_) ∧ (k_ ≠ aF ∧ k_ ≠ aB))) _ _ aH aL (strOfNums aE) cE cF cG cH _ ?side1 kZ.out).mono ?_); (case side1 => exact aA.out); rintro e lP ⟨lE, rfl, a2, hb⟩; refine ⟨_, rfl, ?_⟩; replace aA := q_ (Kd.V_below (vk_ aA.out) hb); have bD := q_ (Kd.V_lower (Kd.V_mono (ok' := fun k_ => (aK k_ ∨ w.heap.size ≤ k_) ∧ k_ ≠ aF ∧ k_ ≠ aB) a2 (fun k_ hk_ => ⟨Or.elim hk_ (fun hs_ => hs_.1) (fun hn_ => (.inr (Nat.le_trans (y08 hb_) hn_))), Or.elim hk_ (fun hs_ => hs_.2.1) (fun hn_ => (Kd.freshB (bk_ aC.out) k_ hn_)), Or.elim hk_ (fun hs_ => hs_.2.2) (fun hn_ => (Kd.freshB (bk_ aD.out) k_ hn_))⟩)) (y08 hb_)); replace aC := q_ (y0b (bk_ aC.out) hb); replace aD := q_ (y0b (bk_ aD.out) hb); replace HB := q_ (y09 hb_ hb); obtain ⟨f8, iW, f9, iX, gA, iY, gB, iZ⟩ := b4_ aD.out; obtain ⟨cS, dN, jK⟩ := Kd.V_slice bD.out; subst jK))
 refine bodyPost_ret (results_cell_row rfl _ _ aB 24 #[.bool cE, .string cF, .slice cS cG.length dN, .string cH] (0, 0) _ rfl (bs_ aD.out) Try.underlying24 rfl (by kernel_rfl)) rfl ?_
 exact ⟨_, ew_, by (with_reducible repeat (first | apply Kd.V_alloc | apply Kd.V_drewN | apply Kd.V_drew)); exact Kd.V_mono (Kd.V_far (p := ⟨aB, 3, none⟩) (Kd.V_far (p := ⟨aB, 2, none⟩) (Kd.V_far (p := ⟨aB, 1, none⟩) (Kd.V_far (p := ⟨aB, 0, none⟩) (Kd.V_mono bD.out (fun k_ hk => (⟨hk, hk.2.2⟩ : _ ∧ k_ ≠ aB))) (fun _ hk => hk.2) (.bool cE)) (fun _ hk => hk.2) (.string cF)) (fun _ hk => hk.2) (.slice cS cG.length dN)) (fun _ hk => hk.2) (.string cH)) (fun _ hk => hk.1.1), hb_⟩
end Go.Proofs.Ytgcmhfoegbaaiaa.K
end
