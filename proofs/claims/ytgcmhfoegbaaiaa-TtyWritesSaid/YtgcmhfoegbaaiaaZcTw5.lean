/- Lemmas for several laws: what their proofs need of this seat's texts, in one place. -/
import Derived.Test.YtgcmhfoegbaaiaaZcTw4
set_option linter.unusedVariables false
set_option linter.unusedSimpArgs false
set_option linter.unusedSectionVars false
set_option maxHeartbeats 8000000
set_option maxRecDepth 100000
section
namespace Go.Proofs.Ytgcmhfoegbaaiaa.K
open Go.RowKit Go.Proofs.YtW.P Go.Proofs.YtW.L
def zq8.l0 : Nat → ByteArray → Int → Bool → ByteArray → List ByteArray → ByteArray → Option (Bool × ByteArray × List ByteArray × ByteArray)
  | 0, _, _, _, _, _, _ => none
  | k + 1, x1, x5, x189000, x189001, x189002, x189003 => if x5 < (x1.size : Int) then (if 0 ≤ x5 then ((zqk.f k x189000 x189001 x189002 x189003 (wrap64 (bt x1 x5))).bind fun bt190 => (zq8.l0 k x1 (wrap64 (x5 + 1)) bt190.1 bt190.2.1 bt190.2.2.1 bt190.2.2.2)) else (none)) else (some (x189000, x189001, x189002, x189003))
def zq8.f (k : Nat) (a0_0 : Bool) (a0_1 : ByteArray) (l0_2 : List ByteArray) (a0_3 : ByteArray) (a1 : ByteArray) : Option (Bool × ByteArray × List ByteArray × ByteArray) := zq8.l0 k a1 0 a0_0 a0_1 l0_2 a0_3
theorem zq8.mono_l : ∀ k, (∀ y0 y1 y2 y3 y4 y5, LeO (zq8.l0 k y0 y1 y2 y3 y4 y5) (zq8.l0 (k + 1) y0 y1 y2 y3 y4 y5))
 | 0 => fun _ _ _ _ _ _ r h => by simp [zq8.l0] at h
 | k + 1 => by
  have ih0 := zq8.mono_l k
  ·intro y0 y1 y2 y3 y4 y5
   unfold zq8.l0
   with_reducible repeat' first | apply ih0 | apply zqk.mono | exact LeO.refl _ | exact LeO.none _ | refine LeO.ite ?_ ?_ | refine LeO.bind ?_ (fun _ => ?_)
theorem zq8.mono : ∀ a0 a1 a2 a3 a4 k, LeO (zq8.f k a0 a1 a2 a3 a4) (zq8.f (k + 1) a0 a1 a2 a3 a4) := by
 intro a0 a1 a2 a3 a4 k
 have ih0 := zq8.mono_l k
 unfold zq8.f
 with_reducible repeat' first | apply ih0 | apply zqk.mono | exact LeO.refl _ | exact LeO.none _ | refine LeO.ite ?_ ?_ | refine LeO.bind ?_ (fun _ => ?_)
theorem zq8.calls (k : Nat) (aQ : Bool) (aR : ByteArray) (aN : Nat → Prop) (aP : Option Addr) (aT : Nat) (aM : List ByteArray) (aS : ByteArray) (a1 : ByteArray) (r1 : Bool) (r2 : ByteArray) (r3 : List ByteArray) (r4 : ByteArray) (w : World) (a8 : Kd.V Kd.string 9 w w.heap.size (fun k_ => aN k_) (.slice aP aM.length aT) aM) (h : zq8.f k aQ aR aM aS a1 = some (r1, r2, r3, r4)) :
  Calls Try.prog 12 #[.agg #[.bool aQ, .string aR, .slice aP aM.length aT, .string aS], .string a1] w fun e w' => ∃ v2_ : Value, e = .returned (.agg #[.bool r1, .string r2, v2_, .string r4]) ∧ Kd.V Kd.string 9 w' w.heap.size (fun k_ => (aN k_ ∨ w.heap.size ≤ k_)) v2_ r3 ∧ Below w.heap.size w w' := by
 have cI := Try.underlying24
 have aO := q_ (show Kd.V Kd.string 9 w w.heap.size (fun k_ => (aN k_ ∨ w.heap.size ≤ k_)) (.slice aP aM.length aT) aM from Kd.V_mono a8 (fun k_ hk => .inl hk))
 have HB := q_ (Below.refl w.heap.size w)
 have H : (zq8.l0 k a1 0 aQ aR aM aS) = some (r1, r2, r3, r4) := h
 clear h
 have H' := q_ H
 clear H
 go_enter Try.func12, Try.ntmps12
 go_wp2_with (first | (refine gd_ 2 ?_; refine bx_ 2 (cs := #[.bool aQ, .string aR, .slice aP aM.length aT, .string aS]) 24 ?_; intro aG hg w3 hbox hb; replace aO := q_ (Kd.V_below (Kd.V_elderB (vk_ aO.out) aG (Nat.le_of_eq hg.symm)) hb); have aA := q_ (hbox); have b4 := gw_ w hg (y08 hb_); have b2 := gw_ w hg (y08 hb_); replace HB := q_ (y09 hb_ hb); clear hb hbox hg) | (refine gd_ 4 ?_; refine bx_ 4 (cs := #[.bool false, .string nB_, .slice none 0 0, .string nB_]) 24 ?_; intro aK hg w4 hbox hb; replace aO := q_ (Kd.V_below (Kd.V_elderB (vk_ aO.out) aK (Nat.le_of_eq hg.symm)) hb); have aJ := q_ (hbox); have b5 := gw_ w hg (y08 hb_); have b3 := gw_ w hg (y08 hb_); replace HB := q_ (y09 hb_ hb); have aH := nl_ hg (bk_ aA.out); have aI := ng_ hg (bk_ aA.out); replace aA := q_ (y0b (bk_ aA.out) hb); clear hb hbox hg))
 go_loopg [5] k (fun kq v5 w' => ∃ (aL : Int) (aC : Bool) (aD : ByteArray) (aE : List ByteArray) (aF : ByteArray) (u189002 : Value), v5 = .int .i64 aL ∧ Aside0 (zq8.l0 kq a1 aL aC aD aE aF = some (r1, r2, r3, r4)) ∧ Aside0 (kq ≤ k) ∧ Aside0 (Kd.V Kd.string 9 w' w.heap.size (fun k_ => (aN k_ ∨ w.heap.size ≤ k_) ∧ k_ ≠ aG ∧ k_ ≠ aK) u189002 aE) ∧ Aside0 (w'.heap[aG]? = some (.cells #[.bool aC, .string aD, u189002, .string aF] 24 (0, 0))) ∧ Aside0 (w'.heap[aK]? = some (.cells #[.bool false, .string nB_, (.slice none 0 0), .string nB_] 24 (0, 0))) ∧ Aside0 (Below w.heap.size w w'))
 case atStart => exact ⟨(0), (aQ), (aR), (aM), (aS), (.slice aP aM.length aT), cl_, H', ⟨Nat.le_refl _⟩, ⟨vm_ aO.out (fun _ hk => ⟨hk.1.1, ⟨hk.1.2, hk.2⟩⟩)⟩, ⟨bk_ aA.out⟩, ⟨bk_ aJ.out⟩, ⟨hb_⟩⟩
 case round =>
  clear H'
  obtain ⟨aL, aC, aD, aE, aF, u189002, rfl, HA, HK1, aB, aA, aJ, HB⟩ := hrel
  obtain _ | k1 := gk
  ·exact nn_ HA
  have H := HA.out
  clear HA
  simp only [zq8.l0] at H
  by_cases c5 : aL < (a1.size : Int)
  rotate_left
  ·rw [if_neg c5] at H
   have bY := df_ c5
   clear c5
   simp only [Option.some.injEq, Prod.mk.injEq] at H
   obtain ⟨rfl, rfl, rfl, rfl⟩ := H
   have cA := aH.out
   have cB := aI.out
   obtain ⟨a9, bH, bA, bI, bB, bJ, bC, bK⟩ := b4_ aA.out
   obtain ⟨bD, bL, bE, bM, bF, bN, bG, bO⟩ := b4_ aJ.out
   obtain ⟨a3, a5, bZ⟩ := Kd.V_slice aB.out
   subst bZ
   go_wp2
   refine bodyPost_ret (results_cell_row rfl _ _ aK 24 #[.bool aC, .string aD, .slice a3 aE.length a5, .string aF] (0, 0) _ rfl (bs_ aJ.out) Try.underlying24 rfl (by kernel_rfl)) rfl ?_
   exact ⟨_, ew_, by (with_reducible repeat (first | apply Kd.V_alloc | apply Kd.V_drewN | apply Kd.V_drew)); exact Kd.V_mono (Kd.V_far (p := ⟨aK, 3, none⟩) (Kd.V_far (p := ⟨aK, 2, none⟩) (Kd.V_far (p := ⟨aK, 1, none⟩) (Kd.V_far (p := ⟨aK, 0, none⟩) (Kd.V_mono aB.out (fun k_ hk => (⟨hk, hk.2.2⟩ : _ ∧ k_ ≠ aK))) (fun _ hk => hk.2) (.bool aC)) (fun _ hk => hk.2) (.string aD)) (fun _ hk => hk.2) (.slice a3 aE.length a5)) (fun _ hk => hk.2) (.string aF)) (fun _ hk => hk.1.1), hb_⟩
  rw [if_pos c5] at H
  have bY := dt_ c5
  clear c5
  by_cases c6 : 0 ≤ aL
  rotate_left
  ·rw [if_neg c6] at H
   exact absurd H (by simp)
  rw [if_pos c6] at H
  have cC := dt_ c6
  clear c6
  obtain ⟨⟨aY, aZ, aU, a0⟩, A8, H⟩ := bq_ H
  (try dsimp only at H)
  have H' := q_ H
  clear H
  try go_wp2
  replace aB := q_ (Kd.V_drew aB.out)
  replace aA := q_ (y0d aA.out)
  replace aJ := q_ (y0d aJ.out)
  replace HB := q_ (y07 HB.out)
  have p7 : 0 ≤ (aL : Int) := oa_
  have q7 : aL < (a1.size : Int) := oa_
  have cK := y0q a1 aL
  replace p7 := eq_true p7
  replace q7 := eq_true q7
  obtain ⟨aW, aX, a6⟩ := Kd.V_slice aB.out
  (first | subst a6 | (injection a6 with f1_ f2_ f3_; have b0 := f1_.symm; have b1 := f3_.symm; clear f1_ f2_ f3_; subst b0; subst b1))
  refine start_ (n := 7) (S := fun w' => w'.cell? ⟨aG, 0, none⟩ = some (.bool aC) ∧ w'.cell? ⟨aG, 1, none⟩ = some (.string aD) ∧ w'.cell? ⟨aG, 2, none⟩ = some (.slice aW aE.length aX) ∧ w'.cell? ⟨aG, 3, none⟩ = some (.string aF)) (ds := [6]) #[false, false, false, false, false, false, false] (by kernel_rfl) rfl rfl ⟨(y0c aA.out 0).trans rfl, (y0c aA.out 1).trans rfl, (y0c aA.out 2).trans rfl, (y0c aA.out 3).trans rfl⟩ (fun hHeld => ?_)
  generalize wr.drew = w9 at aB aA aJ HB hHeld ⊢
  refine pure_ (i := 1) (N := some 13) (v := ?_) (a' := ?_) #[false, true, false, false, false, false, false] rfl rfl (by kernel_rfl) (fun _ _ _ h => h) (Or.inl ⟨by rfl, ?_⟩) ?_ ?_
  rotate_left
  ·intro w'
   go_simp
   first | with_reducible rfl | (refine (if_neg ?_).trans ?_; (first | omega | (rw [← ByteArray.size_append]; first | omega | (rw [← ByteArray.size_append]; first | omega | (rw [← ByteArray.size_append]; first | omega | (rw [← ByteArray.size_append]; first | omega | (rw [← ByteArray.size_append]; first | omega | (rw [← ByteArray.size_append]; omega))))))); with_reducible rfl)
  rotate_left
  ·simp only [Act.put, List.setIfInBounds_toArray, List.set_cons_zero, List.set_cons_succ, y17, y15]
   rfl
  refine pure_ (i := 2) (N := some 14) (v := ?_) (a' := ?_) #[false, true, true, false, false, false, false] rfl rfl (by kernel_rfl) (fun _ _ _ h => h) (Or.inl ⟨by rfl, ?_⟩) ?_ ?_
  rotate_left
  ·intro w'
   go_simp
   first | with_reducible rfl | (refine (if_neg ?_).trans ?_; (first | omega | (rw [← ByteArray.size_append]; first | omega | (rw [← ByteArray.size_append]; first | omega | (rw [← ByteArray.size_append]; first | omega | (rw [← ByteArray.size_append]; first | omega | (rw [← ByteArray.size_append]; first | omega | (rw [← ByteArray.size_append]; omega))))))); with_reducible rfl)
  rotate_left
  ·simp only [Act.put, List.setIfInBounds_toArray, List.set_cons_zero, List.set_cons_succ, y17, y15]
   rfl
  refine take_ (i := 0) (N := some 12) (v := ?_) (a' := ?_) #[true, true, true, false, false, false, false] rfl rfl (by kernel_rfl) (fun _ _ _ h => h) (Or.inl ⟨by rfl, ?_⟩) hHeld ?_ ?_
  rotate_left
  ·rintro w' ⟨s0, s1, s2, s3⟩
   go_simp
   first | with_reducible rfl | (refine (if_neg ?_).trans ?_; (first | omega | (rw [← ByteArray.size_append]; first | omega | (rw [← ByteArray.size_append]; first | omega | (rw [← ByteArray.size_append]; first | omega | (rw [← ByteArray.size_append]; first | omega | (rw [← ByteArray.size_append]; first | omega | (rw [← ByteArray.size_append]; omega))))))); with_reducible rfl)
  rotate_left
  ·simp only [Act.put, List.setIfInBounds_toArray, List.set_cons_zero, List.set_cons_succ, y17, y15]
   rfl
  refine take_ (i := 3) (N := some 15) (v := ?_) (a' := ?_) #[true, true, true, true, false, false, false] rfl rfl (by kernel_rfl) (fun _ _ _ h => h) (Or.inl ⟨by rfl, ?_⟩) hHeld ?_ ?_
  rotate_left
  ·rintro w' ⟨s0, s1, s2, s3⟩
   go_simp
   first | with_reducible rfl | (refine (if_neg ?_).trans ?_; (first | omega | (rw [← ByteArray.size_append]; first | omega | (rw [← ByteArray.size_append]; first | omega | (rw [← ByteArray.size_append]; first | omega | (rw [← ByteArray.size_append]; first | omega | (rw [← ByteArray.size_append]; first | omega | (rw [← ByteArray.size_append]; omega))))))); with_reducible rfl)
  rotate_left
  ·simp only [Act.put, List.setIfInBounds_toArray, List.set_cons_zero, List.set_cons_succ, y17, y15]
   rfl
  refine pure_ (i := 4) (N := some 16) (v := ?_) (a' := ?_) #[true, true, true, true, true, false, false] rfl rfl (by kernel_rfl) (fun _ _ _ h => h) (Or.inl ⟨by rfl, ?_⟩) ?_ ?_
  rotate_left
  ·intro w'
   go_simp
   first | with_reducible rfl | (refine (if_neg ?_).trans ?_; (first | omega | (rw [← ByteArray.size_append]; first | omega | (rw [← ByteArray.size_append]; first | omega | (rw [← ByteArray.size_append]; first | omega | (rw [← ByteArray.size_append]; first | omega | (rw [← ByteArray.size_append]; first | omega | (rw [← ByteArray.size_append]; omega))))))); with_reducible rfl)
  rotate_left
  ·simp only [Act.put, List.setIfInBounds_toArray, List.set_cons_zero, List.set_cons_succ, y17, y15]
   rfl
  refine one_ (i := 5) (N := some 17) (fl 7 63) rfl rfl (by kernel_rfl) (by decide) (fun K hK => ?_)
  refine gs_ Try.func23 #[.agg #[.bool aC, .string aD, .slice aW aE.length aX, .string aF], .int .i64 (wrap64 (bt a1 aL))] ?_
  with_reducible refine (zqk.calls k1 aC aD (fun k_ => ((aN k_ ∨ w.heap.size ≤ k_) ∧ (k_ ≠ aG ∧ k_ ≠ aK))) _ _ aE aF (wrap64 (bt a1 aL)) aY aZ aU a0 _ ?side1 A8.out).mono ?_
  (case side1 => exact aB.out)
  rintro e bX ⟨cJ, rfl, cD, hb⟩
  refine ⟨_, rfl, ?_⟩
  replace aB := q_ (Kd.V_below (vk_ aB.out) hb)
  have aV := q_ (Kd.V_lower (Kd.V_mono (ok' := fun k_ => (aN k_ ∨ w.heap.size ≤ k_) ∧ k_ ≠ aG ∧ k_ ≠ aK) cD (fun k_ hk_ => ⟨Or.elim hk_ (fun hs_ => hs_.1) (fun hn_ => (.inr (Nat.le_trans (y08 hb_) hn_))), Or.elim hk_ (fun hs_ => hs_.2.1) (fun hn_ => (Kd.freshB (bk_ aA.out) k_ hn_)), Or.elim hk_ (fun hs_ => hs_.2.2) (fun hn_ => (Kd.freshB (bk_ aJ.out) k_ hn_))⟩)) (y08 hb_))
  replace aA := q_ (y0b (bk_ aA.out) hb)
  replace aJ := q_ (y0b (bk_ aJ.out) hb)
  replace HB := q_ (y09 hb_ hb)
  obtain ⟨a2, a4, a7⟩ := Kd.V_slice aV.out
  (first | subst a7 | (injection a7 with f1_ f2_ f3_; have b0 := f1_.symm; have b1 := f3_.symm; clear f1_ f2_ f3_; subst b0; subst b1))
  refine hK.out _ _ ⟨(y0c aA.out 0).trans rfl, (y0c aA.out 1).trans rfl, (y0c aA.out 2).trans rfl, (y0c aA.out 3).trans rfl⟩ (fun hHeld => ?_)
  clear hK K
  refine no_ (N := some 17) ?_
  refine last_ (i := 6) (N := none) (fl 7 127) rfl rfl (by kernel_rfl) (by decide) (fun K hK => ?_)
  have cE : bX.cell? ⟨aG, 0, none⟩ = some (.bool aC) := (y0c aA.out 0).trans rfl
  have b6 := y0g aA.out 0
  have bT := aI.out
  have bP := aH.out
  have cF : bX.cell? ⟨aG, 1, none⟩ = some (.string aD) := (y0c aA.out 1).trans rfl
  have b7 := y0g aA.out 1
  have bU := aI.out
  have bQ := aH.out
  have cG : bX.cell? ⟨aG, 2, none⟩ = some (.slice aW aE.length aX) := (y0c aA.out 2).trans rfl
  have b8 := y0g aA.out 2
  have bV := aI.out
  have bR := aH.out
  have cH : bX.cell? ⟨aG, 3, none⟩ = some (.string aF) := (y0c aA.out 3).trans rfl
  have b9 := y0g aA.out 3
  have bW := aI.out
  have bS := aH.out
  refine skip_ (w1 := ?_) (by rfl) rfl ?_ ?_
  rotate_left
  ·go_simp
   rfl
  refine hK.out _ _ ?_
  clear hK K
  refine done_ (by kernel_rfl) ?_
  try go_wp2
  go_roundg k1
  case measure => have := HK1.out; omega
  case rel => exact ⟨(wrap64 (aL + 1)), (aY), (aZ), (aU), (a0), (.slice a2 aU.length a4), cl_, H', ⟨by have := HK1.out; omega⟩, ⟨vm_ (Kd.V_far (p := ⟨aG, 3, none⟩) (Kd.V_far (p := ⟨aG, 2, none⟩) (Kd.V_far (p := ⟨aG, 1, none⟩) (Kd.V_far (p := ⟨aG, 0, none⟩) (Kd.V_mono aV.out (fun k_ hk => (⟨hk, hk.2.1⟩ : _ ∧ k_ ≠ aG))) (fun _ hk => hk.2) (.bool aY)) (fun _ hk => hk.2) (.string aZ)) (fun _ hk => hk.2) (.slice a2 aU.length a4)) (fun _ hk => hk.2) (.string a0)) (fun _ hk => ⟨hk.1.1, ⟨hk.1.2.1, hk.1.2.2⟩⟩)⟩, ⟨bs_ aA.out⟩, ⟨bs_ aJ.out⟩, ⟨hb_⟩⟩
end Go.Proofs.Ytgcmhfoegbaaiaa.K
end
