/- Lemmas for several laws: what their proofs need of this seat's texts, in one place. -/
import Derived.Test.YtenlmckahaniiaaZcLe9
set_option linter.unusedVariables false
set_option linter.unusedSimpArgs false
set_option linter.unusedSectionVars false
set_option maxHeartbeats 8000000
set_option maxRecDepth 100000
section
namespace Go.Proofs.Ytenlmckahaniiaa.K
open Go.RowKit Go.Proofs.YtW.P Go.Proofs.YtW.L
def zq1t.f (k : Nat) (a0 : ByteArray) : Option (ByteArray × Int) := if (wrap64 ((a0.size : Int) - 4)) < 0 then (some (nB_, 8)) else (if 0 ≤ (wrap64 ((a0.size : Int) - 4)) then (if (wrap64 ((a0.size : Int) - 4)) ≤ (a0.size : Int) then ((zq1x.f k (([a0.extract 0 ((wrap64 ((a0.size : Int) - 4)) : Int).toNat] : List ByteArray))).bind fun t178 => ((zq1w.f k t178 4).bind fun t179 => (if (a0.extract ((wrap64 ((a0.size : Int) - 4)) : Int).toNat a0.size).toList = t179.toList then (some (a0.extract 0 ((wrap64 ((a0.size : Int) - 4)) : Int).toNat, 0)) else (some (nB_, 10))))) else (none)) else (none))
theorem zq1t.mono : ∀ a0 k, LeO (zq1t.f k a0) (zq1t.f (k + 1) a0) := by
 intro a0 k
 unfold zq1t.f
 with_reducible repeat' first | apply zq1w.mono | apply zq1x.mono | exact LeO.refl _ | exact LeO.none _ | refine LeO.ite ?_ ?_ | refine LeO.bind ?_ (fun _ => ?_)
def zq1t.T4 : Bool × List (List Nat × List Nat) := (true, [([], []), ([], []), ([0, 1], [0, 1]), ([], []), ([], []), ([3, 4], [3, 4]), ([5], [5]), ([6], [6]), ([7, 7], [7]), ([2, 8], [2, 8])])
def zq1t.B4 : List Nat := [0, 0, 3, 0, 0, 24, 56, 120, 248, 511]
theorem zq1t.tab4 : rtab .any (opsOf Try.f61 4) = zq1t.T4 := by kernel_rfl
theorem zq1t.bits4 : waitsOk zq1t.T4.2 zq1t.B4 = true := by kernel_rfl
theorem zq1t.calls (k : Nat) (a0 : ByteArray) (r1 : ByteArray) (r2 : Int) (w : World) (h : zq1t.f k a0 = some (r1, r2)) :
  Calls Try.prog 61 #[.string a0] w fun e w' => e = .returned (.tuple #[.string r1, .int .i64 r2]) ∧ Below w.heap.size w w' := by
 have HB := q_ (Below.refl w.heap.size w)
 have H : (if (wrap64 ((a0.size : Int) - 4)) < 0 then (some (nB_, 8)) else (if 0 ≤ (wrap64 ((a0.size : Int) - 4)) then (if (wrap64 ((a0.size : Int) - 4)) ≤ (a0.size : Int) then ((zq1x.f k (([a0.extract 0 ((wrap64 ((a0.size : Int) - 4)) : Int).toNat] : List ByteArray))).bind fun aB => ((zq1w.f k aB 4).bind fun aD => (if (a0.extract ((wrap64 ((a0.size : Int) - 4)) : Int).toNat a0.size).toList = aD.toList then (some (a0.extract 0 ((wrap64 ((a0.size : Int) - 4)) : Int).toNat, 0)) else (some (nB_, 10))))) else (none)) else (none))) = some (r1, r2) := h
 clear h
 by_cases c2 : (wrap64 ((a0.size : Int) - 4)) < 0
 ·rw [if_pos c2] at H
  have aO := dt_ c2
  clear c2
  simp only [Option.some.injEq, Prod.mk.injEq] at H
  obtain ⟨rfl, rfl⟩ := H
  go_enter Try.func61, Try.ntmps61
  go_wp2
  go_ret2
  exact ⟨ew_, hb_⟩
 rw [if_neg c2] at H
 have aO := df_ c2
 clear c2
 obtain ⟨aC, aG⟩ : ∃ j_ : Int, (wrap64 ((a0.size : Int) - 4)) = j_ := ⟨_, rfl⟩
 replace H : (if 0 ≤ (aC) then (if (aC) ≤ (a0.size : Int) then ((zq1x.f k (([a0.extract 0 ((aC) : Int).toNat] : List ByteArray))).bind fun aB => ((zq1w.f k aB 4).bind fun aD => (if (a0.extract ((aC) : Int).toNat a0.size).toList = aD.toList then (some (a0.extract 0 ((aC) : Int).toNat, 0)) else (some (nB_, 10))))) else (none)) else (none)) = some (r1, r2) := by first | (rw [aG] at H; exact H) | (simp only [aG] at H ⊢; exact H)
 (try rw [aG] at aO)
 have a1 : (IntKind.i64.wrap ((a0.size : Int) - 4)) = aC := (y2h _).trans aG
 by_cases c4 : 0 ≤ (aC)
 rotate_left
 ·rw [if_neg c4] at H
  exact absurd H (by simp)
 rw [if_pos c4] at H
 have a7 := eq_true c4
 have a4 := dt_ c4
 clear c4
 by_cases c5 : (aC) ≤ (a0.size : Int)
 rotate_left
 ·rw [if_neg c5] at H
  exact absurd H (by simp)
 rw [if_pos c5] at H
 have a8 := eq_true c5
 have a9 := dt_ c5
 clear c5
 have a6 := eq_true (oa_ : 0 ≤ (aC))
 have a5 := eq_true (oa_ : (aC) ≤ (a0.size : Int))
 obtain ⟨aI, aE⟩ : ∃ y_ : List ByteArray, y_ = (([a0.extract 0 ((aC) : Int).toNat] : List ByteArray)) := ⟨_, rfl⟩
 replace H : ((zq1x.f k aI).bind fun aB => ((zq1w.f k aB 4).bind fun aD => (if (a0.extract ((aC) : Int).toNat a0.size).toList = aD.toList then (some (a0.extract 0 ((aC) : Int).toNat, 0)) else (some (nB_, 10))))) = some (r1, r2) := by first | (rw [aE]; with_reducible exact H) | (have aU := (Option.bind_some _ _).symm.trans H; rw [aE]; with_reducible exact aU) | (have aU := (Option.bind_some _ _).symm.trans H; with_reducible exact aU) | with_reducible exact H | (rw [aE]; exact H) | exact H
 have aF := q_ aE
 clear aE
 obtain ⟨aB, A8, H⟩ := bq_ H
 obtain ⟨aD, A9, H⟩ := bq_ H
 (try dsimp only at H)
 by_cases aK : (a0.extract ((aC) : Int).toNat a0.size).toList = aD.toList
 rotate_left
 ·rw [if_neg aK] at H
  have aQ := ef_ aK
  have aN := nt_ aK
  simp only [Option.some.injEq, Prod.mk.injEq] at H
  obtain ⟨rfl, rfl⟩ := H
  go_enter Try.func61, Try.ntmps61
  try go_wp2
  replace HB := q_ (y0h HB.out)
  refine start_ (n := 10) (S := fun w' => True) (ds := []) #[false, false, false, false, false, false, false, false, false, false] (by kernel_rfl) rfl rfl trivial (fun hHeld => ?_); refine y5o zq1t.tab4 zq1t.bits4 (fun HT_ HW_ => ?_)
  generalize w.drew = bE at HB hHeld ⊢
  refine pv_ 0 (some 10) (fl 10 1) ?_
  refine pv_ 1 (some 11) (fl 10 3) ?_
  refine pv_ 2 (some 12) (fl 10 7) ?_
  refine pv_ 3 (some 13) (fl 10 15) ?_
  refine pv_ 4 (some 14) (fl 10 31) ?_
  refine pv_ 5 (some 15) (fl 10 63) ?_
  refine one_ (i := 6) (N := some 16) (fl 10 127) rfl rfl (y3l HT_.out (by kernel_rfl)) (by decide) (fun K hK => ?_)
  refine Kd.R_lit_step Kd.string _ 9 ?hg (N := 16) ?hd (xs := ([a0.extract 0 ((aC) : Int).toNat] : List ByteArray)) (inner := [.string (a0.extract 0 ((aC) : Int).toNat)]) (ok := fun _ => True) (okp := fun _ => True) ?hr ?hp (fun _ hk => hk) trivial (Below.refl _ _) (Nat.le_refl _) (by simp) ?_; (case hd => rfl); (case hg => rfl); (case hr => first | (go_simp; done) | (go_simp; rfl)); (case hp => exact (Reps.one (show Kd.M Kd.string _ _ _ (a0.extract 0 ((aC) : Int).toNat) [.string (a0.extract 0 ((aC) : Int).toNat)] from rfl) (Reps.none _ _)))
  intro aS bB aJ hb hg_ hnew_
  clear hg_ hnew_
  (first | rw [← aF.out] at aJ | (simp only [Int.reduceToNat] at aJ; rw [← aF.out] at aJ))
  have aL := q_ (Kd.R_lower aJ (y0j hb_))
  have aP := q_ (y0k hb_ hb)
  clear HB
  have aA := aL; have HB := aP
  clear aL aP hb aJ
  obtain ⟨aW, aZ, aR⟩ := Kd.R_slice aA.out
  (first | subst aR | (injection aR with f1_ f2_ f3_; have aY := f1_.symm; have aV := f3_.symm; clear f1_ f2_ f3_; subst aY; subst aV))
  refine hK.out _ _ trivial (fun hHeld => ?_)
  clear hK K
  refine no_ (N := some 16) ?_
  refine one_ (i := 7) (N := some 17) (fl 10 255) rfl rfl (y3l HT_.out (by kernel_rfl)) (by decide) (fun K hK => ?_)
  refine gs_ Try.func90 #[.slice aW aI.length aZ] ?_
  with_reducible refine (zq1x.calls k _ _ aI aB _ ?side1 ?side2 A8.out).mono ?_
  (case side1 => exact ck_ (Kd.R_reads' aA.out).2.2)
  (case side2 => exact (Kd.R_reads' aA.out).2.1)
  rintro e w' ⟨rfl, ⟨nd, rfl⟩⟩
  refine ⟨_, rfl, ?_⟩
  refine hK.out _ _ trivial (fun hHeld => ?_)
  clear hK K
  refine no_ (N := some 17) ?_
  refine one_ (i := 8) (N := some 18) (fl 10 511) rfl rfl (y3l HT_.out (by kernel_rfl)) (by decide) (fun K hK => ?_)
  refine gs_ Try.func78 #[.int .i64 aB, .int .i64 4] ?_
  with_reducible refine (zq1w.calls k aB 4 aD _ A9.out).mono ?_
  rintro e bD ⟨rfl, hb⟩
  refine ⟨_, rfl, ?_⟩
  replace aA := q_ (Kd.R_below (rk_ aA.out) hb)
  replace HB := q_ (y0k hb_ hb)
  refine hK.out _ _ trivial (fun hHeld => ?_)
  clear hK K
  refine no_ (N := some 18) ?_
  refine pv_ 9 (some 19) (fl 10 1023) ?_
  refine done_ (y1s HT_.out (by kernel_rfl)) ?_
  try go_wp2
  go_ret2
  exact ⟨by first | rfl | (simp [y1y, y1z] <;> rfl) | (simp only [← aG]; first | rfl | (simp [y1y, y1z] <;> rfl)) | (simp [*, y1y, y1z] <;> rfl), hb_⟩
 rw [if_pos aK] at H
 have aQ := et_ aK
 have aN := nf_ aK
 clear aK
 have a3 := eq_true (oa_ : 0 ≤ (aC))
 have a2 := eq_true (oa_ : (aC) ≤ (a0.size : Int))
 simp only [Option.some.injEq, Prod.mk.injEq] at H
 obtain ⟨rfl, rfl⟩ := H
 go_enter Try.func61, Try.ntmps61
 try go_wp2
 replace HB := q_ (y0h HB.out)
 refine start_ (n := 10) (S := fun w' => True) (ds := []) #[false, false, false, false, false, false, false, false, false, false] (by kernel_rfl) rfl rfl trivial (fun hHeld => ?_); refine y5o zq1t.tab4 zq1t.bits4 (fun HT_ HW_ => ?_)
 generalize w.drew = bC at HB hHeld ⊢
 refine pv_ 0 (some 10) (fl 10 1) ?_
 refine pv_ 1 (some 11) (fl 10 3) ?_
 refine pv_ 2 (some 12) (fl 10 7) ?_
 refine pv_ 3 (some 13) (fl 10 15) ?_
 refine pv_ 4 (some 14) (fl 10 31) ?_
 refine pv_ 5 (some 15) (fl 10 63) ?_
 refine one_ (i := 6) (N := some 16) (fl 10 127) rfl rfl (y3l HT_.out (by kernel_rfl)) (by decide) (fun K hK => ?_)
 refine Kd.R_lit_step Kd.string _ 9 ?hg (N := 16) ?hd (xs := ([a0.extract 0 ((aC) : Int).toNat] : List ByteArray)) (inner := [.string (a0.extract 0 ((aC) : Int).toNat)]) (ok := fun _ => True) (okp := fun _ => True) ?hr ?hp (fun _ hk => hk) trivial (Below.refl _ _) (Nat.le_refl _) (by simp) ?_; (case hd => rfl); (case hg => rfl); (case hr => first | (go_simp; done) | (go_simp; rfl)); (case hp => exact (Reps.one (show Kd.M Kd.string _ _ _ (a0.extract 0 ((aC) : Int).toNat) [.string (a0.extract 0 ((aC) : Int).toNat)] from rfl) (Reps.none _ _)))
 intro aS bF aH hb hg_ hnew_
 clear hg_ hnew_
 (first | rw [← aF.out] at aH | (simp only [Int.reduceToNat] at aH; rw [← aF.out] at aH))
 have aL := q_ (Kd.R_lower aH (y0j hb_))
 have aP := q_ (y0k hb_ hb)
 clear HB
 have aA := aL; have HB := aP
 clear aL aP hb aH
 obtain ⟨aX, aT, aM⟩ := Kd.R_slice aA.out
 (first | subst aM | (injection aM with f1_ f2_ f3_; have aY := f1_.symm; have aV := f3_.symm; clear f1_ f2_ f3_; subst aY; subst aV))
 refine hK.out _ _ trivial (fun hHeld => ?_)
 clear hK K
 refine no_ (N := some 16) ?_
 refine one_ (i := 7) (N := some 17) (fl 10 255) rfl rfl (y3l HT_.out (by kernel_rfl)) (by decide) (fun K hK => ?_)
 refine gs_ Try.func90 #[.slice aX aI.length aT] ?_
 with_reducible refine (zq1x.calls k _ _ aI aB _ ?side1 ?side2 A8.out).mono ?_
 (case side1 => exact ck_ (Kd.R_reads' aA.out).2.2)
 (case side2 => exact (Kd.R_reads' aA.out).2.1)
 rintro e w' ⟨rfl, ⟨nd, rfl⟩⟩
 refine ⟨_, rfl, ?_⟩
 refine hK.out _ _ trivial (fun hHeld => ?_)
 clear hK K
 refine no_ (N := some 17) ?_
 refine one_ (i := 8) (N := some 18) (fl 10 511) rfl rfl (y3l HT_.out (by kernel_rfl)) (by decide) (fun K hK => ?_)
 refine gs_ Try.func78 #[.int .i64 aB, .int .i64 4] ?_
 with_reducible refine (zq1w.calls k aB 4 aD _ A9.out).mono ?_
 rintro e bA ⟨rfl, hb⟩
 refine ⟨_, rfl, ?_⟩
 replace aA := q_ (Kd.R_below (rk_ aA.out) hb)
 replace HB := q_ (y0k hb_ hb)
 refine hK.out _ _ trivial (fun hHeld => ?_)
 clear hK K
 refine no_ (N := some 18) ?_
 refine pv_ 9 (some 19) (fl 10 1023) ?_
 refine done_ (y1s HT_.out (by kernel_rfl)) ?_
 try go_wp2
 go_ret2
 exact ⟨by first | rfl | (simp [y1y, y1z] <;> rfl) | (simp only [← aG]; first | rfl | (simp [y1y, y1z] <;> rfl)) | (simp [*, y1y, y1z] <;> rfl), hb_⟩
end Go.Proofs.Ytenlmckahaniiaa.K
end
section
namespace Go.Proofs.Ytenlmckahaniiaa.K
open Go.RowKit Go.Proofs.YtW.P Go.Proofs.YtW.L
def zqd.f (a0 : ByteArray) (a1 : ByteArray) : Option (Bool) := if (a0.size : Int) ≥ (a1.size : Int) then (if 0 ≤ (a1.size : Int) then (if (a1.size : Int) ≤ (a0.size : Int) then (some ((a0.extract 0 ((a1.size : Int) : Int).toNat).toList == a1.toList)) else (none)) else (none)) else (some false)
theorem zqd.calls (a0 : ByteArray) (a1 : ByteArray) (r : Bool) (w : World) (h : zqd.f a0 a1 = some r) :
  Calls Try.prog 95 #[.string a0, .string a1] w fun e w' => e = .returned (.bool r) ∧ Drawn0 w w' := by
 have H : (if (a0.size : Int) ≥ (a1.size : Int) then (if 0 ≤ (a1.size : Int) then (if (a1.size : Int) ≤ (a0.size : Int) then (some ((a0.extract 0 ((a1.size : Int) : Int).toNat).toList == a1.toList)) else (none)) else (none)) else (some false)) = some r := h
 clear h
 by_cases c3 : (a0.size : Int) ≥ (a1.size : Int)
 rotate_left
 ·rw [if_neg c3] at H
  have aA := df_ c3
  have aB : decide (a1.size ≤ a0.size) = false := decide_eq_false (fun h => c3 (Int.ofNat_le.mpr h))
  clear c3
  obtain rfl := Option.some.inj H
  go_enter Try.func95, Try.ntmps95
  go_wp2
  go_ret
  exact ⟨by first | rfl | (simp; done) | (simp [y2o]; done) | (simp [*]; done), by repeat (first | exact Drawn0.refl _ | apply Drawn0.step)⟩
 rw [if_pos c3] at H
 have aA := dt_ c3
 have aB : decide (a1.size ≤ a0.size) = true := decide_eq_true (Int.ofNat_le.mp c3)
 clear c3
 by_cases c4 : 0 ≤ (a1.size : Int)
 rotate_left
 ·rw [if_neg c4] at H
  exact absurd H (by simp)
 rw [if_pos c4] at H
 have aC := eq_true c4
 have aF := dt_ c4
 clear c4
 by_cases c5 : (a1.size : Int) ≤ (a0.size : Int)
 rotate_left
 ·rw [if_neg c5] at H
  exact absurd H (by simp)
 rw [if_pos c5] at H
 have aD := eq_true c5
 have aE := dt_ c5
 clear c5
 obtain rfl := Option.some.inj H
 go_enter Try.func95, Try.ntmps95
 go_wp2
 go_ret
 exact ⟨by first | rfl | (simp; done) | (simp [y2o]; done) | (simp [*]; done), by repeat (first | exact Drawn0.refl _ | apply Drawn0.step)⟩
def zq18.f (a0 : ByteArray) (a1 : ByteArray) : Option (Bool) := (zqd.f a0 a1).bind fun t180 => (some t180)
theorem zq18.calls (a0 : ByteArray) (a1 : ByteArray) (r : Bool) (w : World) (h : zq18.f a0 a1 = some r) :
  Calls Try.prog 62 #[.string a0, .string a1] w fun e w' => e = .returned (.bool r) ∧ Drawn0 w w' := by
 have H : ((zqd.f a0 a1).bind fun aA => (some aA)) = some r := h
 clear h
 obtain ⟨aA, A3, H⟩ := bq_ H
 (try dsimp only at H)
 obtain rfl := Option.some.inj H
 go_enter Try.func62, Try.ntmps62
 go_wp2_with (first | (refine gc_ 95 ?_; refine gl_ (some 7) Try.func95 #[.string a0, .string a1] ?_; (with_reducible refine (zqd.calls a0 a1 aA _ A3.out).mono ?_); rintro e w' ⟨rfl, ⟨nd, rfl⟩⟩; refine ⟨_, rfl, ?_⟩))
 go_ret
 exact ⟨by first | rfl | (simp; done) | (simp [y2o]; done) | (simp [*]; done), by repeat (first | exact Drawn0.refl _ | apply Drawn0.step)⟩
mutual
def zq1v.j0 : Nat → ByteArray → Int → Int → Bool → Option (Int × Int × Int)
  | 0, _, _, _, _ => none
  | k + 1, x0, x1, x2, x26 => if x26 = true then (some (0, 0, 1)) else (if x2 > (wrap64 ((x0.size : Int) - x1)) then (some (0, 0, 8)) else (zq1v.l0 k x0 x1 x2 0 (wrap64 (x2 - 1))))
def zq1v.l0 : Nat → ByteArray → Int → Int → Int → Int → Option (Int × Int × Int)
  | 0, _, _, _, _, _ => none
  | k + 1, x0, x1, x2, x9, x10 => if x10 ≥ 0 then (if 0 ≤ (wrap64 (x1 + x10)) then (if (wrap64 (x1 + x10)) < (x0.size : Int) then (zq1v.l0 k x0 x1 x2 (Go.bits .or .i64 (wrap64 (x9 * 256)) (wrap64 (bt x0 (wrap64 (x1 + x10))))) (wrap64 (x10 - 1))) else (none)) else (none)) else (some (x9, wrap64 (x1 + x2), 0))
end
def zq1v.f (k : Nat) (a0 : ByteArray) (a1 : Int) (a2 : Int) : Option (Int × Int × Int) := if a2 < 1 then (zq1v.j0 k a0 a1 a2 true) else (if a2 > 7 then (zq1v.j0 k a0 a1 a2 true) else (if a1 < 0 then (zq1v.j0 k a0 a1 a2 true) else (zq1v.j0 k a0 a1 a2 (decide (a1 > (a0.size : Int))))))
theorem zq1v.mono_l : ∀ k, (∀ y0 y1 y2 y3, LeO (zq1v.j0 k y0 y1 y2 y3) (zq1v.j0 (k + 1) y0 y1 y2 y3)) ∧ (∀ y0 y1 y2 y3 y4, LeO (zq1v.l0 k y0 y1 y2 y3 y4) (zq1v.l0 (k + 1) y0 y1 y2 y3 y4))
 | 0 => ⟨fun _ _ _ _ r h => by simp [zq1v.j0] at h, fun _ _ _ _ _ r h => by simp [zq1v.l0] at h⟩
 | k + 1 => by
  obtain ⟨ih0, ih1⟩ := zq1v.mono_l k
  refine ⟨?_, ?_⟩
  ·intro y0 y1 y2 y3
   unfold zq1v.j0
   with_reducible repeat' first | apply ih0 | apply ih1 | exact LeO.refl _ | exact LeO.none _ | refine LeO.ite ?_ ?_ | refine LeO.bind ?_ (fun _ => ?_)
  ·intro y0 y1 y2 y3 y4
   unfold zq1v.l0
   with_reducible repeat' first | apply ih0 | apply ih1 | exact LeO.refl _ | exact LeO.none _ | refine LeO.ite ?_ ?_ | refine LeO.bind ?_ (fun _ => ?_)
theorem zq1v.mono : ∀ a0 a1 a2 k, LeO (zq1v.f k a0 a1 a2) (zq1v.f (k + 1) a0 a1 a2) := by
 intro a0 a1 a2 k
 obtain ⟨ih0, ih1⟩ := zq1v.mono_l k
 unfold zq1v.f
 with_reducible repeat' first | apply ih0 | apply ih1 | exact LeO.refl _ | exact LeO.none _ | refine LeO.ite ?_ ?_ | refine LeO.bind ?_ (fun _ => ?_)
theorem zq1v.calls (k : Nat) (a0 : ByteArray) (a1 : Int) (a2 : Int) (r1 : Int) (r2 : Int) (r3 : Int) (w : World) (h : zq1v.f k a0 a1 a2 = some (r1, r2, r3)) :
  Calls Try.prog 80 #[.string a0, .int .i64 a1, .int .i64 a2] w fun e w' => e = .returned (.tuple #[.int .i64 r1, .int .i64 r2, .int .i64 r3]) ∧ Drawn0 w w' := by
 have H : (if a2 < 1 then (zq1v.j0 k a0 a1 a2 true) else (if a2 > 7 then (zq1v.j0 k a0 a1 a2 true) else (if a1 < 0 then (zq1v.j0 k a0 a1 a2 true) else (zq1v.j0 k a0 a1 a2 (decide (a1 > (a0.size : Int))))))) = some (r1, r2, r3) := h
 clear h
 have aN := q_ H
 clear H
 go_enter Try.func80, Try.ntmps80
 go_upto_region 1 with (fail)
 go_cut [26] (fun aW wc => ∃ (kq : Nat) (aD : Bool), aW = .bool aD ∧ Aside0 (zq1v.j0 kq a0 a1 a2 aD = some (r1, r2, r3)) ∧ Aside0 (kq ≤ k) ∧ Drawn0 w wc)
 case first =>
  have H := aN.out
  clear aN
  by_cases c5 : a2 < 1
  ·rw [if_pos c5] at H
   have aE := dt_ c5
   clear c5
   (first | rw [aE] | (simp only [y2h, y2g]; rw [aE]) | skip)
   have H' := q_ H
   clear H
   go_wp2
   go_meet
   case rel => exact ⟨_, (true), cl_, H', ⟨oz_⟩, by repeat (first | exact Drawn0.refl _ | apply Drawn0.step)⟩
  rw [if_neg c5] at H
  have aE := df_ c5
  clear c5
  (first | rw [aE] | (simp only [y2h, y2g]; rw [aE]) | skip)
  by_cases c6 : a2 > 7
  ·rw [if_pos c6] at H
   have aM := dt_ c6
   clear c6
   have H' := q_ H
   clear H
   go_wp2
   go_meet
   case rel => exact ⟨_, (true), cl_, H', ⟨oz_⟩, by repeat (first | exact Drawn0.refl _ | apply Drawn0.step)⟩
  rw [if_neg c6] at H
  have aM := df_ c6
  clear c6
  by_cases c7 : a1 < 0
  ·rw [if_pos c7] at H
   have aL := dt_ c7
   clear c7
   have H' := q_ H
   clear H
   go_wp2
   go_meet
   case rel => exact ⟨_, (true), cl_, H', ⟨oz_⟩, by repeat (first | exact Drawn0.refl _ | apply Drawn0.step)⟩
  rw [if_neg c7] at H
  have aL := df_ c7
  clear c7
  have H' := q_ H
  clear H
  go_wp2
  go_meet
  case rel => exact ⟨_, (decide (a1 > (a0.size : Int))), cl_, H', ⟨oz_⟩, by repeat (first | exact Drawn0.refl _ | apply Drawn0.step)⟩
 clear aN
 obtain ⟨kq, aD, rfl, HA, aP, ⟨aY, rfl⟩⟩ := hcut
 obtain _ | kj3 := kq
 ·exact nn_ HA
 have H := HA.out
 clear HA
 simp only [zq1v.j0] at H
 by_cases c8 : aD = true
 ·subst c8
  rw [if_pos rfl] at H
  simp only [Option.some.injEq, Prod.mk.injEq] at H
  obtain ⟨rfl, rfl, rfl⟩ := H
  go_wp2
  go_ret3
  exact ⟨by first | rfl | (simp; done) | (simp [y2o]; done) | (simp [*]; done), by repeat (first | exact Drawn0.refl _ | apply Drawn0.step)⟩
 replace c8 := Bool.eq_false_iff.mpr c8
 subst c8
 rw [if_neg (show ¬ (false = true) by decide)] at H
 by_cases c9 : a2 > (wrap64 ((a0.size : Int) - a1))
 ·rw [if_pos c9] at H
  have aO := dt_ c9
  clear c9
  simp only [Option.some.injEq, Prod.mk.injEq] at H
  obtain ⟨rfl, rfl, rfl⟩ := H
  go_wp2
  go_ret3
  exact ⟨by first | rfl | (simp; done) | (simp [y2o]; done) | (simp [*]; done), by repeat (first | exact Drawn0.refl _ | apply Drawn0.step)⟩
 rw [if_neg c9] at H
 have aO := df_ c9
 clear c9
 have H' := q_ H
 clear H
 go_wp2
 go_loopg [9, 10] kj3 (fun kq v9 aV w' => ∃ (aF : Int) (aA : Int), v9 = .int .i64 aF ∧ aV = .int .i64 aA ∧ Aside0 (zq1v.l0 kq a0 a1 a2 aF aA = some (r1, r2, r3)) ∧ Aside0 (kq ≤ kj3) ∧ Drawn0 w w')
 case atStart => exact ⟨(0), (wrap64 (a2 - 1)), cl_, cl_, H', ⟨Nat.le_refl _⟩, by repeat (first | exact Drawn0.refl _ | apply Drawn0.step)⟩
 case round =>
  clear H'
  obtain ⟨aF, aA, rfl, rfl, HA, aU, ⟨m2, rfl⟩⟩ := hrel
  obtain _ | k2 := gk
  ·exact nn_ HA
  have H := HA.out
  clear HA
  simp only [zq1v.l0] at H
  by_cases aG : aA ≥ 0
  rotate_left
  ·rw [if_neg aG] at H
   have aH := df_ aG
   clear aG
   simp only [Option.some.injEq, Prod.mk.injEq] at H
   obtain ⟨rfl, rfl, rfl⟩ := H
   go_wp2
   go_ret3
   exact ⟨by first | rfl | (simp; done) | (simp [y2o]; done) | (simp [*]; done), by repeat (first | exact Drawn0.refl _ | apply Drawn0.step)⟩
  rw [if_pos aG] at H
  have aH := dt_ aG
  clear aG
  obtain ⟨aB, aC⟩ : ∃ j_ : Int, (wrap64 (a1 + aA)) = j_ := ⟨_, rfl⟩
  replace H : (if 0 ≤ (aB) then (if (aB) < (a0.size : Int) then (zq1v.l0 k2 a0 a1 a2 (Go.bits .or .i64 (wrap64 (aF * 256)) (wrap64 (bt a0 (aB)))) (wrap64 (aA - 1))) else (none)) else (none)) = some (r1, r2, r3) := by first | (rw [aC] at H; exact H) | (simp only [aC] at H ⊢; exact H)
  have aK : (IntKind.i64.wrap (a1 + aA)) = aB := (y2h _).trans aC
  by_cases aI : 0 ≤ (aB)
  rotate_left
  ·rw [if_neg aI] at H
   exact absurd H (by simp)
  rw [if_pos aI] at H
  have aS := dt_ aI
  clear aI
  by_cases aJ : (aB) < (a0.size : Int)
  rotate_left
  ·rw [if_neg aJ] at H
   exact absurd H (by simp)
  rw [if_pos aJ] at H
  have aR := dt_ aJ
  clear aJ
  have H' := q_ H
  clear H
  have aT : 0 ≤ ((aB) : Int) := oa_
  have aQ : (aB) < (a0.size : Int) := oa_
  have aX := y15 a0 (aB)
  replace aT := eq_true aT
  replace aQ := eq_true aQ
  go_wp2
  go_roundg k2
  case measure => have := aP.out; have := aU.out; omega
  case rel => exact ⟨(Go.bits .or .i64 (wrap64 (aF * 256)) (wrap64 (bt a0 (aB)))), (wrap64 (aA - 1)), (by first | rfl | (simp; done) | (simp only [← aC] <;> (first | rfl | simp)) | (simp [y2o]; done) | (simp [*]; done)), cl_, H', ⟨by have := aP.out; have := aU.out; omega⟩, by repeat (first | exact Drawn0.refl _ | apply Drawn0.step)⟩
end Go.Proofs.Ytenlmckahaniiaa.K
end
section
namespace Go.Proofs.Ytenlmckahaniiaa.K
open Go.RowKit Go.Proofs.YtW.P Go.Proofs.YtW.L
def zq1k.f (k : Nat) (a0 : ByteArray) (a1 : Int) : Option (ByteArray × Int × Int) := (zq1v.f k a0 a1 2).bind fun bt181 => (if bt181.2.2 = 0 then (if bt181.1 > (wrap64 ((a0.size : Int) - bt181.2.1)) then (some (nB_, 0, 8)) else (if 0 ≤ bt181.2.1 then (if bt181.2.1 ≤ (a0.size : Int) then (if 0 ≤ bt181.1 then (if bt181.1 ≤ ((a0.extract (bt181.2.1 : Int).toNat a0.size).size : Int) then (some ((a0.extract (bt181.2.1 : Int).toNat a0.size).extract 0 (bt181.1 : Int).toNat, wrap64 (bt181.2.1 + bt181.1), 0)) else (none)) else (none)) else (none)) else (none))) else (some (nB_, 0, bt181.2.2)))
theorem zq1k.mono : ∀ a0 a1 k, LeO (zq1k.f k a0 a1) (zq1k.f (k + 1) a0 a1) := by
 intro a0 a1 k
 unfold zq1k.f
 with_reducible repeat' first | apply zq1v.mono | exact LeO.refl _ | exact LeO.none _ | refine LeO.ite ?_ ?_ | refine LeO.bind ?_ (fun _ => ?_)
theorem zq1k.calls (k : Nat) (a0 : ByteArray) (a1 : Int) (r1 : ByteArray) (r2 : Int) (r3 : Int) (w : World) (h : zq1k.f k a0 a1 = some (r1, r2, r3)) :
  Calls Try.prog 96 #[.string a0, .int .i64 a1] w fun e w' => e = .returned (.tuple #[.string r1, .int .i64 r2, .int .i64 r3]) ∧ Drawn0 w w' := by
 have H : ((zq1v.f k a0 a1 2).bind fun aA => (if aA.2.2 = 0 then (if aA.1 > (wrap64 ((a0.size : Int) - aA.2.1)) then (some (nB_, 0, 8)) else (if 0 ≤ aA.2.1 then (if aA.2.1 ≤ (a0.size : Int) then (if 0 ≤ aA.1 then (if aA.1 ≤ ((a0.extract (aA.2.1 : Int).toNat a0.size).size : Int) then (some ((a0.extract (aA.2.1 : Int).toNat a0.size).extract 0 (aA.1 : Int).toNat, wrap64 (aA.2.1 + aA.1), 0)) else (none)) else (none)) else (none)) else (none))) else (some (nB_, 0, aA.2.2)))) = some (r1, r2, r3) := h
 clear h
 obtain ⟨⟨aC, aB, aD⟩, A3, H⟩ := bq_ H
 (try dsimp only at H)
 by_cases c4 : aD = 0
 rotate_left
 ·rw [if_neg c4] at H
  have aH := ef_ c4
  have aF := nt_ c4
  simp only [Option.some.injEq, Prod.mk.injEq] at H
  obtain ⟨rfl, rfl, rfl⟩ := H
  go_enter Try.func96, Try.ntmps96
  go_wp2_with (first | (refine gc_ 80 ?_; refine gl_ (some 13) Try.func80 #[.string a0, .int .i64 a1, .int .i64 2] ?_; (with_reducible refine (zq1v.calls k a0 a1 2 aC aB aD _ A3.out).mono ?_); rintro e w' ⟨rfl, ⟨nd, rfl⟩⟩; refine ⟨_, rfl, ?_⟩))
  go_ret3
  exact ⟨by first | rfl | (simp; done) | (simp [y2o]; done) | (simp [*]; done), by repeat (first | exact Drawn0.refl _ | apply Drawn0.step)⟩
 rw [if_pos c4] at H
 have aH := et_ c4
 have aF := nf_ c4
 clear c4
 by_cases c5 : aC > (wrap64 ((a0.size : Int) - aB))
 ·rw [if_pos c5] at H
  have aI := dt_ c5
  clear c5
  simp only [Option.some.injEq, Prod.mk.injEq] at H
  obtain ⟨rfl, rfl, rfl⟩ := H
  go_enter Try.func96, Try.ntmps96
  go_wp2_with (first | (refine gc_ 80 ?_; refine gl_ (some 13) Try.func80 #[.string a0, .int .i64 a1, .int .i64 2] ?_; (with_reducible refine (zq1v.calls k a0 a1 2 aC aB aD _ A3.out).mono ?_); rintro e w' ⟨rfl, ⟨nd, rfl⟩⟩; refine ⟨_, rfl, ?_⟩))
  go_ret3
  exact ⟨by first | rfl | (simp; done) | (simp [y2o]; done) | (simp [*]; done), by repeat (first | exact Drawn0.refl _ | apply Drawn0.step)⟩
 rw [if_neg c5] at H
 have aI := df_ c5
 clear c5
 by_cases c6 : 0 ≤ aB
 rotate_left
 ·rw [if_neg c6] at H
  exact absurd H (by simp)
 rw [if_pos c6] at H
 have aN := eq_true c6
 have aL := dt_ c6
 clear c6
 by_cases c7 : aB ≤ (a0.size : Int)
 rotate_left
 ·rw [if_neg c7] at H
  exact absurd H (by simp)
 rw [if_pos c7] at H
 have aM := eq_true c7
 have aP := dt_ c7
 clear c7
 by_cases c8 : 0 ≤ aC
 rotate_left
 ·rw [if_neg c8] at H
  exact absurd H (by simp)
 rw [if_pos c8] at H
 have aJ := eq_true c8
 have aO := dt_ c8
 clear c8
 by_cases c9 : aC ≤ ((a0.extract (aB : Int).toNat a0.size).size : Int)
 rotate_left
 ·rw [if_neg c9] at H
  exact absurd H (by simp)
 rw [if_pos c9] at H
 have aQ := eq_true c9
 have aG := dt_ c9
 (try (have aE := aG; simp only [ByteArray.size_extract, Nat.min_self] at aE))
 (try (have aK := eq_true (of_decide_eq_true aE)))
 clear c9
 simp only [Option.some.injEq, Prod.mk.injEq] at H
 obtain ⟨rfl, rfl, rfl⟩ := H
 go_enter Try.func96, Try.ntmps96
 go_wp2_with (first | (refine gc_ 80 ?_; refine gl_ (some 13) Try.func80 #[.string a0, .int .i64 a1, .int .i64 2] ?_; (with_reducible refine (zq1v.calls k a0 a1 2 aC aB aD _ A3.out).mono ?_); rintro e w' ⟨rfl, ⟨nd, rfl⟩⟩; refine ⟨_, rfl, ?_⟩))
 go_ret3
 exact ⟨by first | rfl | (simp; done) | (simp [y2o]; done) | (simp [*]; done), by repeat (first | exact Drawn0.refl _ | apply Drawn0.step)⟩
def IsS74 (w0 W : World) (g : Nat) (f0 : ByteArray) (f1 : Int) (f2 : Bool) : Prop := W.heap[g]? = some (.cells #[.string f0, .int .i64 f1, .bool f2] 74 (0, 0)) ∧ w0.heap.size ≤ g
theorem IsS74.grown {w0 W : World} {g : Nat} {f0 : ByteArray} {f1 : Int} {f2 : Bool} {W1 : World} {row : Option Nat} (h : IsS74 w0 W g f0 f1 f2) (hw : W.grownBy W1 row) (hne : some g ≠ row) : IsS74 w0 W1 g f0 f1 f2 := by
 obtain ⟨hb, hg⟩ := h
 exact ⟨y0r hb hw hne, hg⟩
theorem IsS74.kept {w0 W : World} {g : Nat} {f0 : ByteArray} {f1 : Int} {f2 : Bool} {W1 : World} {S : Nat → Prop} (h : IsS74 w0 W g f0 f1 f2) (hk : Kept W W1 S) (hne : ¬ S g) : IsS74 w0 W1 g f0 f1 f2 := by
 obtain ⟨hb, hg⟩ := h
 exact ⟨blk_kept hb hk hne, hg⟩
theorem IsS74.below {w0 W : World} {g : Nat} {f0 : ByteArray} {f1 : Int} {f2 : Bool} {W1 : World} (h : IsS74 w0 W g f0 f1 f2) (hw : Below W.heap.size W W1) : IsS74 w0 W1 g f0 f1 f2 := h.grown (y2e hw none) (by simp)
theorem IsS74.alloc {w0 W : World} {g : Nat} {f0 : ByteArray} {f1 : Int} {f2 : Bool} (h : IsS74 w0 W g f0 f1 f2) (o : Obj) : IsS74 w0 (W.alloc o) g f0 f1 f2 := h.below (y0f (Below.refl _ _) o)
theorem IsS74.drewN {w0 W : World} {g : Nat} {f0 : ByteArray} {f1 : Int} {f2 : Bool} (h : IsS74 w0 W g f0 f1 f2) (m : Nat) : IsS74 w0 (W.drewN m) g f0 f1 f2 := h
theorem IsS74.drew {w0 W : World} {g : Nat} {f0 : ByteArray} {f1 : Int} {f2 : Bool} (h : IsS74 w0 W g f0 f1 f2) : IsS74 w0 W.drew g f0 f1 f2 := h
theorem IsS74.at_ {w0 W : World} {g : Nat} {f0 : ByteArray} {f1 : Int} {f2 : Bool} {w' : World} {m : Nat} (hq : W.drewN m = w') (h : IsS74 w0 W g f0 f1 f2) : IsS74 w0 w' g f0 f1 f2 := by subst hq; exact IsS74.drewN h m
theorem IsS74.apart {w0 W : World} {g : Nat} {f0 : ByteArray} {f1 : Int} {f2 : Bool} {α : Type} {d : Kd α} {e : Nat} {base : Nat} {ok : Nat → Prop} {v : Value} {xs : List α} (h : IsS74 w0 W g f0 f1 f2) (ho : d.R e W base ok v xs) (ht : ∀ q, q ∈ e :: d.E → q ≠ 74) : d.R e W base (fun k => ok k ∧ k ≠ g) v xs := by
 obtain ⟨hb, hg⟩ := h
 exact Kd.R_types ho hb ht
theorem IsS74.own_ne {w0 W : World} {g : Nat} {f0 : ByteArray} {f1 : Int} {f2 : Bool} {α : Type} {d : Kd α} {e : Nat} {base : Nat} {ok : Nat → Prop} {v : Value} {xs : List α} (h : IsS74 w0 W g f0 f1 f2) (ho : d.R e W base ok v xs) (ht : e ≠ 74) : some g ≠ v.ownBlock := by
 obtain ⟨hb, hg⟩ := h
 exact Kd.R_ne ho hb ht
theorem IsS74.lt {w0 W : World} {g : Nat} {f0 : ByteArray} {f1 : Int} {f2 : Bool} (h : IsS74 w0 W g f0 f1 f2) : g < W.heap.size := by
 obtain ⟨hb, hg⟩ := h
 exact y0s hb
theorem IsS74.ge {w0 W : World} {g : Nat} {f0 : ByteArray} {f1 : Int} {f2 : Bool} (h : IsS74 w0 W g f0 f1 f2) : w0.heap.size ≤ g := by
 obtain ⟨hb, hg⟩ := h
 exact hg
theorem IsS74.far {w0 W : World} {g : Nat} {f0 : ByteArray} {f1 : Int} {f2 : Bool} {p : Addr} (h : IsS74 w0 W g f0 f1 f2) (hne : g ≠ p.block) (u : Value) : IsS74 w0 (W.setCell p u) g f0 f1 f2 := by
 obtain ⟨hb, hg⟩ := h
 exact ⟨blk_far hb hne u, hg⟩
theorem y1b {W : World} {g : Nat} {f0 : ByteArray} {f1 : Int} {f2 : Bool} (h : W.heap[g]? = some (.cells #[.string f0, .int .i64 f1, .bool f2] 74 (0, 0))) : W.cell? ⟨g, 0, none⟩ = some (.string f0) := (y0o h 0).trans rfl
theorem IsS74.set_0 {w0 W : World} {g : Nat} {f0 : ByteArray} {f1 : Int} {f2 : Bool} (h : IsS74 w0 W g f0 f1 f2) (x : ByteArray) : IsS74 w0 (W.setCell ⟨g, 0, none⟩ (.string x)) g x f1 f2 := by
 obtain ⟨hb, hg⟩ := h
 exact ⟨by simpa using y0u hb 0 (.string x), hg⟩
theorem y1c {W : World} {g : Nat} {f0 : ByteArray} {f1 : Int} {f2 : Bool} (h : W.heap[g]? = some (.cells #[.string f0, .int .i64 f1, .bool f2] 74 (0, 0))) : W.cell? ⟨g, 1, none⟩ = some (.int .i64 f1) := (y0o h 1).trans rfl
theorem IsS74.set_1 {w0 W : World} {g : Nat} {f0 : ByteArray} {f1 : Int} {f2 : Bool} (h : IsS74 w0 W g f0 f1 f2) (x : Int) : IsS74 w0 (W.setCell ⟨g, 1, none⟩ (.int .i64 x)) g f0 x f2 := by
 obtain ⟨hb, hg⟩ := h
 exact ⟨by simpa using y0u hb 1 (.int .i64 x), hg⟩
theorem y1d {W : World} {g : Nat} {f0 : ByteArray} {f1 : Int} {f2 : Bool} (h : W.heap[g]? = some (.cells #[.string f0, .int .i64 f1, .bool f2] 74 (0, 0))) : W.cell? ⟨g, 2, none⟩ = some (.bool f2) := (y0o h 2).trans rfl
theorem IsS74.set_2 {w0 W : World} {g : Nat} {f0 : ByteArray} {f1 : Int} {f2 : Bool} (h : IsS74 w0 W g f0 f1 f2) (x : Bool) : IsS74 w0 (W.setCell ⟨g, 2, none⟩ (.bool x)) g f0 f1 x := by
 obtain ⟨hb, hg⟩ := h
 exact ⟨by simpa using y0u hb 2 (.bool x), hg⟩
theorem IsS74.new (w0 W : World) (f0 : ByteArray) (f1 : Int) (f2 : Bool) (hB : Below w0.heap.size w0 W) : IsS74 w0 (W.alloc (.cells #[.string f0, .int .i64 f1, .bool f2] 74)) W.heap.size f0 f1 f2 := ⟨by simpa using heap_alloc_new W _, hB.size⟩
theorem s74_ {p q : Prop} (h : q) (g : q → p := by intro h_; repeat (first | (with_reducible first | exact h_ | apply IsS74.alloc | apply IsS74.drewN | apply IsS74.drew | apply IsS74.set_0 | apply IsS74.set_1 | apply IsS74.set_2 | refine IsS74.far ?_ (Aside0.out (by assumption)) _) | exact h_)) : p := g h
def zq11.f (k : Nat) (s0_0 : ByteArray) (s0_1 : Int) (s0_2 : Bool) : Option (ByteArray × ByteArray × Int × Bool) := (zq1k.f k s0_0 s0_1).bind fun bt184 => (if bt184.2.2 = 0 then (some (bt184.1, s0_0, bt184.2.1, s0_2)) else (some (nB_, s0_0, s0_1, true)))
theorem zq11.mono : ∀ a0 a1 a2 k, LeO (zq11.f k a0 a1 a2) (zq11.f (k + 1) a0 a1 a2) := by
 intro a0 a1 a2 k
 unfold zq11.f
 with_reducible repeat' first | apply zq1k.mono | exact LeO.refl _ | exact LeO.none _ | refine LeO.ite ?_ ?_ | refine LeO.bind ?_ (fun _ => ?_)
theorem zq11.calls (k : Nat) (g : Nat) (aA : ByteArray) (aB : Int) (aI : Bool) (r1 : ByteArray) (r2 : ByteArray) (r3 : Int) (r4 : Bool) (w0 w : World) (hI : IsS74 w0 w g aA aB aI) (hB : Below w0.heap.size w0 w) (h : zq11.f k aA aB aI = some (r1, r2, r3, r4)) :
  Calls Try.prog 63 #[.pointer (some ⟨g, 0, none⟩)] w fun e w' => e = .returned (.string r1) ∧ IsS74 w0 w' g r2 r3 r4 ∧ Below w0.heap.size w0 w' ∧ KeepBut w w' g none := by
 have aJ := q_ hI
 have HK := q_ (KeepBut.refl w g none)
 have HL := q_ hB.size
 clear hI
 have a0 := q_ hB.size
 have HB := q_ hB
 clear hB
 have H : ((zq1k.f k aA aB).bind fun aH => (if aH.2.2 = 0 then (some (aH.1, aA, aH.2.1, aI)) else (some (nB_, aA, aB, true)))) = some (r1, r2, r3, r4) := h
 clear h
 obtain ⟨⟨aG, aF, aC⟩, A2, H⟩ := bq_ H
 (try dsimp only at H)
 by_cases c3 : aC = 0
 rotate_left
 ·rw [if_neg c3] at H
  have aX := ef_ c3
  have aK := nt_ c3
  simp only [Option.some.injEq, Prod.mk.injEq] at H
  obtain ⟨rfl, rfl, rfl, rfl⟩ := H
  obtain ⟨aD, aU⟩ := aJ.out
  have aQ := y1b aD
  have aM := y1c aD
  have aW := y1d aD
  have aR := y0q aD 0
  have aO := y0q aD 1
  have aL := y0q aD 2
  clear aD aU
  go_enter Try.func63, Try.ntmps63
  go_wp2_with (first | (go_at_call 96; (with_reducible refine (zq1k.calls k aA aB aG aF aC _ A2.out).mono ?_); rintro e w' ⟨rfl, ⟨nd, rfl⟩⟩; (try first | exact ⟨rfl, _, World.drewN_drewN _ _ _⟩ | exact ⟨rfl, _, Eq.trans (World.drewN_drewN _ _ _) (congrArg (World.drewN _) (Nat.add_assoc _ _ _))⟩)))
  repeat (go_quiet (first | (go_at_call 96; (with_reducible refine (zq1k.calls k aA aB aG aF aC _ A2.out).mono ?_); rintro e w' ⟨rfl, ⟨nd, rfl⟩⟩; (try first | exact ⟨rfl, _, World.drewN_drewN _ _ _⟩ | exact ⟨rfl, _, Eq.trans (World.drewN_drewN _ _ _) (congrArg (World.drewN _) (Nat.add_assoc _ _ _))⟩))); try go_wp2_with (first | (go_at_call 96; (with_reducible refine (zq1k.calls k aA aB aG aF aC _ A2.out).mono ?_); rintro e w' ⟨rfl, ⟨nd, rfl⟩⟩; (try first | exact ⟨rfl, _, World.drewN_drewN _ _ _⟩ | exact ⟨rfl, _, Eq.trans (World.drewN_drewN _ _ _) (congrArg (World.drewN _) (Nat.add_assoc _ _ _))⟩))))
  go_ret
  exact ⟨ew_, s74_ aJ.out, hb_, hk_⟩
 rw [if_pos c3] at H
 have aX := et_ c3
 have aK := nf_ c3
 clear c3
 simp only [Option.some.injEq, Prod.mk.injEq] at H
 obtain ⟨rfl, rfl, rfl, rfl⟩ := H
 obtain ⟨aE, aS⟩ := aJ.out
 have aZ := y1b aE
 have aT := y1c aE
 have aN := y1d aE
 have aV := y0q aE 0
 have aY := y0q aE 1
 have aP := y0q aE 2
 clear aE aS
 go_enter Try.func63, Try.ntmps63
 go_wp2_with (first | (go_at_call 96; (with_reducible refine (zq1k.calls k aA aB aG aF aC _ A2.out).mono ?_); rintro e w' ⟨rfl, ⟨nd, rfl⟩⟩; (try first | exact ⟨rfl, _, World.drewN_drewN _ _ _⟩ | exact ⟨rfl, _, Eq.trans (World.drewN_drewN _ _ _) (congrArg (World.drewN _) (Nat.add_assoc _ _ _))⟩)))
 repeat (go_quiet (first | (go_at_call 96; (with_reducible refine (zq1k.calls k aA aB aG aF aC _ A2.out).mono ?_); rintro e w' ⟨rfl, ⟨nd, rfl⟩⟩; (try first | exact ⟨rfl, _, World.drewN_drewN _ _ _⟩ | exact ⟨rfl, _, Eq.trans (World.drewN_drewN _ _ _) (congrArg (World.drewN _) (Nat.add_assoc _ _ _))⟩))); try go_wp2_with (first | (go_at_call 96; (with_reducible refine (zq1k.calls k aA aB aG aF aC _ A2.out).mono ?_); rintro e w' ⟨rfl, ⟨nd, rfl⟩⟩; (try first | exact ⟨rfl, _, World.drewN_drewN _ _ _⟩ | exact ⟨rfl, _, Eq.trans (World.drewN_drewN _ _ _) (congrArg (World.drewN _) (Nat.add_assoc _ _ _))⟩))))
 go_ret
 exact ⟨ew_, s74_ aJ.out, hb_, hk_⟩
def zq17.f (k : Nat) (s0_0 : ByteArray) (s0_1 : Int) (s0_2 : Bool) (a1 : Int) : Option (Int × ByteArray × Int × Bool) := (zq1v.f k s0_0 s0_1 a1).bind fun bt187 => (if bt187.2.2 = 0 then (some (bt187.1, s0_0, bt187.2.1, s0_2)) else (some (0, s0_0, s0_1, true)))
theorem zq17.mono : ∀ a0 a1 a2 a3 k, LeO (zq17.f k a0 a1 a2 a3) (zq17.f (k + 1) a0 a1 a2 a3) := by
 intro a0 a1 a2 a3 k
 unfold zq17.f
 with_reducible repeat' first | apply zq1v.mono | exact LeO.refl _ | exact LeO.none _ | refine LeO.ite ?_ ?_ | refine LeO.bind ?_ (fun _ => ?_)
theorem zq17.calls (k : Nat) (g : Nat) (aA : ByteArray) (aB : Int) (aI : Bool) (a1 : Int) (r1 : Int) (r2 : ByteArray) (r3 : Int) (r4 : Bool) (w0 w : World) (hI : IsS74 w0 w g aA aB aI) (hB : Below w0.heap.size w0 w) (h : zq17.f k aA aB aI a1 = some (r1, r2, r3, r4)) :
  Calls Try.prog 64 #[.pointer (some ⟨g, 0, none⟩), .int .i64 a1] w fun e w' => e = .returned (.int .i64 r1) ∧ IsS74 w0 w' g r2 r3 r4 ∧ Below w0.heap.size w0 w' ∧ KeepBut w w' g none := by
 have aJ := q_ hI
 have HK := q_ (KeepBut.refl w g none)
 have HL := q_ hB.size
 clear hI
 have a0 := q_ hB.size
 have HB := q_ hB
 clear hB
 have H : ((zq1v.f k aA aB a1).bind fun aH => (if aH.2.2 = 0 then (some (aH.1, aA, aH.2.1, aI)) else (some (0, aA, aB, true)))) = some (r1, r2, r3, r4) := h
 clear h
 obtain ⟨⟨aG, aF, aC⟩, A3, H⟩ := bq_ H
 (try dsimp only at H)
 by_cases c4 : aC = 0
 rotate_left
 ·rw [if_neg c4] at H
  have aX := ef_ c4
  have aP := nt_ c4
  simp only [Option.some.injEq, Prod.mk.injEq] at H
  obtain ⟨rfl, rfl, rfl, rfl⟩ := H
  obtain ⟨aD, aQ⟩ := aJ.out
  have aT := y1b aD
  have aZ := y1c aD
  have aY := y1d aD
  have aN := y0q aD 0
  have aR := y0q aD 1
  have aL := y0q aD 2
  clear aD aQ
  go_enter Try.func64, Try.ntmps64
  go_wp2_with (first | (go_at_call 80; (with_reducible refine (zq1v.calls k aA aB a1 aG aF aC _ A3.out).mono ?_); rintro e w' ⟨rfl, ⟨nd, rfl⟩⟩; (try first | exact ⟨rfl, _, World.drewN_drewN _ _ _⟩ | exact ⟨rfl, _, Eq.trans (World.drewN_drewN _ _ _) (congrArg (World.drewN _) (Nat.add_assoc _ _ _))⟩)))
  repeat (go_quiet (first | (go_at_call 80; (with_reducible refine (zq1v.calls k aA aB a1 aG aF aC _ A3.out).mono ?_); rintro e w' ⟨rfl, ⟨nd, rfl⟩⟩; (try first | exact ⟨rfl, _, World.drewN_drewN _ _ _⟩ | exact ⟨rfl, _, Eq.trans (World.drewN_drewN _ _ _) (congrArg (World.drewN _) (Nat.add_assoc _ _ _))⟩))); try go_wp2_with (first | (go_at_call 80; (with_reducible refine (zq1v.calls k aA aB a1 aG aF aC _ A3.out).mono ?_); rintro e w' ⟨rfl, ⟨nd, rfl⟩⟩; (try first | exact ⟨rfl, _, World.drewN_drewN _ _ _⟩ | exact ⟨rfl, _, Eq.trans (World.drewN_drewN _ _ _) (congrArg (World.drewN _) (Nat.add_assoc _ _ _))⟩))))
  go_ret
  exact ⟨ew_, s74_ aJ.out, hb_, hk_⟩
 rw [if_pos c4] at H
 have aX := et_ c4
 have aP := nf_ c4
 clear c4
 simp only [Option.some.injEq, Prod.mk.injEq] at H
 obtain ⟨rfl, rfl, rfl, rfl⟩ := H
 obtain ⟨aE, aV⟩ := aJ.out
 have aS := y1b aE
 have aM := y1c aE
 have aW := y1d aE
 have aU := y0q aE 0
 have aO := y0q aE 1
 have aK := y0q aE 2
 clear aE aV
 go_enter Try.func64, Try.ntmps64
 go_wp2_with (first | (go_at_call 80; (with_reducible refine (zq1v.calls k aA aB a1 aG aF aC _ A3.out).mono ?_); rintro e w' ⟨rfl, ⟨nd, rfl⟩⟩; (try first | exact ⟨rfl, _, World.drewN_drewN _ _ _⟩ | exact ⟨rfl, _, Eq.trans (World.drewN_drewN _ _ _) (congrArg (World.drewN _) (Nat.add_assoc _ _ _))⟩)))
 repeat (go_quiet (first | (go_at_call 80; (with_reducible refine (zq1v.calls k aA aB a1 aG aF aC _ A3.out).mono ?_); rintro e w' ⟨rfl, ⟨nd, rfl⟩⟩; (try first | exact ⟨rfl, _, World.drewN_drewN _ _ _⟩ | exact ⟨rfl, _, Eq.trans (World.drewN_drewN _ _ _) (congrArg (World.drewN _) (Nat.add_assoc _ _ _))⟩))); try go_wp2_with (first | (go_at_call 80; (with_reducible refine (zq1v.calls k aA aB a1 aG aF aC _ A3.out).mono ?_); rintro e w' ⟨rfl, ⟨nd, rfl⟩⟩; (try first | exact ⟨rfl, _, World.drewN_drewN _ _ _⟩ | exact ⟨rfl, _, Eq.trans (World.drewN_drewN _ _ _) (congrArg (World.drewN _) (Nat.add_assoc _ _ _))⟩))))
 go_ret
 exact ⟨ew_, s74_ aJ.out, hb_, hk_⟩
end Go.Proofs.Ytenlmckahaniiaa.K
end
