/- Lemmas for the law LibraryEncodes: what its proof needs beyond what it shares. -/
import Derived.Test.YtenlmckahaniiaaZLibraryEncodes1
import Derived.Test.YtenlmckahaniiaaZcLe17
set_option linter.unusedVariables false
set_option linter.unusedSimpArgs false
set_option linter.unusedSectionVars false
set_option maxHeartbeats 8000000
set_option maxRecDepth 100000
section
namespace Go.Proofs.Ytenlmckahaniiaa.K
open Go.RowKit Go.Proofs.YtW.P Go.Proofs.YtW.L
def zqg.l0 : Nat → ByteArray → Int → ByteArray → ByteArray → ByteArray → Int → List (S62) → List (S43) → Option (ByteArray × Int)
  | 0, _, _, _, _, _, _, _, _ => none
  | k + 1, x5, x6, x449000, x449001, x449002, x449003, x449004, x449005 => if x6 < (x449005.length : Int) then (if 0 ≤ x6 then ((zq14.f k ((y4a x449005 x6).f0) 1).bind fun t459 => ((zq14.f k ((y4a x449005 x6).f1) 2).bind fun t460 => (if t459.size + t460.size ≤ 9223372036854775807 then ((zq14.f k ((y4a x449005 x6).f2) 1).bind fun t461 => (if (t459 ++ t460).size + t461.size ≤ 9223372036854775807 then ((zq9.f k ((y4a x449005 x6).f3)).bind fun t462 => (if ((t459 ++ t460) ++ t461).size + t462.size ≤ 9223372036854775807 then ((zq15.f k ((y4a x449005 x6).f4)).bind fun t463 => (if (((t459 ++ t460) ++ t461) ++ t462).size + t463.size ≤ 9223372036854775807 then (if x5.size + ((((t459 ++ t460) ++ t461) ++ t462) ++ t463).size ≤ 9223372036854775807 then (zqg.l0 k (x5 ++ ((((t459 ++ t460) ++ t461) ++ t462) ++ t463)) (wrap64 (x6 + 1)) x449000 x449001 x449002 x449003 x449004 x449005) else (none)) else (none))) else (none))) else (none))) else (none)))) else (none)) else ((zqv.f k x5).bind fun t456 => (some (t456, 0)))
def zqg.f (k : Nat) (a0_0 : ByteArray) (a0_1 : ByteArray) (a0_2 : ByteArray) (a0_3 : Int) (l0_4 : List (S62)) (l0_5 : List (S43)) : Option (ByteArray × Int) := (zqn.f k a0_0 a0_1 a0_2 a0_3 l0_4 l0_5).bind fun t449 => (if t449 = 0 then ((zq9.f k a0_0).bind fun t450 => (if 4 + t450.size ≤ 9223372036854775807 then ((zq9.f k a0_1).bind fun t451 => (if ((⟨#[79, 66, 74, 49]⟩ : ByteArray) ++ t450).size + t451.size ≤ 9223372036854775807 then ((zq9.f k a0_2).bind fun t452 => (if (((⟨#[79, 66, 74, 49]⟩ : ByteArray) ++ t450) ++ t451).size + t452.size ≤ 9223372036854775807 then ((zq14.f k a0_3 2).bind fun t453 => (if ((((⟨#[79, 66, 74, 49]⟩ : ByteArray) ++ t450) ++ t451) ++ t452).size + t453.size ≤ 9223372036854775807 then ((zq6.f k l0_4).bind fun t454 => (if (((((⟨#[79, 66, 74, 49]⟩ : ByteArray) ++ t450) ++ t451) ++ t452) ++ t453).size + t454.size ≤ 9223372036854775807 then ((zq14.f k (l0_5.length : Int) 2).bind fun t455 => (if ((((((⟨#[79, 66, 74, 49]⟩ : ByteArray) ++ t450) ++ t451) ++ t452) ++ t453) ++ t454).size + t455.size ≤ 9223372036854775807 then (zqg.l0 k (((((((⟨#[79, 66, 74, 49]⟩ : ByteArray) ++ t450) ++ t451) ++ t452) ++ t453) ++ t454) ++ t455) 0 a0_0 a0_1 a0_2 a0_3 l0_4 l0_5) else (none))) else (none))) else (none))) else (none))) else (none))) else (none))) else (some (nB_, t449)))
theorem zqg.mono_l : ∀ k, (∀ y0 y1 y2 y3 y4 y5 y6 y7, LeO (zqg.l0 k y0 y1 y2 y3 y4 y5 y6 y7) (zqg.l0 (k + 1) y0 y1 y2 y3 y4 y5 y6 y7))
 | 0 => fun _ _ _ _ _ _ _ _ r h => by simp [zqg.l0] at h
 | k + 1 => by
  have ih0 := zqg.mono_l k
  ·intro y0 y1 y2 y3 y4 y5 y6 y7
   unfold zqg.l0
   with_reducible repeat' first | apply ih0 | apply zq14.mono | apply zq9.mono | apply zqv.mono | apply zqn.mono | apply zq6.mono | apply zq15.mono | exact LeO.refl _ | exact LeO.none _ | refine LeO.ite ?_ ?_ | refine LeO.bind ?_ (fun _ => ?_)
theorem zqg.mono : ∀ a0 a1 a2 a3 a4 a5 k, LeO (zqg.f k a0 a1 a2 a3 a4 a5) (zqg.f (k + 1) a0 a1 a2 a3 a4 a5) := by
 intro a0 a1 a2 a3 a4 a5 k
 have ih0 := zqg.mono_l k
 unfold zqg.f
 with_reducible repeat' first | apply ih0 | apply zq14.mono | apply zq9.mono | apply zqv.mono | apply zqn.mono | apply zq6.mono | apply zq15.mono | exact LeO.refl _ | exact LeO.none _ | refine LeO.ite ?_ ?_ | refine LeO.bind ?_ (fun _ => ?_)
def zqg.T4 : Bool × List (List Nat × List Nat) := (true, [([], []), ([0], [0]), ([1], [1]), ([2], [2]), ([], []), ([4], [4]), ([5, 2], [5]), ([3, 6], [3, 6]), ([], []), ([8], [8]), ([9, 6], [9]), ([7, 10], [7, 10]), ([], []), ([12], [12]), ([13, 10], [13]), ([11, 14], [11, 14]), ([], []), ([16], [16]), ([17, 14], [17]), ([15, 18], [15, 18]), ([], []), ([20], [20]), ([21], [21]), ([22, 18], [22]), ([19, 23], [19, 23]), ([24, 23, 0, 1, 2, 3, 4, 5, 6, 7, 8, 9, 10, 11, 12, 13, 14, 15, 16, 17, 18, 19, 20, 21, 22, 23, 24], [24])])
def zqg.B4 : List Nat := [0, 1, 3, 7, 0, 16, 55, 127, 0, 256, 887, 2047, 0, 4096, 14199, 32767, 0, 65536, 227191, 524287, 0, 1048576, 3145728, 7829367, 16777215, 33554431]
theorem zqg.tab4 : rtab .any (opsOf Try.f22 4) = zqg.T4 := by kernel_rfl
theorem zqg.bits4 : waitsOk zqg.T4.2 zqg.B4 = true := by kernel_rfl
def zqg.T9 : Bool × List (List Nat × List Nat) := (true, [([], []), ([], []), ([1], [1]), ([2], [2]), ([], []), ([4], [4]), ([5, 3], [5]), ([3, 6], [3, 6]), ([], []), ([8], [8]), ([9, 6], [9]), ([7, 10], [7, 10]), ([], []), ([12], [12]), ([13, 10], [13]), ([11, 14], [11, 14]), ([], []), ([16], [16]), ([17, 14], [17]), ([15, 18], [15, 18]), ([0, 19], [0, 19]), ([20, 18, 0, 1, 2, 3, 4, 5, 6, 7, 8, 9, 10, 11, 12, 13, 14, 15, 16, 17, 18, 19, 20], [0, 20])])
def zqg.B9 : List Nat := [0, 0, 2, 6, 0, 16, 62, 126, 0, 256, 894, 2046, 0, 4096, 14206, 32766, 0, 65536, 227198, 524286, 1048575, 2097151]
theorem zqg.tab9 : rtab .any (opsOf Try.f22 9) = zqg.T9 := by kernel_rfl
theorem zqg.bits9 : waitsOk zqg.T9.2 zqg.B9 = true := by kernel_rfl
theorem zqg.calls (k : Nat) (aJ : ByteArray) (aK : ByteArray) (aI : ByteArray) (aL : Int) (aT : Option Addr) (aR : Nat) (aG : List (S62)) (aY : Option Addr) (aV : Nat) (aB : List (S43)) (r1 : ByteArray) (r2 : Int) (w : World) (bG : Kd.C k62 w aT aG.length aG) (bE : aG.length ≤ aR) (bH : Kd.C k43 w aY aB.length aB) (bD : aB.length ≤ aV) (h : zqg.f k aJ aK aI aL aG aB = some (r1, r2)) :
  Calls Try.prog 22 #[.agg #[.string aJ, .string aK, .string aI, .int .i64 aL, .slice aT aG.length aR, .slice aY aB.length aV]] w fun e w' => e = .returned (.tuple #[.string r1, .int .i64 r2]) ∧ Below w.heap.size w w' := by
 have eX := Try.underlying25
 have eY := Try.underlying43
 have bA := q_ bG
 have bB := q_ bE
 clear bG bE
 have a9 := q_ bH
 have bF := q_ bD
 clear bH bD
 have HB := q_ (Below.refl w.heap.size w)
 have H : ((zqn.f k aJ aK aI aL aG aB).bind fun a6 => (if a6 = 0 then ((zq9.f k aJ).bind fun aF => (if 4 + aF.size ≤ 9223372036854775807 then ((zq9.f k aK).bind fun aH => (if ((⟨#[79, 66, 74, 49]⟩ : ByteArray) ++ aF).size + aH.size ≤ 9223372036854775807 then ((zq9.f k aI).bind fun aM => (if (((⟨#[79, 66, 74, 49]⟩ : ByteArray) ++ aF) ++ aH).size + aM.size ≤ 9223372036854775807 then ((zq14.f k aL 2).bind fun aO => (if ((((⟨#[79, 66, 74, 49]⟩ : ByteArray) ++ aF) ++ aH) ++ aM).size + aO.size ≤ 9223372036854775807 then ((zq6.f k aG).bind fun aU => (if (((((⟨#[79, 66, 74, 49]⟩ : ByteArray) ++ aF) ++ aH) ++ aM) ++ aO).size + aU.size ≤ 9223372036854775807 then ((zq14.f k (aB.length : Int) 2).bind fun aZ => (if ((((((⟨#[79, 66, 74, 49]⟩ : ByteArray) ++ aF) ++ aH) ++ aM) ++ aO) ++ aU).size + aZ.size ≤ 9223372036854775807 then (zqg.l0 k (((((((⟨#[79, 66, 74, 49]⟩ : ByteArray) ++ aF) ++ aH) ++ aM) ++ aO) ++ aU) ++ aZ) 0 aJ aK aI aL aG aB) else (none))) else (none))) else (none))) else (none))) else (none))) else (none))) else (some (nB_, a6)))) = some (r1, r2) := h
 clear h
 obtain ⟨a6, A2, H⟩ := bq_ H
 (try dsimp only at H)
 by_cases c3 : a6 = 0
 rotate_left
 ·rw [if_neg c3] at H
  have dU := ef_ c3
  have dV := nt_ c3
  simp only [Option.some.injEq, Prod.mk.injEq] at H
  obtain ⟨rfl, rfl⟩ := H
  go_enter Try.func22, Try.ntmps22
  go_wp2_with (first | (refine gd_ 1 ?_; refine bx_ 1 (cs := #[.string aJ, .string aK, .string aI, .int .i64 aL, .slice aT aG.length aR, .slice aY aB.length aV]) 25 ?_; intro aN hg fL hbox hb; have aA := q_ (hbox); have bV := gw_ w hg (y0j hb_); have bS := gw_ w hg (y0j hb_); replace HB := q_ (y0k hb_ hb); clear hb hbox hg; obtain ⟨dE, cU, dD, dG, cQ, b2, b3, dN, cZ, b9, b8, b1⟩ := b6_ aA.out) | (refine gc_ 19 ?_; refine gl_ (some 9) Try.func19 #[.agg #[.string aJ, .string aK, .string aI, .int .i64 aL, .slice aT aG.length aR, .slice aY aB.length aV]] ?_; (with_reducible refine (zqn.calls k aJ aK aI aL _ _ aG _ _ aB a6 _ ?side1 ?side2 ?side3 ?side4 A2.out).mono ?_); (case side1 => exact ck_ (Kd.C_below bA.out HB.out)); (case side2 => exact bB.out); (case side3 => exact ck_ (Kd.C_below a9.out HB.out)); (case side4 => exact bF.out); rintro e fN ⟨rfl, hb⟩; refine ⟨_, rfl, ?_⟩; replace aA := q_ (y0n (bk_ aA.out) hb); replace HB := q_ (y0k hb_ hb)))
  go_ret2
  exact ⟨ew_, hb_⟩
 rw [if_pos c3] at H
 have dU := et_ c3
 have dV := nf_ c3
 clear c3
 obtain ⟨aF, A4, H⟩ := bq_ H
 (try dsimp only at H)
 by_cases c5 : 4 + aF.size ≤ 9223372036854775807
 rotate_left
 ·rw [if_neg c5] at H
  exact absurd H (by simp)
 rw [if_pos c5] at H
 have e2 := eq_true c5
 have eS := dt_ c5
 try have eV : (9223372036854775807 < 4 + aF.size) = False := eq_false (Nat.not_lt.2 c5)
 obtain ⟨aH, A6, H⟩ := bq_ H
 (try dsimp only at H)
 by_cases c7 : ((⟨#[79, 66, 74, 49]⟩ : ByteArray) ++ aF).size + aH.size ≤ 9223372036854775807
 rotate_left
 ·rw [if_neg c7] at H
  exact absurd H (by simp)
 rw [if_pos c7] at H
 have eU := eq_true c7
 have e1 := dt_ c7
 try have fA : (9223372036854775807 < ((⟨#[79, 66, 74, 49]⟩ : ByteArray) ++ aF).size + aH.size) = False := eq_false (Nat.not_lt.2 c7)
 obtain ⟨aM, A8, H⟩ := bq_ H
 (try dsimp only at H)
 by_cases c9 : (((⟨#[79, 66, 74, 49]⟩ : ByteArray) ++ aF) ++ aH).size + aM.size ≤ 9223372036854775807
 rotate_left
 ·rw [if_neg c9] at H
  exact absurd H (by simp)
 rw [if_pos c9] at H
 have e9 := eq_true c9
 have e5 := dt_ c9
 try have eZ : (9223372036854775807 < (((⟨#[79, 66, 74, 49]⟩ : ByteArray) ++ aF) ++ aH).size + aM.size) = False := eq_false (Nat.not_lt.2 c9)
 obtain ⟨aO, eW, H⟩ := bq_ H
 (try dsimp only at H)
 by_cases bT : ((((⟨#[79, 66, 74, 49]⟩ : ByteArray) ++ aF) ++ aH) ++ aM).size + aO.size ≤ 9223372036854775807
 rotate_left
 ·rw [if_neg bT] at H
  exact absurd H (by simp)
 rw [if_pos bT] at H
 have d8 := eq_true bT
 have d6 := dt_ bT
 try have eH : (9223372036854775807 < ((((⟨#[79, 66, 74, 49]⟩ : ByteArray) ++ aF) ++ aH) ++ aM).size + aO.size) = False := eq_false (Nat.not_lt.2 bT)
 obtain ⟨aU, e3, H⟩ := bq_ H
 (try dsimp only at H)
 by_cases bM : (((((⟨#[79, 66, 74, 49]⟩ : ByteArray) ++ aF) ++ aH) ++ aM) ++ aO).size + aU.size ≤ 9223372036854775807
 rotate_left
 ·rw [if_neg bM] at H
  exact absurd H (by simp)
 rw [if_pos bM] at H
 have d5 := eq_true bM
 have eD := dt_ bM
 try have eL : (9223372036854775807 < (((((⟨#[79, 66, 74, 49]⟩ : ByteArray) ++ aF) ++ aH) ++ aM) ++ aO).size + aU.size) = False := eq_false (Nat.not_lt.2 bM)
 obtain ⟨aZ, e7, H⟩ := bq_ H
 (try dsimp only at H)
 by_cases bU : ((((((⟨#[79, 66, 74, 49]⟩ : ByteArray) ++ aF) ++ aH) ++ aM) ++ aO) ++ aU).size + aZ.size ≤ 9223372036854775807
 rotate_left
 ·rw [if_neg bU] at H
  exact absurd H (by simp)
 rw [if_pos bU] at H
 have eN := eq_true bU
 have d1 := dt_ bU
 try have eA : (9223372036854775807 < ((((((⟨#[79, 66, 74, 49]⟩ : ByteArray) ++ aF) ++ aH) ++ aM) ++ aO) ++ aU).size + aZ.size) = False := eq_false (Nat.not_lt.2 bU)
 have H' := q_ H
 clear H
 go_enter Try.func22, Try.ntmps22
 try go_wp2_with (first | (refine gd_ 1 ?_; refine bx_ 1 (cs := #[.string aJ, .string aK, .string aI, .int .i64 aL, .slice aT aG.length aR, .slice aY aB.length aV]) 25 ?_; intro aN hg fP hbox hb; have aA := q_ (hbox); have bV := gw_ w hg (y0j hb_); have bS := gw_ w hg (y0j hb_); replace HB := q_ (y0k hb_ hb); clear hb hbox hg; obtain ⟨dL, cO, dP, dK, cB, c8, dQ, bZ, b6, dA, cI, dF⟩ := b6_ aA.out) | (refine gc_ 19 ?_; refine gl_ (some 9) Try.func19 #[.agg #[.string aJ, .string aK, .string aI, .int .i64 aL, .slice aT aG.length aR, .slice aY aB.length aV]] ?_; (with_reducible refine (zqn.calls k aJ aK aI aL _ _ aG _ _ aB a6 _ ?side1 ?side2 ?side3 ?side4 A2.out).mono ?_); (case side1 => exact ck_ (Kd.C_below bA.out HB.out)); (case side2 => exact bB.out); (case side3 => exact ck_ (Kd.C_below a9.out HB.out)); (case side4 => exact bF.out); rintro e e0 ⟨rfl, hb⟩; refine ⟨_, rfl, ?_⟩; replace aA := q_ (y0n (bk_ aA.out) hb); replace HB := q_ (y0k hb_ hb)))
 replace aA := q_ (y0p aA.out)
 replace HB := q_ (y0h HB.out)
 refine start_ (n := 26) (S := fun w' => w'.cell? ⟨aN, 0, none⟩ = some (.string aJ) ∧ w'.cell? ⟨aN, 1, none⟩ = some (.string aK) ∧ w'.cell? ⟨aN, 2, none⟩ = some (.string aI) ∧ w'.cell? ⟨aN, 3, none⟩ = some (.int .i64 aL) ∧ w'.cell? ⟨aN, 4, none⟩ = some (.slice aT aG.length aR) ∧ w'.cell? ⟨aN, 5, none⟩ = some (.slice aY aB.length aV)) (ds := []) #[false, false, false, false, false, false, false, false, false, false, false, false, false, false, false, false, false, false, false, false, false, false, false, false, false, false] (by kernel_rfl) rfl rfl ⟨(y0o aA.out 0).trans rfl, (y0o aA.out 1).trans rfl, (y0o aA.out 2).trans rfl, (y0o aA.out 3).trans rfl, (y0o aA.out 4).trans rfl, (y0o aA.out 5).trans rfl⟩ (fun hHeld => ?_); refine y5o zqg.tab4 zqg.bits4 (fun HT_ HW_ => ?_)
 generalize e0.drew = fE at aA HB hHeld ⊢
 refine pv_ 0 (some 13) (fl 26 1) ?_
 refine pv_ 4 (some 17) (fl 26 17) ?_
 refine pv_ 8 (some 21) (fl 26 273) ?_
 refine pv_ 12 (some 25) (fl 26 4369) ?_
 refine pv_ 16 (some 29) (fl 26 69905) ?_
 refine pv_ 20 (some 33) (fl 26 1118481) ?_
 refine tv_ 1 (some 14) (fl 26 1118483) ?_
 refine tv_ 5 (some 18) (fl 26 1118515) ?_
 refine tv_ 9 (some 22) (fl 26 1119027) ?_
 refine tv_ 13 (some 26) (fl 26 1127219) ?_
 refine tv_ 17 (some 30) (fl 26 1258291) ?_
 refine tv_ 21 (some 34) (fl 26 3355443) ?_
 refine pv_ 22 (some 35) (fl 26 7549747) ?_
 refine one_ (i := 2) (N := some 15) (fl 26 7549751) rfl rfl (y3l HT_.out (by kernel_rfl)) (by decide) (fun K hK => ?_)
 refine gs_ Try.func56 #[.string aJ] ?_
 with_reducible refine (zq9.calls k aJ aF _ A4.out).mono ?_
 rintro e fF ⟨rfl, hb⟩
 refine ⟨_, rfl, ?_⟩
 replace aA := q_ (y0n (bk_ aA.out) hb)
 replace HB := q_ (y0k hb_ hb)
 refine hK.out _ _ ⟨(y0o aA.out 0).trans rfl, (y0o aA.out 1).trans rfl, (y0o aA.out 2).trans rfl, (y0o aA.out 3).trans rfl, (y0o aA.out 4).trans rfl, (y0o aA.out 5).trans rfl⟩ (fun hHeld => ?_)
 clear hK K
 refine no_ (N := some 15) ?_
 refine pv_ 3 (some 16) (fl 26 7549759) ?_
 refine one_ (i := 6) (N := some 19) (fl 26 7549823) rfl rfl (y3l HT_.out (by kernel_rfl)) (by decide) (fun K hK => ?_)
 refine gs_ Try.func56 #[.string aK] ?_
 with_reducible refine (zq9.calls k aK aH _ A6.out).mono ?_
 rintro e fD ⟨rfl, hb⟩
 refine ⟨_, rfl, ?_⟩
 replace aA := q_ (y0n (bk_ aA.out) hb)
 replace HB := q_ (y0k hb_ hb)
 refine hK.out _ _ ⟨(y0o aA.out 0).trans rfl, (y0o aA.out 1).trans rfl, (y0o aA.out 2).trans rfl, (y0o aA.out 3).trans rfl, (y0o aA.out 4).trans rfl, (y0o aA.out 5).trans rfl⟩ (fun hHeld => ?_)
 clear hK K
 refine no_ (N := some 19) ?_
 refine pv_ 7 (some 20) (fl 26 7549951) ?_
 refine one_ (i := 10) (N := some 23) (fl 26 7550975) rfl rfl (y3l HT_.out (by kernel_rfl)) (by decide) (fun K hK => ?_)
 refine gs_ Try.func56 #[.string aI] ?_
 with_reducible refine (zq9.calls k aI aM _ A8.out).mono ?_
 rintro e fI ⟨rfl, hb⟩
 refine ⟨_, rfl, ?_⟩
 replace aA := q_ (y0n (bk_ aA.out) hb)
 replace HB := q_ (y0k hb_ hb)
 refine hK.out _ _ ⟨(y0o aA.out 0).trans rfl, (y0o aA.out 1).trans rfl, (y0o aA.out 2).trans rfl, (y0o aA.out 3).trans rfl, (y0o aA.out 4).trans rfl, (y0o aA.out 5).trans rfl⟩ (fun hHeld => ?_)
 clear hK K
 refine no_ (N := some 23) ?_
 refine pv_ 11 (some 24) (fl 26 7553023) ?_
 refine one_ (i := 14) (N := some 27) (fl 26 7569407) rfl rfl (y3l HT_.out (by kernel_rfl)) (by decide) (fun K hK => ?_)
 refine gs_ Try.func57 #[.int .i64 aL, .int .i64 2] ?_
 with_reducible refine (zq14.calls k aL 2 aO _ eW.out).mono ?_
 rintro e fO ⟨rfl, hb⟩
 refine ⟨_, rfl, ?_⟩
 replace aA := q_ (y0n (bk_ aA.out) hb)
 replace HB := q_ (y0k hb_ hb)
 refine hK.out _ _ ⟨(y0o aA.out 0).trans rfl, (y0o aA.out 1).trans rfl, (y0o aA.out 2).trans rfl, (y0o aA.out 3).trans rfl, (y0o aA.out 4).trans rfl, (y0o aA.out 5).trans rfl⟩ (fun hHeld => ?_)
 clear hK K
 refine no_ (N := some 27) ?_
 refine pv_ 15 (some 28) (fl 26 7602175) ?_
 refine one_ (i := 18) (N := some 31) (fl 26 7864319) rfl rfl (y3l HT_.out (by kernel_rfl)) (by decide) (fun K hK => ?_)
 refine gs_ Try.func58 #[.slice aT aG.length aR] ?_
 with_reducible refine (zq6.calls k _ _ aG aU _ ?side1 ?side2 e3.out).mono ?_
 (case side1 => exact ck_ (Kd.C_below bA.out HB.out))
 (case side2 => exact bB.out)
 rintro e fM ⟨rfl, hb⟩
 refine ⟨_, rfl, ?_⟩
 replace aA := q_ (y0n (bk_ aA.out) hb)
 replace HB := q_ (y0k hb_ hb)
 refine hK.out _ _ ⟨(y0o aA.out 0).trans rfl, (y0o aA.out 1).trans rfl, (y0o aA.out 2).trans rfl, (y0o aA.out 3).trans rfl, (y0o aA.out 4).trans rfl, (y0o aA.out 5).trans rfl⟩ (fun hHeld => ?_)
 clear hK K
 refine no_ (N := some 31) ?_
 refine pv_ 19 (some 32) (fl 26 8388607) ?_
 refine one_ (i := 23) (N := some 36) (fl 26 16777215) rfl rfl (y3l HT_.out (by kernel_rfl)) (by decide) (fun K hK => ?_)
 refine gs_ Try.func57 #[.int .i64 (aB.length : Int), .int .i64 2] ?_
 with_reducible refine (zq14.calls k (aB.length : Int) 2 aZ _ e7.out).mono ?_
 rintro e fJ ⟨rfl, hb⟩
 refine ⟨_, rfl, ?_⟩
 replace aA := q_ (y0n (bk_ aA.out) hb)
 replace HB := q_ (y0k hb_ hb)
 refine hK.out _ _ ⟨(y0o aA.out 0).trans rfl, (y0o aA.out 1).trans rfl, (y0o aA.out 2).trans rfl, (y0o aA.out 3).trans rfl, (y0o aA.out 4).trans rfl, (y0o aA.out 5).trans rfl⟩ (fun hHeld => ?_)
 clear hK K
 refine no_ (N := some 36) ?_
 refine pv_ 24 (some 37) (fl 26 33554431) ?_
 refine pv_ 25 (some 5) (fl 26 67108863) ?_
 refine done_ (y1s HT_.out (by kernel_rfl)) ?_
 try go_wp2
 go_loopg [5, 6] k (fun kq v5 v6 w' => ∃ (aW : ByteArray) (aD : Int), v5 = .string aW ∧ v6 = .int .i64 aD ∧ Aside0 (zqg.l0 kq aW aD aJ aK aI aL aG aB = some (r1, r2)) ∧ Aside0 (kq ≤ k) ∧ Aside0 (w'.heap[aN]? = some (.cells #[.string aJ, .string aK, .string aI, .int .i64 aL, (.slice aT aG.length aR), (.slice aY aB.length aV)] 25 (0, 0))) ∧ Aside0 (Below w.heap.size w w'))
 case atStart => exact ⟨(((((((⟨#[79, 66, 74, 49]⟩ : ByteArray) ++ aF) ++ aH) ++ aM) ++ aO) ++ aU) ++ aZ), (0), cl_, cl_, H', ⟨Nat.le_refl _⟩, ⟨bk_ aA.out⟩, ⟨hb_⟩⟩
 case round =>
  clear H'
  obtain ⟨aW, aD, rfl, rfl, HA, HK1, aA, HB⟩ := hrel
  obtain _ | k1 := gk
  ·exact nn_ HA
  have H := HA.out
  clear HA
  simp only [zqg.l0] at H
  by_cases bK : aD < (aB.length : Int)
  rotate_left
  ·rw [if_neg bK] at H
   have bO := df_ bK
   clear bK
   obtain ⟨dS, e6, H⟩ := bq_ H
   (try dsimp only at H)
   simp only [Option.some.injEq, Prod.mk.injEq] at H
   obtain ⟨rfl, rfl⟩ := H
   obtain ⟨c2, cK, c1, cY, dM, c6, dR, cT, cN, dH, cL, cJ⟩ := b6_ aA.out
   go_wp2_with (first | (refine gc_ 23 ?_; refine gl_ (some 72) Try.func23 #[.string aW] ?_; (with_reducible refine (zqv.calls k1 aW dS _ e6.out).mono ?_); rintro e fH ⟨rfl, hb⟩; refine ⟨_, rfl, ?_⟩; replace aA := q_ (y0n (bk_ aA.out) hb); replace HB := q_ (y0k hb_ hb)))
   go_ret2
   exact ⟨ew_, hb_⟩
  rw [if_pos bK] at H
  have bO := dt_ bK
  clear bK
  by_cases cG : 0 ≤ aD
  rotate_left
  ·rw [if_neg cG] at H
   exact absurd H (by simp)
  rw [if_pos cG] at H
  have eO := dt_ cG
  clear cG
  obtain ⟨aQ, eR, H⟩ := bq_ H
  obtain ⟨aP, e8, H⟩ := bq_ H
  (try dsimp only at H)
  by_cases bR : aQ.size + aP.size ≤ 9223372036854775807
  rotate_left
  ·rw [if_neg bR] at H
   exact absurd H (by simp)
  rw [if_pos bR] at H
  have dW := eq_true bR
  have d2 := dt_ bR
  try have d3 : (9223372036854775807 < aQ.size + aP.size) = False := eq_false (Nat.not_lt.2 bR)
  obtain ⟨aS, eT, H⟩ := bq_ H
  (try dsimp only at H)
  by_cases bP : (aQ ++ aP).size + aS.size ≤ 9223372036854775807
  rotate_left
  ·rw [if_neg bP] at H
   exact absurd H (by simp)
  rw [if_pos bP] at H
  have eC := eq_true bP
  have eG := dt_ bP
  try have eK : (9223372036854775807 < (aQ ++ aP).size + aS.size) = False := eq_false (Nat.not_lt.2 bP)
  obtain ⟨aX, e4, H⟩ := bq_ H
  (try dsimp only at H)
  by_cases bW : ((aQ ++ aP) ++ aS).size + aX.size ≤ 9223372036854775807
  rotate_left
  ·rw [if_neg bW] at H
   exact absurd H (by simp)
  rw [if_pos bW] at H
  have d7 := eq_true bW
  have eE := dt_ bW
  try have dZ : (9223372036854775807 < ((aQ ++ aP) ++ aS).size + aX.size) = False := eq_false (Nat.not_lt.2 bW)
  obtain ⟨a5, eQ, H⟩ := bq_ H
  (try dsimp only at H)
  by_cases bQ : (((aQ ++ aP) ++ aS) ++ aX).size + a5.size ≤ 9223372036854775807
  rotate_left
  ·rw [if_neg bQ] at H
   exact absurd H (by simp)
  rw [if_pos bQ] at H
  have eB := eq_true bQ
  have eF := dt_ bQ
  try have eI : (9223372036854775807 < (((aQ ++ aP) ++ aS) ++ aX).size + a5.size) = False := eq_false (Nat.not_lt.2 bQ)
  by_cases bX : aW.size + ((((aQ ++ aP) ++ aS) ++ aX) ++ a5).size ≤ 9223372036854775807
  rotate_left
  ·rw [if_neg bX] at H
   exact absurd H (by simp)
  rw [if_pos bX] at H
  have eJ := eq_true bX
  have eP := dt_ bX
  try have eM : (9223372036854775807 < aW.size + ((((aQ ++ aP) ++ aS) ++ aX) ++ a5).size) = False := eq_false (Nat.not_lt.2 bX)
  have H' := q_ H
  clear H
  obtain ⟨c4, cV, dC, cD, bY, b0, cR, cA, cX, cC, cH, cE⟩ := b6_ aA.out
  have bI : 0 ≤ (aD : Int) := oa_
  have bJ : aD < (aB.length : Int) := oa_
  obtain ⟨bN, dT, a2, a0, a3, a1, a4⟩ := y0d a9.out aD bI bJ
  cases dT
  replace a2 := cb_ HB.out a2
  replace a0 := cb_ HB.out a0
  replace a3 := cb_ HB.out a3
  replace a1 := cb_ HB.out a1
  replace a4 := cb_ HB.out a4
  replace bI := eq_true bI
  replace bJ := eq_true bJ
  try go_wp2_with (first | (refine gd_ 7 ?_; refine bx_ 7 (cs := #[.int .i64 0, .int .i64 0, .int .i64 0, .string nB_, .bool false]) 43 ?_; intro aE hg bL hbox hb; have aC := q_ (hbox); have d9 := gw_ w hg (y0j hb_); have dY := gw_ w hg (y0j hb_); replace HB := q_ (y0k hb_ hb); have a7 := nl_ hg (bk_ aA.out); have a8 := ng_ hg (bk_ aA.out); replace aA := q_ (y0n (bk_ aA.out) hb); clear hb hbox hg; have d0 := a8.out; have dX := a7.out; obtain ⟨dO, c0, cF, dJ, dB, cP, cM, dI, b5, cW⟩ := b5_ aC.out))
  have cS : Aside0 ((((((bL.setCell ⟨aE, 0, none⟩ (.int .i64 ((y4a aB aD).f0))).setCell ⟨aE, 1, none⟩ (.int .i64 ((y4a aB aD).f1))).setCell ⟨aE, 2, none⟩ (.int .i64 ((y4a aB aD).f2))).setCell ⟨aE, 3, none⟩ (.string ((y4a aB aD).f3))).setCell ⟨aE, 4, none⟩ (.bool ((y4a aB aD).f4))).heap[aN]? = some (.cells #[.string aJ, .string aK, .string aI, .int .i64 aL, .slice aT aG.length aR, .slice (some bN) aB.length aV] 25 (0, 0))) := ⟨bs_ aA.out⟩
  have b7 : Aside0 ((((((bL.setCell ⟨aE, 0, none⟩ (.int .i64 ((y4a aB aD).f0))).setCell ⟨aE, 1, none⟩ (.int .i64 ((y4a aB aD).f1))).setCell ⟨aE, 2, none⟩ (.int .i64 ((y4a aB aD).f2))).setCell ⟨aE, 3, none⟩ (.string ((y4a aB aD).f3))).setCell ⟨aE, 4, none⟩ (.bool ((y4a aB aD).f4))).heap[aE]? = some (.cells #[.int .i64 ((y4a aB aD).f0), .int .i64 ((y4a aB aD).f1), .int .i64 ((y4a aB aD).f2), .string ((y4a aB aD).f3), .bool ((y4a aB aD).f4)] 43 (0, 0))) := ⟨bs_ aC.out⟩
  have b4 : Aside0 (Below w.heap.size w (((((bL.setCell ⟨aE, 0, none⟩ (.int .i64 ((y4a aB aD).f0))).setCell ⟨aE, 1, none⟩ (.int .i64 ((y4a aB aD).f1))).setCell ⟨aE, 2, none⟩ (.int .i64 ((y4a aB aD).f2))).setCell ⟨aE, 3, none⟩ (.string ((y4a aB aD).f3))).setCell ⟨aE, 4, none⟩ (.bool ((y4a aB aD).f4)))) := ⟨hb_⟩
  (try (have bC : ((((((bL.setCell ⟨aE, 0, none⟩ (.int .i64 ((y4a aB aD).f0))).setCell ⟨aE, 1, none⟩ (.int .i64 ((y4a aB aD).f1))).setCell ⟨aE, 2, none⟩ (.int .i64 ((y4a aB aD).f2))).setCell ⟨aE, 3, none⟩ (.string ((y4a aB aD).f3))).setCell ⟨aE, 4, none⟩ (.bool ((y4a aB aD).f4)))).cell? ⟨aE, 4, none⟩ = some (.bool ((y4a aB aD).f4)) := World.cell?_setCell_same _ _ _ (by assumption)))
  (first | generalize (((((bL.setCell ⟨aE, 0, none⟩ (.int .i64 ((y4a aB aD).f0))).setCell ⟨aE, 1, none⟩ (.int .i64 ((y4a aB aD).f1))).setCell ⟨aE, 2, none⟩ (.int .i64 ((y4a aB aD).f2))).setCell ⟨aE, 3, none⟩ (.string ((y4a aB aD).f3))).setCell ⟨aE, 4, none⟩ (.bool ((y4a aB aD).f4))) = d4 at cS b7 b4 bC ⊢ | generalize (((((bL.setCell ⟨aE, 0, none⟩ (.int .i64 ((y4a aB aD).f0))).setCell ⟨aE, 1, none⟩ (.int .i64 ((y4a aB aD).f1))).setCell ⟨aE, 2, none⟩ (.int .i64 ((y4a aB aD).f2))).setCell ⟨aE, 3, none⟩ (.string ((y4a aB aD).f3))).setCell ⟨aE, 4, none⟩ (.bool ((y4a aB aD).f4))) = d4 at cS b7 b4 ⊢)
  have aA := cS; have aC := b7; have HB := b4
  clear cS b7 b4
  replace aA := q_ (y0p aA.out)
  replace aC := q_ (y0p aC.out)
  replace HB := q_ (y0h HB.out)
  refine start_ (n := 22) (S := fun w' => w'.cell? ⟨aE, 0, none⟩ = some (.int .i64 ((y4a aB aD).f0)) ∧ w'.cell? ⟨aE, 1, none⟩ = some (.int .i64 ((y4a aB aD).f1)) ∧ w'.cell? ⟨aE, 2, none⟩ = some (.int .i64 ((y4a aB aD).f2)) ∧ w'.cell? ⟨aE, 3, none⟩ = some (.string ((y4a aB aD).f3)) ∧ w'.cell? ⟨aE, 4, none⟩ = some (.bool ((y4a aB aD).f4))) (ds := []) #[false, false, false, false, false, false, false, false, false, false, false, false, false, false, false, false, false, false, false, false, false, false] (by kernel_rfl) rfl rfl ⟨(y0o aC.out 0).trans rfl, (y0o aC.out 1).trans rfl, (y0o aC.out 2).trans rfl, (y0o aC.out 3).trans rfl, (y0o aC.out 4).trans rfl⟩ (fun hHeld => ?_); refine y5o zqg.tab9 zqg.bits9 (fun HT_ HW_ => ?_)
  generalize d4.drew = fQ at aA aC HB hHeld ⊢
  refine pv_ 0 (some 50) (fl 22 1) ?_
  refine pv_ 1 (some 51) (fl 22 3) ?_
  refine pv_ 4 (some 54) (fl 22 19) ?_
  refine pv_ 8 (some 58) (fl 22 275) ?_
  refine pv_ 12 (some 62) (fl 22 4371) ?_
  refine pv_ 16 (some 66) (fl 22 69907) ?_
  refine tv_ 2 (some 52) (fl 22 69911) ?_
  refine tv_ 5 (some 55) (fl 22 69943) ?_
  refine tv_ 9 (some 59) (fl 22 70455) ?_
  refine tv_ 13 (some 63) (fl 22 78647) ?_
  refine tv_ 17 (some 67) (fl 22 209719) ?_
  refine one_ (i := 3) (N := some 53) (fl 22 209727) rfl rfl (y3l HT_.out (by kernel_rfl)) (by decide) (fun K hK => ?_)
  refine gs_ Try.func57 #[.int .i64 ((y4a aB aD).f0), .int .i64 1] ?_
  with_reducible refine (zq14.calls k1 ((y4a aB aD).f0) 1 aQ _ eR.out).mono ?_
  rintro e fR ⟨rfl, hb⟩
  refine ⟨_, rfl, ?_⟩
  replace aA := q_ (y0n (bk_ aA.out) hb)
  replace aC := q_ (y0n (bk_ aC.out) hb)
  replace HB := q_ (y0k hb_ hb)
  refine hK.out _ _ ⟨(y0o aC.out 0).trans rfl, (y0o aC.out 1).trans rfl, (y0o aC.out 2).trans rfl, (y0o aC.out 3).trans rfl, (y0o aC.out 4).trans rfl⟩ (fun hHeld => ?_)
  clear hK K
  refine no_ (N := some 53) ?_
  refine one_ (i := 6) (N := some 56) (fl 22 209791) rfl rfl (y3l HT_.out (by kernel_rfl)) (by decide) (fun K hK => ?_)
  refine gs_ Try.func57 #[.int .i64 ((y4a aB aD).f1), .int .i64 2] ?_
  with_reducible refine (zq14.calls k1 ((y4a aB aD).f1) 2 aP _ e8.out).mono ?_
  rintro e fB ⟨rfl, hb⟩
  refine ⟨_, rfl, ?_⟩
  replace aA := q_ (y0n (bk_ aA.out) hb)
  replace aC := q_ (y0n (bk_ aC.out) hb)
  replace HB := q_ (y0k hb_ hb)
  refine hK.out _ _ ⟨(y0o aC.out 0).trans rfl, (y0o aC.out 1).trans rfl, (y0o aC.out 2).trans rfl, (y0o aC.out 3).trans rfl, (y0o aC.out 4).trans rfl⟩ (fun hHeld => ?_)
  clear hK K
  refine no_ (N := some 56) ?_
  refine pv_ 7 (some 57) (fl 22 209919) ?_
  refine one_ (i := 10) (N := some 60) (fl 22 210943) rfl rfl (y3l HT_.out (by kernel_rfl)) (by decide) (fun K hK => ?_)
  refine gs_ Try.func57 #[.int .i64 ((y4a aB aD).f2), .int .i64 1] ?_
  with_reducible refine (zq14.calls k1 ((y4a aB aD).f2) 1 aS _ eT.out).mono ?_
  rintro e fG ⟨rfl, hb⟩
  refine ⟨_, rfl, ?_⟩
  replace aA := q_ (y0n (bk_ aA.out) hb)
  replace aC := q_ (y0n (bk_ aC.out) hb)
  replace HB := q_ (y0k hb_ hb)
  refine hK.out _ _ ⟨(y0o aC.out 0).trans rfl, (y0o aC.out 1).trans rfl, (y0o aC.out 2).trans rfl, (y0o aC.out 3).trans rfl, (y0o aC.out 4).trans rfl⟩ (fun hHeld => ?_)
  clear hK K
  refine no_ (N := some 60) ?_
  refine pv_ 11 (some 61) (fl 22 212991) ?_
  refine one_ (i := 14) (N := some 64) (fl 22 229375) rfl rfl (y3l HT_.out (by kernel_rfl)) (by decide) (fun K hK => ?_)
  refine gs_ Try.func56 #[.string ((y4a aB aD).f3)] ?_
  with_reducible refine (zq9.calls k1 ((y4a aB aD).f3) aX _ e4.out).mono ?_
  rintro e fK ⟨rfl, hb⟩
  refine ⟨_, rfl, ?_⟩
  replace aA := q_ (y0n (bk_ aA.out) hb)
  replace aC := q_ (y0n (bk_ aC.out) hb)
  replace HB := q_ (y0k hb_ hb)
  refine hK.out _ _ ⟨(y0o aC.out 0).trans rfl, (y0o aC.out 1).trans rfl, (y0o aC.out 2).trans rfl, (y0o aC.out 3).trans rfl, (y0o aC.out 4).trans rfl⟩ (fun hHeld => ?_)
  clear hK K
  refine no_ (N := some 64) ?_
  refine pv_ 15 (some 65) (fl 22 262143) ?_
  refine one_ (i := 18) (N := some 68) (fl 22 524287) rfl rfl (y3l HT_.out (by kernel_rfl)) (by decide) (fun K hK => ?_)
  refine gs_ Try.func59 #[.bool ((y4a aB aD).f4)] ?_
  with_reducible refine (zq15.calls k1 ((y4a aB aD).f4) a5 _ eQ.out).mono ?_
  rintro e fC ⟨rfl, hb⟩
  refine ⟨_, rfl, ?_⟩
  replace aA := q_ (y0n (bk_ aA.out) hb)
  replace aC := q_ (y0n (bk_ aC.out) hb)
  replace HB := q_ (y0k hb_ hb)
  refine hK.out _ _ ⟨(y0o aC.out 0).trans rfl, (y0o aC.out 1).trans rfl, (y0o aC.out 2).trans rfl, (y0o aC.out 3).trans rfl, (y0o aC.out 4).trans rfl⟩ (fun hHeld => ?_)
  clear hK K
  refine no_ (N := some 68) ?_
  refine pv_ 19 (some 69) (fl 22 1048575) ?_
  refine pv_ 20 (some 70) (fl 22 2097151) ?_
  refine pv_ 21 (some 5) (fl 22 4194303) ?_
  refine done_ (y1s HT_.out (by kernel_rfl)) ?_
  try go_wp2
  go_roundg k1
  case measure => have := HK1.out; omega
  case rel => exact ⟨(aW ++ ((((aQ ++ aP) ++ aS) ++ aX) ++ a5)), (wrap64 (aD + 1)), cl_, cl_, H', ⟨by have := HK1.out; omega⟩, ⟨bk_ aA.out⟩, ⟨hb_⟩⟩
end Go.Proofs.Ytenlmckahaniiaa.K
end
section
namespace Go.Proofs.Ytenlmckahaniiaa.K
open Go.RowKit Go.Proofs.YtW.P Go.Proofs.YtW.L
def zqs.l0 : Nat → List (S25) → ByteArray → Int → Option (ByteArray)
  | 0, _, _, _ => none
  | k + 1, x0, x3, x4 => if x4 < (x0.length : Int) then (if 0 ≤ x4 then ((zqg.f k ((y49 x0 x4).f0) ((y49 x0 x4).f1) ((y49 x0 x4).f2) ((y49 x0 x4).f3) ((y49 x0 x4).f4) ((y49 x0 x4).f5)).bind fun bt911 => ((zq14.f k (bt911.1.size : Int) 4).bind fun t913 => (if x3.size + t913.size ≤ 9223372036854775807 then (if (x3 ++ t913).size + bt911.1.size ≤ 9223372036854775807 then (zqs.l0 k x0 ((x3 ++ t913) ++ bt911.1) (wrap64 (x4 + 1))) else (none)) else (none)))) else (none)) else (some x3)
def zqs.f (k : Nat) (l0 : List (S25)) : Option (ByteArray) := (zq14.f k (l0.length : Int) 2).bind fun t909 => (if 4 + t909.size ≤ 9223372036854775807 then (zqs.l0 k l0 ((⟨#[76, 73, 66, 49]⟩ : ByteArray) ++ t909) 0) else (none))
theorem zqs.mono_l : ∀ k, (∀ y0 y1 y2, LeO (zqs.l0 k y0 y1 y2) (zqs.l0 (k + 1) y0 y1 y2))
 | 0 => fun _ _ _ r h => by simp [zqs.l0] at h
 | k + 1 => by
  have ih0 := zqs.mono_l k
  ·intro y0 y1 y2
   unfold zqs.l0
   with_reducible repeat' first | apply ih0 | apply zq14.mono | apply zqg.mono | exact LeO.refl _ | exact LeO.none _ | refine LeO.ite ?_ ?_ | refine LeO.bind ?_ (fun _ => ?_)
theorem zqs.mono : ∀ a0 k, LeO (zqs.f k a0) (zqs.f (k + 1) a0) := by
 intro a0 k
 have ih0 := zqs.mono_l k
 unfold zqs.f
 with_reducible repeat' first | apply ih0 | apply zq14.mono | apply zqg.mono | exact LeO.refl _ | exact LeO.none _ | refine LeO.ite ?_ ?_ | refine LeO.bind ?_ (fun _ => ?_)
theorem zqs.calls (k : Nat) (A0 : Option Addr) (c0 : Nat) (l0 : List (S25)) (r : ByteArray) (w : World) (a7 : Kd.C k25 w A0 l0.length l0) (a6 : l0.length ≤ c0) (h : zqs.f k l0 = some r) :
  Calls Try.prog 79 #[.slice A0 l0.length c0] w fun e w' => e = .returned (.string r) ∧ Below w.heap.size w w' := by
 have bA := Try.underlying25
 have bD := q_ a7
 have bK := q_ a6
 clear a7 a6
 have HB := q_ (Below.refl w.heap.size w)
 have H : ((zq14.f k (l0.length : Int) 2).bind fun aC => (if 4 + aC.size ≤ 9223372036854775807 then (zqs.l0 k l0 ((⟨#[76, 73, 66, 49]⟩ : ByteArray) ++ aC) 0) else (none))) = some r := h
 clear h
 obtain ⟨aC, A2, H⟩ := bq_ H
 (try dsimp only at H)
 by_cases c3 : 4 + aC.size ≤ 9223372036854775807
 rotate_left
 ·rw [if_neg c3] at H
  exact absurd H (by simp)
 rw [if_pos c3] at H
 have bG := eq_true c3
 have a9 := dt_ c3
 try have bE : (9223372036854775807 < 4 + aC.size) = False := eq_false (Nat.not_lt.2 c3)
 have H' := q_ H
 clear H
 go_enter Try.func79, Try.ntmps79
 go_wp2_with (first | (refine gc_ 57 ?_; refine gl_ (some 9) Try.func57 #[.int .i64 (l0.length : Int), .int .i64 2] ?_; (with_reducible refine (zq14.calls k (l0.length : Int) 2 aC _ A2.out).mono ?_); rintro e w4 ⟨rfl, hb⟩; refine ⟨_, rfl, ?_⟩; replace HB := q_ (y0k hb_ hb)))
 go_loopg [3, 4] k (fun kq v3 v4 w' => ∃ (aB : ByteArray) (aA : Int), v3 = .string aB ∧ v4 = .int .i64 aA ∧ Aside0 (zqs.l0 kq l0 aB aA = some r) ∧ Aside0 (kq ≤ k) ∧ Aside0 (Below w.heap.size w w'))
 case atStart => exact ⟨((⟨#[76, 73, 66, 49]⟩ : ByteArray) ++ aC), (0), cl_, cl_, H', ⟨Nat.le_refl _⟩, ⟨hb_⟩⟩
 case round =>
  clear H'
  obtain ⟨aB, aA, rfl, rfl, HA, HK1, HB⟩ := hrel
  obtain _ | k1 := gk
  ·exact nn_ HA
  have H := HA.out
  clear HA
  simp only [zqs.l0] at H
  by_cases c5 : aA < (l0.length : Int)
  rotate_left
  ·rw [if_neg c5] at H
   have a1 := df_ c5
   clear c5
   obtain rfl := Option.some.inj H
   go_wp2
   go_ret
   exact ⟨ew_, hb_⟩
  rw [if_pos c5] at H
  have a1 := dt_ c5
  clear c5
  by_cases c6 : 0 ≤ aA
  rotate_left
  ·rw [if_neg c6] at H
   exact absurd H (by simp)
  rw [if_pos c6] at H
  have bC := dt_ c6
  clear c6
  obtain ⟨⟨aO, a2⟩, A7, H⟩ := bq_ H
  obtain ⟨aN, A8, H⟩ := bq_ H
  (try dsimp only at H)
  by_cases c9 : aB.size + aN.size ≤ 9223372036854775807
  rotate_left
  ·rw [if_neg c9] at H
   exact absurd H (by simp)
  rw [if_pos c9] at H
  have bH := eq_true c9
  have bB := dt_ c9
  try have bF : (9223372036854775807 < aB.size + aN.size) = False := eq_false (Nat.not_lt.2 c9)
  by_cases aZ : (aB ++ aN).size + aO.size ≤ 9223372036854775807
  rotate_left
  ·rw [if_neg aZ] at H
   exact absurd H (by simp)
  rw [if_pos aZ] at H
  have a5 := eq_true aZ
  have a3 := dt_ aZ
  try have a8 : (9223372036854775807 < (aB ++ aN).size + aO.size) = False := eq_false (Nat.not_lt.2 aZ)
  have H' := q_ H
  clear H
  have aV : 0 ≤ (aA : Int) := oa_
  have aU : aA < (l0.length : Int) := oa_
  obtain ⟨a4, aT, aW, aY, aX, a0, aJ, aM, aD, aK, aL, aE, aI, aH, aG, aF⟩ := y0c bD.out aA aV aU
  cases a0
  replace aJ := cb_ HB.out aJ
  replace aM := cb_ HB.out aM
  replace aD := cb_ HB.out aD
  replace aK := cb_ HB.out aK
  replace aL := cb_ HB.out aL
  replace aE := cb_ HB.out aE
  have aQ := q_ aH
  have aS := q_ aI
  clear aH aI
  have aR := q_ aF
  have aP := q_ aG
  clear aF aG
  replace aV := eq_true aV
  replace aU := eq_true aU
  go_wp2_with (first | (refine gc_ 22 ?_; refine gl_ (some 22) Try.func22 #[.agg #[.string ((y49 l0 aA).f0), .string ((y49 l0 aA).f1), .string ((y49 l0 aA).f2), .int .i64 ((y49 l0 aA).f3), .slice aT ((y49 l0 aA).f4).length aW, .slice aY ((y49 l0 aA).f5).length aX]] ?_; (with_reducible refine (zqg.calls k1 ((y49 l0 aA).f0) ((y49 l0 aA).f1) ((y49 l0 aA).f2) ((y49 l0 aA).f3) _ _ ((y49 l0 aA).f4) _ _ ((y49 l0 aA).f5) aO a2 _ ?side1 ?side2 ?side3 ?side4 A7.out).mono ?_); (case side1 => exact ck_ (Kd.C_below aQ.out HB.out)); (case side2 => exact aS.out); (case side3 => exact ck_ (Kd.C_below aR.out HB.out)); (case side4 => exact aP.out); rintro e bI ⟨rfl, hb⟩; refine ⟨_, rfl, ?_⟩; replace HB := q_ (y0k hb_ hb)) | (refine gc_ 57 ?_; refine gl_ (some 28) Try.func57 #[.int .i64 (aO.size : Int), .int .i64 4] ?_; (with_reducible refine (zq14.calls k1 (aO.size : Int) 4 aN _ A8.out).mono ?_); rintro e bJ ⟨rfl, hb⟩; refine ⟨_, rfl, ?_⟩; replace HB := q_ (y0k hb_ hb)))
  go_roundg k1
  case measure => have := HK1.out; omega
  case rel => exact ⟨((aB ++ aN) ++ aO), (wrap64 (aA + 1)), cl_, cl_, H', ⟨by have := HK1.out; omega⟩, ⟨hb_⟩⟩
end Go.Proofs.Ytenlmckahaniiaa.K
end
section
namespace Go.Proofs.Ytenlmckahaniiaa.K
open Go.RowKit Go.Proofs.YtW.P Go.Proofs.YtW.L
def zqj.f (k : Nat) (l0 : List (S25)) : Option (ByteArray × Int) := (zqq.f k l0).bind fun t914 => (if t914 = 0 then ((zqs.f k l0).bind fun t915 => ((zqv.f k t915).bind fun t916 => (some (t916, 0)))) else (some (nB_, t914)))
theorem zqj.mono : ∀ a0 k, LeO (zqj.f k a0) (zqj.f (k + 1) a0) := by
 intro a0 k
 unfold zqj.f
 with_reducible repeat' first | apply zqv.mono | apply zqq.mono | apply zqs.mono | exact LeO.refl _ | exact LeO.none _ | refine LeO.ite ?_ ?_ | refine LeO.bind ?_ (fun _ => ?_)
theorem zqj.calls (k : Nat) (A0 : Option Addr) (c0 : Nat) (l0 : List (S25)) (r1 : ByteArray) (r2 : Int) (w : World) (aI : Kd.C k25 w A0 l0.length l0) (aH : l0.length ≤ c0) (h : zqj.f k l0 = some (r1, r2)) :
  Calls Try.prog 38 #[.slice A0 l0.length c0] w fun e w' => e = .returned (.tuple #[.string r1, .int .i64 r2]) ∧ Below w.heap.size w w' := by
 have aE := q_ aI
 have aG := q_ aH
 clear aI aH
 have HB := q_ (Below.refl w.heap.size w)
 have H : ((zqq.f k l0).bind fun aA => (if aA = 0 then ((zqs.f k l0).bind fun aB => ((zqv.f k aB).bind fun aC => (some (aC, 0)))) else (some (nB_, aA)))) = some (r1, r2) := h
 clear h
 obtain ⟨aA, A2, H⟩ := bq_ H
 (try dsimp only at H)
 by_cases c3 : aA = 0
 rotate_left
 ·rw [if_neg c3] at H
  have aF := ef_ c3
  have aD := nt_ c3
  simp only [Option.some.injEq, Prod.mk.injEq] at H
  obtain ⟨rfl, rfl⟩ := H
  go_enter Try.func38, Try.ntmps38
  go_wp2_with (first | (refine gc_ 35 ?_; refine gl_ (some 6) Try.func35 #[.slice A0 l0.length c0] ?_; (with_reducible refine (zqq.calls k _ _ l0 aA _ ?side1 ?side2 A2.out).mono ?_); (case side1 => exact ck_ aE.out); (case side2 => exact aG.out); rintro e w9 ⟨rfl, hb⟩; refine ⟨_, rfl, ?_⟩; replace HB := q_ (y0k hb_ hb)))
  go_ret2
  exact ⟨ew_, hb_⟩
 rw [if_pos c3] at H
 have aF := et_ c3
 have aD := nf_ c3
 clear c3
 obtain ⟨aB, A4, H⟩ := bq_ H
 obtain ⟨aC, A5, H⟩ := bq_ H
 (try dsimp only at H)
 simp only [Option.some.injEq, Prod.mk.injEq] at H
 obtain ⟨rfl, rfl⟩ := H
 go_enter Try.func38, Try.ntmps38
 go_wp2_with (first | (refine gc_ 35 ?_; refine gl_ (some 6) Try.func35 #[.slice A0 l0.length c0] ?_; (with_reducible refine (zqq.calls k _ _ l0 aA _ ?side1 ?side2 A2.out).mono ?_); (case side1 => exact ck_ aE.out); (case side2 => exact aG.out); rintro e w6 ⟨rfl, hb⟩; refine ⟨_, rfl, ?_⟩; replace HB := q_ (y0k hb_ hb)) | (refine gc_ 79 ?_; refine gl_ (some 11) Try.func79 #[.slice A0 l0.length c0] ?_; (with_reducible refine (zqs.calls k _ _ l0 aB _ ?side1 ?side2 A4.out).mono ?_); (case side1 => exact ck_ (Kd.C_below aE.out HB.out)); (case side2 => exact aG.out); rintro e w7 ⟨rfl, hb⟩; refine ⟨_, rfl, ?_⟩; replace HB := q_ (y0k hb_ hb)) | (refine gc_ 23 ?_; refine gl_ (some 12) Try.func23 #[.string aB] ?_; (with_reducible refine (zqv.calls k aB aC _ A5.out).mono ?_); rintro e w8 ⟨rfl, hb⟩; refine ⟨_, rfl, ?_⟩; replace HB := q_ (y0k hb_ hb)))
 go_ret2
 exact ⟨ew_, hb_⟩
end Go.Proofs.Ytenlmckahaniiaa.K
end
