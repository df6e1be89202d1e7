/- Lemmas for the law LibraryEncodes: what its proof needs beyond what it shares. -/
import Derived.Test.YtenlmckahaniiaaZLibraryEncodes4
import Derived.Test.YtenlmckahaniiaaZcLe21
set_option linter.unusedVariables false
set_option linter.unusedSimpArgs false
set_option linter.unusedSectionVars false
set_option maxHeartbeats 8000000
set_option maxRecDepth 100000
section
namespace Go.Proofs.Ytenlmckahaniiaa.K
open Go.RowKit Go.Proofs.YtW.P Go.Proofs.YtW.L
mutual
def zq10.j0 : Nat → ByteArray → Bool → Option ((List (S25)) × Bool)
  | 0, _, _ => none
  | k + 1, x0, x21 => if x21 = true then (some (([] : List (S25)), false)) else ((zq13.f k x0 4 2).bind fun bt917 => (zq10.l0 k x0 bt917.1 bt917.2.1 ([] : List (S25)) 0))
def zq10.l0 : Nat → ByteArray → Int → Int → List (S25) → Int → Option ((List (S25)) × Bool)
  | 0, _, _, _, _, _ => none
  | k + 1, x0, x4, x5, x7, x8 => if x8 < x4 then ((zq13.f k x0 x5 4).bind fun bt920 => (if bt920.2.2 = 0 then (zq10.j2 k x0 x4 x7 x8 bt920.1 bt920.2.1 (decide (bt920.1 > (wrap64 ((x0.size : Int) - bt920.2.1))))) else (zq10.j2 k x0 x4 x7 x8 bt920.1 bt920.2.1 true))) else (some (x7, (x5 == (x0.size : Int))))
def zq10.j2 : Nat → ByteArray → Int → List (S25) → Int → Int → Int → Bool → Option ((List (S25)) × Bool)
  | 0, _, _, _, _, _, _, _ => none
  | k + 1, x0, x4, x7, x8, x9, x10, x49 => if x49 = true then (some (([] : List (S25)), false)) else (if 0 ≤ x10 then (if x10 ≤ (wrap64 (x10 + x9)) then (if (wrap64 (x10 + x9)) ≤ (x0.size : Int) then ((zqf.f k (x0.extract (x10 : Int).toNat ((wrap64 (x10 + x9)) : Int).toNat)).bind fun bt923 => (if bt923.2.2.2.2.2.2 = 0 then (if x7.length < 1353245080339 then (zq10.l0 k x0 x4 (wrap64 (x10 + x9)) (x7 ++ [(⟨bt923.1, bt923.2.1, bt923.2.2.1, bt923.2.2.2.1, bt923.2.2.2.2.1, bt923.2.2.2.2.2.1⟩ : S25)]) (wrap64 (x8 + 1))) else (none)) else (some (([] : List (S25)), false)))) else (none)) else (none)) else (none))
end
def zq10.f (k : Nat) (a0 : ByteArray) : Option ((List (S25)) × Bool) := if (a0.size : Int) < 6 then (zq10.j0 k a0 true) else (if 0 ≤ 4 then (if 4 ≤ (a0.size : Int) then (zq10.j0 k a0 ((a0.extract 0 4).toList != ([76, 73, 66, 49] : List UInt8))) else (none)) else (none))
theorem zq10.mono_l : ∀ k, (∀ y0 y1, LeO (zq10.j0 k y0 y1) (zq10.j0 (k + 1) y0 y1)) ∧ (∀ y0 y1 y2 y3 y4, LeO (zq10.l0 k y0 y1 y2 y3 y4) (zq10.l0 (k + 1) y0 y1 y2 y3 y4)) ∧ (∀ y0 y1 y2 y3 y4 y5 y6, LeO (zq10.j2 k y0 y1 y2 y3 y4 y5 y6) (zq10.j2 (k + 1) y0 y1 y2 y3 y4 y5 y6))
 | 0 => ⟨fun _ _ r h => by simp [zq10.j0] at h, fun _ _ _ _ _ r h => by simp [zq10.l0] at h, fun _ _ _ _ _ _ _ r h => by simp [zq10.j2] at h⟩
 | k + 1 => by
  obtain ⟨ih0, ih1, ih2⟩ := zq10.mono_l k
  refine ⟨?_, ?_, ?_⟩
  ·intro y0 y1
   unfold zq10.j0
   with_reducible repeat' first | apply ih0 | apply ih1 | apply ih2 | apply zq13.mono | apply zqf.mono | exact LeO.refl _ | exact LeO.none _ | refine LeO.ite ?_ ?_ | refine LeO.bind ?_ (fun _ => ?_)
  ·intro y0 y1 y2 y3 y4
   unfold zq10.l0
   with_reducible repeat' first | apply ih0 | apply ih1 | apply ih2 | apply zq13.mono | apply zqf.mono | exact LeO.refl _ | exact LeO.none _ | refine LeO.ite ?_ ?_ | refine LeO.bind ?_ (fun _ => ?_)
  ·intro y0 y1 y2 y3 y4 y5 y6
   unfold zq10.j2
   with_reducible repeat' first | apply ih0 | apply ih1 | apply ih2 | apply zq13.mono | apply zqf.mono | exact LeO.refl _ | exact LeO.none _ | refine LeO.ite ?_ ?_ | refine LeO.bind ?_ (fun _ => ?_)
theorem zq10.mono : ∀ a0 k, LeO (zq10.f k a0) (zq10.f (k + 1) a0) := by
 intro a0 k
 obtain ⟨ih0, ih1, ih2⟩ := zq10.mono_l k
 unfold zq10.f
 with_reducible repeat' first | apply ih0 | apply ih1 | apply ih2 | apply zq13.mono | apply zqf.mono | exact LeO.refl _ | exact LeO.none _ | refine LeO.ite ?_ ?_ | refine LeO.bind ?_ (fun _ => ?_)
theorem zq10.calls (k : Nat) (a0 : ByteArray) (r1 : List (S25)) (r2 : Bool) (w : World) (h : zq10.f k a0 = some (r1, r2)) :
  Calls Try.prog 82 #[.string a0] w fun e w' => ∃ v0_ : Value, e = .returned (.tuple #[v0_, .bool r2]) ∧ Kd.S k25 25 w' w.heap.size (fun _ => True) v0_ r1 ∧ Below w.heap.size w w' := by
 have dW := Try.underlying25
 have HB := q_ (Below.refl w.heap.size w)
 have H : (if (a0.size : Int) < 6 then (zq10.j0 k a0 true) else (if 0 ≤ 4 then (if 4 ≤ (a0.size : Int) then (zq10.j0 k a0 ((a0.extract 0 4).toList != ([76, 73, 66, 49] : List UInt8))) else (none)) else (none))) = some (r1, r2) := h
 clear h
 have cZ := q_ H
 clear H
 go_enter Try.func82, Try.ntmps82
 go_upto_region 1 with (fail)
 go_cut [21] (fun dX wc => ∃ (kq : Nat) (a3 : Bool), dX = .bool a3 ∧ Aside0 (zq10.j0 kq a0 a3 = some (r1, r2)) ∧ Aside0 (kq ≤ k) ∧ Aside0 (Below w.heap.size w wc))
 case first =>
  have H := cZ.out
  clear cZ
  by_cases c3 : (a0.size : Int) < 6
  ·rw [if_pos c3] at H
   have a5 := dt_ c3
   have dA : decide (a0.size < 6) = true := decide_eq_true (by omega)
   clear c3
   (first | rw [a5] | (simp only [y2h, y2g]; rw [a5]) | skip)
   have H' := q_ H
   clear H
   go_wp2
   go_meet
   case rel => exact ⟨_, (true), cl_, H', ⟨oz_⟩, ⟨hb_⟩⟩
  rw [if_neg c3] at H
  have a5 := df_ c3
  have dA : decide (a0.size < 6) = false := decide_eq_false (by omega)
  clear c3
  (first | rw [a5] | (simp only [y2h, y2g]; rw [a5]) | skip)
  by_cases c4 : 0 ≤ 4
  rotate_left
  ·rw [if_neg c4] at H
   exact absurd H (by simp)
  rw [if_pos c4] at H
  have dQ := eq_true c4
  have d1 := dt_ c4
  clear c4
  by_cases c5 : 4 ≤ (a0.size : Int)
  rotate_left
  ·rw [if_neg c5] at H
   exact absurd H (by simp)
  rw [if_pos c5] at H
  have d0 := eq_true c5
  have dS := dt_ c5
  clear c5
  have H' := q_ H
  clear H
  go_wp2
  go_meet
  case rel => exact ⟨_, (((a0.extract 0 4).toList != ([76, 73, 66, 49] : List UInt8))), cl_, H', ⟨oz_⟩, ⟨hb_⟩⟩
 clear cZ
 obtain ⟨kq, a3, rfl, HA, bT, HB⟩ := hcut
 obtain _ | kj1 := kq
 ·exact nn_ HA
 have H := HA.out
 clear HA
 simp only [zq10.j0] at H
 by_cases c6 : a3 = true
 ·subst c6
  rw [if_pos rfl] at H
  simp only [Option.some.injEq, Prod.mk.injEq] at H
  obtain ⟨rfl, rfl⟩ := H
  go_wp2
  go_ret2
  exact ⟨_, ew_, by first | exact Kd.S_nil _ _ _ _ _ | exact Kd.N_nil _ _ _ _ _ | exact Kd.V_nil _ _ _ _ _ | exact Kd.Q_nil _ _ _ _ _ | exact Kd.R_nil _ _ _ _ _, hb_⟩
 replace c6 := Bool.eq_false_iff.mpr c6
 subst c6
 rw [if_neg (show ¬ (false = true) by decide)] at H
 obtain ⟨⟨a4, bB, cX⟩, A7, H⟩ := bq_ H
 (try dsimp only at H)
 have H' := q_ H
 clear H
 go_wp2_with (first | (refine gc_ 98 ?_; refine gl_ (some 24) Try.func98 #[.string a0, .int .i64 4, .int .i64 2] ?_; (with_reducible refine (zq13.calls kj1 a0 4 2 a4 bB cX _ A7.out).mono ?_); rintro e w' ⟨rfl, ⟨nd, rfl⟩⟩; refine ⟨_, rfl, ?_⟩))
 go_loopg [5, 7, 8] kj1 (fun kq v5 v7 v8 w' => ∃ (a6 : Int) (aX : List (S25)) (a1 : Int), v5 = .int .i64 a6 ∧ v8 = .int .i64 a1 ∧ Aside0 (zq10.l0 kq a0 a4 a6 aX a1 = some (r1, r2)) ∧ Aside0 (kq ≤ kj1) ∧ Aside0 (Kd.S k25 25 w' w.heap.size (fun _ => True) v7 aX) ∧ Aside0 (Below w.heap.size w w'))
 case atStart => exact ⟨(bB), (([] : List (S25))), (0), cl_, cl_, H', ⟨Nat.le_refl _⟩, ⟨by first | exact Kd.S_nil _ _ _ _ _ | exact Kd.N_nil _ _ _ _ _ | exact Kd.V_nil _ _ _ _ _ | exact Kd.Q_nil _ _ _ _ _ | exact Kd.R_nil _ _ _ _ _⟩, ⟨hb_⟩⟩
 case round =>
  clear H'
  obtain ⟨a6, aX, a1, rfl, rfl, HA, bZ, aD, HB⟩ := hrel
  obtain _ | k2 := gk
  ·exact nn_ HA
  have H := HA.out
  clear HA
  simp only [zq10.l0] at H
  by_cases c8 : a1 < a4
  rotate_left
  ·rw [if_neg c8] at H
   have c1 := df_ c8
   clear c8
   simp only [Option.some.injEq, Prod.mk.injEq] at H
   obtain ⟨rfl, rfl⟩ := H
   go_wp2
   go_ret2
   exact ⟨_, ew_, by (with_reducible repeat (first | apply Kd.S_alloc | apply Kd.S_drewN | apply Kd.S_drew)); exact aD.out, hb_⟩
  rw [if_pos c8] at H
  have c1 := dt_ c8
  clear c8
  obtain ⟨⟨aN, aH, bP⟩, A9, H⟩ := bq_ H
  (try dsimp only at H)
  have a9 := q_ H
  clear H
  go_upto_region 9 with (first | (refine gc_ 98 ?_; refine gl_ (some 36) Try.func98 #[.string a0, .int .i64 a6, .int .i64 4] ?_; (with_reducible refine (zq13.calls k2 a0 a6 4 aN aH bP _ A9.out).mono ?_); rintro e w' ⟨rfl, ⟨nd, rfl⟩⟩; refine ⟨_, rfl, ?_⟩))
  (try simp only [Act.put, List.setIfInBounds_toArray, List.set_cons_zero, List.set_cons_succ])
  go_cut [49] (fun dR wc => ∃ (kq : Nat) (a2 : Bool), dR = .bool a2 ∧ Aside0 (zq10.j2 kq a0 a4 aX a1 aN aH a2 = some (r1, r2)) ∧ Aside0 (kq ≤ k2) ∧ Aside0 (Kd.S k25 25 wc w.heap.size (fun _ => True) u7 aX) ∧ Aside0 (Below w.heap.size w wc))
  case first =>
   have H := a9.out
   clear a9
   by_cases bA : bP = 0
   rotate_left
   ·rw [if_neg bA] at H
    have aZ := ef_ bA
    have bE := nt_ bA
    (first | rw [aZ] | (simp only [y2h, y2g]; rw [aZ]) | skip)
    have H' := q_ H
    clear H
    go_wp2
    go_meet
    case rel => exact ⟨_, (true), cl_, H', ⟨by have := bT.out; have := bZ.out; first | omega | exact Nat.le_refl _⟩, ⟨sk_ aD.out⟩, ⟨hb_⟩⟩
   rw [if_pos bA] at H
   have aZ := et_ bA
   have bE := nf_ bA
   clear bA
   (first | rw [aZ] | (simp only [y2h, y2g]; rw [aZ]) | skip)
   have H' := q_ H
   clear H
   go_wp2
   go_meet
   case rel => exact ⟨_, (decide (aN > (wrap64 ((a0.size : Int) - aH)))), cl_, H', ⟨by have := bT.out; have := bZ.out; first | omega | exact Nat.le_refl _⟩, ⟨sk_ aD.out⟩, ⟨hb_⟩⟩
  clear a9
  obtain ⟨kq, a2, rfl, HA, dH, aD, HB⟩ := hcut
  obtain _ | kj9 := kq
  ·exact nn_ HA
  have H := HA.out
  clear HA
  simp only [zq10.j2] at H
  by_cases b1 : a2 = true
  ·subst b1
   rw [if_pos rfl] at H
   simp only [Option.some.injEq, Prod.mk.injEq] at H
   obtain ⟨rfl, rfl⟩ := H
   go_wp2
   go_ret2
   exact ⟨_, ew_, by first | exact Kd.S_nil _ _ _ _ _ | exact Kd.N_nil _ _ _ _ _ | exact Kd.V_nil _ _ _ _ _ | exact Kd.Q_nil _ _ _ _ _ | exact Kd.R_nil _ _ _ _ _, hb_⟩
  replace b1 := Bool.eq_false_iff.mpr b1
  subst b1
  rw [if_neg (show ¬ (false = true) by decide)] at H
  by_cases bD : 0 ≤ aH
  rotate_left
  ·rw [if_neg bD] at H
   exact absurd H (by simp)
  rw [if_pos bD] at H
  have dI := eq_true bD
  have dL := dt_ bD
  clear bD
  by_cases b7 : aH ≤ (wrap64 (aH + aN))
  rotate_left
  ·rw [if_neg b7] at H
   exact absurd H (by simp)
  rw [if_pos b7] at H
  have dM := eq_true b7
  have dC := dt_ b7
  by_cases cQ : (wrap64 (aH + aN)) ≤ (a0.size : Int)
  rotate_left
  ·rw [if_neg cQ] at H
   exact absurd H (by simp)
  rw [if_pos cQ] at H
  have dN := eq_true cQ
  have dF := dt_ cQ
  obtain ⟨⟨aM, aK, aQ, aR, aI, aJ, a7⟩, dO, H⟩ := bq_ H
  (try dsimp only at H)
  by_cases a8 : a7 = 0
  rotate_left
  ·rw [if_neg a8] at H
   have bH := ef_ a8
   have bK := nt_ a8
   simp only [Option.some.injEq, Prod.mk.injEq] at H
   obtain ⟨rfl, rfl⟩ := H
   go_wp2_with (first | (refine gc_ 25 ?_; refine goesL_ (some 57) rfl rfl Try.func25 (by kernel_rfl) rfl #[.string (a0.extract (aH : Int).toNat ((wrap64 (aH + aN)) : Int).toNat)] rfl (by (try simp only [List.map_toArray, List.map_cons, List.map_nil]); first | done | rfl | (simp only [List.length_drop, List.length_take]; rfl) | (simp only [ByteArray.size_extract, Nat.sub_zero]; rfl) | (simp only [ByteArray.size_extract, Nat.sub_zero]; done) | ((try go_simp); (try simp only [ByteArray.size_extract, Nat.sub_zero]); (try simp only [eq_iff_iff, iff_true] at *); repeat (first | rfl | omega | congr 1))) ?_; (with_reducible refine (zqf.calls kj9 (a0.extract (aH : Int).toNat ((wrap64 (aH + aN)) : Int).toNat) aM aK aQ aR aI aJ a7 _ dO.out).mono ?_); rintro e d2 ⟨c2, c7, rfl, bM, bI, hb⟩; refine ⟨_, rfl, ?_⟩; replace aD := q_ (Kd.S_mono (Kd.S_told (Kd.S_told (Kd.S_old (sk_ aD.out) hb) (Kd.R_base bM)) (Kd.R_base bI)) (fun _ h_ => h_.1)); have aE := q_ (Kd.R_lower bM (y0j hb_)); have aG := q_ (Kd.R_lower bI (y0j hb_)); replace HB := q_ (y0k hb_ hb)) | (refine gd_ 12 ?_; (try (refine y23 (by rfl) ?_; dsimp only)); refine bx_ 12 (cs := #[.string nB_, .string nB_, .string nB_, .int .i64 0, .slice none 0 0, .slice none 0 0]) 25 ?_; intro aA hg d5 hbox hb; replace aD := q_ (Kd.S_below (Kd.S_elderB (sk_ aD.out) aA (Nat.le_of_eq hg.symm)) hb); replace aE := q_ (Kd.R_below (rk_ aE.out) hb); replace aG := q_ (Kd.R_below (rk_ aG.out) hb); have aC := q_ (hbox); have bG := gw_ w hg (y0j hb_); have bJ := gw_ w hg (y0j hb_); replace HB := q_ (y0k hb_ hb); clear hb hbox hg; obtain ⟨b3, b2, cE, bX, bR, cJ, bV, bY, b6, cT, cC, cD⟩ := b6_ aC.out; obtain ⟨dV, dY, dB⟩ := Kd.R_slice aE.out; subst dB; obtain ⟨dU, dZ, cY⟩ := Kd.R_slice aG.out; subst cY))
   go_ret2
   exact ⟨_, ew_, by first | exact Kd.S_nil _ _ _ _ _ | exact Kd.N_nil _ _ _ _ _ | exact Kd.V_nil _ _ _ _ _ | exact Kd.Q_nil _ _ _ _ _ | exact Kd.R_nil _ _ _ _ _, hb_⟩
  rw [if_pos a8] at H
  have bH := et_ a8
  have bK := nf_ a8
  clear a8
  by_cases cH : aX.length < 1353245080339
  rotate_left
  ·rw [if_neg cH] at H
   exact absurd H (by simp)
  rw [if_pos cH] at H
  have bC := q_ cH
  clear cH
  obtain ⟨bL, aY⟩ : ∃ y_ : List (S25), y_ = (aX ++ [(⟨aM, aK, aQ, aR, aI, aJ⟩ : S25)]) := ⟨_, rfl⟩
  replace H : (zq10.l0 kj9 a0 a4 (wrap64 (aH + aN)) bL (wrap64 (a1 + 1))) = some (r1, r2) := by first | (rw [aY]; with_reducible exact H) | (have c0 := (Option.bind_some _ _).symm.trans H; rw [aY]; with_reducible exact c0) | (have c0 := (Option.bind_some _ _).symm.trans H; with_reducible exact c0) | with_reducible exact H | (rw [aY]; exact H) | exact H
  have bO := q_ aY
  clear aY
  have H' := q_ H
  clear H
  go_wp2_with (first | (refine gc_ 25 ?_; refine goesL_ (some 57) rfl rfl Try.func25 (by kernel_rfl) rfl #[.string (a0.extract (aH : Int).toNat ((wrap64 (aH + aN)) : Int).toNat)] rfl (by (try simp only [List.map_toArray, List.map_cons, List.map_nil]); first | done | rfl | (simp only [List.length_drop, List.length_take]; rfl) | (simp only [ByteArray.size_extract, Nat.sub_zero]; rfl) | (simp only [ByteArray.size_extract, Nat.sub_zero]; done) | ((try go_simp); (try simp only [ByteArray.size_extract, Nat.sub_zero]); (try simp only [eq_iff_iff, iff_true] at *); repeat (first | rfl | omega | congr 1))) ?_; (with_reducible refine (zqf.calls kj9 (a0.extract (aH : Int).toNat ((wrap64 (aH + aN)) : Int).toNat) aM aK aQ aR aI aJ a7 _ dO.out).mono ?_); rintro e d3 ⟨c2, c7, rfl, bM, bI, hb⟩; refine ⟨_, rfl, ?_⟩; replace aD := q_ (Kd.S_mono (Kd.S_told (Kd.S_told (Kd.S_old (sk_ aD.out) hb) (Kd.R_base bM)) (Kd.R_base bI)) (fun _ h_ => h_.1)); have aE := q_ (Kd.R_lower bM (y0j hb_)); have aG := q_ (Kd.R_lower bI (y0j hb_)); replace HB := q_ (y0k hb_ hb)) | (refine gd_ 12 ?_; (try (refine y23 (by rfl) ?_; dsimp only)); refine bx_ 12 (cs := #[.string nB_, .string nB_, .string nB_, .int .i64 0, .slice none 0 0, .slice none 0 0]) 25 ?_; intro aA hg dT hbox hb; replace aD := q_ (Kd.S_below (Kd.S_elderB (sk_ aD.out) aA (Nat.le_of_eq hg.symm)) hb); replace aE := q_ (Kd.R_below (rk_ aE.out) hb); replace aG := q_ (Kd.R_below (rk_ aG.out) hb); have aC := q_ (hbox); have bG := gw_ w hg (y0j hb_); have bJ := gw_ w hg (y0j hb_); replace HB := q_ (y0k hb_ hb); clear hb hbox hg; obtain ⟨cI, bS, bU, cM, cA, bQ, cF, cN, cK, cV, cU, cG⟩ := b6_ aC.out; obtain ⟨aT, aV, c9⟩ := Kd.R_slice aE.out; subst c9; obtain ⟨aU, aW, cW⟩ := Kd.R_slice aG.out; subst cW) | ((with_reducible refine y24 (t := 25) (p := 12) rfl ?_); refine y5b (t := 25) (p := 12) (v := ?vo_w24) (w1 := ((((((dT.setCell ⟨aA, 0, none⟩ (.string aM)).setCell ⟨aA, 1, none⟩ (.string aK)).setCell ⟨aA, 2, none⟩ (.string aQ)).setCell ⟨aA, 3, none⟩ (.int .i64 aR)).setCell ⟨aA, 4, none⟩ (.slice aT aI.length aV)).setCell ⟨aA, 5, none⟩ (.slice aU aJ.length aW))) ?hg ?ho ?hn ?hr ?_; (case ho => rfl); (case hg => rfl); (case hn => rfl); (case hr => first | (go_simp; done) | (go_simp; rfl)); intro bN hw; have dK : Aside0 (Kd.S k25 25 bN w.heap.size (fun k_ => some k_ ≠ (.slice aT aI.length aV : Value).ownBlock ∧ some k_ ≠ (.slice aU aJ.length aW : Value).ownBlock ∧ k_ ≠ aA) u7 aX) := ⟨(by rw [hw]; exact (sm_ (Kd.S_far (p := ⟨aA, 5, none⟩) (Kd.S_far (p := ⟨aA, 4, none⟩) (Kd.S_far (p := ⟨aA, 3, none⟩) (Kd.S_far (p := ⟨aA, 2, none⟩) (Kd.S_far (p := ⟨aA, 1, none⟩) (Kd.S_far (p := ⟨aA, 0, none⟩) (Kd.S_mono aD.out (fun k_ hk => (⟨hk, hk.2⟩ : _ ∧ k_ ≠ aA))) (fun _ hk => hk.2) (.string aM)) (fun _ hk => hk.2) (.string aK)) (fun _ hk => hk.2) (.string aQ)) (fun _ hk => hk.2) (.int .i64 aR)) (fun _ hk => hk.2) (.slice aT aI.length aV)) (fun _ hk => hk.2) (.slice aU aJ.length aW)) (fun _ hk => ⟨hk.1.1.1.2, ⟨hk.1.1.2, hk.1.2⟩⟩)))⟩; have dE : Aside0 (Kd.R k62 62 bN w.heap.size (fun _ => True) (.slice aT aI.length aV) aI) := ⟨(by rw [hw]; exact (rm_ (Kd.R_far (p := ⟨aA, 5, none⟩) (Kd.R_far (p := ⟨aA, 4, none⟩) (Kd.R_far (p := ⟨aA, 3, none⟩) (Kd.R_far (p := ⟨aA, 2, none⟩) (Kd.R_far (p := ⟨aA, 1, none⟩) (Kd.R_far (p := ⟨aA, 0, none⟩) (Kd.R_types aE.out aC.out (by decide)) (fun _ hk => hk.2) (.string aM)) (fun _ hk => hk.2) (.string aK)) (fun _ hk => hk.2) (.string aQ)) (fun _ hk => hk.2) (.int .i64 aR)) (fun _ hk => hk.2) (.slice aT aI.length aV)) (fun _ hk => hk.2) (.slice aU aJ.length aW)) (fun _ hk => trivial)))⟩; have dD : Aside0 (Kd.R k43 43 bN w.heap.size (fun _ => True) (.slice aU aJ.length aW) aJ) := ⟨(by rw [hw]; exact (rm_ (Kd.R_far (p := ⟨aA, 5, none⟩) (Kd.R_far (p := ⟨aA, 4, none⟩) (Kd.R_far (p := ⟨aA, 3, none⟩) (Kd.R_far (p := ⟨aA, 2, none⟩) (Kd.R_far (p := ⟨aA, 1, none⟩) (Kd.R_far (p := ⟨aA, 0, none⟩) (Kd.R_types aG.out aC.out (by decide)) (fun _ hk => hk.2) (.string aM)) (fun _ hk => hk.2) (.string aK)) (fun _ hk => hk.2) (.string aQ)) (fun _ hk => hk.2) (.int .i64 aR)) (fun _ hk => hk.2) (.slice aT aI.length aV)) (fun _ hk => hk.2) (.slice aU aJ.length aW)) (fun _ hk => trivial)))⟩; have dJ : Aside0 (bN.heap[aA]? = some (.cells #[.string aM, .string aK, .string aQ, .int .i64 aR, .slice aT aI.length aV, .slice aU aJ.length aW] 25 (0, 0))) := ⟨(by rw [hw]; exact (bs_ aC.out))⟩; have dG : Aside0 (Below w.heap.size w bN) := ⟨(by rw [hw]; exact hb_)⟩; clear hw aD aE aG aC HB; have aD := dK; have aE := dE; have aG := dD; have aC := dJ; have HB := dG; clear dK dE dD dJ dG; obtain ⟨cP, cB, cR, cO, b0, b9, bW, b8, b4, cL, b5, cS⟩ := b6_ aC.out) | ((with_reducible refine y22 (b := .append) (xs := #[.tmp 62, .tmp 64]) rfl ?_); (try (refine y23 (by rfl) ?_; dsimp only)); at_builtin; refine Kd.S_append k25 (w0 := w) w.heap.size rfl (.tmp 62) (.tmp 64) 46 25 (.agg #[(.string ⟨#[]⟩), (.string ⟨#[]⟩), (.string ⟨#[]⟩), (.int .i64 0), (.slice none 0 0), (.slice none 0 0)]) 104 rfl Try.underlying46 info25 rfl (by decide) (by omega) u7 aX (⟨aM, aK, aQ, aR, aI, aJ⟩ : S25) [.string aM, .string aK, .string aQ, .int .i64 aR, .slice aT aI.length aV, .slice aU aJ.length aW] (fun k_ => k_ ≠ aA) (fun k_ => some k_ = (.slice aT aI.length aV : Value).ownBlock ∨ some k_ = (.slice aU aJ.length aW : Value).ownBlock) rfl rfl ?aP (fun k_ hk_ => hk_.elim (fun h_ => ((Kd.R_mono (ok' := fun k_ => ((fun k_ => k_ ≠ aA)) k_ ∧ some k_ ≠ (u7 : Value).ownBlock) (Kd.R_types (Kd.R_apart' (aE.out) (Kd.S_typed aD.out) (by decide)) aC.out (by decide)) (fun k_ hk => ⟨hk.2, hk.1.2⟩))).1 k_ h_.symm) (fun h_ => ((Kd.R_mono (ok' := fun k_ => ((fun k_ => k_ ≠ aA)) k_ ∧ some k_ ≠ (u7 : Value).ownBlock) (Kd.R_types (Kd.R_apart' (aG.out) (Kd.S_typed aD.out) (by decide)) aC.out (by decide)) (fun k_ hk => ⟨hk.2, hk.1.2⟩))).1 k_ h_.symm)) ?aF ?aO ?aB ?aS ?aL ?_; (case aP => exact k25_mkM _ _ _ (⟨aM, aK, aQ, aR, aI, aJ⟩ : S25) (Kd.R_mono (Kd.R_tight rfl (Kd.R_mono (ok' := fun k_ => ((fun k_ => k_ ≠ aA)) k_ ∧ some k_ ≠ (u7 : Value).ownBlock) (Kd.R_types (Kd.R_apart' (aE.out) (Kd.S_typed aD.out) (by decide)) aC.out (by decide)) (fun k_ hk => ⟨hk.2, hk.1.2⟩))) (fun _ h_ => Or.inl h_)) (Kd.R_mono (Kd.R_tight rfl (Kd.R_mono (ok' := fun k_ => ((fun k_ => k_ ≠ aA)) k_ ∧ some k_ ≠ (u7 : Value).ownBlock) (Kd.R_types (Kd.R_apart' (aG.out) (Kd.S_typed aD.out) (by decide)) aC.out (by decide)) (fun k_ hk => ⟨hk.2, hk.1.2⟩))) (fun _ h_ => Or.inr (h_)))); (case aB => exact hb_); (case aF => exact (fun k_ hk => Kd.freshB (bk_ aC.out) k_ hk)); (case aO => exact (sm_ aD.out (fun k_ hk => ⟨hk.2.2, fun e_ => e_.elim (fun h_ => hk.1 h_) (fun h_ => hk.2.1 h_)⟩))); (case aS => exact (y0j hb_)); (case aL => have := bC.out; omega); intro dP d4 ho hb hg hat; rw [← bO.out] at ho; replace aC := q_ (y0r (bk_ aC.out) hg (Kd.S_away aD.out (fun _ hk => hk.2.2))); replace HB := q_ (hb); have bF := q_ (ho); clear aD aE aG; clear ho hb hg hat))
  go_roundg kj9
  case measure => have := bT.out; have := bZ.out; have := dH.out; omega
  case rel => exact ⟨(wrap64 (aH + aN)), (bL), (wrap64 (a1 + 1)), cl_, cl_, H', ⟨by have := bT.out; have := bZ.out; have := dH.out; omega⟩, ⟨sm_ bF.out (fun _ hk => trivial)⟩, ⟨hb_⟩⟩
end Go.Proofs.Ytenlmckahaniiaa.K
end
section
namespace Go.Proofs.Ytenlmckahaniiaa.K
open Go.RowKit Go.Proofs.YtW.P Go.Proofs.YtW.L
def zqi.f (k : Nat) (a0 : ByteArray) : Option ((List (S25)) × Int) := (zqu.f k a0).bind fun bt938 => (if bt938.2 = 0 then ((zq10.f k bt938.1).bind fun bt940 => (if bt940.2 = true then ((zqq.f k bt940.1).bind fun t944 => (if t944 = 0 then ((zqs.f k bt940.1).bind fun t945 => (if t945.toList = bt938.1.toList then (some (bt940.1, 0)) else (some (([] : List (S25)), 9)))) else (some (([] : List (S25)), 9)))) else (some (([] : List (S25)), 9)))) else (some (([] : List (S25)), bt938.2)))
theorem zqi.mono : ∀ a0 k, LeO (zqi.f k a0) (zqi.f (k + 1) a0) := by
 intro a0 k
 unfold zqi.f
 with_reducible repeat' first | apply zqu.mono | apply zqq.mono | apply zqs.mono | apply zq10.mono | exact LeO.refl _ | exact LeO.none _ | refine LeO.ite ?_ ?_ | refine LeO.bind ?_ (fun _ => ?_)
theorem zqi.calls (k : Nat) (a0 : ByteArray) (r1 : List (S25)) (r2 : Int) (w : World) (h : zqi.f k a0 = some (r1, r2)) :
  Calls Try.prog 40 #[.string a0] w fun e w' => ∃ v0_ : Value, e = .returned (.tuple #[v0_, .int .i64 r2]) ∧ Kd.S k25 25 w' w.heap.size (fun _ => True) v0_ r1 ∧ Below w.heap.size w w' := by
 have HB := q_ (Below.refl w.heap.size w)
 have H : ((zqu.f k a0).bind fun aE => (if aE.2 = 0 then ((zq10.f k aE.1).bind fun aD => (if aD.2 = true then ((zqq.f k aD.1).bind fun aG => (if aG = 0 then ((zqs.f k aD.1).bind fun aH => (if aH.toList = aE.1.toList then (some (aD.1, 0)) else (some (([] : List (S25)), 9)))) else (some (([] : List (S25)), 9)))) else (some (([] : List (S25)), 9)))) else (some (([] : List (S25)), aE.2)))) = some (r1, r2) := h
 clear h
 obtain ⟨⟨aB, aF⟩, A2, H⟩ := bq_ H
 (try dsimp only at H)
 by_cases c3 : aF = 0
 rotate_left
 ·rw [if_neg c3] at H
  have aP := ef_ c3
  have aK := nt_ c3
  simp only [Option.some.injEq, Prod.mk.injEq] at H
  obtain ⟨rfl, rfl⟩ := H
  go_enter Try.func40, Try.ntmps40
  go_wp2_with (first | (refine gc_ 65 ?_; refine gl_ (some 10) Try.func65 #[.string a0] ?_; (with_reducible refine (zqu.calls k a0 aB aF _ A2.out).mono ?_); rintro e a2 ⟨rfl, hb⟩; refine ⟨_, rfl, ?_⟩; replace HB := q_ (y0k hb_ hb)))
  go_ret2
  exact ⟨_, ew_, by first | exact Kd.S_nil _ _ _ _ _ | exact Kd.N_nil _ _ _ _ _ | exact Kd.V_nil _ _ _ _ _ | exact Kd.Q_nil _ _ _ _ _ | exact Kd.R_nil _ _ _ _ _, hb_⟩
 rw [if_pos c3] at H
 have aP := et_ c3
 have aK := nf_ c3
 clear c3
 obtain ⟨⟨aC, aR⟩, A4, H⟩ := bq_ H
 (try dsimp only at H)
 by_cases c5 : aR = true
 rotate_left
 ·replace c5 := Bool.eq_false_iff.mpr c5
  subst c5
  rw [if_neg (show ¬ (false = true) by decide)] at H
  simp only [Option.some.injEq, Prod.mk.injEq] at H
  obtain ⟨rfl, rfl⟩ := H
  go_enter Try.func40, Try.ntmps40
  go_wp2_with (first | (refine gc_ 65 ?_; refine gl_ (some 10) Try.func65 #[.string a0] ?_; (with_reducible refine (zqu.calls k a0 aB aF _ A2.out).mono ?_); rintro e a3 ⟨rfl, hb⟩; refine ⟨_, rfl, ?_⟩; replace HB := q_ (y0k hb_ hb)) | (refine gc_ 82 ?_; refine gl_ (some 18) Try.func82 #[.string aB] ?_; (with_reducible refine (zq10.calls k aB aC false _ A4.out).mono ?_); rintro e bA ⟨aI, rfl, aJ, hb⟩; refine ⟨_, rfl, ?_⟩; have aA := q_ (Kd.S_lower aJ (y0j hb_)); replace HB := q_ (y0k hb_ hb)))
  go_ret2
  exact ⟨_, ew_, by first | exact Kd.S_nil _ _ _ _ _ | exact Kd.N_nil _ _ _ _ _ | exact Kd.V_nil _ _ _ _ _ | exact Kd.Q_nil _ _ _ _ _ | exact Kd.R_nil _ _ _ _ _, hb_⟩
 subst c5
 rw [if_pos rfl] at H
 obtain ⟨aG, A6, H⟩ := bq_ H
 (try dsimp only at H)
 by_cases c7 : aG = 0
 rotate_left
 ·rw [if_neg c7] at H
  have aN := ef_ c7
  have aO := nt_ c7
  simp only [Option.some.injEq, Prod.mk.injEq] at H
  obtain ⟨rfl, rfl⟩ := H
  go_enter Try.func40, Try.ntmps40
  go_wp2_with (first | (refine gc_ 65 ?_; refine gl_ (some 10) Try.func65 #[.string a0] ?_; (with_reducible refine (zqu.calls k a0 aB aF _ A2.out).mono ?_); rintro e a8 ⟨rfl, hb⟩; refine ⟨_, rfl, ?_⟩; replace HB := q_ (y0k hb_ hb)) | (refine gc_ 82 ?_; refine gl_ (some 18) Try.func82 #[.string aB] ?_; (with_reducible refine (zq10.calls k aB aC true _ A4.out).mono ?_); rintro e a1 ⟨aI, rfl, aJ, hb⟩; refine ⟨_, rfl, ?_⟩; have aA := q_ (Kd.S_lower aJ (y0j hb_)); replace HB := q_ (y0k hb_ hb); obtain ⟨aX, aV, aL⟩ := Kd.S_slice aA.out; subst aL) | (go_at_call 35; (with_reducible refine (zqq.calls k _ _ aC aG _ ?side1 ?side2 A6.out).mono ?_); (case side1 => exact ck_ (Kd.S_reads' aA.out).2.2); (case side2 => exact (Kd.S_reads' aA.out).2.1); rintro e a5 ⟨rfl, hb⟩; replace aA := q_ (Kd.S_below (sk_ aA.out) hb); replace HB := q_ (y0k hb_ hb)))
  go_ret2
  exact ⟨_, ew_, by first | exact Kd.S_nil _ _ _ _ _ | exact Kd.N_nil _ _ _ _ _ | exact Kd.V_nil _ _ _ _ _ | exact Kd.Q_nil _ _ _ _ _ | exact Kd.R_nil _ _ _ _ _, hb_⟩
 rw [if_pos c7] at H
 have aN := et_ c7
 have aO := nf_ c7
 clear c7
 obtain ⟨aH, A8, H⟩ := bq_ H
 (try dsimp only at H)
 by_cases c9 : aH.toList = aB.toList
 rotate_left
 ·rw [if_neg c9] at H
  have aS := ef_ c9
  have aM := nt_ c9
  simp only [Option.some.injEq, Prod.mk.injEq] at H
  obtain ⟨rfl, rfl⟩ := H
  go_enter Try.func40, Try.ntmps40
  go_wp2_with (first | (refine gc_ 65 ?_; refine gl_ (some 10) Try.func65 #[.string a0] ?_; (with_reducible refine (zqu.calls k a0 aB aF _ A2.out).mono ?_); rintro e bB ⟨rfl, hb⟩; refine ⟨_, rfl, ?_⟩; replace HB := q_ (y0k hb_ hb)) | (refine gc_ 82 ?_; refine gl_ (some 18) Try.func82 #[.string aB] ?_; (with_reducible refine (zq10.calls k aB aC true _ A4.out).mono ?_); rintro e a9 ⟨aI, rfl, aJ, hb⟩; refine ⟨_, rfl, ?_⟩; have aA := q_ (Kd.S_lower aJ (y0j hb_)); replace HB := q_ (y0k hb_ hb); obtain ⟨aZ, aY, aT⟩ := Kd.S_slice aA.out; subst aT) | (go_at_call 35; (with_reducible refine (zqq.calls k _ _ aC aG _ ?side1 ?side2 A6.out).mono ?_); (case side1 => exact ck_ (Kd.S_reads' aA.out).2.2); (case side2 => exact (Kd.S_reads' aA.out).2.1); rintro e bC ⟨rfl, hb⟩; replace aA := q_ (Kd.S_below (sk_ aA.out) hb); replace HB := q_ (y0k hb_ hb)) | (go_at_call 79; (with_reducible refine (zqs.calls k _ _ aC aH _ ?side1 ?side2 A8.out).mono ?_); (case side1 => exact ck_ (Kd.S_reads' aA.out).2.2); (case side2 => exact (Kd.S_reads' aA.out).2.1); rintro e a6 ⟨rfl, hb⟩; replace aA := q_ (Kd.S_below (sk_ aA.out) hb); replace HB := q_ (y0k hb_ hb)))
  go_ret2
  exact ⟨_, ew_, by first | exact Kd.S_nil _ _ _ _ _ | exact Kd.N_nil _ _ _ _ _ | exact Kd.V_nil _ _ _ _ _ | exact Kd.Q_nil _ _ _ _ _ | exact Kd.R_nil _ _ _ _ _, hb_⟩
 rw [if_pos c9] at H
 have aS := et_ c9
 have aM := nf_ c9
 clear c9
 simp only [Option.some.injEq, Prod.mk.injEq] at H
 obtain ⟨rfl, rfl⟩ := H
 go_enter Try.func40, Try.ntmps40
 go_wp2_with (first | (refine gc_ 65 ?_; refine gl_ (some 10) Try.func65 #[.string a0] ?_; (with_reducible refine (zqu.calls k a0 aB aF _ A2.out).mono ?_); rintro e bE ⟨rfl, hb⟩; refine ⟨_, rfl, ?_⟩; replace HB := q_ (y0k hb_ hb)) | (refine gc_ 82 ?_; refine gl_ (some 18) Try.func82 #[.string aB] ?_; (with_reducible refine (zq10.calls k aB aC true _ A4.out).mono ?_); rintro e a4 ⟨aI, rfl, aJ, hb⟩; refine ⟨_, rfl, ?_⟩; have aA := q_ (Kd.S_lower aJ (y0j hb_)); replace HB := q_ (y0k hb_ hb); obtain ⟨aU, aW, aQ⟩ := Kd.S_slice aA.out; subst aQ) | (go_at_call 35; (with_reducible refine (zqq.calls k _ _ aC aG _ ?side1 ?side2 A6.out).mono ?_); (case side1 => exact ck_ (Kd.S_reads' aA.out).2.2); (case side2 => exact (Kd.S_reads' aA.out).2.1); rintro e a7 ⟨rfl, hb⟩; replace aA := q_ (Kd.S_below (sk_ aA.out) hb); replace HB := q_ (y0k hb_ hb)) | (go_at_call 79; (with_reducible refine (zqs.calls k _ _ aC aH _ ?side1 ?side2 A8.out).mono ?_); (case side1 => exact ck_ (Kd.S_reads' aA.out).2.2); (case side2 => exact (Kd.S_reads' aA.out).2.1); rintro e bD ⟨rfl, hb⟩; replace aA := q_ (Kd.S_below (sk_ aA.out) hb); replace HB := q_ (y0k hb_ hb)))
 go_ret2
 exact ⟨_, ew_, by (with_reducible repeat (first | apply Kd.S_alloc | apply Kd.S_drewN | apply Kd.S_drew)); exact aA.out, hb_⟩
def zq1.f (k : Nat) (l0 : List (S25)) (a1 : ByteArray) : Option (Bool) := (zqr.f k l0).bind fun t946 => (if t946 = true then (some true) else (if (a1.size : Int) > 20000 then (some true) else ((zq1d.f k l0).bind fun bt947 => ((zqj.f k l0).bind fun bt949 => ((zq1c.f k a1).bind fun bt951 => ((zqi.f k a1).bind fun bt955 => (if bt947.1.toList = bt949.1.toList then (if bt947.2 = bt949.2 then ((zqz.f k bt951.1 bt955.1).bind fun t959 => (if t959 = true then (if bt951.2 = bt955.2 then ((zqm.f k).bind fun t960 => (some t960)) else (none)) else (none))) else (none)) else (none))))))))
theorem zq1.mono : ∀ a0 a1 k, LeO (zq1.f k a0 a1) (zq1.f (k + 1) a0 a1) := by
 intro a0 a1 k
 unfold zq1.f
 with_reducible repeat' first | apply zqm.mono | apply zqi.mono | apply zqj.mono | apply zqr.mono | apply zqz.mono | apply zq1c.mono | apply zq1d.mono | exact LeO.refl _ | exact LeO.none _ | refine LeO.ite ?_ ?_ | refine LeO.bind ?_ (fun _ => ?_)
theorem zq1.calls (k : Nat) (A0 : Option Addr) (c0 : Nat) (l0 : List (S25)) (a1 : ByteArray) (r : Bool) (w : World) (a8 : Kd.C k25 w A0 l0.length l0) (a7 : l0.length ≤ c0) (h : zq1.f k l0 a1 = some r) :
  Calls Try.prog 11 #[.slice A0 l0.length c0, .string a1] w fun e w' => e = .returned (.bool r) ∧ Below w.heap.size w w' := by
 have aO := q_ a8
 have aU := q_ a7
 clear a8 a7
 have HB := q_ (Below.refl w.heap.size w)
 have H : ((zqr.f k l0).bind fun aG => (if aG = true then (some true) else (if (a1.size : Int) > 20000 then (some true) else ((zq1d.f k l0).bind fun aD => ((zqj.f k l0).bind fun aE => ((zq1c.f k a1).bind fun aC => ((zqi.f k a1).bind fun aF => (if aD.1.toList = aE.1.toList then (if aD.2 = aE.2 then ((zqz.f k aC.1 aF.1).bind fun aI => (if aI = true then (if aC.2 = aF.2 then ((zqm.f k).bind fun aH => (some aH)) else (none)) else (none))) else (none)) else (none))))))))) = some r := h
 clear h
 obtain ⟨aG, A3, H⟩ := bq_ H
 (try dsimp only at H)
 by_cases c4 : aG = true
 ·subst c4
  rw [if_pos rfl] at H
  obtain rfl := Option.some.inj H
  go_enter Try.func11, Try.ntmps11
  go_wp2_with (first | (refine gc_ 31 ?_; refine gl_ (some 14) Try.func31 #[.slice A0 l0.length c0] ?_; (with_reducible refine (zqr.calls k _ _ l0 true _ ?side1 ?side2 A3.out).mono ?_); (case side1 => exact ck_ aO.out); (case side2 => exact aU.out); rintro e w5 ⟨rfl, hb⟩; refine ⟨_, rfl, ?_⟩; replace HB := q_ (y0k hb_ hb)))
  go_ret
  exact ⟨ew_, hb_⟩
 replace c4 := Bool.eq_false_iff.mpr c4
 subst c4
 rw [if_neg (show ¬ (false = true) by decide)] at H
 by_cases c6 : (a1.size : Int) > 20000
 ·rw [if_pos c6] at H
  have a0 := dt_ c6
  have aZ : decide (20000 < a1.size) = true := decide_eq_true (by omega)
  clear c6
  obtain rfl := Option.some.inj H
  go_enter Try.func11, Try.ntmps11
  go_wp2_with (first | (refine gc_ 31 ?_; refine gl_ (some 14) Try.func31 #[.slice A0 l0.length c0] ?_; (with_reducible refine (zqr.calls k _ _ l0 false _ ?side1 ?side2 A3.out).mono ?_); (case side1 => exact ck_ aO.out); (case side2 => exact aU.out); rintro e w7 ⟨rfl, hb⟩; refine ⟨_, rfl, ?_⟩; replace HB := q_ (y0k hb_ hb)))
  go_ret
  exact ⟨ew_, hb_⟩
 rw [if_neg c6] at H
 have a0 := df_ c6
 have aZ : decide (20000 < a1.size) = false := decide_eq_false (by omega)
 clear c6
 obtain ⟨⟨aN, aM⟩, A8, H⟩ := bq_ H
 obtain ⟨⟨aV, aQ⟩, A9, H⟩ := bq_ H
 obtain ⟨⟨aJ, aK⟩, bB, H⟩ := bq_ H
 obtain ⟨⟨aP, aT⟩, bJ, H⟩ := bq_ H
 (try dsimp only at H)
 by_cases aL : aN.toList = aV.toList
 rotate_left
 ·rw [if_neg aL] at H
  exact absurd H (by simp)
 rw [if_pos aL] at H
 have a6 := et_ aL
 have a3 := nf_ aL
 clear aL
 by_cases aR : aM = aQ
 rotate_left
 ·rw [if_neg aR] at H
  exact absurd H (by simp)
 rw [if_pos aR] at H
 have a5 := et_ aR
 have a4 := nf_ aR
 clear aR
 obtain ⟨aI, bI, H⟩ := bq_ H
 (try dsimp only at H)
 by_cases aW : aI = true
 rotate_left
 ·replace aW := Bool.eq_false_iff.mpr aW
  subst aW
  rw [if_neg (show ¬ (false = true) by decide)] at H
  exact absurd H (by simp)
 subst aW
 rw [if_pos rfl] at H
 by_cases aS : aK = aT
 rotate_left
 ·rw [if_neg aS] at H
  exact absurd H (by simp)
 rw [if_pos aS] at H
 have bA := et_ aS
 have a9 := nf_ aS
 clear aS
 obtain ⟨aH, bE, H⟩ := bq_ H
 (try dsimp only at H)
 obtain rfl := Option.some.inj H
 go_enter Try.func11, Try.ntmps11
 go_wp2_with (first | (refine gc_ 31 ?_; refine gl_ (some 14) Try.func31 #[.slice A0 l0.length c0] ?_; (with_reducible refine (zqr.calls k _ _ l0 false _ ?side1 ?side2 A3.out).mono ?_); (case side1 => exact ck_ aO.out); (case side2 => exact aU.out); rintro e bR ⟨rfl, hb⟩; refine ⟨_, rfl, ?_⟩; replace HB := q_ (y0k hb_ hb)) | (refine gc_ 37 ?_; refine gl_ (some 22) Try.func37 #[.slice A0 l0.length c0] ?_; (with_reducible refine (zq1d.calls k _ _ l0 aN aM _ ?side1 ?side2 A8.out).mono ?_); (case side1 => exact ck_ (Kd.C_below aO.out HB.out)); (case side2 => exact aU.out); rintro e bN ⟨rfl, hb⟩; refine ⟨_, rfl, ?_⟩; replace HB := q_ (y0k hb_ hb)) | (refine gc_ 38 ?_; refine gl_ (some 27) Try.func38 #[.slice A0 l0.length c0] ?_; (with_reducible refine (zqj.calls k _ _ l0 aV aQ _ ?side1 ?side2 A9.out).mono ?_); (case side1 => exact ck_ (Kd.C_below aO.out HB.out)); (case side2 => exact aU.out); rintro e bO ⟨rfl, hb⟩; refine ⟨_, rfl, ?_⟩; replace HB := q_ (y0k hb_ hb)) | (refine gc_ 39 ?_; refine gl_ (some 32) Try.func39 #[.string a1] ?_; (with_reducible refine (zq1c.calls k a1 aJ aK _ bB.out).mono ?_); rintro e bL ⟨bG, rfl, aX, hb⟩; refine ⟨_, rfl, ?_⟩; have aA := q_ (Kd.S_lower aX (y0j hb_)); replace HB := q_ (y0k hb_ hb)) | (refine gc_ 40 ?_; refine gl_ (some 37) Try.func40 #[.string a1] ?_; (with_reducible refine (zqi.calls k a1 aP aT _ bJ.out).mono ?_); rintro e bP ⟨bH, rfl, aX, hb⟩; refine ⟨_, rfl, ?_⟩; have aB := q_ (Kd.S_lower (Kd.S_new' aX (Kd.S_lt (sk_ aA.out))) (y0j hb_)); replace aA := q_ (Kd.S_elder' (sk_ aA.out) (Kd.S_base aX) hb); replace HB := q_ (y0k hb_ hb); obtain ⟨bC, bF, aY⟩ := Kd.S_slice aA.out; subst aY; obtain ⟨bK, bD, a2⟩ := Kd.S_slice aB.out; subst a2) | (go_at_call 41; (with_reducible refine (zqz.calls k _ _ aJ _ _ aP true _ ?side1 ?side2 ?side3 ?side4 bI.out).mono ?_); (case side1 => exact ck_ (Kd.S_reads' aA.out).2.2); (case side2 => exact (Kd.S_reads' aA.out).2.1); (case side3 => exact ck_ (Kd.S_reads' aB.out).2.2); (case side4 => exact (Kd.S_reads' aB.out).2.1); rintro e bQ ⟨rfl, hb⟩; replace aA := q_ (Kd.S_below (sk_ aA.out) hb); replace aB := q_ (Kd.S_below (sk_ aB.out) hb); replace HB := q_ (y0k hb_ hb)) | (go_at_call 36; (with_reducible refine (zqm.calls k  aH _ bE.out).mono ?_); rintro e bM ⟨rfl, hb⟩; replace aA := q_ (Kd.S_below (sk_ aA.out) hb); replace aB := q_ (Kd.S_below (sk_ aB.out) hb); replace HB := q_ (y0k hb_ hb)))
 go_ret
 exact ⟨ew_, hb_⟩
end Go.Proofs.Ytenlmckahaniiaa.K
end
section
namespace Go.Proofs.Ytenlmckahaniiaa.K
open Go.RowKit Go.Proofs.YtW.P Go.Proofs.YtW.L
def zq1.Pure : Prop := ∀ (l0 : List (S25)) (a1 : ByteArray), (WfL wf25) l0 → a1.size ≤ 140737488351232 → ∃ k, zq1.f k l0 a1 = some true
end Go.Proofs.Ytenlmckahaniiaa.K
end
section
namespace Go.Proofs.Ytenlmckahaniiaa.Obj
open Go Go.RowKit Go.Proofs.Ytenlmckahaniiaa.K Go.Proofs.YtW.P Go.Proofs.YtW.M Go.Proofs.Ytenlmckahaniiaa.MyBits Go.Proofs.Ytenlmckahaniiaa.MyStr Go.Proofs.Ytenlmckahaniiaa.Oct
theorem y4p (n : Int) (h : 0 ≤ n) (h1 : n ≤ 9223372036854775807) : Ev (fun k => zq14.f k n 1) (mkS (le n 1)) := by
  have := y4s n 1 h1
  rwa [mx_id h] at this
theorem y4q (n : Int) (h : 0 ≤ n) (h1 : n ≤ 9223372036854775807) : Ev (fun k => zq14.f k n 2) (mkS (le n 2)) := by
  have := y4s n 2 h1
  rwa [mx_id h] at this
theorem rbit_is (b : Bool) : Ev (fun k => zq15.f k b) (mkS (bitB b)) := by
  unfold zq15.f
  cases b with
  | true => exact Ev.congr (fun k => if_pos rfl) (Ev.bind (y4p 1 (by decide) (by decide)) (Ev.now _))
  | false => exact Ev.congr (fun k => if_neg (by decide)) (Ev.bind (y4p 0 (by decide) (by decide)) (Ev.now _))
theorem rsyms_l0 (l : List S62) (hV : ∀ s ∈ l, SymV s) (hn : l.length ≤ 256) (P : List UInt8) (hP : P.length ≤ 1000000) (d : Nat) : ∀ i : Nat, i + d = l.length →
    Ev (fun k => zq6.l0 k l (mkS (P ++ symsB (l.take i))) (i : Int)) (mkS (P ++ symsB l)) := by
  induction d with
  | zero =>
    intro i hi
    rw [List.take_of_length_le (by omega)]
    exact Ev.step (f := fun _ => some _) (fun k => by rw [zq6.l0, if_neg (by omega)]) (Ev.now _)
  | succ d ih =>
    intro i hi
    have hlt : i < l.length := by omega
    have hs := hV _ (List.getElem_mem hlt)
    have h1 := y5g (l.take i)
    have h2 := y5f l[i]
    have h3 := y3y (bs l[i].f0)
    have v1 := hs.h1
    have v2 := hs.h2
    rw [List.length_take] at h1
    have hI := ih (i + 1) (by omega)
    rw [y5h l i hlt, ← List.append_assoc] at hI
    refine Ev.step (fun k => by rw [zq6.l0, if_pos (by omega), if_pos (by omega), rd62 l i hlt, i64_nat i (by omega)]) ?_
    refine Ev.bind (y4r _ (by have := hs.len; omega)) (Ev.bind (y4p _ hs.h1.1 (by omega)) ?_)
    refine Ev.congr (fun k => if_pos (by rw [y37, y37, y2y]; omega)) ?_
    refine Ev.bind (y4q _ hs.h2.1 (by omega)) ?_
    rw [y36]
    refine Ev.congr (fun k => if_pos (by rw [y37, y37, List.length_append, y2y, y2y]; omega)) ?_
    refine Ev.bind (rbit_is _) ?_
    rw [y36, y36, y36]
    refine Ev.congr (fun k => if_pos (by rw [y37, y37, List.length_append, List.length_append, y2y, y2y, show (bitB l[i].f3).length = 1 from rfl]; omega)) ?_
    refine Ev.congr (fun k => if_pos ?_) hI
    rw [y37, y37, List.length_append]
    unfold symB at h2
    omega
theorem rrels_l0 (m : Md) (hV : ∀ s ∈ m.l5, RelV s) (hn : m.l5.length ≤ 2048) (P : List UInt8) (hP : P.length ≤ 100000000) (d : Nat) : ∀ i : Nat, i + d = m.l5.length →
    Ev (fun k => zqg.l0 k (mkS (P ++ relsB (m.l5.take i))) (i : Int) m.a0 m.a1 m.a2 m.a3 m.l4 m.l5) (mkS (seal_ (P ++ relsB m.l5)), 0) := by
  have hL := y4g m.l5
  induction d with
  | zero =>
    intro i hi
    rw [List.take_of_length_le (by omega)]
    refine Ev.step (fun k => by rw [zqg.l0, if_neg (by omega)]) ?_
    refine Ev.bind (rseal_is _ (by rw [y37, List.length_append]; omega)) ?_
    rw [y14]
    exact Ev.now _
  | succ d ih =>
    intro i hi
    have hlt : i < m.l5.length := by omega
    have hs := hV _ (List.getElem_mem hlt)
    have h1 := y4g (m.l5.take i)
    have h2 := y4f m.l5[i]
    have h3 := y3y (bs m.l5[i].f3)
    have hs0 := hs.h0
    have hs1 := hs.h1
    have hs2 := hs.h2
    rw [List.length_take] at h1
    have hI := ih (i + 1) (by omega)
    rw [y4h m.l5 i hlt, ← List.append_assoc] at hI
    refine Ev.step (fun k => by rw [zqg.l0, if_pos (by omega), if_pos (by omega), rd43 m.l5 i hlt, i64_nat i (by omega)]) ?_
    refine Ev.bind (y4p _ (by omega) (by omega)) (Ev.bind (y4q _ hs.h1.1 (by omega)) ?_)
    refine Ev.congr (fun k => if_pos (by rw [y37, y37, y2y, y2y]; omega)) ?_
    refine Ev.bind (y4p _ hs.h2.1 (by omega)) ?_
    rw [y36]
    refine Ev.congr (fun k => if_pos (by rw [y37, y37, List.length_append, y2y, y2y, y2y]; omega)) ?_
    refine Ev.bind (y4r _ (by have := hs.len; omega)) ?_
    rw [y36]
    refine Ev.congr (fun k => if_pos (by rw [y37, y37, List.length_append, List.length_append, y2y, y2y, y2y]; omega)) ?_
    refine Ev.bind (rbit_is _) ?_
    rw [y36, y36, y36]
    refine Ev.congr (fun k => if_pos (by rw [y37, y37, List.length_append, List.length_append, List.length_append, y2y, y2y, y2y, show (bitB m.l5[i].f4).length = 1 from rfl]; omega)) ?_
    refine Ev.congr (fun k => if_pos ?_) hI
    rw [y37, y37, List.length_append]
    unfold relB at h2
    omega
theorem rcheck_m {m : Md} (hf : Fine m.a0 m.l4 m.l5) (h4 : m.l4.length ≤ 1000000) (h5 : m.l5.length ≤ 1000000) : Ev (fun k => zqn.f k m.a0 m.a1 m.a2 m.a3 m.l4 m.l5) m.check := rcheck_is _ _ _ _ _ _ hf h4 h5
theorem y4i {m : Md} (hf : Fine m.a0 m.l4 m.l5) (h4 : m.l4.length ≤ 1000000) (h5 : m.l5.length ≤ 1000000) : Ev (fun k => zqg.f k m.a0 m.a1 m.a2 m.a3 m.l4 m.l5) (mkS (encR m).1, (encR m).2) := by
  unfold zqg.f encR
  refine Ev.bind (rcheck_m hf h4 h5) ?_
  by_cases h : m.check = 0
  · have hV := y5m h
    have hh := y2f m
    have n4 := hV.n4
    have n5 := hV.n5
    have hsl := y5g m.l4
    have l0 := y3y (bs m.a0)
    have l1 := y3y (bs m.a1)
    have l2 := y3y (bs m.a2)
    have v3 := hV.h3
    rw [if_pos h]
    refine Ev.congr (fun k => if_pos h) ?_
    have hO : (⟨#[79, 66, 74, 49]⟩ : ByteArray) = mkS [79, 66, 74, 49] := rfl
    have hO4 : (([79, 66, 74, 49] : List UInt8)).length = 4 := rfl
    refine Ev.bind (y4r _ (by have := (y3f hV.h0).2; omega)) ?_
    refine Ev.congr (fun k => if_pos (by rw [y37]; omega)) ?_
    refine Ev.bind (y4r _ (by have := hV.h1.1; omega)) ?_
    rw [hO, y36]
    refine Ev.congr (fun k => if_pos (by rw [y37, y37, List.length_append, hO4]; omega)) ?_
    refine Ev.bind (y4r _ (by have := hV.h2; omega)) ?_
    rw [y36]
    refine Ev.congr (fun k => if_pos (by rw [y37, y37, List.length_append, List.length_append, hO4]; omega)) ?_
    refine Ev.bind (y4q _ v3.1 (by omega)) ?_
    rw [y36]
    refine Ev.congr (fun k => if_pos (by rw [y37, y37, List.length_append, List.length_append, List.length_append, hO4, y2y]; omega)) ?_
    have hs0 : Ev (fun k => zq6.f k m.l4) (mkS (le (m.l4.length : Int) 2 ++ symsB m.l4)) := by
      unfold zq6.f
      refine Ev.bind (y4q _ (by omega) (by omega)) ?_
      have h0 := rsyms_l0 m.l4 hV.h4 n4 (le (m.l4.length : Int) 2) (by rw [y2y]; omega) m.l4.length 0 (by omega)
      rw [List.take_zero, show symsB [] = [] from rfl, List.append_nil] at h0
      exact h0
    refine Ev.bind hs0 ?_
    rw [y36]
    have e1 : [79, 66, 74, 49] ++ putT (bs m.a0) ++ putT (bs m.a1) ++ putT (bs m.a2) ++ le m.a3 2 = headB m := rfl
    rw [e1]
    refine Ev.congr (fun k => if_pos (by rw [y37, y37, List.length_append, y2y]; omega)) ?_
    refine Ev.bind (y4q _ (by omega) (by omega)) ?_
    rw [y36, y36, ← List.append_assoc]
    refine Ev.congr (fun k => if_pos (by rw [y37, y37, List.length_append, List.length_append, y2y, y2y]; omega)) ?_
    have h1 := rrels_l0 m hV.h5 n5 (headB m ++ le (m.l4.length : Int) 2 ++ symsB m.l4 ++ le (m.l5.length : Int) 2) (by rw [List.length_append, List.length_append, List.length_append, y2y, y2y]; omega) m.l5.length 0 (by omega)
    rw [List.take_zero, show relsB [] = [] from rfl, List.append_nil] at h1
    exact h1
  · rw [if_neg h]
    exact Ev.congr (fun k => if_neg h) (Ev.now _)
end Go.Proofs.Ytenlmckahaniiaa.Obj
end
