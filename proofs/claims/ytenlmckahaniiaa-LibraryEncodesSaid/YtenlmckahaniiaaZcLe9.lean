/- Lemmas for several laws: what their proofs need of this seat's texts, in one place. -/
import Derived.Test.YtenlmckahaniiaaZcLe8
set_option linter.unusedVariables false
set_option linter.unusedSimpArgs false
set_option linter.unusedSectionVars false
set_option maxHeartbeats 8000000
set_option maxRecDepth 100000
section
namespace Go.Proofs.Ytenlmckahaniiaa.K
open Go.RowKit Go.Proofs.YtW.P Go.Proofs.YtW.L
def zq1w.l0 : Nat → Int → List Int → Int → Int → Option (ByteArray)
  | 0, _, _, _, _ => none
  | k + 1, x0, x5, x12, x13 => if x13 < x12 then (if 0 ≤ (wrap64 (8 * x13)) then (if 0 ≤ x13 then (if x13 < (x5.length : Int) then (zq1w.l0 k x0 (x5.set (x13 : Int).toNat ((shr .i64 (mx x0 0) (wrap64 (8 * x13))) % 256)) x12 (wrap64 (x13 + 1))) else (none)) else (none)) else (none)) else (some (strOfNums x5))
def zq1w.f (k : Nat) (a0 : Int) (a1 : Int) : Option (ByteArray) := if 0 ≤ (mx 0 (mn a1 8)) then (if (mx 0 (mn a1 8) : Int).toNat ≤ 281474976710656 then ((some (List.replicate (mx 0 (mn a1 8) : Int).toNat 0 : List Int)).bind fun y148 => (zq1w.l0 k a0 y148 (y148.length : Int) 0)) else (none)) else (none)
theorem zq1w.mono_l : ∀ k, (∀ y0 y1 y2 y3, LeO (zq1w.l0 k y0 y1 y2 y3) (zq1w.l0 (k + 1) y0 y1 y2 y3))
 | 0 => fun _ _ _ _ r h => by simp [zq1w.l0] at h
 | k + 1 => by
  have ih0 := zq1w.mono_l k
  ·intro y0 y1 y2 y3
   unfold zq1w.l0
   with_reducible repeat' first | apply ih0 | exact LeO.refl _ | exact LeO.none _ | refine LeO.ite ?_ ?_ | refine LeO.bind ?_ (fun _ => ?_)
theorem zq1w.mono : ∀ a0 a1 k, LeO (zq1w.f k a0 a1) (zq1w.f (k + 1) a0 a1) := by
 intro a0 a1 k
 have ih0 := zq1w.mono_l k
 unfold zq1w.f
 with_reducible repeat' first | apply ih0 | exact LeO.refl _ | exact LeO.none _ | refine LeO.ite ?_ ?_ | refine LeO.bind ?_ (fun _ => ?_)
theorem zq1w.calls (k : Nat) (a0 : Int) (a1 : Int) (r : ByteArray) (w : World) (h : zq1w.f k a0 a1 = some r) :
  Calls Try.prog 78 #[.int .i64 a0, .int .i64 a1] w fun e w' => e = .returned (.string r) ∧ Below w.heap.size w w' := by
 have HB := q_ (Below.refl w.heap.size w)
 have H : (if 0 ≤ (mx 0 (mn a1 8)) then (if (mx 0 (mn a1 8) : Int).toNat ≤ 281474976710656 then ((some (List.replicate (mx 0 (mn a1 8) : Int).toNat 0 : List Int)).bind fun aB => (zq1w.l0 k a0 aB (aB.length : Int) 0)) else (none)) else (none)) = some r := h
 clear h
 obtain ⟨aN, aM⟩ : ∃ j_ : Int, (mn a1 8) = j_ := ⟨_, rfl⟩
 replace H : (if 0 ≤ (mx 0 (aN)) then (if (mx 0 (aN) : Int).toNat ≤ 281474976710656 then ((some (List.replicate (mx 0 (aN) : Int).toNat 0 : List Int)).bind fun aB => (zq1w.l0 k a0 aB (aB.length : Int) 0)) else (none)) else (none)) = some r := by first | (rw [aM] at H; exact H) | (simp only [aM] at H ⊢; exact H)
 (try (have bQ : aN ≤ 8 := by (rw [← aM]; unfold mn; (repeat' split) <;> omega)))
 (try (have bW : aN ≤ 64 := by omega))
 have bM : (if 8 < a1 then 8 else a1) = aN := aM
 (try (have bV : min a1 8 = aN := by rw [← aM]; unfold mn; (repeat' split) <;> omega))
 obtain ⟨aR, aO⟩ : ∃ j_ : Int, (mx 0 (aN)) = j_ := ⟨_, rfl⟩
 replace H : (if 0 ≤ (aR) then (if (aR : Int).toNat ≤ 281474976710656 then ((some (List.replicate (aR : Int).toNat 0 : List Int)).bind fun aB => (zq1w.l0 k a0 aB (aB.length : Int) 0)) else (none)) else (none)) = some r := by first | (rw [aO] at H; exact H) | (simp only [aO] at H ⊢; exact H)
 have bX : (if 0 < (aN) then (aN) else 0) = aR := aO
 (try (have bR : max 0 (aN) = aR := by rw [← aO]; unfold mx; (repeat' split) <;> omega))
 by_cases c5 : 0 ≤ (aR)
 rotate_left
 ·rw [if_neg c5] at H
  exact absurd H (by simp)
 rw [if_pos c5] at H
 have b4 := eq_true c5
 have b5 := dt_ c5
 clear c5
 by_cases c6 : (aR : Int).toNat ≤ 281474976710656
 rotate_left
 ·rw [if_neg c6] at H
  exact absurd H (by simp)
 rw [if_pos c6] at H
 have b6 := eq_true c6
 have bZ := dt_ c6
 clear c6
 obtain ⟨aB, aE⟩ : ∃ y_ : List Int, y_ = (List.replicate (aR : Int).toNat 0) := ⟨_, rfl⟩
 replace H : (zq1w.l0 k a0 aB (aB.length : Int) 0) = some r := by first | (rw [aE]; with_reducible exact H) | (have aW := (Option.bind_some _ _).symm.trans H; rw [aE]; with_reducible exact aW) | (have aW := (Option.bind_some _ _).symm.trans H; with_reducible exact aW) | with_reducible exact H | (rw [aE]; exact H) | exact H
 have aU := q_ aE
 clear aE
 have H' := q_ H
 clear H
 go_enter Try.func78, Try.ntmps78
 go_wp2_with (first | (refine gd_ 10 ?_; refine Kd.R_make (Kd.int .u8) _ 5 rfl (N := 10) rfl 39 _ _ rfl aR rfl rfl Try.underlying39 (.int .u8 0) 1 info5 rfl (by decide) (by omega) 0 (ok := fun _ => True) (okp := fun _ => True) rfl (fun _ hk => hk) trivial (oa_) (Nat.le_trans (Nat.mul_le_mul_right _ (oa_ : aR.toNat ≤ 281474976710656)) (by omega)) (Below.refl _ _) (Nat.le_refl _) ?_; intro b0 w7 a6 hb hg_ hnew_; clear hg_ hnew_; (first | rw [← aU.out] at a6 | (simp only [Int.reduceToNat] at a6; rw [← aU.out] at a6)); have aT := q_ (Kd.R_lower a6 (y0j hb_)); replace HB := q_ (y0k hb_ hb); clear hb a6; obtain ⟨b2, bT, bY⟩ := Kd.R_slice aT.out; subst bY))
 go_loopg [13] k (fun kq b3 w' => ∃ (aC : List Int) (aA : Int), b3 = .int .i64 aA ∧ Aside0 (zq1w.l0 kq a0 aC (aB.length : Int) aA = some r) ∧ Aside0 (kq ≤ k) ∧ Aside0 (Kd.R (Kd.int .u8) 5 w' w.heap.size (fun _ => True) (.slice b2 aB.length bT) aC) ∧ Aside0 (Below w.heap.size w w'))
 case atStart => exact ⟨(aB), (0), cl_, H', ⟨Nat.le_refl _⟩, ⟨rk_ aT.out⟩, ⟨hb_⟩⟩
 case round =>
  clear H'
  obtain ⟨aC, aA, rfl, HA, HK1, aH, HB⟩ := hrel
  have aD := (Kd.R_reads' aH.out).1
  rw [aD] at aH
  (try simp only [aD])
  obtain _ | k1 := gk
  ·exact nn_ HA
  have H := HA.out
  clear HA
  simp only [zq1w.l0] at H
  by_cases aY : aA < (aB.length : Int)
  rotate_left
  ·rw [if_neg aY] at H
   have aP := df_ aY
   (try simp only [aD] at aP)
   clear aY
   obtain rfl := Option.some.inj H
   have bP := y3p (P := Try.prog) Try.underlying39 Try.underlying5 Try.underlying9 (Kd.own_of_R aH.out)
   go_wp2
   go_ret
   exact ⟨by first | rfl | (simp [y1y, y1z] <;> rfl) | (simp only [← aM, ← aO]; first | rfl | (simp [y1y, y1z] <;> rfl)) | (simp [*, y1y, y1z] <;> rfl), hb_⟩
  rw [if_pos aY] at H
  have aP := dt_ aY
  (try simp only [aD] at aP)
  clear aY
  obtain ⟨aI, aK⟩ : ∃ j_ : Int, (mx a0 0) = j_ := ⟨_, rfl⟩
  replace H : (if 0 ≤ (wrap64 (8 * aA)) then (if 0 ≤ aA then (if aA < (aC.length : Int) then (zq1w.l0 k1 a0 (aC.set (aA : Int).toNat ((shr .i64 (aI) (wrap64 (8 * aA))) % 256)) (aB.length : Int) (wrap64 (aA + 1))) else (none)) else (none)) else (none)) = some r := by first | (rw [aK] at H; exact H) | (simp only [aK] at H ⊢; exact H)
  have bF : (if a0 < 0 then 0 else a0) = aI := aK
  (try (have bH : max a0 0 = aI := by rw [← aK]; unfold mx; (repeat' split) <;> omega))
  obtain ⟨aG, aQ⟩ : ∃ j_ : Int, (wrap64 (8 * aA)) = j_ := ⟨_, rfl⟩
  replace H : (if 0 ≤ (aG) then (if 0 ≤ aA then (if aA < (aC.length : Int) then (zq1w.l0 k1 a0 (aC.set (aA : Int).toNat ((shr .i64 (aI) (aG)) % 256)) (aB.length : Int) (wrap64 (aA + 1))) else (none)) else (none)) else (none)) = some r := by first | (rw [aQ] at H; exact H) | (simp only [aQ] at H ⊢; exact H)
  have bL : (IntKind.i64.wrap (8 * aA)) = aG := (y2h _).trans aQ
  by_cases a3 : 0 ≤ (aG)
  rotate_left
  ·rw [if_neg a3] at H
   exact absurd H (by simp)
  rw [if_pos a3] at H
  have bU := eq_true a3
  have bN := dt_ a3
  clear a3
  obtain ⟨aJ, aL⟩ : ∃ j_ : Int, (shr .i64 (aI) (aG)) = j_ := ⟨_, rfl⟩
  replace H : (if 0 ≤ aA then (if aA < (aC.length : Int) then (zq1w.l0 k1 a0 (aC.set (aA : Int).toNat ((aJ) % 256)) (aB.length : Int) (wrap64 (aA + 1))) else (none)) else (none)) = some r := by first | (rw [aL] at H; exact H) | (simp only [aL] at H ⊢; exact H)
  have bD : ((aI) / 2 ^ min (aG).toNat 64) = aJ := aL
  have bI : (aG) ≤ 64 → ((aI) / 2 ^ (aG).toNat) = aJ := shr_small aL
  by_cases a8 : 0 ≤ aA
  rotate_left
  ·rw [if_neg a8] at H
   exact absurd H (by simp)
  rw [if_pos a8] at H
  have bS := dt_ a8
  clear a8
  by_cases bA : aA < (aC.length : Int)
  rotate_left
  ·rw [if_neg bA] at H
   exact absurd H (by simp)
  rw [if_pos bA] at H
  have a7 := dt_ bA
  (try simp only [aD] at a7)
  clear bA
  obtain ⟨aV, aF⟩ : ∃ y_ : List Int, y_ = (aC.set (aA : Int).toNat ((aJ) % 256)) := ⟨_, rfl⟩
  replace H : (zq1w.l0 k1 a0 aV (aB.length : Int) (wrap64 (aA + 1))) = some r := by first | (rw [aF]; with_reducible exact H) | (have aW := (Option.bind_some _ _).symm.trans H; rw [aF]; with_reducible exact aW) | (have aW := (Option.bind_some _ _).symm.trans H; with_reducible exact aW) | with_reducible exact H | (rw [aF]; exact H) | exact H
  have a2 := q_ aF
  clear aF
  have H' := q_ H
  clear H
  have bC : 0 ≤ (aA : Int) := oa_
  have bJ : (aA : Int) < ((aC.length : Int) : Int) := oa_
  obtain ⟨aS, b7, a4, a5, bE, b1, aZ⟩ := Kd.R_form aH.out (by omega)
  (first | cases a4 | (injection a4 with ea_ en_ ec_; (first | subst ea_ | (injection ea_ with ea_; subst ea_)); subst ec_; clear en_))
  have bG := q_ a5
  have b8 := q_ aZ
  clear a5 bE aZ
  obtain ⟨bK, bB⟩ := Kd.R_celln 0 aH.out (aA : Int) bC bJ
  replace bC := eq_true bC
  replace bJ := eq_true bJ
  have aX := Kd.R_putg aH.out (aA : Int) ((aJ) % 256)
  go_wp2_with (first | ((with_reducible refine y24 (t := 5) (p := 24) rfl ?_); refine y5b (t := 5) (p := 24) (v := ?vo_w19) (w1 := (wr.setCell ⟨aS, (aA : Int).toNat, none⟩ (.int .u8 ((aJ) % 256)))) ?hg ?ho ?hn ?hr ?_; (case ho => rfl); (case hg => rfl); (case hn => rfl); (case hr => first | (go_simp; done) | (go_simp; rfl)); intro a9 hw; have hg : wr.grownBy a9 (some aS) := (by rw [hw]; exact aX.2); have hp_ : Kd.R (Kd.int .u8) 5 a9 w.heap.size (fun _ => True) (.slice (some ⟨aS, 0, none⟩) aC.length bT) aV := (by rw [hw, a2.out]; exact aX.1); clear aX; replace aH := q_ (hp_); replace HB := q_ ((by rw [hw]; exact y0i (HB.out) bG.out : Below w.heap.size w a9)); (try (have bO : a9.cell? ⟨aS, (aA : Int).toNat, none⟩ = some (.int .u8 ((aJ) % 256)) := by rw [hw]; exact World.cell?_setCell_same _ _ _ hx18_0)); clear hg hw hp_))
  (try simp only [← aD])
  go_roundg k1
  case measure => have := HK1.out; omega
  case rel => exact ⟨(aV), (wrap64 (aA + 1)), cl_, H', ⟨by have := HK1.out; omega⟩, ⟨by (try simp only [aD]); exact rk_ aH.out⟩, ⟨hb_⟩⟩
def zq1r.l0 : Nat → List Int → List ByteArray → Int → Int → Option (ByteArray)
  | 0, _, _, _, _ => none
  | k + 1, x3, x6, x7, x8 => if x8 < x7 then (if 0 ≤ x8 then (if x8 < (x6.length : Int) then (if x3.length + (rdOf ByteArray.empty x6 x8).size < 140737488355328 then (zq1r.l0 k (x3 ++ bytesOf (rdOf ByteArray.empty x6 x8)) x6 x7 (wrap64 (x8 + 1))) else (none)) else (none)) else (none)) else (some (strOfNums x3))
def zq1r.f (k : Nat) (l0 : List ByteArray) : Option (ByteArray) := zq1r.l0 k ([] : List Int) l0 (l0.length : Int) 0
theorem zq1r.mono_l : ∀ k, (∀ y0 y1 y2 y3, LeO (zq1r.l0 k y0 y1 y2 y3) (zq1r.l0 (k + 1) y0 y1 y2 y3))
 | 0 => fun _ _ _ _ r h => by simp [zq1r.l0] at h
 | k + 1 => by
  have ih0 := zq1r.mono_l k
  ·intro y0 y1 y2 y3
   unfold zq1r.l0
   with_reducible repeat' first | apply ih0 | exact LeO.refl _ | exact LeO.none _ | refine LeO.ite ?_ ?_ | refine LeO.bind ?_ (fun _ => ?_)
theorem zq1r.mono : ∀ a0 k, LeO (zq1r.f k a0) (zq1r.f (k + 1) a0) := by
 intro a0 k
 have ih0 := zq1r.mono_l k
 unfold zq1r.f
 with_reducible repeat' first | apply ih0 | exact LeO.refl _ | exact LeO.none _ | refine LeO.ite ?_ ?_ | refine LeO.bind ?_ (fun _ => ?_)
theorem zq1r.calls (k : Nat) (A0 : Option Addr) (c0 : Nat) (l0 : List ByteArray) (r : ByteArray) (w : World) (aV : Kd.C Kd.string w A0 l0.length l0) (aU : l0.length ≤ c0) (h : zq1r.f k l0 = some r) :
  Calls Try.prog 89 #[.slice A0 l0.length c0] w fun e w' => e = .returned (.string r) ∧ Below w.heap.size w w' := by
 have aY := q_ aV
 have a1 := q_ aU
 clear aV aU
 have HB := q_ (Below.refl w.heap.size w)
 have H : (zq1r.l0 k ([] : List Int) l0 (l0.length : Int) 0) = some r := h
 clear h
 have H' := q_ H
 clear H
 go_enter Try.func89, Try.ntmps89
 go_wp2
 go_loopg [3, 8] k (fun kq v3 v8 w' => ∃ (aE : List Int) (aA : Int), v8 = .int .i64 aA ∧ Aside0 (zq1r.l0 kq aE l0 (l0.length : Int) aA = some r) ∧ Aside0 (kq ≤ k) ∧ Aside0 (Kd.R (Kd.int .u8) 5 w' w.heap.size (fun _ => True) v3 aE) ∧ Aside0 (Below w.heap.size w w'))
 case atStart => exact ⟨(([] : List Int)), (0), cl_, H', ⟨Nat.le_refl _⟩, ⟨nil_⟩, ⟨hb_⟩⟩
 case round =>
  clear H'
  obtain ⟨aE, aA, rfl, HA, HK1, aF, HB⟩ := hrel
  obtain _ | k1 := gk
  ·exact nn_ HA
  have H := HA.out
  clear HA
  simp only [zq1r.l0] at H
  by_cases c2 : aA < (l0.length : Int)
  rotate_left
  ·rw [if_neg c2] at H
   have aN := df_ c2
   clear c2
   obtain rfl := Option.some.inj H
   have aX := y3p (P := Try.prog) Try.underlying39 Try.underlying5 Try.underlying9 (Kd.own_of_R aF.out)
   go_wp2
   go_ret
   exact ⟨ew_, hb_⟩
  rw [if_pos c2] at H
  have aN := dt_ c2
  clear c2
  by_cases c3 : 0 ≤ aA
  rotate_left
  ·rw [if_neg c3] at H
   exact absurd H (by simp)
  rw [if_pos c3] at H
  have aZ := dt_ c3
  clear c3
  by_cases c4 : aA < (l0.length : Int)
  rotate_left
  ·rw [if_neg c4] at H
   exact absurd H (by simp)
  rw [if_pos c4] at H
  have a0 := dt_ c4
  clear c4
  by_cases c5 : aE.length + (rdOf ByteArray.empty l0 aA).size < 140737488355328
  rotate_left
  ·rw [if_neg c5] at H
   exact absurd H (by simp)
  rw [if_pos c5] at H
  have aR := q_ c5
  clear c5
  obtain ⟨aI, aC⟩ : ∃ y_ : List Int, y_ = (aE ++ bytesOf (rdOf ByteArray.empty l0 aA)) := ⟨_, rfl⟩
  replace H : (zq1r.l0 k1 aI l0 (l0.length : Int) (wrap64 (aA + 1))) = some r := by first | (rw [aC]; with_reducible exact H) | (have aM := (Option.bind_some _ _).symm.trans H; rw [aC]; with_reducible exact aM) | (have aM := (Option.bind_some _ _).symm.trans H; with_reducible exact aM) | with_reducible exact H | (rw [aC]; exact H) | exact H
  have aK := q_ aC
  clear aC
  have H' := q_ H
  clear H
  have aG : 0 ≤ (aA : Int) := oa_
  have aH : aA < (l0.length : Int) := oa_
  obtain ⟨aT, aQ, aD⟩ := Kd.at_string aY.out aA aG aH
  cases aQ
  replace aD := cb_ HB.out aD
  replace aG := eq_true aG
  replace aH := eq_true aH
  go_wp2_with (first | (at_builtin; refine y3w (w0 := w) w.heap.size rfl (.tmp 12) _ 39 9 5 rfl Try.underlying39 Try.underlying9 info5 u3 aE (rdOf ByteArray.empty l0 aA) rfl rfl ?aO ?aB ?aS ?aL ?_; (case aB => exact hb_); (case aO => exact (Kd.own_of_R (rk_ aF.out))); (case aS => exact (y0j hb_)); (case aL => have := aR.out; omega); intro aP w6 aW hb hg; have ho := Kd.R_of_own (h1 := fun _ => rfl) (ok := fun _ => True) aW (fun _ _ => trivial); clear aW; have hat := True.intro; rw [← aK.out] at ho; change Kd.R (Kd.int .u8) 5 w6 w.heap.size (fun _ => True) aP aI at ho; replace HB := q_ (hb); have aJ := q_ (ho); clear aF; clear ho hb hg hat))
  go_roundg k1
  case measure => have := HK1.out; omega
  case rel => exact ⟨(aI), (wrap64 (aA + 1)), cl_, H', ⟨by have := HK1.out; omega⟩, ⟨rk_ aJ.out⟩, ⟨hb_⟩⟩
end Go.Proofs.Ytenlmckahaniiaa.K
end
section
namespace Go.Proofs.Ytenlmckahaniiaa.K
open Go.RowKit Go.Proofs.YtW.P Go.Proofs.YtW.L
mutual
def zq1x.l0 : Nat → Int → List ByteArray → Int → Int → Option (Int)
  | 0, _, _, _, _ => none
  | k + 1, x3, x8, x9, x10 => if x10 < x9 then (if 0 ≤ x10 then (if x10 < (x8.length : Int) then (zq1x.l1 k x3 (rdOf ByteArray.empty x8 x10) x8 x9 x10 ((rdOf ByteArray.empty x8 x10).size : Int) 0) else (none)) else (none)) else (some (wrap64 (Go.bits .xor .u32 4294967295 x3)))
def zq1x.l1 : Nat → Int → ByteArray → List ByteArray → Int → Int → Int → Int → Option (Int)
  | 0, _, _, _, _, _, _, _ => none
  | k + 1, x3, x5, x8, x9, x10, x15, x16 => if x16 < x15 then (if 0 ≤ x16 then (if x16 < (x5.size : Int) then (zq1x.l2 k (Go.bits .xor .u32 x3 ((bt x5 x16) % 4294967296)) x5 x8 x9 x10 x15 x16 0) else (none)) else (none)) else (zq1x.l0 k x3 x8 x9 (wrap64 (x10 + 1)))
def zq1x.l2 : Nat → Int → ByteArray → List ByteArray → Int → Int → Int → Int → Int → Option (Int)
  | 0, _, _, _, _, _, _, _, _ => none
  | k + 1, x3, x5, x8, x9, x10, x15, x16, x25 => if x25 < 8 then (zq1x.l2 k (Go.bits .xor .u32 (x3 / 2) (((Go.bits .and .u32 x3 1) * 3988292384) % 4294967296)) x5 x8 x9 x10 x15 x16 (wrap64 (x25 + 1))) else (zq1x.l1 k x3 x5 x8 x9 x10 x15 (wrap64 (x16 + 1)))
end
def zq1x.f (k : Nat) (l0 : List ByteArray) : Option (Int) := zq1x.l0 k 4294967295 l0 (l0.length : Int) 0
theorem zq1x.mono_l : ∀ k, (∀ y0 y1 y2 y3, LeO (zq1x.l0 k y0 y1 y2 y3) (zq1x.l0 (k + 1) y0 y1 y2 y3)) ∧ (∀ y0 y1 y2 y3 y4 y5 y6, LeO (zq1x.l1 k y0 y1 y2 y3 y4 y5 y6) (zq1x.l1 (k + 1) y0 y1 y2 y3 y4 y5 y6)) ∧ (∀ y0 y1 y2 y3 y4 y5 y6 y7, LeO (zq1x.l2 k y0 y1 y2 y3 y4 y5 y6 y7) (zq1x.l2 (k + 1) y0 y1 y2 y3 y4 y5 y6 y7))
 | 0 => ⟨fun _ _ _ _ r h => by simp [zq1x.l0] at h, fun _ _ _ _ _ _ _ r h => by simp [zq1x.l1] at h, fun _ _ _ _ _ _ _ _ r h => by simp [zq1x.l2] at h⟩
 | k + 1 => by
  obtain ⟨ih0, ih1, ih2⟩ := zq1x.mono_l k
  refine ⟨?_, ?_, ?_⟩
  ·intro y0 y1 y2 y3
   unfold zq1x.l0
   with_reducible repeat' first | apply ih0 | apply ih1 | apply ih2 | exact LeO.refl _ | exact LeO.none _ | refine LeO.ite ?_ ?_ | refine LeO.bind ?_ (fun _ => ?_)
  ·intro y0 y1 y2 y3 y4 y5 y6
   unfold zq1x.l1
   with_reducible repeat' first | apply ih0 | apply ih1 | apply ih2 | exact LeO.refl _ | exact LeO.none _ | refine LeO.ite ?_ ?_ | refine LeO.bind ?_ (fun _ => ?_)
  ·intro y0 y1 y2 y3 y4 y5 y6 y7
   unfold zq1x.l2
   with_reducible repeat' first | apply ih0 | apply ih1 | apply ih2 | exact LeO.refl _ | exact LeO.none _ | refine LeO.ite ?_ ?_ | refine LeO.bind ?_ (fun _ => ?_)
theorem zq1x.mono : ∀ a0 k, LeO (zq1x.f k a0) (zq1x.f (k + 1) a0) := by
 intro a0 k
 obtain ⟨ih0, ih1, ih2⟩ := zq1x.mono_l k
 unfold zq1x.f
 with_reducible repeat' first | apply ih0 | apply ih1 | apply ih2 | exact LeO.refl _ | exact LeO.none _ | refine LeO.ite ?_ ?_ | refine LeO.bind ?_ (fun _ => ?_)
theorem zq1x.calls (k : Nat) (A0 : Option Addr) (c0 : Nat) (l0 : List ByteArray) (r : Int) (w : World) (aQ : Kd.C Kd.string w A0 l0.length l0) (aP : l0.length ≤ c0) (h : zq1x.f k l0 = some r) :
  Calls Try.prog 90 #[.slice A0 l0.length c0] w fun e w' => e = .returned (.int .i64 r) ∧ Drawn0 w w' := by
 have aW := q_ aQ
 have a1 := q_ aP
 clear aQ aP
 have H : (zq1x.l0 k 4294967295 l0 (l0.length : Int) 0) = some r := h
 clear h
 have H' := q_ H
 clear H
 go_enter Try.func90, Try.ntmps90
 go_wp2
 go_loopg [3, 10] k (fun kq v3 aS w' => ∃ (aF : Int) (aA : Int), v3 = .int .u32 aF ∧ aS = .int .i64 aA ∧ Aside0 (zq1x.l0 kq aF l0 (l0.length : Int) aA = some r) ∧ Aside0 (kq ≤ k) ∧ Drawn0 w w')
 case atStart => exact ⟨(4294967295), (0), cl_, cl_, H', ⟨Nat.le_refl _⟩, by repeat (first | exact Drawn0.refl _ | apply Drawn0.step)⟩
 case round =>
  clear H'
  obtain ⟨aF, aA, rfl, rfl, HA, HK1, ⟨m1, rfl⟩⟩ := hrel
  obtain _ | k1 := gk
  ·exact nn_ HA
  have H := HA.out
  clear HA
  simp only [zq1x.l0] at H
  by_cases c2 : aA < (l0.length : Int)
  rotate_left
  ·rw [if_neg c2] at H
   have aL := df_ c2
   clear c2
   obtain rfl := Option.some.inj H
   go_wp2
   go_ret
   exact ⟨by first | rfl | (simp; done) | (simp [y2o]; done) | (simp [*]; done), by repeat (first | exact Drawn0.refl _ | apply Drawn0.step)⟩
  rw [if_pos c2] at H
  have aL := dt_ c2
  clear c2
  by_cases c3 : 0 ≤ aA
  rotate_left
  ·rw [if_neg c3] at H
   exact absurd H (by simp)
  rw [if_pos c3] at H
  have aY := dt_ c3
  clear c3
  by_cases c4 : aA < (l0.length : Int)
  rotate_left
  ·rw [if_neg c4] at H
   exact absurd H (by simp)
  rw [if_pos c4] at H
  have aZ := dt_ c4
  clear c4
  have H' := q_ H
  clear H
  have aH : 0 ≤ (aA : Int) := oa_
  have aG : aA < (l0.length : Int) := oa_
  obtain ⟨aR, aM, aJ⟩ := Kd.at_string aW.out aA aH aG
  cases aM
  replace aH := eq_true aH
  replace aG := eq_true aG
  go_wp2
  go_loopg [3, 16] k1 (fun kq v3 aX w' => ∃ (aE : Int) (aB : Int), v3 = .int .u32 aE ∧ aX = .int .i64 aB ∧ Aside0 (zq1x.l1 kq aE (rdOf ByteArray.empty l0 aA) l0 (l0.length : Int) aA ((rdOf ByteArray.empty l0 aA).size : Int) aB = some r) ∧ Aside0 (kq ≤ k1) ∧ Drawn0 w w')
  case atStart => exact ⟨(aF), (0), cl_, cl_, H', ⟨Nat.le_refl _⟩, by repeat (first | exact Drawn0.refl _ | apply Drawn0.step)⟩
  case round =>
   clear H'
   obtain ⟨aE, aB, rfl, rfl, HA, aI, ⟨m2, rfl⟩⟩ := hrel
   obtain _ | k2 := gk
   ·exact nn_ HA
   have H := HA.out
   clear HA
   simp only [zq1x.l1] at H
   by_cases c5 : aB < ((rdOf ByteArray.empty l0 aA).size : Int)
   rotate_left
   ·rw [if_neg c5] at H
    have aN := df_ c5
    clear c5
    have H' := q_ H
    clear H
    go_wp2
    go_roundg k2
    case measure => have := HK1.out; have := aI.out; omega
    case rel => exact ⟨(aE), (wrap64 (aA + 1)), cl_, cl_, H', ⟨by have := HK1.out; have := aI.out; omega⟩, by repeat (first | exact Drawn0.refl _ | apply Drawn0.step)⟩
   rw [if_pos c5] at H
   have aN := dt_ c5
   clear c5
   by_cases c6 : 0 ≤ aB
   rotate_left
   ·rw [if_neg c6] at H
    exact absurd H (by simp)
   rw [if_pos c6] at H
   have aV := dt_ c6
   clear c6
   by_cases c7 : aB < ((rdOf ByteArray.empty l0 aA).size : Int)
   rotate_left
   ·rw [if_neg c7] at H
    exact absurd H (by simp)
   rw [if_pos c7] at H
   have aT := dt_ c7
   clear c7
   have H' := q_ H
   clear H
   have p8 : 0 ≤ (aB : Int) := oa_
   have q8 : aB < ((rdOf ByteArray.empty l0 aA).size : Int) := oa_
   have a0 := y15 (rdOf ByteArray.empty l0 aA) aB
   replace p8 := eq_true p8
   replace q8 := eq_true q8
   go_wp2
   go_loopg [3, 25] k2 (fun kq v3 aU w' => ∃ (aD : Int) (aC : Int), v3 = .int .u32 aD ∧ aU = .int .i64 aC ∧ Aside0 (zq1x.l2 kq aD (rdOf ByteArray.empty l0 aA) l0 (l0.length : Int) aA ((rdOf ByteArray.empty l0 aA).size : Int) aB aC = some r) ∧ Aside0 (kq ≤ k2) ∧ Drawn0 w w')
   case atStart => exact ⟨(Go.bits .xor .u32 aE ((bt (rdOf ByteArray.empty l0 aA) aB) % 4294967296)), (0), cl_, cl_, H', ⟨Nat.le_refl _⟩, by repeat (first | exact Drawn0.refl _ | apply Drawn0.step)⟩
   case round =>
    clear H'
    obtain ⟨aD, aC, rfl, rfl, HA, aK, ⟨m3, rfl⟩⟩ := hrel
    obtain _ | k3 := gk
    ·exact nn_ HA
    have H := HA.out
    clear HA
    simp only [zq1x.l2] at H
    by_cases c9 : aC < 8
    ·rw [if_pos c9] at H
     have aO := dt_ c9
     clear c9
     have H' := q_ H
     clear H
     go_wp2
     go_roundg k3
     case measure => have := HK1.out; have := aI.out; have := aK.out; omega
     case rel => exact ⟨(Go.bits .xor .u32 (aD / 2) (((Go.bits .and .u32 aD 1) * 3988292384) % 4294967296)), (wrap64 (aC + 1)), cl_, cl_, H', ⟨by have := HK1.out; have := aI.out; have := aK.out; omega⟩, by repeat (first | exact Drawn0.refl _ | apply Drawn0.step)⟩
    rw [if_neg c9] at H
    have aO := df_ c9
    clear c9
    have H' := q_ H
    clear H
    go_wp2
    go_roundg k3
    case measure => have := HK1.out; have := aI.out; have := aK.out; omega
    case rel => exact ⟨(aD), (wrap64 (aB + 1)), cl_, cl_, H', ⟨by have := HK1.out; have := aI.out; have := aK.out; omega⟩, by repeat (first | exact Drawn0.refl _ | apply Drawn0.step)⟩
end Go.Proofs.Ytenlmckahaniiaa.K
end
section
namespace Go.Proofs.Ytenlmckahaniiaa.K
open Go.RowKit Go.Proofs.YtW.P Go.Proofs.YtW.L
def zq1u.f (k : Nat) (a0 : ByteArray) : Option (ByteArray) := (zq1x.f k (([a0] : List ByteArray))).bind fun t160 => ((zq1w.f k t160 4).bind fun t161 => ((zq1r.f k (([a0, t161] : List ByteArray))).bind fun t165 => (some t165)))
theorem zq1u.mono : ∀ a0 k, LeO (zq1u.f k a0) (zq1u.f (k + 1) a0) := by
 intro a0 k
 unfold zq1u.f
 with_reducible repeat' first | apply zq1w.mono | apply zq1r.mono | apply zq1x.mono | exact LeO.refl _ | exact LeO.none _ | refine LeO.ite ?_ ?_ | refine LeO.bind ?_ (fun _ => ?_)
theorem zq1u.calls (k : Nat) (a0 : ByteArray) (r : ByteArray) (w : World) (h : zq1u.f k a0 = some r) :
  Calls Try.prog 54 #[.string a0] w fun e w' => e = .returned (.string r) ∧ Below w.heap.size w w' := by
 have HB := q_ (Below.refl w.heap.size w)
 have H : ((zq1x.f k (([a0] : List ByteArray))).bind fun aG => ((zq1w.f k aG 4).bind fun aB => ((zq1r.f k (([a0, aB] : List ByteArray))).bind fun aF => (some aF)))) = some r := h
 clear h
 obtain ⟨aL, aD⟩ : ∃ y_ : List ByteArray, y_ = (([a0] : List ByteArray)) := ⟨_, rfl⟩
 replace H : ((zq1x.f k aL).bind fun aG => ((zq1w.f k aG 4).bind fun aB => ((zq1r.f k (([a0, aB] : List ByteArray))).bind fun aF => (some aF)))) = some r := by first | (rw [aD]; with_reducible exact H) | (have aK := (Option.bind_some _ _).symm.trans H; rw [aD]; with_reducible exact aK) | (have aK := (Option.bind_some _ _).symm.trans H; with_reducible exact aK) | with_reducible exact H | (rw [aD]; exact H) | exact H
 have aI := q_ aD
 clear aD
 obtain ⟨aG, A2, H⟩ := bq_ H
 obtain ⟨aB, A3, H⟩ := bq_ H
 (try dsimp only at H)
 obtain ⟨aM, aC⟩ : ∃ y_ : List ByteArray, y_ = (([a0, aB] : List ByteArray)) := ⟨_, rfl⟩
 replace H : ((zq1r.f k aM).bind fun aF => (some aF)) = some r := by first | (rw [aC]; with_reducible exact H) | (have aK := (Option.bind_some _ _).symm.trans H; rw [aC]; with_reducible exact aK) | (have aK := (Option.bind_some _ _).symm.trans H; with_reducible exact aK) | with_reducible exact H | (rw [aC]; exact H) | exact H
 have aJ := q_ aC
 clear aC
 obtain ⟨aF, A4, H⟩ := bq_ H
 (try dsimp only at H)
 obtain rfl := Option.some.inj H
 go_enter Try.func54, Try.ntmps54
 go_wp2_with (first | (refine gd_ 5 ?_; refine Kd.R_lit Kd.string _ 9 ?hg (N := 5) ?hd (xs := ([a0] : List ByteArray)) (inner := [.string a0]) (ok := fun _ => True) (okp := fun _ => True) ?hr ?hp (fun _ hk => hk) trivial (Below.refl _ _) (Nat.le_refl _) (by simp) ?_; (case hd => rfl); (case hg => rfl); (case hr => first | (go_simp; done) | (go_simp; rfl)); (case hp => exact (Reps.one (show Kd.M Kd.string _ _ _ a0 [.string a0] from rfl) (Reps.none _ _))); intro aR w5 aN hb hg_ hnew_; clear hg_ hnew_; (first | rw [← aI.out] at aN | (simp only [Int.reduceToNat] at aN; rw [← aI.out] at aN)); have aA := q_ (Kd.R_lower aN (y0j hb_)); replace HB := q_ (y0k hb_ hb); clear hb aN; obtain ⟨aT, aU, aV⟩ := Kd.R_slice aA.out; subst aV) | (refine gc_ 90 ?_; refine gl_ (some 6) Try.func90 #[.slice aT aL.length aU] ?_; (with_reducible refine (zq1x.calls k _ _ aL aG _ ?side1 ?side2 A2.out).mono ?_); (case side1 => exact ck_ (Kd.R_reads' aA.out).2.2); (case side2 => exact (Kd.R_reads' aA.out).2.1); rintro e w' ⟨rfl, ⟨nd, rfl⟩⟩; refine ⟨_, rfl, ?_⟩) | (refine gc_ 78 ?_; refine gl_ (some 7) Try.func78 #[.int .i64 aG, .int .i64 4] ?_; (with_reducible refine (zq1w.calls k aG 4 aB _ A3.out).mono ?_); rintro e w8 ⟨rfl, hb⟩; refine ⟨_, rfl, ?_⟩; replace aA := q_ (Kd.R_below (rk_ aA.out) hb); replace HB := q_ (y0k hb_ hb)) | (refine gd_ 8 ?_; refine Kd.R_lit Kd.string _ 9 ?hg (N := 8) ?hd (xs := ([a0, aB] : List ByteArray)) (inner := [.string a0, .string aB]) (ok := fun _ => True) (okp := fun _ => True) ?hr ?hp (fun _ hk => hk) trivial (Below.refl _ _) (Nat.le_refl _) (by simp) ?_; (case hd => rfl); (case hg => rfl); (case hr => first | (go_simp; done) | (go_simp; rfl)); (case hp => exact (Reps.one (show Kd.M Kd.string _ _ _ a0 [.string a0] from rfl) (Reps.one (show Kd.M Kd.string _ _ _ aB [.string aB] from rfl) (Reps.none _ _)))); intro aS w9 aH hb hg_ hnew_; clear hg_ hnew_; (first | rw [← aJ.out] at aH | (simp only [Int.reduceToNat] at aH; rw [← aJ.out] at aH)); have aE := q_ (Kd.R_lower (Kd.R_new' aH (Kd.R_lt (rk_ aA.out))) (y0j hb_)); replace aA := q_ (Kd.R_elder' (rk_ aA.out) (Kd.R_base aH) hb); replace HB := q_ (y0k hb_ hb); clear hb aH; obtain ⟨aO, aQ, aP⟩ := Kd.R_slice aE.out; subst aP) | (refine gc_ 89 ?_; refine gl_ (some 9) Try.func89 #[.slice aO aM.length aQ] ?_; (with_reducible refine (zq1r.calls k _ _ aM aF _ ?side1 ?side2 A4.out).mono ?_); (case side1 => exact ck_ (Kd.R_reads' aE.out).2.2); (case side2 => exact (Kd.R_reads' aE.out).2.1); rintro e aW ⟨rfl, hb⟩; refine ⟨_, rfl, ?_⟩; replace aA := q_ (Kd.R_below (rk_ aA.out) hb); replace aE := q_ (Kd.R_below (rk_ aE.out) hb); replace HB := q_ (y0k hb_ hb)))
 go_ret
 exact ⟨ew_, hb_⟩
def zq1l.f (k : Nat) (a0 : ByteArray) : Option (ByteArray) := if 0 ≤ (mn (a0.size : Int) 65535) then (if (mn (a0.size : Int) 65535) ≤ (a0.size : Int) then ((zq1w.f k ((a0.extract 0 ((mn (a0.size : Int) 65535) : Int).toNat).size : Int) 2).bind fun t166 => ((zq1r.f k (([t166, a0.extract 0 ((mn (a0.size : Int) 65535) : Int).toNat] : List ByteArray))).bind fun t170 => (some t170))) else (none)) else (none)
theorem zq1l.mono : ∀ a0 k, LeO (zq1l.f k a0) (zq1l.f (k + 1) a0) := by
 intro a0 k
 unfold zq1l.f
 with_reducible repeat' first | apply zq1w.mono | apply zq1r.mono | exact LeO.refl _ | exact LeO.none _ | refine LeO.ite ?_ ?_ | refine LeO.bind ?_ (fun _ => ?_)
theorem zq1l.calls (k : Nat) (a0 : ByteArray) (r : ByteArray) (w : World) (h : zq1l.f k a0 = some r) :
  Calls Try.prog 92 #[.string a0] w fun e w' => e = .returned (.string r) ∧ Below w.heap.size w w' := by
 have HB := q_ (Below.refl w.heap.size w)
 have H : (if 0 ≤ (mn (a0.size : Int) 65535) then (if (mn (a0.size : Int) 65535) ≤ (a0.size : Int) then ((zq1w.f k ((a0.extract 0 ((mn (a0.size : Int) 65535) : Int).toNat).size : Int) 2).bind fun aA => ((zq1r.f k (([aA, a0.extract 0 ((mn (a0.size : Int) 65535) : Int).toNat] : List ByteArray))).bind fun aF => (some aF))) else (none)) else (none)) = some r := h
 clear h
 obtain ⟨aB, aE⟩ : ∃ j_ : Int, (mn (a0.size : Int) 65535) = j_ := ⟨_, rfl⟩
 replace H : (if 0 ≤ (aB) then (if (aB) ≤ (a0.size : Int) then ((zq1w.f k ((a0.extract 0 ((aB) : Int).toNat).size : Int) 2).bind fun aA => ((zq1r.f k (([aA, a0.extract 0 ((aB) : Int).toNat] : List ByteArray))).bind fun aF => (some aF))) else (none)) else (none)) = some r := by first | (rw [aE] at H; exact H) | (simp only [aE] at H ⊢; exact H)
 (try (have aO : aB ≤ 65535 := by (rw [← aE]; unfold mn; (repeat' split) <;> omega)))
 (try (have aR : aB ≤ 64 := by omega))
 (try (have aP : 0 ≤ aB := by (rw [← aE]; unfold mn; (repeat' split) <;> omega)))
 (try (have aQ : 0 ≤ aB := by omega))
 have aS : (if 65535 < (a0.size : Int) then 65535 else (a0.size : Int)) = aB := aE
 (try (have aN : min (a0.size : Int) 65535 = aB := by rw [← aE]; unfold mn; (repeat' split) <;> omega))
 by_cases c3 : 0 ≤ (aB)
 rotate_left
 ·rw [if_neg c3] at H
  exact absurd H (by simp)
 rw [if_pos c3] at H
 have aV := eq_true c3
 have aT := dt_ c3
 clear c3
 by_cases c4 : (aB) ≤ (a0.size : Int)
 rotate_left
 ·rw [if_neg c4] at H
  exact absurd H (by simp)
 rw [if_pos c4] at H
 have aW := eq_true c4
 have aU := dt_ c4
 clear c4
 obtain ⟨aA, A5, H⟩ := bq_ H
 (try dsimp only at H)
 obtain ⟨aH, aC⟩ : ∃ y_ : List ByteArray, y_ = (([aA, a0.extract 0 ((aB) : Int).toNat] : List ByteArray)) := ⟨_, rfl⟩
 replace H : ((zq1r.f k aH).bind fun aF => (some aF)) = some r := by first | (rw [aC]; with_reducible exact H) | (have aK := (Option.bind_some _ _).symm.trans H; rw [aC]; with_reducible exact aK) | (have aK := (Option.bind_some _ _).symm.trans H; with_reducible exact aK) | with_reducible exact H | (rw [aC]; exact H) | exact H
 have aG := q_ aC
 clear aC
 obtain ⟨aF, A6, H⟩ := bq_ H
 (try dsimp only at H)
 obtain rfl := Option.some.inj H
 go_enter Try.func92, Try.ntmps92
 go_wp2_with (first | (refine gc_ 78 ?_; refine goesL_ (some 10) rfl rfl Try.func78 (by kernel_rfl) rfl #[.int .i64 ((a0.extract 0 ((aB) : Int).toNat).size : Int), .int .i64 2] rfl (by (try simp only [List.map_toArray, List.map_cons, List.map_nil]); first | done | (simp only [aE]; rfl) | rfl | (simp only [List.length_drop, List.length_take]; rfl) | (simp only [ByteArray.size_extract, Nat.sub_zero]; rfl) | (simp only [ByteArray.size_extract, Nat.sub_zero]; done) | ((try go_simp); (try simp only [ByteArray.size_extract, Nat.sub_zero]); (try simp only [eq_iff_iff, iff_true] at *); repeat (first | rfl | omega | congr 1))) ?_; (with_reducible refine (zq1w.calls k ((a0.extract 0 ((aB) : Int).toNat).size : Int) 2 aA _ A5.out).mono ?_); rintro e w7 ⟨rfl, hb⟩; refine ⟨_, rfl, ?_⟩; replace HB := q_ (y0k hb_ hb)) | (refine gd_ 12 ?_; refine Kd.R_lit Kd.string _ 9 ?hg (N := 12) ?hd (xs := ([aA, a0.extract 0 ((aB) : Int).toNat] : List ByteArray)) (inner := [.string aA, .string (a0.extract 0 ((aB) : Int).toNat)]) (ok := fun _ => True) (okp := fun _ => True) ?hr ?hp (fun _ hk => hk) trivial (Below.refl _ _) (Nat.le_refl _) (by simp) ?_; (case hd => rfl); (case hg => rfl); (case hr => first | (go_simp; done) | (go_simp; rfl)); (case hp => exact (Reps.one (show Kd.M Kd.string _ _ _ aA [.string aA] from rfl) (Reps.one (show Kd.M Kd.string _ _ _ (a0.extract 0 ((aB) : Int).toNat) [.string (a0.extract 0 ((aB) : Int).toNat)] from rfl) (Reps.none _ _)))); intro aX w8 aI hb hg_ hnew_; clear hg_ hnew_; (first | rw [← aG.out] at aI | (simp only [Int.reduceToNat] at aI; rw [← aG.out] at aI)); have aD := q_ (Kd.R_lower aI (y0j hb_)); replace HB := q_ (y0k hb_ hb); clear hb aI; obtain ⟨aJ, aL, aM⟩ := Kd.R_slice aD.out; subst aM) | (refine gc_ 89 ?_; refine gl_ (some 13) Try.func89 #[.slice aJ aH.length aL] ?_; (with_reducible refine (zq1r.calls k _ _ aH aF _ ?side1 ?side2 A6.out).mono ?_); (case side1 => exact ck_ (Kd.R_reads' aD.out).2.2); (case side2 => exact (Kd.R_reads' aD.out).2.1); rintro e aY ⟨rfl, hb⟩; refine ⟨_, rfl, ?_⟩; replace aD := q_ (Kd.R_below (rk_ aD.out) hb); replace HB := q_ (y0k hb_ hb)))
 go_ret
 exact ⟨by first | rfl | (simp [y1y, y1z] <;> rfl) | (simp only [← aE]; first | rfl | (simp [y1y, y1z] <;> rfl)) | (simp [*, y1y, y1z] <;> rfl), hb_⟩
def zq1q.f (a0 : Bool) : Option (ByteArray) := if a0 = true then (some (⟨#[1]⟩ : ByteArray)) else (some (⟨#[0]⟩ : ByteArray))
theorem zq1q.calls (a0 : Bool) (r : ByteArray) (w : World) (h : zq1q.f a0 = some r) :
  Calls Try.prog 93 #[.bool a0] w fun e w' => e = .returned (.string r) ∧ Drawn0 w w' := by
 have H : (if a0 = true then (some (⟨#[1]⟩ : ByteArray)) else (some (⟨#[0]⟩ : ByteArray))) = some r := h
 clear h
 by_cases c2 : a0 = true
 ·subst c2
  rw [if_pos rfl] at H
  obtain rfl := Option.some.inj H
  go_enter Try.func93, Try.ntmps93
  go_wp2
  go_ret
  exact ⟨by first | rfl | (simp; done) | (simp [y2o]; done) | (simp [*]; done), by repeat (first | exact Drawn0.refl _ | apply Drawn0.step)⟩
 replace c2 := Bool.eq_false_iff.mpr c2
 subst c2
 rw [if_neg (show ¬ (false = true) by decide)] at H
 obtain rfl := Option.some.inj H
 go_enter Try.func93, Try.ntmps93
 go_wp2
 go_ret
 exact ⟨by first | rfl | (simp; done) | (simp [y2o]; done) | (simp [*]; done), by repeat (first | exact Drawn0.refl _ | apply Drawn0.step)⟩
end Go.Proofs.Ytenlmckahaniiaa.K
end
section
namespace Go.Proofs.Ytenlmckahaniiaa.K
open Go Go.Proofs Go.Shelf Go.RowKit Go.Lib Go.Proofs.YtW.P Go.Proofs.YtW.L
theorem grown_below {w w1 : World} (h : Below w.heap.size w w1) (row : Option Nat) : w.grownBy w1 row := ⟨h.os, h.tape, h.output, h.size, fun i hi _ => h.block i hi⟩
theorem y16 {T e : TypeId} {B b : Nat} {p : Value} {bs : List Value} {w w1 : World} (h : BuilderAt T e B b p bs w) (hb : Below w.heap.size w w1) : BuilderAt T e B b p bs w1 := by
  have hlt := h.lt
  obtain ⟨hB, v, hbk, hown, hne⟩ := h
  exact ⟨hB, v, (hb.block b hlt).trans hbk, hown.kept (grown_below hb none) (by cases v.ownBlock <;> simp), hne⟩
theorem y2n {T e : TypeId} {B b : Nat} {bs : List Value} {w w1 : World} (h : IsBuilder T e B b bs w) (hb : Below w.heap.size w w1) : IsBuilder T e B b bs w1 :=
  h.elim (fun h => .inl (y16 h hb)) (fun h => .inr (y16 h hb))
theorem y1t {w w1 : World} (h : Drawn0 w w1) : Below w.heap.size w w1 := by
  obtain ⟨n, rfl⟩ := h.out
  exact y42 (Below.refl _ _) n
theorem y5c (a s : ByteArray) : strCells (a ++ s) = strCells a ++ strCells s := by
  unfold strCells
  rw [ByteArray.data_append, Array.toList_append, List.map_append]
structure BU (w0 w : World) (g b : Nat) (cs : Array Value) (acc : ByteArray) : Prop where
  below : Below w0.heap.size w0 w
  box : w.heap[g]? = some (.cells cs 25 (0, 0))
  hg : w0.heap.size ≤ g
  hgb : g < b
  hb : b < w.heap.size
  bu : IsBuilder 104 5 b b (strCells acc) w
theorem BU.le {w0 w : World} {g b : Nat} {cs : Array Value} {acc : ByteArray} (h : BU w0 w g b cs acc) : b ≤ w.heap.size := Nat.le_of_lt h.hb
theorem BU.step {w0 w w1 : World} {g b : Nat} {cs : Array Value} {acc : ByteArray} (h : BU w0 w g b cs acc) (hb : Below w.heap.size w w1) : BU w0 w1 g b cs acc :=
  ⟨y0k h.below hb, y0n h.box hb, h.hg, h.hgb, Nat.lt_of_lt_of_le h.hb hb.size, y2n h.bu hb⟩
theorem BU.write {w0 w w1 : World} {g b : Nat} {cs : Array Value} {acc s : ByteArray} (h : BU w0 w g b cs acc) (hbu : BuilderAt 104 5 b b (.pointer (some ⟨b, 0, none⟩)) (strCells acc ++ strCells s) w1) (hb : Below b w w1) : BU w0 w1 g b cs (acc ++ s) :=
  ⟨y0l h.below (Nat.le_trans h.hg (Nat.le_of_lt h.hgb)) hb, (hb.block g h.hgb).trans h.box, h.hg, h.hgb, Nat.lt_of_lt_of_le h.hb hb.size, .inr (y5c acc s ▸ hbu)⟩
theorem BU.made {w0 w w1 : World} {g b : Nat} {cs : Array Value} (hw : Below w0.heap.size w0 w) (hg : g = w0.heap.size) (hbox : w.heap[g]? = some (.cells cs 25 (0, 0))) (hb : b = w.heap.size) (hw1 : Below w.heap.size w w1) (hbu : w1.heap[b]? = some (.cells #[.pointer none, .slice none 0 0] 104 (0, 0))) : BU w0 w1 g b cs ⟨#[]⟩ := by
  have hlt := y0s hbox
  have hlb := y0s hbu
  subst hb
  refine ⟨y0k hw hw1, y0n hbox hw1, by omega, hlt, hlb, .inl ⟨Nat.le_refl _, .slice none 0 0, hbu, ⟨rfl, .inl ⟨rfl, rfl⟩⟩, by simp [Value.ownBlock]⟩⟩
theorem BU.len {w0 w : World} {g b : Nat} {cs : Array Value} {acc : ByteArray} (_h : BU w0 w g b cs acc) {s : ByteArray} (hl : acc.size + s.size ≤ 140737488355328) : (strCells acc).length + s.size ≤ 140737488355328 := by
  rw [strCells_length]; exact hl
theorem BU.str {w0 w : World} {g b : Nat} {cs : Array Value} {acc : ByteArray} (h : BU w0 w g b cs acc) : Calls Try.prog 94 #[.pointer (some ⟨b, 0, none⟩)] w fun e w' => e = .returned (.string acc) ∧ Below w0.heap.size w0 w' := by
  refine (Try.Builder_String_any b b acc.data.toList w (by rw [← strCells_eq]; exact h.bu) h.le).mono ?_
  rintro e w' ⟨rfl, hb⟩
  refine ⟨?_, y0l h.below (Nat.le_trans h.hg (Nat.le_of_lt h.hgb)) hb⟩
  simp
end Go.Proofs.Ytenlmckahaniiaa.K
end
