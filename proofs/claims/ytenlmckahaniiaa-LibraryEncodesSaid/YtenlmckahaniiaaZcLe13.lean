/- Lemmas for several laws: what their proofs need of this seat's texts, in one place. -/
import Derived.Laws.Cover1
import Derived.Test.YtenlmckahaniiaaZcLe12
set_option linter.unusedVariables false
set_option linter.unusedSimpArgs false
set_option linter.unusedSectionVars false
set_option maxHeartbeats 8000000
set_option maxRecDepth 100000
section
namespace Go.Proofs.Ytenlmckahaniiaa.K
open Go.RowKit Go.Proofs.YtW.P Go.Proofs.YtW.L
def zq1p.l0 : Nat → List ByteArray → List (S43) → Int → Int → Option (List ByteArray)
  | 0, _, _, _, _ => none
  | k + 1, x3, x7, x8, x9 => if x9 < x8 then (if 0 ≤ x9 then (if x9 < (x7.length : Int) then (if ((y4a x7 x9).f2) = 4 then (if x3.length < 8796093022208 then (zq1p.l0 k (x3 ++ [(y4a x7 x9).f3]) x7 x8 (wrap64 (x9 + 1))) else (none)) else (zq1p.l0 k x3 x7 x8 (wrap64 (x9 + 1)))) else (none)) else (none)) else (some x3)
def zq1p.f (k : Nat) (a0_0 : ByteArray) (a0_1 : ByteArray) (a0_2 : ByteArray) (a0_3 : Int) (l0_4 : List (S62)) (l0_5 : List (S43)) : Option (List ByteArray) := (zq1p.l0 k ([] : List ByteArray) l0_5 (l0_5.length : Int) 0).bind fun t_ => (if t_.length ≤ 8796093022208 then (some (compS (sortS t_))) else none)
theorem zq1p.mono_l : ∀ k, (∀ y0 y1 y2 y3, LeO (zq1p.l0 k y0 y1 y2 y3) (zq1p.l0 (k + 1) y0 y1 y2 y3))
 | 0 => fun _ _ _ _ r h => by simp [zq1p.l0] at h
 | k + 1 => by
  have ih0 := zq1p.mono_l k
  ·intro y0 y1 y2 y3
   unfold zq1p.l0
   with_reducible repeat' first | apply ih0 | exact LeO.refl _ | exact LeO.none _ | refine LeO.ite ?_ ?_ | refine LeO.bind ?_ (fun _ => ?_)
theorem zq1p.mono : ∀ a0 a1 a2 a3 a4 a5 k, LeO (zq1p.f k a0 a1 a2 a3 a4 a5) (zq1p.f (k + 1) a0 a1 a2 a3 a4 a5) := by
 intro a0 a1 a2 a3 a4 a5 k
 have ih0 := zq1p.mono_l k
 unfold zq1p.f
 with_reducible repeat' first | apply ih0 | exact LeO.refl _ | exact LeO.none _ | refine LeO.ite ?_ ?_ | refine LeO.bind ?_ (fun _ => ?_)
theorem zq1p.calls (k : Nat) (aZ : ByteArray) (a0 : ByteArray) (a2 : ByteArray) (a4 : Int) (a1 : Option Addr) (aY : Nat) (aU : List (S62)) (a5 : Option Addr) (a3 : Nat) (aA : List (S43)) (r : List ByteArray) (w : World) (bC : Kd.C k62 w a1 aU.length aU) (bA : aU.length ≤ aY) (bB : Kd.C k43 w a5 aA.length aA) (a9 : aA.length ≤ a3) (h : zq1p.f k aZ a0 a2 a4 aU aA = some r) :
  Calls Try.prog 27 #[.agg #[.string aZ, .string a0, .string a2, .int .i64 a4, .slice a1 aU.length aY, .slice a5 aA.length a3]] w fun e w' => ∃ v0_ : Value, e = .returned (v0_) ∧ Kd.R Kd.string 9 w' w.heap.size (fun _ => True) v0_ r ∧ Below w.heap.size w w' := by
 have cY := Try.underlying25
 have cZ := Try.underlying43
 have cQ := q_ bC
 have cR := q_ bA
 clear bC bA
 have a8 := q_ bB
 have cS := q_ a9
 clear bB a9
 have HB := q_ (Below.refl w.heap.size w)
 obtain ⟨t_, H, h⟩ := Option.bind_eq_some_iff.mp h
 obtain ⟨hlen_, h⟩ := y2q h
 obtain rfl := Option.some.inj h
 clear h
 have HL_ := q_ hlen_
 clear hlen_
 have H' := q_ H
 clear H
 go_enter Try.func27, Try.ntmps27
 go_wp2_with (first | (refine gd_ 1 ?_; refine bx_ 1 (cs := #[.string aZ, .string a0, .string a2, .int .i64 a4, .slice a1 aU.length aY, .slice a5 aA.length a3]) 25 ?_; intro a6 hg w2 hbox hb; have aD := q_ (hbox); have cT := gw_ w hg (y0j hb_); have cW := gw_ w hg (y0j hb_); replace HB := q_ (y0k hb_ hb); clear hb hbox hg; obtain ⟨b7, cA, cE, b5, cD, cI, b9, cJ, b8, b3, b4, b6⟩ := b6_ aD.out))
 go_loopg [3, 9] k (fun kq v3 v9 w' => ∃ (aV : List ByteArray) (aC : Int), v9 = .int .i64 aC ∧ Aside0 (zq1p.l0 kq aV aA (aA.length : Int) aC = some t_) ∧ Aside0 (kq ≤ k) ∧ Aside0 (Kd.R Kd.string 9 w' w.heap.size (fun _ => True) v3 aV) ∧ Aside0 (w'.heap[a6]? = some (.cells #[.string aZ, .string a0, .string a2, .int .i64 a4, (.slice a1 aU.length aY), (.slice a5 aA.length a3)] 25 (0, 0))) ∧ Aside0 (Below w.heap.size w w'))
 case atStart => exact ⟨(([] : List ByteArray)), (0), cl_, H', ⟨Nat.le_refl _⟩, ⟨nil_⟩, ⟨bk_ aD.out⟩, ⟨hb_⟩⟩
 case round =>
  clear H'
  obtain ⟨aV, aC, rfl, HA, HK1, aR, aD, HB⟩ := hrel
  obtain _ | k1 := gk
  ·exact nn_ HA
  have H := HA.out
  clear HA
  simp only [zq1p.l0] at H
  by_cases c4 : aC < (aA.length : Int)
  rotate_left
  ·rw [if_neg c4] at H
   have cC := df_ c4
   clear c4
   obtain rfl := Option.some.inj H
   go_wp2_with (first | (go_at_call 70; (with_reducible refine (sort_step aR.out HB.out HL_.out).mono ?_); rintro e ws_ ⟨rfl, cL, cO⟩; have cX := q_ cL; have c9 := q_ cO; have c0 := q_ (show (sortS _).length ≤ 8796093022208 from (sortS_length _).symm ▸ HL_.out); clear cL cO) | (go_at_call 71; (with_reducible refine (compact_step cX.out c9.out c0.out).mono ?_); rintro e wc_ ⟨dE, rfl, cV, cP⟩; have c3 := q_ cV; have dA := q_ cP; clear cV cP))
   go_ret
   exact ⟨_, rfl, c3.out, dA.out⟩
  rw [if_pos c4] at H
  have cC := dt_ c4
  clear c4
  by_cases c5 : 0 ≤ aC
  rotate_left
  ·rw [if_neg c5] at H
   exact absurd H (by simp)
  rw [if_pos c5] at H
  have c2 := dt_ c5
  clear c5
  by_cases c6 : aC < (aA.length : Int)
  rotate_left
  ·rw [if_neg c6] at H
   exact absurd H (by simp)
  rw [if_pos c6] at H
  have dB := dt_ c6
  clear c6
  by_cases c7 : ((y4a aA aC).f2) = 4
  rotate_left
  ·rw [if_neg c7] at H
   have cH := ef_ c7
   have cB := nt_ c7
   have H' := q_ H
   clear H
   have aW : 0 ≤ (aC : Int) := oa_
   have aX : aC < (aA.length : Int) := oa_
   obtain ⟨a7, bD, aH, aJ, aK, aG, aI⟩ := y0d a8.out aC aW aX
   cases bD
   replace aH := cb_ HB.out aH
   replace aJ := cb_ HB.out aJ
   replace aK := cb_ HB.out aK
   replace aG := cb_ HB.out aG
   replace aI := cb_ HB.out aI
   replace aW := eq_true aW
   replace aX := eq_true aX
   go_wp2_with (first | (refine gd_ 5 ?_; refine bx_ 5 (cs := #[.int .i64 0, .int .i64 0, .int .i64 0, .string nB_, .bool false]) 43 ?_; intro aE hg dD hbox hb; replace aR := q_ (Kd.R_below (rk_ aR.out) hb); have aQ := q_ (hbox); have bH := gw_ w hg (y0j hb_); have bE := gw_ w hg (y0j hb_); replace HB := q_ (y0k hb_ hb); have aM := nl_ hg (bk_ aD.out); have aN := ng_ hg (bk_ aD.out); replace aD := q_ (y0n (bk_ aD.out) hb); clear hb hbox hg; have cM := aN.out; have cN := aM.out; obtain ⟨bL, b0, bJ, b2, bV, bX, bM, bU, bW, bK⟩ := b5_ aQ.out))
   go_roundg k1
   case measure => have := HK1.out; omega
   case rel => exact ⟨(aV), (wrap64 (aC + 1)), cl_, H', ⟨by have := HK1.out; omega⟩, ⟨rm_ (Kd.R_far (p := ⟨aE, 4, none⟩) (Kd.R_far (p := ⟨aE, 3, none⟩) (Kd.R_far (p := ⟨aE, 2, none⟩) (Kd.R_far (p := ⟨aE, 1, none⟩) (Kd.R_far (p := ⟨aE, 0, none⟩) (Kd.R_types aR.out aQ.out (by decide)) (fun _ hk => hk.2) (.int .i64 ((y4a aA aC).f0))) (fun _ hk => hk.2) (.int .i64 ((y4a aA aC).f1))) (fun _ hk => hk.2) (.int .i64 ((y4a aA aC).f2))) (fun _ hk => hk.2) (.string ((y4a aA aC).f3))) (fun _ hk => hk.2) (.bool ((y4a aA aC).f4))) (fun _ hk => trivial)⟩, ⟨bs_ aD.out⟩, ⟨hb_⟩⟩
  rw [if_pos c7] at H
  have cH := et_ c7
  have cB := nf_ c7
  clear c7
  by_cases c8 : aV.length < 8796093022208
  rotate_left
  ·rw [if_neg c8] at H
   exact absurd H (by simp)
  rw [if_pos c8] at H
  have cG := q_ c8
  clear c8
  obtain ⟨bF, aT⟩ : ∃ y_ : List ByteArray, y_ = (aV ++ [(y4a aA aC).f3]) := ⟨_, rfl⟩
  replace H : (zq1p.l0 k1 bF aA (aA.length : Int) (wrap64 (aC + 1))) = some t_ := by first | (rw [aT]; with_reducible exact H) | (have cF := (Option.bind_some _ _).symm.trans H; rw [aT]; with_reducible exact cF) | (have cF := (Option.bind_some _ _).symm.trans H; with_reducible exact cF) | with_reducible exact H | (rw [aT]; exact H) | exact H
  have bI := q_ aT
  clear aT
  have H' := q_ H
  clear H
  have aW : 0 ≤ (aC : Int) := oa_
  have aX : aC < (aA.length : Int) := oa_
  obtain ⟨a7, bD, aH, aJ, aK, aG, aI⟩ := y0d a8.out aC aW aX
  cases bD
  replace aH := cb_ HB.out aH
  replace aJ := cb_ HB.out aJ
  replace aK := cb_ HB.out aK
  replace aG := cb_ HB.out aG
  replace aI := cb_ HB.out aI
  replace aW := eq_true aW
  replace aX := eq_true aX
  go_wp2_with (first | (refine gd_ 5 ?_; refine bx_ 5 (cs := #[.int .i64 0, .int .i64 0, .int .i64 0, .string nB_, .bool false]) 43 ?_; intro aE hg w9 hbox hb; replace aR := q_ (Kd.R_below (rk_ aR.out) hb); have aQ := q_ (hbox); have bH := gw_ w hg (y0j hb_); have bE := gw_ w hg (y0j hb_); replace HB := q_ (y0k hb_ hb); have aM := nl_ hg (bk_ aD.out); have aN := ng_ hg (bk_ aD.out); replace aD := q_ (y0n (bk_ aD.out) hb); clear hb hbox hg; have cK := aN.out; have cU := aM.out; obtain ⟨bR, bT, bP, bY, bQ, bO, b1, bS, bZ, bN⟩ := b5_ aQ.out) | ((with_reducible refine y22 (b := .append) (xs := #[.tmp 16, .tmp 19]) rfl ?_); at_builtin; refine Kd.R_append Kd.string (w0 := w) w.heap.size rfl (.tmp 16) (.tmp 19) 33 9 (.string ⟨#[]⟩) 16 rfl Try.underlying33 info9 rfl (by decide) (by omega) u3 aV ((y4a aA aC).f3) [.string ((y4a aA aC).f3)] (fun _ => True) (fun _ => False) rfl (by first | (go_simp; done) | (go_simp; rfl)) ?aP (fun _ hk => hk.elim) ?aF ?aO ?aB ?aS ?aL ?_; (case aP => exact rfl); (case aB => exact hb_); (case aF => exact (fun _ _ => trivial)); (case aO => exact (rm_ (Kd.R_far (p := ⟨aE, 4, none⟩) (Kd.R_far (p := ⟨aE, 3, none⟩) (Kd.R_far (p := ⟨aE, 2, none⟩) (Kd.R_far (p := ⟨aE, 1, none⟩) (Kd.R_far (p := ⟨aE, 0, none⟩) (Kd.R_types aR.out aQ.out (by decide)) (fun _ hk => hk.2) (.int .i64 ((y4a aA aC).f0))) (fun _ hk => hk.2) (.int .i64 ((y4a aA aC).f1))) (fun _ hk => hk.2) (.int .i64 ((y4a aA aC).f2))) (fun _ hk => hk.2) (.string ((y4a aA aC).f3))) (fun _ hk => hk.2) (.bool ((y4a aA aC).f4))) (fun _ hk => trivial))); (case aS => exact (y0j hb_)); (case aL => have := cG.out; omega); intro c1 dC ho hb hg hat; rw [← bI.out] at ho; replace aD := q_ (y0r (g := a6) (o := .cells #[.string aZ, .string a0, .string a2, .int .i64 a4, .slice a1 aU.length aY, .slice (some a7) aA.length a3] 25 (0, 0)) (bs_ aD.out) hg (Kd.R_ne aR.out aD.out (by decide))); replace aQ := q_ (y0r (g := aE) (o := .cells #[.int .i64 ((y4a aA aC).f0), .int .i64 ((y4a aA aC).f1), .int .i64 ((y4a aA aC).f2), .string ((y4a aA aC).f3), .bool ((y4a aA aC).f4)] 43 (0, 0)) (bs_ aQ.out) hg (Kd.R_ne aR.out aQ.out (by decide))); replace HB := q_ (hb); have bG := q_ (ho); clear aR; clear ho hb hg hat))
  go_roundg k1
  case measure => have := HK1.out; omega
  case rel => exact ⟨(bF), (wrap64 (aC + 1)), cl_, H', ⟨by have := HK1.out; omega⟩, ⟨rk_ bG.out⟩, ⟨bk_ aD.out⟩, ⟨hb_⟩⟩
end Go.Proofs.Ytenlmckahaniiaa.K
end
section
namespace Go.Proofs.Ytenlmckahaniiaa.K
open Go.RowKit Go.Proofs.YtW.P Go.Proofs.YtW.L
def zq1f.f (a0_0 : ByteArray) (a0_1 : ByteArray) (a0_2 : ByteArray) (a0_3 : Int) (l0_4 : List (S62)) (l0_5 : List (S43)) (a1 : ByteArray) : Option Bool := some (l0_4.any (pSym a1))
theorem zq1f.calls (aH : ByteArray) (aJ : ByteArray) (aI : ByteArray) (aG : Int) (aD : Option Addr) (aC : Nat) (aA : List (S62)) (aF : Option Addr) (aE : Nat) (aB : List (S43)) (a1 : ByteArray) (r : Bool) (w : World) (aK : Kd.C k62 w aD aA.length aA) (aN : aA.length ≤ aC) (aL : Kd.C k43 w aF aB.length aB) (aM : aB.length ≤ aE) (h : zq1f.f aH aJ aI aG aA aB a1 = some r) :
  Calls Try.prog 29 #[.agg #[.string aH, .string aJ, .string aI, .int .i64 aG, .slice aD aA.length aC, .slice aF aB.length aE], .string a1] w fun e w' => e = .returned (.bool r) ∧ Below w.heap.size w w' := by
 obtain rfl := Option.some.inj h
 clear h
 have aQ := q_ aK
 clear aK aL aN aM
 have HC := q_ (Kd.C_alloc (Kd.C_alloc aQ.out (.cells #[.string aH, .string aJ, .string aI, .int .i64 aG, .slice aD aA.length aC, .slice aF aB.length aE] 25)) (.cells #[.string a1] 9))
 have HB := q_ (((Below.refl w.heap.size w).alloc (Nat.le_refl _) (.cells #[.string aH, .string aJ, .string aI, .int .i64 aG, .slice aD aA.length aC, .slice aF aB.length aE] 25)).alloc (by simp) (.cells #[.string a1] 9))
 have HQ : Aside0 ((World.alloc (w.alloc (.cells #[.string aH, .string aJ, .string aI, .int .i64 aG, .slice aD aA.length aC, .slice aF aB.length aE] 25)) (.cells #[.string a1] 9)).heap[w.heap.size + 1]? = some (.cells #[.string a1] 9)) := ⟨by have h_ := blk_new (w.alloc (.cells #[.string aH, .string aJ, .string aI, .int .i64 aG, .slice aD aA.length aC, .slice aF aB.length aE] 25)) (.cells #[.string a1] 9); rwa [show ((w.alloc (.cells #[.string aH, .string aJ, .string aI, .int .i64 aG, .slice aD aA.length aC, .slice aF aB.length aE] 25))).heap.size = w.heap.size + 1 by simp] at h_⟩
 go_enter Try.func29, Try.ntmps29
 go_wp2_with (go_at_call 72; (with_reducible refine (y1k (pSym a1) 73 _ (fun args w => enters_ Try.func73 (by kernel_rfl) rfl args w) aD aC aA _ HC.out (fun x w1 aO => y1r x _ a1 w1 ((y0o (y0n HQ.out aO) 0).trans rfl))).mono ?_); rintro e w2 ⟨rfl, hb⟩; have aP := q_ (y0k HB.out hb); clear hb)
 go_ret
 exact ⟨rfl, aP.out⟩
end Go.Proofs.Ytenlmckahaniiaa.K
end
section
namespace Go.Proofs.Ytenlmckahaniiaa.K
open Go.RowKit Go.Proofs.YtW.P Go.Proofs.YtW.L
theorem findF_calls (x : S25) A4 c4 A5 c5 (q : Nat) (name : ByteArray) (w : World) (hq : w.cell? ⟨q, 0, none⟩ = some (.string name)) (hl4 : x.f4.length ≤ c4) (hi4 : Kd.C k62 w A4 x.f4.length x.f4) (hl5 : x.f5.length ≤ c5) (hi5 : Kd.C k43 w A5 x.f5.length x.f5) :
  Calls Try.prog 75 #[mv x A4 c4 A5 c5, .pointer (some ⟨q, 0, none⟩)] w fun e w' => e = .returned (.bool (x.f4.any (pSym name))) ∧ Below w.heap.size w w' := by
 have hlt := World.block_lt_of_cell? w _ hq
 have hB := y0f (Below.refl w.heap.size w) (.cells #[.string x.f0, .string x.f1, .string x.f2, .int .i64 x.f3, .slice A4 x.f4.length c4, .slice A5 x.f5.length c5] 25)
 have HQ := q_ (zq1f.calls x.f0 x.f1 x.f2 x.f3 A4 c4 x.f4 A5 c5 x.f5 name _ _ (Kd.C_below hi4 hB) hl4 (Kd.C_below hi5 hB) hl5 rfl)
 have HB := q_ hB
 clear hB hi4 hi5 hl4 hl5
 generalize x.f4.any (pSym name) = r at HQ ⊢
 go_enter Try.func75, Try.ntmps75
 go_wp2_with (go_at_call 29; (with_reducible refine HQ.out.mono ?_); rintro e w2 ⟨rfl, hb⟩; have HB2 := q_ (y0k HB.out hb); clear hb)
 go_ret
 exact ⟨rfl, HB2.out⟩
abbrev fnd (l : List S25) (name : ByteArray) : Int := idxF (fun x : S25 => x.f4.any (pSym name)) l
def zq1m.f (l0 : List S25) (a1 : ByteArray) : Option (Int × Bool) := some (max (fnd l0 a1) 0, decide (0 ≤ fnd l0 a1))
theorem zq1m.calls (A0 : Option Addr) (c0 : Nat) (l0 : List S25) (a1 : ByteArray) (r1 : Int) (r2 : Bool) (w : World) (aA : Kd.C k25 w A0 l0.length l0) (aB : l0.length ≤ c0) (h : zq1m.f l0 a1 = some (r1, r2)) :
  Calls Try.prog 32 #[.slice A0 l0.length c0, .string a1] w fun e w' => e = .returned (.tuple #[.int .i64 r1, .bool r2]) ∧ Below w.heap.size w w' := by
 have h1 : max (fnd l0 a1) 0 = r1 := (Prod.mk.inj (Option.some.inj h)).1
 have h2 : decide (0 ≤ fnd l0 a1) = r2 := (Prod.mk.inj (Option.some.inj h)).2
 subst h1
 subst h2
 clear h
 have HQ := q_ (y2k (fun x : S25 => x.f4.any (pSym a1)) 75 w.heap.size (fun args w => enters_ Try.func75 (by kernel_rfl) rfl args w) A0 c0 l0 (w.alloc (.cells #[.string a1] 9)) (Kd.C_alloc aA _) (fun x A4 c4 A5 c5 w1 aE aF aD aC aG => findF_calls x A4 c4 A5 c5 _ a1 w1 ((y0o (y0n (blk_new w (.cells #[.string a1] 9)) aE) 0).trans rfl) aF aD aC aG))
 have HB := q_ (y0f (Below.refl w.heap.size w) (.cells #[.string a1] 9))
 clear aA aB
 unfold fnd
 generalize idxF (fun x : S25 => x.f4.any (pSym a1)) l0 = r at HQ ⊢
 go_enter Try.func32, Try.ntmps32
 go_wp2_with (go_at_call 74; (with_reducible refine HQ.out.mono ?_); rintro e w2 ⟨rfl, hb⟩; have aH := q_ (y0k HB.out hb); clear hb)
 all_goals (go_ret2; refine ⟨?_, aH.out⟩; first | rfl | (rw [Int.max_eq_left (by omega)]; done) | (rw [Int.max_eq_left (by omega)]; rfl) | (rw [Int.max_eq_right (by omega)]; done) | (rw [Int.max_eq_right (by omega)]; rfl) | (simp [Int.max_def] <;> omega))
end Go.Proofs.Ytenlmckahaniiaa.K
end
section
namespace Go.Proofs.Ytenlmckahaniiaa.K
open Go.RowKit Go.Proofs.YtW.P Go.Proofs.YtW.L
mutual
def zq1n.l0 : Nat → List (S25) → List (S25) → Int → ByteArray → List (S25) → Int → Int → Option (Int)
  | 0, _, _, _, _, _, _, _ => none
  | k + 1, x0, x1, x5, x6, x15, x16, x17 => if x17 < x16 then (if 0 ≤ x17 then (if x17 < (x15.length : Int) then ((zq1p.f k ((y49 x15 x17).f0) ((y49 x15 x17).f1) ((y49 x15 x17).f2) ((y49 x15 x17).f3) ((y49 x15 x17).f4) ((y49 x15 x17).f5)).bind fun t755 => (zq1n.l1 k x0 x1 x5 x6 x15 x16 x17 t755 (t755.length : Int) 0)) else (none)) else (none)) else (some x5)
def zq1n.l1 : Nat → List (S25) → List (S25) → Int → ByteArray → List (S25) → Int → Int → List ByteArray → Int → Int → Option (Int)
  | 0, _, _, _, _, _, _, _, _, _, _ => none
  | k + 1, x0, x1, x5, x6, x15, x16, x17, x22, x23, x24 => if x24 < x23 then (if 0 ≤ x24 then (if x24 < (x22.length : Int) then (if x5 ≥ 0 then (zq1n.j2 k x0 x1 x5 x6 (rdOf ByteArray.empty x22 x24) x15 x16 x17 x22 x23 x24 (!(Op.bytesLess ((rdOf ByteArray.empty x22 x24).toList) x6.toList))) else (zq1n.j2 k x0 x1 x5 x6 (rdOf ByteArray.empty x22 x24) x15 x16 x17 x22 x23 x24 false)) else (none)) else (none)) else (zq1n.l0 k x0 x1 x5 x6 x15 x16 (wrap64 (x17 + 1)))
def zq1n.j2 : Nat → List (S25) → List (S25) → Int → ByteArray → ByteArray → List (S25) → Int → Int → List ByteArray → Int → Int → Bool → Option (Int)
  | 0, _, _, _, _, _, _, _, _, _, _, _, _ => none
  | k + 1, x0, x1, x5, x6, x10, x15, x16, x17, x22, x23, x24, x34 => if x34 = true then (zq1n.l1 k x0 x1 x5 x6 x15 x16 x17 x22 x23 (wrap64 (x24 + 1))) else ((zq1m.f x1 x10).bind fun bt759 => (if bt759.2 = true then (zq1n.l1 k x0 x1 x5 x6 x15 x16 x17 x22 x23 (wrap64 (x24 + 1))) else ((zq1m.f x0 x10).bind fun bt761 => (if bt761.2 = true then (zq1n.l1 k x0 x1 bt761.1 x10 x15 x16 x17 x22 x23 (wrap64 (x24 + 1))) else (zq1n.l1 k x0 x1 x5 x6 x15 x16 x17 x22 x23 (wrap64 (x24 + 1)))))))
end
def zq1n.f (k : Nat) (l0 : List (S25)) (l1 : List (S25)) : Option (Int) := zq1n.l0 k l0 l1 (-1) nB_ l1 (l1.length : Int) 0
theorem zq1n.mono_l : ∀ k, (∀ y0 y1 y2 y3 y4 y5 y6, LeO (zq1n.l0 k y0 y1 y2 y3 y4 y5 y6) (zq1n.l0 (k + 1) y0 y1 y2 y3 y4 y5 y6)) ∧ (∀ y0 y1 y2 y3 y4 y5 y6 y7 y8 y9, LeO (zq1n.l1 k y0 y1 y2 y3 y4 y5 y6 y7 y8 y9) (zq1n.l1 (k + 1) y0 y1 y2 y3 y4 y5 y6 y7 y8 y9)) ∧ (∀ y0 y1 y2 y3 y4 y5 y6 y7 y8 y9 y10 y11, LeO (zq1n.j2 k y0 y1 y2 y3 y4 y5 y6 y7 y8 y9 y10 y11) (zq1n.j2 (k + 1) y0 y1 y2 y3 y4 y5 y6 y7 y8 y9 y10 y11))
 | 0 => ⟨fun _ _ _ _ _ _ _ r h => by simp [zq1n.l0] at h, fun _ _ _ _ _ _ _ _ _ _ r h => by simp [zq1n.l1] at h, fun _ _ _ _ _ _ _ _ _ _ _ _ r h => by simp [zq1n.j2] at h⟩
 | k + 1 => by
  obtain ⟨ih0, ih1, ih2⟩ := zq1n.mono_l k
  refine ⟨?_, ?_, ?_⟩
  ·intro y0 y1 y2 y3 y4 y5 y6
   unfold zq1n.l0
   with_reducible repeat' first | apply ih0 | apply ih1 | apply ih2 | apply zq1p.mono | exact LeO.refl _ | exact LeO.none _ | refine LeO.ite ?_ ?_ | refine LeO.bind ?_ (fun _ => ?_)
  ·intro y0 y1 y2 y3 y4 y5 y6 y7 y8 y9
   unfold zq1n.l1
   with_reducible repeat' first | apply ih0 | apply ih1 | apply ih2 | apply zq1p.mono | exact LeO.refl _ | exact LeO.none _ | refine LeO.ite ?_ ?_ | refine LeO.bind ?_ (fun _ => ?_)
  ·intro y0 y1 y2 y3 y4 y5 y6 y7 y8 y9 y10 y11
   unfold zq1n.j2
   with_reducible repeat' first | apply ih0 | apply ih1 | apply ih2 | apply zq1p.mono | exact LeO.refl _ | exact LeO.none _ | refine LeO.ite ?_ ?_ | refine LeO.bind ?_ (fun _ => ?_)
theorem zq1n.mono : ∀ a0 a1 k, LeO (zq1n.f k a0 a1) (zq1n.f (k + 1) a0 a1) := by
 intro a0 a1 k
 obtain ⟨ih0, ih1, ih2⟩ := zq1n.mono_l k
 unfold zq1n.f
 with_reducible repeat' first | apply ih0 | apply ih1 | apply ih2 | apply zq1p.mono | exact LeO.refl _ | exact LeO.none _ | refine LeO.ite ?_ ?_ | refine LeO.bind ?_ (fun _ => ?_)
theorem zq1n.calls (k : Nat) (A0 : Option Addr) (c0 : Nat) (l0 : List (S25)) (A1 : Option Addr) (c1 : Nat) (l1 : List (S25)) (r : Int) (w : World) (cK : Kd.C k25 w A0 l0.length l0) (cJ : l0.length ≤ c0) (cC : Kd.C k25 w A1 l1.length l1) (cD : l1.length ≤ c1) (h : zq1n.f k l0 l1 = some r) :
  Calls Try.prog 84 #[.slice A0 l0.length c0, .slice A1 l1.length c1] w fun e w' => e = .returned (.int .i64 r) ∧ Below w.heap.size w w' := by
 have cN := Try.underlying25
 have cG := q_ cK
 have cF := q_ cJ
 clear cK cJ
 have bO := q_ cC
 have bU := q_ cD
 clear cC cD
 have HB := q_ (Below.refl w.heap.size w)
 have H : (zq1n.l0 k l0 l1 (-1) nB_ l1 (l1.length : Int) 0) = some r := h
 clear h
 have H' := q_ H
 clear H
 go_enter Try.func84, Try.ntmps84
 go_wp2
 go_loopg [5, 6, 17] k (fun kq v5 v6 cS w' => ∃ (a4 : Int) (a1 : ByteArray) (aA : Int), v5 = .int .i64 a4 ∧ v6 = .string a1 ∧ cS = .int .i64 aA ∧ Aside0 (zq1n.l0 kq l0 l1 a4 a1 l1 (l1.length : Int) aA = some r) ∧ Aside0 (kq ≤ k) ∧ Aside0 (Below w.heap.size w w'))
 case atStart => exact ⟨((-1)), (nB_), (0), cl_, cl_, cl_, H', ⟨Nat.le_refl _⟩, ⟨hb_⟩⟩
 case round =>
  clear H'
  obtain ⟨a4, a1, aA, rfl, rfl, rfl, HA, HK1, HB⟩ := hrel
  obtain _ | k1 := gk
  ·exact nn_ HA
  have H := HA.out
  clear HA
  simp only [zq1n.l0] at H
  by_cases c3 : aA < (l1.length : Int)
  rotate_left
  ·rw [if_neg c3] at H
   have bZ := df_ c3
   clear c3
   obtain rfl := Option.some.inj H
   go_wp2
   go_ret
   exact ⟨ew_, hb_⟩
  rw [if_pos c3] at H
  have bZ := dt_ c3
  clear c3
  by_cases c4 : 0 ≤ aA
  rotate_left
  ·rw [if_neg c4] at H
   exact absurd H (by simp)
  rw [if_pos c4] at H
  have cQ := dt_ c4
  clear c4
  by_cases c5 : aA < (l1.length : Int)
  rotate_left
  ·rw [if_neg c5] at H
   exact absurd H (by simp)
  rw [if_pos c5] at H
  have cR := dt_ c5
  clear c5
  obtain ⟨aE, A6, H⟩ := bq_ H
  (try dsimp only at H)
  have H' := q_ H
  clear H
  have a9 : 0 ≤ (aA : Int) := oa_
  have bA : aA < (l1.length : Int) := oa_
  obtain ⟨a0, aH, aI, aG, aL, bR, aW, aV, aS, aP, aT, aR, aQ, aO, aU, aX⟩ := y0c bO.out aA a9 bA
  cases bR
  replace aW := cb_ HB.out aW
  replace aV := cb_ HB.out aV
  replace aS := cb_ HB.out aS
  replace aP := cb_ HB.out aP
  replace aT := cb_ HB.out aT
  replace aR := cb_ HB.out aR
  have a2 := q_ aO
  have a5 := q_ aQ
  clear aO aQ
  have a3 := q_ aX
  have a6 := q_ aU
  clear aX aU
  replace a9 := eq_true a9
  replace bA := eq_true bA
  go_wp2_with (first | (refine gd_ 8 ?_; refine bx_ 8 (cs := #[.string nB_, .string nB_, .string nB_, .int .i64 0, .slice none 0 0, .slice none 0 0]) 25 ?_; intro aZ hg w7 hbox hb; have aC := q_ (hbox); have cM := gw_ w hg (y0j hb_); have cE := gw_ w hg (y0j hb_); replace HB := q_ (y0k hb_ hb); clear hb hbox hg; obtain ⟨bY, b1, bW, b9, b2, cA, b5, cB, bX, bV, b6, b4⟩ := b6_ aC.out) | (refine gc_ 27 ?_; refine gl_ (some 22) Try.func27 #[.agg #[.string ((y49 l1 aA).f0), .string ((y49 l1 aA).f1), .string ((y49 l1 aA).f2), .int .i64 ((y49 l1 aA).f3), .slice aH ((y49 l1 aA).f4).length aI, .slice aG ((y49 l1 aA).f5).length aL]] ?_; (with_reducible refine (zq1p.calls k1 ((y49 l1 aA).f0) ((y49 l1 aA).f1) ((y49 l1 aA).f2) ((y49 l1 aA).f3) _ _ ((y49 l1 aA).f4) _ _ ((y49 l1 aA).f5) aE _ ?side1 ?side2 ?side3 ?side4 A6.out).mono ?_); (case side1 => exact Kd.C_below a2.out hb_); (case side2 => exact a5.out); (case side3 => exact Kd.C_below a3.out hb_); (case side4 => exact a6.out); rintro e w9 ⟨cT, rfl, cP, hb⟩; refine ⟨_, rfl, ?_⟩; have a7 := q_ (Kd.R_lower cP (y0j hb_)); replace aC := q_ (y0n (g := aZ) (o := .cells #[.string ((y49 l1 aA).f0), .string ((y49 l1 aA).f1), .string ((y49 l1 aA).f2), .int .i64 ((y49 l1 aA).f3), .slice aH ((y49 l1 aA).f4).length aI, .slice aG ((y49 l1 aA).f5).length aL] 25 (0, 0)) (bs_ aC.out) hb); replace HB := q_ (y0k hb_ hb); obtain ⟨bT, bI, b8⟩ := Kd.R_slice a7.out; subst b8))
  go_loopg [5, 6, 24] k1 (fun kq v5 v6 cU w' => ∃ (aK : Int) (aJ : ByteArray) (aB : Int), v5 = .int .i64 aK ∧ v6 = .string aJ ∧ cU = .int .i64 aB ∧ Aside0 (zq1n.l1 kq l0 l1 aK aJ l1 (l1.length : Int) aA aE (aE.length : Int) aB = some r) ∧ Aside0 (kq ≤ k1) ∧ Aside0 (Kd.R Kd.string 9 w' w.heap.size (fun _ => True) (.slice bT aE.length bI) aE) ∧ Aside0 (w'.heap[aZ]? = some (.cells #[.string ((y49 l1 aA).f0), .string ((y49 l1 aA).f1), .string ((y49 l1 aA).f2), .int .i64 ((y49 l1 aA).f3), (.slice aH ((y49 l1 aA).f4).length aI), (.slice aG ((y49 l1 aA).f5).length aL)] 25 (0, 0))) ∧ Aside0 (Below w.heap.size w w'))
  case atStart => exact ⟨(a4), (a1), (0), cl_, cl_, cl_, H', ⟨Nat.le_refl _⟩, ⟨rk_ a7.out⟩, ⟨bk_ aC.out⟩, ⟨hb_⟩⟩
  case round =>
   clear H'
   obtain ⟨aK, aJ, aB, rfl, rfl, rfl, HA, aY, aD, aC, HB⟩ := hrel
   obtain _ | k2 := gk
   ·exact nn_ HA
   have H := HA.out
   clear HA
   simp only [zq1n.l1] at H
   by_cases bG : aB < (aE.length : Int)
   rotate_left
   ·rw [if_neg bG] at H
    have bJ := df_ bG
    clear bG
    have H' := q_ H
    clear H
    go_wp2
    go_roundg k2
    case measure => have := HK1.out; have := aY.out; omega
    case rel => exact ⟨(aK), (aJ), (wrap64 (aA + 1)), cl_, cl_, cl_, H', ⟨by have := HK1.out; have := aY.out; omega⟩, ⟨hb_⟩⟩
   rw [if_pos bG] at H
   have bJ := dt_ bG
   clear bG
   by_cases bP : 0 ≤ aB
   rotate_left
   ·rw [if_neg bP] at H
    exact absurd H (by simp)
   rw [if_pos bP] at H
   have cI := dt_ bP
   clear bP
   by_cases bM : aB < (aE.length : Int)
   rotate_left
   ·rw [if_neg bM] at H
    exact absurd H (by simp)
   rw [if_pos bM] at H
   have cH := dt_ bM
   clear bM
   have bC := q_ H
   clear H
   have bD : 0 ≤ (aB : Int) := oa_
   have bE : aB < (aE.length : Int) := oa_
   obtain ⟨bH, bS, bN⟩ := Kd.at_string (Kd.R_reads' aD.out).2.2 aB bD bE
   cases bS
   replace bD := eq_true bD
   replace bE := eq_true bE
   go_upto_region 8 with (fail)
   go_cut [34] (fun cO wc => ∃ (kq : Nat) (aF : Bool), cO = .bool aF ∧ Aside0 (zq1n.j2 kq l0 l1 aK aJ (rdOf ByteArray.empty aE aB) l1 (l1.length : Int) aA aE (aE.length : Int) aB aF = some r) ∧ Aside0 (kq ≤ k2) ∧ Aside0 (Kd.R Kd.string 9 wc w.heap.size (fun _ => True) (.slice (some bH) aE.length bI) aE) ∧ Aside0 (wc.heap[aZ]? = some (.cells #[.string ((y49 l1 aA).f0), .string ((y49 l1 aA).f1), .string ((y49 l1 aA).f2), .int .i64 ((y49 l1 aA).f3), (.slice aH ((y49 l1 aA).f4).length aI), (.slice aG ((y49 l1 aA).f5).length aL)] 25 (0, 0))) ∧ Aside0 (Below w.heap.size w wc))
   case first =>
    have H := bC.out
    clear bC
    by_cases bF : aK ≥ 0
    rotate_left
    ·rw [if_neg bF] at H
     have aN := df_ bF
     clear bF
     (first | rw [aN] | (simp only [y2h, y2g]; rw [aN]) | skip)
     have H' := q_ H
     clear H
     go_wp2
     go_meet
     case rel => exact ⟨_, (false), cl_, H', ⟨by have := HK1.out; have := aY.out; first | omega | exact Nat.le_refl _⟩, ⟨rk_ aD.out⟩, ⟨bk_ aC.out⟩, ⟨hb_⟩⟩
    rw [if_pos bF] at H
    have aN := dt_ bF
    clear bF
    (first | rw [aN] | (simp only [y2h, y2g]; rw [aN]) | skip)
    cases hbl_ : Op.bytesLess ((rdOf ByteArray.empty aE aB).toList) aJ.toList with
    | true =>
     rw [hbl_] at H
     have H' := q_ H
     clear H
     go_wp2
     go_meet
     case rel => exact ⟨_, (!true), cl_, H', ⟨by have := HK1.out; have := aY.out; first | omega | exact Nat.le_refl _⟩, ⟨rk_ aD.out⟩, ⟨bk_ aC.out⟩, ⟨hb_⟩⟩
    | false =>
     rw [hbl_] at H
     have H' := q_ H
     clear H
     go_wp2
     go_meet
     case rel => exact ⟨_, (!false), cl_, H', ⟨by have := HK1.out; have := aY.out; first | omega | exact Nat.le_refl _⟩, ⟨rk_ aD.out⟩, ⟨bk_ aC.out⟩, ⟨hb_⟩⟩
   clear bC
   obtain ⟨kq, aF, rfl, HA, aM, aD, aC, HB⟩ := hcut
   obtain _ | kj13 := kq
   ·exact nn_ HA
   have H := HA.out
   clear HA
   simp only [zq1n.j2] at H
   by_cases bQ : aF = true
   ·subst bQ
    rw [if_pos rfl] at H
    have H' := q_ H
    clear H
    go_wp2
    go_roundg kj13
    case measure => have := HK1.out; have := aY.out; have := aM.out; omega
    case rel => exact ⟨(aK), (aJ), (wrap64 (aB + 1)), cl_, cl_, cl_, H', ⟨by have := HK1.out; have := aY.out; have := aM.out; omega⟩, ⟨rk_ aD.out⟩, ⟨bk_ aC.out⟩, ⟨hb_⟩⟩
   replace bQ := Bool.eq_false_iff.mpr bQ
   subst bQ
   rw [if_neg (show ¬ (false = true) by decide)] at H
   obtain ⟨⟨bB, b0⟩, b7, H⟩ := bq_ H
   (try dsimp only at H)
   by_cases bL : b0 = true
   ·subst bL
    rw [if_pos rfl] at H
    have H' := q_ H
    clear H
    go_wp2_with (first | (refine gc_ 32 ?_; refine gl_ (some 38) Try.func32 #[.slice (some a0) l1.length c1, .string (rdOf ByteArray.empty aE aB)] ?_; (with_reducible refine (zq1m.calls _ _ l1 (rdOf ByteArray.empty aE aB) bB true _ ?side1 ?side2 b7.out).mono ?_); (case side1 => exact ck_ (Kd.C_below bO.out HB.out)); (case side2 => exact bU.out); rintro e cZ ⟨rfl, hb⟩; refine ⟨_, rfl, ?_⟩; replace aD := q_ (Kd.R_below (rk_ aD.out) hb); replace aC := q_ (y0n (bk_ aC.out) hb); replace HB := q_ (y0k hb_ hb)))
    go_roundg kj13
    case measure => have := HK1.out; have := aY.out; have := aM.out; omega
    case rel => exact ⟨(aK), (aJ), (wrap64 (aB + 1)), cl_, cl_, cl_, H', ⟨by have := HK1.out; have := aY.out; have := aM.out; omega⟩, ⟨rk_ aD.out⟩, ⟨bk_ aC.out⟩, ⟨hb_⟩⟩
   replace bL := Bool.eq_false_iff.mpr bL
   subst bL
   rw [if_neg (show ¬ (false = true) by decide)] at H
   obtain ⟨⟨a8, b3⟩, cL, H⟩ := bq_ H
   (try dsimp only at H)
   by_cases bK : b3 = true
   ·subst bK
    rw [if_pos rfl] at H
    have H' := q_ H
    clear H
    go_wp2_with (first | (refine gc_ 32 ?_; refine gl_ (some 38) Try.func32 #[.slice (some a0) l1.length c1, .string (rdOf ByteArray.empty aE aB)] ?_; (with_reducible refine (zq1m.calls _ _ l1 (rdOf ByteArray.empty aE aB) bB false _ ?side1 ?side2 b7.out).mono ?_); (case side1 => exact ck_ (Kd.C_below bO.out HB.out)); (case side2 => exact bU.out); rintro e cV ⟨rfl, hb⟩; refine ⟨_, rfl, ?_⟩; replace aD := q_ (Kd.R_below (rk_ aD.out) hb); replace aC := q_ (y0n (bk_ aC.out) hb); replace HB := q_ (y0k hb_ hb)) | (refine gc_ 32 ?_; refine gl_ (some 45) Try.func32 #[.slice A0 l0.length c0, .string (rdOf ByteArray.empty aE aB)] ?_; (with_reducible refine (zq1m.calls _ _ l0 (rdOf ByteArray.empty aE aB) a8 true _ ?side1 ?side2 cL.out).mono ?_); (case side1 => exact ck_ (Kd.C_below cG.out HB.out)); (case side2 => exact cF.out); rintro e cY ⟨rfl, hb⟩; refine ⟨_, rfl, ?_⟩; replace aD := q_ (Kd.R_below (rk_ aD.out) hb); replace aC := q_ (y0n (bk_ aC.out) hb); replace HB := q_ (y0k hb_ hb)))
    go_roundg kj13
    case measure => have := HK1.out; have := aY.out; have := aM.out; omega
    case rel => exact ⟨(a8), ((rdOf ByteArray.empty aE aB)), (wrap64 (aB + 1)), cl_, cl_, cl_, H', ⟨by have := HK1.out; have := aY.out; have := aM.out; omega⟩, ⟨rk_ aD.out⟩, ⟨bk_ aC.out⟩, ⟨hb_⟩⟩
   replace bK := Bool.eq_false_iff.mpr bK
   subst bK
   rw [if_neg (show ¬ (false = true) by decide)] at H
   have H' := q_ H
   clear H
   go_wp2_with (first | (refine gc_ 32 ?_; refine gl_ (some 38) Try.func32 #[.slice (some a0) l1.length c1, .string (rdOf ByteArray.empty aE aB)] ?_; (with_reducible refine (zq1m.calls _ _ l1 (rdOf ByteArray.empty aE aB) bB false _ ?side1 ?side2 b7.out).mono ?_); (case side1 => exact ck_ (Kd.C_below bO.out HB.out)); (case side2 => exact bU.out); rintro e cX ⟨rfl, hb⟩; refine ⟨_, rfl, ?_⟩; replace aD := q_ (Kd.R_below (rk_ aD.out) hb); replace aC := q_ (y0n (bk_ aC.out) hb); replace HB := q_ (y0k hb_ hb)) | (refine gc_ 32 ?_; refine gl_ (some 45) Try.func32 #[.slice A0 l0.length c0, .string (rdOf ByteArray.empty aE aB)] ?_; (with_reducible refine (zq1m.calls _ _ l0 (rdOf ByteArray.empty aE aB) a8 false _ ?side1 ?side2 cL.out).mono ?_); (case side1 => exact ck_ (Kd.C_below cG.out HB.out)); (case side2 => exact cF.out); rintro e cW ⟨rfl, hb⟩; refine ⟨_, rfl, ?_⟩; replace aD := q_ (Kd.R_below (rk_ aD.out) hb); replace aC := q_ (y0n (bk_ aC.out) hb); replace HB := q_ (y0k hb_ hb)))
   go_roundg kj13
   case measure => have := HK1.out; have := aY.out; have := aM.out; omega
   case rel => exact ⟨(aK), (aJ), (wrap64 (aB + 1)), cl_, cl_, cl_, H', ⟨by have := HK1.out; have := aY.out; have := aM.out; omega⟩, ⟨rk_ aD.out⟩, ⟨bk_ aC.out⟩, ⟨hb_⟩⟩
end Go.Proofs.Ytenlmckahaniiaa.K
end
