/- Lemmas for the law LibraryReplaces: what its proof needs beyond what it shares. -/
import Derived.Test.YtenlmckahaniiaaZLibraryReplaces0
set_option linter.unusedVariables false
set_option linter.unusedSimpArgs false
set_option linter.unusedSectionVars false
set_option maxHeartbeats 8000000
set_option maxRecDepth 100000
section
namespace Go.Proofs.Ytenlmckahaniiaa.K
open Go.RowKit Go.Proofs.YtW.P Go.Proofs.YtW.L
def zqc.l0 : Nat → List (S25) → List (S25) → Bool → Int → ByteArray → ByteArray → ByteArray → Int → List (S62) → List (S43) → Option ((List (S25)) × Int)
  | 0, _, _, _, _, _, _, _, _, _, _ => none
  | k + 1, x0, x6, x7, x8, x1002000, x1002001, x1002002, x1002003, x1002004, x1002005 => if x8 < (x0.length : Int) then (if 0 ≤ x8 then (if ((y49 x0 x8).f0).toList = x1002000.toList then (if x7 = true then (if x6.length < 1353245080339 then (zqc.l0 k x0 (x6 ++ [(⟨(y49 x0 x8).f0, (y49 x0 x8).f1, (y49 x0 x8).f2, (y49 x0 x8).f3, (y49 x0 x8).f4, (y49 x0 x8).f5⟩ : S25)]) x7 (wrap64 (x8 + 1)) x1002000 x1002001 x1002002 x1002003 x1002004 x1002005) else (none)) else (if x6.length < 1353245080339 then (zqc.l0 k x0 (x6 ++ [(⟨x1002000, x1002001, x1002002, x1002003, x1002004, x1002005⟩ : S25)]) true (wrap64 (x8 + 1)) x1002000 x1002001 x1002002 x1002003 x1002004 x1002005) else (none))) else (if x6.length < 1353245080339 then (zqc.l0 k x0 (x6 ++ [(⟨(y49 x0 x8).f0, (y49 x0 x8).f1, (y49 x0 x8).f2, (y49 x0 x8).f3, (y49 x0 x8).f4, (y49 x0 x8).f5⟩ : S25)]) x7 (wrap64 (x8 + 1)) x1002000 x1002001 x1002002 x1002003 x1002004 x1002005) else (none))) else (none)) else (if x7 = true then ((zqq.f k x6).bind fun t1014 => (if t1014 = 0 then (some (x6, 0)) else (some (([] : List (S25)), t1014)))) else (if x6.length < 1353245080339 then ((some (x6 ++ [(⟨x1002000, x1002001, x1002002, x1002003, x1002004, x1002005⟩ : S25)] : List (S25))).bind fun y1015 => ((zqq.f k y1015).bind fun t1018 => (if t1018 = 0 then (some (y1015, 0)) else (some (([] : List (S25)), t1018))))) else (none)))
def zqc.f (k : Nat) (l0 : List (S25)) (a1_0 : ByteArray) (a1_1 : ByteArray) (a1_2 : ByteArray) (a1_3 : Int) (l1_4 : List (S62)) (l1_5 : List (S43)) : Option ((List (S25)) × Int) := zqc.l0 k l0 ([] : List (S25)) false 0 a1_0 a1_1 a1_2 a1_3 l1_4 l1_5
theorem zqc.mono_l : ∀ k, (∀ y0 y1 y2 y3 y4 y5 y6 y7 y8 y9, LeO (zqc.l0 k y0 y1 y2 y3 y4 y5 y6 y7 y8 y9) (zqc.l0 (k + 1) y0 y1 y2 y3 y4 y5 y6 y7 y8 y9))
 | 0 => fun _ _ _ _ _ _ _ _ _ _ r h => by simp [zqc.l0] at h
 | k + 1 => by
  have ih0 := zqc.mono_l k
  ·intro y0 y1 y2 y3 y4 y5 y6 y7 y8 y9
   unfold zqc.l0
   with_reducible repeat' first | apply ih0 | apply zqq.mono | exact LeO.refl _ | exact LeO.none _ | refine LeO.ite ?_ ?_ | refine LeO.bind ?_ (fun _ => ?_)
theorem zqc.mono : ∀ a0 a1 a2 a3 a4 a5 a6 k, LeO (zqc.f k a0 a1 a2 a3 a4 a5 a6) (zqc.f (k + 1) a0 a1 a2 a3 a4 a5 a6) := by
 intro a0 a1 a2 a3 a4 a5 a6 k
 have ih0 := zqc.mono_l k
 unfold zqc.f
 with_reducible repeat' first | apply ih0 | apply zqq.mono | exact LeO.refl _ | exact LeO.none _ | refine LeO.ite ?_ ?_ | refine LeO.bind ?_ (fun _ => ?_)
theorem zqc.calls (k : Nat) (aJ : Nat → Prop) (A0 : Option Addr) (c0 : Nat) (l0 : List (S25)) (aX : ByteArray) (a0 : ByteArray) (aZ : ByteArray) (aY : Int) (aG : Nat → Prop) (bP : Option Addr) (bO : Nat) (aT : List (S62)) (aE : Nat → Prop) (bQ : Option Addr) (bN : Nat) (aU : List (S43)) (r1 : List (S25)) (r2 : Int) (w : World) (h7 : Kd.V k25 25 w w.heap.size (fun k_ => aJ k_) (.slice A0 l0.length c0) l0) (eO : Kd.V k62 62 w w.heap.size (fun k_ => aG k_) (.slice bP aT.length bO) aT) (e2 : Kd.V k43 43 w w.heap.size (fun k_ => aE k_) (.slice bQ aU.length bN) aU) (h : zqc.f k l0 aX a0 aZ aY aT aU = some (r1, r2)) :
  Calls Try.prog 46 #[.slice A0 l0.length c0, .agg #[.string aX, .string a0, .string aZ, .int .i64 aY, .slice bP aT.length bO, .slice bQ aU.length bN]] w fun e w' => ∃ v0_ : Value, e = .returned (.tuple #[v0_, .int .i64 r2]) ∧ Kd.N k25 25 w' w.heap.size (fun k_ => ((aJ k_ ∨ aG k_ ∨ aE k_) ∨ w.heap.size ≤ k_)) v0_ r1 ∧ Below w.heap.size w w' := by
 have h3 := Try.underlying25
 have eB := q_ (show Kd.V k25 25 w w.heap.size (fun k_ => ((aJ k_ ∨ aG k_ ∨ aE k_) ∨ w.heap.size ≤ k_)) (.slice A0 l0.length c0) l0 from Kd.V_mono h7 (fun k_ hk => .inl (.inl hk)))
 have b2 := q_ (show Kd.V k62 62 w w.heap.size (fun k_ => ((aJ k_ ∨ aG k_ ∨ aE k_) ∨ w.heap.size ≤ k_)) (.slice bP aT.length bO) aT from Kd.V_mono eO (fun k_ hk => .inl (.inr (.inl hk))))
 have b9 := q_ (show Kd.V k43 43 w w.heap.size (fun k_ => ((aJ k_ ∨ aG k_ ∨ aE k_) ∨ w.heap.size ≤ k_)) (.slice bQ aU.length bN) aU from Kd.V_mono e2 (fun k_ hk => .inl (.inr (.inr hk))))
 have HB := q_ (Below.refl w.heap.size w)
 have H : (zqc.l0 k l0 ([] : List (S25)) false 0 aX a0 aZ aY aT aU) = some (r1, r2) := h
 clear h
 have H' := q_ H
 clear H
 go_enter Try.func46, Try.ntmps46
 go_wp2_with (first | (refine gd_ 3 ?_; refine bx_ 3 (cs := #[.string aX, .string a0, .string aZ, .int .i64 aY, .slice bP aT.length bO, .slice bQ aU.length bN]) 25 ?_; intro aA hg w3 hbox hb; replace eB := q_ (Kd.V_below (Kd.V_elderB (vk_ eB.out) aA (Nat.le_of_eq hg.symm)) hb); replace b2 := q_ (Kd.V_below (Kd.V_elderB (vk_ b2.out) aA (Nat.le_of_eq hg.symm)) hb); replace b9 := q_ (Kd.V_below (Kd.V_elderB (vk_ b9.out) aA (Nat.le_of_eq hg.symm)) hb); have aH := q_ (hbox); have dT := gw_ w hg (y0j hb_); have dW := gw_ w hg (y0j hb_); replace HB := q_ (y0k hb_ hb); clear hb hbox hg))
 repeat (go_quiet (first | (refine gd_ 3 ?_; refine bx_ 3 (cs := #[.string aX, .string a0, .string aZ, .int .i64 aY, .slice bP aT.length bO, .slice bQ aU.length bN]) 25 ?_; intro aA hg w3 hbox hb; replace eB := q_ (Kd.V_below (Kd.V_elderB (vk_ eB.out) aA (Nat.le_of_eq hg.symm)) hb); replace b2 := q_ (Kd.V_below (Kd.V_elderB (vk_ b2.out) aA (Nat.le_of_eq hg.symm)) hb); replace b9 := q_ (Kd.V_below (Kd.V_elderB (vk_ b9.out) aA (Nat.le_of_eq hg.symm)) hb); have aH := q_ (hbox); have dT := gw_ w hg (y0j hb_); have dW := gw_ w hg (y0j hb_); replace HB := q_ (y0k hb_ hb); clear hb hbox hg)); try go_wp2_with (first | (refine gd_ 3 ?_; refine bx_ 3 (cs := #[.string aX, .string a0, .string aZ, .int .i64 aY, .slice bP aT.length bO, .slice bQ aU.length bN]) 25 ?_; intro aA hg w3 hbox hb; replace eB := q_ (Kd.V_below (Kd.V_elderB (vk_ eB.out) aA (Nat.le_of_eq hg.symm)) hb); replace b2 := q_ (Kd.V_below (Kd.V_elderB (vk_ b2.out) aA (Nat.le_of_eq hg.symm)) hb); replace b9 := q_ (Kd.V_below (Kd.V_elderB (vk_ b9.out) aA (Nat.le_of_eq hg.symm)) hb); have aH := q_ (hbox); have dT := gw_ w hg (y0j hb_); have dW := gw_ w hg (y0j hb_); replace HB := q_ (y0k hb_ hb); clear hb hbox hg)))
 go_loopg [6, 7, 8] k (fun kq v6 v7 v8 w' => ∃ (a9 : List (S25)) (dM : Bool) (aI : Int), v7 = .bool dM ∧ v8 = .int .i64 aI ∧ Aside0 (zqc.l0 kq l0 a9 dM aI aX a0 aZ aY aT aU = some (r1, r2)) ∧ Aside0 (kq ≤ k) ∧ Aside0 (Kd.V k25 25 w' w.heap.size (fun k_ => ((aJ k_ ∨ aG k_ ∨ aE k_) ∨ w.heap.size ≤ k_) ∧ some k_ ≠ (v6 : Value).ownBlock ∧ k_ ≠ aA) (.slice A0 l0.length c0) l0) ∧ Aside0 (Kd.N k25 25 w' w.heap.size (fun k_ => ((aJ k_ ∨ aG k_ ∨ aE k_) ∨ w.heap.size ≤ k_) ∧ k_ ≠ aA) v6 a9) ∧ Aside0 (Kd.V k62 62 w' w.heap.size (fun k_ => ((aJ k_ ∨ aG k_ ∨ aE k_) ∨ w.heap.size ≤ k_) ∧ some k_ ≠ (v6 : Value).ownBlock ∧ k_ ≠ aA) (.slice bP aT.length bO) aT) ∧ Aside0 (Kd.V k43 43 w' w.heap.size (fun k_ => ((aJ k_ ∨ aG k_ ∨ aE k_) ∨ w.heap.size ≤ k_) ∧ some k_ ≠ (v6 : Value).ownBlock ∧ k_ ≠ aA) (.slice bQ aU.length bN) aU) ∧ Aside0 (w'.heap[aA]? = some (.cells #[.string aX, .string a0, .string aZ, .int .i64 aY, (.slice bP aT.length bO), (.slice bQ aU.length bN)] 25 (0, 0))) ∧ Aside0 (Below w.heap.size w w'))
 case atStart => exact ⟨(([] : List (S25))), (false), (0), cl_, cl_, H', ⟨Nat.le_refl _⟩, ⟨vm_ eB.out (fun _ hk => ⟨hk.1, ⟨(by simp [Value.ownBlock]), hk.2⟩⟩)⟩, ⟨by first | exact Kd.S_nil _ _ _ _ _ | exact Kd.N_nil _ _ _ _ _ | exact Kd.V_nil _ _ _ _ _ | exact Kd.Q_nil _ _ _ _ _ | exact Kd.R_nil _ _ _ _ _⟩, ⟨vm_ b2.out (fun _ hk => ⟨hk.1, ⟨(by simp [Value.ownBlock]), hk.2⟩⟩)⟩, ⟨vm_ b9.out (fun _ hk => ⟨hk.1, ⟨(by simp [Value.ownBlock]), hk.2⟩⟩)⟩, ⟨bk_ aH.out⟩, ⟨hb_⟩⟩
 case round =>
  clear H'
  obtain ⟨a9, dM, aI, rfl, rfl, HA, HK1, aM, aN, aC, aD, aH, HB⟩ := hrel
  obtain _ | k1 := gk
  ·exact nn_ HA
  have H := HA.out
  clear HA
  simp only [zqc.l0] at H
  by_cases c4 : aI < (l0.length : Int)
  rotate_left
  ·rw [if_neg c4] at H
   have hB := df_ c4
   clear c4
   by_cases fU : dM = true
   ·subst fU
    rw [if_pos rfl] at H
    obtain ⟨b0, eE, H⟩ := bq_ H
    (try dsimp only at H)
    by_cases eC : b0 = 0
    rotate_left
    ·rw [if_neg eC] at H
     have e5 := ef_ eC
     have eH := nt_ eC
     simp only [Option.some.injEq, Prod.mk.injEq] at H
     obtain ⟨rfl, rfl⟩ := H
     obtain ⟨h2, h8, hR⟩ := Kd.N_slice aN.out
     subst hR
     go_wp2_with (first | (go_at_call 35; (with_reducible refine (zqq.calls k1 _ _ a9 b0 _ ?side1 ?side2 eE.out).mono ?_); (case side1 => exact ck_ (Kd.N_reads' aN.out).2.2); (case side2 => exact (Kd.N_reads' aN.out).2.1); rintro e h0 ⟨rfl, hb⟩; replace aM := q_ (Kd.V_below (vk_ aM.out) hb); replace aN := q_ (Kd.N_below (nk_ aN.out) hb); replace aC := q_ (Kd.V_below (vk_ aC.out) hb); replace aD := q_ (Kd.V_below (vk_ aD.out) hb); replace aH := q_ (y0n (bk_ aH.out) hb); replace HB := q_ (y0k hb_ hb)))
     repeat (go_quiet (first | (go_at_call 35; (with_reducible refine (zqq.calls k1 _ _ a9 b0 _ ?side1 ?side2 eE.out).mono ?_); (case side1 => exact ck_ (Kd.N_reads' aN.out).2.2); (case side2 => exact (Kd.N_reads' aN.out).2.1); rintro e h0 ⟨rfl, hb⟩; replace aM := q_ (Kd.V_below (vk_ aM.out) hb); replace aN := q_ (Kd.N_below (nk_ aN.out) hb); replace aC := q_ (Kd.V_below (vk_ aC.out) hb); replace aD := q_ (Kd.V_below (vk_ aD.out) hb); replace aH := q_ (y0n (bk_ aH.out) hb); replace HB := q_ (y0k hb_ hb))); try go_wp2_with (first | (go_at_call 35; (with_reducible refine (zqq.calls k1 _ _ a9 b0 _ ?side1 ?side2 eE.out).mono ?_); (case side1 => exact ck_ (Kd.N_reads' aN.out).2.2); (case side2 => exact (Kd.N_reads' aN.out).2.1); rintro e h0 ⟨rfl, hb⟩; replace aM := q_ (Kd.V_below (vk_ aM.out) hb); replace aN := q_ (Kd.N_below (nk_ aN.out) hb); replace aC := q_ (Kd.V_below (vk_ aC.out) hb); replace aD := q_ (Kd.V_below (vk_ aD.out) hb); replace aH := q_ (y0n (bk_ aH.out) hb); replace HB := q_ (y0k hb_ hb))))
     go_ret2
     exact ⟨_, ew_, by first | exact Kd.S_nil _ _ _ _ _ | exact Kd.N_nil _ _ _ _ _ | exact Kd.V_nil _ _ _ _ _ | exact Kd.Q_nil _ _ _ _ _ | exact Kd.R_nil _ _ _ _ _, hb_⟩
    rw [if_pos eC] at H
    have e5 := et_ eC
    have eH := nf_ eC
    clear eC
    simp only [Option.some.injEq, Prod.mk.injEq] at H
    obtain ⟨rfl, rfl⟩ := H
    obtain ⟨h5, h6, hI⟩ := Kd.N_slice aN.out
    subst hI
    go_wp2_with (first | (go_at_call 35; (with_reducible refine (zqq.calls k1 _ _ a9 b0 _ ?side1 ?side2 eE.out).mono ?_); (case side1 => exact ck_ (Kd.N_reads' aN.out).2.2); (case side2 => exact (Kd.N_reads' aN.out).2.1); rintro e hU ⟨rfl, hb⟩; replace aM := q_ (Kd.V_below (vk_ aM.out) hb); replace aN := q_ (Kd.N_below (nk_ aN.out) hb); replace aC := q_ (Kd.V_below (vk_ aC.out) hb); replace aD := q_ (Kd.V_below (vk_ aD.out) hb); replace aH := q_ (y0n (bk_ aH.out) hb); replace HB := q_ (y0k hb_ hb)))
    repeat (go_quiet (first | (go_at_call 35; (with_reducible refine (zqq.calls k1 _ _ a9 b0 _ ?side1 ?side2 eE.out).mono ?_); (case side1 => exact ck_ (Kd.N_reads' aN.out).2.2); (case side2 => exact (Kd.N_reads' aN.out).2.1); rintro e hU ⟨rfl, hb⟩; replace aM := q_ (Kd.V_below (vk_ aM.out) hb); replace aN := q_ (Kd.N_below (nk_ aN.out) hb); replace aC := q_ (Kd.V_below (vk_ aC.out) hb); replace aD := q_ (Kd.V_below (vk_ aD.out) hb); replace aH := q_ (y0n (bk_ aH.out) hb); replace HB := q_ (y0k hb_ hb))); try go_wp2_with (first | (go_at_call 35; (with_reducible refine (zqq.calls k1 _ _ a9 b0 _ ?side1 ?side2 eE.out).mono ?_); (case side1 => exact ck_ (Kd.N_reads' aN.out).2.2); (case side2 => exact (Kd.N_reads' aN.out).2.1); rintro e hU ⟨rfl, hb⟩; replace aM := q_ (Kd.V_below (vk_ aM.out) hb); replace aN := q_ (Kd.N_below (nk_ aN.out) hb); replace aC := q_ (Kd.V_below (vk_ aC.out) hb); replace aD := q_ (Kd.V_below (vk_ aD.out) hb); replace aH := q_ (y0n (bk_ aH.out) hb); replace HB := q_ (y0k hb_ hb))))
    go_ret2
    exact ⟨_, ew_, by (with_reducible repeat (first | apply Kd.N_alloc | apply Kd.N_drewN | apply Kd.N_drew)); exact Kd.N_mono aN.out (fun _ hk => hk.1), hb_⟩
   replace fU := Bool.eq_false_iff.mpr fU
   subst fU
   rw [if_neg (show ¬ (false = true) by decide)] at H
   by_cases fG : a9.length < 1353245080339
   rotate_left
   ·rw [if_neg fG] at H
    exact absurd H (by simp)
   rw [if_pos fG] at H
   have cF := q_ fG
   clear fG
   obtain ⟨bZ, b6⟩ : ∃ y_ : List (S25), y_ = (a9 ++ [(⟨aX, a0, aZ, aY, aT, aU⟩ : S25)]) := ⟨_, rfl⟩
   replace H : ((zqq.f k1 bZ).bind fun bR => (if bR = 0 then (some (bZ, 0)) else (some (([] : List (S25)), bR)))) = some (r1, r2) := by first | (rw [b6]; with_reducible exact H) | (have dG := (Option.bind_some _ _).symm.trans H; rw [b6]; with_reducible exact dG) | (have dG := (Option.bind_some _ _).symm.trans H; with_reducible exact dG) | with_reducible exact H | (rw [b6]; exact H) | exact H
   have bY := q_ b6
   clear b6
   obtain ⟨bR, eF, H⟩ := bq_ H
   (try dsimp only at H)
   by_cases d8 : bR = 0
   rotate_left
   ·rw [if_neg d8] at H
    have e0 := ef_ d8
    have fA := nt_ d8
    simp only [Option.some.injEq, Prod.mk.injEq] at H
    obtain ⟨rfl, rfl⟩ := H
    obtain ⟨g3, g6, fW, fN, gG, fM, gF, gN, gO, gL, g4, fT⟩ := b6_ aH.out
    go_wp2_with (first | ((with_reducible refine y22 (b := .append) (xs := #[.tmp 41, .tmp 43]) rfl ?_); at_builtin; refine Kd.N_append k25 (w0 := w) w.heap.size rfl (.tmp 41) (.tmp 43) 46 25 (.agg #[(.string ⟨#[]⟩), (.string ⟨#[]⟩), (.string ⟨#[]⟩), (.int .i64 0), (.slice none 0 0), (.slice none 0 0)]) 104 rfl Try.underlying46 info25 rfl (by decide) (by omega) u6 a9 (⟨aX, a0, aZ, aY, aT, aU⟩ : S25) [.string aX, .string a0, .string aZ, .int .i64 aY, .slice bP aT.length bO, .slice bQ aU.length bN] (fun k_ => ((aJ k_ ∨ aG k_ ∨ aE k_) ∨ w.heap.size ≤ k_) ∧ k_ ≠ aA) (fun k_ => ((fun k_ => ((aJ k_ ∨ aG k_ ∨ aE k_) ∨ w.heap.size ≤ k_) ∧ k_ ≠ aA)) k_ ∧ some k_ ≠ (u6 : Value).ownBlock) rfl rfl ?aP (fun _ hk => hk) ?aF ?aO ?aB ?aS ?aL ?_; (case aP => exact (y2s _ _ (⟨aX, a0, aZ, aY, aT, aU⟩ : S25) (Kd.V_reads' (Kd.V_mono (ok' := (fun k_ => ((fun k_ => ((aJ k_ ∨ aG k_ ∨ aE k_) ∨ w.heap.size ≤ k_) ∧ k_ ≠ aA)) k_ ∧ some k_ ≠ (u6 : Value).ownBlock)) (aC.out) (fun k_ hk => ⟨⟨hk.1, hk.2.2⟩, hk.2.1⟩))).2.1 (Kd.V_F (Kd.V_mono (ok' := (fun k_ => ((fun k_ => ((aJ k_ ∨ aG k_ ∨ aE k_) ∨ w.heap.size ≤ k_) ∧ k_ ≠ aA)) k_ ∧ some k_ ≠ (u6 : Value).ownBlock)) (aC.out) (fun k_ hk => ⟨⟨hk.1, hk.2.2⟩, hk.2.1⟩))) (Kd.V_reads' (Kd.V_mono (ok' := (fun k_ => ((fun k_ => ((aJ k_ ∨ aG k_ ∨ aE k_) ∨ w.heap.size ≤ k_) ∧ k_ ≠ aA)) k_ ∧ some k_ ≠ (u6 : Value).ownBlock)) (aD.out) (fun k_ hk => ⟨⟨hk.1, hk.2.2⟩, hk.2.1⟩))).2.1 (Kd.V_F (Kd.V_mono (ok' := (fun k_ => ((fun k_ => ((aJ k_ ∨ aG k_ ∨ aE k_) ∨ w.heap.size ≤ k_) ∧ k_ ≠ aA)) k_ ∧ some k_ ≠ (u6 : Value).ownBlock)) (aD.out) (fun k_ hk => ⟨⟨hk.1, hk.2.2⟩, hk.2.1⟩))))); (case aB => exact hb_); (case aF => exact (fun k_ hk => ⟨(.inr (Nat.le_trans (y0j hb_) hk)), Kd.freshB (bk_ aH.out) k_ hk⟩)); (case aO => exact (nk_ aN.out)); (case aS => exact (y0j hb_)); (case aL => have := cF.out; omega); intro dA hX ho hb hg hat; rw [← bY.out] at ho; replace aM := q_ (Kd.V_afterv (ok := (fun k_ => ((aJ k_ ∨ aG k_ ∨ aE k_) ∨ w.heap.size ≤ k_) ∧ k_ ≠ aA)) (vm_ aM.out (fun _ hk => ⟨⟨hk.1, hk.2.2⟩, hk.2.1⟩)) hg hat); replace aC := q_ (Kd.V_afterv (ok := (fun k_ => ((aJ k_ ∨ aG k_ ∨ aE k_) ∨ w.heap.size ≤ k_) ∧ k_ ≠ aA)) (vm_ aC.out (fun _ hk => ⟨⟨hk.1, hk.2.2⟩, hk.2.1⟩)) hg hat); replace aD := q_ (Kd.V_afterv (ok := (fun k_ => ((aJ k_ ∨ aG k_ ∨ aE k_) ∨ w.heap.size ≤ k_) ∧ k_ ≠ aA)) (vm_ aD.out (fun _ hk => ⟨⟨hk.1, hk.2.2⟩, hk.2.1⟩)) hg hat); replace aH := q_ (y0r (bk_ aH.out) hg (Kd.N_away aN.out (fun _ hk => hk.2))); replace HB := q_ (hb); have aK := q_ (ho); clear aN; clear ho hb hg hat; obtain ⟨e8, eT, dS⟩ := Kd.N_slice aK.out; subst dS) | (go_at_call 35; (with_reducible refine (zqq.calls k1 _ _ bZ bR _ ?side1 ?side2 eF.out).mono ?_); (case side1 => exact ck_ (Kd.N_reads' aK.out).2.2); (case side2 => exact (Kd.N_reads' aK.out).2.1); rintro e hZ ⟨rfl, hb⟩; replace aM := q_ (Kd.V_below (vk_ aM.out) hb); replace aC := q_ (Kd.V_below (vk_ aC.out) hb); replace aD := q_ (Kd.V_below (vk_ aD.out) hb); replace aK := q_ (Kd.N_below (nk_ aK.out) hb); replace aH := q_ (y0n (bk_ aH.out) hb); replace HB := q_ (y0k hb_ hb)))
    repeat (go_quiet (first | ((with_reducible refine y22 (b := .append) (xs := #[.tmp 41, .tmp 43]) rfl ?_); at_builtin; refine Kd.N_append k25 (w0 := w) w.heap.size rfl (.tmp 41) (.tmp 43) 46 25 (.agg #[(.string ⟨#[]⟩), (.string ⟨#[]⟩), (.string ⟨#[]⟩), (.int .i64 0), (.slice none 0 0), (.slice none 0 0)]) 104 rfl Try.underlying46 info25 rfl (by decide) (by omega) u6 a9 (⟨aX, a0, aZ, aY, aT, aU⟩ : S25) [.string aX, .string a0, .string aZ, .int .i64 aY, .slice bP aT.length bO, .slice bQ aU.length bN] (fun k_ => ((aJ k_ ∨ aG k_ ∨ aE k_) ∨ w.heap.size ≤ k_) ∧ k_ ≠ aA) (fun k_ => ((fun k_ => ((aJ k_ ∨ aG k_ ∨ aE k_) ∨ w.heap.size ≤ k_) ∧ k_ ≠ aA)) k_ ∧ some k_ ≠ (u6 : Value).ownBlock) rfl rfl ?aP (fun _ hk => hk) ?aF ?aO ?aB ?aS ?aL ?_; (case aP => exact (y2s _ _ (⟨aX, a0, aZ, aY, aT, aU⟩ : S25) (Kd.V_reads' (Kd.V_mono (ok' := (fun k_ => ((fun k_ => ((aJ k_ ∨ aG k_ ∨ aE k_) ∨ w.heap.size ≤ k_) ∧ k_ ≠ aA)) k_ ∧ some k_ ≠ (u6 : Value).ownBlock)) (aC.out) (fun k_ hk => ⟨⟨hk.1, hk.2.2⟩, hk.2.1⟩))).2.1 (Kd.V_F (Kd.V_mono (ok' := (fun k_ => ((fun k_ => ((aJ k_ ∨ aG k_ ∨ aE k_) ∨ w.heap.size ≤ k_) ∧ k_ ≠ aA)) k_ ∧ some k_ ≠ (u6 : Value).ownBlock)) (aC.out) (fun k_ hk => ⟨⟨hk.1, hk.2.2⟩, hk.2.1⟩))) (Kd.V_reads' (Kd.V_mono (ok' := (fun k_ => ((fun k_ => ((aJ k_ ∨ aG k_ ∨ aE k_) ∨ w.heap.size ≤ k_) ∧ k_ ≠ aA)) k_ ∧ some k_ ≠ (u6 : Value).ownBlock)) (aD.out) (fun k_ hk => ⟨⟨hk.1, hk.2.2⟩, hk.2.1⟩))).2.1 (Kd.V_F (Kd.V_mono (ok' := (fun k_ => ((fun k_ => ((aJ k_ ∨ aG k_ ∨ aE k_) ∨ w.heap.size ≤ k_) ∧ k_ ≠ aA)) k_ ∧ some k_ ≠ (u6 : Value).ownBlock)) (aD.out) (fun k_ hk => ⟨⟨hk.1, hk.2.2⟩, hk.2.1⟩))))); (case aB => exact hb_); (case aF => exact (fun k_ hk => ⟨(.inr (Nat.le_trans (y0j hb_) hk)), Kd.freshB (bk_ aH.out) k_ hk⟩)); (case aO => exact (nk_ aN.out)); (case aS => exact (y0j hb_)); (case aL => have := cF.out; omega); intro dA hX ho hb hg hat; rw [← bY.out] at ho; replace aM := q_ (Kd.V_afterv (ok := (fun k_ => ((aJ k_ ∨ aG k_ ∨ aE k_) ∨ w.heap.size ≤ k_) ∧ k_ ≠ aA)) (vm_ aM.out (fun _ hk => ⟨⟨hk.1, hk.2.2⟩, hk.2.1⟩)) hg hat); replace aC := q_ (Kd.V_afterv (ok := (fun k_ => ((aJ k_ ∨ aG k_ ∨ aE k_) ∨ w.heap.size ≤ k_) ∧ k_ ≠ aA)) (vm_ aC.out (fun _ hk => ⟨⟨hk.1, hk.2.2⟩, hk.2.1⟩)) hg hat); replace aD := q_ (Kd.V_afterv (ok := (fun k_ => ((aJ k_ ∨ aG k_ ∨ aE k_) ∨ w.heap.size ≤ k_) ∧ k_ ≠ aA)) (vm_ aD.out (fun _ hk => ⟨⟨hk.1, hk.2.2⟩, hk.2.1⟩)) hg hat); replace aH := q_ (y0r (bk_ aH.out) hg (Kd.N_away aN.out (fun _ hk => hk.2))); replace HB := q_ (hb); have aK := q_ (ho); clear aN; clear ho hb hg hat; obtain ⟨e8, eT, dS⟩ := Kd.N_slice aK.out; subst dS) | (go_at_call 35; (with_reducible refine (zqq.calls k1 _ _ bZ bR _ ?side1 ?side2 eF.out).mono ?_); (case side1 => exact ck_ (Kd.N_reads' aK.out).2.2); (case side2 => exact (Kd.N_reads' aK.out).2.1); rintro e hZ ⟨rfl, hb⟩; replace aM := q_ (Kd.V_below (vk_ aM.out) hb); replace aC := q_ (Kd.V_below (vk_ aC.out) hb); replace aD := q_ (Kd.V_below (vk_ aD.out) hb); replace aK := q_ (Kd.N_below (nk_ aK.out) hb); replace aH := q_ (y0n (bk_ aH.out) hb); replace HB := q_ (y0k hb_ hb))); try go_wp2_with (first | ((with_reducible refine y22 (b := .append) (xs := #[.tmp 41, .tmp 43]) rfl ?_); at_builtin; refine Kd.N_append k25 (w0 := w) w.heap.size rfl (.tmp 41) (.tmp 43) 46 25 (.agg #[(.string ⟨#[]⟩), (.string ⟨#[]⟩), (.string ⟨#[]⟩), (.int .i64 0), (.slice none 0 0), (.slice none 0 0)]) 104 rfl Try.underlying46 info25 rfl (by decide) (by omega) u6 a9 (⟨aX, a0, aZ, aY, aT, aU⟩ : S25) [.string aX, .string a0, .string aZ, .int .i64 aY, .slice bP aT.length bO, .slice bQ aU.length bN] (fun k_ => ((aJ k_ ∨ aG k_ ∨ aE k_) ∨ w.heap.size ≤ k_) ∧ k_ ≠ aA) (fun k_ => ((fun k_ => ((aJ k_ ∨ aG k_ ∨ aE k_) ∨ w.heap.size ≤ k_) ∧ k_ ≠ aA)) k_ ∧ some k_ ≠ (u6 : Value).ownBlock) rfl rfl ?aP (fun _ hk => hk) ?aF ?aO ?aB ?aS ?aL ?_; (case aP => exact (y2s _ _ (⟨aX, a0, aZ, aY, aT, aU⟩ : S25) (Kd.V_reads' (Kd.V_mono (ok' := (fun k_ => ((fun k_ => ((aJ k_ ∨ aG k_ ∨ aE k_) ∨ w.heap.size ≤ k_) ∧ k_ ≠ aA)) k_ ∧ some k_ ≠ (u6 : Value).ownBlock)) (aC.out) (fun k_ hk => ⟨⟨hk.1, hk.2.2⟩, hk.2.1⟩))).2.1 (Kd.V_F (Kd.V_mono (ok' := (fun k_ => ((fun k_ => ((aJ k_ ∨ aG k_ ∨ aE k_) ∨ w.heap.size ≤ k_) ∧ k_ ≠ aA)) k_ ∧ some k_ ≠ (u6 : Value).ownBlock)) (aC.out) (fun k_ hk => ⟨⟨hk.1, hk.2.2⟩, hk.2.1⟩))) (Kd.V_reads' (Kd.V_mono (ok' := (fun k_ => ((fun k_ => ((aJ k_ ∨ aG k_ ∨ aE k_) ∨ w.heap.size ≤ k_) ∧ k_ ≠ aA)) k_ ∧ some k_ ≠ (u6 : Value).ownBlock)) (aD.out) (fun k_ hk => ⟨⟨hk.1, hk.2.2⟩, hk.2.1⟩))).2.1 (Kd.V_F (Kd.V_mono (ok' := (fun k_ => ((fun k_ => ((aJ k_ ∨ aG k_ ∨ aE k_) ∨ w.heap.size ≤ k_) ∧ k_ ≠ aA)) k_ ∧ some k_ ≠ (u6 : Value).ownBlock)) (aD.out) (fun k_ hk => ⟨⟨hk.1, hk.2.2⟩, hk.2.1⟩))))); (case aB => exact hb_); (case aF => exact (fun k_ hk => ⟨(.inr (Nat.le_trans (y0j hb_) hk)), Kd.freshB (bk_ aH.out) k_ hk⟩)); (case aO => exact (nk_ aN.out)); (case aS => exact (y0j hb_)); (case aL => have := cF.out; omega); intro dA hX ho hb hg hat; rw [← bY.out] at ho; replace aM := q_ (Kd.V_afterv (ok := (fun k_ => ((aJ k_ ∨ aG k_ ∨ aE k_) ∨ w.heap.size ≤ k_) ∧ k_ ≠ aA)) (vm_ aM.out (fun _ hk => ⟨⟨hk.1, hk.2.2⟩, hk.2.1⟩)) hg hat); replace aC := q_ (Kd.V_afterv (ok := (fun k_ => ((aJ k_ ∨ aG k_ ∨ aE k_) ∨ w.heap.size ≤ k_) ∧ k_ ≠ aA)) (vm_ aC.out (fun _ hk => ⟨⟨hk.1, hk.2.2⟩, hk.2.1⟩)) hg hat); replace aD := q_ (Kd.V_afterv (ok := (fun k_ => ((aJ k_ ∨ aG k_ ∨ aE k_) ∨ w.heap.size ≤ k_) ∧ k_ ≠ aA)) (vm_ aD.out (fun _ hk => ⟨⟨hk.1, hk.2.2⟩, hk.2.1⟩)) hg hat); replace aH := q_ (y0r (bk_ aH.out) hg (Kd.N_away aN.out (fun _ hk => hk.2))); replace HB := q_ (hb); have aK := q_ (ho); clear aN; clear ho hb hg hat; obtain ⟨e8, eT, dS⟩ := Kd.N_slice aK.out; subst dS) | (go_at_call 35; (with_reducible refine (zqq.calls k1 _ _ bZ bR _ ?side1 ?side2 eF.out).mono ?_); (case side1 => exact ck_ (Kd.N_reads' aK.out).2.2); (case side2 => exact (Kd.N_reads' aK.out).2.1); rintro e hZ ⟨rfl, hb⟩; replace aM := q_ (Kd.V_below (vk_ aM.out) hb); replace aC := q_ (Kd.V_below (vk_ aC.out) hb); replace aD := q_ (Kd.V_below (vk_ aD.out) hb); replace aK := q_ (Kd.N_below (nk_ aK.out) hb); replace aH := q_ (y0n (bk_ aH.out) hb); replace HB := q_ (y0k hb_ hb))))
    go_ret2
    exact ⟨_, ew_, by first | exact Kd.S_nil _ _ _ _ _ | exact Kd.N_nil _ _ _ _ _ | exact Kd.V_nil _ _ _ _ _ | exact Kd.Q_nil _ _ _ _ _ | exact Kd.R_nil _ _ _ _ _, hb_⟩
   rw [if_pos d8] at H
   have e0 := et_ d8
   have fA := nf_ d8
   clear d8
   simp only [Option.some.injEq, Prod.mk.injEq] at H
   obtain ⟨rfl, rfl⟩ := H
   obtain ⟨g5, fY, g7, gJ, gS, fJ, gT, gP, fK, fP, g0, f7⟩ := b6_ aH.out
   go_wp2_with (first | ((with_reducible refine y22 (b := .append) (xs := #[.tmp 41, .tmp 43]) rfl ?_); at_builtin; refine Kd.N_append k25 (w0 := w) w.heap.size rfl (.tmp 41) (.tmp 43) 46 25 (.agg #[(.string ⟨#[]⟩), (.string ⟨#[]⟩), (.string ⟨#[]⟩), (.int .i64 0), (.slice none 0 0), (.slice none 0 0)]) 104 rfl Try.underlying46 info25 rfl (by decide) (by omega) u6 a9 (⟨aX, a0, aZ, aY, aT, aU⟩ : S25) [.string aX, .string a0, .string aZ, .int .i64 aY, .slice bP aT.length bO, .slice bQ aU.length bN] (fun k_ => ((aJ k_ ∨ aG k_ ∨ aE k_) ∨ w.heap.size ≤ k_) ∧ k_ ≠ aA) (fun k_ => ((fun k_ => ((aJ k_ ∨ aG k_ ∨ aE k_) ∨ w.heap.size ≤ k_) ∧ k_ ≠ aA)) k_ ∧ some k_ ≠ (u6 : Value).ownBlock) rfl rfl ?aP (fun _ hk => hk) ?aF ?aO ?aB ?aS ?aL ?_; (case aP => exact (y2s _ _ (⟨aX, a0, aZ, aY, aT, aU⟩ : S25) (Kd.V_reads' (Kd.V_mono (ok' := (fun k_ => ((fun k_ => ((aJ k_ ∨ aG k_ ∨ aE k_) ∨ w.heap.size ≤ k_) ∧ k_ ≠ aA)) k_ ∧ some k_ ≠ (u6 : Value).ownBlock)) (aC.out) (fun k_ hk => ⟨⟨hk.1, hk.2.2⟩, hk.2.1⟩))).2.1 (Kd.V_F (Kd.V_mono (ok' := (fun k_ => ((fun k_ => ((aJ k_ ∨ aG k_ ∨ aE k_) ∨ w.heap.size ≤ k_) ∧ k_ ≠ aA)) k_ ∧ some k_ ≠ (u6 : Value).ownBlock)) (aC.out) (fun k_ hk => ⟨⟨hk.1, hk.2.2⟩, hk.2.1⟩))) (Kd.V_reads' (Kd.V_mono (ok' := (fun k_ => ((fun k_ => ((aJ k_ ∨ aG k_ ∨ aE k_) ∨ w.heap.size ≤ k_) ∧ k_ ≠ aA)) k_ ∧ some k_ ≠ (u6 : Value).ownBlock)) (aD.out) (fun k_ hk => ⟨⟨hk.1, hk.2.2⟩, hk.2.1⟩))).2.1 (Kd.V_F (Kd.V_mono (ok' := (fun k_ => ((fun k_ => ((aJ k_ ∨ aG k_ ∨ aE k_) ∨ w.heap.size ≤ k_) ∧ k_ ≠ aA)) k_ ∧ some k_ ≠ (u6 : Value).ownBlock)) (aD.out) (fun k_ hk => ⟨⟨hk.1, hk.2.2⟩, hk.2.1⟩))))); (case aB => exact hb_); (case aF => exact (fun k_ hk => ⟨(.inr (Nat.le_trans (y0j hb_) hk)), Kd.freshB (bk_ aH.out) k_ hk⟩)); (case aO => exact (nk_ aN.out)); (case aS => exact (y0j hb_)); (case aL => have := cF.out; omega); intro dA hV ho hb hg hat; rw [← bY.out] at ho; replace aM := q_ (Kd.V_afterv (ok := (fun k_ => ((aJ k_ ∨ aG k_ ∨ aE k_) ∨ w.heap.size ≤ k_) ∧ k_ ≠ aA)) (vm_ aM.out (fun _ hk => ⟨⟨hk.1, hk.2.2⟩, hk.2.1⟩)) hg hat); replace aC := q_ (Kd.V_afterv (ok := (fun k_ => ((aJ k_ ∨ aG k_ ∨ aE k_) ∨ w.heap.size ≤ k_) ∧ k_ ≠ aA)) (vm_ aC.out (fun _ hk => ⟨⟨hk.1, hk.2.2⟩, hk.2.1⟩)) hg hat); replace aD := q_ (Kd.V_afterv (ok := (fun k_ => ((aJ k_ ∨ aG k_ ∨ aE k_) ∨ w.heap.size ≤ k_) ∧ k_ ≠ aA)) (vm_ aD.out (fun _ hk => ⟨⟨hk.1, hk.2.2⟩, hk.2.1⟩)) hg hat); replace aH := q_ (y0r (bk_ aH.out) hg (Kd.N_away aN.out (fun _ hk => hk.2))); replace HB := q_ (hb); have aK := q_ (ho); clear aN; clear ho hb hg hat; obtain ⟨e9, eG, dX⟩ := Kd.N_slice aK.out; subst dX) | (go_at_call 35; (with_reducible refine (zqq.calls k1 _ _ bZ bR _ ?side1 ?side2 eF.out).mono ?_); (case side1 => exact ck_ (Kd.N_reads' aK.out).2.2); (case side2 => exact (Kd.N_reads' aK.out).2.1); rintro e hY ⟨rfl, hb⟩; replace aM := q_ (Kd.V_below (vk_ aM.out) hb); replace aC := q_ (Kd.V_below (vk_ aC.out) hb); replace aD := q_ (Kd.V_below (vk_ aD.out) hb); replace aK := q_ (Kd.N_below (nk_ aK.out) hb); replace aH := q_ (y0n (bk_ aH.out) hb); replace HB := q_ (y0k hb_ hb)))
   repeat (go_quiet (first | ((with_reducible refine y22 (b := .append) (xs := #[.tmp 41, .tmp 43]) rfl ?_); at_builtin; refine Kd.N_append k25 (w0 := w) w.heap.size rfl (.tmp 41) (.tmp 43) 46 25 (.agg #[(.string ⟨#[]⟩), (.string ⟨#[]⟩), (.string ⟨#[]⟩), (.int .i64 0), (.slice none 0 0), (.slice none 0 0)]) 104 rfl Try.underlying46 info25 rfl (by decide) (by omega) u6 a9 (⟨aX, a0, aZ, aY, aT, aU⟩ : S25) [.string aX, .string a0, .string aZ, .int .i64 aY, .slice bP aT.length bO, .slice bQ aU.length bN] (fun k_ => ((aJ k_ ∨ aG k_ ∨ aE k_) ∨ w.heap.size ≤ k_) ∧ k_ ≠ aA) (fun k_ => ((fun k_ => ((aJ k_ ∨ aG k_ ∨ aE k_) ∨ w.heap.size ≤ k_) ∧ k_ ≠ aA)) k_ ∧ some k_ ≠ (u6 : Value).ownBlock) rfl rfl ?aP (fun _ hk => hk) ?aF ?aO ?aB ?aS ?aL ?_; (case aP => exact (y2s _ _ (⟨aX, a0, aZ, aY, aT, aU⟩ : S25) (Kd.V_reads' (Kd.V_mono (ok' := (fun k_ => ((fun k_ => ((aJ k_ ∨ aG k_ ∨ aE k_) ∨ w.heap.size ≤ k_) ∧ k_ ≠ aA)) k_ ∧ some k_ ≠ (u6 : Value).ownBlock)) (aC.out) (fun k_ hk => ⟨⟨hk.1, hk.2.2⟩, hk.2.1⟩))).2.1 (Kd.V_F (Kd.V_mono (ok' := (fun k_ => ((fun k_ => ((aJ k_ ∨ aG k_ ∨ aE k_) ∨ w.heap.size ≤ k_) ∧ k_ ≠ aA)) k_ ∧ some k_ ≠ (u6 : Value).ownBlock)) (aC.out) (fun k_ hk => ⟨⟨hk.1, hk.2.2⟩, hk.2.1⟩))) (Kd.V_reads' (Kd.V_mono (ok' := (fun k_ => ((fun k_ => ((aJ k_ ∨ aG k_ ∨ aE k_) ∨ w.heap.size ≤ k_) ∧ k_ ≠ aA)) k_ ∧ some k_ ≠ (u6 : Value).ownBlock)) (aD.out) (fun k_ hk => ⟨⟨hk.1, hk.2.2⟩, hk.2.1⟩))).2.1 (Kd.V_F (Kd.V_mono (ok' := (fun k_ => ((fun k_ => ((aJ k_ ∨ aG k_ ∨ aE k_) ∨ w.heap.size ≤ k_) ∧ k_ ≠ aA)) k_ ∧ some k_ ≠ (u6 : Value).ownBlock)) (aD.out) (fun k_ hk => ⟨⟨hk.1, hk.2.2⟩, hk.2.1⟩))))); (case aB => exact hb_); (case aF => exact (fun k_ hk => ⟨(.inr (Nat.le_trans (y0j hb_) hk)), Kd.freshB (bk_ aH.out) k_ hk⟩)); (case aO => exact (nk_ aN.out)); (case aS => exact (y0j hb_)); (case aL => have := cF.out; omega); intro dA hV ho hb hg hat; rw [← bY.out] at ho; replace aM := q_ (Kd.V_afterv (ok := (fun k_ => ((aJ k_ ∨ aG k_ ∨ aE k_) ∨ w.heap.size ≤ k_) ∧ k_ ≠ aA)) (vm_ aM.out (fun _ hk => ⟨⟨hk.1, hk.2.2⟩, hk.2.1⟩)) hg hat); replace aC := q_ (Kd.V_afterv (ok := (fun k_ => ((aJ k_ ∨ aG k_ ∨ aE k_) ∨ w.heap.size ≤ k_) ∧ k_ ≠ aA)) (vm_ aC.out (fun _ hk => ⟨⟨hk.1, hk.2.2⟩, hk.2.1⟩)) hg hat); replace aD := q_ (Kd.V_afterv (ok := (fun k_ => ((aJ k_ ∨ aG k_ ∨ aE k_) ∨ w.heap.size ≤ k_) ∧ k_ ≠ aA)) (vm_ aD.out (fun _ hk => ⟨⟨hk.1, hk.2.2⟩, hk.2.1⟩)) hg hat); replace aH := q_ (y0r (bk_ aH.out) hg (Kd.N_away aN.out (fun _ hk => hk.2))); replace HB := q_ (hb); have aK := q_ (ho); clear aN; clear ho hb hg hat; obtain ⟨e9, eG, dX⟩ := Kd.N_slice aK.out; subst dX) | (go_at_call 35; (with_reducible refine (zqq.calls k1 _ _ bZ bR _ ?side1 ?side2 eF.out).mono ?_); (case side1 => exact ck_ (Kd.N_reads' aK.out).2.2); (case side2 => exact (Kd.N_reads' aK.out).2.1); rintro e hY ⟨rfl, hb⟩; replace aM := q_ (Kd.V_below (vk_ aM.out) hb); replace aC := q_ (Kd.V_below (vk_ aC.out) hb); replace aD := q_ (Kd.V_below (vk_ aD.out) hb); replace aK := q_ (Kd.N_below (nk_ aK.out) hb); replace aH := q_ (y0n (bk_ aH.out) hb); replace HB := q_ (y0k hb_ hb))); try go_wp2_with (first | ((with_reducible refine y22 (b := .append) (xs := #[.tmp 41, .tmp 43]) rfl ?_); at_builtin; refine Kd.N_append k25 (w0 := w) w.heap.size rfl (.tmp 41) (.tmp 43) 46 25 (.agg #[(.string ⟨#[]⟩), (.string ⟨#[]⟩), (.string ⟨#[]⟩), (.int .i64 0), (.slice none 0 0), (.slice none 0 0)]) 104 rfl Try.underlying46 info25 rfl (by decide) (by omega) u6 a9 (⟨aX, a0, aZ, aY, aT, aU⟩ : S25) [.string aX, .string a0, .string aZ, .int .i64 aY, .slice bP aT.length bO, .slice bQ aU.length bN] (fun k_ => ((aJ k_ ∨ aG k_ ∨ aE k_) ∨ w.heap.size ≤ k_) ∧ k_ ≠ aA) (fun k_ => ((fun k_ => ((aJ k_ ∨ aG k_ ∨ aE k_) ∨ w.heap.size ≤ k_) ∧ k_ ≠ aA)) k_ ∧ some k_ ≠ (u6 : Value).ownBlock) rfl rfl ?aP (fun _ hk => hk) ?aF ?aO ?aB ?aS ?aL ?_; (case aP => exact (y2s _ _ (⟨aX, a0, aZ, aY, aT, aU⟩ : S25) (Kd.V_reads' (Kd.V_mono (ok' := (fun k_ => ((fun k_ => ((aJ k_ ∨ aG k_ ∨ aE k_) ∨ w.heap.size ≤ k_) ∧ k_ ≠ aA)) k_ ∧ some k_ ≠ (u6 : Value).ownBlock)) (aC.out) (fun k_ hk => ⟨⟨hk.1, hk.2.2⟩, hk.2.1⟩))).2.1 (Kd.V_F (Kd.V_mono (ok' := (fun k_ => ((fun k_ => ((aJ k_ ∨ aG k_ ∨ aE k_) ∨ w.heap.size ≤ k_) ∧ k_ ≠ aA)) k_ ∧ some k_ ≠ (u6 : Value).ownBlock)) (aC.out) (fun k_ hk => ⟨⟨hk.1, hk.2.2⟩, hk.2.1⟩))) (Kd.V_reads' (Kd.V_mono (ok' := (fun k_ => ((fun k_ => ((aJ k_ ∨ aG k_ ∨ aE k_) ∨ w.heap.size ≤ k_) ∧ k_ ≠ aA)) k_ ∧ some k_ ≠ (u6 : Value).ownBlock)) (aD.out) (fun k_ hk => ⟨⟨hk.1, hk.2.2⟩, hk.2.1⟩))).2.1 (Kd.V_F (Kd.V_mono (ok' := (fun k_ => ((fun k_ => ((aJ k_ ∨ aG k_ ∨ aE k_) ∨ w.heap.size ≤ k_) ∧ k_ ≠ aA)) k_ ∧ some k_ ≠ (u6 : Value).ownBlock)) (aD.out) (fun k_ hk => ⟨⟨hk.1, hk.2.2⟩, hk.2.1⟩))))); (case aB => exact hb_); (case aF => exact (fun k_ hk => ⟨(.inr (Nat.le_trans (y0j hb_) hk)), Kd.freshB (bk_ aH.out) k_ hk⟩)); (case aO => exact (nk_ aN.out)); (case aS => exact (y0j hb_)); (case aL => have := cF.out; omega); intro dA hV ho hb hg hat; rw [← bY.out] at ho; replace aM := q_ (Kd.V_afterv (ok := (fun k_ => ((aJ k_ ∨ aG k_ ∨ aE k_) ∨ w.heap.size ≤ k_) ∧ k_ ≠ aA)) (vm_ aM.out (fun _ hk => ⟨⟨hk.1, hk.2.2⟩, hk.2.1⟩)) hg hat); replace aC := q_ (Kd.V_afterv (ok := (fun k_ => ((aJ k_ ∨ aG k_ ∨ aE k_) ∨ w.heap.size ≤ k_) ∧ k_ ≠ aA)) (vm_ aC.out (fun _ hk => ⟨⟨hk.1, hk.2.2⟩, hk.2.1⟩)) hg hat); replace aD := q_ (Kd.V_afterv (ok := (fun k_ => ((aJ k_ ∨ aG k_ ∨ aE k_) ∨ w.heap.size ≤ k_) ∧ k_ ≠ aA)) (vm_ aD.out (fun _ hk => ⟨⟨hk.1, hk.2.2⟩, hk.2.1⟩)) hg hat); replace aH := q_ (y0r (bk_ aH.out) hg (Kd.N_away aN.out (fun _ hk => hk.2))); replace HB := q_ (hb); have aK := q_ (ho); clear aN; clear ho hb hg hat; obtain ⟨e9, eG, dX⟩ := Kd.N_slice aK.out; subst dX) | (go_at_call 35; (with_reducible refine (zqq.calls k1 _ _ bZ bR _ ?side1 ?side2 eF.out).mono ?_); (case side1 => exact ck_ (Kd.N_reads' aK.out).2.2); (case side2 => exact (Kd.N_reads' aK.out).2.1); rintro e hY ⟨rfl, hb⟩; replace aM := q_ (Kd.V_below (vk_ aM.out) hb); replace aC := q_ (Kd.V_below (vk_ aC.out) hb); replace aD := q_ (Kd.V_below (vk_ aD.out) hb); replace aK := q_ (Kd.N_below (nk_ aK.out) hb); replace aH := q_ (y0n (bk_ aH.out) hb); replace HB := q_ (y0k hb_ hb))))
   go_ret2
   exact ⟨_, ew_, by (with_reducible repeat (first | apply Kd.N_alloc | apply Kd.N_drewN | apply Kd.N_drew)); exact Kd.N_mono aK.out (fun _ hk => hk.1), hb_⟩
  rw [if_pos c4] at H
  have hB := dt_ c4
  clear c4
  by_cases c5 : 0 ≤ aI
  rotate_left
  ·rw [if_neg c5] at H
   exact absurd H (by simp)
  rw [if_pos c5] at H
  have h4 := dt_ c5
  clear c5
  by_cases c6 : ((y49 l0 aI).f0).toList = aX.toList
  rotate_left
  ·rw [if_neg c6] at H
   have hC := ef_ c6
   have hF := nt_ c6
   by_cases gQ : a9.length < 1353245080339
   rotate_left
   ·rw [if_neg gQ] at H
    exact absurd H (by simp)
   rw [if_pos gQ] at H
   have dV := q_ gQ
   clear gQ
   obtain ⟨d6, b4⟩ : ∃ y_ : List (S25), y_ = (a9 ++ [(⟨(y49 l0 aI).f0, (y49 l0 aI).f1, (y49 l0 aI).f2, (y49 l0 aI).f3, (y49 l0 aI).f4, (y49 l0 aI).f5⟩ : S25)]) := ⟨_, rfl⟩
   replace H : (zqc.l0 k1 l0 d6 dM (wrap64 (aI + 1)) aX a0 aZ aY aT aU) = some (r1, r2) := by first | (rw [b4]; with_reducible exact H) | (have dG := (Option.bind_some _ _).symm.trans H; rw [b4]; with_reducible exact dG) | (have dG := (Option.bind_some _ _).symm.trans H; with_reducible exact dG) | with_reducible exact H | (rw [b4]; exact H) | exact H
   have dF := q_ b4
   clear b4
   have H' := q_ H
   clear H
   have bJ : 0 ≤ (aI : Int) := oa_
   have bM : aI < (l0.length : Int) := oa_
   obtain ⟨cH, bL, bH, bI, bK, dD, c9, cL, c3, c1, bF, bG, bD, bE, bB, bC⟩ := y0c (Kd.V_reads' aM.out).2.2 aI bJ bM
   cases dD
   obtain ⟨dU, bU, bX, bA⟩ := Kd.V_get aM.out z25 aI bJ (by first | exact bM | exact oa_ | (have e_ := (Kd.V_reads' aM.out).1; omega))
   obtain ⟨cR, c2, cX, cM, rfl, a5, a6, a7, a8⟩ := y2u bX
   have aV := bA 4 _ rfl
   rw [y09 _ _ 4 (by omega)] at aV
   replace aV := Option.some.inj (aV.symm.trans bF)
   injection aV with hva_ hvn_ hvc_
   rw [hva_] at a6
   rw [hvc_] at a5
   have aR := q_ (show Kd.V k62 62 _ w.heap.size _ _ ((y49 l0 aI).f4) from Kd.V_mk a5 a6)
   clear hva_ hvn_ hvc_ a6 a5
   have aW := bA 5 _ rfl
   rw [y09 _ _ 5 (by omega)] at aW
   replace aW := Option.some.inj (aW.symm.trans bG)
   injection aW with hva_ hvn_ hvc_
   rw [hva_] at a8
   rw [hvc_] at a7
   have aQ := q_ (show Kd.V k43 43 _ w.heap.size _ _ ((y49 l0 aI).f5) from Kd.V_mk a7 a8)
   clear hva_ hvn_ hvc_ a8 a7 bA bU
   have dC := q_ bE
   have cJ := q_ bD
   clear bE bD
   have cK := q_ bC
   have cN := q_ bB
   clear bC bB
   replace bJ := eq_true bJ
   replace bM := eq_true bM
   obtain ⟨gE, gR, gU, g8, gK, gM, g9, fZ, fL, fH, f6, gZ⟩ := b6_ aH.out
   have dN : 0 ≤ (aI : Int) := oa_
   have dO : aI < (l0.length : Int) := oa_
   obtain ⟨eD, fV, fR, gY, gX, fD, e4, fF, eP, eR, cY, cQ, cO, cU, cT, cW⟩ := y0c (Kd.V_reads' aM.out).2.2 aI dN dO
   obtain rfl : cH = eD := (by injection fD)
   obtain ⟨hA, d1, dZ, cG⟩ := Kd.V_get aM.out z25 aI dN (by first | exact dO | exact oa_ | (have e_ := (Kd.V_reads' aM.out).1; omega))
   obtain ⟨eL, eK, eV, eU, rfl, b5, cC, cE, b3⟩ := y2u dZ
   have bV := cG 4 _ rfl
   rw [y09 _ _ 4 (by omega)] at bV
   replace bV := Option.some.inj (bV.symm.trans cY)
   injection bV with hva_ hvn_ hvc_
   rw [hva_] at cC
   rw [hvc_] at b5
   have a4 := q_ (show Kd.V k62 62 _ w.heap.size _ _ ((y49 l0 aI).f4) from Kd.V_mk b5 cC)
   clear hva_ hvn_ hvc_ cC b5
   have bS := cG 5 _ rfl
   rw [y09 _ _ 5 (by omega)] at bS
   replace bS := Option.some.inj (bS.symm.trans cQ)
   injection bS with hva_ hvn_ hvc_
   rw [hva_] at b3
   rw [hvc_] at cE
   have a1 := q_ (show Kd.V k43 43 _ w.heap.size _ _ ((y49 l0 aI).f5) from Kd.V_mk cE b3)
   clear hva_ hvn_ hvc_ b3 cE cG d1
   have eJ := q_ cU
   have eI := q_ cO
   clear cU cO
   have eX := q_ cW
   have fE := q_ cT
   clear cW cT
   replace dN := eq_true dN
   replace dO := eq_true dO
   have ea_ := Option.some.inj (bF.symm.trans cY)
   injection ea_ with ea_ en_ ec_
   subst ea_
   subst ec_
   clear en_
   have ea_ := Option.some.inj (bG.symm.trans cQ)
   injection ea_ with ea_ en_ ec_
   subst ea_
   subst ec_
   clear en_
   go_wp2_with (first | ((with_reducible refine y22 (b := .append) (xs := #[.tmp 32, .tmp 37]) rfl ?_); at_builtin; refine Kd.N_append k25 (w0 := w) w.heap.size rfl (.tmp 32) (.tmp 37) 46 25 (.agg #[(.string ⟨#[]⟩), (.string ⟨#[]⟩), (.string ⟨#[]⟩), (.int .i64 0), (.slice none 0 0), (.slice none 0 0)]) 104 rfl Try.underlying46 info25 rfl (by decide) (by omega) u6 a9 (⟨(y49 l0 aI).f0, (y49 l0 aI).f1, (y49 l0 aI).f2, (y49 l0 aI).f3, (y49 l0 aI).f4, (y49 l0 aI).f5⟩ : S25) [.string ((y49 l0 aI).f0), .string ((y49 l0 aI).f1), .string ((y49 l0 aI).f2), .int .i64 ((y49 l0 aI).f3), .slice bL ((y49 l0 aI).f4).length bH, .slice bI ((y49 l0 aI).f5).length bK] (fun k_ => ((aJ k_ ∨ aG k_ ∨ aE k_) ∨ w.heap.size ≤ k_) ∧ k_ ≠ aA) (fun k_ => ((fun k_ => ((aJ k_ ∨ aG k_ ∨ aE k_) ∨ w.heap.size ≤ k_) ∧ k_ ≠ aA)) k_ ∧ some k_ ≠ (u6 : Value).ownBlock) rfl rfl ?aP (fun _ hk => hk) ?aF ?aO ?aB ?aS ?aL ?_; (case aP => exact (y2s _ _ (⟨(y49 l0 aI).f0, (y49 l0 aI).f1, (y49 l0 aI).f2, (y49 l0 aI).f3, (y49 l0 aI).f4, (y49 l0 aI).f5⟩ : S25) (Kd.V_reads' (Kd.V_mono (ok' := (fun k_ => ((fun k_ => ((aJ k_ ∨ aG k_ ∨ aE k_) ∨ w.heap.size ≤ k_) ∧ k_ ≠ aA)) k_ ∧ some k_ ≠ (u6 : Value).ownBlock)) (a4.out) (fun k_ hk => ⟨⟨hk.1, hk.2.2⟩, hk.2.1⟩))).2.1 (Kd.V_F (Kd.V_mono (ok' := (fun k_ => ((fun k_ => ((aJ k_ ∨ aG k_ ∨ aE k_) ∨ w.heap.size ≤ k_) ∧ k_ ≠ aA)) k_ ∧ some k_ ≠ (u6 : Value).ownBlock)) (a4.out) (fun k_ hk => ⟨⟨hk.1, hk.2.2⟩, hk.2.1⟩))) (Kd.V_reads' (Kd.V_mono (ok' := (fun k_ => ((fun k_ => ((aJ k_ ∨ aG k_ ∨ aE k_) ∨ w.heap.size ≤ k_) ∧ k_ ≠ aA)) k_ ∧ some k_ ≠ (u6 : Value).ownBlock)) (a1.out) (fun k_ hk => ⟨⟨hk.1, hk.2.2⟩, hk.2.1⟩))).2.1 (Kd.V_F (Kd.V_mono (ok' := (fun k_ => ((fun k_ => ((aJ k_ ∨ aG k_ ∨ aE k_) ∨ w.heap.size ≤ k_) ∧ k_ ≠ aA)) k_ ∧ some k_ ≠ (u6 : Value).ownBlock)) (a1.out) (fun k_ hk => ⟨⟨hk.1, hk.2.2⟩, hk.2.1⟩))))); (case aB => exact hb_); (case aF => exact (fun k_ hk => ⟨(.inr (Nat.le_trans (y0j hb_) hk)), Kd.freshB (bk_ aH.out) k_ hk⟩)); (case aO => exact (nk_ aN.out)); (case aS => exact (y0j hb_)); (case aL => have := dV.out; omega); intro d5 hW ho hb hg hat; rw [← dF.out] at ho; replace aM := q_ (Kd.V_afterv (ok := (fun k_ => ((aJ k_ ∨ aG k_ ∨ aE k_) ∨ w.heap.size ≤ k_) ∧ k_ ≠ aA)) (vm_ aM.out (fun _ hk => ⟨⟨hk.1, hk.2.2⟩, hk.2.1⟩)) hg hat); replace aC := q_ (Kd.V_afterv (ok := (fun k_ => ((aJ k_ ∨ aG k_ ∨ aE k_) ∨ w.heap.size ≤ k_) ∧ k_ ≠ aA)) (vm_ aC.out (fun _ hk => ⟨⟨hk.1, hk.2.2⟩, hk.2.1⟩)) hg hat); replace aD := q_ (Kd.V_afterv (ok := (fun k_ => ((aJ k_ ∨ aG k_ ∨ aE k_) ∨ w.heap.size ≤ k_) ∧ k_ ≠ aA)) (vm_ aD.out (fun _ hk => ⟨⟨hk.1, hk.2.2⟩, hk.2.1⟩)) hg hat); replace aH := q_ (y0r (bk_ aH.out) hg (Kd.N_away aN.out (fun _ hk => hk.2))); replace aR := q_ (Kd.V_afterv (ok := (fun k_ => ((aJ k_ ∨ aG k_ ∨ aE k_) ∨ w.heap.size ≤ k_) ∧ k_ ≠ aA)) (vm_ aR.out (fun _ hk => ⟨⟨hk.1, hk.2.2⟩, hk.2.1⟩)) hg hat); replace aQ := q_ (Kd.V_afterv (ok := (fun k_ => ((aJ k_ ∨ aG k_ ∨ aE k_) ∨ w.heap.size ≤ k_) ∧ k_ ≠ aA)) (vm_ aQ.out (fun _ hk => ⟨⟨hk.1, hk.2.2⟩, hk.2.1⟩)) hg hat); replace a4 := q_ (Kd.V_afterv (ok := (fun k_ => ((aJ k_ ∨ aG k_ ∨ aE k_) ∨ w.heap.size ≤ k_) ∧ k_ ≠ aA)) (vm_ a4.out (fun _ hk => ⟨⟨hk.1, hk.2.2⟩, hk.2.1⟩)) hg hat); replace a1 := q_ (Kd.V_afterv (ok := (fun k_ => ((aJ k_ ∨ aG k_ ∨ aE k_) ∨ w.heap.size ≤ k_) ∧ k_ ≠ aA)) (vm_ a1.out (fun _ hk => ⟨⟨hk.1, hk.2.2⟩, hk.2.1⟩)) hg hat); replace HB := q_ (hb); have dI := q_ (ho); clear aN; clear ho hb hg hat))
   repeat (go_quiet (first | ((with_reducible refine y22 (b := .append) (xs := #[.tmp 32, .tmp 37]) rfl ?_); at_builtin; refine Kd.N_append k25 (w0 := w) w.heap.size rfl (.tmp 32) (.tmp 37) 46 25 (.agg #[(.string ⟨#[]⟩), (.string ⟨#[]⟩), (.string ⟨#[]⟩), (.int .i64 0), (.slice none 0 0), (.slice none 0 0)]) 104 rfl Try.underlying46 info25 rfl (by decide) (by omega) u6 a9 (⟨(y49 l0 aI).f0, (y49 l0 aI).f1, (y49 l0 aI).f2, (y49 l0 aI).f3, (y49 l0 aI).f4, (y49 l0 aI).f5⟩ : S25) [.string ((y49 l0 aI).f0), .string ((y49 l0 aI).f1), .string ((y49 l0 aI).f2), .int .i64 ((y49 l0 aI).f3), .slice bL ((y49 l0 aI).f4).length bH, .slice bI ((y49 l0 aI).f5).length bK] (fun k_ => ((aJ k_ ∨ aG k_ ∨ aE k_) ∨ w.heap.size ≤ k_) ∧ k_ ≠ aA) (fun k_ => ((fun k_ => ((aJ k_ ∨ aG k_ ∨ aE k_) ∨ w.heap.size ≤ k_) ∧ k_ ≠ aA)) k_ ∧ some k_ ≠ (u6 : Value).ownBlock) rfl rfl ?aP (fun _ hk => hk) ?aF ?aO ?aB ?aS ?aL ?_; (case aP => exact (y2s _ _ (⟨(y49 l0 aI).f0, (y49 l0 aI).f1, (y49 l0 aI).f2, (y49 l0 aI).f3, (y49 l0 aI).f4, (y49 l0 aI).f5⟩ : S25) (Kd.V_reads' (Kd.V_mono (ok' := (fun k_ => ((fun k_ => ((aJ k_ ∨ aG k_ ∨ aE k_) ∨ w.heap.size ≤ k_) ∧ k_ ≠ aA)) k_ ∧ some k_ ≠ (u6 : Value).ownBlock)) (a4.out) (fun k_ hk => ⟨⟨hk.1, hk.2.2⟩, hk.2.1⟩))).2.1 (Kd.V_F (Kd.V_mono (ok' := (fun k_ => ((fun k_ => ((aJ k_ ∨ aG k_ ∨ aE k_) ∨ w.heap.size ≤ k_) ∧ k_ ≠ aA)) k_ ∧ some k_ ≠ (u6 : Value).ownBlock)) (a4.out) (fun k_ hk => ⟨⟨hk.1, hk.2.2⟩, hk.2.1⟩))) (Kd.V_reads' (Kd.V_mono (ok' := (fun k_ => ((fun k_ => ((aJ k_ ∨ aG k_ ∨ aE k_) ∨ w.heap.size ≤ k_) ∧ k_ ≠ aA)) k_ ∧ some k_ ≠ (u6 : Value).ownBlock)) (a1.out) (fun k_ hk => ⟨⟨hk.1, hk.2.2⟩, hk.2.1⟩))).2.1 (Kd.V_F (Kd.V_mono (ok' := (fun k_ => ((fun k_ => ((aJ k_ ∨ aG k_ ∨ aE k_) ∨ w.heap.size ≤ k_) ∧ k_ ≠ aA)) k_ ∧ some k_ ≠ (u6 : Value).ownBlock)) (a1.out) (fun k_ hk => ⟨⟨hk.1, hk.2.2⟩, hk.2.1⟩))))); (case aB => exact hb_); (case aF => exact (fun k_ hk => ⟨(.inr (Nat.le_trans (y0j hb_) hk)), Kd.freshB (bk_ aH.out) k_ hk⟩)); (case aO => exact (nk_ aN.out)); (case aS => exact (y0j hb_)); (case aL => have := dV.out; omega); intro d5 hW ho hb hg hat; rw [← dF.out] at ho; replace aM := q_ (Kd.V_afterv (ok := (fun k_ => ((aJ k_ ∨ aG k_ ∨ aE k_) ∨ w.heap.size ≤ k_) ∧ k_ ≠ aA)) (vm_ aM.out (fun _ hk => ⟨⟨hk.1, hk.2.2⟩, hk.2.1⟩)) hg hat); replace aC := q_ (Kd.V_afterv (ok := (fun k_ => ((aJ k_ ∨ aG k_ ∨ aE k_) ∨ w.heap.size ≤ k_) ∧ k_ ≠ aA)) (vm_ aC.out (fun _ hk => ⟨⟨hk.1, hk.2.2⟩, hk.2.1⟩)) hg hat); replace aD := q_ (Kd.V_afterv (ok := (fun k_ => ((aJ k_ ∨ aG k_ ∨ aE k_) ∨ w.heap.size ≤ k_) ∧ k_ ≠ aA)) (vm_ aD.out (fun _ hk => ⟨⟨hk.1, hk.2.2⟩, hk.2.1⟩)) hg hat); replace aH := q_ (y0r (bk_ aH.out) hg (Kd.N_away aN.out (fun _ hk => hk.2))); replace aR := q_ (Kd.V_afterv (ok := (fun k_ => ((aJ k_ ∨ aG k_ ∨ aE k_) ∨ w.heap.size ≤ k_) ∧ k_ ≠ aA)) (vm_ aR.out (fun _ hk => ⟨⟨hk.1, hk.2.2⟩, hk.2.1⟩)) hg hat); replace aQ := q_ (Kd.V_afterv (ok := (fun k_ => ((aJ k_ ∨ aG k_ ∨ aE k_) ∨ w.heap.size ≤ k_) ∧ k_ ≠ aA)) (vm_ aQ.out (fun _ hk => ⟨⟨hk.1, hk.2.2⟩, hk.2.1⟩)) hg hat); replace a4 := q_ (Kd.V_afterv (ok := (fun k_ => ((aJ k_ ∨ aG k_ ∨ aE k_) ∨ w.heap.size ≤ k_) ∧ k_ ≠ aA)) (vm_ a4.out (fun _ hk => ⟨⟨hk.1, hk.2.2⟩, hk.2.1⟩)) hg hat); replace a1 := q_ (Kd.V_afterv (ok := (fun k_ => ((aJ k_ ∨ aG k_ ∨ aE k_) ∨ w.heap.size ≤ k_) ∧ k_ ≠ aA)) (vm_ a1.out (fun _ hk => ⟨⟨hk.1, hk.2.2⟩, hk.2.1⟩)) hg hat); replace HB := q_ (hb); have dI := q_ (ho); clear aN; clear ho hb hg hat)); try go_wp2_with (first | ((with_reducible refine y22 (b := .append) (xs := #[.tmp 32, .tmp 37]) rfl ?_); at_builtin; refine Kd.N_append k25 (w0 := w) w.heap.size rfl (.tmp 32) (.tmp 37) 46 25 (.agg #[(.string ⟨#[]⟩), (.string ⟨#[]⟩), (.string ⟨#[]⟩), (.int .i64 0), (.slice none 0 0), (.slice none 0 0)]) 104 rfl Try.underlying46 info25 rfl (by decide) (by omega) u6 a9 (⟨(y49 l0 aI).f0, (y49 l0 aI).f1, (y49 l0 aI).f2, (y49 l0 aI).f3, (y49 l0 aI).f4, (y49 l0 aI).f5⟩ : S25) [.string ((y49 l0 aI).f0), .string ((y49 l0 aI).f1), .string ((y49 l0 aI).f2), .int .i64 ((y49 l0 aI).f3), .slice bL ((y49 l0 aI).f4).length bH, .slice bI ((y49 l0 aI).f5).length bK] (fun k_ => ((aJ k_ ∨ aG k_ ∨ aE k_) ∨ w.heap.size ≤ k_) ∧ k_ ≠ aA) (fun k_ => ((fun k_ => ((aJ k_ ∨ aG k_ ∨ aE k_) ∨ w.heap.size ≤ k_) ∧ k_ ≠ aA)) k_ ∧ some k_ ≠ (u6 : Value).ownBlock) rfl rfl ?aP (fun _ hk => hk) ?aF ?aO ?aB ?aS ?aL ?_; (case aP => exact (y2s _ _ (⟨(y49 l0 aI).f0, (y49 l0 aI).f1, (y49 l0 aI).f2, (y49 l0 aI).f3, (y49 l0 aI).f4, (y49 l0 aI).f5⟩ : S25) (Kd.V_reads' (Kd.V_mono (ok' := (fun k_ => ((fun k_ => ((aJ k_ ∨ aG k_ ∨ aE k_) ∨ w.heap.size ≤ k_) ∧ k_ ≠ aA)) k_ ∧ some k_ ≠ (u6 : Value).ownBlock)) (a4.out) (fun k_ hk => ⟨⟨hk.1, hk.2.2⟩, hk.2.1⟩))).2.1 (Kd.V_F (Kd.V_mono (ok' := (fun k_ => ((fun k_ => ((aJ k_ ∨ aG k_ ∨ aE k_) ∨ w.heap.size ≤ k_) ∧ k_ ≠ aA)) k_ ∧ some k_ ≠ (u6 : Value).ownBlock)) (a4.out) (fun k_ hk => ⟨⟨hk.1, hk.2.2⟩, hk.2.1⟩))) (Kd.V_reads' (Kd.V_mono (ok' := (fun k_ => ((fun k_ => ((aJ k_ ∨ aG k_ ∨ aE k_) ∨ w.heap.size ≤ k_) ∧ k_ ≠ aA)) k_ ∧ some k_ ≠ (u6 : Value).ownBlock)) (a1.out) (fun k_ hk => ⟨⟨hk.1, hk.2.2⟩, hk.2.1⟩))).2.1 (Kd.V_F (Kd.V_mono (ok' := (fun k_ => ((fun k_ => ((aJ k_ ∨ aG k_ ∨ aE k_) ∨ w.heap.size ≤ k_) ∧ k_ ≠ aA)) k_ ∧ some k_ ≠ (u6 : Value).ownBlock)) (a1.out) (fun k_ hk => ⟨⟨hk.1, hk.2.2⟩, hk.2.1⟩))))); (case aB => exact hb_); (case aF => exact (fun k_ hk => ⟨(.inr (Nat.le_trans (y0j hb_) hk)), Kd.freshB (bk_ aH.out) k_ hk⟩)); (case aO => exact (nk_ aN.out)); (case aS => exact (y0j hb_)); (case aL => have := dV.out; omega); intro d5 hW ho hb hg hat; rw [← dF.out] at ho; replace aM := q_ (Kd.V_afterv (ok := (fun k_ => ((aJ k_ ∨ aG k_ ∨ aE k_) ∨ w.heap.size ≤ k_) ∧ k_ ≠ aA)) (vm_ aM.out (fun _ hk => ⟨⟨hk.1, hk.2.2⟩, hk.2.1⟩)) hg hat); replace aC := q_ (Kd.V_afterv (ok := (fun k_ => ((aJ k_ ∨ aG k_ ∨ aE k_) ∨ w.heap.size ≤ k_) ∧ k_ ≠ aA)) (vm_ aC.out (fun _ hk => ⟨⟨hk.1, hk.2.2⟩, hk.2.1⟩)) hg hat); replace aD := q_ (Kd.V_afterv (ok := (fun k_ => ((aJ k_ ∨ aG k_ ∨ aE k_) ∨ w.heap.size ≤ k_) ∧ k_ ≠ aA)) (vm_ aD.out (fun _ hk => ⟨⟨hk.1, hk.2.2⟩, hk.2.1⟩)) hg hat); replace aH := q_ (y0r (bk_ aH.out) hg (Kd.N_away aN.out (fun _ hk => hk.2))); replace aR := q_ (Kd.V_afterv (ok := (fun k_ => ((aJ k_ ∨ aG k_ ∨ aE k_) ∨ w.heap.size ≤ k_) ∧ k_ ≠ aA)) (vm_ aR.out (fun _ hk => ⟨⟨hk.1, hk.2.2⟩, hk.2.1⟩)) hg hat); replace aQ := q_ (Kd.V_afterv (ok := (fun k_ => ((aJ k_ ∨ aG k_ ∨ aE k_) ∨ w.heap.size ≤ k_) ∧ k_ ≠ aA)) (vm_ aQ.out (fun _ hk => ⟨⟨hk.1, hk.2.2⟩, hk.2.1⟩)) hg hat); replace a4 := q_ (Kd.V_afterv (ok := (fun k_ => ((aJ k_ ∨ aG k_ ∨ aE k_) ∨ w.heap.size ≤ k_) ∧ k_ ≠ aA)) (vm_ a4.out (fun _ hk => ⟨⟨hk.1, hk.2.2⟩, hk.2.1⟩)) hg hat); replace a1 := q_ (Kd.V_afterv (ok := (fun k_ => ((aJ k_ ∨ aG k_ ∨ aE k_) ∨ w.heap.size ≤ k_) ∧ k_ ≠ aA)) (vm_ a1.out (fun _ hk => ⟨⟨hk.1, hk.2.2⟩, hk.2.1⟩)) hg hat); replace HB := q_ (hb); have dI := q_ (ho); clear aN; clear ho hb hg hat)))
   go_roundg k1
   case measure => have := HK1.out; omega
   case rel => exact ⟨(d6), (dM), (wrap64 (aI + 1)), cl_, cl_, H', ⟨by have := HK1.out; omega⟩, ⟨vm_ aM.out (fun _ hk => ⟨hk.1.1, ⟨hk.2, hk.1.2⟩⟩)⟩, ⟨nk_ dI.out⟩, ⟨vm_ aC.out (fun _ hk => ⟨hk.1.1, ⟨hk.2, hk.1.2⟩⟩)⟩, ⟨vm_ aD.out (fun _ hk => ⟨hk.1.1, ⟨hk.2, hk.1.2⟩⟩)⟩, ⟨bk_ aH.out⟩, ⟨hb_⟩⟩
  rw [if_pos c6] at H
  have hC := et_ c6
  have hF := nf_ c6
  clear c6
  by_cases c7 : dM = true
  rotate_left
  ·replace c7 := Bool.eq_false_iff.mpr c7
   subst c7
   rw [if_neg (show ¬ (false = true) by decide)] at H
   by_cases g1 : a9.length < 1353245080339
   rotate_left
   ·rw [if_neg g1] at H
    exact absurd H (by simp)
   rw [if_pos g1] at H
   have dR := q_ g1
   clear g1
   obtain ⟨d3, b8⟩ : ∃ y_ : List (S25), y_ = (a9 ++ [(⟨aX, a0, aZ, aY, aT, aU⟩ : S25)]) := ⟨_, rfl⟩
   replace H : (zqc.l0 k1 l0 d3 true (wrap64 (aI + 1)) aX a0 aZ aY aT aU) = some (r1, r2) := by first | (rw [b8]; with_reducible exact H) | (have dG := (Option.bind_some _ _).symm.trans H; rw [b8]; with_reducible exact dG) | (have dG := (Option.bind_some _ _).symm.trans H; with_reducible exact dG) | with_reducible exact H | (rw [b8]; exact H) | exact H
   have dL := q_ b8
   clear b8
   have H' := q_ H
   clear H
   have bJ : 0 ≤ (aI : Int) := oa_
   have bM : aI < (l0.length : Int) := oa_
   obtain ⟨cH, bL, bH, bI, bK, dD, c9, cL, c3, c1, bF, bG, bD, bE, bB, bC⟩ := y0c (Kd.V_reads' aM.out).2.2 aI bJ bM
   cases dD
   obtain ⟨dU, bU, bX, bA⟩ := Kd.V_get aM.out z25 aI bJ (by first | exact bM | exact oa_ | (have e_ := (Kd.V_reads' aM.out).1; omega))
   obtain ⟨cR, c2, cX, cM, rfl, a5, a6, a7, a8⟩ := y2u bX
   have aV := bA 4 _ rfl
   rw [y09 _ _ 4 (by omega)] at aV
   replace aV := Option.some.inj (aV.symm.trans bF)
   injection aV with hva_ hvn_ hvc_
   rw [hva_] at a6
   rw [hvc_] at a5
   have aR := q_ (show Kd.V k62 62 _ w.heap.size _ _ ((y49 l0 aI).f4) from Kd.V_mk a5 a6)
   clear hva_ hvn_ hvc_ a6 a5
   have aW := bA 5 _ rfl
   rw [y09 _ _ 5 (by omega)] at aW
   replace aW := Option.some.inj (aW.symm.trans bG)
   injection aW with hva_ hvn_ hvc_
   rw [hva_] at a8
   rw [hvc_] at a7
   have aQ := q_ (show Kd.V k43 43 _ w.heap.size _ _ ((y49 l0 aI).f5) from Kd.V_mk a7 a8)
   clear hva_ hvn_ hvc_ a8 a7 bA bU
   have dC := q_ bE
   have cJ := q_ bD
   clear bE bD
   have cK := q_ bC
   have cN := q_ bB
   clear bC bB
   replace bJ := eq_true bJ
   replace bM := eq_true bM
   obtain ⟨fS, gD, f9, gI, fQ, g2, fO, gH, gB, fI, fX, f8⟩ := b6_ aH.out
   go_wp2_with (first | ((with_reducible refine y22 (b := .append) (xs := #[.tmp 28, .tmp 30]) rfl ?_); at_builtin; refine Kd.N_append k25 (w0 := w) w.heap.size rfl (.tmp 28) (.tmp 30) 46 25 (.agg #[(.string ⟨#[]⟩), (.string ⟨#[]⟩), (.string ⟨#[]⟩), (.int .i64 0), (.slice none 0 0), (.slice none 0 0)]) 104 rfl Try.underlying46 info25 rfl (by decide) (by omega) u6 a9 (⟨aX, a0, aZ, aY, aT, aU⟩ : S25) [.string aX, .string a0, .string aZ, .int .i64 aY, .slice bP aT.length bO, .slice bQ aU.length bN] (fun k_ => ((aJ k_ ∨ aG k_ ∨ aE k_) ∨ w.heap.size ≤ k_) ∧ k_ ≠ aA) (fun k_ => ((fun k_ => ((aJ k_ ∨ aG k_ ∨ aE k_) ∨ w.heap.size ≤ k_) ∧ k_ ≠ aA)) k_ ∧ some k_ ≠ (u6 : Value).ownBlock) rfl rfl ?aP (fun _ hk => hk) ?aF ?aO ?aB ?aS ?aL ?_; (case aP => exact (y2s _ _ (⟨aX, a0, aZ, aY, aT, aU⟩ : S25) (Kd.V_reads' (Kd.V_mono (ok' := (fun k_ => ((fun k_ => ((aJ k_ ∨ aG k_ ∨ aE k_) ∨ w.heap.size ≤ k_) ∧ k_ ≠ aA)) k_ ∧ some k_ ≠ (u6 : Value).ownBlock)) (aC.out) (fun k_ hk => ⟨⟨hk.1, hk.2.2⟩, hk.2.1⟩))).2.1 (Kd.V_F (Kd.V_mono (ok' := (fun k_ => ((fun k_ => ((aJ k_ ∨ aG k_ ∨ aE k_) ∨ w.heap.size ≤ k_) ∧ k_ ≠ aA)) k_ ∧ some k_ ≠ (u6 : Value).ownBlock)) (aC.out) (fun k_ hk => ⟨⟨hk.1, hk.2.2⟩, hk.2.1⟩))) (Kd.V_reads' (Kd.V_mono (ok' := (fun k_ => ((fun k_ => ((aJ k_ ∨ aG k_ ∨ aE k_) ∨ w.heap.size ≤ k_) ∧ k_ ≠ aA)) k_ ∧ some k_ ≠ (u6 : Value).ownBlock)) (aD.out) (fun k_ hk => ⟨⟨hk.1, hk.2.2⟩, hk.2.1⟩))).2.1 (Kd.V_F (Kd.V_mono (ok' := (fun k_ => ((fun k_ => ((aJ k_ ∨ aG k_ ∨ aE k_) ∨ w.heap.size ≤ k_) ∧ k_ ≠ aA)) k_ ∧ some k_ ≠ (u6 : Value).ownBlock)) (aD.out) (fun k_ hk => ⟨⟨hk.1, hk.2.2⟩, hk.2.1⟩))))); (case aB => exact hb_); (case aF => exact (fun k_ hk => ⟨(.inr (Nat.le_trans (y0j hb_) hk)), Kd.freshB (bk_ aH.out) k_ hk⟩)); (case aO => exact (nk_ aN.out)); (case aS => exact (y0j hb_)); (case aL => have := dR.out; omega); intro d7 h1 ho hb hg hat; rw [← dL.out] at ho; replace aM := q_ (Kd.V_afterv (ok := (fun k_ => ((aJ k_ ∨ aG k_ ∨ aE k_) ∨ w.heap.size ≤ k_) ∧ k_ ≠ aA)) (vm_ aM.out (fun _ hk => ⟨⟨hk.1, hk.2.2⟩, hk.2.1⟩)) hg hat); replace aC := q_ (Kd.V_afterv (ok := (fun k_ => ((aJ k_ ∨ aG k_ ∨ aE k_) ∨ w.heap.size ≤ k_) ∧ k_ ≠ aA)) (vm_ aC.out (fun _ hk => ⟨⟨hk.1, hk.2.2⟩, hk.2.1⟩)) hg hat); replace aD := q_ (Kd.V_afterv (ok := (fun k_ => ((aJ k_ ∨ aG k_ ∨ aE k_) ∨ w.heap.size ≤ k_) ∧ k_ ≠ aA)) (vm_ aD.out (fun _ hk => ⟨⟨hk.1, hk.2.2⟩, hk.2.1⟩)) hg hat); replace aH := q_ (y0r (bk_ aH.out) hg (Kd.N_away aN.out (fun _ hk => hk.2))); replace aR := q_ (Kd.V_afterv (ok := (fun k_ => ((aJ k_ ∨ aG k_ ∨ aE k_) ∨ w.heap.size ≤ k_) ∧ k_ ≠ aA)) (vm_ aR.out (fun _ hk => ⟨⟨hk.1, hk.2.2⟩, hk.2.1⟩)) hg hat); replace aQ := q_ (Kd.V_afterv (ok := (fun k_ => ((aJ k_ ∨ aG k_ ∨ aE k_) ∨ w.heap.size ≤ k_) ∧ k_ ≠ aA)) (vm_ aQ.out (fun _ hk => ⟨⟨hk.1, hk.2.2⟩, hk.2.1⟩)) hg hat); replace HB := q_ (hb); have dK := q_ (ho); clear aN; clear ho hb hg hat))
   repeat (go_quiet (first | ((with_reducible refine y22 (b := .append) (xs := #[.tmp 28, .tmp 30]) rfl ?_); at_builtin; refine Kd.N_append k25 (w0 := w) w.heap.size rfl (.tmp 28) (.tmp 30) 46 25 (.agg #[(.string ⟨#[]⟩), (.string ⟨#[]⟩), (.string ⟨#[]⟩), (.int .i64 0), (.slice none 0 0), (.slice none 0 0)]) 104 rfl Try.underlying46 info25 rfl (by decide) (by omega) u6 a9 (⟨aX, a0, aZ, aY, aT, aU⟩ : S25) [.string aX, .string a0, .string aZ, .int .i64 aY, .slice bP aT.length bO, .slice bQ aU.length bN] (fun k_ => ((aJ k_ ∨ aG k_ ∨ aE k_) ∨ w.heap.size ≤ k_) ∧ k_ ≠ aA) (fun k_ => ((fun k_ => ((aJ k_ ∨ aG k_ ∨ aE k_) ∨ w.heap.size ≤ k_) ∧ k_ ≠ aA)) k_ ∧ some k_ ≠ (u6 : Value).ownBlock) rfl rfl ?aP (fun _ hk => hk) ?aF ?aO ?aB ?aS ?aL ?_; (case aP => exact (y2s _ _ (⟨aX, a0, aZ, aY, aT, aU⟩ : S25) (Kd.V_reads' (Kd.V_mono (ok' := (fun k_ => ((fun k_ => ((aJ k_ ∨ aG k_ ∨ aE k_) ∨ w.heap.size ≤ k_) ∧ k_ ≠ aA)) k_ ∧ some k_ ≠ (u6 : Value).ownBlock)) (aC.out) (fun k_ hk => ⟨⟨hk.1, hk.2.2⟩, hk.2.1⟩))).2.1 (Kd.V_F (Kd.V_mono (ok' := (fun k_ => ((fun k_ => ((aJ k_ ∨ aG k_ ∨ aE k_) ∨ w.heap.size ≤ k_) ∧ k_ ≠ aA)) k_ ∧ some k_ ≠ (u6 : Value).ownBlock)) (aC.out) (fun k_ hk => ⟨⟨hk.1, hk.2.2⟩, hk.2.1⟩))) (Kd.V_reads' (Kd.V_mono (ok' := (fun k_ => ((fun k_ => ((aJ k_ ∨ aG k_ ∨ aE k_) ∨ w.heap.size ≤ k_) ∧ k_ ≠ aA)) k_ ∧ some k_ ≠ (u6 : Value).ownBlock)) (aD.out) (fun k_ hk => ⟨⟨hk.1, hk.2.2⟩, hk.2.1⟩))).2.1 (Kd.V_F (Kd.V_mono (ok' := (fun k_ => ((fun k_ => ((aJ k_ ∨ aG k_ ∨ aE k_) ∨ w.heap.size ≤ k_) ∧ k_ ≠ aA)) k_ ∧ some k_ ≠ (u6 : Value).ownBlock)) (aD.out) (fun k_ hk => ⟨⟨hk.1, hk.2.2⟩, hk.2.1⟩))))); (case aB => exact hb_); (case aF => exact (fun k_ hk => ⟨(.inr (Nat.le_trans (y0j hb_) hk)), Kd.freshB (bk_ aH.out) k_ hk⟩)); (case aO => exact (nk_ aN.out)); (case aS => exact (y0j hb_)); (case aL => have := dR.out; omega); intro d7 h1 ho hb hg hat; rw [← dL.out] at ho; replace aM := q_ (Kd.V_afterv (ok := (fun k_ => ((aJ k_ ∨ aG k_ ∨ aE k_) ∨ w.heap.size ≤ k_) ∧ k_ ≠ aA)) (vm_ aM.out (fun _ hk => ⟨⟨hk.1, hk.2.2⟩, hk.2.1⟩)) hg hat); replace aC := q_ (Kd.V_afterv (ok := (fun k_ => ((aJ k_ ∨ aG k_ ∨ aE k_) ∨ w.heap.size ≤ k_) ∧ k_ ≠ aA)) (vm_ aC.out (fun _ hk => ⟨⟨hk.1, hk.2.2⟩, hk.2.1⟩)) hg hat); replace aD := q_ (Kd.V_afterv (ok := (fun k_ => ((aJ k_ ∨ aG k_ ∨ aE k_) ∨ w.heap.size ≤ k_) ∧ k_ ≠ aA)) (vm_ aD.out (fun _ hk => ⟨⟨hk.1, hk.2.2⟩, hk.2.1⟩)) hg hat); replace aH := q_ (y0r (bk_ aH.out) hg (Kd.N_away aN.out (fun _ hk => hk.2))); replace aR := q_ (Kd.V_afterv (ok := (fun k_ => ((aJ k_ ∨ aG k_ ∨ aE k_) ∨ w.heap.size ≤ k_) ∧ k_ ≠ aA)) (vm_ aR.out (fun _ hk => ⟨⟨hk.1, hk.2.2⟩, hk.2.1⟩)) hg hat); replace aQ := q_ (Kd.V_afterv (ok := (fun k_ => ((aJ k_ ∨ aG k_ ∨ aE k_) ∨ w.heap.size ≤ k_) ∧ k_ ≠ aA)) (vm_ aQ.out (fun _ hk => ⟨⟨hk.1, hk.2.2⟩, hk.2.1⟩)) hg hat); replace HB := q_ (hb); have dK := q_ (ho); clear aN; clear ho hb hg hat)); try go_wp2_with (first | ((with_reducible refine y22 (b := .append) (xs := #[.tmp 28, .tmp 30]) rfl ?_); at_builtin; refine Kd.N_append k25 (w0 := w) w.heap.size rfl (.tmp 28) (.tmp 30) 46 25 (.agg #[(.string ⟨#[]⟩), (.string ⟨#[]⟩), (.string ⟨#[]⟩), (.int .i64 0), (.slice none 0 0), (.slice none 0 0)]) 104 rfl Try.underlying46 info25 rfl (by decide) (by omega) u6 a9 (⟨aX, a0, aZ, aY, aT, aU⟩ : S25) [.string aX, .string a0, .string aZ, .int .i64 aY, .slice bP aT.length bO, .slice bQ aU.length bN] (fun k_ => ((aJ k_ ∨ aG k_ ∨ aE k_) ∨ w.heap.size ≤ k_) ∧ k_ ≠ aA) (fun k_ => ((fun k_ => ((aJ k_ ∨ aG k_ ∨ aE k_) ∨ w.heap.size ≤ k_) ∧ k_ ≠ aA)) k_ ∧ some k_ ≠ (u6 : Value).ownBlock) rfl rfl ?aP (fun _ hk => hk) ?aF ?aO ?aB ?aS ?aL ?_; (case aP => exact (y2s _ _ (⟨aX, a0, aZ, aY, aT, aU⟩ : S25) (Kd.V_reads' (Kd.V_mono (ok' := (fun k_ => ((fun k_ => ((aJ k_ ∨ aG k_ ∨ aE k_) ∨ w.heap.size ≤ k_) ∧ k_ ≠ aA)) k_ ∧ some k_ ≠ (u6 : Value).ownBlock)) (aC.out) (fun k_ hk => ⟨⟨hk.1, hk.2.2⟩, hk.2.1⟩))).2.1 (Kd.V_F (Kd.V_mono (ok' := (fun k_ => ((fun k_ => ((aJ k_ ∨ aG k_ ∨ aE k_) ∨ w.heap.size ≤ k_) ∧ k_ ≠ aA)) k_ ∧ some k_ ≠ (u6 : Value).ownBlock)) (aC.out) (fun k_ hk => ⟨⟨hk.1, hk.2.2⟩, hk.2.1⟩))) (Kd.V_reads' (Kd.V_mono (ok' := (fun k_ => ((fun k_ => ((aJ k_ ∨ aG k_ ∨ aE k_) ∨ w.heap.size ≤ k_) ∧ k_ ≠ aA)) k_ ∧ some k_ ≠ (u6 : Value).ownBlock)) (aD.out) (fun k_ hk => ⟨⟨hk.1, hk.2.2⟩, hk.2.1⟩))).2.1 (Kd.V_F (Kd.V_mono (ok' := (fun k_ => ((fun k_ => ((aJ k_ ∨ aG k_ ∨ aE k_) ∨ w.heap.size ≤ k_) ∧ k_ ≠ aA)) k_ ∧ some k_ ≠ (u6 : Value).ownBlock)) (aD.out) (fun k_ hk => ⟨⟨hk.1, hk.2.2⟩, hk.2.1⟩))))); (case aB => exact hb_); (case aF => exact (fun k_ hk => ⟨(.inr (Nat.le_trans (y0j hb_) hk)), Kd.freshB (bk_ aH.out) k_ hk⟩)); (case aO => exact (nk_ aN.out)); (case aS => exact (y0j hb_)); (case aL => have := dR.out; omega); intro d7 h1 ho hb hg hat; rw [← dL.out] at ho; replace aM := q_ (Kd.V_afterv (ok := (fun k_ => ((aJ k_ ∨ aG k_ ∨ aE k_) ∨ w.heap.size ≤ k_) ∧ k_ ≠ aA)) (vm_ aM.out (fun _ hk => ⟨⟨hk.1, hk.2.2⟩, hk.2.1⟩)) hg hat); replace aC := q_ (Kd.V_afterv (ok := (fun k_ => ((aJ k_ ∨ aG k_ ∨ aE k_) ∨ w.heap.size ≤ k_) ∧ k_ ≠ aA)) (vm_ aC.out (fun _ hk => ⟨⟨hk.1, hk.2.2⟩, hk.2.1⟩)) hg hat); replace aD := q_ (Kd.V_afterv (ok := (fun k_ => ((aJ k_ ∨ aG k_ ∨ aE k_) ∨ w.heap.size ≤ k_) ∧ k_ ≠ aA)) (vm_ aD.out (fun _ hk => ⟨⟨hk.1, hk.2.2⟩, hk.2.1⟩)) hg hat); replace aH := q_ (y0r (bk_ aH.out) hg (Kd.N_away aN.out (fun _ hk => hk.2))); replace aR := q_ (Kd.V_afterv (ok := (fun k_ => ((aJ k_ ∨ aG k_ ∨ aE k_) ∨ w.heap.size ≤ k_) ∧ k_ ≠ aA)) (vm_ aR.out (fun _ hk => ⟨⟨hk.1, hk.2.2⟩, hk.2.1⟩)) hg hat); replace aQ := q_ (Kd.V_afterv (ok := (fun k_ => ((aJ k_ ∨ aG k_ ∨ aE k_) ∨ w.heap.size ≤ k_) ∧ k_ ≠ aA)) (vm_ aQ.out (fun _ hk => ⟨⟨hk.1, hk.2.2⟩, hk.2.1⟩)) hg hat); replace HB := q_ (hb); have dK := q_ (ho); clear aN; clear ho hb hg hat)))
   go_roundg k1
   case measure => have := HK1.out; omega
   case rel => exact ⟨(d3), (true), (wrap64 (aI + 1)), cl_, cl_, H', ⟨by have := HK1.out; omega⟩, ⟨vm_ aM.out (fun _ hk => ⟨hk.1.1, ⟨hk.2, hk.1.2⟩⟩)⟩, ⟨nk_ dK.out⟩, ⟨vm_ aC.out (fun _ hk => ⟨hk.1.1, ⟨hk.2, hk.1.2⟩⟩)⟩, ⟨vm_ aD.out (fun _ hk => ⟨hk.1.1, ⟨hk.2, hk.1.2⟩⟩)⟩, ⟨bk_ aH.out⟩, ⟨hb_⟩⟩
  subst c7
  rw [if_pos rfl] at H
  by_cases c8 : a9.length < 1353245080339
  rotate_left
  ·rw [if_neg c8] at H
   exact absurd H (by simp)
  rw [if_pos c8] at H
  have eA := q_ c8
  clear c8
  obtain ⟨d4, cB⟩ : ∃ y_ : List (S25), y_ = (a9 ++ [(⟨(y49 l0 aI).f0, (y49 l0 aI).f1, (y49 l0 aI).f2, (y49 l0 aI).f3, (y49 l0 aI).f4, (y49 l0 aI).f5⟩ : S25)]) := ⟨_, rfl⟩
  replace H : (zqc.l0 k1 l0 d4 true (wrap64 (aI + 1)) aX a0 aZ aY aT aU) = some (r1, r2) := by first | (rw [cB]; with_reducible exact H) | (have dG := (Option.bind_some _ _).symm.trans H; rw [cB]; with_reducible exact dG) | (have dG := (Option.bind_some _ _).symm.trans H; with_reducible exact dG) | with_reducible exact H | (rw [cB]; exact H) | exact H
  have dH := q_ cB
  clear cB
  have H' := q_ H
  clear H
  have bJ : 0 ≤ (aI : Int) := oa_
  have bM : aI < (l0.length : Int) := oa_
  obtain ⟨cH, bL, bH, bI, bK, dD, c9, cL, c3, c1, bF, bG, bD, bE, bB, bC⟩ := y0c (Kd.V_reads' aM.out).2.2 aI bJ bM
  cases dD
  obtain ⟨dU, bU, bX, bA⟩ := Kd.V_get aM.out z25 aI bJ (by first | exact bM | exact oa_ | (have e_ := (Kd.V_reads' aM.out).1; omega))
  obtain ⟨cR, c2, cX, cM, rfl, a5, a6, a7, a8⟩ := y2u bX
  have aV := bA 4 _ rfl
  rw [y09 _ _ 4 (by omega)] at aV
  replace aV := Option.some.inj (aV.symm.trans bF)
  injection aV with hva_ hvn_ hvc_
  rw [hva_] at a6
  rw [hvc_] at a5
  have aR := q_ (show Kd.V k62 62 _ w.heap.size _ _ ((y49 l0 aI).f4) from Kd.V_mk a5 a6)
  clear hva_ hvn_ hvc_ a6 a5
  have aW := bA 5 _ rfl
  rw [y09 _ _ 5 (by omega)] at aW
  replace aW := Option.some.inj (aW.symm.trans bG)
  injection aW with hva_ hvn_ hvc_
  rw [hva_] at a8
  rw [hvc_] at a7
  have aQ := q_ (show Kd.V k43 43 _ w.heap.size _ _ ((y49 l0 aI).f5) from Kd.V_mk a7 a8)
  clear hva_ hvn_ hvc_ a8 a7 bA bU
  have dC := q_ bE
  have cJ := q_ bD
  clear bE bD
  have cK := q_ bC
  have cN := q_ bB
  clear bC bB
  replace bJ := eq_true bJ
  replace bM := eq_true bM
  obtain ⟨hK, hE, hD, hO, hJ, hQ, hN, hG, hP, hM, hS, hL⟩ := b6_ aH.out
  have dQ : 0 ≤ (aI : Int) := oa_
  have dP : aI < (l0.length : Int) := oa_
  obtain ⟨d9, gC, gA, gW, gV, eN, eZ, eS, e1, e6, cV, cS, cP, dB, dE, cZ⟩ := y0c (Kd.V_reads' aM.out).2.2 aI dQ dP
  obtain rfl : cH = d9 := (by injection eN)
  obtain ⟨hH, d0, dY, cI⟩ := Kd.V_get aM.out z25 aI dQ (by first | exact dP | exact oa_ | (have e_ := (Kd.V_reads' aM.out).1; omega))
  obtain ⟨e3, eM, fB, eY, rfl, b1, cA, b7, cD⟩ := y2u dY
  have bW := cI 4 _ rfl
  rw [y09 _ _ 4 (by omega)] at bW
  replace bW := Option.some.inj (bW.symm.trans cV)
  injection bW with hva_ hvn_ hvc_
  rw [hva_] at cA
  rw [hvc_] at b1
  have a3 := q_ (show Kd.V k62 62 _ w.heap.size _ _ ((y49 l0 aI).f4) from Kd.V_mk b1 cA)
  clear hva_ hvn_ hvc_ cA b1
  have bT := cI 5 _ rfl
  rw [y09 _ _ 5 (by omega)] at bT
  replace bT := Option.some.inj (bT.symm.trans cS)
  injection bT with hva_ hvn_ hvc_
  rw [hva_] at cD
  rw [hvc_] at b7
  have a2 := q_ (show Kd.V k43 43 _ w.heap.size _ _ ((y49 l0 aI).f5) from Kd.V_mk b7 cD)
  clear hva_ hvn_ hvc_ cD b7 cI d0
  have eQ := q_ dB
  have e7 := q_ cP
  clear dB cP
  have eW := q_ cZ
  have fC := q_ dE
  clear cZ dE
  replace dQ := eq_true dQ
  replace dP := eq_true dP
  have ea_ := Option.some.inj (bF.symm.trans cV)
  injection ea_ with ea_ en_ ec_
  subst ea_
  subst ec_
  clear en_
  have ea_ := Option.some.inj (bG.symm.trans cS)
  injection ea_ with ea_ en_ ec_
  subst ea_
  subst ec_
  clear en_
  go_wp2_with (first | ((with_reducible refine y22 (b := .append) (xs := #[.tmp 32, .tmp 37]) rfl ?_); at_builtin; refine Kd.N_append k25 (w0 := w) w.heap.size rfl (.tmp 32) (.tmp 37) 46 25 (.agg #[(.string ⟨#[]⟩), (.string ⟨#[]⟩), (.string ⟨#[]⟩), (.int .i64 0), (.slice none 0 0), (.slice none 0 0)]) 104 rfl Try.underlying46 info25 rfl (by decide) (by omega) u6 a9 (⟨(y49 l0 aI).f0, (y49 l0 aI).f1, (y49 l0 aI).f2, (y49 l0 aI).f3, (y49 l0 aI).f4, (y49 l0 aI).f5⟩ : S25) [.string ((y49 l0 aI).f0), .string ((y49 l0 aI).f1), .string ((y49 l0 aI).f2), .int .i64 ((y49 l0 aI).f3), .slice bL ((y49 l0 aI).f4).length bH, .slice bI ((y49 l0 aI).f5).length bK] (fun k_ => ((aJ k_ ∨ aG k_ ∨ aE k_) ∨ w.heap.size ≤ k_) ∧ k_ ≠ aA) (fun k_ => ((fun k_ => ((aJ k_ ∨ aG k_ ∨ aE k_) ∨ w.heap.size ≤ k_) ∧ k_ ≠ aA)) k_ ∧ some k_ ≠ (u6 : Value).ownBlock) rfl rfl ?aP (fun _ hk => hk) ?aF ?aO ?aB ?aS ?aL ?_; (case aP => exact (y2s _ _ (⟨(y49 l0 aI).f0, (y49 l0 aI).f1, (y49 l0 aI).f2, (y49 l0 aI).f3, (y49 l0 aI).f4, (y49 l0 aI).f5⟩ : S25) (Kd.V_reads' (Kd.V_mono (ok' := (fun k_ => ((fun k_ => ((aJ k_ ∨ aG k_ ∨ aE k_) ∨ w.heap.size ≤ k_) ∧ k_ ≠ aA)) k_ ∧ some k_ ≠ (u6 : Value).ownBlock)) (a3.out) (fun k_ hk => ⟨⟨hk.1, hk.2.2⟩, hk.2.1⟩))).2.1 (Kd.V_F (Kd.V_mono (ok' := (fun k_ => ((fun k_ => ((aJ k_ ∨ aG k_ ∨ aE k_) ∨ w.heap.size ≤ k_) ∧ k_ ≠ aA)) k_ ∧ some k_ ≠ (u6 : Value).ownBlock)) (a3.out) (fun k_ hk => ⟨⟨hk.1, hk.2.2⟩, hk.2.1⟩))) (Kd.V_reads' (Kd.V_mono (ok' := (fun k_ => ((fun k_ => ((aJ k_ ∨ aG k_ ∨ aE k_) ∨ w.heap.size ≤ k_) ∧ k_ ≠ aA)) k_ ∧ some k_ ≠ (u6 : Value).ownBlock)) (a2.out) (fun k_ hk => ⟨⟨hk.1, hk.2.2⟩, hk.2.1⟩))).2.1 (Kd.V_F (Kd.V_mono (ok' := (fun k_ => ((fun k_ => ((aJ k_ ∨ aG k_ ∨ aE k_) ∨ w.heap.size ≤ k_) ∧ k_ ≠ aA)) k_ ∧ some k_ ≠ (u6 : Value).ownBlock)) (a2.out) (fun k_ hk => ⟨⟨hk.1, hk.2.2⟩, hk.2.1⟩))))); (case aB => exact hb_); (case aF => exact (fun k_ hk => ⟨(.inr (Nat.le_trans (y0j hb_) hk)), Kd.freshB (bk_ aH.out) k_ hk⟩)); (case aO => exact (nk_ aN.out)); (case aS => exact (y0j hb_)); (case aL => have := eA.out; omega); intro d2 hT ho hb hg hat; rw [← dH.out] at ho; replace aM := q_ (Kd.V_afterv (ok := (fun k_ => ((aJ k_ ∨ aG k_ ∨ aE k_) ∨ w.heap.size ≤ k_) ∧ k_ ≠ aA)) (vm_ aM.out (fun _ hk => ⟨⟨hk.1, hk.2.2⟩, hk.2.1⟩)) hg hat); replace aC := q_ (Kd.V_afterv (ok := (fun k_ => ((aJ k_ ∨ aG k_ ∨ aE k_) ∨ w.heap.size ≤ k_) ∧ k_ ≠ aA)) (vm_ aC.out (fun _ hk => ⟨⟨hk.1, hk.2.2⟩, hk.2.1⟩)) hg hat); replace aD := q_ (Kd.V_afterv (ok := (fun k_ => ((aJ k_ ∨ aG k_ ∨ aE k_) ∨ w.heap.size ≤ k_) ∧ k_ ≠ aA)) (vm_ aD.out (fun _ hk => ⟨⟨hk.1, hk.2.2⟩, hk.2.1⟩)) hg hat); replace aH := q_ (y0r (bk_ aH.out) hg (Kd.N_away aN.out (fun _ hk => hk.2))); replace aR := q_ (Kd.V_afterv (ok := (fun k_ => ((aJ k_ ∨ aG k_ ∨ aE k_) ∨ w.heap.size ≤ k_) ∧ k_ ≠ aA)) (vm_ aR.out (fun _ hk => ⟨⟨hk.1, hk.2.2⟩, hk.2.1⟩)) hg hat); replace aQ := q_ (Kd.V_afterv (ok := (fun k_ => ((aJ k_ ∨ aG k_ ∨ aE k_) ∨ w.heap.size ≤ k_) ∧ k_ ≠ aA)) (vm_ aQ.out (fun _ hk => ⟨⟨hk.1, hk.2.2⟩, hk.2.1⟩)) hg hat); replace a3 := q_ (Kd.V_afterv (ok := (fun k_ => ((aJ k_ ∨ aG k_ ∨ aE k_) ∨ w.heap.size ≤ k_) ∧ k_ ≠ aA)) (vm_ a3.out (fun _ hk => ⟨⟨hk.1, hk.2.2⟩, hk.2.1⟩)) hg hat); replace a2 := q_ (Kd.V_afterv (ok := (fun k_ => ((aJ k_ ∨ aG k_ ∨ aE k_) ∨ w.heap.size ≤ k_) ∧ k_ ≠ aA)) (vm_ a2.out (fun _ hk => ⟨⟨hk.1, hk.2.2⟩, hk.2.1⟩)) hg hat); replace HB := q_ (hb); have dJ := q_ (ho); clear aN; clear ho hb hg hat))
  repeat (go_quiet (first | ((with_reducible refine y22 (b := .append) (xs := #[.tmp 32, .tmp 37]) rfl ?_); at_builtin; refine Kd.N_append k25 (w0 := w) w.heap.size rfl (.tmp 32) (.tmp 37) 46 25 (.agg #[(.string ⟨#[]⟩), (.string ⟨#[]⟩), (.string ⟨#[]⟩), (.int .i64 0), (.slice none 0 0), (.slice none 0 0)]) 104 rfl Try.underlying46 info25 rfl (by decide) (by omega) u6 a9 (⟨(y49 l0 aI).f0, (y49 l0 aI).f1, (y49 l0 aI).f2, (y49 l0 aI).f3, (y49 l0 aI).f4, (y49 l0 aI).f5⟩ : S25) [.string ((y49 l0 aI).f0), .string ((y49 l0 aI).f1), .string ((y49 l0 aI).f2), .int .i64 ((y49 l0 aI).f3), .slice bL ((y49 l0 aI).f4).length bH, .slice bI ((y49 l0 aI).f5).length bK] (fun k_ => ((aJ k_ ∨ aG k_ ∨ aE k_) ∨ w.heap.size ≤ k_) ∧ k_ ≠ aA) (fun k_ => ((fun k_ => ((aJ k_ ∨ aG k_ ∨ aE k_) ∨ w.heap.size ≤ k_) ∧ k_ ≠ aA)) k_ ∧ some k_ ≠ (u6 : Value).ownBlock) rfl rfl ?aP (fun _ hk => hk) ?aF ?aO ?aB ?aS ?aL ?_; (case aP => exact (y2s _ _ (⟨(y49 l0 aI).f0, (y49 l0 aI).f1, (y49 l0 aI).f2, (y49 l0 aI).f3, (y49 l0 aI).f4, (y49 l0 aI).f5⟩ : S25) (Kd.V_reads' (Kd.V_mono (ok' := (fun k_ => ((fun k_ => ((aJ k_ ∨ aG k_ ∨ aE k_) ∨ w.heap.size ≤ k_) ∧ k_ ≠ aA)) k_ ∧ some k_ ≠ (u6 : Value).ownBlock)) (a3.out) (fun k_ hk => ⟨⟨hk.1, hk.2.2⟩, hk.2.1⟩))).2.1 (Kd.V_F (Kd.V_mono (ok' := (fun k_ => ((fun k_ => ((aJ k_ ∨ aG k_ ∨ aE k_) ∨ w.heap.size ≤ k_) ∧ k_ ≠ aA)) k_ ∧ some k_ ≠ (u6 : Value).ownBlock)) (a3.out) (fun k_ hk => ⟨⟨hk.1, hk.2.2⟩, hk.2.1⟩))) (Kd.V_reads' (Kd.V_mono (ok' := (fun k_ => ((fun k_ => ((aJ k_ ∨ aG k_ ∨ aE k_) ∨ w.heap.size ≤ k_) ∧ k_ ≠ aA)) k_ ∧ some k_ ≠ (u6 : Value).ownBlock)) (a2.out) (fun k_ hk => ⟨⟨hk.1, hk.2.2⟩, hk.2.1⟩))).2.1 (Kd.V_F (Kd.V_mono (ok' := (fun k_ => ((fun k_ => ((aJ k_ ∨ aG k_ ∨ aE k_) ∨ w.heap.size ≤ k_) ∧ k_ ≠ aA)) k_ ∧ some k_ ≠ (u6 : Value).ownBlock)) (a2.out) (fun k_ hk => ⟨⟨hk.1, hk.2.2⟩, hk.2.1⟩))))); (case aB => exact hb_); (case aF => exact (fun k_ hk => ⟨(.inr (Nat.le_trans (y0j hb_) hk)), Kd.freshB (bk_ aH.out) k_ hk⟩)); (case aO => exact (nk_ aN.out)); (case aS => exact (y0j hb_)); (case aL => have := eA.out; omega); intro d2 hT ho hb hg hat; rw [← dH.out] at ho; replace aM := q_ (Kd.V_afterv (ok := (fun k_ => ((aJ k_ ∨ aG k_ ∨ aE k_) ∨ w.heap.size ≤ k_) ∧ k_ ≠ aA)) (vm_ aM.out (fun _ hk => ⟨⟨hk.1, hk.2.2⟩, hk.2.1⟩)) hg hat); replace aC := q_ (Kd.V_afterv (ok := (fun k_ => ((aJ k_ ∨ aG k_ ∨ aE k_) ∨ w.heap.size ≤ k_) ∧ k_ ≠ aA)) (vm_ aC.out (fun _ hk => ⟨⟨hk.1, hk.2.2⟩, hk.2.1⟩)) hg hat); replace aD := q_ (Kd.V_afterv (ok := (fun k_ => ((aJ k_ ∨ aG k_ ∨ aE k_) ∨ w.heap.size ≤ k_) ∧ k_ ≠ aA)) (vm_ aD.out (fun _ hk => ⟨⟨hk.1, hk.2.2⟩, hk.2.1⟩)) hg hat); replace aH := q_ (y0r (bk_ aH.out) hg (Kd.N_away aN.out (fun _ hk => hk.2))); replace aR := q_ (Kd.V_afterv (ok := (fun k_ => ((aJ k_ ∨ aG k_ ∨ aE k_) ∨ w.heap.size ≤ k_) ∧ k_ ≠ aA)) (vm_ aR.out (fun _ hk => ⟨⟨hk.1, hk.2.2⟩, hk.2.1⟩)) hg hat); replace aQ := q_ (Kd.V_afterv (ok := (fun k_ => ((aJ k_ ∨ aG k_ ∨ aE k_) ∨ w.heap.size ≤ k_) ∧ k_ ≠ aA)) (vm_ aQ.out (fun _ hk => ⟨⟨hk.1, hk.2.2⟩, hk.2.1⟩)) hg hat); replace a3 := q_ (Kd.V_afterv (ok := (fun k_ => ((aJ k_ ∨ aG k_ ∨ aE k_) ∨ w.heap.size ≤ k_) ∧ k_ ≠ aA)) (vm_ a3.out (fun _ hk => ⟨⟨hk.1, hk.2.2⟩, hk.2.1⟩)) hg hat); replace a2 := q_ (Kd.V_afterv (ok := (fun k_ => ((aJ k_ ∨ aG k_ ∨ aE k_) ∨ w.heap.size ≤ k_) ∧ k_ ≠ aA)) (vm_ a2.out (fun _ hk => ⟨⟨hk.1, hk.2.2⟩, hk.2.1⟩)) hg hat); replace HB := q_ (hb); have dJ := q_ (ho); clear aN; clear ho hb hg hat)); try go_wp2_with (first | ((with_reducible refine y22 (b := .append) (xs := #[.tmp 32, .tmp 37]) rfl ?_); at_builtin; refine Kd.N_append k25 (w0 := w) w.heap.size rfl (.tmp 32) (.tmp 37) 46 25 (.agg #[(.string ⟨#[]⟩), (.string ⟨#[]⟩), (.string ⟨#[]⟩), (.int .i64 0), (.slice none 0 0), (.slice none 0 0)]) 104 rfl Try.underlying46 info25 rfl (by decide) (by omega) u6 a9 (⟨(y49 l0 aI).f0, (y49 l0 aI).f1, (y49 l0 aI).f2, (y49 l0 aI).f3, (y49 l0 aI).f4, (y49 l0 aI).f5⟩ : S25) [.string ((y49 l0 aI).f0), .string ((y49 l0 aI).f1), .string ((y49 l0 aI).f2), .int .i64 ((y49 l0 aI).f3), .slice bL ((y49 l0 aI).f4).length bH, .slice bI ((y49 l0 aI).f5).length bK] (fun k_ => ((aJ k_ ∨ aG k_ ∨ aE k_) ∨ w.heap.size ≤ k_) ∧ k_ ≠ aA) (fun k_ => ((fun k_ => ((aJ k_ ∨ aG k_ ∨ aE k_) ∨ w.heap.size ≤ k_) ∧ k_ ≠ aA)) k_ ∧ some k_ ≠ (u6 : Value).ownBlock) rfl rfl ?aP (fun _ hk => hk) ?aF ?aO ?aB ?aS ?aL ?_; (case aP => exact (y2s _ _ (⟨(y49 l0 aI).f0, (y49 l0 aI).f1, (y49 l0 aI).f2, (y49 l0 aI).f3, (y49 l0 aI).f4, (y49 l0 aI).f5⟩ : S25) (Kd.V_reads' (Kd.V_mono (ok' := (fun k_ => ((fun k_ => ((aJ k_ ∨ aG k_ ∨ aE k_) ∨ w.heap.size ≤ k_) ∧ k_ ≠ aA)) k_ ∧ some k_ ≠ (u6 : Value).ownBlock)) (a3.out) (fun k_ hk => ⟨⟨hk.1, hk.2.2⟩, hk.2.1⟩))).2.1 (Kd.V_F (Kd.V_mono (ok' := (fun k_ => ((fun k_ => ((aJ k_ ∨ aG k_ ∨ aE k_) ∨ w.heap.size ≤ k_) ∧ k_ ≠ aA)) k_ ∧ some k_ ≠ (u6 : Value).ownBlock)) (a3.out) (fun k_ hk => ⟨⟨hk.1, hk.2.2⟩, hk.2.1⟩))) (Kd.V_reads' (Kd.V_mono (ok' := (fun k_ => ((fun k_ => ((aJ k_ ∨ aG k_ ∨ aE k_) ∨ w.heap.size ≤ k_) ∧ k_ ≠ aA)) k_ ∧ some k_ ≠ (u6 : Value).ownBlock)) (a2.out) (fun k_ hk => ⟨⟨hk.1, hk.2.2⟩, hk.2.1⟩))).2.1 (Kd.V_F (Kd.V_mono (ok' := (fun k_ => ((fun k_ => ((aJ k_ ∨ aG k_ ∨ aE k_) ∨ w.heap.size ≤ k_) ∧ k_ ≠ aA)) k_ ∧ some k_ ≠ (u6 : Value).ownBlock)) (a2.out) (fun k_ hk => ⟨⟨hk.1, hk.2.2⟩, hk.2.1⟩))))); (case aB => exact hb_); (case aF => exact (fun k_ hk => ⟨(.inr (Nat.le_trans (y0j hb_) hk)), Kd.freshB (bk_ aH.out) k_ hk⟩)); (case aO => exact (nk_ aN.out)); (case aS => exact (y0j hb_)); (case aL => have := eA.out; omega); intro d2 hT ho hb hg hat; rw [← dH.out] at ho; replace aM := q_ (Kd.V_afterv (ok := (fun k_ => ((aJ k_ ∨ aG k_ ∨ aE k_) ∨ w.heap.size ≤ k_) ∧ k_ ≠ aA)) (vm_ aM.out (fun _ hk => ⟨⟨hk.1, hk.2.2⟩, hk.2.1⟩)) hg hat); replace aC := q_ (Kd.V_afterv (ok := (fun k_ => ((aJ k_ ∨ aG k_ ∨ aE k_) ∨ w.heap.size ≤ k_) ∧ k_ ≠ aA)) (vm_ aC.out (fun _ hk => ⟨⟨hk.1, hk.2.2⟩, hk.2.1⟩)) hg hat); replace aD := q_ (Kd.V_afterv (ok := (fun k_ => ((aJ k_ ∨ aG k_ ∨ aE k_) ∨ w.heap.size ≤ k_) ∧ k_ ≠ aA)) (vm_ aD.out (fun _ hk => ⟨⟨hk.1, hk.2.2⟩, hk.2.1⟩)) hg hat); replace aH := q_ (y0r (bk_ aH.out) hg (Kd.N_away aN.out (fun _ hk => hk.2))); replace aR := q_ (Kd.V_afterv (ok := (fun k_ => ((aJ k_ ∨ aG k_ ∨ aE k_) ∨ w.heap.size ≤ k_) ∧ k_ ≠ aA)) (vm_ aR.out (fun _ hk => ⟨⟨hk.1, hk.2.2⟩, hk.2.1⟩)) hg hat); replace aQ := q_ (Kd.V_afterv (ok := (fun k_ => ((aJ k_ ∨ aG k_ ∨ aE k_) ∨ w.heap.size ≤ k_) ∧ k_ ≠ aA)) (vm_ aQ.out (fun _ hk => ⟨⟨hk.1, hk.2.2⟩, hk.2.1⟩)) hg hat); replace a3 := q_ (Kd.V_afterv (ok := (fun k_ => ((aJ k_ ∨ aG k_ ∨ aE k_) ∨ w.heap.size ≤ k_) ∧ k_ ≠ aA)) (vm_ a3.out (fun _ hk => ⟨⟨hk.1, hk.2.2⟩, hk.2.1⟩)) hg hat); replace a2 := q_ (Kd.V_afterv (ok := (fun k_ => ((aJ k_ ∨ aG k_ ∨ aE k_) ∨ w.heap.size ≤ k_) ∧ k_ ≠ aA)) (vm_ a2.out (fun _ hk => ⟨⟨hk.1, hk.2.2⟩, hk.2.1⟩)) hg hat); replace HB := q_ (hb); have dJ := q_ (ho); clear aN; clear ho hb hg hat)))
  go_roundg k1
  case measure => have := HK1.out; omega
  case rel => exact ⟨(d4), (true), (wrap64 (aI + 1)), cl_, cl_, H', ⟨by have := HK1.out; omega⟩, ⟨vm_ aM.out (fun _ hk => ⟨hk.1.1, ⟨hk.2, hk.1.2⟩⟩)⟩, ⟨nk_ dJ.out⟩, ⟨vm_ aC.out (fun _ hk => ⟨hk.1.1, ⟨hk.2, hk.1.2⟩⟩)⟩, ⟨vm_ aD.out (fun _ hk => ⟨hk.1.1, ⟨hk.2, hk.1.2⟩⟩)⟩, ⟨bk_ aH.out⟩, ⟨hb_⟩⟩
end Go.Proofs.Ytenlmckahaniiaa.K
end
