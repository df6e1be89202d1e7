/- Lemmas for the law LibraryReturns: what its proof needs beyond what it shares. -/
import Derived.Test.YtenlmckahaniiaaZcLib20
set_option linter.unusedVariables false
set_option linter.unusedSimpArgs false
set_option linter.unusedSectionVars false
set_option maxHeartbeats 8000000
set_option maxRecDepth 100000
section
namespace Go.Proofs.Ytenlmckahaniiaa.K
open Go.RowKit Go.Proofs.YtenlmckahaniiaaW.PrintWords Go.Proofs.YtenlmckahaniiaaW.PrintLast
attribute [local go_sem high] eqA43 eqA62
end Go.Proofs.Ytenlmckahaniiaa.K
end
section
namespace Go.Proofs.Ytenlmckahaniiaa.Lb
open Go Go.RowKit Go.Proofs.Ytenlmckahaniiaa.K Go.Proofs.YtenlmckahaniiaaW.PrintWords Go.Proofs.YtenlmckahaniiaaW.PrintMore Go.Proofs.Ytenlmckahaniiaa.MyBits Go.Proofs.Ytenlmckahaniiaa.MyStr Go.Proofs.Ytenlmckahaniiaa.Oct Go.Proofs.Ytenlmckahaniiaa.Obj
theorem lenc_err (l : List S25) (hs : ∀ x ∈ l, SmM x) (h : libC l ≠ 0) : Ev (fun k => zq1k.f k l) ((⟨#[]⟩ : ByteArray), libC l) := by
  unfold zq1k.f
  refine Ev.bind (libC_is l hs) ?_
  exact Ev.congr (fun k => if_neg h) (Ev.now _)
end Go.Proofs.Ytenlmckahaniiaa.Lb
end
section
namespace Go.Proofs.Ytenlmckahaniiaa.K
open Go.RowKit Go.Proofs.YtenlmckahaniiaaW.PrintWords Go.Proofs.YtenlmckahaniiaaW.PrintLast
def zq2.f (k : Nat) (l0 : List (S25)) : Option (Bool) := (zqx.f k l0).bind fun t1044 => (if t1044 = true then (some true) else ((zq1k.f k l0).bind fun bt1045 => (if bt1045.2 = 0 then ((zq1j.f k bt1045.1).bind fun bt1047 => ((zq1k.f k bt1047.1).bind fun bt1051 => (if bt1047.2 = 0 then (if bt1051.2 = 0 then ((zq16.f k l0 bt1047.1).bind fun t1053 => (if t1053 = true then (if bt1045.1.toList = bt1051.1.toList then ((zqr.f k).bind fun t1054 => (some t1054)) else (none)) else (none))) else (none)) else (none)))) else ((zq1n.f k l0).bind fun t1055 => (if bt1045.2 = t1055 then (if bt1045.1.toList = ([] : List UInt8) then ((zqr.f k).bind fun t1056 => (some t1056)) else (none)) else (none))))))
theorem zq2.mono : ∀ a0 k, LeO (zq2.f k a0) (zq2.f (k + 1) a0) := by
 intro a0 k
 unfold zq2.f
 with_reducible repeat' first | apply zqr.mono | apply zqx.mono | apply zq16.mono | apply zq1n.mono | apply zq1j.mono | apply zq1k.mono | exact LeO.refl _ | exact LeO.none _ | refine LeO.ite ?_ ?_ | refine LeO.bind ?_ (fun _ => ?_)
theorem zq2.calls (k : Nat) (A0 : Option Addr) (c0 : Nat) (l0 : List (S25)) (r : Bool) (w : World) (hr0 : Kd.C k25 w A0 l0.length l0) (hc0 : l0.length ≤ c0) (h : zq2.f k l0 = some r) :
  Calls Try.prog 14 #[.slice A0 l0.length c0] w fun e w' => e = .returned (.bool r) ∧ Below w.heap.size w w' := by
 have HR0 := q_ hr0
 have HC0 := q_ hc0
 clear hr0 hc0
 have HB := q_ (Below.refl w.heap.size w)
 have H : ((zqx.f k l0).bind fun t1044 => (if t1044 = true then (some true) else ((zq1k.f k l0).bind fun bt1045 => (if bt1045.2 = 0 then ((zq1j.f k bt1045.1).bind fun bt1047 => ((zq1k.f k bt1047.1).bind fun bt1051 => (if bt1047.2 = 0 then (if bt1051.2 = 0 then ((zq16.f k l0 bt1047.1).bind fun t1053 => (if t1053 = true then (if bt1045.1.toList = bt1051.1.toList then ((zqr.f k).bind fun t1054 => (some t1054)) else (none)) else (none))) else (none)) else (none)))) else ((zq1n.f k l0).bind fun t1055 => (if bt1045.2 = t1055 then (if bt1045.1.toList = ([] : List UInt8) then ((zqr.f k).bind fun t1056 => (some t1056)) else (none)) else (none))))))) = some r := h
 clear h
 replace H := Option.bind_eq_some_iff.mp H
 obtain ⟨t1044, A20, H⟩ := H
 (try dsimp only at H)
 have A2 := q_ A20
 clear A20
 by_cases c3 : t1044 = true
 ·subst c3
  rw [if_pos rfl] at H
  obtain rfl := Option.some.inj H
  go_enter Try.func14, Try.ntmps14
  go_wp2_with (first | ((with_reducible refine gate_callee (f := 31) rfl ?_); refine goesL_ (some 10) rfl rfl Try.func31 (by kernel_rfl) rfl #[.slice A0 l0.length c0] rfl ar_ ?_; (with_reducible refine (zqx.calls k _ _ l0 true _ ?side1 ?side2 A2.out).mono ?_); (case side1 => exact ck_ HR0.out); (case side2 => exact HC0.out); rintro e w4 ⟨rfl, hb⟩; refine ⟨_, rfl, ?_⟩; have n0_ := q_ (below_step hb_ hb); clear HB; have HB := n0_; clear n0_; (try clear hb); (try clear hb2); (try clear hk); (try clear hi)))
  go_ret
  exact ⟨ew_, hb_⟩
 replace c3 := Bool.eq_false_iff.mpr c3
 subst c3
 rw [if_neg (show ¬ (false = true) by decide)] at H
 replace H := Option.bind_eq_some_iff.mp H
 obtain ⟨⟨t1045, t1046⟩, A50, H⟩ := H
 (try dsimp only at H)
 have A5 := q_ A50
 clear A50
 by_cases c6 : t1046 = 0
 rotate_left
 ·rw [if_neg c6] at H
  have c6b0 : (t1046 == 0) = false := beq_eq_false_iff_ne.mpr c6
  have c6b1 : (t1046 != 0) = true := bne_iff_ne.mpr c6
  replace H := Option.bind_eq_some_iff.mp H
  obtain ⟨t1055, A220, H⟩ := H
  (try dsimp only at H)
  have A22 := q_ A220
  clear A220
  by_cases c23 : t1046 = t1055
  rotate_left
  ·rw [if_neg c23] at H
   exact absurd H (by simp)
  rw [if_pos c23] at H
  have c23b0 : (t1046 == t1055) = true := beq_iff_eq.mpr c23
  have c23b1 : (t1046 != t1055) = false := bne_eq_false_iff_eq.mpr c23
  clear c23
  by_cases c24 : t1045.toList = ([] : List UInt8)
  rotate_left
  ·rw [if_neg c24] at H
   exact absurd H (by simp)
  rw [if_pos c24] at H
  have c24b0 : (t1045.toList == ([] : List UInt8)) = true := beq_iff_eq.mpr c24
  have c24b1 : (t1045.toList != ([] : List UInt8)) = false := bne_eq_false_iff_eq.mpr c24
  clear c24
  replace H := Option.bind_eq_some_iff.mp H
  obtain ⟨t1056, A250, H⟩ := H
  (try dsimp only at H)
  have A25 := q_ A250
  clear A250
  obtain rfl := Option.some.inj H
  go_enter Try.func14, Try.ntmps14
  go_wp2_with (first | ((with_reducible refine gate_callee (f := 31) rfl ?_); refine goesL_ (some 10) rfl rfl Try.func31 (by kernel_rfl) rfl #[.slice A0 l0.length c0] rfl ar_ ?_; (with_reducible refine (zqx.calls k _ _ l0 false _ ?side1 ?side2 A2.out).mono ?_); (case side1 => exact ck_ HR0.out); (case side2 => exact HC0.out); rintro e w26 ⟨rfl, hb⟩; refine ⟨_, rfl, ?_⟩; have n0_ := q_ (below_step hb_ hb); clear HB; have HB := n0_; clear n0_; (try clear hb); (try clear hb2); (try clear hk); (try clear hi)) | ((with_reducible refine gate_callee (f := 37) rfl ?_); refine goesL_ (some 13) rfl rfl Try.func37 (by kernel_rfl) rfl #[.slice A0 l0.length c0] rfl ar_ ?_; (with_reducible refine (zq1k.calls k _ _ l0 t1045 t1046 _ ?side1 ?side2 A5.out).mono ?_); (case side1 => exact ck_ (Kd.C_below HR0.out HB.out)); (case side2 => exact HC0.out); rintro e w27 ⟨rfl, hb⟩; refine ⟨_, rfl, ?_⟩; have n0_ := q_ (below_step hb_ hb); clear HB; have HB := n0_; clear n0_; (try clear hb); (try clear hb2); (try clear hk); (try clear hi)) | ((with_reducible refine gate_callee (f := 34) rfl ?_); refine goesL_ (some 20) rfl rfl Try.func34 (by kernel_rfl) rfl #[.slice A0 l0.length c0] rfl ar_ ?_; (with_reducible refine (zq1n.calls k _ _ l0 t1055 _ ?side1 ?side2 A22.out).mono ?_); (case side1 => exact ck_ (Kd.C_below HR0.out HB.out)); (case side2 => exact HC0.out); rintro e w28 ⟨rfl, hb⟩; refine ⟨_, rfl, ?_⟩; have n0_ := q_ (below_step hb_ hb); clear HB; have HB := n0_; clear n0_; (try clear hb); (try clear hb2); (try clear hk); (try clear hi)) | (go_at_call 36; (with_reducible refine (zqr.calls k  t1056 _ A25.out).mono ?_); rintro e w29 ⟨rfl, hb⟩; have n0_ := q_ (below_step hb_ hb); clear HB; have HB := n0_; clear n0_; (try clear hb); (try clear hb2); (try clear hk); (try clear hi)))
  go_ret
  exact ⟨ew_, hb_⟩
 rw [if_pos c6] at H
 have c6b0 : (t1046 == 0) = true := beq_iff_eq.mpr c6
 have c6b1 : (t1046 != 0) = false := bne_eq_false_iff_eq.mpr c6
 clear c6
 replace H := Option.bind_eq_some_iff.mp H
 obtain ⟨⟨t1047, t1048⟩, A70, H⟩ := H
 (try dsimp only at H)
 have A7 := q_ A70
 clear A70
 replace H := Option.bind_eq_some_iff.mp H
 obtain ⟨⟨t1051, t1052⟩, A80, H⟩ := H
 (try dsimp only at H)
 have A8 := q_ A80
 clear A80
 by_cases c9 : t1048 = 0
 rotate_left
 ·rw [if_neg c9] at H
  exact absurd H (by simp)
 rw [if_pos c9] at H
 have c9b0 : (t1048 == 0) = true := beq_iff_eq.mpr c9
 have c9b1 : (t1048 != 0) = false := bne_eq_false_iff_eq.mpr c9
 clear c9
 by_cases c10 : t1052 = 0
 rotate_left
 ·rw [if_neg c10] at H
  exact absurd H (by simp)
 rw [if_pos c10] at H
 have c10b0 : (t1052 == 0) = true := beq_iff_eq.mpr c10
 have c10b1 : (t1052 != 0) = false := bne_eq_false_iff_eq.mpr c10
 clear c10
 replace H := Option.bind_eq_some_iff.mp H
 obtain ⟨t1053, A110, H⟩ := H
 (try dsimp only at H)
 have A11 := q_ A110
 clear A110
 by_cases c12 : t1053 = true
 rotate_left
 ·replace c12 := Bool.eq_false_iff.mpr c12
  subst c12
  rw [if_neg (show ¬ (false = true) by decide)] at H
  exact absurd H (by simp)
 subst c12
 rw [if_pos rfl] at H
 by_cases c13 : t1045.toList = t1051.toList
 rotate_left
 ·rw [if_neg c13] at H
  exact absurd H (by simp)
 rw [if_pos c13] at H
 have c13b0 : (t1045.toList == t1051.toList) = true := beq_iff_eq.mpr c13
 have c13b1 : (t1045.toList != t1051.toList) = false := bne_eq_false_iff_eq.mpr c13
 clear c13
 replace H := Option.bind_eq_some_iff.mp H
 obtain ⟨t1054, A140, H⟩ := H
 (try dsimp only at H)
 have A14 := q_ A140
 clear A140
 obtain rfl := Option.some.inj H
 go_enter Try.func14, Try.ntmps14
 go_wp2_with (first | ((with_reducible refine gate_callee (f := 31) rfl ?_); refine goesL_ (some 10) rfl rfl Try.func31 (by kernel_rfl) rfl #[.slice A0 l0.length c0] rfl ar_ ?_; (with_reducible refine (zqx.calls k _ _ l0 false _ ?side1 ?side2 A2.out).mono ?_); (case side1 => exact ck_ HR0.out); (case side2 => exact HC0.out); rintro e w15 ⟨rfl, hb⟩; refine ⟨_, rfl, ?_⟩; have n0_ := q_ (below_step hb_ hb); clear HB; have HB := n0_; clear n0_; (try clear hb); (try clear hb2); (try clear hk); (try clear hi)) | ((with_reducible refine gate_callee (f := 37) rfl ?_); refine goesL_ (some 13) rfl rfl Try.func37 (by kernel_rfl) rfl #[.slice A0 l0.length c0] rfl ar_ ?_; (with_reducible refine (zq1k.calls k _ _ l0 t1045 t1046 _ ?side1 ?side2 A5.out).mono ?_); (case side1 => exact ck_ (Kd.C_below HR0.out HB.out)); (case side2 => exact HC0.out); rintro e w16 ⟨rfl, hb⟩; refine ⟨_, rfl, ?_⟩; have n0_ := q_ (below_step hb_ hb); clear HB; have HB := n0_; clear n0_; (try clear hb); (try clear hb2); (try clear hk); (try clear hi)) | ((with_reducible refine gate_callee (f := 39) rfl ?_); refine goesL_ (some 31) rfl rfl Try.func39 (by kernel_rfl) rfl #[.string t1045] rfl ar_ ?_; (with_reducible refine (zq1j.calls k t1045 t1047 t1048 _ A7.out).mono ?_); rintro e w17 ⟨v1049, rfl, ho0, hb⟩; refine ⟨_, rfl, ?_⟩; have n0_ := q_ (Kd.S_lower ho0 (below_size hb_)); have n1_ := q_ (below_step hb_ hb); clear HB; have HO1050 := n0_; have HB := n1_; clear n0_ n1_; (try clear hb); (try clear hb2); (try clear hk); (try clear hi); (try clear ho0); obtain ⟨Ao18, co18, eo18⟩ := Kd.S_slice HO1050.out; subst eo18) | ((with_reducible refine gate_callee (f := 37) rfl ?_); refine goesL_ (some 36) rfl rfl Try.func37 (by kernel_rfl) rfl #[.slice Ao18 t1047.length co18] rfl ar_ ?_; (with_reducible refine (zq1k.calls k _ _ t1047 t1051 t1052 _ ?side1 ?side2 A8.out).mono ?_); (case side1 => exact ck_ (Kd.S_reads' HO1050.out).2.2); (case side2 => exact (Kd.S_reads' HO1050.out).2.1); rintro e w19 ⟨rfl, hb⟩; refine ⟨_, rfl, ?_⟩; have n0_ := q_ (Kd.S_below (by (with_reducible repeat (first | apply Kd.S_alloc | apply Kd.S_drewN | apply Kd.S_drew)); exact HO1050.out) hb); have n1_ := q_ (below_step hb_ hb); clear HO1050 HB; have HO1050 := n0_; have HB := n1_; clear n0_ n1_; (try clear hb); (try clear hb2); (try clear hk); (try clear hi)) | (go_at_call 41; (with_reducible refine (zq16.calls k _ _ l0 _ _ t1047 true _ ?side1 ?side2 ?side3 ?side4 A11.out).mono ?_); (case side1 => exact ck_ (Kd.C_below HR0.out HB.out)); (case side2 => exact HC0.out); (case side3 => exact ck_ (Kd.S_reads' HO1050.out).2.2); (case side4 => exact (Kd.S_reads' HO1050.out).2.1); rintro e w20 ⟨rfl, hb⟩; have n0_ := q_ (Kd.S_below (by (with_reducible repeat (first | apply Kd.S_alloc | apply Kd.S_drewN | apply Kd.S_drew)); exact HO1050.out) hb); have n1_ := q_ (below_step hb_ hb); clear HO1050 HB; have HO1050 := n0_; have HB := n1_; clear n0_ n1_; (try clear hb); (try clear hb2); (try clear hk); (try clear hi)) | (go_at_call 36; (with_reducible refine (zqr.calls k  t1054 _ A14.out).mono ?_); rintro e w21 ⟨rfl, hb⟩; have n0_ := q_ (Kd.S_below (by (with_reducible repeat (first | apply Kd.S_alloc | apply Kd.S_drewN | apply Kd.S_drew)); exact HO1050.out) hb); have n1_ := q_ (below_step hb_ hb); clear HO1050 HB; have HO1050 := n0_; have HB := n1_; clear n0_ n1_; (try clear hb); (try clear hb2); (try clear hk); (try clear hi)))
 go_ret
 exact ⟨ew_, hb_⟩
end Go.Proofs.Ytenlmckahaniiaa.K
end
section
namespace Go.Proofs.Ytenlmckahaniiaa.K
open Go.RowKit Go.Proofs.YtenlmckahaniiaaW.PrintWords Go.Proofs.YtenlmckahaniiaaW.PrintLast
def zq2.Pure : Prop := ∀ (l0 : List (S25)), (WfL wf25) l0 → ∃ k, zq2.f k l0 = some true
end Go.Proofs.Ytenlmckahaniiaa.K
end
section
namespace Go.Proofs.Ytenlmckahaniiaa.Pure
open Go Go.RowKit Go.Proofs.Ytenlmckahaniiaa.K Go.Proofs.YtenlmckahaniiaaW.PrintWords Go.Proofs.YtenlmckahaniiaaW.PrintMore Go.Proofs.Ytenlmckahaniiaa.MyBits Go.Proofs.Ytenlmckahaniiaa.MyStr Go.Proofs.Ytenlmckahaniiaa.Oct Go.Proofs.Ytenlmckahaniiaa.Obj Go.Proofs.Ytenlmckahaniiaa.Lb
theorem LibraryReturns : zq2.Pure := by
  intro l0 _
  refine Ev.rounds ?_
  unfold zq2.f
  obtain ⟨b, hb, hs⟩ := great_is l0
  refine Ev.bind hb ?_
  refine Ev.ite (fun h => Ev.now _) (fun h => ?_)
  have hS := hs (Bool.eq_false_iff.mpr h)
  by_cases hc : libC l0 = 0
  · refine Ev.bind (lenc_is l0 hS.m hc) ?_
    refine Ev.congr (fun k => if_pos rfl) ?_
    refine Ev.bind (ldec_is l0 hS.m hc) ?_
    refine Ev.bind (lenc_is l0 hS.m hc) ?_
    refine Ev.congr (fun k => by rw [if_pos rfl, if_pos rfl]) ?_
    refine Ev.bind (same29_is l0 (by have := hS.n; omega) (fun x hx => ⟨by have := (hS.m x hx).n4; omega, by have := (hS.m x hx).n5; omega⟩)) ?_
    exact Ev.congr (fun k => by rw [if_pos rfl, if_pos rfl]) Lb.alive_end
  · refine Ev.bind (lenc_err l0 hS.m hc) ?_
    refine Ev.congr (fun k => if_neg hc) ?_
    refine Ev.bind (libC_is l0 hS.m) ?_
    exact Ev.congr (fun k => by rw [if_pos rfl, if_pos (by rw [toList_bs]; rfl)]) Lb.alive_end
end Go.Proofs.Ytenlmckahaniiaa.Pure
end
