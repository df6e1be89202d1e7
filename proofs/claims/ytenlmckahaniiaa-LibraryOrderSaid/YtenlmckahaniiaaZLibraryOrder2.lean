/- Lemmas for the law LibraryOrder: what its proof needs beyond what it shares. -/
import Derived.Test.YtenlmckahaniiaaZLibraryOrder1
import Derived.Test.YtenlmckahaniiaaZcLib16
set_option linter.unusedVariables false
set_option linter.unusedSimpArgs false
set_option linter.unusedSectionVars false
set_option maxHeartbeats 8000000
set_option maxRecDepth 100000
section
namespace Go.Proofs.Ytenlmckahaniiaa.K
open Go.RowKit Go.Proofs.YtenlmckahaniiaaW.PrintWords Go.Proofs.YtenlmckahaniiaaW.PrintLast
mutual
def zq8.l0 : Nat → List (S25) → List (S25) → List (S25) → Int → Option (Bool)
  | 0, _, _, _, _ => none
  | k + 1, x0, x1, x5, x6 => if x6 ≥ 0 then (if 0 ≤ x6 then (if x6 < (x0.length : Int) then (if x5.length < 1353245080339 then (zq8.l0 k x0 x1 (x5 ++ [(⟨(rd_T25 x0 x6).f0, (rd_T25 x0 x6).f1, (rd_T25 x0 x6).f2, (rd_T25 x0 x6).f3, (rd_T25 x0 x6).f4, (rd_T25 x0 x6).f5⟩ : S25)]) (wrap64 (x6 - 1))) else (none)) else (none)) else (none)) else ((zq1l.f k x0 x1).bind fun t1112 => ((zq1l.f k x5 x1).bind fun t1115 => (if (t1112.length : Int) = (t1115.length : Int) then (zq8.l1 k x0 t1112 t1115 0) else (none))))
def zq8.l1 : Nat → List (S25) → List Int → List Int → Int → Option (Bool)
  | 0, _, _, _, _ => none
  | k + 1, x0, x7, x8, x9 => if x9 < (x7.length : Int) then (if 0 ≤ x9 then (if x9 < (x8.length : Int) then (if (rd x7 x9) = (wrap64 ((wrap64 ((x0.length : Int) - 1)) - (rd x8 x9))) then (zq8.l1 k x0 x7 x8 (wrap64 (x9 + 1))) else (none)) else (none)) else (none)) else ((zqr.f k).bind fun t1120 => (some t1120))
end
def zq8.f (k : Nat) (l0 : List (S25)) (l1 : List (S25)) : Option (Bool) := (zqx.f k l0).bind fun t1105 => (if t1105 = true then (some true) else ((zqx.f k l1).bind fun t1106 => (if t1106 = true then (some true) else ((zqs.f k l0).bind fun t1107 => (if t1107 = true then (zq8.l0 k l0 l1 ([] : List (S25)) (wrap64 ((l0.length : Int) - 1))) else (some true))))))
theorem zq8.mono_l : ∀ k, (∀ y0 y1 y2 y3, LeO (zq8.l0 k y0 y1 y2 y3) (zq8.l0 (k + 1) y0 y1 y2 y3)) ∧ (∀ y0 y1 y2 y3, LeO (zq8.l1 k y0 y1 y2 y3) (zq8.l1 (k + 1) y0 y1 y2 y3))
 | 0 => ⟨fun _ _ _ _ r h => by simp [zq8.l0] at h, fun _ _ _ _ r h => by simp [zq8.l1] at h⟩
 | k + 1 => by
  obtain ⟨ih0, ih1⟩ := zq8.mono_l k
  refine ⟨?_, ?_⟩
  ·intro y0 y1 y2 y3
   unfold zq8.l0
   with_reducible repeat' first | apply ih0 | apply ih1 | apply zqr.mono | apply zqs.mono | apply zqx.mono | apply zq1l.mono | exact LeO.refl _ | exact LeO.none _ | refine LeO.ite ?_ ?_ | refine LeO.bind ?_ (fun _ => ?_)
  ·intro y0 y1 y2 y3
   unfold zq8.l1
   with_reducible repeat' first | apply ih0 | apply ih1 | apply zqr.mono | apply zqs.mono | apply zqx.mono | apply zq1l.mono | exact LeO.refl _ | exact LeO.none _ | refine LeO.ite ?_ ?_ | refine LeO.bind ?_ (fun _ => ?_)
theorem zq8.mono : ∀ a0 a1 k, LeO (zq8.f k a0 a1) (zq8.f (k + 1) a0 a1) := by
 intro a0 a1 k
 obtain ⟨ih0, ih1⟩ := zq8.mono_l k
 unfold zq8.f
 with_reducible repeat' first | apply ih0 | apply ih1 | apply zqr.mono | apply zqs.mono | apply zqx.mono | apply zq1l.mono | exact LeO.refl _ | exact LeO.none _ | refine LeO.ite ?_ ?_ | refine LeO.bind ?_ (fun _ => ?_)
theorem zq8.calls (k : Nat) (P0_ : Nat → Prop) (A0 : Option Addr) (c0 : Nat) (l0 : List (S25)) (A1 : Option Addr) (c1 : Nat) (l1 : List (S25)) (r : Bool) (w : World) (hs0 : Kd.V k25 25 w w.heap.size (fun k_ => P0_ k_) (.slice A0 l0.length c0) l0) (hr1 : Kd.C k25 w A1 l1.length l1) (hc1 : l1.length ≤ c1) (h : zq8.f k l0 l1 = some r) :
  Calls Try.prog 16 #[.slice A0 l0.length c0, .slice A1 l1.length c1] w fun e w' => e = .returned (.bool r) ∧ Below w.heap.size w w' := by
 have hu25 := Try.underlying25
 have HO0 := q_ (show Kd.V k25 25 w w.heap.size (fun k_ => (P0_ k_ ∨ w.heap.size ≤ k_)) (.slice A0 l0.length c0) l0 from Kd.V_mono hs0 (fun k_ hk => .inl hk))
 have HR1 := q_ hr1
 have HC1 := q_ hc1
 clear hr1 hc1
 have HB := q_ (Below.refl w.heap.size w)
 have H : ((zqx.f k l0).bind fun t1105 => (if t1105 = true then (some true) else ((zqx.f k l1).bind fun t1106 => (if t1106 = true then (some true) else ((zqs.f k l0).bind fun t1107 => (if t1107 = true then (zq8.l0 k l0 l1 ([] : List (S25)) (wrap64 ((l0.length : Int) - 1))) else (some true))))))) = some r := h
 clear h
 replace H := Option.bind_eq_some_iff.mp H
 obtain ⟨t1105, A30, H⟩ := H
 (try dsimp only at H)
 have A3 := q_ A30
 clear A30
 by_cases c4 : t1105 = true
 ·subst c4
  rw [if_pos rfl] at H
  obtain rfl := Option.some.inj H
  go_enter Try.func16, Try.ntmps16
  go_wp2_with (first | (go_at_call 31; (with_reducible refine (zqx.calls k _ _ l0 true _ ?side1 ?side2 A3.out).mono ?_); (case side1 => exact ck_ (Kd.V_reads' HO0.out).2.2); (case side2 => exact (Kd.V_reads' HO0.out).2.1); rintro e w5 ⟨rfl, hb⟩; have n0_ := q_ (Kd.V_below (vk_ HO0.out) hb); have n1_ := q_ (below_step hb_ hb); clear HO0 HB; have HO0 := n0_; have HB := n1_; clear n0_ n1_; clear hb))
  repeat (go_quiet (first | (go_at_call 31; (with_reducible refine (zqx.calls k _ _ l0 true _ ?side1 ?side2 A3.out).mono ?_); (case side1 => exact ck_ (Kd.V_reads' HO0.out).2.2); (case side2 => exact (Kd.V_reads' HO0.out).2.1); rintro e w5 ⟨rfl, hb⟩; have n0_ := q_ (Kd.V_below (vk_ HO0.out) hb); have n1_ := q_ (below_step hb_ hb); clear HO0 HB; have HO0 := n0_; have HB := n1_; clear n0_ n1_; (try clear hb); (try clear hb2); (try clear hk); (try clear hi))); try go_wp2_with (first | (go_at_call 31; (with_reducible refine (zqx.calls k _ _ l0 true _ ?side1 ?side2 A3.out).mono ?_); (case side1 => exact ck_ (Kd.V_reads' HO0.out).2.2); (case side2 => exact (Kd.V_reads' HO0.out).2.1); rintro e w5 ⟨rfl, hb⟩; have n0_ := q_ (Kd.V_below (vk_ HO0.out) hb); have n1_ := q_ (below_step hb_ hb); clear HO0 HB; have HO0 := n0_; have HB := n1_; clear n0_ n1_; (try clear hb); (try clear hb2); (try clear hk); (try clear hi))))
  go_ret
  exact ⟨ew_, hb_⟩
 replace c4 := Bool.eq_false_iff.mpr c4
 subst c4
 rw [if_neg (show ¬ (false = true) by decide)] at H
 replace H := Option.bind_eq_some_iff.mp H
 obtain ⟨t1106, A60, H⟩ := H
 (try dsimp only at H)
 have A6 := q_ A60
 clear A60
 by_cases c7 : t1106 = true
 ·subst c7
  rw [if_pos rfl] at H
  obtain rfl := Option.some.inj H
  go_enter Try.func16, Try.ntmps16
  go_wp2_with (first | (go_at_call 31; (with_reducible refine (zqx.calls k _ _ l0 false _ ?side1 ?side2 A3.out).mono ?_); (case side1 => exact ck_ (Kd.V_reads' HO0.out).2.2); (case side2 => exact (Kd.V_reads' HO0.out).2.1); rintro e w8 ⟨rfl, hb⟩; have n0_ := q_ (Kd.V_below (vk_ HO0.out) hb); have n1_ := q_ (below_step hb_ hb); clear HO0 HB; have HO0 := n0_; have HB := n1_; clear n0_ n1_; clear hb) | (go_at_call 31; (with_reducible refine (zqx.calls k _ _ l1 true _ ?side1 ?side2 A6.out).mono ?_); (case side1 => exact ck_ (Kd.C_below HR1.out HB.out)); (case side2 => exact HC1.out); rintro e w9 ⟨rfl, hb⟩; have n0_ := q_ (Kd.V_below (vk_ HO0.out) hb); have n1_ := q_ (below_step hb_ hb); clear HO0 HB; have HO0 := n0_; have HB := n1_; clear n0_ n1_; clear hb))
  repeat (go_quiet (first | (go_at_call 31; (with_reducible refine (zqx.calls k _ _ l0 false _ ?side1 ?side2 A3.out).mono ?_); (case side1 => exact ck_ (Kd.V_reads' HO0.out).2.2); (case side2 => exact (Kd.V_reads' HO0.out).2.1); rintro e w8 ⟨rfl, hb⟩; have n0_ := q_ (Kd.V_below (vk_ HO0.out) hb); have n1_ := q_ (below_step hb_ hb); clear HO0 HB; have HO0 := n0_; have HB := n1_; clear n0_ n1_; (try clear hb); (try clear hb2); (try clear hk); (try clear hi)) | (go_at_call 31; (with_reducible refine (zqx.calls k _ _ l1 true _ ?side1 ?side2 A6.out).mono ?_); (case side1 => exact ck_ (Kd.C_below HR1.out HB.out)); (case side2 => exact HC1.out); rintro e w9 ⟨rfl, hb⟩; have n0_ := q_ (Kd.V_below (vk_ HO0.out) hb); have n1_ := q_ (below_step hb_ hb); clear HO0 HB; have HO0 := n0_; have HB := n1_; clear n0_ n1_; (try clear hb); (try clear hb2); (try clear hk); (try clear hi))); try go_wp2_with (first | (go_at_call 31; (with_reducible refine (zqx.calls k _ _ l0 false _ ?side1 ?side2 A3.out).mono ?_); (case side1 => exact ck_ (Kd.V_reads' HO0.out).2.2); (case side2 => exact (Kd.V_reads' HO0.out).2.1); rintro e w8 ⟨rfl, hb⟩; have n0_ := q_ (Kd.V_below (vk_ HO0.out) hb); have n1_ := q_ (below_step hb_ hb); clear HO0 HB; have HO0 := n0_; have HB := n1_; clear n0_ n1_; (try clear hb); (try clear hb2); (try clear hk); (try clear hi)) | (go_at_call 31; (with_reducible refine (zqx.calls k _ _ l1 true _ ?side1 ?side2 A6.out).mono ?_); (case side1 => exact ck_ (Kd.C_below HR1.out HB.out)); (case side2 => exact HC1.out); rintro e w9 ⟨rfl, hb⟩; have n0_ := q_ (Kd.V_below (vk_ HO0.out) hb); have n1_ := q_ (below_step hb_ hb); clear HO0 HB; have HO0 := n0_; have HB := n1_; clear n0_ n1_; (try clear hb); (try clear hb2); (try clear hk); (try clear hi))))
  go_ret
  exact ⟨ew_, hb_⟩
 replace c7 := Bool.eq_false_iff.mpr c7
 subst c7
 rw [if_neg (show ¬ (false = true) by decide)] at H
 replace H := Option.bind_eq_some_iff.mp H
 obtain ⟨t1107, A100, H⟩ := H
 (try dsimp only at H)
 have A10 := q_ A100
 clear A100
 by_cases c11 : t1107 = true
 rotate_left
 ·replace c11 := Bool.eq_false_iff.mpr c11
  subst c11
  rw [if_neg (show ¬ (false = true) by decide)] at H
  obtain rfl := Option.some.inj H
  go_enter Try.func16, Try.ntmps16
  go_wp2_with (first | (go_at_call 31; (with_reducible refine (zqx.calls k _ _ l0 false _ ?side1 ?side2 A3.out).mono ?_); (case side1 => exact ck_ (Kd.V_reads' HO0.out).2.2); (case side2 => exact (Kd.V_reads' HO0.out).2.1); rintro e w34 ⟨rfl, hb⟩; have n0_ := q_ (Kd.V_below (vk_ HO0.out) hb); have n1_ := q_ (below_step hb_ hb); clear HO0 HB; have HO0 := n0_; have HB := n1_; clear n0_ n1_; clear hb) | (go_at_call 31; (with_reducible refine (zqx.calls k _ _ l1 false _ ?side1 ?side2 A6.out).mono ?_); (case side1 => exact ck_ (Kd.C_below HR1.out HB.out)); (case side2 => exact HC1.out); rintro e w35 ⟨rfl, hb⟩; have n0_ := q_ (Kd.V_below (vk_ HO0.out) hb); have n1_ := q_ (below_step hb_ hb); clear HO0 HB; have HO0 := n0_; have HB := n1_; clear n0_ n1_; clear hb) | (go_at_call 47; (with_reducible refine (zqs.calls k _ _ l0 false _ ?side1 ?side2 A10.out).mono ?_); (case side1 => exact ck_ (Kd.V_reads' HO0.out).2.2); (case side2 => exact (Kd.V_reads' HO0.out).2.1); rintro e w36 ⟨rfl, hb⟩; have n0_ := q_ (Kd.V_below (vk_ HO0.out) hb); have n1_ := q_ (below_step hb_ hb); clear HO0 HB; have HO0 := n0_; have HB := n1_; clear n0_ n1_; clear hb))
  repeat (go_quiet (first | (go_at_call 31; (with_reducible refine (zqx.calls k _ _ l0 false _ ?side1 ?side2 A3.out).mono ?_); (case side1 => exact ck_ (Kd.V_reads' HO0.out).2.2); (case side2 => exact (Kd.V_reads' HO0.out).2.1); rintro e w34 ⟨rfl, hb⟩; have n0_ := q_ (Kd.V_below (vk_ HO0.out) hb); have n1_ := q_ (below_step hb_ hb); clear HO0 HB; have HO0 := n0_; have HB := n1_; clear n0_ n1_; (try clear hb); (try clear hb2); (try clear hk); (try clear hi)) | (go_at_call 31; (with_reducible refine (zqx.calls k _ _ l1 false _ ?side1 ?side2 A6.out).mono ?_); (case side1 => exact ck_ (Kd.C_below HR1.out HB.out)); (case side2 => exact HC1.out); rintro e w35 ⟨rfl, hb⟩; have n0_ := q_ (Kd.V_below (vk_ HO0.out) hb); have n1_ := q_ (below_step hb_ hb); clear HO0 HB; have HO0 := n0_; have HB := n1_; clear n0_ n1_; (try clear hb); (try clear hb2); (try clear hk); (try clear hi)) | (go_at_call 47; (with_reducible refine (zqs.calls k _ _ l0 false _ ?side1 ?side2 A10.out).mono ?_); (case side1 => exact ck_ (Kd.V_reads' HO0.out).2.2); (case side2 => exact (Kd.V_reads' HO0.out).2.1); rintro e w36 ⟨rfl, hb⟩; have n0_ := q_ (Kd.V_below (vk_ HO0.out) hb); have n1_ := q_ (below_step hb_ hb); clear HO0 HB; have HO0 := n0_; have HB := n1_; clear n0_ n1_; (try clear hb); (try clear hb2); (try clear hk); (try clear hi))); try go_wp2_with (first | (go_at_call 31; (with_reducible refine (zqx.calls k _ _ l0 false _ ?side1 ?side2 A3.out).mono ?_); (case side1 => exact ck_ (Kd.V_reads' HO0.out).2.2); (case side2 => exact (Kd.V_reads' HO0.out).2.1); rintro e w34 ⟨rfl, hb⟩; have n0_ := q_ (Kd.V_below (vk_ HO0.out) hb); have n1_ := q_ (below_step hb_ hb); clear HO0 HB; have HO0 := n0_; have HB := n1_; clear n0_ n1_; (try clear hb); (try clear hb2); (try clear hk); (try clear hi)) | (go_at_call 31; (with_reducible refine (zqx.calls k _ _ l1 false _ ?side1 ?side2 A6.out).mono ?_); (case side1 => exact ck_ (Kd.C_below HR1.out HB.out)); (case side2 => exact HC1.out); rintro e w35 ⟨rfl, hb⟩; have n0_ := q_ (Kd.V_below (vk_ HO0.out) hb); have n1_ := q_ (below_step hb_ hb); clear HO0 HB; have HO0 := n0_; have HB := n1_; clear n0_ n1_; (try clear hb); (try clear hb2); (try clear hk); (try clear hi)) | (go_at_call 47; (with_reducible refine (zqs.calls k _ _ l0 false _ ?side1 ?side2 A10.out).mono ?_); (case side1 => exact ck_ (Kd.V_reads' HO0.out).2.2); (case side2 => exact (Kd.V_reads' HO0.out).2.1); rintro e w36 ⟨rfl, hb⟩; have n0_ := q_ (Kd.V_below (vk_ HO0.out) hb); have n1_ := q_ (below_step hb_ hb); clear HO0 HB; have HO0 := n0_; have HB := n1_; clear n0_ n1_; (try clear hb); (try clear hb2); (try clear hk); (try clear hi))))
  go_ret
  exact ⟨ew_, hb_⟩
 subst c11
 rw [if_pos rfl] at H
 have H' := q_ H
 clear H
 go_enter Try.func16, Try.ntmps16
 go_wp2_with (first | (go_at_call 31; (with_reducible refine (zqx.calls k _ _ l0 false _ ?side1 ?side2 A3.out).mono ?_); (case side1 => exact ck_ (Kd.V_reads' HO0.out).2.2); (case side2 => exact (Kd.V_reads' HO0.out).2.1); rintro e w12 ⟨rfl, hb⟩; have n0_ := q_ (Kd.V_below (vk_ HO0.out) hb); have n1_ := q_ (below_step hb_ hb); clear HO0 HB; have HO0 := n0_; have HB := n1_; clear n0_ n1_; clear hb) | (go_at_call 31; (with_reducible refine (zqx.calls k _ _ l1 false _ ?side1 ?side2 A6.out).mono ?_); (case side1 => exact ck_ (Kd.C_below HR1.out HB.out)); (case side2 => exact HC1.out); rintro e w13 ⟨rfl, hb⟩; have n0_ := q_ (Kd.V_below (vk_ HO0.out) hb); have n1_ := q_ (below_step hb_ hb); clear HO0 HB; have HO0 := n0_; have HB := n1_; clear n0_ n1_; clear hb) | (go_at_call 47; (with_reducible refine (zqs.calls k _ _ l0 true _ ?side1 ?side2 A10.out).mono ?_); (case side1 => exact ck_ (Kd.V_reads' HO0.out).2.2); (case side2 => exact (Kd.V_reads' HO0.out).2.1); rintro e w14 ⟨rfl, hb⟩; have n0_ := q_ (Kd.V_below (vk_ HO0.out) hb); have n1_ := q_ (below_step hb_ hb); clear HO0 HB; have HO0 := n0_; have HB := n1_; clear n0_ n1_; clear hb))
 repeat (go_quiet (first | (go_at_call 31; (with_reducible refine (zqx.calls k _ _ l0 false _ ?side1 ?side2 A3.out).mono ?_); (case side1 => exact ck_ (Kd.V_reads' HO0.out).2.2); (case side2 => exact (Kd.V_reads' HO0.out).2.1); rintro e w12 ⟨rfl, hb⟩; have n0_ := q_ (Kd.V_below (vk_ HO0.out) hb); have n1_ := q_ (below_step hb_ hb); clear HO0 HB; have HO0 := n0_; have HB := n1_; clear n0_ n1_; (try clear hb); (try clear hb2); (try clear hk); (try clear hi)) | (go_at_call 31; (with_reducible refine (zqx.calls k _ _ l1 false _ ?side1 ?side2 A6.out).mono ?_); (case side1 => exact ck_ (Kd.C_below HR1.out HB.out)); (case side2 => exact HC1.out); rintro e w13 ⟨rfl, hb⟩; have n0_ := q_ (Kd.V_below (vk_ HO0.out) hb); have n1_ := q_ (below_step hb_ hb); clear HO0 HB; have HO0 := n0_; have HB := n1_; clear n0_ n1_; (try clear hb); (try clear hb2); (try clear hk); (try clear hi)) | (go_at_call 47; (with_reducible refine (zqs.calls k _ _ l0 true _ ?side1 ?side2 A10.out).mono ?_); (case side1 => exact ck_ (Kd.V_reads' HO0.out).2.2); (case side2 => exact (Kd.V_reads' HO0.out).2.1); rintro e w14 ⟨rfl, hb⟩; have n0_ := q_ (Kd.V_below (vk_ HO0.out) hb); have n1_ := q_ (below_step hb_ hb); clear HO0 HB; have HO0 := n0_; have HB := n1_; clear n0_ n1_; (try clear hb); (try clear hb2); (try clear hk); (try clear hi))); try go_wp2_with (first | (go_at_call 31; (with_reducible refine (zqx.calls k _ _ l0 false _ ?side1 ?side2 A3.out).mono ?_); (case side1 => exact ck_ (Kd.V_reads' HO0.out).2.2); (case side2 => exact (Kd.V_reads' HO0.out).2.1); rintro e w12 ⟨rfl, hb⟩; have n0_ := q_ (Kd.V_below (vk_ HO0.out) hb); have n1_ := q_ (below_step hb_ hb); clear HO0 HB; have HO0 := n0_; have HB := n1_; clear n0_ n1_; (try clear hb); (try clear hb2); (try clear hk); (try clear hi)) | (go_at_call 31; (with_reducible refine (zqx.calls k _ _ l1 false _ ?side1 ?side2 A6.out).mono ?_); (case side1 => exact ck_ (Kd.C_below HR1.out HB.out)); (case side2 => exact HC1.out); rintro e w13 ⟨rfl, hb⟩; have n0_ := q_ (Kd.V_below (vk_ HO0.out) hb); have n1_ := q_ (below_step hb_ hb); clear HO0 HB; have HO0 := n0_; have HB := n1_; clear n0_ n1_; (try clear hb); (try clear hb2); (try clear hk); (try clear hi)) | (go_at_call 47; (with_reducible refine (zqs.calls k _ _ l0 true _ ?side1 ?side2 A10.out).mono ?_); (case side1 => exact ck_ (Kd.V_reads' HO0.out).2.2); (case side2 => exact (Kd.V_reads' HO0.out).2.1); rintro e w14 ⟨rfl, hb⟩; have n0_ := q_ (Kd.V_below (vk_ HO0.out) hb); have n1_ := q_ (below_step hb_ hb); clear HO0 HB; have HO0 := n0_; have HB := n1_; clear n0_ n1_; (try clear hb); (try clear hb2); (try clear hk); (try clear hi))))
 go_loopg [5, 6] k (fun kq v5 v6 w' => ∃ (x5_1 : List (S25)) (x6_1 : Int), v6 = .int .i64 x6_1 ∧ Aside0 (zq8.l0 kq l0 l1 x5_1 x6_1 = some r) ∧ Aside0 (kq ≤ k) ∧ Aside0 (Kd.V k25 25 w' w.heap.size (fun k_ => (P0_ k_ ∨ w.heap.size ≤ k_) ∧ some k_ ≠ (v5 : Value).ownBlock) (.slice A0 l0.length c0) l0) ∧ Aside0 (Kd.N k25 25 w' w.heap.size (fun k_ => (P0_ k_ ∨ w.heap.size ≤ k_)) v5 x5_1) ∧ Aside0 (Below w.heap.size w w'))
 case atStart => exact ⟨(([] : List (S25))), (wrap64 ((l0.length : Int) - 1)), cl_, H', ⟨Nat.le_refl _⟩, ⟨by (with_reducible repeat (first | apply Kd.V_alloc | apply Kd.V_drewN | apply Kd.V_drew)); exact Kd.V_mono HO0.out (fun _ hk => ⟨hk, (by simp [Value.ownBlock])⟩)⟩, ⟨by first | exact Kd.S_nil _ _ _ _ _ | exact Kd.N_nil _ _ _ _ _ | exact Kd.V_nil _ _ _ _ _ | exact Kd.Q_nil _ _ _ _ _ | exact Kd.R_nil _ _ _ _ _⟩, ⟨hb_⟩⟩
 case round =>
  clear H'
  obtain ⟨x5_1, x6_1, rfl, HA, HK1, HO_0, HO_5, HB⟩ := hrel
  cases gk with
  | zero => exact absurd HA.out (by simp [zq8.l0])
  | succ k1 =>
   have H := HA.out
   clear HA
   simp only [zq8.l0] at H
   by_cases c15 : x6_1 ≥ 0
   ·rw [if_pos c15] at H
    have c15b0 : decide (0 ≤ x6_1) = true := decide_eq_true c15
    clear c15
    by_cases c16 : 0 ≤ x6_1
    rotate_left
    ·rw [if_neg c16] at H
     exact absurd H (by simp)
    rw [if_pos c16] at H
    have c16b0 : decide (0 ≤ x6_1) = true := decide_eq_true c16
    clear c16
    by_cases c17 : x6_1 < (l0.length : Int)
    rotate_left
    ·rw [if_neg c17] at H
     exact absurd H (by simp)
    rw [if_pos c17] at H
    have c17b0 : decide (x6_1 < (l0.length : Int)) = true := decide_eq_true c17
    clear c17
    by_cases c18 : x5_1.length < 1353245080339
    rotate_left
    ·rw [if_neg c18] at H
     exact absurd H (by simp)
    rw [if_pos c18] at H
    have LMc18 := q_ c18
    clear c18
    obtain ⟨y1109, hy1109⟩ : ∃ y_ : List (S25), y_ = (x5_1 ++ [(⟨(rd_T25 l0 x6_1).f0, (rd_T25 l0 x6_1).f1, (rd_T25 l0 x6_1).f2, (rd_T25 l0 x6_1).f3, (rd_T25 l0 x6_1).f4, (rd_T25 l0 x6_1).f5⟩ : S25)]) := ⟨_, rfl⟩
    replace H : (zq8.l0 k1 l0 l1 y1109 (wrap64 (x6_1 - 1))) = some r := by first | (rw [hy1109]; with_reducible exact H) | (have H2_ := (Option.bind_some _ _).symm.trans H; rw [hy1109]; with_reducible exact H2_) | (have H2_ := (Option.bind_some _ _).symm.trans H; with_reducible exact H2_) | with_reducible exact H | (rw [hy1109]; exact H) | exact H
    have Ny1109 := q_ hy1109
    clear hy1109
    have H' := q_ H
    clear H
    have p1108 : 0 ≤ (x6_1 : Int) := oa_
    have q1108 : x6_1 < (l0.length : Int) := oa_
    obtain ⟨ad1108, A1108_4, c1108_4, A1108_5, c1108_5, e1108, hx1108_0, hx1108_1, hx1108_2, hx1108_3, hx1108_4, hx1108_5, hl1108_4, hi1108_4, hl1108_5, hi1108_5⟩ := at_T25 (Kd.V_reads' HO_0.out).2.2 x6_1 p1108 q1108
    cases e1108
    obtain ⟨ce1108, hce1108, hMe1108, hcc1108⟩ := Kd.V_get HO_0.out z25 x6_1 p1108 (by first | exact q1108 | exact oa_ | (have e_ := (Kd.V_reads' HO_0.out).1; omega))
    obtain ⟨ua1108_4, uc1108_4, ua1108_5, uc1108_5, rfl, ul1108_4, ge1108_4, ul1108_5, ge1108_5⟩ := k25_openF hMe1108
    have hv1108_4 := hcc1108 4 _ rfl
    rw [add_field _ _ 4 (by omega)] at hv1108_4
    replace hv1108_4 := Option.some.inj (hv1108_4.symm.trans hx1108_4)
    injection hv1108_4 with hva_ hvn_ hvc_
    rw [hva_] at ge1108_4
    rw [hvc_] at ul1108_4
    have HL1108_4 := q_ (show Kd.V k62 62 _ w.heap.size _ _ ((rd_T25 l0 x6_1).f4) from Kd.V_mk ul1108_4 ge1108_4)
    clear hva_ hvn_ hvc_ ge1108_4 ul1108_4
    have hv1108_5 := hcc1108 5 _ rfl
    rw [add_field _ _ 5 (by omega)] at hv1108_5
    replace hv1108_5 := Option.some.inj (hv1108_5.symm.trans hx1108_5)
    injection hv1108_5 with hva_ hvn_ hvc_
    rw [hva_] at ge1108_5
    rw [hvc_] at ul1108_5
    have HL1108_5 := q_ (show Kd.V k43 43 _ w.heap.size _ _ ((rd_T25 l0 x6_1).f5) from Kd.V_mk ul1108_5 ge1108_5)
    clear hva_ hvn_ hvc_ ge1108_5 ul1108_5 hcc1108 hce1108
    have HR1108_4 := q_ hi1108_4
    have HC1108_4 := q_ hl1108_4
    clear hi1108_4 hl1108_4
    have HR1108_5 := q_ hi1108_5
    have HC1108_5 := q_ hl1108_5
    clear hi1108_5 hl1108_5
    replace p1108 := eq_true p1108
    replace q1108 := eq_true q1108
    go_wp2_with (first | ((with_reducible refine gate_builtin (b := .append) (xs := #[.tmp 28, .tmp 33]) rfl ?_); at_builtin; refine Kd.N_append k25 (w0 := w) w.heap.size rfl (.tmp 28) (.tmp 33) 46 25 (.agg #[(.string ⟨#[]⟩), (.string ⟨#[]⟩), (.string ⟨#[]⟩), (.int .i64 0), (.slice none 0 0), (.slice none 0 0)]) 104 rfl Try.underlying46 info25 rfl (by decide) (by omega) u5 x5_1 (⟨(rd_T25 l0 x6_1).f0, (rd_T25 l0 x6_1).f1, (rd_T25 l0 x6_1).f2, (rd_T25 l0 x6_1).f3, (rd_T25 l0 x6_1).f4, (rd_T25 l0 x6_1).f5⟩ : S25) [.string ((rd_T25 l0 x6_1).f0), .string ((rd_T25 l0 x6_1).f1), .string ((rd_T25 l0 x6_1).f2), .int .i64 ((rd_T25 l0 x6_1).f3), .slice A1108_4 ((rd_T25 l0 x6_1).f4).length c1108_4, .slice A1108_5 ((rd_T25 l0 x6_1).f5).length c1108_5] (fun k_ => (P0_ k_ ∨ w.heap.size ≤ k_)) (fun k_ => ((fun k_ => (P0_ k_ ∨ w.heap.size ≤ k_))) k_ ∧ some k_ ≠ (u5 : Value).ownBlock) rfl rfl ?aP (fun _ hk => hk) ?aF ?aO ?aB ?aS ?aL ?_; (case aP => exact (k25_mkF _ _ (⟨(rd_T25 l0 x6_1).f0, (rd_T25 l0 x6_1).f1, (rd_T25 l0 x6_1).f2, (rd_T25 l0 x6_1).f3, (rd_T25 l0 x6_1).f4, (rd_T25 l0 x6_1).f5⟩ : S25) (Kd.V_reads' (Kd.V_mono (ok' := (fun k_ => ((fun k_ => (P0_ k_ ∨ w.heap.size ≤ k_))) k_ ∧ some k_ ≠ (u5 : Value).ownBlock)) (HL1108_4.out) (fun k_ hk => ⟨hk.1, hk.2⟩))).2.1 (Kd.V_F (Kd.V_mono (ok' := (fun k_ => ((fun k_ => (P0_ k_ ∨ w.heap.size ≤ k_))) k_ ∧ some k_ ≠ (u5 : Value).ownBlock)) (HL1108_4.out) (fun k_ hk => ⟨hk.1, hk.2⟩))) (Kd.V_reads' (Kd.V_mono (ok' := (fun k_ => ((fun k_ => (P0_ k_ ∨ w.heap.size ≤ k_))) k_ ∧ some k_ ≠ (u5 : Value).ownBlock)) (HL1108_5.out) (fun k_ hk => ⟨hk.1, hk.2⟩))).2.1 (Kd.V_F (Kd.V_mono (ok' := (fun k_ => ((fun k_ => (P0_ k_ ∨ w.heap.size ≤ k_))) k_ ∧ some k_ ≠ (u5 : Value).ownBlock)) (HL1108_5.out) (fun k_ hk => ⟨hk.1, hk.2⟩))))); (case aB => exact hb_); (case aF => exact (fun k_ hk => (.inr (Nat.le_trans (below_size hb_) hk)))); (case aO => exact (nk_ HO_5.out)); (case aS => exact (below_size hb_)); (case aL => have := LMc18.out; omega); intro v1110 w19 ho hb hg hat; rw [← Ny1109.out] at ho; have n0_ := q_ (Kd.V_afterv (ok := (fun k_ => (P0_ k_ ∨ w.heap.size ≤ k_))) (vk_ HO_0.out) hg hat); have n1_ := q_ (Kd.V_afterv (ok := (fun k_ => (P0_ k_ ∨ w.heap.size ≤ k_))) (vk_ HL1108_4.out) hg hat); have n2_ := q_ (Kd.V_afterv (ok := (fun k_ => (P0_ k_ ∨ w.heap.size ≤ k_))) (vk_ HL1108_5.out) hg hat); have n3_ := q_ (hb); have n4_ := q_ (ho); clear HO_0 HL1108_4 HL1108_5 HB HO_5; have HO_0 := n0_; have HL1108_4 := n1_; have HL1108_5 := n2_; have HB := n3_; have HO1111 := n4_; clear n0_ n1_ n2_ n3_ n4_; clear ho hb hg hat))
    repeat (go_quiet (first | ((with_reducible refine gate_builtin (b := .append) (xs := #[.tmp 28, .tmp 33]) rfl ?_); at_builtin; refine Kd.N_append k25 (w0 := w) w.heap.size rfl (.tmp 28) (.tmp 33) 46 25 (.agg #[(.string ⟨#[]⟩), (.string ⟨#[]⟩), (.string ⟨#[]⟩), (.int .i64 0), (.slice none 0 0), (.slice none 0 0)]) 104 rfl Try.underlying46 info25 rfl (by decide) (by omega) u5 x5_1 (⟨(rd_T25 l0 x6_1).f0, (rd_T25 l0 x6_1).f1, (rd_T25 l0 x6_1).f2, (rd_T25 l0 x6_1).f3, (rd_T25 l0 x6_1).f4, (rd_T25 l0 x6_1).f5⟩ : S25) [.string ((rd_T25 l0 x6_1).f0), .string ((rd_T25 l0 x6_1).f1), .string ((rd_T25 l0 x6_1).f2), .int .i64 ((rd_T25 l0 x6_1).f3), .slice A1108_4 ((rd_T25 l0 x6_1).f4).length c1108_4, .slice A1108_5 ((rd_T25 l0 x6_1).f5).length c1108_5] (fun k_ => (P0_ k_ ∨ w.heap.size ≤ k_)) (fun k_ => ((fun k_ => (P0_ k_ ∨ w.heap.size ≤ k_))) k_ ∧ some k_ ≠ (u5 : Value).ownBlock) rfl rfl ?aP (fun _ hk => hk) ?aF ?aO ?aB ?aS ?aL ?_; (case aP => exact (k25_mkF _ _ (⟨(rd_T25 l0 x6_1).f0, (rd_T25 l0 x6_1).f1, (rd_T25 l0 x6_1).f2, (rd_T25 l0 x6_1).f3, (rd_T25 l0 x6_1).f4, (rd_T25 l0 x6_1).f5⟩ : S25) (Kd.V_reads' (Kd.V_mono (ok' := (fun k_ => ((fun k_ => (P0_ k_ ∨ w.heap.size ≤ k_))) k_ ∧ some k_ ≠ (u5 : Value).ownBlock)) (HL1108_4.out) (fun k_ hk => ⟨hk.1, hk.2⟩))).2.1 (Kd.V_F (Kd.V_mono (ok' := (fun k_ => ((fun k_ => (P0_ k_ ∨ w.heap.size ≤ k_))) k_ ∧ some k_ ≠ (u5 : Value).ownBlock)) (HL1108_4.out) (fun k_ hk => ⟨hk.1, hk.2⟩))) (Kd.V_reads' (Kd.V_mono (ok' := (fun k_ => ((fun k_ => (P0_ k_ ∨ w.heap.size ≤ k_))) k_ ∧ some k_ ≠ (u5 : Value).ownBlock)) (HL1108_5.out) (fun k_ hk => ⟨hk.1, hk.2⟩))).2.1 (Kd.V_F (Kd.V_mono (ok' := (fun k_ => ((fun k_ => (P0_ k_ ∨ w.heap.size ≤ k_))) k_ ∧ some k_ ≠ (u5 : Value).ownBlock)) (HL1108_5.out) (fun k_ hk => ⟨hk.1, hk.2⟩))))); (case aB => exact hb_); (case aF => exact (fun k_ hk => (.inr (Nat.le_trans (below_size hb_) hk)))); (case aO => exact (nk_ HO_5.out)); (case aS => exact (below_size hb_)); (case aL => have := LMc18.out; omega); intro v1110 w19 ho hb hg hat; rw [← Ny1109.out] at ho; have n0_ := q_ (Kd.V_afterv (ok := (fun k_ => (P0_ k_ ∨ w.heap.size ≤ k_))) (vk_ HO_0.out) hg hat); have n1_ := q_ (Kd.V_afterv (ok := (fun k_ => (P0_ k_ ∨ w.heap.size ≤ k_))) (vk_ HL1108_4.out) hg hat); have n2_ := q_ (Kd.V_afterv (ok := (fun k_ => (P0_ k_ ∨ w.heap.size ≤ k_))) (vk_ HL1108_5.out) hg hat); have n3_ := q_ (hb); have n4_ := q_ (ho); clear HO_0 HL1108_4 HL1108_5 HB HO_5; have HO_0 := n0_; have HL1108_4 := n1_; have HL1108_5 := n2_; have HB := n3_; have HO1111 := n4_; clear n0_ n1_ n2_ n3_ n4_; clear ho hb hg hat)); try go_wp2_with (first | ((with_reducible refine gate_builtin (b := .append) (xs := #[.tmp 28, .tmp 33]) rfl ?_); at_builtin; refine Kd.N_append k25 (w0 := w) w.heap.size rfl (.tmp 28) (.tmp 33) 46 25 (.agg #[(.string ⟨#[]⟩), (.string ⟨#[]⟩), (.string ⟨#[]⟩), (.int .i64 0), (.slice none 0 0), (.slice none 0 0)]) 104 rfl Try.underlying46 info25 rfl (by decide) (by omega) u5 x5_1 (⟨(rd_T25 l0 x6_1).f0, (rd_T25 l0 x6_1).f1, (rd_T25 l0 x6_1).f2, (rd_T25 l0 x6_1).f3, (rd_T25 l0 x6_1).f4, (rd_T25 l0 x6_1).f5⟩ : S25) [.string ((rd_T25 l0 x6_1).f0), .string ((rd_T25 l0 x6_1).f1), .string ((rd_T25 l0 x6_1).f2), .int .i64 ((rd_T25 l0 x6_1).f3), .slice A1108_4 ((rd_T25 l0 x6_1).f4).length c1108_4, .slice A1108_5 ((rd_T25 l0 x6_1).f5).length c1108_5] (fun k_ => (P0_ k_ ∨ w.heap.size ≤ k_)) (fun k_ => ((fun k_ => (P0_ k_ ∨ w.heap.size ≤ k_))) k_ ∧ some k_ ≠ (u5 : Value).ownBlock) rfl rfl ?aP (fun _ hk => hk) ?aF ?aO ?aB ?aS ?aL ?_; (case aP => exact (k25_mkF _ _ (⟨(rd_T25 l0 x6_1).f0, (rd_T25 l0 x6_1).f1, (rd_T25 l0 x6_1).f2, (rd_T25 l0 x6_1).f3, (rd_T25 l0 x6_1).f4, (rd_T25 l0 x6_1).f5⟩ : S25) (Kd.V_reads' (Kd.V_mono (ok' := (fun k_ => ((fun k_ => (P0_ k_ ∨ w.heap.size ≤ k_))) k_ ∧ some k_ ≠ (u5 : Value).ownBlock)) (HL1108_4.out) (fun k_ hk => ⟨hk.1, hk.2⟩))).2.1 (Kd.V_F (Kd.V_mono (ok' := (fun k_ => ((fun k_ => (P0_ k_ ∨ w.heap.size ≤ k_))) k_ ∧ some k_ ≠ (u5 : Value).ownBlock)) (HL1108_4.out) (fun k_ hk => ⟨hk.1, hk.2⟩))) (Kd.V_reads' (Kd.V_mono (ok' := (fun k_ => ((fun k_ => (P0_ k_ ∨ w.heap.size ≤ k_))) k_ ∧ some k_ ≠ (u5 : Value).ownBlock)) (HL1108_5.out) (fun k_ hk => ⟨hk.1, hk.2⟩))).2.1 (Kd.V_F (Kd.V_mono (ok' := (fun k_ => ((fun k_ => (P0_ k_ ∨ w.heap.size ≤ k_))) k_ ∧ some k_ ≠ (u5 : Value).ownBlock)) (HL1108_5.out) (fun k_ hk => ⟨hk.1, hk.2⟩))))); (case aB => exact hb_); (case aF => exact (fun k_ hk => (.inr (Nat.le_trans (below_size hb_) hk)))); (case aO => exact (nk_ HO_5.out)); (case aS => exact (below_size hb_)); (case aL => have := LMc18.out; omega); intro v1110 w19 ho hb hg hat; rw [← Ny1109.out] at ho; have n0_ := q_ (Kd.V_afterv (ok := (fun k_ => (P0_ k_ ∨ w.heap.size ≤ k_))) (vk_ HO_0.out) hg hat); have n1_ := q_ (Kd.V_afterv (ok := (fun k_ => (P0_ k_ ∨ w.heap.size ≤ k_))) (vk_ HL1108_4.out) hg hat); have n2_ := q_ (Kd.V_afterv (ok := (fun k_ => (P0_ k_ ∨ w.heap.size ≤ k_))) (vk_ HL1108_5.out) hg hat); have n3_ := q_ (hb); have n4_ := q_ (ho); clear HO_0 HL1108_4 HL1108_5 HB HO_5; have HO_0 := n0_; have HL1108_4 := n1_; have HL1108_5 := n2_; have HB := n3_; have HO1111 := n4_; clear n0_ n1_ n2_ n3_ n4_; clear ho hb hg hat)))
    go_roundg k1
    case measure => have := HK1.out; omega
    case rel => exact ⟨(y1109), (wrap64 (x6_1 - 1)), cl_, H', ⟨by have := HK1.out; omega⟩, ⟨by (with_reducible repeat (first | apply Kd.V_alloc | apply Kd.V_drewN | apply Kd.V_drew)); exact HO_0.out⟩, ⟨by (with_reducible repeat (first | apply Kd.N_alloc | apply Kd.N_drewN | apply Kd.N_drew)); exact HO1111.out⟩, ⟨hb_⟩⟩
   rw [if_neg c15] at H
   have c15b0 : decide (0 ≤ x6_1) = false := decide_eq_false c15
   clear c15
   replace H := Option.bind_eq_some_iff.mp H
   obtain ⟨t1112, A200, H⟩ := H
   (try dsimp only at H)
   have A20 := q_ A200
   clear A200
   replace H := Option.bind_eq_some_iff.mp H
   obtain ⟨t1115, A210, H⟩ := H
   (try dsimp only at H)
   have A21 := q_ A210
   clear A210
   by_cases c22 : (t1112.length : Int) = (t1115.length : Int)
   rotate_left
   ·rw [if_neg c22] at H
    exact absurd H (by simp)
   rw [if_pos c22] at H
   have c22b0 : ((t1112.length : Int) == (t1115.length : Int)) = true := beq_iff_eq.mpr c22
   have c22b1 : ((t1112.length : Int) != (t1115.length : Int)) = false := bne_eq_false_iff_eq.mpr c22
   have c22b2 : (t1112.length == t1115.length) = true := by first | simpa using c22 | (simp at c22 ⊢; omega)
   clear c22
   have H' := q_ H
   clear H
   go_wp2_with (first | (go_at_call 43; (with_reducible refine (zq1l.calls k1 (fun k_ => ((P0_ k_ ∨ w.heap.size ≤ k_) ∧ some k_ ≠ (u5 : Value).ownBlock)) _ _ l0 (fun k_ => k_ < w.heap.size) _ _ l1 t1112 _ ?side1 ?side2 A20.out).mono ?_); (case side1 => exact HO_0.out); (case side2 => exact Kd.V_mk HC1.out (Kd.F_below (Kd.C_F k25_heap HR1.out) hb_)); rintro e w23 ⟨v1113, rfl, ho0, hb⟩; have n0_ := q_ (Kd.V_elder' (vk_ HO_0.out) (Kd.R_base ho0) hb); have n1_ := q_ (Kd.N_elder' (nk_ HO_5.out) (Kd.R_base ho0) hb); have n2_ := q_ (Kd.R_lower (Kd.R_newM (M := fun k_ => (w.heap.size ≤ k_)) (Kd.R_mono (ok' := fun k_ => True) ho0 (fun _ hk_ => trivial)) (below_size hb_) (fun k_ h_ => h_)) (below_size hb_)); have n3_ := q_ (below_step hb_ hb); clear HO_0 HO_5 HB; have HO_0 := n0_; have HO_5 := n1_; have HO1114 := n2_; have HB := n3_; clear n0_ n1_ n2_ n3_; clear hb; clear ho0; obtain ⟨Ao24, co24, eo24⟩ := Kd.N_slice HO_5.out; subst eo24) | (go_at_call 43; (with_reducible refine (zq1l.calls k1 (fun k_ => ((P0_ k_ ∨ w.heap.size ≤ k_) ∧ some k_ ≠ (v1113 : Value).ownBlock)) _ _ x5_1 (fun k_ => k_ < w.heap.size) _ _ l1 t1115 _ ?side1 ?side2 A21.out).mono ?_); (case side1 => exact Kd.N_V (HO_5.out)); (case side2 => exact Kd.V_mk HC1.out (Kd.F_below (Kd.C_F k25_heap HR1.out) hb_)); rintro e w25 ⟨v1116, rfl, ho0, hb⟩; have n0_ := q_ (Kd.V_elder' (vk_ HO_0.out) (Kd.R_base ho0) hb); have n1_ := q_ (Kd.N_elder' (nk_ HO_5.out) (Kd.R_base ho0) hb); have n2_ := q_ (Kd.R_elder' (rk_ HO1114.out) (Kd.R_base ho0) hb); have n3_ := q_ (Kd.R_lower (Kd.R_new' (Kd.R_newM (M := fun k_ => (w.heap.size ≤ k_)) (Kd.R_mono (ok' := fun k_ => True) ho0 (fun _ hk_ => trivial)) (below_size hb_) (fun k_ h_ => h_)) (Kd.R_lt (rk_ HO1114.out))) (below_size hb_)); have n4_ := q_ (below_step hb_ hb); clear HO_0 HO_5 HO1114 HB; have HO_0 := n0_; have HO_5 := n1_; have HO1114 := n2_; have HO1117 := n3_; have HB := n4_; clear n0_ n1_ n2_ n3_ n4_; clear hb; clear ho0; obtain ⟨Ao26, co26, eo26⟩ := Kd.R_slice HO1114.out; subst eo26; obtain ⟨Ao27, co27, eo27⟩ := Kd.R_slice HO1117.out; subst eo27))
   repeat (go_quiet (first | (go_at_call 43; (with_reducible refine (zq1l.calls k1 (fun k_ => ((P0_ k_ ∨ w.heap.size ≤ k_) ∧ some k_ ≠ (u5 : Value).ownBlock)) _ _ l0 (fun k_ => k_ < w.heap.size) _ _ l1 t1112 _ ?side1 ?side2 A20.out).mono ?_); (case side1 => exact HO_0.out); (case side2 => exact Kd.V_mk HC1.out (Kd.F_below (Kd.C_F k25_heap HR1.out) hb_)); rintro e w23 ⟨v1113, rfl, ho0, hb⟩; have n0_ := q_ (Kd.V_elder' (vk_ HO_0.out) (Kd.R_base ho0) hb); have n1_ := q_ (Kd.N_elder' (nk_ HO_5.out) (Kd.R_base ho0) hb); have n2_ := q_ (Kd.R_lower (Kd.R_newM (M := fun k_ => (w.heap.size ≤ k_)) (Kd.R_mono (ok' := fun k_ => True) ho0 (fun _ hk_ => trivial)) (below_size hb_) (fun k_ h_ => h_)) (below_size hb_)); have n3_ := q_ (below_step hb_ hb); clear HO_0 HO_5 HB; have HO_0 := n0_; have HO_5 := n1_; have HO1114 := n2_; have HB := n3_; clear n0_ n1_ n2_ n3_; (try clear hb); (try clear hb2); (try clear hk); (try clear hi); (try clear ho0); obtain ⟨Ao24, co24, eo24⟩ := Kd.N_slice HO_5.out; subst eo24) | (go_at_call 43; (with_reducible refine (zq1l.calls k1 (fun k_ => ((P0_ k_ ∨ w.heap.size ≤ k_) ∧ some k_ ≠ (v1113 : Value).ownBlock)) _ _ x5_1 (fun k_ => k_ < w.heap.size) _ _ l1 t1115 _ ?side1 ?side2 A21.out).mono ?_); (case side1 => exact Kd.N_V (HO_5.out)); (case side2 => exact Kd.V_mk HC1.out (Kd.F_below (Kd.C_F k25_heap HR1.out) hb_)); rintro e w25 ⟨v1116, rfl, ho0, hb⟩; have n0_ := q_ (Kd.V_elder' (vk_ HO_0.out) (Kd.R_base ho0) hb); have n1_ := q_ (Kd.N_elder' (nk_ HO_5.out) (Kd.R_base ho0) hb); have n2_ := q_ (Kd.R_elder' (rk_ HO1114.out) (Kd.R_base ho0) hb); have n3_ := q_ (Kd.R_lower (Kd.R_new' (Kd.R_newM (M := fun k_ => (w.heap.size ≤ k_)) (Kd.R_mono (ok' := fun k_ => True) ho0 (fun _ hk_ => trivial)) (below_size hb_) (fun k_ h_ => h_)) (Kd.R_lt (rk_ HO1114.out))) (below_size hb_)); have n4_ := q_ (below_step hb_ hb); clear HO_0 HO_5 HO1114 HB; have HO_0 := n0_; have HO_5 := n1_; have HO1114 := n2_; have HO1117 := n3_; have HB := n4_; clear n0_ n1_ n2_ n3_ n4_; (try clear hb); (try clear hb2); (try clear hk); (try clear hi); (try clear ho0); obtain ⟨Ao26, co26, eo26⟩ := Kd.R_slice HO1114.out; subst eo26; obtain ⟨Ao27, co27, eo27⟩ := Kd.R_slice HO1117.out; subst eo27)); try go_wp2_with (first | (go_at_call 43; (with_reducible refine (zq1l.calls k1 (fun k_ => ((P0_ k_ ∨ w.heap.size ≤ k_) ∧ some k_ ≠ (u5 : Value).ownBlock)) _ _ l0 (fun k_ => k_ < w.heap.size) _ _ l1 t1112 _ ?side1 ?side2 A20.out).mono ?_); (case side1 => exact HO_0.out); (case side2 => exact Kd.V_mk HC1.out (Kd.F_below (Kd.C_F k25_heap HR1.out) hb_)); rintro e w23 ⟨v1113, rfl, ho0, hb⟩; have n0_ := q_ (Kd.V_elder' (vk_ HO_0.out) (Kd.R_base ho0) hb); have n1_ := q_ (Kd.N_elder' (nk_ HO_5.out) (Kd.R_base ho0) hb); have n2_ := q_ (Kd.R_lower (Kd.R_newM (M := fun k_ => (w.heap.size ≤ k_)) (Kd.R_mono (ok' := fun k_ => True) ho0 (fun _ hk_ => trivial)) (below_size hb_) (fun k_ h_ => h_)) (below_size hb_)); have n3_ := q_ (below_step hb_ hb); clear HO_0 HO_5 HB; have HO_0 := n0_; have HO_5 := n1_; have HO1114 := n2_; have HB := n3_; clear n0_ n1_ n2_ n3_; (try clear hb); (try clear hb2); (try clear hk); (try clear hi); (try clear ho0); obtain ⟨Ao24, co24, eo24⟩ := Kd.N_slice HO_5.out; subst eo24) | (go_at_call 43; (with_reducible refine (zq1l.calls k1 (fun k_ => ((P0_ k_ ∨ w.heap.size ≤ k_) ∧ some k_ ≠ (v1113 : Value).ownBlock)) _ _ x5_1 (fun k_ => k_ < w.heap.size) _ _ l1 t1115 _ ?side1 ?side2 A21.out).mono ?_); (case side1 => exact Kd.N_V (HO_5.out)); (case side2 => exact Kd.V_mk HC1.out (Kd.F_below (Kd.C_F k25_heap HR1.out) hb_)); rintro e w25 ⟨v1116, rfl, ho0, hb⟩; have n0_ := q_ (Kd.V_elder' (vk_ HO_0.out) (Kd.R_base ho0) hb); have n1_ := q_ (Kd.N_elder' (nk_ HO_5.out) (Kd.R_base ho0) hb); have n2_ := q_ (Kd.R_elder' (rk_ HO1114.out) (Kd.R_base ho0) hb); have n3_ := q_ (Kd.R_lower (Kd.R_new' (Kd.R_newM (M := fun k_ => (w.heap.size ≤ k_)) (Kd.R_mono (ok' := fun k_ => True) ho0 (fun _ hk_ => trivial)) (below_size hb_) (fun k_ h_ => h_)) (Kd.R_lt (rk_ HO1114.out))) (below_size hb_)); have n4_ := q_ (below_step hb_ hb); clear HO_0 HO_5 HO1114 HB; have HO_0 := n0_; have HO_5 := n1_; have HO1114 := n2_; have HO1117 := n3_; have HB := n4_; clear n0_ n1_ n2_ n3_ n4_; (try clear hb); (try clear hb2); (try clear hk); (try clear hi); (try clear ho0); obtain ⟨Ao26, co26, eo26⟩ := Kd.R_slice HO1114.out; subst eo26; obtain ⟨Ao27, co27, eo27⟩ := Kd.R_slice HO1117.out; subst eo27)))
   go_loopg [9] k1 (fun kq v9 w' => ∃ (x9_2 : Int), v9 = .int .i64 x9_2 ∧ Aside0 (zq8.l1 kq l0 t1112 t1115 x9_2 = some r) ∧ Aside0 (kq ≤ k1) ∧ Aside0 (Kd.V k25 25 w' w.heap.size (fun k_ => (P0_ k_ ∨ w.heap.size ≤ k_) ∧ some k_ ≠ ((.slice Ao26 t1112.length co26) : Value).ownBlock ∧ some k_ ≠ ((.slice Ao27 t1115.length co27) : Value).ownBlock) (.slice A0 l0.length c0) l0) ∧ Aside0 (Kd.R (Kd.int .i64) 3 w' w.heap.size (fun k_ => (w.heap.size ≤ k_) ∧ some k_ ≠ ((.slice Ao27 t1115.length co27) : Value).ownBlock) (.slice Ao26 t1112.length co26) t1112) ∧ Aside0 (Kd.R (Kd.int .i64) 3 w' w.heap.size (fun k_ => (w.heap.size ≤ k_) ∧ some k_ ≠ ((.slice Ao26 t1112.length co26) : Value).ownBlock) (.slice Ao27 t1115.length co27) t1115) ∧ Aside0 (Below w.heap.size w w'))
   case atStart => exact ⟨(0), cl_, H', ⟨Nat.le_refl _⟩, ⟨by (with_reducible repeat (first | apply Kd.V_alloc | apply Kd.V_drewN | apply Kd.V_drew)); exact Kd.V_mono HO_0.out (fun _ hk => ⟨hk.1.1.1, ⟨hk.1.2, hk.2⟩⟩)⟩, ⟨by (with_reducible repeat (first | apply Kd.R_alloc | apply Kd.R_drewN | apply Kd.R_drew)); exact Kd.R_mono HO1114.out (fun _ hk => ⟨hk.1.1, hk.2⟩)⟩, ⟨by (with_reducible repeat (first | apply Kd.R_alloc | apply Kd.R_drewN | apply Kd.R_drew)); exact Kd.R_mono HO1117.out (fun _ hk => ⟨hk.1.1, hk.2⟩)⟩, ⟨hb_⟩⟩
   case round =>
    clear H'
    clear c15b0; clear c22b0; clear c22b1; clear c22b2
    obtain ⟨x9_2, rfl, HA, HK2, HO_0, HO_7, HO_8, HB⟩ := hrel
    cases gk with
    | zero => exact absurd HA.out (by simp [zq8.l1])
    | succ k2 =>
     have H := HA.out
     clear HA
     simp only [zq8.l1] at H
     by_cases c28 : x9_2 < (t1112.length : Int)
     rotate_left
     ·rw [if_neg c28] at H
      have c28b0 : decide (x9_2 < (t1112.length : Int)) = false := decide_eq_false c28
      clear c28
      replace H := Option.bind_eq_some_iff.mp H
      obtain ⟨t1120, A320, H⟩ := H
      (try dsimp only at H)
      have A32 := q_ A320
      clear A320
      obtain rfl := Option.some.inj H
      go_wp2_with (first | (go_at_call 36; (with_reducible refine (zqr.calls k2  t1120 _ A32.out).mono ?_); rintro e w33 ⟨rfl, hb⟩; have n0_ := q_ (Kd.V_below (vk_ HO_0.out) hb); have n1_ := q_ (Kd.R_below (rk_ HO_7.out) hb); have n2_ := q_ (Kd.R_below (rk_ HO_8.out) hb); have n3_ := q_ (below_step hb_ hb); clear HO_0 HO_7 HO_8 HB; have HO_0 := n0_; have HO_7 := n1_; have HO_8 := n2_; have HB := n3_; clear n0_ n1_ n2_ n3_; clear hb))
      repeat (go_quiet (first | (go_at_call 36; (with_reducible refine (zqr.calls k2  t1120 _ A32.out).mono ?_); rintro e w33 ⟨rfl, hb⟩; have n0_ := q_ (Kd.V_below (vk_ HO_0.out) hb); have n1_ := q_ (Kd.R_below (rk_ HO_7.out) hb); have n2_ := q_ (Kd.R_below (rk_ HO_8.out) hb); have n3_ := q_ (below_step hb_ hb); clear HO_0 HO_7 HO_8 HB; have HO_0 := n0_; have HO_7 := n1_; have HO_8 := n2_; have HB := n3_; clear n0_ n1_ n2_ n3_; (try clear hb); (try clear hb2); (try clear hk); (try clear hi))); try go_wp2_with (first | (go_at_call 36; (with_reducible refine (zqr.calls k2  t1120 _ A32.out).mono ?_); rintro e w33 ⟨rfl, hb⟩; have n0_ := q_ (Kd.V_below (vk_ HO_0.out) hb); have n1_ := q_ (Kd.R_below (rk_ HO_7.out) hb); have n2_ := q_ (Kd.R_below (rk_ HO_8.out) hb); have n3_ := q_ (below_step hb_ hb); clear HO_0 HO_7 HO_8 HB; have HO_0 := n0_; have HO_7 := n1_; have HO_8 := n2_; have HB := n3_; clear n0_ n1_ n2_ n3_; (try clear hb); (try clear hb2); (try clear hk); (try clear hi))))
      go_ret
      exact ⟨ew_, hb_⟩
     rw [if_pos c28] at H
     have c28b0 : decide (x9_2 < (t1112.length : Int)) = true := decide_eq_true c28
     clear c28
     by_cases c29 : 0 ≤ x9_2
     rotate_left
     ·rw [if_neg c29] at H
      exact absurd H (by simp)
     rw [if_pos c29] at H
     have c29b0 : decide (0 ≤ x9_2) = true := decide_eq_true c29
     clear c29
     by_cases c30 : x9_2 < (t1115.length : Int)
     rotate_left
     ·rw [if_neg c30] at H
      exact absurd H (by simp)
     rw [if_pos c30] at H
     have c30b0 : decide (x9_2 < (t1115.length : Int)) = true := decide_eq_true c30
     clear c30
     by_cases c31 : (rd t1112 x9_2) = (wrap64 ((wrap64 ((l0.length : Int) - 1)) - (rd t1115 x9_2)))
     rotate_left
     ·rw [if_neg c31] at H
      exact absurd H (by simp)
     rw [if_pos c31] at H
     have c31b0 : ((rd t1112 x9_2) == (wrap64 ((wrap64 ((l0.length : Int) - 1)) - (rd t1115 x9_2)))) = true := beq_iff_eq.mpr c31
     have c31b1 : ((rd t1112 x9_2) != (wrap64 ((wrap64 ((l0.length : Int) - 1)) - (rd t1115 x9_2)))) = false := bne_eq_false_iff_eq.mpr c31
     clear c31
     have H' := q_ H
     clear H
     have p1118 : 0 ≤ (x9_2 : Int) := oa_
     have q1118 : x9_2 < (t1112.length : Int) := oa_
     obtain ⟨ad1118, e1118, hx1118_0⟩ := Kd.at_int (Kd.R_reads' HO_7.out).2.2 x9_2 p1118 q1118
     cases e1118
     replace p1118 := eq_true p1118
     replace q1118 := eq_true q1118
     have p1119 : 0 ≤ (x9_2 : Int) := oa_
     have q1119 : x9_2 < (t1115.length : Int) := oa_
     obtain ⟨ad1119, e1119, hx1119_0⟩ := Kd.at_int (Kd.R_reads' HO_8.out).2.2 x9_2 p1119 q1119
     cases e1119
     replace p1119 := eq_true p1119
     replace q1119 := eq_true q1119
     go_wp2
     repeat (go_quiet (fail); try go_wp2)
     go_roundg k2
     case measure => have := HK1.out; have := HK2.out; omega
     case rel => exact ⟨(wrap64 (x9_2 + 1)), cl_, H', ⟨by have := HK1.out; have := HK2.out; omega⟩, ⟨by (with_reducible repeat (first | apply Kd.V_alloc | apply Kd.V_drewN | apply Kd.V_drew)); exact HO_0.out⟩, ⟨rk_ HO_7.out⟩, ⟨rk_ HO_8.out⟩, ⟨hb_⟩⟩
end Go.Proofs.Ytenlmckahaniiaa.K
end
section
namespace Go.Proofs.Ytenlmckahaniiaa.K
open Go.RowKit Go.Proofs.YtenlmckahaniiaaW.PrintWords Go.Proofs.YtenlmckahaniiaaW.PrintLast
def zq8.Pure : Prop := ∀ (l0 : List (S25)) (l1 : List (S25)), (WfL wf25) l0 → (WfL wf25) l1 → ∃ k, zq8.f k l0 l1 = some true
end Go.Proofs.Ytenlmckahaniiaa.K
end
