/- Lemmas for the law LibraryCloses: what its proof needs beyond what it shares. -/
import Derived.Test.YtenlmckahaniiaaZLibraryCloses0
import Derived.Test.YtenlmckahaniiaaZcLib16
set_option linter.unusedVariables false
set_option linter.unusedSimpArgs false
set_option linter.unusedSectionVars false
set_option maxHeartbeats 8000000
set_option maxRecDepth 100000
section
namespace Go.Proofs.Ytenlmckahaniiaa.K
open Go.RowKit Go.Proofs.YtenlmckahaniiaaW.PrintWords Go.Proofs.YtenlmckahaniiaaW.PrintLast
mutual
def zq6.l0 : Nat → List (S25) → List (S25) → List Int → Int → Option (Bool)
  | 0, _, _, _, _ => none
  | k + 1, x0, x5, x6, x7 => if x7 < (x6.length : Int) then (if 0 ≤ x7 then (if (rd x6 x7) < 0 then (none) else (if (rd x6 x7) ≥ (x0.length : Int) then (none) else (zq6.l1 k x0 x5 x6 x7 0))) else (none)) else (zq6.l4 k x0 x5 0)
def zq6.l1 : Nat → List (S25) → List (S25) → List Int → Int → Int → Option (Bool)
  | 0, _, _, _, _, _ => none
  | k + 1, x0, x5, x6, x7, x8 => if x8 < x7 then (if 0 ≤ x8 then (if x8 < (x6.length : Int) then (if 0 ≤ x7 then (if x7 < (x6.length : Int) then (if (rd x6 x8) = (rd x6 x7) then (none) else (zq6.l1 k x0 x5 x6 x7 (wrap64 (x8 + 1)))) else (none)) else (none)) else (none)) else (none)) else (zq6.l2 k x0 x5 x6 x7 false 0)
def zq6.l2 : Nat → List (S25) → List (S25) → List Int → Int → Bool → Int → Option (Bool)
  | 0, _, _, _, _, _, _ => none
  | k + 1, x0, x5, x6, x7, x9, x10 => if x10 < (x5.length : Int) then (if 0 ≤ x10 then ((zq1w.f k ((rd_T25 x5 x10).f0) ((rd_T25 x5 x10).f1) ((rd_T25 x5 x10).f2) ((rd_T25 x5 x10).f3) ((rd_T25 x5 x10).f4) ((rd_T25 x5 x10).f5)).bind fun t1073 => (zq6.l3 k x0 x5 x6 x7 x9 x10 t1073 0)) else (none)) else (if x9 = true then (if 0 ≤ x7 then (if x7 < (x6.length : Int) then (if 0 ≤ (rd x6 x7) then (if (rd x6 x7) < (x0.length : Int) then (if x5.length < 1353245080339 then (zq6.l0 k x0 (x5 ++ [(⟨(rd_T25 x0 (rd x6 x7)).f0, (rd_T25 x0 (rd x6 x7)).f1, (rd_T25 x0 (rd x6 x7)).f2, (rd_T25 x0 (rd x6 x7)).f3, (rd_T25 x0 (rd x6 x7)).f4, (rd_T25 x0 (rd x6 x7)).f5⟩ : S25)]) x6 (wrap64 (x7 + 1))) else (none)) else (none)) else (none)) else (none)) else (none)) else (none))
def zq6.l3 : Nat → List (S25) → List (S25) → List Int → Int → Bool → Int → List ByteArray → Int → Option (Bool)
  | 0, _, _, _, _, _, _, _, _ => none
  | k + 1, x0, x5, x6, x7, x9, x10, x11, x12 => if x12 < (x11.length : Int) then (if x9 = true then (zq6.l3 k x0 x5 x6 x7 true x10 x11 (wrap64 (x12 + 1))) else (if 0 ≤ x7 then (if x7 < (x6.length : Int) then (if 0 ≤ (rd x6 x7) then (if (rd x6 x7) < (x0.length : Int) then (if 0 ≤ x12 then ((zq1m.f ((rd_T25 x0 (rd x6 x7)).f0) ((rd_T25 x0 (rd x6 x7)).f1) ((rd_T25 x0 (rd x6 x7)).f2) ((rd_T25 x0 (rd x6 x7)).f3) ((rd_T25 x0 (rd x6 x7)).f4) ((rd_T25 x0 (rd x6 x7)).f5) (rdOf ByteArray.empty x11 x12)).bind fun t1079 => (zq6.l3 k x0 x5 x6 x7 t1079 x10 x11 (wrap64 (x12 + 1)))) else (none)) else (none)) else (none)) else (none)) else (none))) else (zq6.l2 k x0 x5 x6 x7 x9 (wrap64 (x10 + 1)))
def zq6.l4 : Nat → List (S25) → List (S25) → Int → Option (Bool)
  | 0, _, _, _ => none
  | k + 1, x0, x5, x13 => if x13 < (x5.length : Int) then (if 0 ≤ x13 then ((zq1w.f k ((rd_T25 x5 x13).f0) ((rd_T25 x5 x13).f1) ((rd_T25 x5 x13).f2) ((rd_T25 x5 x13).f3) ((rd_T25 x5 x13).f4) ((rd_T25 x5 x13).f5)).bind fun t1086 => (zq6.l5 k x0 x5 x13 t1086 0)) else (none)) else ((zqr.f k).bind fun t1095 => (some t1095))
def zq6.l5 : Nat → List (S25) → List (S25) → Int → List ByteArray → Int → Option (Bool)
  | 0, _, _, _, _, _ => none
  | k + 1, x0, x5, x13, x14, x15 => if x15 < (x14.length : Int) then (if 0 ≤ x15 then ((zq1t.f x5 (rdOf ByteArray.empty x14 x15)).bind fun bt1090 => ((zq1t.f x0 (rdOf ByteArray.empty x14 x15)).bind fun bt1093 => (if bt1090.2 = true then (zq6.l5 k x0 x5 x13 x14 (wrap64 (x15 + 1))) else (if bt1093.2 = true then (none) else (zq6.l5 k x0 x5 x13 x14 (wrap64 (x15 + 1))))))) else (none)) else (zq6.l4 k x0 x5 (wrap64 (x13 + 1)))
end
def zq6.f (k : Nat) (l0 : List (S25)) (l1 : List (S25)) : Option (Bool) := (zqx.f k l0).bind fun t1057 => (if t1057 = true then (some true) else ((zqx.f k l1).bind fun t1058 => (if t1058 = true then (some true) else ((some (([] : List (S25)) : List (S25))).bind fun y1059 => (if y1059.length + l1.length < 1353245080339 then ((zq1l.f k l0 l1).bind fun t1065 => (zq6.l0 k l0 (y1059 ++ l1) t1065 0)) else (none))))))
theorem zq6.mono_l : ∀ k, (∀ y0 y1 y2 y3, LeO (zq6.l0 k y0 y1 y2 y3) (zq6.l0 (k + 1) y0 y1 y2 y3)) ∧ (∀ y0 y1 y2 y3 y4, LeO (zq6.l1 k y0 y1 y2 y3 y4) (zq6.l1 (k + 1) y0 y1 y2 y3 y4)) ∧ (∀ y0 y1 y2 y3 y4 y5, LeO (zq6.l2 k y0 y1 y2 y3 y4 y5) (zq6.l2 (k + 1) y0 y1 y2 y3 y4 y5)) ∧ (∀ y0 y1 y2 y3 y4 y5 y6 y7, LeO (zq6.l3 k y0 y1 y2 y3 y4 y5 y6 y7) (zq6.l3 (k + 1) y0 y1 y2 y3 y4 y5 y6 y7)) ∧ (∀ y0 y1 y2, LeO (zq6.l4 k y0 y1 y2) (zq6.l4 (k + 1) y0 y1 y2)) ∧ (∀ y0 y1 y2 y3 y4, LeO (zq6.l5 k y0 y1 y2 y3 y4) (zq6.l5 (k + 1) y0 y1 y2 y3 y4))
 | 0 => ⟨fun _ _ _ _ r h => by simp [zq6.l0] at h, fun _ _ _ _ _ r h => by simp [zq6.l1] at h, fun _ _ _ _ _ _ r h => by simp [zq6.l2] at h, fun _ _ _ _ _ _ _ _ r h => by simp [zq6.l3] at h, fun _ _ _ r h => by simp [zq6.l4] at h, fun _ _ _ _ _ r h => by simp [zq6.l5] at h⟩
 | k + 1 => by
  obtain ⟨ih0, ih1, ih2, ih3, ih4, ih5⟩ := zq6.mono_l k
  refine ⟨?_, ?_, ?_, ?_, ?_, ?_⟩
  ·intro y0 y1 y2 y3
   unfold zq6.l0
   with_reducible repeat' first | apply ih0 | apply ih1 | apply ih2 | apply ih3 | apply ih4 | apply ih5 | apply zqr.mono | apply zqx.mono | apply zq1l.mono | apply zq1w.mono | exact LeO.refl _ | exact LeO.none _ | refine LeO.ite ?_ ?_ | refine LeO.bind ?_ (fun _ => ?_)
  ·intro y0 y1 y2 y3 y4
   unfold zq6.l1
   with_reducible repeat' first | apply ih0 | apply ih1 | apply ih2 | apply ih3 | apply ih4 | apply ih5 | apply zqr.mono | apply zqx.mono | apply zq1l.mono | apply zq1w.mono | exact LeO.refl _ | exact LeO.none _ | refine LeO.ite ?_ ?_ | refine LeO.bind ?_ (fun _ => ?_)
  ·intro y0 y1 y2 y3 y4 y5
   unfold zq6.l2
   with_reducible repeat' first | apply ih0 | apply ih1 | apply ih2 | apply ih3 | apply ih4 | apply ih5 | apply zqr.mono | apply zqx.mono | apply zq1l.mono | apply zq1w.mono | exact LeO.refl _ | exact LeO.none _ | refine LeO.ite ?_ ?_ | refine LeO.bind ?_ (fun _ => ?_)
  ·intro y0 y1 y2 y3 y4 y5 y6 y7
   unfold zq6.l3
   with_reducible repeat' first | apply ih0 | apply ih1 | apply ih2 | apply ih3 | apply ih4 | apply ih5 | apply zqr.mono | apply zqx.mono | apply zq1l.mono | apply zq1w.mono | exact LeO.refl _ | exact LeO.none _ | refine LeO.ite ?_ ?_ | refine LeO.bind ?_ (fun _ => ?_)
  ·intro y0 y1 y2
   unfold zq6.l4
   with_reducible repeat' first | apply ih0 | apply ih1 | apply ih2 | apply ih3 | apply ih4 | apply ih5 | apply zqr.mono | apply zqx.mono | apply zq1l.mono | apply zq1w.mono | exact LeO.refl _ | exact LeO.none _ | refine LeO.ite ?_ ?_ | refine LeO.bind ?_ (fun _ => ?_)
  ·intro y0 y1 y2 y3 y4
   unfold zq6.l5
   with_reducible repeat' first | apply ih0 | apply ih1 | apply ih2 | apply ih3 | apply ih4 | apply ih5 | apply zqr.mono | apply zqx.mono | apply zq1l.mono | apply zq1w.mono | exact LeO.refl _ | exact LeO.none _ | refine LeO.ite ?_ ?_ | refine LeO.bind ?_ (fun _ => ?_)
theorem zq6.mono : ∀ a0 a1 k, LeO (zq6.f k a0 a1) (zq6.f (k + 1) a0 a1) := by
 intro a0 a1 k
 obtain ⟨ih0, ih1, ih2, ih3, ih4, ih5⟩ := zq6.mono_l k
 unfold zq6.f
 with_reducible repeat' first | apply ih0 | apply ih1 | apply ih2 | apply ih3 | apply ih4 | apply ih5 | apply zqr.mono | apply zqx.mono | apply zq1l.mono | apply zq1w.mono | exact LeO.refl _ | exact LeO.none _ | refine LeO.ite ?_ ?_ | refine LeO.bind ?_ (fun _ => ?_)
def zq6.T13 : Bool × List (List Nat × List Nat) := (true, [([], []), ([], []), ([0, 1], [0, 1]), ([2], [2]), ([], []), ([], []), ([4, 5], [4, 5]), ([6], [6]), ([3, 7], [3, 7])])
def zq6.B13 : List Nat := [0, 0, 3, 7, 0, 0, 48, 112, 255]
theorem zq6.tab13 : rtab .any (opsOf Try.f15 13) = zq6.T13 := by kernel_rfl
theorem zq6.bits13 : waitsOk zq6.T13.2 zq6.B13 = true := by kernel_rfl
def zq6.T23 : Bool × List (List Nat × List Nat) := (true, [([], []), ([0], [0]), ([1], [1]), ([1], [1]), ([1], [1]), ([3, 4, 1], [1, 3, 4]), ([5, 1], [1, 5]), ([2, 6, 1], [1, 2, 6]), ([7, 1], [1, 7]), ([1], [1]), ([1], [1]), ([9, 10, 1], [1, 9, 10]), ([11, 1], [1, 11]), ([8, 12, 1, 1], [1, 8, 12]), ([1, 13], [1, 13]), ([14, 13, 0, 1, 2, 3, 4, 5, 6, 7, 8, 9, 10, 11, 12, 13, 14], [0, 14])])
def zq6.B23 : List Nat := [0, 1, 3, 3, 3, 27, 59, 127, 255, 3, 3, 1539, 3587, 8191, 16383, 32767]
theorem zq6.tab23 : rtab .any (opsOf Try.f15 23) = zq6.T23 := by kernel_rfl
theorem zq6.bits23 : waitsOk zq6.T23.2 zq6.B23 = true := by kernel_rfl
theorem zq6.calls (k : Nat) (P0_ : Nat → Prop) (A0 : Option Addr) (c0 : Nat) (l0 : List (S25)) (P1_ : Nat → Prop) (A1 : Option Addr) (c1 : Nat) (l1 : List (S25)) (r : Bool) (w : World) (hs0 : Kd.V k25 25 w w.heap.size (fun k_ => P0_ k_) (.slice A0 l0.length c0) l0) (hs1 : Kd.V k25 25 w w.heap.size (fun k_ => P1_ k_) (.slice A1 l1.length c1) l1) (h : zq6.f k l0 l1 = some r) :
  Calls Try.prog 15 #[.slice A0 l0.length c0, .slice A1 l1.length c1] w fun e w' => e = .returned (.bool r) ∧ Below w.heap.size w w' := by
 have hu25 := Try.underlying25
 have HO0 := q_ (show Kd.V k25 25 w w.heap.size (fun k_ => ((P0_ k_ ∨ P1_ k_) ∨ w.heap.size ≤ k_)) (.slice A0 l0.length c0) l0 from Kd.V_mono hs0 (fun k_ hk => .inl (.inl hk)))
 have HO1 := q_ (show Kd.V k25 25 w w.heap.size (fun k_ => ((P0_ k_ ∨ P1_ k_) ∨ w.heap.size ≤ k_)) (.slice A1 l1.length c1) l1 from Kd.V_mono hs1 (fun k_ hk => .inl (.inr hk)))
 have HB := q_ (Below.refl w.heap.size w)
 have H : ((zqx.f k l0).bind fun t1057 => (if t1057 = true then (some true) else ((zqx.f k l1).bind fun t1058 => (if t1058 = true then (some true) else ((some (([] : List (S25)) : List (S25))).bind fun y1059 => (if y1059.length + l1.length < 1353245080339 then ((zq1l.f k l0 l1).bind fun t1065 => (zq6.l0 k l0 (y1059 ++ l1) t1065 0)) else (none))))))) = some r := h
 clear h
 replace H := Option.bind_eq_some_iff.mp H
 obtain ⟨t1057, A30, H⟩ := H
 (try dsimp only at H)
 have A3 := q_ A30
 clear A30
 by_cases c4 : t1057 = true
 ·subst c4
  rw [if_pos rfl] at H
  obtain rfl := Option.some.inj H
  go_enter Try.func15, Try.ntmps15
  go_wp2_with (first | ((with_reducible refine gate_callee (f := 31) rfl ?_); refine goesL_ (some 21) rfl rfl Try.func31 (by kernel_rfl) rfl #[.slice A0 l0.length c0] rfl ar_ ?_; (with_reducible refine (zqx.calls k _ _ l0 true _ ?side1 ?side2 A3.out).mono ?_); (case side1 => exact ck_ (Kd.V_reads' HO0.out).2.2); (case side2 => exact (Kd.V_reads' HO0.out).2.1); rintro e w5 ⟨rfl, hb⟩; refine ⟨_, rfl, ?_⟩; have n0_ := q_ (Kd.V_below (vk_ HO0.out) hb); have n1_ := q_ (Kd.V_below (vk_ HO1.out) hb); have n2_ := q_ (below_step hb_ hb); clear HO0 HO1 HB; have HO0 := n0_; have HO1 := n1_; have HB := n2_; clear n0_ n1_ n2_; clear hb))
  go_ret
  exact ⟨ew_, hb_⟩
 replace c4 := Bool.eq_false_iff.mpr c4
 subst c4
 rw [if_neg (show ¬ (false = true) by decide)] at H
 replace H := Option.bind_eq_some_iff.mp H
 obtain ⟨t1058, A60, H⟩ := H
 (try dsimp only at H)
 have A6 := q_ A60
 clear A60
 by_cases c7 : t1058 = true
 ·subst c7
  rw [if_pos rfl] at H
  obtain rfl := Option.some.inj H
  go_enter Try.func15, Try.ntmps15
  go_wp2_with (first | ((with_reducible refine gate_callee (f := 31) rfl ?_); refine goesL_ (some 21) rfl rfl Try.func31 (by kernel_rfl) rfl #[.slice A0 l0.length c0] rfl ar_ ?_; (with_reducible refine (zqx.calls k _ _ l0 false _ ?side1 ?side2 A3.out).mono ?_); (case side1 => exact ck_ (Kd.V_reads' HO0.out).2.2); (case side2 => exact (Kd.V_reads' HO0.out).2.1); rintro e w8 ⟨rfl, hb⟩; refine ⟨_, rfl, ?_⟩; have n0_ := q_ (Kd.V_below (vk_ HO0.out) hb); have n1_ := q_ (Kd.V_below (vk_ HO1.out) hb); have n2_ := q_ (below_step hb_ hb); clear HO0 HO1 HB; have HO0 := n0_; have HO1 := n1_; have HB := n2_; clear n0_ n1_ n2_; clear hb) | (go_at_call 31; (with_reducible refine (zqx.calls k _ _ l1 true _ ?side1 ?side2 A6.out).mono ?_); (case side1 => exact ck_ (Kd.V_reads' HO1.out).2.2); (case side2 => exact (Kd.V_reads' HO1.out).2.1); rintro e w9 ⟨rfl, hb⟩; have n0_ := q_ (Kd.V_below (vk_ HO0.out) hb); have n1_ := q_ (Kd.V_below (vk_ HO1.out) hb); have n2_ := q_ (below_step hb_ hb); clear HO0 HO1 HB; have HO0 := n0_; have HO1 := n1_; have HB := n2_; clear n0_ n1_ n2_; clear hb))
  go_ret
  exact ⟨ew_, hb_⟩
 replace c7 := Bool.eq_false_iff.mpr c7
 subst c7
 rw [if_neg (show ¬ (false = true) by decide)] at H
 obtain ⟨y1059, hy1059⟩ : ∃ y_ : List (S25), y_ = (([] : List (S25))) := ⟨_, rfl⟩
 replace H : (if y1059.length + l1.length < 1353245080339 then ((zq1l.f k l0 l1).bind fun t1065 => (zq6.l0 k l0 (y1059 ++ l1) t1065 0)) else (none)) = some r := by first | (rw [hy1059]; with_reducible exact H) | (have H2_ := (Option.bind_some _ _).symm.trans H; rw [hy1059]; with_reducible exact H2_) | (have H2_ := (Option.bind_some _ _).symm.trans H; with_reducible exact H2_) | with_reducible exact H | (rw [hy1059]; exact H) | exact H
 have Ny1059 := q_ hy1059
 clear hy1059
 by_cases c10 : y1059.length + l1.length < 1353245080339
 rotate_left
 ·rw [if_neg c10] at H
  exact absurd H (by simp)
 rw [if_pos c10] at H
 have LMc10 := q_ c10
 clear c10
 obtain ⟨y1062, hy1062⟩ : ∃ y_ : List (S25), y_ = (y1059 ++ l1) := ⟨_, rfl⟩
 replace H : ((zq1l.f k l0 l1).bind fun t1065 => (zq6.l0 k l0 y1062 t1065 0)) = some r := by first | (rw [hy1062]; with_reducible exact H) | (have H2_ := (Option.bind_some _ _).symm.trans H; rw [hy1062]; with_reducible exact H2_) | (have H2_ := (Option.bind_some _ _).symm.trans H; with_reducible exact H2_) | with_reducible exact H | (rw [hy1062]; exact H) | exact H
 have Ny1062 := q_ hy1062
 clear hy1062
 replace H := Option.bind_eq_some_iff.mp H
 obtain ⟨t1065, A110, H⟩ := H
 (try dsimp only at H)
 have A11 := q_ A110
 clear A110
 have H' := q_ H
 clear H
 go_enter Try.func15, Try.ntmps15
 go_wp2_with (first | ((with_reducible refine gate_callee (f := 31) rfl ?_); refine goesL_ (some 21) rfl rfl Try.func31 (by kernel_rfl) rfl #[.slice A0 l0.length c0] rfl ar_ ?_; (with_reducible refine (zqx.calls k _ _ l0 false _ ?side1 ?side2 A3.out).mono ?_); (case side1 => exact ck_ (Kd.V_reads' HO0.out).2.2); (case side2 => exact (Kd.V_reads' HO0.out).2.1); rintro e w12 ⟨rfl, hb⟩; refine ⟨_, rfl, ?_⟩; have n0_ := q_ (Kd.V_below (vk_ HO0.out) hb); have n1_ := q_ (Kd.V_below (vk_ HO1.out) hb); have n2_ := q_ (below_step hb_ hb); clear HO0 HO1 HB; have HO0 := n0_; have HO1 := n1_; have HB := n2_; clear n0_ n1_ n2_; clear hb) | (go_at_call 31; (with_reducible refine (zqx.calls k _ _ l1 false _ ?side1 ?side2 A6.out).mono ?_); (case side1 => exact ck_ (Kd.V_reads' HO1.out).2.2); (case side2 => exact (Kd.V_reads' HO1.out).2.1); rintro e w13 ⟨rfl, hb⟩; have n0_ := q_ (Kd.V_below (vk_ HO0.out) hb); have n1_ := q_ (Kd.V_below (vk_ HO1.out) hb); have n2_ := q_ (below_step hb_ hb); clear HO0 HO1 HB; have HO0 := n0_; have HO1 := n1_; have HB := n2_; clear n0_ n1_ n2_; clear hb) | ((with_reducible refine gate_dst (N := 26) rfl ?_); (try (refine gate_guard (by rfl) ?_; dsimp only)); refine Kd.N_lit k25 _ 25 ?hg (N' := 26) ?hd (xs := ([] : List (S25))) (inner := []) (ok := (fun k_ => ((P0_ k_ ∨ P1_ k_) ∨ w.heap.size ≤ k_))) (okp := (fun k_ => ((P0_ k_ ∨ P1_ k_) ∨ w.heap.size ≤ k_))) ?hr ?hp (fun _ hk => hk) ((show ∀ k_, w13.heap.size ≤ k_ → (fun k_ => ((P0_ k_ ∨ P1_ k_) ∨ w.heap.size ≤ k_)) k_ from fun k_ hk => (.inr (Nat.le_trans (below_size hb_) hk))) _ (Nat.le_refl _)) (Below.refl _ _) (Nat.le_refl _) (by simp) ?_; (case hd => rfl); (case hg => rfl); (case hr => first | (go_simp; done) | (go_simp; rfl)); (case hp => exact (Reps.none _ _)); intro v1060 w14 ho15 hb hg_ hnew_; clear hg_ hnew_; (first | rw [← Ny1059.out] at ho15 | (simp only [Int.reduceToNat] at ho15; rw [← Ny1059.out] at ho15)); have n0_ := q_ (Kd.V_elder' (vk_ HO0.out) (Kd.N_base ho15) hb); have n1_ := q_ (Kd.V_elder' (vk_ HO1.out) (Kd.N_base ho15) hb); have n2_ := q_ (Kd.N_lower ho15 (below_size hb_)); have n3_ := q_ (below_step hb_ hb); clear HO0 HO1 HB; have HO0 := n0_; have HO1 := n1_; have HO1061 := n2_; have HB := n3_; clear n0_ n1_ n2_ n3_; clear hb ho15) | ((with_reducible refine gate_builtin (b := .append) (xs := #[.tmp 26, .tmp 27]) rfl ?_); (try (refine gate_guard (by rfl) ?_; dsimp only)); at_builtin; refine Kd.N_append_rows k25 (w0 := w) w.heap.size rfl (.tmp 26) (.tmp 27) 46 25 (.agg #[(.string ⟨#[]⟩), (.string ⟨#[]⟩), (.string ⟨#[]⟩), (.int .i64 0), (.slice none 0 0), (.slice none 0 0)]) 104 rfl Try.underlying46 info25 rfl (by decide) (by omega) v1060 y1059 l1 _ _ _ (fun k_ => ((P0_ k_ ∨ P1_ k_) ∨ w.heap.size ≤ k_)) (fun k_ => ((fun k_ => ((P0_ k_ ∨ P1_ k_) ∨ w.heap.size ≤ k_))) k_ ∧ some k_ ≠ (v1060 : Value).ownBlock) rfl rfl ?aO ?aR (fun _ hk => hk) ?aF ?aB ?aS ?aL ?_; (case aR => exact (by skip; exact Kd.V_F (Kd.V_mono (ok' := (fun k_ => ((fun k_ => ((P0_ k_ ∨ P1_ k_) ∨ w.heap.size ≤ k_))) k_ ∧ some k_ ≠ (v1060 : Value).ownBlock)) (HO1.out) (fun k_ hk => ⟨hk.1, hk.2⟩)))); (case aB => exact hb_); (case aF => exact (fun k_ hk => (.inr (Nat.le_trans (below_size hb_) hk)))); (case aO => exact (nk_ HO1061.out)); (case aS => exact (below_size hb_)); (case aL => have := LMc10.out; omega); intro v1063 w16 ho hb hg hat; rw [← Ny1062.out] at ho; have n0_ := q_ (Kd.V_afterv (ok := (fun k_ => ((P0_ k_ ∨ P1_ k_) ∨ w.heap.size ≤ k_))) (vk_ HO0.out) hg hat); have n1_ := q_ (Kd.V_afterv (ok := (fun k_ => ((P0_ k_ ∨ P1_ k_) ∨ w.heap.size ≤ k_))) (vk_ HO1.out) hg hat); have n2_ := q_ (hb); have n3_ := q_ (ho); clear HO0 HO1 HB HO1061; have HO0 := n0_; have HO1 := n1_; have HB := n2_; have HO1064 := n3_; clear n0_ n1_ n2_ n3_; clear ho hb hg hat) | ((with_reducible refine gate_callee (f := 43) rfl ?_); refine goesL_ (some 31) rfl rfl Try.func43 (by kernel_rfl) rfl #[.slice A0 l0.length c0, .slice A1 l1.length c1] rfl ar_ ?_; (with_reducible refine (zq1l.calls k (fun k_ => (((P0_ k_ ∨ P1_ k_) ∨ w.heap.size ≤ k_) ∧ some k_ ≠ (v1063 : Value).ownBlock)) _ _ l0 (fun k_ => (((P0_ k_ ∨ P1_ k_) ∨ w.heap.size ≤ k_) ∧ some k_ ≠ (v1063 : Value).ownBlock)) _ _ l1 t1065 _ ?side1 ?side2 A11.out).mono ?_); (case side1 => exact HO0.out); (case side2 => exact HO1.out); rintro e w17 ⟨v1066, rfl, ho0, hb⟩; refine ⟨_, rfl, ?_⟩; have n0_ := q_ (Kd.V_elder' (vk_ HO0.out) (Kd.R_base ho0) hb); have n1_ := q_ (Kd.V_elder' (vk_ HO1.out) (Kd.R_base ho0) hb); have n2_ := q_ (Kd.N_elder' (nk_ HO1064.out) (Kd.R_base ho0) hb); have n3_ := q_ (Kd.R_lower (Kd.R_newM (M := fun k_ => (w.heap.size ≤ k_)) (Kd.R_mono (ok' := fun k_ => True) ho0 (fun _ hk_ => trivial)) (below_size hb_) (fun k_ h_ => h_)) (below_size hb_)); have n4_ := q_ (below_step hb_ hb); clear HO0 HO1 HO1064 HB; have HO0 := n0_; have HO1 := n1_; have HO1064 := n2_; have HO1067 := n3_; have HB := n4_; clear n0_ n1_ n2_ n3_ n4_; clear hb; clear ho0))
 go_loopg [5, 7] k (fun kq v5 v7 w' => ∃ (x5_1 : List (S25)) (x7_1 : Int), v7 = .int .i64 x7_1 ∧ Aside0 (zq6.l0 kq l0 x5_1 t1065 x7_1 = some r) ∧ Aside0 (kq ≤ k) ∧ Aside0 (Kd.V k25 25 w' w.heap.size (fun k_ => ((P0_ k_ ∨ P1_ k_) ∨ w.heap.size ≤ k_) ∧ some k_ ≠ (v5 : Value).ownBlock ∧ some k_ ≠ (v1066 : Value).ownBlock) (.slice A0 l0.length c0) l0) ∧ Aside0 (Kd.N k25 25 w' w.heap.size (fun k_ => ((P0_ k_ ∨ P1_ k_) ∨ w.heap.size ≤ k_) ∧ some k_ ≠ (v1066 : Value).ownBlock) v5 x5_1) ∧ Aside0 (Kd.R (Kd.int .i64) 3 w' w.heap.size (fun k_ => (w.heap.size ≤ k_)) v1066 t1065) ∧ Aside0 (Below w.heap.size w w'))
 case atStart => exact ⟨(y1062), (0), cl_, H', ⟨Nat.le_refl _⟩, ⟨by (with_reducible repeat (first | apply Kd.V_alloc | apply Kd.V_drewN | apply Kd.V_drew)); exact Kd.V_mono HO0.out (fun _ hk => ⟨hk.1.1, ⟨hk.1.2, hk.2⟩⟩)⟩, ⟨by (with_reducible repeat (first | apply Kd.N_alloc | apply Kd.N_drewN | apply Kd.N_drew)); exact HO1064.out⟩, ⟨by (with_reducible repeat (first | apply Kd.R_alloc | apply Kd.R_drewN | apply Kd.R_drew)); exact Kd.R_mono HO1067.out (fun _ hk => hk.1)⟩, ⟨hb_⟩⟩
 case round =>
  clear H'
  obtain ⟨x5_1, x7_1, rfl, HA, HK1, HO_0, HO_5, HO_6, HB⟩ := hrel
  cases gk with
  | zero => exact absurd HA.out (by simp [zq6.l0])
  | succ k1 =>
   have H := HA.out
   clear HA
   simp only [zq6.l0] at H
   by_cases c18 : x7_1 < (t1065.length : Int)
   rotate_left
   ·rw [if_neg c18] at H
    have c18b0 : decide (x7_1 < (t1065.length : Int)) = false := decide_eq_false c18
    clear c18
    have H' := q_ H
    clear H
    obtain ⟨Ao57, co57, eo57⟩ := Kd.R_slice HO_6.out
    subst eo57
    go_wp2
    go_loopg [13] k1 (fun kq v13 w' => ∃ (x13_2 : Int), v13 = .int .i64 x13_2 ∧ Aside0 (zq6.l4 kq l0 x5_1 x13_2 = some r) ∧ Aside0 (kq ≤ k1) ∧ Aside0 (Kd.V k25 25 w' w.heap.size (fun k_ => ((P0_ k_ ∨ P1_ k_) ∨ w.heap.size ≤ k_) ∧ some k_ ≠ (u5 : Value).ownBlock) (.slice A0 l0.length c0) l0) ∧ Aside0 (Kd.N k25 25 w' w.heap.size (fun k_ => ((P0_ k_ ∨ P1_ k_) ∨ w.heap.size ≤ k_)) u5 x5_1) ∧ Aside0 (Below w.heap.size w w'))
    case atStart => exact ⟨(0), cl_, H', ⟨Nat.le_refl _⟩, ⟨by (with_reducible repeat (first | apply Kd.V_alloc | apply Kd.V_drewN | apply Kd.V_drew)); exact Kd.V_mono HO_0.out (fun _ hk => ⟨hk.1, hk.2.1⟩)⟩, ⟨by (with_reducible repeat (first | apply Kd.N_alloc | apply Kd.N_drewN | apply Kd.N_drew)); exact Kd.N_mono HO_5.out (fun _ hk => hk.1)⟩, ⟨hb_⟩⟩
    case round =>
     clear H'
     clear c18b0
     obtain ⟨x13_2, rfl, HA, HK2, HO_0, HO_5, HB⟩ := hrel
     cases gk with
     | zero => exact absurd HA.out (by simp [zq6.l4])
     | succ k2 =>
      have H := HA.out
      clear HA
      simp only [zq6.l4] at H
      by_cases c58 : x13_2 < (x5_1.length : Int)
      rotate_left
      ·rw [if_neg c58] at H
       have c58b0 : decide (x13_2 < (x5_1.length : Int)) = false := decide_eq_false c58
       clear c58
       replace H := Option.bind_eq_some_iff.mp H
       obtain ⟨t1095, A760, H⟩ := H
       (try dsimp only at H)
       have A76 := q_ A760
       clear A760
       obtain rfl := Option.some.inj H
       obtain ⟨Ao77, co77, eo77⟩ := Kd.N_slice HO_5.out
       subst eo77
       go_wp2_with (first | ((with_reducible refine gate_callee (f := 36) rfl ?_); refine goesL_ (some 150) rfl rfl Try.func36 (by kernel_rfl) rfl #[] rfl ar_ ?_; (with_reducible refine (zqr.calls k2  t1095 _ A76.out).mono ?_); rintro e w78 ⟨rfl, hb⟩; refine ⟨_, rfl, ?_⟩; have n0_ := q_ (Kd.V_below (vk_ HO_0.out) hb); have n1_ := q_ (Kd.N_below (nk_ HO_5.out) hb); have n2_ := q_ (below_step hb_ hb); clear HO_0 HO_5 HB; have HO_0 := n0_; have HO_5 := n1_; have HB := n2_; clear n0_ n1_ n2_; clear hb))
       go_ret
       exact ⟨ew_, hb_⟩
      rw [if_pos c58] at H
      have c58b0 : decide (x13_2 < (x5_1.length : Int)) = true := decide_eq_true c58
      clear c58
      by_cases c59 : 0 ≤ x13_2
      rotate_left
      ·rw [if_neg c59] at H
       exact absurd H (by simp)
      rw [if_pos c59] at H
      have c59b0 : decide (0 ≤ x13_2) = true := decide_eq_true c59
      clear c59
      replace H := Option.bind_eq_some_iff.mp H
      obtain ⟨t1086, A600, H⟩ := H
      (try dsimp only at H)
      have A60 := q_ A600
      clear A600
      have H' := q_ H
      clear H
      obtain ⟨Ao61, co61, eo61⟩ := Kd.N_slice HO_5.out
      subst eo61
      have p1085 : 0 ≤ (x13_2 : Int) := oa_
      have q1085 : x13_2 < (x5_1.length : Int) := oa_
      obtain ⟨ad1085, A1085_4, c1085_4, A1085_5, c1085_5, e1085, hx1085_0, hx1085_1, hx1085_2, hx1085_3, hx1085_4, hx1085_5, hl1085_4, hi1085_4, hl1085_5, hi1085_5⟩ := at_T25 (Kd.N_reads' HO_5.out).2.2 x13_2 p1085 q1085
      cases e1085
      obtain ⟨ce1085, hce1085, hMe1085, hcc1085⟩ := Kd.N_get HO_5.out z25 x13_2 p1085 (by first | exact q1085 | exact oa_ | (have e_ := (Kd.N_reads' HO_5.out).1; omega))
      obtain ⟨ua1085_4, uc1085_4, ua1085_5, uc1085_5, rfl, ul1085_4, ge1085_4, ul1085_5, ge1085_5⟩ := k25_openF hMe1085
      have hv1085_4 := hcc1085 4 _ rfl
      rw [add_field _ _ 4 (by omega)] at hv1085_4
      replace hv1085_4 := Option.some.inj (hv1085_4.symm.trans hx1085_4)
      injection hv1085_4 with hva_ hvn_ hvc_
      rw [hva_] at ge1085_4
      rw [hvc_] at ul1085_4
      have HL1085_4 := q_ (show Kd.V k62 62 _ w.heap.size _ _ ((rd_T25 x5_1 x13_2).f4) from Kd.V_mk ul1085_4 ge1085_4)
      clear hva_ hvn_ hvc_ ge1085_4 ul1085_4
      have hv1085_5 := hcc1085 5 _ rfl
      rw [add_field _ _ 5 (by omega)] at hv1085_5
      replace hv1085_5 := Option.some.inj (hv1085_5.symm.trans hx1085_5)
      injection hv1085_5 with hva_ hvn_ hvc_
      rw [hva_] at ge1085_5
      rw [hvc_] at ul1085_5
      have HL1085_5 := q_ (show Kd.V k43 43 _ w.heap.size _ _ ((rd_T25 x5_1 x13_2).f5) from Kd.V_mk ul1085_5 ge1085_5)
      clear hva_ hvn_ hvc_ ge1085_5 ul1085_5 hcc1085 hce1085
      have HR1085_4 := q_ hi1085_4
      have HC1085_4 := q_ hl1085_4
      clear hi1085_4 hl1085_4
      have HR1085_5 := q_ hi1085_5
      have HC1085_5 := q_ hl1085_5
      clear hi1085_5 hl1085_5
      replace p1085 := eq_true p1085
      replace q1085 := eq_true q1085
      go_wp2_with (first | ((with_reducible refine gate_callee (f := 27) rfl ?_); refine goesL_ (some 120) rfl rfl Try.func27 (by kernel_rfl) rfl #[.agg #[.string ((rd_T25 x5_1 x13_2).f0), .string ((rd_T25 x5_1 x13_2).f1), .string ((rd_T25 x5_1 x13_2).f2), .int .i64 ((rd_T25 x5_1 x13_2).f3), .slice A1085_4 ((rd_T25 x5_1 x13_2).f4).length c1085_4, .slice A1085_5 ((rd_T25 x5_1 x13_2).f5).length c1085_5]] rfl ar_ ?_; (with_reducible refine (zq1w.calls k2 ((rd_T25 x5_1 x13_2).f0) ((rd_T25 x5_1 x13_2).f1) ((rd_T25 x5_1 x13_2).f2) ((rd_T25 x5_1 x13_2).f3) _ _ ((rd_T25 x5_1 x13_2).f4) _ _ ((rd_T25 x5_1 x13_2).f5) t1086 _ ?side1 ?side2 ?side3 ?side4 A60.out).mono ?_); (case side1 => exact ck_ (ck_ HR1085_4.out)); (case side2 => exact HC1085_4.out); (case side3 => exact ck_ (ck_ HR1085_5.out)); (case side4 => exact HC1085_5.out); rintro e w62 ⟨v1087, rfl, ho0, hb⟩; refine ⟨_, rfl, ?_⟩; have n0_ := q_ (Kd.V_elder' (vk_ HO_0.out) (Kd.R_base ho0) hb); have n1_ := q_ (Kd.N_elder' (nk_ HO_5.out) (Kd.R_base ho0) hb); have n2_ := q_ (Kd.V_elder' (vk_ HL1085_4.out) (Kd.R_base ho0) hb); have n3_ := q_ (Kd.V_elder' (vk_ HL1085_5.out) (Kd.R_base ho0) hb); have n4_ := q_ (Kd.R_lower (Kd.R_newM (M := fun k_ => (w.heap.size ≤ k_)) ho0 (below_size hb_) (fun k_ h_ => h_)) (below_size hb_)); have n5_ := q_ (Kd.C_below (ck_ HR1085_4.out) hb); have n6_ := q_ (Kd.C_below (ck_ HR1085_5.out) hb); have n7_ := q_ (below_step hb_ hb); clear HO_0 HO_5 HL1085_4 HL1085_5 HR1085_4 HR1085_5 HB; have HO_0 := n0_; have HO_5 := n1_; have HL1085_4 := n2_; have HL1085_5 := n3_; have HO1088 := n4_; have HR1085_4 := n5_; have HR1085_5 := n6_; have HB := n7_; clear n0_ n1_ n2_ n3_ n4_ n5_ n6_ n7_; clear hb; clear ho0))
      go_loopg [15] k2 (fun kq v15 w' => ∃ (x15_3 : Int), v15 = .int .i64 x15_3 ∧ Aside0 (zq6.l5 kq l0 x5_1 x13_2 t1086 x15_3 = some r) ∧ Aside0 (kq ≤ k2) ∧ Aside0 (Kd.V k25 25 w' w.heap.size (fun k_ => ((P0_ k_ ∨ P1_ k_) ∨ w.heap.size ≤ k_) ∧ some k_ ≠ ((.slice (some ad1085) x5_1.length co61) : Value).ownBlock ∧ some k_ ≠ (v1087 : Value).ownBlock) (.slice A0 l0.length c0) l0) ∧ Aside0 (Kd.N k25 25 w' w.heap.size (fun k_ => ((P0_ k_ ∨ P1_ k_) ∨ w.heap.size ≤ k_) ∧ some k_ ≠ (v1087 : Value).ownBlock) (.slice (some ad1085) x5_1.length co61) x5_1) ∧ Aside0 (Kd.R Kd.string 9 w' w.heap.size (fun k_ => (w.heap.size ≤ k_)) v1087 t1086) ∧ Aside0 (Kd.C k62 w' A1085_4 ((rd_T25 x5_1 x13_2).f4).length ((rd_T25 x5_1 x13_2).f4)) ∧ Aside0 (Kd.C k43 w' A1085_5 ((rd_T25 x5_1 x13_2).f5).length ((rd_T25 x5_1 x13_2).f5)) ∧ Aside0 (Below w.heap.size w w'))
      case atStart => exact ⟨(0), cl_, H', ⟨Nat.le_refl _⟩, ⟨by (with_reducible repeat (first | apply Kd.V_alloc | apply Kd.V_drewN | apply Kd.V_drew)); exact Kd.V_mono HO_0.out (fun _ hk => ⟨hk.1.1, ⟨hk.1.2, hk.2⟩⟩)⟩, ⟨by (with_reducible repeat (first | apply Kd.N_alloc | apply Kd.N_drewN | apply Kd.N_drew)); exact HO_5.out⟩, ⟨by (with_reducible repeat (first | apply Kd.R_alloc | apply Kd.R_drewN | apply Kd.R_drew)); exact Kd.R_mono HO1088.out (fun _ hk => hk.1)⟩, ⟨by repeat (first | (with_reducible exact HR1085_4.out) | (with_reducible refine Kd.C_alloc ?_ _) | (with_reducible refine Kd.C_drewN ?_ _) | (with_reducible refine Kd.C_drew ?_) | exact HR1085_4.out)⟩, ⟨by repeat (first | (with_reducible exact HR1085_5.out) | (with_reducible refine Kd.C_alloc ?_ _) | (with_reducible refine Kd.C_drewN ?_ _) | (with_reducible refine Kd.C_drew ?_) | exact HR1085_5.out)⟩, ⟨hb_⟩⟩
      case round =>
       clear H'
       clear c58b0; clear c59b0; clear hx1085_0; clear hx1085_1; clear hx1085_2; clear hx1085_3; clear hx1085_4; clear hx1085_5; clear p1085; clear q1085
       obtain ⟨x15_3, rfl, HA, HK3, HO_0, HO_5, HO_14, HR1085_4, HR1085_5, HB⟩ := hrel
       cases gk with
       | zero => exact absurd HA.out (by simp [zq6.l5])
       | succ k3 =>
        have H := HA.out
        clear HA
        simp only [zq6.l5] at H
        by_cases c63 : x15_3 < (t1086.length : Int)
        rotate_left
        ·rw [if_neg c63] at H
         have c63b0 : decide (x15_3 < (t1086.length : Int)) = false := decide_eq_false c63
         clear c63
         have H' := q_ H
         clear H
         obtain ⟨Ao75, co75, eo75⟩ := Kd.R_slice HO_14.out
         subst eo75
         go_wp2
         go_roundg k3
         case measure => have := HK1.out; have := HK2.out; have := HK3.out; omega
         case rel => exact ⟨(wrap64 (x13_2 + 1)), cl_, H', ⟨by have := HK1.out; have := HK2.out; have := HK3.out; omega⟩, ⟨by (with_reducible repeat (first | apply Kd.V_alloc | apply Kd.V_drewN | apply Kd.V_drew)); exact Kd.V_mono HO_0.out (fun _ hk => ⟨hk.1, hk.2.1⟩)⟩, ⟨by (with_reducible repeat (first | apply Kd.N_alloc | apply Kd.N_drewN | apply Kd.N_drew)); exact Kd.N_mono HO_5.out (fun _ hk => hk.1)⟩, ⟨hb_⟩⟩
        rw [if_pos c63] at H
        have c63b0 : decide (x15_3 < (t1086.length : Int)) = true := decide_eq_true c63
        clear c63
        by_cases c64 : 0 ≤ x15_3
        rotate_left
        ·rw [if_neg c64] at H
         exact absurd H (by simp)
        rw [if_pos c64] at H
        have c64b0 : decide (0 ≤ x15_3) = true := decide_eq_true c64
        clear c64
        replace H := Option.bind_eq_some_iff.mp H
        obtain ⟨⟨t1090, t1091⟩, A650, H⟩ := H
        (try dsimp only at H)
        have A65 := q_ A650
        clear A650
        replace H := Option.bind_eq_some_iff.mp H
        obtain ⟨⟨t1093, t1094⟩, A660, H⟩ := H
        (try dsimp only at H)
        have A66 := q_ A660
        clear A660
        by_cases c67 : t1091 = true
        ·subst c67
         rw [if_pos rfl] at H
         have H' := q_ H
         clear H
         obtain ⟨Ao68, co68, eo68⟩ := Kd.R_slice HO_14.out
         subst eo68
         have p1089 : 0 ≤ (x15_3 : Int) := oa_
         have q1089 : x15_3 < (t1086.length : Int) := oa_
         obtain ⟨ad1089, e1089, hx1089_0⟩ := Kd.at_string (Kd.R_reads' HO_14.out).2.2 x15_3 p1089 q1089
         cases e1089
         replace p1089 := eq_true p1089
         replace q1089 := eq_true q1089
         go_wp2_with (first | ((with_reducible refine gate_callee (f := 32) rfl ?_); refine goesL_ (some 133) rfl rfl Try.func32 (by kernel_rfl) rfl #[.slice (some ad1085) x5_1.length co61, .string (rdOf ByteArray.empty t1086 x15_3)] rfl ar_ ?_; (with_reducible refine (zq1t.calls _ _ x5_1 (rdOf ByteArray.empty t1086 x15_3) t1090 true _ ?side1 ?side2 A65.out).mono ?_); (case side1 => exact ck_ (Kd.N_reads' HO_5.out).2.2); (case side2 => exact (Kd.N_reads' HO_5.out).2.1); rintro e w69 ⟨rfl, hb⟩; refine ⟨_, rfl, ?_⟩; have n0_ := q_ (Kd.V_below (vk_ HO_0.out) hb); have n1_ := q_ (Kd.N_below (nk_ HO_5.out) hb); have n2_ := q_ (Kd.R_below (rk_ HO_14.out) hb); have n3_ := q_ (Kd.C_below (ck_ HR1085_4.out) hb); have n4_ := q_ (Kd.C_below (ck_ HR1085_5.out) hb); have n5_ := q_ (below_step hb_ hb); clear HO_0 HO_5 HO_14 HR1085_4 HR1085_5 HB; have HO_0 := n0_; have HO_5 := n1_; have HO_14 := n2_; have HR1085_4 := n3_; have HR1085_5 := n4_; have HB := n5_; clear n0_ n1_ n2_ n3_ n4_ n5_; clear hb; have p1092 : 0 ≤ (x15_3 : Int) := oa_; have q1092 : x15_3 < (t1086.length : Int) := oa_; obtain ⟨ad1092, e1092, hx1092_0⟩ := Kd.at_string (Kd.R_reads' HO_14.out).2.2 x15_3 p1092 q1092; obtain rfl : ad1089 = ad1092 := (by injection e1092); replace p1092 := eq_true p1092; replace q1092 := eq_true q1092) | ((with_reducible refine gate_callee (f := 32) rfl ?_); refine goesL_ (some 142) rfl rfl Try.func32 (by kernel_rfl) rfl #[.slice A0 l0.length c0, .string (rdOf ByteArray.empty t1086 x15_3)] rfl ar_ ?_; (with_reducible refine (zq1t.calls _ _ l0 (rdOf ByteArray.empty t1086 x15_3) t1093 t1094 _ ?side1 ?side2 A66.out).mono ?_); (case side1 => exact ck_ (Kd.V_reads' HO_0.out).2.2); (case side2 => exact (Kd.V_reads' HO_0.out).2.1); rintro e w70 ⟨rfl, hb⟩; refine ⟨_, rfl, ?_⟩; have n0_ := q_ (Kd.V_below (vk_ HO_0.out) hb); have n1_ := q_ (Kd.N_below (nk_ HO_5.out) hb); have n2_ := q_ (Kd.R_below (rk_ HO_14.out) hb); have n3_ := q_ (Kd.C_below (ck_ HR1085_4.out) hb); have n4_ := q_ (Kd.C_below (ck_ HR1085_5.out) hb); have n5_ := q_ (below_step hb_ hb); clear HO_0 HO_5 HO_14 HR1085_4 HR1085_5 HB; have HO_0 := n0_; have HO_5 := n1_; have HO_14 := n2_; have HR1085_4 := n3_; have HR1085_5 := n4_; have HB := n5_; clear n0_ n1_ n2_ n3_ n4_ n5_; clear hb))
         go_roundg k3
         case measure => have := HK1.out; have := HK2.out; have := HK3.out; omega
         case rel => exact ⟨(wrap64 (x15_3 + 1)), cl_, H', ⟨by have := HK1.out; have := HK2.out; have := HK3.out; omega⟩, ⟨by (with_reducible repeat (first | apply Kd.V_alloc | apply Kd.V_drewN | apply Kd.V_drew)); exact HO_0.out⟩, ⟨by (with_reducible repeat (first | apply Kd.N_alloc | apply Kd.N_drewN | apply Kd.N_drew)); exact HO_5.out⟩, ⟨rk_ HO_14.out⟩, ⟨by repeat (first | (with_reducible exact HR1085_4.out) | (with_reducible refine Kd.C_alloc ?_ _) | (with_reducible refine Kd.C_drewN ?_ _) | (with_reducible refine Kd.C_drew ?_) | exact HR1085_4.out)⟩, ⟨by repeat (first | (with_reducible exact HR1085_5.out) | (with_reducible refine Kd.C_alloc ?_ _) | (with_reducible refine Kd.C_drewN ?_ _) | (with_reducible refine Kd.C_drew ?_) | exact HR1085_5.out)⟩, ⟨hb_⟩⟩
        replace c67 := Bool.eq_false_iff.mpr c67
        subst c67
        rw [if_neg (show ¬ (false = true) by decide)] at H
        by_cases c71 : t1094 = true
        ·subst c71
         rw [if_pos rfl] at H
         exact absurd H (by simp)
        replace c71 := Bool.eq_false_iff.mpr c71
        subst c71
        rw [if_neg (show ¬ (false = true) by decide)] at H
        have H' := q_ H
        clear H
        obtain ⟨Ao72, co72, eo72⟩ := Kd.R_slice HO_14.out
        subst eo72
        have p1089 : 0 ≤ (x15_3 : Int) := oa_
        have q1089 : x15_3 < (t1086.length : Int) := oa_
        obtain ⟨ad1089, e1089, hx1089_0⟩ := Kd.at_string (Kd.R_reads' HO_14.out).2.2 x15_3 p1089 q1089
        cases e1089
        replace p1089 := eq_true p1089
        replace q1089 := eq_true q1089
        go_wp2_with (first | ((with_reducible refine gate_callee (f := 32) rfl ?_); refine goesL_ (some 133) rfl rfl Try.func32 (by kernel_rfl) rfl #[.slice (some ad1085) x5_1.length co61, .string (rdOf ByteArray.empty t1086 x15_3)] rfl ar_ ?_; (with_reducible refine (zq1t.calls _ _ x5_1 (rdOf ByteArray.empty t1086 x15_3) t1090 false _ ?side1 ?side2 A65.out).mono ?_); (case side1 => exact ck_ (Kd.N_reads' HO_5.out).2.2); (case side2 => exact (Kd.N_reads' HO_5.out).2.1); rintro e w73 ⟨rfl, hb⟩; refine ⟨_, rfl, ?_⟩; have n0_ := q_ (Kd.V_below (vk_ HO_0.out) hb); have n1_ := q_ (Kd.N_below (nk_ HO_5.out) hb); have n2_ := q_ (Kd.R_below (rk_ HO_14.out) hb); have n3_ := q_ (Kd.C_below (ck_ HR1085_4.out) hb); have n4_ := q_ (Kd.C_below (ck_ HR1085_5.out) hb); have n5_ := q_ (below_step hb_ hb); clear HO_0 HO_5 HO_14 HR1085_4 HR1085_5 HB; have HO_0 := n0_; have HO_5 := n1_; have HO_14 := n2_; have HR1085_4 := n3_; have HR1085_5 := n4_; have HB := n5_; clear n0_ n1_ n2_ n3_ n4_ n5_; clear hb; have p1092 : 0 ≤ (x15_3 : Int) := oa_; have q1092 : x15_3 < (t1086.length : Int) := oa_; obtain ⟨ad1092, e1092, hx1092_0⟩ := Kd.at_string (Kd.R_reads' HO_14.out).2.2 x15_3 p1092 q1092; obtain rfl : ad1089 = ad1092 := (by injection e1092); replace p1092 := eq_true p1092; replace q1092 := eq_true q1092) | ((with_reducible refine gate_callee (f := 32) rfl ?_); refine goesL_ (some 142) rfl rfl Try.func32 (by kernel_rfl) rfl #[.slice A0 l0.length c0, .string (rdOf ByteArray.empty t1086 x15_3)] rfl ar_ ?_; (with_reducible refine (zq1t.calls _ _ l0 (rdOf ByteArray.empty t1086 x15_3) t1093 false _ ?side1 ?side2 A66.out).mono ?_); (case side1 => exact ck_ (Kd.V_reads' HO_0.out).2.2); (case side2 => exact (Kd.V_reads' HO_0.out).2.1); rintro e w74 ⟨rfl, hb⟩; refine ⟨_, rfl, ?_⟩; have n0_ := q_ (Kd.V_below (vk_ HO_0.out) hb); have n1_ := q_ (Kd.N_below (nk_ HO_5.out) hb); have n2_ := q_ (Kd.R_below (rk_ HO_14.out) hb); have n3_ := q_ (Kd.C_below (ck_ HR1085_4.out) hb); have n4_ := q_ (Kd.C_below (ck_ HR1085_5.out) hb); have n5_ := q_ (below_step hb_ hb); clear HO_0 HO_5 HO_14 HR1085_4 HR1085_5 HB; have HO_0 := n0_; have HO_5 := n1_; have HO_14 := n2_; have HR1085_4 := n3_; have HR1085_5 := n4_; have HB := n5_; clear n0_ n1_ n2_ n3_ n4_ n5_; clear hb))
        go_roundg k3
        case measure => have := HK1.out; have := HK2.out; have := HK3.out; omega
        case rel => exact ⟨(wrap64 (x15_3 + 1)), cl_, H', ⟨by have := HK1.out; have := HK2.out; have := HK3.out; omega⟩, ⟨by (with_reducible repeat (first | apply Kd.V_alloc | apply Kd.V_drewN | apply Kd.V_drew)); exact HO_0.out⟩, ⟨by (with_reducible repeat (first | apply Kd.N_alloc | apply Kd.N_drewN | apply Kd.N_drew)); exact HO_5.out⟩, ⟨rk_ HO_14.out⟩, ⟨by repeat (first | (with_reducible exact HR1085_4.out) | (with_reducible refine Kd.C_alloc ?_ _) | (with_reducible refine Kd.C_drewN ?_ _) | (with_reducible refine Kd.C_drew ?_) | exact HR1085_4.out)⟩, ⟨by repeat (first | (with_reducible exact HR1085_5.out) | (with_reducible refine Kd.C_alloc ?_ _) | (with_reducible refine Kd.C_drewN ?_ _) | (with_reducible refine Kd.C_drew ?_) | exact HR1085_5.out)⟩, ⟨hb_⟩⟩
   rw [if_pos c18] at H
   have c18b0 : decide (x7_1 < (t1065.length : Int)) = true := decide_eq_true c18
   clear c18
   by_cases c19 : 0 ≤ x7_1
   rotate_left
   ·rw [if_neg c19] at H
    exact absurd H (by simp)
   rw [if_pos c19] at H
   have c19b0 : decide (0 ≤ x7_1) = true := decide_eq_true c19
   clear c19
   by_cases c20 : (rd t1065 x7_1) < 0
   ·rw [if_pos c20] at H
    exact absurd H (by simp)
   rw [if_neg c20] at H
   have c20b0 : decide ((rd t1065 x7_1) < 0) = false := decide_eq_false c20
   clear c20
   by_cases c21 : (rd t1065 x7_1) ≥ (l0.length : Int)
   ·rw [if_pos c21] at H
    exact absurd H (by simp)
   rw [if_neg c21] at H
   have c21b0 : decide ((l0.length : Int) ≤ (rd t1065 x7_1)) = false := decide_eq_false c21
   clear c21
   have H' := q_ H
   clear H
   obtain ⟨Ao22, co22, eo22⟩ := Kd.R_slice HO_6.out
   subst eo22
   have p1068 : 0 ≤ (x7_1 : Int) := oa_
   have q1068 : x7_1 < (t1065.length : Int) := oa_
   obtain ⟨ad1068, e1068, hx1068_0⟩ := Kd.at_int (Kd.R_reads' HO_6.out).2.2 x7_1 p1068 q1068
   cases e1068
   replace p1068 := eq_true p1068
   replace q1068 := eq_true q1068
   have p1069 : 0 ≤ (x7_1 : Int) := oa_
   have q1069 : x7_1 < (t1065.length : Int) := oa_
   obtain ⟨ad1069, e1069, hx1069_0⟩ := Kd.at_int (Kd.R_reads' HO_6.out).2.2 x7_1 p1069 q1069
   obtain rfl : ad1068 = ad1069 := (by injection e1069)
   replace p1069 := eq_true p1069
   replace q1069 := eq_true q1069
   go_wp2
   go_loopg [8] k1 (fun kq v8 w' => ∃ (x8_2 : Int), v8 = .int .i64 x8_2 ∧ Aside0 (zq6.l1 kq l0 x5_1 t1065 x7_1 x8_2 = some r) ∧ Aside0 (kq ≤ k1) ∧ Aside0 (Kd.V k25 25 w' w.heap.size (fun k_ => ((P0_ k_ ∨ P1_ k_) ∨ w.heap.size ≤ k_) ∧ some k_ ≠ (u5 : Value).ownBlock ∧ some k_ ≠ ((.slice (some ad1068) t1065.length co22) : Value).ownBlock) (.slice A0 l0.length c0) l0) ∧ Aside0 (Kd.N k25 25 w' w.heap.size (fun k_ => ((P0_ k_ ∨ P1_ k_) ∨ w.heap.size ≤ k_) ∧ some k_ ≠ ((.slice (some ad1068) t1065.length co22) : Value).ownBlock) u5 x5_1) ∧ Aside0 (Kd.R (Kd.int .i64) 3 w' w.heap.size (fun k_ => (w.heap.size ≤ k_)) (.slice (some ad1068) t1065.length co22) t1065) ∧ Aside0 (Below w.heap.size w w'))
   case atStart => exact ⟨(0), cl_, H', ⟨Nat.le_refl _⟩, ⟨by (with_reducible repeat (first | apply Kd.V_alloc | apply Kd.V_drewN | apply Kd.V_drew)); exact HO_0.out⟩, ⟨by (with_reducible repeat (first | apply Kd.N_alloc | apply Kd.N_drewN | apply Kd.N_drew)); exact HO_5.out⟩, ⟨rk_ HO_6.out⟩, ⟨hb_⟩⟩
   case round =>
    clear H'
    clear c18b0; clear c19b0; clear c20b0; clear c21b0; clear hx1068_0; clear hx1069_0; clear p1068; clear p1069; clear q1068; clear q1069
    obtain ⟨x8_2, rfl, HA, HK2, HO_0, HO_5, HO_6, HB⟩ := hrel
    cases gk with
    | zero => exact absurd HA.out (by simp [zq6.l1])
    | succ k2 =>
     have H := HA.out
     clear HA
     simp only [zq6.l1] at H
     by_cases c23 : x8_2 < x7_1
     ·rw [if_pos c23] at H
      have c23b0 : decide (x8_2 < x7_1) = true := decide_eq_true c23
      clear c23
      by_cases c24 : 0 ≤ x8_2
      rotate_left
      ·rw [if_neg c24] at H
       exact absurd H (by simp)
      rw [if_pos c24] at H
      have c24b0 : decide (0 ≤ x8_2) = true := decide_eq_true c24
      clear c24
      by_cases c25 : x8_2 < (t1065.length : Int)
      rotate_left
      ·rw [if_neg c25] at H
       exact absurd H (by simp)
      rw [if_pos c25] at H
      have c25b0 : decide (x8_2 < (t1065.length : Int)) = true := decide_eq_true c25
      clear c25
      by_cases c26 : 0 ≤ x7_1
      rotate_left
      ·rw [if_neg c26] at H
       exact absurd H (by simp)
      rw [if_pos c26] at H
      have c26b0 : decide (0 ≤ x7_1) = true := decide_eq_true c26
      clear c26
      by_cases c27 : x7_1 < (t1065.length : Int)
      rotate_left
      ·rw [if_neg c27] at H
       exact absurd H (by simp)
      rw [if_pos c27] at H
      have c27b0 : decide (x7_1 < (t1065.length : Int)) = true := decide_eq_true c27
      clear c27
      by_cases c28 : (rd t1065 x8_2) = (rd t1065 x7_1)
      ·rw [if_pos c28] at H
       exact absurd H (by simp)
      rw [if_neg c28] at H
      have c28b0 : ((rd t1065 x8_2) == (rd t1065 x7_1)) = false := beq_eq_false_iff_ne.mpr c28
      have c28b1 : ((rd t1065 x8_2) != (rd t1065 x7_1)) = true := bne_iff_ne.mpr c28
      have H' := q_ H
      clear H
      try go_wp2
      have n0_ := q_ (Kd.V_drew HO_0.out)
      have n1_ := q_ (Kd.N_drew HO_5.out)
      have n2_ := q_ (Kd.R_drew HO_6.out)
      have n3_ := q_ (below_drew1 HB.out)
      clear HO_0 HO_5 HO_6 HB
      have HO_0 := n0_; have HO_5 := n1_; have HO_6 := n2_; have HB := n3_
      clear n0_ n1_ n2_ n3_
      have p1070 : 0 ≤ (x8_2 : Int) := oa_
      have q1070 : x8_2 < (t1065.length : Int) := oa_
      obtain ⟨ad1070, e1070, hx1070_0⟩ := Kd.at_int (Kd.R_reads' HO_6.out).2.2 x8_2 p1070 q1070
      obtain rfl : ad1068 = ad1070 := (by injection e1070)
      replace p1070 := eq_true p1070
      replace q1070 := eq_true q1070
      have p1071 : 0 ≤ (x7_1 : Int) := oa_
      have q1071 : x7_1 < (t1065.length : Int) := oa_
      obtain ⟨ad1071, e1071, hx1071_0⟩ := Kd.at_int (Kd.R_reads' HO_6.out).2.2 x7_1 p1071 q1071
      obtain rfl : ad1068 = ad1071 := (by injection e1071)
      replace p1071 := eq_true p1071
      replace q1071 := eq_true q1071
      refine start_ (n := 9) (S := fun w' => w'.cell? (ad1068.add (x8_2).toNat) = some (.int .i64 (rd t1065 x8_2)) ∧ w'.cell? (ad1068.add (x7_1).toNat) = some (.int .i64 (rd t1065 x7_1))) (ds := []) #[false, false, false, false, false, false, false, false, false] (by kernel_rfl) rfl rfl ⟨hx1070_0, hx1071_0⟩ (fun hHeld => ?_); refine with_tabW zq6.tab13 zq6.bits13 (fun HT_ HW_ => ?_)
      generalize wr.drew = w29 at HO_0 HO_5 HO_6 HB hx1070_0 hx1071_0 hHeld ⊢
      refine pu_ 0 (some 57) (fl 9 1) rfl rfl HT_ ?_
      refine pu_ 1 (some 58) (fl 9 3) rfl rfl HT_ ?_
      refine pu_ 2 (some 59) (fl 9 7) rfl rfl HT_ ?_
      refine pu_ 4 (some 61) (fl 9 23) rfl rfl HT_ ?_
      refine pu_ 5 (some 62) (fl 9 55) rfl rfl HT_ ?_
      refine pu_ 6 (some 63) (fl 9 119) rfl rfl HT_ ?_
      refine ta_ 3 (some 60) (fl 9 127) rfl rfl HT_ HW_ hHeld ?_
      refine ta_ 7 (some 64) (fl 9 255) rfl rfl HT_ HW_ hHeld ?_
      refine pu_ 8 (some 65) (fl 9 511) rfl rfl HT_ ?_
      refine done_ (done_of HT_.out (by kernel_rfl)) ?_
      try go_wp2
      go_roundg k2
      case measure => have := HK1.out; have := HK2.out; omega
      case rel => exact ⟨(wrap64 (x8_2 + 1)), cl_, H', ⟨by have := HK1.out; have := HK2.out; omega⟩, ⟨by (with_reducible repeat (first | apply Kd.V_alloc | apply Kd.V_drewN | apply Kd.V_drew)); exact HO_0.out⟩, ⟨by (with_reducible repeat (first | apply Kd.N_alloc | apply Kd.N_drewN | apply Kd.N_drew)); exact HO_5.out⟩, ⟨rk_ HO_6.out⟩, ⟨hb_⟩⟩
     rw [if_neg c23] at H
     have c23b0 : decide (x8_2 < x7_1) = false := decide_eq_false c23
     clear c23
     have H' := q_ H
     clear H
     go_wp2
     go_loopg [9, 10] k2 (fun kq v9 v10 w' => ∃ (x9_3 : Bool) (x10_3 : Int), v9 = .bool x9_3 ∧ v10 = .int .i64 x10_3 ∧ Aside0 (zq6.l2 kq l0 x5_1 t1065 x7_1 x9_3 x10_3 = some r) ∧ Aside0 (kq ≤ k2) ∧ Aside0 (Kd.V k25 25 w' w.heap.size (fun k_ => ((P0_ k_ ∨ P1_ k_) ∨ w.heap.size ≤ k_) ∧ some k_ ≠ (u5 : Value).ownBlock ∧ some k_ ≠ ((.slice (some ad1068) t1065.length co22) : Value).ownBlock) (.slice A0 l0.length c0) l0) ∧ Aside0 (Kd.N k25 25 w' w.heap.size (fun k_ => ((P0_ k_ ∨ P1_ k_) ∨ w.heap.size ≤ k_) ∧ some k_ ≠ ((.slice (some ad1068) t1065.length co22) : Value).ownBlock) u5 x5_1) ∧ Aside0 (Kd.R (Kd.int .i64) 3 w' w.heap.size (fun k_ => (w.heap.size ≤ k_)) (.slice (some ad1068) t1065.length co22) t1065) ∧ Aside0 (Below w.heap.size w w'))
     case atStart => exact ⟨(false), (0), cl_, cl_, H', ⟨Nat.le_refl _⟩, ⟨by (with_reducible repeat (first | apply Kd.V_alloc | apply Kd.V_drewN | apply Kd.V_drew)); exact HO_0.out⟩, ⟨by (with_reducible repeat (first | apply Kd.N_alloc | apply Kd.N_drewN | apply Kd.N_drew)); exact HO_5.out⟩, ⟨rk_ HO_6.out⟩, ⟨hb_⟩⟩
     case round =>
      clear H'
      clear c23b0
      obtain ⟨x9_3, x10_3, rfl, rfl, HA, HK3, HO_0, HO_5, HO_6, HB⟩ := hrel
      cases gk with
      | zero => exact absurd HA.out (by simp [zq6.l2])
      | succ k3 =>
       have H := HA.out
       clear HA
       simp only [zq6.l2] at H
       by_cases c30 : x10_3 < (x5_1.length : Int)
       rotate_left
       ·rw [if_neg c30] at H
        have c30b0 : decide (x10_3 < (x5_1.length : Int)) = false := decide_eq_false c30
        clear c30
        by_cases c49 : x9_3 = true
        rotate_left
        ·replace c49 := Bool.eq_false_iff.mpr c49
         subst c49
         rw [if_neg (show ¬ (false = true) by decide)] at H
         exact absurd H (by simp)
        subst c49
        rw [if_pos rfl] at H
        by_cases c50 : 0 ≤ x7_1
        rotate_left
        ·rw [if_neg c50] at H
         exact absurd H (by simp)
        rw [if_pos c50] at H
        have c50b0 : decide (0 ≤ x7_1) = true := decide_eq_true c50
        clear c50
        by_cases c51 : x7_1 < (t1065.length : Int)
        rotate_left
        ·rw [if_neg c51] at H
         exact absurd H (by simp)
        rw [if_pos c51] at H
        have c51b0 : decide (x7_1 < (t1065.length : Int)) = true := decide_eq_true c51
        clear c51
        by_cases c52 : 0 ≤ (rd t1065 x7_1)
        rotate_left
        ·rw [if_neg c52] at H
         exact absurd H (by simp)
        rw [if_pos c52] at H
        have c52b0 : decide (0 ≤ (rd t1065 x7_1)) = true := decide_eq_true c52
        clear c52
        by_cases c53 : (rd t1065 x7_1) < (l0.length : Int)
        rotate_left
        ·rw [if_neg c53] at H
         exact absurd H (by simp)
        rw [if_pos c53] at H
        have c53b0 : decide ((rd t1065 x7_1) < (l0.length : Int)) = true := decide_eq_true c53
        clear c53
        by_cases c54 : x5_1.length < 1353245080339
        rotate_left
        ·rw [if_neg c54] at H
         exact absurd H (by simp)
        rw [if_pos c54] at H
        have LMc54 := q_ c54
        clear c54
        obtain ⟨y1082, hy1082⟩ : ∃ y_ : List (S25), y_ = (x5_1 ++ [(⟨(rd_T25 l0 (rd t1065 x7_1)).f0, (rd_T25 l0 (rd t1065 x7_1)).f1, (rd_T25 l0 (rd t1065 x7_1)).f2, (rd_T25 l0 (rd t1065 x7_1)).f3, (rd_T25 l0 (rd t1065 x7_1)).f4, (rd_T25 l0 (rd t1065 x7_1)).f5⟩ : S25)]) := ⟨_, rfl⟩
        replace H : (zq6.l0 k3 l0 y1082 t1065 (wrap64 (x7_1 + 1))) = some r := by first | (rw [hy1082]; with_reducible exact H) | (have H2_ := (Option.bind_some _ _).symm.trans H; rw [hy1082]; with_reducible exact H2_) | (have H2_ := (Option.bind_some _ _).symm.trans H; with_reducible exact H2_) | with_reducible exact H | (rw [hy1082]; exact H) | exact H
        have Ny1082 := q_ hy1082
        clear hy1082
        have H' := q_ H
        clear H
        obtain ⟨Ao55, co55, eo55⟩ := Kd.N_slice HO_5.out
        subst eo55
        have p1080 : 0 ≤ (x7_1 : Int) := oa_
        have q1080 : x7_1 < (t1065.length : Int) := oa_
        obtain ⟨ad1080, e1080, hx1080_0⟩ := Kd.at_int (Kd.R_reads' HO_6.out).2.2 x7_1 p1080 q1080
        obtain rfl : ad1068 = ad1080 := (by injection e1080)
        replace p1080 := eq_true p1080
        replace q1080 := eq_true q1080
        have p1081 : 0 ≤ ((rd t1065 x7_1) : Int) := oa_
        have q1081 : (rd t1065 x7_1) < (l0.length : Int) := oa_
        obtain ⟨ad1081, A1081_4, c1081_4, A1081_5, c1081_5, e1081, hx1081_0, hx1081_1, hx1081_2, hx1081_3, hx1081_4, hx1081_5, hl1081_4, hi1081_4, hl1081_5, hi1081_5⟩ := at_T25 (Kd.V_reads' HO_0.out).2.2 (rd t1065 x7_1) p1081 q1081
        cases e1081
        obtain ⟨ce1081, hce1081, hMe1081, hcc1081⟩ := Kd.V_get HO_0.out z25 (rd t1065 x7_1) p1081 (by first | exact q1081 | exact oa_ | (have e_ := (Kd.V_reads' HO_0.out).1; omega))
        obtain ⟨ua1081_4, uc1081_4, ua1081_5, uc1081_5, rfl, ul1081_4, ge1081_4, ul1081_5, ge1081_5⟩ := k25_openF hMe1081
        have hv1081_4 := hcc1081 4 _ rfl
        rw [add_field _ _ 4 (by omega)] at hv1081_4
        replace hv1081_4 := Option.some.inj (hv1081_4.symm.trans hx1081_4)
        injection hv1081_4 with hva_ hvn_ hvc_
        rw [hva_] at ge1081_4
        rw [hvc_] at ul1081_4
        have HL1081_4 := q_ (show Kd.V k62 62 _ w.heap.size _ _ ((rd_T25 l0 (rd t1065 x7_1)).f4) from Kd.V_mk ul1081_4 ge1081_4)
        clear hva_ hvn_ hvc_ ge1081_4 ul1081_4
        have hv1081_5 := hcc1081 5 _ rfl
        rw [add_field _ _ 5 (by omega)] at hv1081_5
        replace hv1081_5 := Option.some.inj (hv1081_5.symm.trans hx1081_5)
        injection hv1081_5 with hva_ hvn_ hvc_
        rw [hva_] at ge1081_5
        rw [hvc_] at ul1081_5
        have HL1081_5 := q_ (show Kd.V k43 43 _ w.heap.size _ _ ((rd_T25 l0 (rd t1065 x7_1)).f5) from Kd.V_mk ul1081_5 ge1081_5)
        clear hva_ hvn_ hvc_ ge1081_5 ul1081_5 hcc1081 hce1081
        have HR1081_4 := q_ hi1081_4
        have HC1081_4 := q_ hl1081_4
        clear hi1081_4 hl1081_4
        have HR1081_5 := q_ hi1081_5
        have HC1081_5 := q_ hl1081_5
        clear hi1081_5 hl1081_5
        replace p1081 := eq_true p1081
        replace q1081 := eq_true q1081
        go_wp2_with (first | ((with_reducible refine gate_builtin (b := .append) (xs := #[.tmp 100, .tmp 108]) rfl ?_); (try (refine gate_guard (by rfl) ?_; dsimp only)); at_builtin; refine Kd.N_append k25 (w0 := w) w.heap.size rfl (.tmp 100) (.tmp 108) 46 25 (.agg #[(.string ⟨#[]⟩), (.string ⟨#[]⟩), (.string ⟨#[]⟩), (.int .i64 0), (.slice none 0 0), (.slice none 0 0)]) 104 rfl Try.underlying46 info25 rfl (by decide) (by omega) (.slice Ao55 x5_1.length co55) x5_1 (⟨(rd_T25 l0 (rd t1065 x7_1)).f0, (rd_T25 l0 (rd t1065 x7_1)).f1, (rd_T25 l0 (rd t1065 x7_1)).f2, (rd_T25 l0 (rd t1065 x7_1)).f3, (rd_T25 l0 (rd t1065 x7_1)).f4, (rd_T25 l0 (rd t1065 x7_1)).f5⟩ : S25) [.string ((rd_T25 l0 (rd t1065 x7_1)).f0), .string ((rd_T25 l0 (rd t1065 x7_1)).f1), .string ((rd_T25 l0 (rd t1065 x7_1)).f2), .int .i64 ((rd_T25 l0 (rd t1065 x7_1)).f3), .slice A1081_4 ((rd_T25 l0 (rd t1065 x7_1)).f4).length c1081_4, .slice A1081_5 ((rd_T25 l0 (rd t1065 x7_1)).f5).length c1081_5] (fun k_ => ((P0_ k_ ∨ P1_ k_) ∨ w.heap.size ≤ k_) ∧ some k_ ≠ (.slice (some ad1068) t1065.length co22 : Value).ownBlock) (fun k_ => ((fun k_ => ((P0_ k_ ∨ P1_ k_) ∨ w.heap.size ≤ k_) ∧ some k_ ≠ (.slice (some ad1068) t1065.length co22 : Value).ownBlock)) k_ ∧ some k_ ≠ (.slice Ao55 x5_1.length co55 : Value).ownBlock) rfl rfl ?aP (fun _ hk => hk) ?aF ?aO ?aB ?aS ?aL ?_; (case aP => exact (k25_mkF _ _ (⟨(rd_T25 l0 (rd t1065 x7_1)).f0, (rd_T25 l0 (rd t1065 x7_1)).f1, (rd_T25 l0 (rd t1065 x7_1)).f2, (rd_T25 l0 (rd t1065 x7_1)).f3, (rd_T25 l0 (rd t1065 x7_1)).f4, (rd_T25 l0 (rd t1065 x7_1)).f5⟩ : S25) (Kd.V_reads' (Kd.V_mono (ok' := (fun k_ => ((fun k_ => ((P0_ k_ ∨ P1_ k_) ∨ w.heap.size ≤ k_) ∧ some k_ ≠ (.slice (some ad1068) t1065.length co22 : Value).ownBlock)) k_ ∧ some k_ ≠ (.slice Ao55 x5_1.length co55 : Value).ownBlock)) (HL1081_4.out) (fun k_ hk => ⟨⟨hk.1, hk.2.2⟩, hk.2.1⟩))).2.1 (Kd.V_F (Kd.V_mono (ok' := (fun k_ => ((fun k_ => ((P0_ k_ ∨ P1_ k_) ∨ w.heap.size ≤ k_) ∧ some k_ ≠ (.slice (some ad1068) t1065.length co22 : Value).ownBlock)) k_ ∧ some k_ ≠ (.slice Ao55 x5_1.length co55 : Value).ownBlock)) (HL1081_4.out) (fun k_ hk => ⟨⟨hk.1, hk.2.2⟩, hk.2.1⟩))) (Kd.V_reads' (Kd.V_mono (ok' := (fun k_ => ((fun k_ => ((P0_ k_ ∨ P1_ k_) ∨ w.heap.size ≤ k_) ∧ some k_ ≠ (.slice (some ad1068) t1065.length co22 : Value).ownBlock)) k_ ∧ some k_ ≠ (.slice Ao55 x5_1.length co55 : Value).ownBlock)) (HL1081_5.out) (fun k_ hk => ⟨⟨hk.1, hk.2.2⟩, hk.2.1⟩))).2.1 (Kd.V_F (Kd.V_mono (ok' := (fun k_ => ((fun k_ => ((P0_ k_ ∨ P1_ k_) ∨ w.heap.size ≤ k_) ∧ some k_ ≠ (.slice (some ad1068) t1065.length co22 : Value).ownBlock)) k_ ∧ some k_ ≠ (.slice Ao55 x5_1.length co55 : Value).ownBlock)) (HL1081_5.out) (fun k_ hk => ⟨⟨hk.1, hk.2.2⟩, hk.2.1⟩))))); (case aB => exact hb_); (case aF => exact (fun k_ hk => ⟨(.inr (Nat.le_trans (below_size hb_) hk)), Kd.fresh' (Kd.R_lt (rk_ HO_6.out)) k_ hk⟩)); (case aO => exact (nk_ HO_5.out)); (case aS => exact (below_size hb_)); (case aL => have := LMc54.out; omega); intro v1083 w56 ho hb hg hat; rw [← Ny1082.out] at ho; have n0_ := q_ (Kd.V_afterv (ok := (fun k_ => ((P0_ k_ ∨ P1_ k_) ∨ w.heap.size ≤ k_) ∧ some k_ ≠ (.slice (some ad1068) t1065.length co22 : Value).ownBlock)) (by (with_reducible repeat (first | apply Kd.V_alloc | apply Kd.V_drewN | apply Kd.V_drew)); exact Kd.V_mono HO_0.out (fun _ hk => ⟨⟨hk.1, hk.2.2⟩, hk.2.1⟩)) hg hat); have n1_ := q_ (Kd.R_over' (rk_ HO_6.out) (Kd.N_typed (nk_ HO_5.out)) (by decide) hg); have n2_ := q_ (Kd.V_afterv (ok := (fun k_ => ((P0_ k_ ∨ P1_ k_) ∨ w.heap.size ≤ k_) ∧ some k_ ≠ (.slice (some ad1068) t1065.length co22 : Value).ownBlock)) (by (with_reducible repeat (first | apply Kd.V_alloc | apply Kd.V_drewN | apply Kd.V_drew)); exact Kd.V_mono HL1081_4.out (fun _ hk => ⟨⟨hk.1, hk.2.2⟩, hk.2.1⟩)) hg hat); have n3_ := q_ (Kd.V_afterv (ok := (fun k_ => ((P0_ k_ ∨ P1_ k_) ∨ w.heap.size ≤ k_) ∧ some k_ ≠ (.slice (some ad1068) t1065.length co22 : Value).ownBlock)) (by (with_reducible repeat (first | apply Kd.V_alloc | apply Kd.V_drewN | apply Kd.V_drew)); exact Kd.V_mono HL1081_5.out (fun _ hk => ⟨⟨hk.1, hk.2.2⟩, hk.2.1⟩)) hg hat); have n4_ := q_ (hb); have n5_ := q_ (ho); clear HO_0 HO_6 HL1081_4 HL1081_5 HB HO_5; have HO_0 := n0_; have HO_6 := n1_; have HL1081_4 := n2_; have HL1081_5 := n3_; have HB := n4_; have HO1084 := n5_; clear n0_ n1_ n2_ n3_ n4_ n5_; clear ho hb hg hat))
        go_roundg k3
        case measure => have := HK1.out; have := HK2.out; have := HK3.out; omega
        case rel => exact ⟨(y1082), (wrap64 (x7_1 + 1)), cl_, H', ⟨by have := HK1.out; have := HK2.out; have := HK3.out; omega⟩, ⟨by (with_reducible repeat (first | apply Kd.V_alloc | apply Kd.V_drewN | apply Kd.V_drew)); exact Kd.V_mono HO_0.out (fun _ hk => ⟨hk.1.1, ⟨hk.2, hk.1.2⟩⟩)⟩, ⟨by (with_reducible repeat (first | apply Kd.N_alloc | apply Kd.N_drewN | apply Kd.N_drew)); exact HO1084.out⟩, ⟨rk_ HO_6.out⟩, ⟨hb_⟩⟩
       rw [if_pos c30] at H
       have c30b0 : decide (x10_3 < (x5_1.length : Int)) = true := decide_eq_true c30
       clear c30
       by_cases c31 : 0 ≤ x10_3
       rotate_left
       ·rw [if_neg c31] at H
        exact absurd H (by simp)
       rw [if_pos c31] at H
       have c31b0 : decide (0 ≤ x10_3) = true := decide_eq_true c31
       clear c31
       replace H := Option.bind_eq_some_iff.mp H
       obtain ⟨t1073, A320, H⟩ := H
       (try dsimp only at H)
       have A32 := q_ A320
       clear A320
       have H' := q_ H
       clear H
       obtain ⟨Ao33, co33, eo33⟩ := Kd.N_slice HO_5.out
       subst eo33
       have p1072 : 0 ≤ (x10_3 : Int) := oa_
       have q1072 : x10_3 < (x5_1.length : Int) := oa_
       obtain ⟨ad1072, A1072_4, c1072_4, A1072_5, c1072_5, e1072, hx1072_0, hx1072_1, hx1072_2, hx1072_3, hx1072_4, hx1072_5, hl1072_4, hi1072_4, hl1072_5, hi1072_5⟩ := at_T25 (Kd.N_reads' HO_5.out).2.2 x10_3 p1072 q1072
       cases e1072
       obtain ⟨ce1072, hce1072, hMe1072, hcc1072⟩ := Kd.N_get HO_5.out z25 x10_3 p1072 (by first | exact q1072 | exact oa_ | (have e_ := (Kd.N_reads' HO_5.out).1; omega))
       obtain ⟨ua1072_4, uc1072_4, ua1072_5, uc1072_5, rfl, ul1072_4, ge1072_4, ul1072_5, ge1072_5⟩ := k25_openF hMe1072
       have hv1072_4 := hcc1072 4 _ rfl
       rw [add_field _ _ 4 (by omega)] at hv1072_4
       replace hv1072_4 := Option.some.inj (hv1072_4.symm.trans hx1072_4)
       injection hv1072_4 with hva_ hvn_ hvc_
       rw [hva_] at ge1072_4
       rw [hvc_] at ul1072_4
       have HL1072_4 := q_ (show Kd.V k62 62 _ w.heap.size _ _ ((rd_T25 x5_1 x10_3).f4) from Kd.V_mk ul1072_4 ge1072_4)
       clear hva_ hvn_ hvc_ ge1072_4 ul1072_4
       have hv1072_5 := hcc1072 5 _ rfl
       rw [add_field _ _ 5 (by omega)] at hv1072_5
       replace hv1072_5 := Option.some.inj (hv1072_5.symm.trans hx1072_5)
       injection hv1072_5 with hva_ hvn_ hvc_
       rw [hva_] at ge1072_5
       rw [hvc_] at ul1072_5
       have HL1072_5 := q_ (show Kd.V k43 43 _ w.heap.size _ _ ((rd_T25 x5_1 x10_3).f5) from Kd.V_mk ul1072_5 ge1072_5)
       clear hva_ hvn_ hvc_ ge1072_5 ul1072_5 hcc1072 hce1072
       have HR1072_4 := q_ hi1072_4
       have HC1072_4 := q_ hl1072_4
       clear hi1072_4 hl1072_4
       have HR1072_5 := q_ hi1072_5
       have HC1072_5 := q_ hl1072_5
       clear hi1072_5 hl1072_5
       replace p1072 := eq_true p1072
       replace q1072 := eq_true q1072
       go_wp2_with (first | ((with_reducible refine gate_callee (f := 27) rfl ?_); refine goesL_ (some 76) rfl rfl Try.func27 (by kernel_rfl) rfl #[.agg #[.string ((rd_T25 x5_1 x10_3).f0), .string ((rd_T25 x5_1 x10_3).f1), .string ((rd_T25 x5_1 x10_3).f2), .int .i64 ((rd_T25 x5_1 x10_3).f3), .slice A1072_4 ((rd_T25 x5_1 x10_3).f4).length c1072_4, .slice A1072_5 ((rd_T25 x5_1 x10_3).f5).length c1072_5]] rfl ar_ ?_; (with_reducible refine (zq1w.calls k3 ((rd_T25 x5_1 x10_3).f0) ((rd_T25 x5_1 x10_3).f1) ((rd_T25 x5_1 x10_3).f2) ((rd_T25 x5_1 x10_3).f3) _ _ ((rd_T25 x5_1 x10_3).f4) _ _ ((rd_T25 x5_1 x10_3).f5) t1073 _ ?side1 ?side2 ?side3 ?side4 A32.out).mono ?_); (case side1 => exact ck_ (ck_ HR1072_4.out)); (case side2 => exact HC1072_4.out); (case side3 => exact ck_ (ck_ HR1072_5.out)); (case side4 => exact HC1072_5.out); rintro e w34 ⟨v1074, rfl, ho0, hb⟩; refine ⟨_, rfl, ?_⟩; have n0_ := q_ (Kd.V_elder' (vk_ HO_0.out) (Kd.R_base ho0) hb); have n1_ := q_ (Kd.N_elder' (nk_ HO_5.out) (Kd.R_base ho0) hb); have n2_ := q_ (Kd.R_below (rk_ HO_6.out) hb); have n3_ := q_ (Kd.V_elder' (vk_ HL1072_4.out) (Kd.R_base ho0) hb); have n4_ := q_ (Kd.V_elder' (vk_ HL1072_5.out) (Kd.R_base ho0) hb); have n5_ := q_ (Kd.R_lower (Kd.R_newM (M := fun k_ => (w.heap.size ≤ k_)) ho0 (below_size hb_) (fun k_ h_ => h_)) (below_size hb_)); have n6_ := q_ (Kd.C_below (ck_ HR1072_4.out) hb); have n7_ := q_ (Kd.C_below (ck_ HR1072_5.out) hb); have n8_ := q_ (below_step hb_ hb); clear HO_0 HO_5 HO_6 HL1072_4 HL1072_5 HR1072_4 HR1072_5 HB; have HO_0 := n0_; have HO_5 := n1_; have HO_6 := n2_; have HL1072_4 := n3_; have HL1072_5 := n4_; have HO1075 := n5_; have HR1072_4 := n6_; have HR1072_5 := n7_; have HB := n8_; clear n0_ n1_ n2_ n3_ n4_ n5_ n6_ n7_ n8_; clear hb; clear ho0))
       go_loopg [9, 12] k3 (fun kq v9 v12 w' => ∃ (x9_4 : Bool) (x12_4 : Int), v9 = .bool x9_4 ∧ v12 = .int .i64 x12_4 ∧ Aside0 (zq6.l3 kq l0 x5_1 t1065 x7_1 x9_4 x10_3 t1073 x12_4 = some r) ∧ Aside0 (kq ≤ k3) ∧ Aside0 (Kd.V k25 25 w' w.heap.size (fun k_ => ((P0_ k_ ∨ P1_ k_) ∨ w.heap.size ≤ k_) ∧ some k_ ≠ ((.slice (some ad1072) x5_1.length co33) : Value).ownBlock ∧ some k_ ≠ ((.slice (some ad1068) t1065.length co22) : Value).ownBlock ∧ some k_ ≠ (v1074 : Value).ownBlock) (.slice A0 l0.length c0) l0) ∧ Aside0 (Kd.N k25 25 w' w.heap.size (fun k_ => ((P0_ k_ ∨ P1_ k_) ∨ w.heap.size ≤ k_) ∧ some k_ ≠ ((.slice (some ad1068) t1065.length co22) : Value).ownBlock ∧ some k_ ≠ (v1074 : Value).ownBlock) (.slice (some ad1072) x5_1.length co33) x5_1) ∧ Aside0 (Kd.R (Kd.int .i64) 3 w' w.heap.size (fun k_ => (w.heap.size ≤ k_)) (.slice (some ad1068) t1065.length co22) t1065) ∧ Aside0 (Kd.R Kd.string 9 w' w.heap.size (fun k_ => (w.heap.size ≤ k_)) v1074 t1073) ∧ Aside0 (Kd.C k62 w' A1072_4 ((rd_T25 x5_1 x10_3).f4).length ((rd_T25 x5_1 x10_3).f4)) ∧ Aside0 (Kd.C k43 w' A1072_5 ((rd_T25 x5_1 x10_3).f5).length ((rd_T25 x5_1 x10_3).f5)) ∧ Aside0 (Below w.heap.size w w'))
       case atStart => exact ⟨(x9_3), (0), cl_, cl_, H', ⟨Nat.le_refl _⟩, ⟨by (with_reducible repeat (first | apply Kd.V_alloc | apply Kd.V_drewN | apply Kd.V_drew)); exact Kd.V_mono HO_0.out (fun _ hk => ⟨hk.1.1, ⟨hk.1.2.1, ⟨hk.1.2.2, hk.2⟩⟩⟩)⟩, ⟨by (with_reducible repeat (first | apply Kd.N_alloc | apply Kd.N_drewN | apply Kd.N_drew)); exact Kd.N_mono HO_5.out (fun _ hk => ⟨hk.1.1, ⟨hk.1.2, hk.2⟩⟩)⟩, ⟨rk_ HO_6.out⟩, ⟨by (with_reducible repeat (first | apply Kd.R_alloc | apply Kd.R_drewN | apply Kd.R_drew)); exact Kd.R_mono HO1075.out (fun _ hk => hk.1)⟩, ⟨by repeat (first | (with_reducible exact HR1072_4.out) | (with_reducible refine Kd.C_alloc ?_ _) | (with_reducible refine Kd.C_drewN ?_ _) | (with_reducible refine Kd.C_drew ?_) | exact HR1072_4.out)⟩, ⟨by repeat (first | (with_reducible exact HR1072_5.out) | (with_reducible refine Kd.C_alloc ?_ _) | (with_reducible refine Kd.C_drewN ?_ _) | (with_reducible refine Kd.C_drew ?_) | exact HR1072_5.out)⟩, ⟨hb_⟩⟩
       case round =>
        clear H'
        clear c30b0; clear c31b0; clear hx1072_0; clear hx1072_1; clear hx1072_2; clear hx1072_3; clear hx1072_4; clear hx1072_5; clear p1072; clear q1072
        obtain ⟨x9_4, x12_4, rfl, rfl, HA, HK4, HO_0, HO_5, HO_6, HO_11, HR1072_4, HR1072_5, HB⟩ := hrel
        cases gk with
        | zero => exact absurd HA.out (by simp [zq6.l3])
        | succ k4 =>
         have H := HA.out
         clear HA
         simp only [zq6.l3] at H
         by_cases c35 : x12_4 < (t1073.length : Int)
         rotate_left
         ·rw [if_neg c35] at H
          have c35b0 : decide (x12_4 < (t1073.length : Int)) = false := decide_eq_false c35
          clear c35
          have H' := q_ H
          clear H
          obtain ⟨Ao48, co48, eo48⟩ := Kd.R_slice HO_11.out
          subst eo48
          go_wp2
          go_roundg k4
          case measure => have := HK1.out; have := HK2.out; have := HK3.out; have := HK4.out; omega
          case rel => exact ⟨(x9_4), (wrap64 (x10_3 + 1)), cl_, cl_, H', ⟨by have := HK1.out; have := HK2.out; have := HK3.out; have := HK4.out; omega⟩, ⟨by (with_reducible repeat (first | apply Kd.V_alloc | apply Kd.V_drewN | apply Kd.V_drew)); exact Kd.V_mono HO_0.out (fun _ hk => ⟨hk.1, ⟨hk.2.1, hk.2.2.1⟩⟩)⟩, ⟨by (with_reducible repeat (first | apply Kd.N_alloc | apply Kd.N_drewN | apply Kd.N_drew)); exact Kd.N_mono HO_5.out (fun _ hk => ⟨hk.1, hk.2.1⟩)⟩, ⟨rk_ HO_6.out⟩, ⟨hb_⟩⟩
         rw [if_pos c35] at H
         have c35b0 : decide (x12_4 < (t1073.length : Int)) = true := decide_eq_true c35
         clear c35
         by_cases c36 : x9_4 = true
         ·subst c36
          rw [if_pos rfl] at H
          have H' := q_ H
          clear H
          obtain ⟨Ao37, co37, eo37⟩ := Kd.R_slice HO_11.out
          subst eo37
          try go_wp2
          have n0_ := q_ (Kd.V_drew HO_0.out)
          have n1_ := q_ (Kd.N_drew HO_5.out)
          have n2_ := q_ (Kd.R_drew HO_6.out)
          have n3_ := q_ (Kd.R_drew HO_11.out)
          have n4_ := q_ (Kd.C_drew HR1072_4.out)
          have n5_ := q_ (Kd.C_drew HR1072_5.out)
          have n6_ := q_ (below_drew1 HB.out)
          clear HO_0 HO_5 HO_6 HO_11 HR1072_4 HR1072_5 HB
          have HO_0 := n0_; have HO_5 := n1_; have HO_6 := n2_; have HO_11 := n3_; have HR1072_4 := n4_; have HR1072_5 := n5_; have HB := n6_
          clear n0_ n1_ n2_ n3_ n4_ n5_ n6_
          refine start_ (n := 16) (S := fun w' => True) (ds := []) #[false, false, false, false, false, false, false, false, false, false, false, false, false, false, false, false] (by kernel_rfl) rfl rfl trivial (fun hHeld => ?_); refine with_tabW zq6.tab23 zq6.bits23 (fun HT_ HW_ => ?_)
          generalize wr.drew = w38 at HO_0 HO_5 HO_6 HO_11 HR1072_4 HR1072_5 HB hHeld ⊢
          refine pu_ 0 (some 83) (fl 16 1) rfl rfl HT_ ?_
          refine pu_ 1 (some 84) (fl 16 3) rfl rfl HT_ ?_
          refine pn_ 2 (some 85) (fl 16 7) rfl rfl HT_ ?_
          refine pn_ 3 (some 86) (fl 16 15) rfl rfl HT_ ?_
          refine pn_ 4 (some 87) (fl 16 31) rfl rfl HT_ ?_
          refine pn_ 5 (some 88) (fl 16 63) rfl rfl HT_ ?_
          refine pn_ 6 (some 89) (fl 16 127) rfl rfl HT_ ?_
          refine pn_ 7 (some 90) (fl 16 255) rfl rfl HT_ ?_
          refine pn_ 8 (some 91) (fl 16 511) rfl rfl HT_ ?_
          refine pn_ 9 (some 92) (fl 16 1023) rfl rfl HT_ ?_
          refine pn_ 10 (some 93) (fl 16 2047) rfl rfl HT_ ?_
          refine pn_ 11 (some 94) (fl 16 4095) rfl rfl HT_ ?_
          refine pn_ 12 (some 95) (fl 16 8191) rfl rfl HT_ ?_
          refine pn_ 13 (some 96) (fl 16 16383) rfl rfl HT_ ?_
          refine pu_ 14 (some 97) (fl 16 32767) rfl rfl HT_ ?_
          refine pu_ 15 (some 9) (fl 16 65535) rfl rfl HT_ ?_
          refine done_ (done_of HT_.out (by kernel_rfl)) ?_
          try go_wp2
          go_roundg k4
          case measure => have := HK1.out; have := HK2.out; have := HK3.out; have := HK4.out; omega
          case rel => exact ⟨(true), (wrap64 (x12_4 + 1)), cl_, cl_, H', ⟨by have := HK1.out; have := HK2.out; have := HK3.out; have := HK4.out; omega⟩, ⟨by (with_reducible repeat (first | apply Kd.V_alloc | apply Kd.V_drewN | apply Kd.V_drew)); exact HO_0.out⟩, ⟨by (with_reducible repeat (first | apply Kd.N_alloc | apply Kd.N_drewN | apply Kd.N_drew)); exact HO_5.out⟩, ⟨rk_ HO_6.out⟩, ⟨rk_ HO_11.out⟩, ⟨by repeat (first | (with_reducible exact HR1072_4.out) | (with_reducible refine Kd.C_alloc ?_ _) | (with_reducible refine Kd.C_drewN ?_ _) | (with_reducible refine Kd.C_drew ?_) | exact HR1072_4.out)⟩, ⟨by repeat (first | (with_reducible exact HR1072_5.out) | (with_reducible refine Kd.C_alloc ?_ _) | (with_reducible refine Kd.C_drewN ?_ _) | (with_reducible refine Kd.C_drew ?_) | exact HR1072_5.out)⟩, ⟨hb_⟩⟩
         replace c36 := Bool.eq_false_iff.mpr c36
         subst c36
         rw [if_neg (show ¬ (false = true) by decide)] at H
         by_cases c39 : 0 ≤ x7_1
         rotate_left
         ·rw [if_neg c39] at H
          exact absurd H (by simp)
         rw [if_pos c39] at H
         have c39b0 : decide (0 ≤ x7_1) = true := decide_eq_true c39
         clear c39
         by_cases c40 : x7_1 < (t1065.length : Int)
         rotate_left
         ·rw [if_neg c40] at H
          exact absurd H (by simp)
         rw [if_pos c40] at H
         have c40b0 : decide (x7_1 < (t1065.length : Int)) = true := decide_eq_true c40
         clear c40
         by_cases c41 : 0 ≤ (rd t1065 x7_1)
         rotate_left
         ·rw [if_neg c41] at H
          exact absurd H (by simp)
         rw [if_pos c41] at H
         have c41b0 : decide (0 ≤ (rd t1065 x7_1)) = true := decide_eq_true c41
         clear c41
         by_cases c42 : (rd t1065 x7_1) < (l0.length : Int)
         rotate_left
         ·rw [if_neg c42] at H
          exact absurd H (by simp)
         rw [if_pos c42] at H
         have c42b0 : decide ((rd t1065 x7_1) < (l0.length : Int)) = true := decide_eq_true c42
         clear c42
         by_cases c43 : 0 ≤ x12_4
         rotate_left
         ·rw [if_neg c43] at H
          exact absurd H (by simp)
         rw [if_pos c43] at H
         have c43b0 : decide (0 ≤ x12_4) = true := decide_eq_true c43
         clear c43
         replace H := Option.bind_eq_some_iff.mp H
         obtain ⟨t1079, A440, H⟩ := H
         (try dsimp only at H)
         have A44 := q_ A440
         clear A440
         have H' := q_ H
         clear H
         obtain ⟨Ao45, co45, eo45⟩ := Kd.R_slice HO_11.out
         subst eo45
         try go_wp2
         have n0_ := q_ (Kd.V_drew HO_0.out)
         have n1_ := q_ (Kd.N_drew HO_5.out)
         have n2_ := q_ (Kd.R_drew HO_6.out)
         have n3_ := q_ (Kd.R_drew HO_11.out)
         have n4_ := q_ (Kd.C_drew HR1072_4.out)
         have n5_ := q_ (Kd.C_drew HR1072_5.out)
         have n6_ := q_ (below_drew1 HB.out)
         clear HO_0 HO_5 HO_6 HO_11 HR1072_4 HR1072_5 HB
         have HO_0 := n0_; have HO_5 := n1_; have HO_6 := n2_; have HO_11 := n3_; have HR1072_4 := n4_; have HR1072_5 := n5_; have HB := n6_
         clear n0_ n1_ n2_ n3_ n4_ n5_ n6_
         have p1076 : 0 ≤ (x7_1 : Int) := oa_
         have q1076 : x7_1 < (t1065.length : Int) := oa_
         obtain ⟨ad1076, e1076, hx1076_0⟩ := Kd.at_int (Kd.R_reads' HO_6.out).2.2 x7_1 p1076 q1076
         obtain rfl : ad1068 = ad1076 := (by injection e1076)
         replace p1076 := eq_true p1076
         replace q1076 := eq_true q1076
         have p1077 : 0 ≤ ((rd t1065 x7_1) : Int) := oa_
         have q1077 : (rd t1065 x7_1) < (l0.length : Int) := oa_
         obtain ⟨ad1077, A1077_4, c1077_4, A1077_5, c1077_5, e1077, hx1077_0, hx1077_1, hx1077_2, hx1077_3, hx1077_4, hx1077_5, hl1077_4, hi1077_4, hl1077_5, hi1077_5⟩ := at_T25 (Kd.V_reads' HO_0.out).2.2 (rd t1065 x7_1) p1077 q1077
         cases e1077
         obtain ⟨ce1077, hce1077, hMe1077, hcc1077⟩ := Kd.V_get HO_0.out z25 (rd t1065 x7_1) p1077 (by first | exact q1077 | exact oa_ | (have e_ := (Kd.V_reads' HO_0.out).1; omega))
         obtain ⟨ua1077_4, uc1077_4, ua1077_5, uc1077_5, rfl, ul1077_4, ge1077_4, ul1077_5, ge1077_5⟩ := k25_openF hMe1077
         have hv1077_4 := hcc1077 4 _ rfl
         rw [add_field _ _ 4 (by omega)] at hv1077_4
         replace hv1077_4 := Option.some.inj (hv1077_4.symm.trans hx1077_4)
         injection hv1077_4 with hva_ hvn_ hvc_
         rw [hva_] at ge1077_4
         rw [hvc_] at ul1077_4
         have HL1077_4 := q_ (show Kd.V k62 62 _ w.heap.size _ _ ((rd_T25 l0 (rd t1065 x7_1)).f4) from Kd.V_mk ul1077_4 ge1077_4)
         clear hva_ hvn_ hvc_ ge1077_4 ul1077_4
         have hv1077_5 := hcc1077 5 _ rfl
         rw [add_field _ _ 5 (by omega)] at hv1077_5
         replace hv1077_5 := Option.some.inj (hv1077_5.symm.trans hx1077_5)
         injection hv1077_5 with hva_ hvn_ hvc_
         rw [hva_] at ge1077_5
         rw [hvc_] at ul1077_5
         have HL1077_5 := q_ (show Kd.V k43 43 _ w.heap.size _ _ ((rd_T25 l0 (rd t1065 x7_1)).f5) from Kd.V_mk ul1077_5 ge1077_5)
         clear hva_ hvn_ hvc_ ge1077_5 ul1077_5 hcc1077 hce1077
         have HR1077_4 := q_ hi1077_4
         have HC1077_4 := q_ hl1077_4
         clear hi1077_4 hl1077_4
         have HR1077_5 := q_ hi1077_5
         have HC1077_5 := q_ hl1077_5
         clear hi1077_5 hl1077_5
         replace p1077 := eq_true p1077
         replace q1077 := eq_true q1077
         have p1078 : 0 ≤ (x12_4 : Int) := oa_
         have q1078 : x12_4 < (t1073.length : Int) := oa_
         obtain ⟨ad1078, e1078, hx1078_0⟩ := Kd.at_string (Kd.R_reads' HO_11.out).2.2 x12_4 p1078 q1078
         cases e1078
         replace p1078 := eq_true p1078
         replace q1078 := eq_true q1078
         refine start_ (n := 16) (S := fun w' => w'.cell? (ad1068.add (x7_1).toNat) = some (.int .i64 (rd t1065 x7_1)) ∧ w'.cell? (ad1077.add (((rd t1065 x7_1)).toNat * 6)) = some (.string ((rd_T25 l0 (rd t1065 x7_1)).f0)) ∧ w'.cell? ⟨(ad1077.add (((rd t1065 x7_1)).toNat * 6)).block, (ad1077.add (((rd t1065 x7_1)).toNat * 6)).off + 1, none⟩ = some (.string ((rd_T25 l0 (rd t1065 x7_1)).f1)) ∧ w'.cell? ⟨(ad1077.add (((rd t1065 x7_1)).toNat * 6)).block, (ad1077.add (((rd t1065 x7_1)).toNat * 6)).off + 2, none⟩ = some (.string ((rd_T25 l0 (rd t1065 x7_1)).f2)) ∧ w'.cell? ⟨(ad1077.add (((rd t1065 x7_1)).toNat * 6)).block, (ad1077.add (((rd t1065 x7_1)).toNat * 6)).off + 3, none⟩ = some (.int .i64 ((rd_T25 l0 (rd t1065 x7_1)).f3)) ∧ w'.cell? ⟨(ad1077.add (((rd t1065 x7_1)).toNat * 6)).block, (ad1077.add (((rd t1065 x7_1)).toNat * 6)).off + 4, none⟩ = some (.slice A1077_4 ((rd_T25 l0 (rd t1065 x7_1)).f4).length c1077_4) ∧ w'.cell? ⟨(ad1077.add (((rd t1065 x7_1)).toNat * 6)).block, (ad1077.add (((rd t1065 x7_1)).toNat * 6)).off + 5, none⟩ = some (.slice A1077_5 ((rd_T25 l0 (rd t1065 x7_1)).f5).length c1077_5) ∧ w'.cell? (ad1078.add (x12_4).toNat) = some (.string (rdOf ByteArray.empty t1073 x12_4))) (ds := []) #[false, false, false, false, false, false, false, false, false, false, false, false, false, false, false, false] (by kernel_rfl) rfl rfl ⟨hx1076_0, hx1077_0, hx1077_1, hx1077_2, hx1077_3, hx1077_4, hx1077_5, hx1078_0⟩ (fun hHeld => ?_); refine with_tabW zq6.tab23 zq6.bits23 (fun HT_ HW_ => ?_)
         generalize wr.drew = w46 at HO_0 HO_5 HO_6 HO_11 HR1072_4 HR1072_5 HB HL1077_4 HL1077_5 HR1077_4 HR1077_5 hx1076_0 hx1077_0 hx1077_1 hx1077_2 hx1077_3 hx1077_4 hx1077_5 hx1078_0 hHeld ⊢
         refine pu_ 0 (some 83) (fl 16 1) rfl rfl HT_ ?_
         refine pu_ 1 (some 84) (fl 16 3) rfl rfl HT_ ?_
         refine pu_ 2 (some 85) (fl 16 7) rfl rfl HT_ ?_
         refine pu_ 3 (some 86) (fl 16 15) rfl rfl HT_ ?_
         refine pu_ 4 (some 87) (fl 16 31) rfl rfl HT_ ?_
         refine pu_ 5 (some 88) (fl 16 63) rfl rfl HT_ ?_
         refine pu_ 9 (some 92) (fl 16 575) rfl rfl HT_ ?_
         refine pu_ 10 (some 93) (fl 16 1599) rfl rfl HT_ ?_
         refine pu_ 11 (some 94) (fl 16 3647) rfl rfl HT_ ?_
         refine ta_ 6 (some 89) (fl 16 3711) rfl rfl HT_ HW_ hHeld ?_
         refine pu_ 7 (some 90) (fl 16 3839) rfl rfl HT_ ?_
         refine ta_ 8 (some 91) (fl 16 4095) rfl rfl HT_ HW_ hHeld ?_
         refine ta_ 12 (some 95) (fl 16 8191) rfl rfl HT_ HW_ hHeld ?_
         refine one_ (i := 13) (N := some 96) (fl 16 16383) rfl rfl (one_of HT_.out (by kernel_rfl)) (by decide) (fun K hK => ?_)
         refine goes_ Try.func29 (by kernel_rfl) rfl #[.agg #[.string ((rd_T25 l0 (rd t1065 x7_1)).f0), .string ((rd_T25 l0 (rd t1065 x7_1)).f1), .string ((rd_T25 l0 (rd t1065 x7_1)).f2), .int .i64 ((rd_T25 l0 (rd t1065 x7_1)).f3), .slice A1077_4 ((rd_T25 l0 (rd t1065 x7_1)).f4).length c1077_4, .slice A1077_5 ((rd_T25 l0 (rd t1065 x7_1)).f5).length c1077_5], .string (rdOf ByteArray.empty t1073 x12_4)] (by rfl) rfl rfl ar_ ?_
         with_reducible refine (zq1m.calls ((rd_T25 l0 (rd t1065 x7_1)).f0) ((rd_T25 l0 (rd t1065 x7_1)).f1) ((rd_T25 l0 (rd t1065 x7_1)).f2) ((rd_T25 l0 (rd t1065 x7_1)).f3) _ _ ((rd_T25 l0 (rd t1065 x7_1)).f4) _ _ ((rd_T25 l0 (rd t1065 x7_1)).f5) (rdOf ByteArray.empty t1073 x12_4) t1079 _ ?side1 ?side2 ?side3 ?side4 A44.out).mono ?_
         (case side1 => exact ck_ (ck_ HR1077_4.out))
         (case side2 => exact HC1077_4.out)
         (case side3 => exact ck_ (ck_ HR1077_5.out))
         (case side4 => exact HC1077_5.out)
         rintro e w47 ⟨rfl, hb⟩
         have HS_ := kp8_ hb hHeld
         refine ⟨_, rfl, ?_⟩
         have n0_ := q_ (Kd.V_below (vk_ HO_0.out) hb)
         have n1_ := q_ (Kd.N_below (nk_ HO_5.out) hb)
         have n2_ := q_ (Kd.R_below (rk_ HO_6.out) hb)
         have n3_ := q_ (Kd.R_below (rk_ HO_11.out) hb)
         have n4_ := q_ (Kd.V_below (vk_ HL1077_4.out) hb)
         have n5_ := q_ (Kd.V_below (vk_ HL1077_5.out) hb)
         have n6_ := q_ (Kd.C_below (ck_ HR1072_4.out) hb)
         have n7_ := q_ (Kd.C_below (ck_ HR1072_5.out) hb)
         have n8_ := q_ (Kd.C_below (ck_ HR1077_4.out) hb)
         have n9_ := q_ (Kd.C_below (ck_ HR1077_5.out) hb)
         have n10_ := q_ (below_step hb_ hb)
         clear HO_0 HO_5 HO_6 HO_11 HL1077_4 HL1077_5 HR1072_4 HR1072_5 HR1077_4 HR1077_5 HB
         have HO_0 := n0_; have HO_5 := n1_; have HO_6 := n2_; have HO_11 := n3_; have HL1077_4 := n4_; have HL1077_5 := n5_; have HR1072_4 := n6_; have HR1072_5 := n7_; have HR1077_4 := n8_; have HR1077_5 := n9_; have HB := n10_
         clear n0_ n1_ n2_ n3_ n4_ n5_ n6_ n7_ n8_ n9_ n10_
         clear hb
         refine hK.out _ _ HS_ (fun hHeld => ?_)
         clear hK K
         refine no_ (N := some 96) ?_
         refine pu_ 14 (some 97) (fl 16 32767) rfl rfl HT_ ?_
         refine pu_ 15 (some 9) (fl 16 65535) rfl rfl HT_ ?_
         refine done_ (done_of HT_.out (by kernel_rfl)) ?_
         try go_wp2
         go_roundg k4
         case measure => have := HK1.out; have := HK2.out; have := HK3.out; have := HK4.out; omega
         case rel => exact ⟨(t1079), (wrap64 (x12_4 + 1)), cl_, cl_, H', ⟨by have := HK1.out; have := HK2.out; have := HK3.out; have := HK4.out; omega⟩, ⟨by (with_reducible repeat (first | apply Kd.V_alloc | apply Kd.V_drewN | apply Kd.V_drew)); exact HO_0.out⟩, ⟨by (with_reducible repeat (first | apply Kd.N_alloc | apply Kd.N_drewN | apply Kd.N_drew)); exact HO_5.out⟩, ⟨rk_ HO_6.out⟩, ⟨rk_ HO_11.out⟩, ⟨by repeat (first | (with_reducible exact HR1072_4.out) | (with_reducible refine Kd.C_alloc ?_ _) | (with_reducible refine Kd.C_drewN ?_ _) | (with_reducible refine Kd.C_drew ?_) | exact HR1072_4.out)⟩, ⟨by repeat (first | (with_reducible exact HR1072_5.out) | (with_reducible refine Kd.C_alloc ?_ _) | (with_reducible refine Kd.C_drewN ?_ _) | (with_reducible refine Kd.C_drew ?_) | exact HR1072_5.out)⟩, ⟨hb_⟩⟩
end Go.Proofs.Ytenlmckahaniiaa.K
end
