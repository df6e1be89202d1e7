/- Lemmas for the law LibraryOrder: what its proof needs beyond what it shares. -/
import Derived.Test.YtenlmckahaniiaaZLibraryOrder0
set_option linter.unusedVariables false
set_option linter.unusedSimpArgs false
set_option linter.unusedSectionVars false
set_option maxHeartbeats 8000000
set_option maxRecDepth 100000
section
namespace Go.Proofs.Ytenlmckahaniiaa.K
open Go.RowKit Go.Proofs.YtenlmckahaniiaaW.PrintWords Go.Proofs.YtenlmckahaniiaaW.PrintLast
mutual
def zqs.l0 : Nat → List (S25) → Int → Option (Bool)
  | 0, _, _ => none
  | k + 1, x0, x3 => if x3 < (x0.length : Int) then (zqs.l1 k x0 x3 0) else (some true)
def zqs.l1 : Nat → List (S25) → Int → Int → Option (Bool)
  | 0, _, _, _ => none
  | k + 1, x0, x3, x4 => if 0 ≤ x3 then (if x3 < (x0.length : Int) then (if x4 < (((rd_T25 x0 x3).f4).length : Int) then (if 0 ≤ x4 then ((zq15.f k x0 ((rd_T62 ((rd_T25 x0 x3).f4) x4).f0)).bind fun bt1099 => (if bt1099.2 = true then (if bt1099.1 = x3 then (zqs.l1 k x0 x3 (wrap64 (x4 + 1))) else ((zqe.f k ((rd_T25 x0 x3).f0) ((rd_T25 x0 x3).f1) ((rd_T25 x0 x3).f2) ((rd_T25 x0 x3).f3) ((rd_T25 x0 x3).f4) ((rd_T25 x0 x3).f5) ((rd_T62 ((rd_T25 x0 x3).f4) x4).f0)).bind fun t1104 => (if t1104 = true then (some false) else (zqs.l1 k x0 x3 (wrap64 (x4 + 1)))))) else (zqs.l1 k x0 x3 (wrap64 (x4 + 1))))) else (none)) else (zqs.l0 k x0 (wrap64 (x3 + 1)))) else (none)) else (none)
end
def zqs.f (k : Nat) (l0 : List (S25)) : Option (Bool) := zqs.l0 k l0 0
theorem zqs.mono_l : ∀ k, (∀ y0 y1, LeO (zqs.l0 k y0 y1) (zqs.l0 (k + 1) y0 y1)) ∧ (∀ y0 y1 y2, LeO (zqs.l1 k y0 y1 y2) (zqs.l1 (k + 1) y0 y1 y2))
 | 0 => ⟨fun _ _ r h => by simp [zqs.l0] at h, fun _ _ _ r h => by simp [zqs.l1] at h⟩
 | k + 1 => by
  obtain ⟨ih0, ih1⟩ := zqs.mono_l k
  refine ⟨?_, ?_⟩
  ·intro y0 y1
   unfold zqs.l0
   with_reducible repeat' first | apply ih0 | apply ih1 | apply zqe.mono | apply zq15.mono | exact LeO.refl _ | exact LeO.none _ | refine LeO.ite ?_ ?_ | refine LeO.bind ?_ (fun _ => ?_)
  ·intro y0 y1 y2
   unfold zqs.l1
   with_reducible repeat' first | apply ih0 | apply ih1 | apply zqe.mono | apply zq15.mono | exact LeO.refl _ | exact LeO.none _ | refine LeO.ite ?_ ?_ | refine LeO.bind ?_ (fun _ => ?_)
theorem zqs.mono : ∀ a0 k, LeO (zqs.f k a0) (zqs.f (k + 1) a0) := by
 intro a0 k
 obtain ⟨ih0, ih1⟩ := zqs.mono_l k
 unfold zqs.f
 with_reducible repeat' first | apply ih0 | apply ih1 | apply zqe.mono | apply zq15.mono | exact LeO.refl _ | exact LeO.none _ | refine LeO.ite ?_ ?_ | refine LeO.bind ?_ (fun _ => ?_)
def zqs.T8 : Bool × List (List Nat × List Nat) := (true, [([], []), ([0], [0]), ([1], [1]), ([1], [1]), ([2, 3, 1], [1, 2, 3]), ([1, 4], [1, 4]), ([5, 1], [5]), ([6], [6]), ([6], [6]), ([7, 8, 6], [6, 7, 8]), ([9, 6], [6, 9]), ([6], [6]), ([6], [6]), ([11, 12, 6], [6, 11, 12]), ([13, 6], [6, 13]), ([14, 6], [6, 14]), ([6], [6]), ([15, 16, 6], [6, 15, 16]), ([17, 6], [6, 17]), ([18, 6], [6, 18]), ([10, 19, 6, 6], [6, 10, 19]), ([6, 20], [6, 20])])
def zqs.B8 : List Nat := [0, 1, 3, 3, 15, 31, 63, 127, 127, 511, 1023, 127, 127, 6271, 14463, 30847, 127, 129151, 260223, 522367, 1048575, 2097151]
theorem zqs.tab8 : rtab .any (opsOf Try.f47 8) = zqs.T8 := by kernel_rfl
theorem zqs.bits8 : waitsOk zqs.T8.2 zqs.B8 = true := by kernel_rfl
theorem zqs.calls (k : Nat) (A0 : Option Addr) (c0 : Nat) (l0 : List (S25)) (r : Bool) (w : World) (hr0 : Kd.C k25 w A0 l0.length l0) (hc0 : l0.length ≤ c0) (h : zqs.f k l0 = some r) :
  Calls Try.prog 47 #[.slice A0 l0.length c0] w fun e w' => e = .returned (.bool r) ∧ Below w.heap.size w w' := by
 have hu25 := Try.underlying25
 have HR0 := q_ hr0
 have HC0 := q_ hc0
 clear hr0 hc0
 have HB := q_ (Below.refl w.heap.size w)
 have H : (zqs.l0 k l0 0) = some r := h
 clear h
 have H' := q_ H
 clear H
 go_enter Try.func47, Try.ntmps47
 go_wp2
 go_loopg [3] k (fun kq v3 w' => ∃ (x3_1 : Int), v3 = .int .i64 x3_1 ∧ Aside0 (zqs.l0 kq l0 x3_1 = some r) ∧ Aside0 (kq ≤ k) ∧ Aside0 (Below w.heap.size w w'))
 case atStart => exact ⟨(0), cl_, H', ⟨Nat.le_refl _⟩, ⟨hb_⟩⟩
 case round =>
  clear H'
  obtain ⟨x3_1, rfl, HA, HK1, HB⟩ := hrel
  cases gk with
  | zero => exact absurd HA.out (by simp [zqs.l0])
  | succ k1 =>
   have H := HA.out
   clear HA
   simp only [zqs.l0] at H
   by_cases c2 : x3_1 < (l0.length : Int)
   rotate_left
   ·rw [if_neg c2] at H
    have c2b0 : decide (x3_1 < (l0.length : Int)) = false := decide_eq_false c2
    clear c2
    obtain rfl := Option.some.inj H
    go_wp2
    go_ret
    exact ⟨ew_, hb_⟩
   rw [if_pos c2] at H
   have c2b0 : decide (x3_1 < (l0.length : Int)) = true := decide_eq_true c2
   clear c2
   have H' := q_ H
   clear H
   go_wp2
   go_loopg [4] k1 (fun kq v4 w' => ∃ (x4_2 : Int), v4 = .int .i64 x4_2 ∧ Aside0 (zqs.l1 kq l0 x3_1 x4_2 = some r) ∧ Aside0 (kq ≤ k1) ∧ Aside0 (Below w.heap.size w w'))
   case atStart => exact ⟨(0), cl_, H', ⟨Nat.le_refl _⟩, ⟨hb_⟩⟩
   case round =>
    clear H'
    (try clear c2); (try clear c2b0); (try clear p2)
    obtain ⟨x4_2, rfl, HA, HK2, HB⟩ := hrel
    cases gk with
    | zero => exact absurd HA.out (by simp [zqs.l1])
    | succ k2 =>
     have H := HA.out
     clear HA
     simp only [zqs.l1] at H
     by_cases c3 : 0 ≤ x3_1
     rotate_left
     ·rw [if_neg c3] at H
      exact absurd H (by simp)
     rw [if_pos c3] at H
     have c3b0 : decide (0 ≤ x3_1) = true := decide_eq_true c3
     clear c3
     by_cases c4 : x3_1 < (l0.length : Int)
     rotate_left
     ·rw [if_neg c4] at H
      exact absurd H (by simp)
     rw [if_pos c4] at H
     have c4b0 : decide (x3_1 < (l0.length : Int)) = true := decide_eq_true c4
     clear c4
     by_cases c5 : x4_2 < (((rd_T25 l0 x3_1).f4).length : Int)
     rotate_left
     ·rw [if_neg c5] at H
      have c5b0 : decide (x4_2 < (((rd_T25 l0 x3_1).f4).length : Int)) = false := decide_eq_false c5
      clear c5
      have H' := q_ H
      clear H
      have p1096 : 0 ≤ (x3_1 : Int) := oa_
      have q1096 : x3_1 < (l0.length : Int) := oa_
      obtain ⟨ad1096, A1096_4, c1096_4, A1096_5, c1096_5, e1096, hx1096_0, hx1096_1, hx1096_2, hx1096_3, hx1096_4, hx1096_5, hl1096_4, hi1096_4, hl1096_5, hi1096_5⟩ := at_T25 HR0.out x3_1 p1096 q1096
      cases e1096
      replace hx1096_0 := cb_ HB.out hx1096_0
      replace hx1096_1 := cb_ HB.out hx1096_1
      replace hx1096_2 := cb_ HB.out hx1096_2
      replace hx1096_3 := cb_ HB.out hx1096_3
      replace hx1096_4 := cb_ HB.out hx1096_4
      replace hx1096_5 := cb_ HB.out hx1096_5
      have HR1096_4 := q_ hi1096_4
      have HC1096_4 := q_ hl1096_4
      clear hi1096_4 hl1096_4
      have HR1096_5 := q_ hi1096_5
      have HC1096_5 := q_ hl1096_5
      clear hi1096_5 hl1096_5
      replace p1096 := eq_true p1096
      replace q1096 := eq_true q1096
      go_wp2
      go_roundg k2
      case measure => have := HK1.out; have := HK2.out; omega
      case rel => exact ⟨(wrap64 (x3_1 + 1)), cl_, H', ⟨by have := HK1.out; have := HK2.out; omega⟩, ⟨hb_⟩⟩
     rw [if_pos c5] at H
     have c5b0 : decide (x4_2 < (((rd_T25 l0 x3_1).f4).length : Int)) = true := decide_eq_true c5
     clear c5
     by_cases c6 : 0 ≤ x4_2
     rotate_left
     ·rw [if_neg c6] at H
      exact absurd H (by simp)
     rw [if_pos c6] at H
     have c6b0 : decide (0 ≤ x4_2) = true := decide_eq_true c6
     clear c6
     replace H := Option.bind_eq_some_iff.mp H
     obtain ⟨⟨t1099, t1100⟩, A70, H⟩ := H
     (try dsimp only at H)
     have A7 := q_ A70
     clear A70
     by_cases c8 : t1100 = true
     rotate_left
     ·replace c8 := Bool.eq_false_iff.mpr c8
      subst c8
      rw [if_neg (show ¬ (false = true) by decide)] at H
      have H' := q_ H
      clear H
      have p1096 : 0 ≤ (x3_1 : Int) := oa_
      have q1096 : x3_1 < (l0.length : Int) := oa_
      obtain ⟨ad1096, A1096_4, c1096_4, A1096_5, c1096_5, e1096, hx1096_0, hx1096_1, hx1096_2, hx1096_3, hx1096_4, hx1096_5, hl1096_4, hi1096_4, hl1096_5, hi1096_5⟩ := at_T25 HR0.out x3_1 p1096 q1096
      cases e1096
      replace hx1096_0 := cb_ HB.out hx1096_0
      replace hx1096_1 := cb_ HB.out hx1096_1
      replace hx1096_2 := cb_ HB.out hx1096_2
      replace hx1096_3 := cb_ HB.out hx1096_3
      replace hx1096_4 := cb_ HB.out hx1096_4
      replace hx1096_5 := cb_ HB.out hx1096_5
      have HR1096_4 := q_ hi1096_4
      have HC1096_4 := q_ hl1096_4
      clear hi1096_4 hl1096_4
      have HR1096_5 := q_ hi1096_5
      have HC1096_5 := q_ hl1096_5
      clear hi1096_5 hl1096_5
      replace p1096 := eq_true p1096
      replace q1096 := eq_true q1096
      have p1097 : 0 ≤ (x3_1 : Int) := oa_
      have q1097 : x3_1 < (l0.length : Int) := oa_
      obtain ⟨ad1097, A1097_4, c1097_4, A1097_5, c1097_5, e1097, hx1097_0, hx1097_1, hx1097_2, hx1097_3, hx1097_4, hx1097_5, hl1097_4, hi1097_4, hl1097_5, hi1097_5⟩ := at_T25 HR0.out x3_1 p1097 q1097
      obtain rfl : ad1096 = ad1097 := (by injection e1097)
      replace hx1097_0 := cb_ HB.out hx1097_0
      replace hx1097_1 := cb_ HB.out hx1097_1
      replace hx1097_2 := cb_ HB.out hx1097_2
      replace hx1097_3 := cb_ HB.out hx1097_3
      replace hx1097_4 := cb_ HB.out hx1097_4
      replace hx1097_5 := cb_ HB.out hx1097_5
      have HR1097_4 := q_ hi1097_4
      have HC1097_4 := q_ hl1097_4
      clear hi1097_4 hl1097_4
      have HR1097_5 := q_ hi1097_5
      have HC1097_5 := q_ hl1097_5
      clear hi1097_5 hl1097_5
      replace p1097 := eq_true p1097
      replace q1097 := eq_true q1097
      have ea_ := Option.some.inj (hx1096_4.symm.trans hx1097_4)
      injection ea_ with ea_ en_ ec_
      subst ea_
      subst ec_
      clear en_
      have ea_ := Option.some.inj (hx1096_5.symm.trans hx1097_5)
      injection ea_ with ea_ en_ ec_
      subst ea_
      subst ec_
      clear en_
      have p1098 : 0 ≤ (x4_2 : Int) := oa_
      have q1098 : x4_2 < (((rd_T25 l0 x3_1).f4).length : Int) := oa_
      obtain ⟨ad1098, e1098, hx1098_0, hx1098_1, hx1098_2, hx1098_3⟩ := at_T62 HR1097_4.out x4_2 p1098 q1098
      cases e1098
      replace hx1098_0 := cb_ HB.out hx1098_0
      replace hx1098_1 := cb_ HB.out hx1098_1
      replace hx1098_2 := cb_ HB.out hx1098_2
      replace hx1098_3 := cb_ HB.out hx1098_3
      replace p1098 := eq_true p1098
      replace q1098 := eq_true q1098
      try go_wp2_with (first | ((with_reducible refine gate_callee (f := 33) rfl ?_); refine goesL_ (some 34) rfl rfl Try.func33 (by kernel_rfl) rfl #[.slice (some ad1096) l0.length c0, .string ((rd_T62 ((rd_T25 l0 x3_1).f4) x4_2).f0)] rfl ar_ ?_; (with_reducible refine (zq15.calls k2 _ _ l0 ((rd_T62 ((rd_T25 l0 x3_1).f4) x4_2).f0) t1099 false _ ?side1 ?side2 A7.out).mono ?_); (case side1 => exact ck_ (Kd.C_below HR0.out HB.out)); (case side2 => exact HC0.out); rintro e w20 ⟨rfl, hb⟩; refine ⟨_, rfl, ?_⟩; have n0_ := q_ (below_step hb_ hb); clear HB; have HB := n0_; clear n0_; (try clear hb); (try clear hb2); (try clear hk); (try clear hi)))
      have n0_ := q_ (below_drew1 HB.out)
      clear HB
      have HB := n0_
      clear n0_
      refine start_ (n := 22) (S := fun w' => True) (ds := []) #[false, false, false, false, false, false, false, false, false, false, false, false, false, false, false, false, false, false, false, false, false, false] (by kernel_rfl) rfl rfl trivial (fun hHeld => ?_); refine with_tabW zqs.tab8 zqs.bits8 (fun HT_ HW_ => ?_)
      generalize w20.drew = w21 at HB hHeld ⊢
      refine pu_ 0 (some 37) (fl 22 1) rfl rfl HT_ ?_
      refine pu_ 1 (some 38) (fl 22 3) rfl rfl HT_ ?_
      refine pn_ 2 (some 39) (fl 22 7) rfl rfl HT_ ?_
      refine pn_ 3 (some 40) (fl 22 15) rfl rfl HT_ ?_
      refine pn_ 4 (some 41) (fl 22 31) rfl rfl HT_ ?_
      refine pu_ 5 (some 42) (fl 22 63) rfl rfl HT_ ?_
      refine pu_ 6 (some 43) (fl 22 127) rfl rfl HT_ ?_
      refine pn_ 7 (some 44) (fl 22 255) rfl rfl HT_ ?_
      refine pn_ 8 (some 45) (fl 22 511) rfl rfl HT_ ?_
      refine pn_ 9 (some 46) (fl 22 1023) rfl rfl HT_ ?_
      refine pn_ 10 (some 47) (fl 22 2047) rfl rfl HT_ ?_
      refine pn_ 11 (some 48) (fl 22 4095) rfl rfl HT_ ?_
      refine pn_ 12 (some 49) (fl 22 8191) rfl rfl HT_ ?_
      refine pn_ 13 (some 50) (fl 22 16383) rfl rfl HT_ ?_
      refine pn_ 14 (some 51) (fl 22 32767) rfl rfl HT_ ?_
      refine pn_ 15 (some 52) (fl 22 65535) rfl rfl HT_ ?_
      refine pn_ 16 (some 53) (fl 22 131071) rfl rfl HT_ ?_
      refine pn_ 17 (some 54) (fl 22 262143) rfl rfl HT_ ?_
      refine pn_ 18 (some 55) (fl 22 524287) rfl rfl HT_ ?_
      refine pn_ 19 (some 56) (fl 22 1048575) rfl rfl HT_ ?_
      refine pn_ 20 (some 57) (fl 22 2097151) rfl rfl HT_ ?_
      refine pu_ 21 (some 58) (fl 22 4194303) rfl rfl HT_ ?_
      refine done_ (done_of HT_.out (by kernel_rfl)) ?_
      try go_wp2
      go_roundg k2
      case measure => have := HK1.out; have := HK2.out; omega
      case rel => exact ⟨(wrap64 (x4_2 + 1)), cl_, H', ⟨by have := HK1.out; have := HK2.out; omega⟩, ⟨hb_⟩⟩
     subst c8
     rw [if_pos rfl] at H
     by_cases c9 : t1099 = x3_1
     ·rw [if_pos c9] at H
      have c9b0 : (t1099 == x3_1) = true := beq_iff_eq.mpr c9
      have c9b1 : (t1099 != x3_1) = false := bne_eq_false_iff_eq.mpr c9
      clear c9
      have H' := q_ H
      clear H
      have p1096 : 0 ≤ (x3_1 : Int) := oa_
      have q1096 : x3_1 < (l0.length : Int) := oa_
      obtain ⟨ad1096, A1096_4, c1096_4, A1096_5, c1096_5, e1096, hx1096_0, hx1096_1, hx1096_2, hx1096_3, hx1096_4, hx1096_5, hl1096_4, hi1096_4, hl1096_5, hi1096_5⟩ := at_T25 HR0.out x3_1 p1096 q1096
      cases e1096
      replace hx1096_0 := cb_ HB.out hx1096_0
      replace hx1096_1 := cb_ HB.out hx1096_1
      replace hx1096_2 := cb_ HB.out hx1096_2
      replace hx1096_3 := cb_ HB.out hx1096_3
      replace hx1096_4 := cb_ HB.out hx1096_4
      replace hx1096_5 := cb_ HB.out hx1096_5
      have HR1096_4 := q_ hi1096_4
      have HC1096_4 := q_ hl1096_4
      clear hi1096_4 hl1096_4
      have HR1096_5 := q_ hi1096_5
      have HC1096_5 := q_ hl1096_5
      clear hi1096_5 hl1096_5
      replace p1096 := eq_true p1096
      replace q1096 := eq_true q1096
      have p1097 : 0 ≤ (x3_1 : Int) := oa_
      have q1097 : x3_1 < (l0.length : Int) := oa_
      obtain ⟨ad1097, A1097_4, c1097_4, A1097_5, c1097_5, e1097, hx1097_0, hx1097_1, hx1097_2, hx1097_3, hx1097_4, hx1097_5, hl1097_4, hi1097_4, hl1097_5, hi1097_5⟩ := at_T25 HR0.out x3_1 p1097 q1097
      obtain rfl : ad1096 = ad1097 := (by injection e1097)
      replace hx1097_0 := cb_ HB.out hx1097_0
      replace hx1097_1 := cb_ HB.out hx1097_1
      replace hx1097_2 := cb_ HB.out hx1097_2
      replace hx1097_3 := cb_ HB.out hx1097_3
      replace hx1097_4 := cb_ HB.out hx1097_4
      replace hx1097_5 := cb_ HB.out hx1097_5
      have HR1097_4 := q_ hi1097_4
      have HC1097_4 := q_ hl1097_4
      clear hi1097_4 hl1097_4
      have HR1097_5 := q_ hi1097_5
      have HC1097_5 := q_ hl1097_5
      clear hi1097_5 hl1097_5
      replace p1097 := eq_true p1097
      replace q1097 := eq_true q1097
      have ea_ := Option.some.inj (hx1096_4.symm.trans hx1097_4)
      injection ea_ with ea_ en_ ec_
      subst ea_
      subst ec_
      clear en_
      have ea_ := Option.some.inj (hx1096_5.symm.trans hx1097_5)
      injection ea_ with ea_ en_ ec_
      subst ea_
      subst ec_
      clear en_
      have p1098 : 0 ≤ (x4_2 : Int) := oa_
      have q1098 : x4_2 < (((rd_T25 l0 x3_1).f4).length : Int) := oa_
      obtain ⟨ad1098, e1098, hx1098_0, hx1098_1, hx1098_2, hx1098_3⟩ := at_T62 HR1097_4.out x4_2 p1098 q1098
      cases e1098
      replace hx1098_0 := cb_ HB.out hx1098_0
      replace hx1098_1 := cb_ HB.out hx1098_1
      replace hx1098_2 := cb_ HB.out hx1098_2
      replace hx1098_3 := cb_ HB.out hx1098_3
      replace p1098 := eq_true p1098
      replace q1098 := eq_true q1098
      try go_wp2_with (first | ((with_reducible refine gate_callee (f := 33) rfl ?_); refine goesL_ (some 34) rfl rfl Try.func33 (by kernel_rfl) rfl #[.slice (some ad1096) l0.length c0, .string ((rd_T62 ((rd_T25 l0 x3_1).f4) x4_2).f0)] rfl ar_ ?_; (with_reducible refine (zq15.calls k2 _ _ l0 ((rd_T62 ((rd_T25 l0 x3_1).f4) x4_2).f0) t1099 true _ ?side1 ?side2 A7.out).mono ?_); (case side1 => exact ck_ (Kd.C_below HR0.out HB.out)); (case side2 => exact HC0.out); rintro e w10 ⟨rfl, hb⟩; refine ⟨_, rfl, ?_⟩; have n0_ := q_ (below_step hb_ hb); clear HB; have HB := n0_; clear n0_; (try clear hb); (try clear hb2); (try clear hk); (try clear hi)))
      have n0_ := q_ (below_drew1 HB.out)
      clear HB
      have HB := n0_
      clear n0_
      refine start_ (n := 22) (S := fun w' => True) (ds := []) #[false, false, false, false, false, false, false, false, false, false, false, false, false, false, false, false, false, false, false, false, false, false] (by kernel_rfl) rfl rfl trivial (fun hHeld => ?_); refine with_tabW zqs.tab8 zqs.bits8 (fun HT_ HW_ => ?_)
      generalize w10.drew = w11 at HB hHeld ⊢
      refine pu_ 0 (some 37) (fl 22 1) rfl rfl HT_ ?_
      refine pu_ 1 (some 38) (fl 22 3) rfl rfl HT_ ?_
      refine pu_ 2 (some 39) (fl 22 7) rfl rfl HT_ ?_
      refine pu_ 3 (some 40) (fl 22 15) rfl rfl HT_ ?_
      refine pu_ 4 (some 41) (fl 22 31) rfl rfl HT_ ?_
      refine pu_ 5 (some 42) (fl 22 63) rfl rfl HT_ ?_
      refine pu_ 6 (some 43) (fl 22 127) rfl rfl HT_ ?_
      refine pn_ 7 (some 44) (fl 22 255) rfl rfl HT_ ?_
      refine pn_ 8 (some 45) (fl 22 511) rfl rfl HT_ ?_
      refine pn_ 9 (some 46) (fl 22 1023) rfl rfl HT_ ?_
      refine pn_ 10 (some 47) (fl 22 2047) rfl rfl HT_ ?_
      refine pn_ 11 (some 48) (fl 22 4095) rfl rfl HT_ ?_
      refine pn_ 12 (some 49) (fl 22 8191) rfl rfl HT_ ?_
      refine pn_ 13 (some 50) (fl 22 16383) rfl rfl HT_ ?_
      refine pn_ 14 (some 51) (fl 22 32767) rfl rfl HT_ ?_
      refine pn_ 15 (some 52) (fl 22 65535) rfl rfl HT_ ?_
      refine pn_ 16 (some 53) (fl 22 131071) rfl rfl HT_ ?_
      refine pn_ 17 (some 54) (fl 22 262143) rfl rfl HT_ ?_
      refine pn_ 18 (some 55) (fl 22 524287) rfl rfl HT_ ?_
      refine pn_ 19 (some 56) (fl 22 1048575) rfl rfl HT_ ?_
      refine pn_ 20 (some 57) (fl 22 2097151) rfl rfl HT_ ?_
      refine pu_ 21 (some 58) (fl 22 4194303) rfl rfl HT_ ?_
      refine done_ (done_of HT_.out (by kernel_rfl)) ?_
      try go_wp2
      go_roundg k2
      case measure => have := HK1.out; have := HK2.out; omega
      case rel => exact ⟨(wrap64 (x4_2 + 1)), cl_, H', ⟨by have := HK1.out; have := HK2.out; omega⟩, ⟨hb_⟩⟩
     rw [if_neg c9] at H
     have c9b0 : (t1099 == x3_1) = false := beq_eq_false_iff_ne.mpr c9
     have c9b1 : (t1099 != x3_1) = true := bne_iff_ne.mpr c9
     replace H := Option.bind_eq_some_iff.mp H
     obtain ⟨t1104, A120, H⟩ := H
     (try dsimp only at H)
     have A12 := q_ A120
     clear A120
     by_cases c13 : t1104 = true
     ·subst c13
      rw [if_pos rfl] at H
      obtain rfl := Option.some.inj H
      have p1096 : 0 ≤ (x3_1 : Int) := oa_
      have q1096 : x3_1 < (l0.length : Int) := oa_
      obtain ⟨ad1096, A1096_4, c1096_4, A1096_5, c1096_5, e1096, hx1096_0, hx1096_1, hx1096_2, hx1096_3, hx1096_4, hx1096_5, hl1096_4, hi1096_4, hl1096_5, hi1096_5⟩ := at_T25 HR0.out x3_1 p1096 q1096
      cases e1096
      replace hx1096_0 := cb_ HB.out hx1096_0
      replace hx1096_1 := cb_ HB.out hx1096_1
      replace hx1096_2 := cb_ HB.out hx1096_2
      replace hx1096_3 := cb_ HB.out hx1096_3
      replace hx1096_4 := cb_ HB.out hx1096_4
      replace hx1096_5 := cb_ HB.out hx1096_5
      have HR1096_4 := q_ hi1096_4
      have HC1096_4 := q_ hl1096_4
      clear hi1096_4 hl1096_4
      have HR1096_5 := q_ hi1096_5
      have HC1096_5 := q_ hl1096_5
      clear hi1096_5 hl1096_5
      replace p1096 := eq_true p1096
      replace q1096 := eq_true q1096
      have p1097 : 0 ≤ (x3_1 : Int) := oa_
      have q1097 : x3_1 < (l0.length : Int) := oa_
      obtain ⟨ad1097, A1097_4, c1097_4, A1097_5, c1097_5, e1097, hx1097_0, hx1097_1, hx1097_2, hx1097_3, hx1097_4, hx1097_5, hl1097_4, hi1097_4, hl1097_5, hi1097_5⟩ := at_T25 HR0.out x3_1 p1097 q1097
      obtain rfl : ad1096 = ad1097 := (by injection e1097)
      replace hx1097_0 := cb_ HB.out hx1097_0
      replace hx1097_1 := cb_ HB.out hx1097_1
      replace hx1097_2 := cb_ HB.out hx1097_2
      replace hx1097_3 := cb_ HB.out hx1097_3
      replace hx1097_4 := cb_ HB.out hx1097_4
      replace hx1097_5 := cb_ HB.out hx1097_5
      have HR1097_4 := q_ hi1097_4
      have HC1097_4 := q_ hl1097_4
      clear hi1097_4 hl1097_4
      have HR1097_5 := q_ hi1097_5
      have HC1097_5 := q_ hl1097_5
      clear hi1097_5 hl1097_5
      replace p1097 := eq_true p1097
      replace q1097 := eq_true q1097
      have ea_ := Option.some.inj (hx1096_4.symm.trans hx1097_4)
      injection ea_ with ea_ en_ ec_
      subst ea_
      subst ec_
      clear en_
      have ea_ := Option.some.inj (hx1096_5.symm.trans hx1097_5)
      injection ea_ with ea_ en_ ec_
      subst ea_
      subst ec_
      clear en_
      have p1098 : 0 ≤ (x4_2 : Int) := oa_
      have q1098 : x4_2 < (((rd_T25 l0 x3_1).f4).length : Int) := oa_
      obtain ⟨ad1098, e1098, hx1098_0, hx1098_1, hx1098_2, hx1098_3⟩ := at_T62 HR1097_4.out x4_2 p1098 q1098
      cases e1098
      replace hx1098_0 := cb_ HB.out hx1098_0
      replace hx1098_1 := cb_ HB.out hx1098_1
      replace hx1098_2 := cb_ HB.out hx1098_2
      replace hx1098_3 := cb_ HB.out hx1098_3
      replace p1098 := eq_true p1098
      replace q1098 := eq_true q1098
      try go_wp2_with (first | ((with_reducible refine gate_callee (f := 33) rfl ?_); refine goesL_ (some 34) rfl rfl Try.func33 (by kernel_rfl) rfl #[.slice (some ad1096) l0.length c0, .string ((rd_T62 ((rd_T25 l0 x3_1).f4) x4_2).f0)] rfl ar_ ?_; (with_reducible refine (zq15.calls k2 _ _ l0 ((rd_T62 ((rd_T25 l0 x3_1).f4) x4_2).f0) t1099 true _ ?side1 ?side2 A7.out).mono ?_); (case side1 => exact ck_ (Kd.C_below HR0.out HB.out)); (case side2 => exact HC0.out); rintro e w14 ⟨rfl, hb⟩; refine ⟨_, rfl, ?_⟩; have n0_ := q_ (below_step hb_ hb); clear HB; have HB := n0_; clear n0_; (try clear hb); (try clear hb2); (try clear hk); (try clear hi)))
      have n0_ := q_ (below_drew1 HB.out)
      clear HB
      have HB := n0_
      clear n0_
      have p1101 : 0 ≤ (x3_1 : Int) := oa_
      have q1101 : x3_1 < (l0.length : Int) := oa_
      obtain ⟨ad1101, A1101_4, c1101_4, A1101_5, c1101_5, e1101, hx1101_0, hx1101_1, hx1101_2, hx1101_3, hx1101_4, hx1101_5, hl1101_4, hi1101_4, hl1101_5, hi1101_5⟩ := at_T25 HR0.out x3_1 p1101 q1101
      have hw1101_5 := hx1101_5
      have hw1101_4 := hx1101_4
      have hw1101_3 := hx1101_3
      have hw1101_2 := hx1101_2
      have hw1101_1 := hx1101_1
      have hw1101_0 := hx1101_0
      obtain rfl : ad1096 = ad1101 := (by injection e1101)
      replace hx1101_0 := cb_ HB.out hx1101_0
      replace hx1101_1 := cb_ HB.out hx1101_1
      replace hx1101_2 := cb_ HB.out hx1101_2
      replace hx1101_3 := cb_ HB.out hx1101_3
      replace hx1101_4 := cb_ HB.out hx1101_4
      replace hx1101_5 := cb_ HB.out hx1101_5
      have HR1101_4 := q_ hi1101_4
      have HC1101_4 := q_ hl1101_4
      clear hi1101_4 hl1101_4
      have HR1101_5 := q_ hi1101_5
      have HC1101_5 := q_ hl1101_5
      clear hi1101_5 hl1101_5
      replace p1101 := eq_true p1101
      replace q1101 := eq_true q1101
      have p1102 : 0 ≤ (x3_1 : Int) := oa_
      have q1102 : x3_1 < (l0.length : Int) := oa_
      obtain ⟨ad1102, A1102_4, c1102_4, A1102_5, c1102_5, e1102, hx1102_0, hx1102_1, hx1102_2, hx1102_3, hx1102_4, hx1102_5, hl1102_4, hi1102_4, hl1102_5, hi1102_5⟩ := at_T25 HR0.out x3_1 p1102 q1102
      have hw1102_5 := hx1102_5
      have hw1102_4 := hx1102_4
      have hw1102_3 := hx1102_3
      have hw1102_2 := hx1102_2
      have hw1102_1 := hx1102_1
      have hw1102_0 := hx1102_0
      obtain rfl : ad1096 = ad1102 := (by injection e1102)
      replace hx1102_0 := cb_ HB.out hx1102_0
      replace hx1102_1 := cb_ HB.out hx1102_1
      replace hx1102_2 := cb_ HB.out hx1102_2
      replace hx1102_3 := cb_ HB.out hx1102_3
      replace hx1102_4 := cb_ HB.out hx1102_4
      replace hx1102_5 := cb_ HB.out hx1102_5
      have HR1102_4 := q_ hi1102_4
      have HC1102_4 := q_ hl1102_4
      clear hi1102_4 hl1102_4
      have HR1102_5 := q_ hi1102_5
      have HC1102_5 := q_ hl1102_5
      clear hi1102_5 hl1102_5
      replace p1102 := eq_true p1102
      replace q1102 := eq_true q1102
      have ea_ := Option.some.inj (hx1101_4.symm.trans hx1102_4)
      injection ea_ with ea_ en_ ec_
      subst ea_
      subst ec_
      clear en_
      have ea_ := Option.some.inj (hx1101_5.symm.trans hx1102_5)
      injection ea_ with ea_ en_ ec_
      subst ea_
      subst ec_
      clear en_
      have p1103 : 0 ≤ (x4_2 : Int) := oa_
      have q1103 : x4_2 < (((rd_T25 l0 x3_1).f4).length : Int) := oa_
      obtain ⟨ad1103, e1103, hx1103_0, hx1103_1, hx1103_2, hx1103_3⟩ := at_T62 HR1102_4.out x4_2 p1103 q1103
      have hw1103_3 := hx1103_3
      have hw1103_2 := hx1103_2
      have hw1103_1 := hx1103_1
      have hw1103_0 := hx1103_0
      cases e1103
      replace hx1103_0 := cb_ HB.out hx1103_0
      replace hx1103_1 := cb_ HB.out hx1103_1
      replace hx1103_2 := cb_ HB.out hx1103_2
      replace hx1103_3 := cb_ HB.out hx1103_3
      replace p1103 := eq_true p1103
      replace q1103 := eq_true q1103
      refine start_ (n := 22) (S := fun w' => w'.cell? (ad1096.add ((x3_1).toNat * 6)) = some (.string ((rd_T25 l0 x3_1).f0)) ∧ w'.cell? ⟨(ad1096.add ((x3_1).toNat * 6)).block, (ad1096.add ((x3_1).toNat * 6)).off + 1, none⟩ = some (.string ((rd_T25 l0 x3_1).f1)) ∧ w'.cell? ⟨(ad1096.add ((x3_1).toNat * 6)).block, (ad1096.add ((x3_1).toNat * 6)).off + 2, none⟩ = some (.string ((rd_T25 l0 x3_1).f2)) ∧ w'.cell? ⟨(ad1096.add ((x3_1).toNat * 6)).block, (ad1096.add ((x3_1).toNat * 6)).off + 3, none⟩ = some (.int .i64 ((rd_T25 l0 x3_1).f3)) ∧ w'.cell? ⟨(ad1096.add ((x3_1).toNat * 6)).block, (ad1096.add ((x3_1).toNat * 6)).off + 4, none⟩ = some (.slice (some ad1103) ((rd_T25 l0 x3_1).f4).length c1101_4) ∧ w'.cell? ⟨(ad1096.add ((x3_1).toNat * 6)).block, (ad1096.add ((x3_1).toNat * 6)).off + 5, none⟩ = some (.slice A1101_5 ((rd_T25 l0 x3_1).f5).length c1101_5) ∧ w'.cell? (ad1096.add ((x3_1).toNat * 6)) = some (.string ((rd_T25 l0 x3_1).f0)) ∧ w'.cell? ⟨(ad1096.add ((x3_1).toNat * 6)).block, (ad1096.add ((x3_1).toNat * 6)).off + 1, none⟩ = some (.string ((rd_T25 l0 x3_1).f1)) ∧ w'.cell? ⟨(ad1096.add ((x3_1).toNat * 6)).block, (ad1096.add ((x3_1).toNat * 6)).off + 2, none⟩ = some (.string ((rd_T25 l0 x3_1).f2)) ∧ w'.cell? ⟨(ad1096.add ((x3_1).toNat * 6)).block, (ad1096.add ((x3_1).toNat * 6)).off + 3, none⟩ = some (.int .i64 ((rd_T25 l0 x3_1).f3)) ∧ w'.cell? ⟨(ad1096.add ((x3_1).toNat * 6)).block, (ad1096.add ((x3_1).toNat * 6)).off + 4, none⟩ = some (.slice (some ad1103) ((rd_T25 l0 x3_1).f4).length c1101_4) ∧ w'.cell? ⟨(ad1096.add ((x3_1).toNat * 6)).block, (ad1096.add ((x3_1).toNat * 6)).off + 5, none⟩ = some (.slice A1101_5 ((rd_T25 l0 x3_1).f5).length c1101_5) ∧ w'.cell? (ad1103.add ((x4_2).toNat * 4)) = some (.string ((rd_T62 ((rd_T25 l0 x3_1).f4) x4_2).f0)) ∧ w'.cell? ⟨(ad1103.add ((x4_2).toNat * 4)).block, (ad1103.add ((x4_2).toNat * 4)).off + 1, none⟩ = some (.int .i64 ((rd_T62 ((rd_T25 l0 x3_1).f4) x4_2).f1)) ∧ w'.cell? ⟨(ad1103.add ((x4_2).toNat * 4)).block, (ad1103.add ((x4_2).toNat * 4)).off + 2, none⟩ = some (.int .i64 ((rd_T62 ((rd_T25 l0 x3_1).f4) x4_2).f2)) ∧ w'.cell? ⟨(ad1103.add ((x4_2).toNat * 4)).block, (ad1103.add ((x4_2).toNat * 4)).off + 3, none⟩ = some (.bool ((rd_T62 ((rd_T25 l0 x3_1).f4) x4_2).f3))) (ds := []) #[false, false, false, false, false, false, false, false, false, false, false, false, false, false, false, false, false, false, false, false, false, false] (by kernel_rfl) rfl rfl ⟨((HB.out.cell (World.block_lt_of_cell? w _ hw1101_0)).trans hw1101_0), ((HB.out.cell (World.block_lt_of_cell? w _ hw1101_1)).trans hw1101_1), ((HB.out.cell (World.block_lt_of_cell? w _ hw1101_2)).trans hw1101_2), ((HB.out.cell (World.block_lt_of_cell? w _ hw1101_3)).trans hw1101_3), ((HB.out.cell (World.block_lt_of_cell? w _ hw1101_4)).trans hw1101_4), ((HB.out.cell (World.block_lt_of_cell? w _ hw1101_5)).trans hw1101_5), ((HB.out.cell (World.block_lt_of_cell? w _ hw1102_0)).trans hw1102_0), ((HB.out.cell (World.block_lt_of_cell? w _ hw1102_1)).trans hw1102_1), ((HB.out.cell (World.block_lt_of_cell? w _ hw1102_2)).trans hw1102_2), ((HB.out.cell (World.block_lt_of_cell? w _ hw1102_3)).trans hw1102_3), ((HB.out.cell (World.block_lt_of_cell? w _ hw1102_4)).trans hw1102_4), ((HB.out.cell (World.block_lt_of_cell? w _ hw1102_5)).trans hw1102_5), ((HB.out.cell (World.block_lt_of_cell? w _ hw1103_0)).trans hw1103_0), ((HB.out.cell (World.block_lt_of_cell? w _ hw1103_1)).trans hw1103_1), ((HB.out.cell (World.block_lt_of_cell? w _ hw1103_2)).trans hw1103_2), ((HB.out.cell (World.block_lt_of_cell? w _ hw1103_3)).trans hw1103_3)⟩ (fun hHeld => ?_); refine with_tabW zqs.tab8 zqs.bits8 (fun HT_ HW_ => ?_)
      generalize w14.drew = w15 at HB HR1101_4 HR1101_5 HR1102_4 HR1102_5 hx1101_0 hx1101_1 hx1101_2 hx1101_3 hx1101_4 hx1101_5 hx1102_0 hx1102_1 hx1102_2 hx1102_3 hx1102_4 hx1102_5 hx1103_0 hx1103_1 hx1103_2 hx1103_3 hHeld ⊢
      refine pu_ 0 (some 37) (fl 22 1) rfl rfl HT_ ?_
      refine pu_ 1 (some 38) (fl 22 3) rfl rfl HT_ ?_
      refine pu_ 2 (some 39) (fl 22 7) rfl rfl HT_ ?_
      refine pu_ 3 (some 40) (fl 22 15) rfl rfl HT_ ?_
      refine pu_ 4 (some 41) (fl 22 31) rfl rfl HT_ ?_
      refine pu_ 5 (some 42) (fl 22 63) rfl rfl HT_ ?_
      refine pu_ 6 (some 43) (fl 22 127) rfl rfl HT_ ?_
      refine pu_ 7 (some 44) (fl 22 255) rfl rfl HT_ ?_
      refine pu_ 8 (some 45) (fl 22 511) rfl rfl HT_ ?_
      refine pu_ 9 (some 46) (fl 22 1023) rfl rfl HT_ ?_
      refine pu_ 11 (some 48) (fl 22 3071) rfl rfl HT_ ?_
      refine pu_ 12 (some 49) (fl 22 7167) rfl rfl HT_ ?_
      refine pu_ 13 (some 50) (fl 22 15359) rfl rfl HT_ ?_
      refine pu_ 14 (some 51) (fl 22 31743) rfl rfl HT_ ?_
      refine pu_ 16 (some 53) (fl 22 97279) rfl rfl HT_ ?_
      refine ta_ 10 (some 47) (fl 22 98303) rfl rfl HT_ HW_ hHeld ?_
      refine ta_ 15 (some 52) (fl 22 131071) rfl rfl HT_ HW_ hHeld ?_
      refine pu_ 17 (some 54) (fl 22 262143) rfl rfl HT_ ?_
      refine pu_ 18 (some 55) (fl 22 524287) rfl rfl HT_ ?_
      refine ta_ 19 (some 56) (fl 22 1048575) rfl rfl HT_ HW_ hHeld ?_
      refine one_ (i := 20) (N := some 57) (fl 22 2097151) rfl rfl (one_of HT_.out (by kernel_rfl)) (by decide) (fun K hK => ?_)
      refine goes_ Try.func30 (by kernel_rfl) rfl #[.agg #[.string ((rd_T25 l0 x3_1).f0), .string ((rd_T25 l0 x3_1).f1), .string ((rd_T25 l0 x3_1).f2), .int .i64 ((rd_T25 l0 x3_1).f3), .slice (some ad1103) ((rd_T25 l0 x3_1).f4).length c1101_4, .slice A1101_5 ((rd_T25 l0 x3_1).f5).length c1101_5], .string ((rd_T62 ((rd_T25 l0 x3_1).f4) x4_2).f0)] (by rfl) rfl rfl ar_ ?_
      with_reducible refine (zqe.calls k2 ((rd_T25 l0 x3_1).f0) ((rd_T25 l0 x3_1).f1) ((rd_T25 l0 x3_1).f2) ((rd_T25 l0 x3_1).f3) _ _ ((rd_T25 l0 x3_1).f4) _ _ ((rd_T25 l0 x3_1).f5) ((rd_T62 ((rd_T25 l0 x3_1).f4) x4_2).f0) true _ ?side1 ?side2 ?side3 ?side4 A12.out).mono ?_
      (case side1 => exact ck_ (Kd.C_below HR1101_4.out HB.out))
      (case side2 => exact HC1101_4.out)
      (case side3 => exact ck_ (Kd.C_below HR1101_5.out HB.out))
      (case side4 => exact HC1101_5.out)
      rintro e w16 ⟨rfl, hb⟩
      refine ⟨_, rfl, ?_⟩
      have n0_ := q_ (below_step hb_ hb)
      clear HB
      have HB := n0_
      clear n0_
      (try clear hb); (try clear hb2); (try clear hk); (try clear hi)
      refine hK.out _ _ ⟨((HB.out.cell (World.block_lt_of_cell? w _ hw1101_0)).trans hw1101_0), ((HB.out.cell (World.block_lt_of_cell? w _ hw1101_1)).trans hw1101_1), ((HB.out.cell (World.block_lt_of_cell? w _ hw1101_2)).trans hw1101_2), ((HB.out.cell (World.block_lt_of_cell? w _ hw1101_3)).trans hw1101_3), ((HB.out.cell (World.block_lt_of_cell? w _ hw1101_4)).trans hw1101_4), ((HB.out.cell (World.block_lt_of_cell? w _ hw1101_5)).trans hw1101_5), ((HB.out.cell (World.block_lt_of_cell? w _ hw1102_0)).trans hw1102_0), ((HB.out.cell (World.block_lt_of_cell? w _ hw1102_1)).trans hw1102_1), ((HB.out.cell (World.block_lt_of_cell? w _ hw1102_2)).trans hw1102_2), ((HB.out.cell (World.block_lt_of_cell? w _ hw1102_3)).trans hw1102_3), ((HB.out.cell (World.block_lt_of_cell? w _ hw1102_4)).trans hw1102_4), ((HB.out.cell (World.block_lt_of_cell? w _ hw1102_5)).trans hw1102_5), ((HB.out.cell (World.block_lt_of_cell? w _ hw1103_0)).trans hw1103_0), ((HB.out.cell (World.block_lt_of_cell? w _ hw1103_1)).trans hw1103_1), ((HB.out.cell (World.block_lt_of_cell? w _ hw1103_2)).trans hw1103_2), ((HB.out.cell (World.block_lt_of_cell? w _ hw1103_3)).trans hw1103_3)⟩ (fun hHeld => ?_)
      clear hK K
      refine no_ (N := some 57) ?_
      refine pu_ 21 (some 58) (fl 22 4194303) rfl rfl HT_ ?_
      refine done_ (done_of HT_.out (by kernel_rfl)) ?_
      try go_wp2
      go_ret
      exact ⟨ew_, hb_⟩
     replace c13 := Bool.eq_false_iff.mpr c13
     subst c13
     rw [if_neg (show ¬ (false = true) by decide)] at H
     have H' := q_ H
     clear H
     have p1096 : 0 ≤ (x3_1 : Int) := oa_
     have q1096 : x3_1 < (l0.length : Int) := oa_
     obtain ⟨ad1096, A1096_4, c1096_4, A1096_5, c1096_5, e1096, hx1096_0, hx1096_1, hx1096_2, hx1096_3, hx1096_4, hx1096_5, hl1096_4, hi1096_4, hl1096_5, hi1096_5⟩ := at_T25 HR0.out x3_1 p1096 q1096
     cases e1096
     replace hx1096_0 := cb_ HB.out hx1096_0
     replace hx1096_1 := cb_ HB.out hx1096_1
     replace hx1096_2 := cb_ HB.out hx1096_2
     replace hx1096_3 := cb_ HB.out hx1096_3
     replace hx1096_4 := cb_ HB.out hx1096_4
     replace hx1096_5 := cb_ HB.out hx1096_5
     have HR1096_4 := q_ hi1096_4
     have HC1096_4 := q_ hl1096_4
     clear hi1096_4 hl1096_4
     have HR1096_5 := q_ hi1096_5
     have HC1096_5 := q_ hl1096_5
     clear hi1096_5 hl1096_5
     replace p1096 := eq_true p1096
     replace q1096 := eq_true q1096
     have p1097 : 0 ≤ (x3_1 : Int) := oa_
     have q1097 : x3_1 < (l0.length : Int) := oa_
     obtain ⟨ad1097, A1097_4, c1097_4, A1097_5, c1097_5, e1097, hx1097_0, hx1097_1, hx1097_2, hx1097_3, hx1097_4, hx1097_5, hl1097_4, hi1097_4, hl1097_5, hi1097_5⟩ := at_T25 HR0.out x3_1 p1097 q1097
     obtain rfl : ad1096 = ad1097 := (by injection e1097)
     replace hx1097_0 := cb_ HB.out hx1097_0
     replace hx1097_1 := cb_ HB.out hx1097_1
     replace hx1097_2 := cb_ HB.out hx1097_2
     replace hx1097_3 := cb_ HB.out hx1097_3
     replace hx1097_4 := cb_ HB.out hx1097_4
     replace hx1097_5 := cb_ HB.out hx1097_5
     have HR1097_4 := q_ hi1097_4
     have HC1097_4 := q_ hl1097_4
     clear hi1097_4 hl1097_4
     have HR1097_5 := q_ hi1097_5
     have HC1097_5 := q_ hl1097_5
     clear hi1097_5 hl1097_5
     replace p1097 := eq_true p1097
     replace q1097 := eq_true q1097
     have ea_ := Option.some.inj (hx1096_4.symm.trans hx1097_4)
     injection ea_ with ea_ en_ ec_
     subst ea_
     subst ec_
     clear en_
     have ea_ := Option.some.inj (hx1096_5.symm.trans hx1097_5)
     injection ea_ with ea_ en_ ec_
     subst ea_
     subst ec_
     clear en_
     have p1098 : 0 ≤ (x4_2 : Int) := oa_
     have q1098 : x4_2 < (((rd_T25 l0 x3_1).f4).length : Int) := oa_
     obtain ⟨ad1098, e1098, hx1098_0, hx1098_1, hx1098_2, hx1098_3⟩ := at_T62 HR1097_4.out x4_2 p1098 q1098
     cases e1098
     replace hx1098_0 := cb_ HB.out hx1098_0
     replace hx1098_1 := cb_ HB.out hx1098_1
     replace hx1098_2 := cb_ HB.out hx1098_2
     replace hx1098_3 := cb_ HB.out hx1098_3
     replace p1098 := eq_true p1098
     replace q1098 := eq_true q1098
     try go_wp2_with (first | ((with_reducible refine gate_callee (f := 33) rfl ?_); refine goesL_ (some 34) rfl rfl Try.func33 (by kernel_rfl) rfl #[.slice (some ad1096) l0.length c0, .string ((rd_T62 ((rd_T25 l0 x3_1).f4) x4_2).f0)] rfl ar_ ?_; (with_reducible refine (zq15.calls k2 _ _ l0 ((rd_T62 ((rd_T25 l0 x3_1).f4) x4_2).f0) t1099 true _ ?side1 ?side2 A7.out).mono ?_); (case side1 => exact ck_ (Kd.C_below HR0.out HB.out)); (case side2 => exact HC0.out); rintro e w17 ⟨rfl, hb⟩; refine ⟨_, rfl, ?_⟩; have n0_ := q_ (below_step hb_ hb); clear HB; have HB := n0_; clear n0_; (try clear hb); (try clear hb2); (try clear hk); (try clear hi)))
     have n0_ := q_ (below_drew1 HB.out)
     clear HB
     have HB := n0_
     clear n0_
     have p1101 : 0 ≤ (x3_1 : Int) := oa_
     have q1101 : x3_1 < (l0.length : Int) := oa_
     obtain ⟨ad1101, A1101_4, c1101_4, A1101_5, c1101_5, e1101, hx1101_0, hx1101_1, hx1101_2, hx1101_3, hx1101_4, hx1101_5, hl1101_4, hi1101_4, hl1101_5, hi1101_5⟩ := at_T25 HR0.out x3_1 p1101 q1101
     have hw1101_5 := hx1101_5
     have hw1101_4 := hx1101_4
     have hw1101_3 := hx1101_3
     have hw1101_2 := hx1101_2
     have hw1101_1 := hx1101_1
     have hw1101_0 := hx1101_0
     obtain rfl : ad1096 = ad1101 := (by injection e1101)
     replace hx1101_0 := cb_ HB.out hx1101_0
     replace hx1101_1 := cb_ HB.out hx1101_1
     replace hx1101_2 := cb_ HB.out hx1101_2
     replace hx1101_3 := cb_ HB.out hx1101_3
     replace hx1101_4 := cb_ HB.out hx1101_4
     replace hx1101_5 := cb_ HB.out hx1101_5
     have HR1101_4 := q_ hi1101_4
     have HC1101_4 := q_ hl1101_4
     clear hi1101_4 hl1101_4
     have HR1101_5 := q_ hi1101_5
     have HC1101_5 := q_ hl1101_5
     clear hi1101_5 hl1101_5
     replace p1101 := eq_true p1101
     replace q1101 := eq_true q1101
     have p1102 : 0 ≤ (x3_1 : Int) := oa_
     have q1102 : x3_1 < (l0.length : Int) := oa_
     obtain ⟨ad1102, A1102_4, c1102_4, A1102_5, c1102_5, e1102, hx1102_0, hx1102_1, hx1102_2, hx1102_3, hx1102_4, hx1102_5, hl1102_4, hi1102_4, hl1102_5, hi1102_5⟩ := at_T25 HR0.out x3_1 p1102 q1102
     have hw1102_5 := hx1102_5
     have hw1102_4 := hx1102_4
     have hw1102_3 := hx1102_3
     have hw1102_2 := hx1102_2
     have hw1102_1 := hx1102_1
     have hw1102_0 := hx1102_0
     obtain rfl : ad1096 = ad1102 := (by injection e1102)
     replace hx1102_0 := cb_ HB.out hx1102_0
     replace hx1102_1 := cb_ HB.out hx1102_1
     replace hx1102_2 := cb_ HB.out hx1102_2
     replace hx1102_3 := cb_ HB.out hx1102_3
     replace hx1102_4 := cb_ HB.out hx1102_4
     replace hx1102_5 := cb_ HB.out hx1102_5
     have HR1102_4 := q_ hi1102_4
     have HC1102_4 := q_ hl1102_4
     clear hi1102_4 hl1102_4
     have HR1102_5 := q_ hi1102_5
     have HC1102_5 := q_ hl1102_5
     clear hi1102_5 hl1102_5
     replace p1102 := eq_true p1102
     replace q1102 := eq_true q1102
     have ea_ := Option.some.inj (hx1101_4.symm.trans hx1102_4)
     injection ea_ with ea_ en_ ec_
     subst ea_
     subst ec_
     clear en_
     have ea_ := Option.some.inj (hx1101_5.symm.trans hx1102_5)
     injection ea_ with ea_ en_ ec_
     subst ea_
     subst ec_
     clear en_
     have p1103 : 0 ≤ (x4_2 : Int) := oa_
     have q1103 : x4_2 < (((rd_T25 l0 x3_1).f4).length : Int) := oa_
     obtain ⟨ad1103, e1103, hx1103_0, hx1103_1, hx1103_2, hx1103_3⟩ := at_T62 HR1102_4.out x4_2 p1103 q1103
     have hw1103_3 := hx1103_3
     have hw1103_2 := hx1103_2
     have hw1103_1 := hx1103_1
     have hw1103_0 := hx1103_0
     cases e1103
     replace hx1103_0 := cb_ HB.out hx1103_0
     replace hx1103_1 := cb_ HB.out hx1103_1
     replace hx1103_2 := cb_ HB.out hx1103_2
     replace hx1103_3 := cb_ HB.out hx1103_3
     replace p1103 := eq_true p1103
     replace q1103 := eq_true q1103
     refine start_ (n := 22) (S := fun w' => w'.cell? (ad1096.add ((x3_1).toNat * 6)) = some (.string ((rd_T25 l0 x3_1).f0)) ∧ w'.cell? ⟨(ad1096.add ((x3_1).toNat * 6)).block, (ad1096.add ((x3_1).toNat * 6)).off + 1, none⟩ = some (.string ((rd_T25 l0 x3_1).f1)) ∧ w'.cell? ⟨(ad1096.add ((x3_1).toNat * 6)).block, (ad1096.add ((x3_1).toNat * 6)).off + 2, none⟩ = some (.string ((rd_T25 l0 x3_1).f2)) ∧ w'.cell? ⟨(ad1096.add ((x3_1).toNat * 6)).block, (ad1096.add ((x3_1).toNat * 6)).off + 3, none⟩ = some (.int .i64 ((rd_T25 l0 x3_1).f3)) ∧ w'.cell? ⟨(ad1096.add ((x3_1).toNat * 6)).block, (ad1096.add ((x3_1).toNat * 6)).off + 4, none⟩ = some (.slice (some ad1103) ((rd_T25 l0 x3_1).f4).length c1101_4) ∧ w'.cell? ⟨(ad1096.add ((x3_1).toNat * 6)).block, (ad1096.add ((x3_1).toNat * 6)).off + 5, none⟩ = some (.slice A1101_5 ((rd_T25 l0 x3_1).f5).length c1101_5) ∧ w'.cell? (ad1096.add ((x3_1).toNat * 6)) = some (.string ((rd_T25 l0 x3_1).f0)) ∧ w'.cell? ⟨(ad1096.add ((x3_1).toNat * 6)).block, (ad1096.add ((x3_1).toNat * 6)).off + 1, none⟩ = some (.string ((rd_T25 l0 x3_1).f1)) ∧ w'.cell? ⟨(ad1096.add ((x3_1).toNat * 6)).block, (ad1096.add ((x3_1).toNat * 6)).off + 2, none⟩ = some (.string ((rd_T25 l0 x3_1).f2)) ∧ w'.cell? ⟨(ad1096.add ((x3_1).toNat * 6)).block, (ad1096.add ((x3_1).toNat * 6)).off + 3, none⟩ = some (.int .i64 ((rd_T25 l0 x3_1).f3)) ∧ w'.cell? ⟨(ad1096.add ((x3_1).toNat * 6)).block, (ad1096.add ((x3_1).toNat * 6)).off + 4, none⟩ = some (.slice (some ad1103) ((rd_T25 l0 x3_1).f4).length c1101_4) ∧ w'.cell? ⟨(ad1096.add ((x3_1).toNat * 6)).block, (ad1096.add ((x3_1).toNat * 6)).off + 5, none⟩ = some (.slice A1101_5 ((rd_T25 l0 x3_1).f5).length c1101_5) ∧ w'.cell? (ad1103.add ((x4_2).toNat * 4)) = some (.string ((rd_T62 ((rd_T25 l0 x3_1).f4) x4_2).f0)) ∧ w'.cell? ⟨(ad1103.add ((x4_2).toNat * 4)).block, (ad1103.add ((x4_2).toNat * 4)).off + 1, none⟩ = some (.int .i64 ((rd_T62 ((rd_T25 l0 x3_1).f4) x4_2).f1)) ∧ w'.cell? ⟨(ad1103.add ((x4_2).toNat * 4)).block, (ad1103.add ((x4_2).toNat * 4)).off + 2, none⟩ = some (.int .i64 ((rd_T62 ((rd_T25 l0 x3_1).f4) x4_2).f2)) ∧ w'.cell? ⟨(ad1103.add ((x4_2).toNat * 4)).block, (ad1103.add ((x4_2).toNat * 4)).off + 3, none⟩ = some (.bool ((rd_T62 ((rd_T25 l0 x3_1).f4) x4_2).f3))) (ds := []) #[false, false, false, false, false, false, false, false, false, false, false, false, false, false, false, false, false, false, false, false, false, false] (by kernel_rfl) rfl rfl ⟨((HB.out.cell (World.block_lt_of_cell? w _ hw1101_0)).trans hw1101_0), ((HB.out.cell (World.block_lt_of_cell? w _ hw1101_1)).trans hw1101_1), ((HB.out.cell (World.block_lt_of_cell? w _ hw1101_2)).trans hw1101_2), ((HB.out.cell (World.block_lt_of_cell? w _ hw1101_3)).trans hw1101_3), ((HB.out.cell (World.block_lt_of_cell? w _ hw1101_4)).trans hw1101_4), ((HB.out.cell (World.block_lt_of_cell? w _ hw1101_5)).trans hw1101_5), ((HB.out.cell (World.block_lt_of_cell? w _ hw1102_0)).trans hw1102_0), ((HB.out.cell (World.block_lt_of_cell? w _ hw1102_1)).trans hw1102_1), ((HB.out.cell (World.block_lt_of_cell? w _ hw1102_2)).trans hw1102_2), ((HB.out.cell (World.block_lt_of_cell? w _ hw1102_3)).trans hw1102_3), ((HB.out.cell (World.block_lt_of_cell? w _ hw1102_4)).trans hw1102_4), ((HB.out.cell (World.block_lt_of_cell? w _ hw1102_5)).trans hw1102_5), ((HB.out.cell (World.block_lt_of_cell? w _ hw1103_0)).trans hw1103_0), ((HB.out.cell (World.block_lt_of_cell? w _ hw1103_1)).trans hw1103_1), ((HB.out.cell (World.block_lt_of_cell? w _ hw1103_2)).trans hw1103_2), ((HB.out.cell (World.block_lt_of_cell? w _ hw1103_3)).trans hw1103_3)⟩ (fun hHeld => ?_); refine with_tabW zqs.tab8 zqs.bits8 (fun HT_ HW_ => ?_)
     generalize w17.drew = w18 at HB HR1101_4 HR1101_5 HR1102_4 HR1102_5 hx1101_0 hx1101_1 hx1101_2 hx1101_3 hx1101_4 hx1101_5 hx1102_0 hx1102_1 hx1102_2 hx1102_3 hx1102_4 hx1102_5 hx1103_0 hx1103_1 hx1103_2 hx1103_3 hHeld ⊢
     refine pu_ 0 (some 37) (fl 22 1) rfl rfl HT_ ?_
     refine pu_ 1 (some 38) (fl 22 3) rfl rfl HT_ ?_
     refine pu_ 2 (some 39) (fl 22 7) rfl rfl HT_ ?_
     refine pu_ 3 (some 40) (fl 22 15) rfl rfl HT_ ?_
     refine pu_ 4 (some 41) (fl 22 31) rfl rfl HT_ ?_
     refine pu_ 5 (some 42) (fl 22 63) rfl rfl HT_ ?_
     refine pu_ 6 (some 43) (fl 22 127) rfl rfl HT_ ?_
     refine pu_ 7 (some 44) (fl 22 255) rfl rfl HT_ ?_
     refine pu_ 8 (some 45) (fl 22 511) rfl rfl HT_ ?_
     refine pu_ 9 (some 46) (fl 22 1023) rfl rfl HT_ ?_
     refine pu_ 11 (some 48) (fl 22 3071) rfl rfl HT_ ?_
     refine pu_ 12 (some 49) (fl 22 7167) rfl rfl HT_ ?_
     refine pu_ 13 (some 50) (fl 22 15359) rfl rfl HT_ ?_
     refine pu_ 14 (some 51) (fl 22 31743) rfl rfl HT_ ?_
     refine pu_ 16 (some 53) (fl 22 97279) rfl rfl HT_ ?_
     refine ta_ 10 (some 47) (fl 22 98303) rfl rfl HT_ HW_ hHeld ?_
     refine ta_ 15 (some 52) (fl 22 131071) rfl rfl HT_ HW_ hHeld ?_
     refine pu_ 17 (some 54) (fl 22 262143) rfl rfl HT_ ?_
     refine pu_ 18 (some 55) (fl 22 524287) rfl rfl HT_ ?_
     refine ta_ 19 (some 56) (fl 22 1048575) rfl rfl HT_ HW_ hHeld ?_
     refine one_ (i := 20) (N := some 57) (fl 22 2097151) rfl rfl (one_of HT_.out (by kernel_rfl)) (by decide) (fun K hK => ?_)
     refine goes_ Try.func30 (by kernel_rfl) rfl #[.agg #[.string ((rd_T25 l0 x3_1).f0), .string ((rd_T25 l0 x3_1).f1), .string ((rd_T25 l0 x3_1).f2), .int .i64 ((rd_T25 l0 x3_1).f3), .slice (some ad1103) ((rd_T25 l0 x3_1).f4).length c1101_4, .slice A1101_5 ((rd_T25 l0 x3_1).f5).length c1101_5], .string ((rd_T62 ((rd_T25 l0 x3_1).f4) x4_2).f0)] (by rfl) rfl rfl ar_ ?_
     with_reducible refine (zqe.calls k2 ((rd_T25 l0 x3_1).f0) ((rd_T25 l0 x3_1).f1) ((rd_T25 l0 x3_1).f2) ((rd_T25 l0 x3_1).f3) _ _ ((rd_T25 l0 x3_1).f4) _ _ ((rd_T25 l0 x3_1).f5) ((rd_T62 ((rd_T25 l0 x3_1).f4) x4_2).f0) false _ ?side1 ?side2 ?side3 ?side4 A12.out).mono ?_
     (case side1 => exact ck_ (Kd.C_below HR1101_4.out HB.out))
     (case side2 => exact HC1101_4.out)
     (case side3 => exact ck_ (Kd.C_below HR1101_5.out HB.out))
     (case side4 => exact HC1101_5.out)
     rintro e w19 ⟨rfl, hb⟩
     refine ⟨_, rfl, ?_⟩
     have n0_ := q_ (below_step hb_ hb)
     clear HB
     have HB := n0_
     clear n0_
     (try clear hb); (try clear hb2); (try clear hk); (try clear hi)
     refine hK.out _ _ ⟨((HB.out.cell (World.block_lt_of_cell? w _ hw1101_0)).trans hw1101_0), ((HB.out.cell (World.block_lt_of_cell? w _ hw1101_1)).trans hw1101_1), ((HB.out.cell (World.block_lt_of_cell? w _ hw1101_2)).trans hw1101_2), ((HB.out.cell (World.block_lt_of_cell? w _ hw1101_3)).trans hw1101_3), ((HB.out.cell (World.block_lt_of_cell? w _ hw1101_4)).trans hw1101_4), ((HB.out.cell (World.block_lt_of_cell? w _ hw1101_5)).trans hw1101_5), ((HB.out.cell (World.block_lt_of_cell? w _ hw1102_0)).trans hw1102_0), ((HB.out.cell (World.block_lt_of_cell? w _ hw1102_1)).trans hw1102_1), ((HB.out.cell (World.block_lt_of_cell? w _ hw1102_2)).trans hw1102_2), ((HB.out.cell (World.block_lt_of_cell? w _ hw1102_3)).trans hw1102_3), ((HB.out.cell (World.block_lt_of_cell? w _ hw1102_4)).trans hw1102_4), ((HB.out.cell (World.block_lt_of_cell? w _ hw1102_5)).trans hw1102_5), ((HB.out.cell (World.block_lt_of_cell? w _ hw1103_0)).trans hw1103_0), ((HB.out.cell (World.block_lt_of_cell? w _ hw1103_1)).trans hw1103_1), ((HB.out.cell (World.block_lt_of_cell? w _ hw1103_2)).trans hw1103_2), ((HB.out.cell (World.block_lt_of_cell? w _ hw1103_3)).trans hw1103_3)⟩ (fun hHeld => ?_)
     clear hK K
     refine no_ (N := some 57) ?_
     refine pu_ 21 (some 58) (fl 22 4194303) rfl rfl HT_ ?_
     refine done_ (done_of HT_.out (by kernel_rfl)) ?_
     try go_wp2
     go_roundg k2
     case measure => have := HK1.out; have := HK2.out; omega
     case rel => exact ⟨(wrap64 (x4_2 + 1)), cl_, H', ⟨by have := HK1.out; have := HK2.out; omega⟩, ⟨hb_⟩⟩
end Go.Proofs.Ytenlmckahaniiaa.K
end
