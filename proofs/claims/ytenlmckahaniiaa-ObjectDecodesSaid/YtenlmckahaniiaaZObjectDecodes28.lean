/- Lemmas for the law ObjectDecodes: what its proof needs of this seat's texts, in one place. -/
import Derived.Test.YtenlmckahaniiaaZObjectDecodes26
import Derived.Test.YtenlmckahaniiaaZObjectDecodes27
section
namespace Go.Proofs.Ytenlmckahaniiaa.K
open Go.RowKit Go.Proofs.YtenlmckahaniiaaW.PrintWords Go.Proofs.YtenlmckahaniiaaW.PrintLast
set_option linter.unusedVariables false
set_option linter.unusedSimpArgs false
def emulatorref28_Encode.l0 : Nat → ByteArray → Int → ByteArray → ByteArray → ByteArray → Int → List (S62) → List (S43) → Option (ByteArray × Int)
  | 0, _, _, _, _, _, _, _, _ => none
  | k + 1, x5, x6, x449000, x449001, x449002, x449003, x449004, x449005 => if x6 < (x449005.length : Int) then (if 0 ≤ x6 then ((emulatorref03_Put.f k ((rd_T43 x449005 x6).f0) 1).bind fun t459 => ((emulatorref03_Put.f k ((rd_T43 x449005 x6).f1) 2).bind fun t460 => (if t459.size + t460.size ≤ 9223372036854775807 then ((emulatorref03_Put.f k ((rd_T43 x449005 x6).f2) 1).bind fun t461 => (if (t459 ++ t460).size + t461.size ≤ 9223372036854775807 then ((emulatorref03_PutText.f k ((rd_T43 x449005 x6).f3)).bind fun t462 => (if ((t459 ++ t460) ++ t461).size + t462.size ≤ 9223372036854775807 then ((emulatorref28_bit.f k ((rd_T43 x449005 x6).f4)).bind fun t463 => (if (((t459 ++ t460) ++ t461) ++ t462).size + t463.size ≤ 9223372036854775807 then (if x5.size + ((((t459 ++ t460) ++ t461) ++ t462) ++ t463).size ≤ 9223372036854775807 then (emulatorref28_Encode.l0 k (x5 ++ ((((t459 ++ t460) ++ t461) ++ t462) ++ t463)) (wrap64 (x6 + 1)) x449000 x449001 x449002 x449003 x449004 x449005) else (none)) else (none))) else (none))) else (none))) else (none)))) else (none)) else ((emulatorref03_Seal.f k x5).bind fun t456 => (some (t456, 0)))
def emulatorref28_Encode.f (k : Nat) (a0_0 : ByteArray) (a0_1 : ByteArray) (a0_2 : ByteArray) (a0_3 : Int) (l0_4 : List (S62)) (l0_5 : List (S43)) : Option (ByteArray × Int) := (emulatorref28_Check.f k a0_0 a0_1 a0_2 a0_3 l0_4 l0_5).bind fun t449 => (if t449 = 0 then ((emulatorref03_PutText.f k a0_0).bind fun t450 => (if 4 + t450.size ≤ 9223372036854775807 then ((emulatorref03_PutText.f k a0_1).bind fun t451 => (if ((⟨#[79, 66, 74, 49]⟩ : ByteArray) ++ t450).size + t451.size ≤ 9223372036854775807 then ((emulatorref03_PutText.f k a0_2).bind fun t452 => (if (((⟨#[79, 66, 74, 49]⟩ : ByteArray) ++ t450) ++ t451).size + t452.size ≤ 9223372036854775807 then ((emulatorref03_Put.f k a0_3 2).bind fun t453 => (if ((((⟨#[79, 66, 74, 49]⟩ : ByteArray) ++ t450) ++ t451) ++ t452).size + t453.size ≤ 9223372036854775807 then ((emulatorref28_PutSymbols.f k l0_4).bind fun t454 => (if (((((⟨#[79, 66, 74, 49]⟩ : ByteArray) ++ t450) ++ t451) ++ t452) ++ t453).size + t454.size ≤ 9223372036854775807 then ((emulatorref03_Put.f k (l0_5.length : Int) 2).bind fun t455 => (if ((((((⟨#[79, 66, 74, 49]⟩ : ByteArray) ++ t450) ++ t451) ++ t452) ++ t453) ++ t454).size + t455.size ≤ 9223372036854775807 then (emulatorref28_Encode.l0 k (((((((⟨#[79, 66, 74, 49]⟩ : ByteArray) ++ t450) ++ t451) ++ t452) ++ t453) ++ t454) ++ t455) 0 a0_0 a0_1 a0_2 a0_3 l0_4 l0_5) else (none))) else (none))) else (none))) else (none))) else (none))) else (none))) else (some ((⟨#[]⟩ : ByteArray), t449)))
theorem emulatorref28_Encode.mono_l : ∀ k, (∀ y0 y1 y2 y3 y4 y5 y6 y7, LeO (emulatorref28_Encode.l0 k y0 y1 y2 y3 y4 y5 y6 y7) (emulatorref28_Encode.l0 (k + 1) y0 y1 y2 y3 y4 y5 y6 y7))
 | 0 => fun _ _ _ _ _ _ _ _ r h => by simp [emulatorref28_Encode.l0] at h
 | k + 1 => by
  have ih0 := emulatorref28_Encode.mono_l k
  ·intro y0 y1 y2 y3 y4 y5 y6 y7
   unfold emulatorref28_Encode.l0
   repeat' first
   | (with_reducible exact ih0 _ _ _ _ _ _ _ _)
   | (with_reducible exact emulatorref03_Put.mono _ _ _)
   | (with_reducible exact emulatorref03_PutText.mono _ _)
   | (with_reducible exact emulatorref03_Seal.mono _ _)
   | (with_reducible exact emulatorref28_Check.mono _ _ _ _ _ _ _)
   | (with_reducible exact emulatorref28_PutSymbols.mono _ _)
   | (with_reducible exact emulatorref28_bit.mono _ _)
   | (with_reducible exact LeO.refl _)
   | (with_reducible exact LeO.none _)
   | (with_reducible refine LeO.ite ?_ ?_)
   | (with_reducible refine LeO.bind ?_ (fun _ => ?_))
   | exact ih0 _ _ _ _ _ _ _ _
   | exact emulatorref03_Put.mono _ _ _
   | exact emulatorref03_PutText.mono _ _
   | exact emulatorref03_Seal.mono _ _
   | exact emulatorref28_Check.mono _ _ _ _ _ _ _
   | exact emulatorref28_PutSymbols.mono _ _
   | exact emulatorref28_bit.mono _ _
   | exact LeO.none _
   | refine LeO.ite ?_ ?_
   | refine LeO.bind ?_ (fun _ => ?_)
theorem emulatorref28_Encode.mono : ∀ a0 a1 a2 a3 a4 a5 k, LeO (emulatorref28_Encode.f k a0 a1 a2 a3 a4 a5) (emulatorref28_Encode.f (k + 1) a0 a1 a2 a3 a4 a5) := by
 intro a0 a1 a2 a3 a4 a5 k
 have ih0 := emulatorref28_Encode.mono_l k
 unfold emulatorref28_Encode.f
 repeat' first
   | (with_reducible exact ih0 _ _ _ _ _ _ _ _)
   | (with_reducible exact emulatorref03_Put.mono _ _ _)
   | (with_reducible exact emulatorref03_PutText.mono _ _)
   | (with_reducible exact emulatorref03_Seal.mono _ _)
   | (with_reducible exact emulatorref28_Check.mono _ _ _ _ _ _ _)
   | (with_reducible exact emulatorref28_PutSymbols.mono _ _)
   | (with_reducible exact emulatorref28_bit.mono _ _)
   | (with_reducible exact LeO.refl _)
   | (with_reducible exact LeO.none _)
   | (with_reducible refine LeO.ite ?_ ?_)
   | (with_reducible refine LeO.bind ?_ (fun _ => ?_))
   | exact ih0 _ _ _ _ _ _ _ _
   | exact emulatorref03_Put.mono _ _ _
   | exact emulatorref03_PutText.mono _ _
   | exact emulatorref03_Seal.mono _ _
   | exact emulatorref28_Check.mono _ _ _ _ _ _ _
   | exact emulatorref28_PutSymbols.mono _ _
   | exact emulatorref28_bit.mono _ _
   | exact LeO.none _
   | refine LeO.ite ?_ ?_
   | refine LeO.bind ?_ (fun _ => ?_)
def emulatorref28_Encode.T4 : Bool × List (List Nat × List Nat) := (true, [([], []), ([0], [0]), ([1], [1]), ([2], [2]), ([], []), ([4], [4]), ([5, 2], [5]), ([3, 6], [3, 6]), ([], []), ([8], [8]), ([9, 6], [9]), ([7, 10], [7, 10]), ([], []), ([12], [12]), ([13, 10], [13]), ([11, 14], [11, 14]), ([], []), ([16], [16]), ([17, 14], [17]), ([15, 18], [15, 18]), ([], []), ([20], [20]), ([21], [21]), ([22, 18], [22]), ([19, 23], [19, 23]), ([24, 23, 0, 1, 2, 3, 4, 5, 6, 7, 8, 9, 10, 11, 12, 13, 14, 15, 16, 17, 18, 19, 20, 21, 22, 23, 24], [24])])
def emulatorref28_Encode.B4 : List Nat := [0, 1, 3, 7, 0, 16, 55, 127, 0, 256, 887, 2047, 0, 4096, 14199, 32767, 0, 65536, 227191, 524287, 0, 1048576, 3145728, 7829367, 16777215, 33554431]
theorem emulatorref28_Encode.tab4 : rtab .any (opsOf Try.f22 4) = emulatorref28_Encode.T4 := by kernel_rfl
theorem emulatorref28_Encode.bits4 : waitsOk emulatorref28_Encode.T4.2 emulatorref28_Encode.B4 = true := by kernel_rfl
def emulatorref28_Encode.T9 : Bool × List (List Nat × List Nat) := (true, [([], []), ([], []), ([1], [1]), ([2], [2]), ([], []), ([4], [4]), ([5, 3], [5]), ([3, 6], [3, 6]), ([], []), ([8], [8]), ([9, 6], [9]), ([7, 10], [7, 10]), ([], []), ([12], [12]), ([13, 10], [13]), ([11, 14], [11, 14]), ([], []), ([16], [16]), ([17, 14], [17]), ([15, 18], [15, 18]), ([0, 19], [0, 19]), ([20, 18, 0, 1, 2, 3, 4, 5, 6, 7, 8, 9, 10, 11, 12, 13, 14, 15, 16, 17, 18, 19, 20], [0, 20])])
def emulatorref28_Encode.B9 : List Nat := [0, 0, 2, 6, 0, 16, 62, 126, 0, 256, 894, 2046, 0, 4096, 14206, 32766, 0, 65536, 227198, 524286, 1048575, 2097151]
theorem emulatorref28_Encode.tab9 : rtab .any (opsOf Try.f22 9) = emulatorref28_Encode.T9 := by kernel_rfl
theorem emulatorref28_Encode.bits9 : waitsOk emulatorref28_Encode.T9.2 emulatorref28_Encode.B9 = true := by kernel_rfl
set_option maxHeartbeats 8000000 in
set_option maxRecDepth 100000 in
theorem emulatorref28_Encode.calls (k : Nat) (a0_0 : ByteArray) (a0_1 : ByteArray) (a0_2 : ByteArray) (a0_3 : Int) (A0_4 : Option Addr) (c0_4 : Nat) (l0_4 : List (S62)) (A0_5 : Option Addr) (c0_5 : Nat) (l0_5 : List (S43)) (r1 : ByteArray) (r2 : Int) (w : World) (hr0_4 : Kd.C k62 w A0_4 l0_4.length l0_4) (hc0_4 : l0_4.length ≤ c0_4) (hr0_5 : Kd.C k43 w A0_5 l0_5.length l0_5) (hc0_5 : l0_5.length ≤ c0_5) (h : emulatorref28_Encode.f k a0_0 a0_1 a0_2 a0_3 l0_4 l0_5 = some (r1, r2)) :
  Calls Try.prog 22 #[.agg #[.string a0_0, .string a0_1, .string a0_2, .int .i64 a0_3, .slice A0_4 l0_4.length c0_4, .slice A0_5 l0_5.length c0_5]] w fun e w' => e = .returned (.tuple #[.string r1, .int .i64 r2]) ∧ Below w.heap.size w w' := by
 have hu25 := Try.underlying25
 have hu43 := Try.underlying43
 have HR0_4 := Aside0.mk hr0_4
 have HC0_4 := Aside0.mk hc0_4
 clear hr0_4 hc0_4
 have HR0_5 := Aside0.mk hr0_5
 have HC0_5 := Aside0.mk hc0_5
 clear hr0_5 hc0_5
 have HB := Aside0.mk (Below.refl w.heap.size w)
 have H : ((emulatorref28_Check.f k a0_0 a0_1 a0_2 a0_3 l0_4 l0_5).bind fun t449 => (if t449 = 0 then ((emulatorref03_PutText.f k a0_0).bind fun t450 => (if 4 + t450.size ≤ 9223372036854775807 then ((emulatorref03_PutText.f k a0_1).bind fun t451 => (if ((⟨#[79, 66, 74, 49]⟩ : ByteArray) ++ t450).size + t451.size ≤ 9223372036854775807 then ((emulatorref03_PutText.f k a0_2).bind fun t452 => (if (((⟨#[79, 66, 74, 49]⟩ : ByteArray) ++ t450) ++ t451).size + t452.size ≤ 9223372036854775807 then ((emulatorref03_Put.f k a0_3 2).bind fun t453 => (if ((((⟨#[79, 66, 74, 49]⟩ : ByteArray) ++ t450) ++ t451) ++ t452).size + t453.size ≤ 9223372036854775807 then ((emulatorref28_PutSymbols.f k l0_4).bind fun t454 => (if (((((⟨#[79, 66, 74, 49]⟩ : ByteArray) ++ t450) ++ t451) ++ t452) ++ t453).size + t454.size ≤ 9223372036854775807 then ((emulatorref03_Put.f k (l0_5.length : Int) 2).bind fun t455 => (if ((((((⟨#[79, 66, 74, 49]⟩ : ByteArray) ++ t450) ++ t451) ++ t452) ++ t453) ++ t454).size + t455.size ≤ 9223372036854775807 then (emulatorref28_Encode.l0 k (((((((⟨#[79, 66, 74, 49]⟩ : ByteArray) ++ t450) ++ t451) ++ t452) ++ t453) ++ t454) ++ t455) 0 a0_0 a0_1 a0_2 a0_3 l0_4 l0_5) else (none))) else (none))) else (none))) else (none))) else (none))) else (none))) else (some ((⟨#[]⟩ : ByteArray), t449)))) = some (r1, r2) := h
 clear h
 replace H := Option.bind_eq_some_iff.mp H
 obtain ⟨t449, A20, H⟩ := H
 (try dsimp only at H)
 have A2 := Aside0.mk A20
 clear A20
 by_cases c3 : t449 = 0
 ·rw [if_pos c3] at H
  have c3b0 : (t449 == 0) = true := beq_iff_eq.mpr c3
  have c3b1 : (t449 != 0) = false := bne_eq_false_iff_eq.mpr c3
  clear c3
  replace H := Option.bind_eq_some_iff.mp H
  obtain ⟨t450, A40, H⟩ := H
  (try dsimp only at H)
  have A4 := Aside0.mk A40
  clear A40
  by_cases c5 : 4 + t450.size ≤ 9223372036854775807
  ·rw [if_pos c5] at H
   have c5b0 := eq_true c5
   have c5b1 : decide (4 + t450.size ≤ 9223372036854775807) = true := decide_eq_true c5
   try have c5b2 : (9223372036854775807 < 4 + t450.size) = False := eq_false (Nat.not_lt.2 c5)
   replace H := Option.bind_eq_some_iff.mp H
   obtain ⟨t451, A60, H⟩ := H
   (try dsimp only at H)
   have A6 := Aside0.mk A60
   clear A60
   by_cases c7 : ((⟨#[79, 66, 74, 49]⟩ : ByteArray) ++ t450).size + t451.size ≤ 9223372036854775807
   ·rw [if_pos c7] at H
    have c7b0 := eq_true c7
    have c7b1 : decide (((⟨#[79, 66, 74, 49]⟩ : ByteArray) ++ t450).size + t451.size ≤ 9223372036854775807) = true := decide_eq_true c7
    try have c7b2 : (9223372036854775807 < ((⟨#[79, 66, 74, 49]⟩ : ByteArray) ++ t450).size + t451.size) = False := eq_false (Nat.not_lt.2 c7)
    replace H := Option.bind_eq_some_iff.mp H
    obtain ⟨t452, A80, H⟩ := H
    (try dsimp only at H)
    have A8 := Aside0.mk A80
    clear A80
    by_cases c9 : (((⟨#[79, 66, 74, 49]⟩ : ByteArray) ++ t450) ++ t451).size + t452.size ≤ 9223372036854775807
    ·rw [if_pos c9] at H
     have c9b0 := eq_true c9
     have c9b1 : decide ((((⟨#[79, 66, 74, 49]⟩ : ByteArray) ++ t450) ++ t451).size + t452.size ≤ 9223372036854775807) = true := decide_eq_true c9
     try have c9b2 : (9223372036854775807 < (((⟨#[79, 66, 74, 49]⟩ : ByteArray) ++ t450) ++ t451).size + t452.size) = False := eq_false (Nat.not_lt.2 c9)
     replace H := Option.bind_eq_some_iff.mp H
     obtain ⟨t453, A100, H⟩ := H
     (try dsimp only at H)
     have A10 := Aside0.mk A100
     clear A100
     by_cases c11 : ((((⟨#[79, 66, 74, 49]⟩ : ByteArray) ++ t450) ++ t451) ++ t452).size + t453.size ≤ 9223372036854775807
     ·rw [if_pos c11] at H
      have c11b0 := eq_true c11
      have c11b1 : decide (((((⟨#[79, 66, 74, 49]⟩ : ByteArray) ++ t450) ++ t451) ++ t452).size + t453.size ≤ 9223372036854775807) = true := decide_eq_true c11
      try have c11b2 : (9223372036854775807 < ((((⟨#[79, 66, 74, 49]⟩ : ByteArray) ++ t450) ++ t451) ++ t452).size + t453.size) = False := eq_false (Nat.not_lt.2 c11)
      replace H := Option.bind_eq_some_iff.mp H
      obtain ⟨t454, A120, H⟩ := H
      (try dsimp only at H)
      have A12 := Aside0.mk A120
      clear A120
      by_cases c13 : (((((⟨#[79, 66, 74, 49]⟩ : ByteArray) ++ t450) ++ t451) ++ t452) ++ t453).size + t454.size ≤ 9223372036854775807
      ·rw [if_pos c13] at H
       have c13b0 := eq_true c13
       have c13b1 : decide ((((((⟨#[79, 66, 74, 49]⟩ : ByteArray) ++ t450) ++ t451) ++ t452) ++ t453).size + t454.size ≤ 9223372036854775807) = true := decide_eq_true c13
       try have c13b2 : (9223372036854775807 < (((((⟨#[79, 66, 74, 49]⟩ : ByteArray) ++ t450) ++ t451) ++ t452) ++ t453).size + t454.size) = False := eq_false (Nat.not_lt.2 c13)
       replace H := Option.bind_eq_some_iff.mp H
       obtain ⟨t455, A140, H⟩ := H
       (try dsimp only at H)
       have A14 := Aside0.mk A140
       clear A140
       by_cases c15 : ((((((⟨#[79, 66, 74, 49]⟩ : ByteArray) ++ t450) ++ t451) ++ t452) ++ t453) ++ t454).size + t455.size ≤ 9223372036854775807
       ·rw [if_pos c15] at H
        have c15b0 := eq_true c15
        have c15b1 : decide (((((((⟨#[79, 66, 74, 49]⟩ : ByteArray) ++ t450) ++ t451) ++ t452) ++ t453) ++ t454).size + t455.size ≤ 9223372036854775807) = true := decide_eq_true c15
        try have c15b2 : (9223372036854775807 < ((((((⟨#[79, 66, 74, 49]⟩ : ByteArray) ++ t450) ++ t451) ++ t452) ++ t453) ++ t454).size + t455.size) = False := eq_false (Nat.not_lt.2 c15)
        have H' := Aside0.mk H
        clear H
        go_enter Try.func22, Try.ntmps22
        try go_wp2_with (first | ((with_reducible refine gate_dst (N := 1) rfl ?_); refine box_event ?hg (N := 1) ?hd (cs := #[.string a0_0, .string a0_1, .string a0_2, .int .i64 a0_3, .slice A0_4 l0_4.length c0_4, .slice A0_5 l0_5.length c0_5]) (t := 25) ?hr ?_; (case hd => rfl); (case hg => rfl); (case hr => first | (go_simp; done) | (go_simp; rfl)); intro gb448 hg w16 hbox hb; have n0_ := Aside0.mk (below_step hb_ hb); have n1_ := Aside0.mk (hbox); have n2_ := Aside0.mk ((by rw [hg]; exact (below_size hb_) : w.heap.size ≤ gb448)); have n3_ := Aside0.mk ((by rw [hg]; exact (below_size hb_) : w.heap.size ≤ gb448)); clear HB; have HB := n0_; have BK448 := n1_; have GW448 := n2_; have GE448 := n3_; clear n0_ n1_ n2_ n3_; clear hb hbox hg; obtain ⟨hcz17_0, hfz17_0⟩ := bc_ BK448.out 0 rfl; obtain ⟨hcz17_1, hfz17_1⟩ := bc_ BK448.out 1 rfl; obtain ⟨hcz17_2, hfz17_2⟩ := bc_ BK448.out 2 rfl; obtain ⟨hcz17_3, hfz17_3⟩ := bc_ BK448.out 3 rfl; obtain ⟨hcz17_4, hfz17_4⟩ := bc_ BK448.out 4 rfl; obtain ⟨hcz17_5, hfz17_5⟩ := bc_ BK448.out 5 rfl) | ((with_reducible refine gate_callee (f := 19) rfl ?_); refine goesL_ (some 9) rfl rfl Try.func19 (by kernel_rfl) rfl #[.agg #[.string a0_0, .string a0_1, .string a0_2, .int .i64 a0_3, .slice A0_4 l0_4.length c0_4, .slice A0_5 l0_5.length c0_5]] rfl ar_ ?_; (with_reducible refine (emulatorref28_Check.calls k a0_0 a0_1 a0_2 a0_3 _ _ l0_4 _ _ l0_5 t449 _ ?side1 ?side2 ?side3 ?side4 A2.out).mono ?_); (case side1 => repeat (first | exact (Kd.C_below HR0_4.out HB.out) | (with_reducible refine Kd.C_alloc ?_ _) | (with_reducible refine Kd.C_drewN ?_ _) | (with_reducible refine Kd.C_drew ?_))); (case side2 => exact HC0_4.out); (case side3 => repeat (first | exact (Kd.C_below HR0_5.out HB.out) | (with_reducible refine Kd.C_alloc ?_ _) | (with_reducible refine Kd.C_drewN ?_ _) | (with_reducible refine Kd.C_drew ?_))); (case side4 => exact HC0_5.out); rintro e w18 ⟨rfl, hb⟩; refine ⟨_, rfl, ?_⟩; have n0_ := Aside0.mk (blk_below (bk_ BK448.out) hb); have n1_ := Aside0.mk (below_step hb_ hb); clear BK448 HB; have BK448 := n0_; have HB := n1_; clear n0_ n1_; (try clear hb); (try clear hb2); (try clear hk); (try clear hi)))
        have n0_ := Aside0.mk (blk_drew BK448.out)
        have n1_ := Aside0.mk (below_drew1 HB.out)
        clear BK448 HB
        have BK448 := n0_; have HB := n1_
        clear n0_ n1_
        refine start_ (n := 26) (S := fun w' => w'.cell? ⟨gb448, 0, none⟩ = some (.string a0_0) ∧ w'.cell? ⟨gb448, 1, none⟩ = some (.string a0_1) ∧ w'.cell? ⟨gb448, 2, none⟩ = some (.string a0_2) ∧ w'.cell? ⟨gb448, 3, none⟩ = some (.int .i64 a0_3) ∧ w'.cell? ⟨gb448, 4, none⟩ = some (.slice A0_4 l0_4.length c0_4) ∧ w'.cell? ⟨gb448, 5, none⟩ = some (.slice A0_5 l0_5.length c0_5)) (ds := []) #[false, false, false, false, false, false, false, false, false, false, false, false, false, false, false, false, false, false, false, false, false, false, false, false, false, false] (by kernel_rfl) rfl rfl ⟨(blk_cell BK448.out 0).trans rfl, (blk_cell BK448.out 1).trans rfl, (blk_cell BK448.out 2).trans rfl, (blk_cell BK448.out 3).trans rfl, (blk_cell BK448.out 4).trans rfl, (blk_cell BK448.out 5).trans rfl⟩ (fun hHeld => ?_); refine with_tabW emulatorref28_Encode.tab4 emulatorref28_Encode.bits4 (fun HT_ HW_ => ?_)
        generalize w18.drew = w19 at BK448 HB hHeld ⊢
        refine pu_ 0 (some 13) (fl 26 1) rfl rfl HT_ ?_
        refine pu_ 4 (some 17) (fl 26 17) rfl rfl HT_ ?_
        refine pu_ 8 (some 21) (fl 26 273) rfl rfl HT_ ?_
        refine pu_ 12 (some 25) (fl 26 4369) rfl rfl HT_ ?_
        refine pu_ 16 (some 29) (fl 26 69905) rfl rfl HT_ ?_
        refine pu_ 20 (some 33) (fl 26 1118481) rfl rfl HT_ ?_
        refine ta_ 1 (some 14) (fl 26 1118483) rfl rfl HT_ HW_ hHeld ?_
        refine ta_ 5 (some 18) (fl 26 1118515) rfl rfl HT_ HW_ hHeld ?_
        refine ta_ 9 (some 22) (fl 26 1119027) rfl rfl HT_ HW_ hHeld ?_
        refine ta_ 13 (some 26) (fl 26 1127219) rfl rfl HT_ HW_ hHeld ?_
        refine ta_ 17 (some 30) (fl 26 1258291) rfl rfl HT_ HW_ hHeld ?_
        refine ta_ 21 (some 34) (fl 26 3355443) rfl rfl HT_ HW_ hHeld ?_
        refine pu_ 22 (some 35) (fl 26 7549747) rfl rfl HT_ ?_
        refine one_ (i := 2) (N := some 15) (fl 26 7549751) rfl rfl (one_of HT_.out (by kernel_rfl)) (by decide) (fun K hK => ?_)
        refine goes_ Try.func56 (by kernel_rfl) rfl #[.string a0_0] (by rfl) rfl rfl ar_ ?_
        with_reducible refine (emulatorref03_PutText.calls k a0_0 t450 _ A4.out).mono ?_
        rintro e w20 ⟨rfl, hb⟩
        refine ⟨_, rfl, ?_⟩
        have n0_ := Aside0.mk (blk_below (bk_ BK448.out) hb)
        have n1_ := Aside0.mk (below_step hb_ hb)
        clear BK448 HB
        have BK448 := n0_; have HB := n1_
        clear n0_ n1_
        (try clear hb); (try clear hb2); (try clear hk); (try clear hi)
        refine hK.out _ _ ⟨(blk_cell BK448.out 0).trans rfl, (blk_cell BK448.out 1).trans rfl, (blk_cell BK448.out 2).trans rfl, (blk_cell BK448.out 3).trans rfl, (blk_cell BK448.out 4).trans rfl, (blk_cell BK448.out 5).trans rfl⟩ (fun hHeld => ?_)
        clear hK K
        refine no_ ?_
        refine pu_ 3 (some 16) (fl 26 7549759) rfl rfl HT_ ?_
        refine one_ (i := 6) (N := some 19) (fl 26 7549823) rfl rfl (one_of HT_.out (by kernel_rfl)) (by decide) (fun K hK => ?_)
        refine goes_ Try.func56 (by kernel_rfl) rfl #[.string a0_1] (by rfl) rfl rfl ar_ ?_
        with_reducible refine (emulatorref03_PutText.calls k a0_1 t451 _ A6.out).mono ?_
        rintro e w21 ⟨rfl, hb⟩
        refine ⟨_, rfl, ?_⟩
        have n0_ := Aside0.mk (blk_below (bk_ BK448.out) hb)
        have n1_ := Aside0.mk (below_step hb_ hb)
        clear BK448 HB
        have BK448 := n0_; have HB := n1_
        clear n0_ n1_
        (try clear hb); (try clear hb2); (try clear hk); (try clear hi)
        refine hK.out _ _ ⟨(blk_cell BK448.out 0).trans rfl, (blk_cell BK448.out 1).trans rfl, (blk_cell BK448.out 2).trans rfl, (blk_cell BK448.out 3).trans rfl, (blk_cell BK448.out 4).trans rfl, (blk_cell BK448.out 5).trans rfl⟩ (fun hHeld => ?_)
        clear hK K
        refine no_ ?_
        refine pu_ 7 (some 20) (fl 26 7549951) rfl rfl HT_ ?_
        refine one_ (i := 10) (N := some 23) (fl 26 7550975) rfl rfl (one_of HT_.out (by kernel_rfl)) (by decide) (fun K hK => ?_)
        refine goes_ Try.func56 (by kernel_rfl) rfl #[.string a0_2] (by rfl) rfl rfl ar_ ?_
        with_reducible refine (emulatorref03_PutText.calls k a0_2 t452 _ A8.out).mono ?_
        rintro e w22 ⟨rfl, hb⟩
        refine ⟨_, rfl, ?_⟩
        have n0_ := Aside0.mk (blk_below (bk_ BK448.out) hb)
        have n1_ := Aside0.mk (below_step hb_ hb)
        clear BK448 HB
        have BK448 := n0_; have HB := n1_
        clear n0_ n1_
        (try clear hb); (try clear hb2); (try clear hk); (try clear hi)
        refine hK.out _ _ ⟨(blk_cell BK448.out 0).trans rfl, (blk_cell BK448.out 1).trans rfl, (blk_cell BK448.out 2).trans rfl, (blk_cell BK448.out 3).trans rfl, (blk_cell BK448.out 4).trans rfl, (blk_cell BK448.out 5).trans rfl⟩ (fun hHeld => ?_)
        clear hK K
        refine no_ ?_
        refine pu_ 11 (some 24) (fl 26 7553023) rfl rfl HT_ ?_
        refine one_ (i := 14) (N := some 27) (fl 26 7569407) rfl rfl (one_of HT_.out (by kernel_rfl)) (by decide) (fun K hK => ?_)
        refine goes_ Try.func57 (by kernel_rfl) rfl #[.int .i64 a0_3, .int .i64 2] (by rfl) rfl rfl ar_ ?_
        with_reducible refine (emulatorref03_Put.calls k a0_3 2 t453 _ A10.out).mono ?_
        rintro e w23 ⟨rfl, hb⟩
        refine ⟨_, rfl, ?_⟩
        have n0_ := Aside0.mk (blk_below (bk_ BK448.out) hb)
        have n1_ := Aside0.mk (below_step hb_ hb)
        clear BK448 HB
        have BK448 := n0_; have HB := n1_
        clear n0_ n1_
        (try clear hb); (try clear hb2); (try clear hk); (try clear hi)
        refine hK.out _ _ ⟨(blk_cell BK448.out 0).trans rfl, (blk_cell BK448.out 1).trans rfl, (blk_cell BK448.out 2).trans rfl, (blk_cell BK448.out 3).trans rfl, (blk_cell BK448.out 4).trans rfl, (blk_cell BK448.out 5).trans rfl⟩ (fun hHeld => ?_)
        clear hK K
        refine no_ ?_
        refine pu_ 15 (some 28) (fl 26 7602175) rfl rfl HT_ ?_
        refine one_ (i := 18) (N := some 31) (fl 26 7864319) rfl rfl (one_of HT_.out (by kernel_rfl)) (by decide) (fun K hK => ?_)
        refine goes_ Try.func58 (by kernel_rfl) rfl #[.slice A0_4 l0_4.length c0_4] (by rfl) rfl rfl ar_ ?_
        with_reducible refine (emulatorref28_PutSymbols.calls k _ _ l0_4 t454 _ ?side1 ?side2 A12.out).mono ?_
        (case side1 => repeat (first | exact (Kd.C_below HR0_4.out HB.out) | (with_reducible refine Kd.C_alloc ?_ _) | (with_reducible refine Kd.C_drewN ?_ _) | (with_reducible refine Kd.C_drew ?_)))
        (case side2 => exact HC0_4.out)
        rintro e w24 ⟨rfl, hb⟩
        refine ⟨_, rfl, ?_⟩
        have n0_ := Aside0.mk (blk_below (bk_ BK448.out) hb)
        have n1_ := Aside0.mk (below_step hb_ hb)
        clear BK448 HB
        have BK448 := n0_; have HB := n1_
        clear n0_ n1_
        (try clear hb); (try clear hb2); (try clear hk); (try clear hi)
        refine hK.out _ _ ⟨(blk_cell BK448.out 0).trans rfl, (blk_cell BK448.out 1).trans rfl, (blk_cell BK448.out 2).trans rfl, (blk_cell BK448.out 3).trans rfl, (blk_cell BK448.out 4).trans rfl, (blk_cell BK448.out 5).trans rfl⟩ (fun hHeld => ?_)
        clear hK K
        refine no_ ?_
        refine pu_ 19 (some 32) (fl 26 8388607) rfl rfl HT_ ?_
        refine one_ (i := 23) (N := some 36) (fl 26 16777215) rfl rfl (one_of HT_.out (by kernel_rfl)) (by decide) (fun K hK => ?_)
        refine goes_ Try.func57 (by kernel_rfl) rfl #[.int .i64 (l0_5.length : Int), .int .i64 2] (by rfl) rfl rfl ar_ ?_
        with_reducible refine (emulatorref03_Put.calls k (l0_5.length : Int) 2 t455 _ A14.out).mono ?_
        rintro e w25 ⟨rfl, hb⟩
        refine ⟨_, rfl, ?_⟩
        have n0_ := Aside0.mk (blk_below (bk_ BK448.out) hb)
        have n1_ := Aside0.mk (below_step hb_ hb)
        clear BK448 HB
        have BK448 := n0_; have HB := n1_
        clear n0_ n1_
        (try clear hb); (try clear hb2); (try clear hk); (try clear hi)
        refine hK.out _ _ ⟨(blk_cell BK448.out 0).trans rfl, (blk_cell BK448.out 1).trans rfl, (blk_cell BK448.out 2).trans rfl, (blk_cell BK448.out 3).trans rfl, (blk_cell BK448.out 4).trans rfl, (blk_cell BK448.out 5).trans rfl⟩ (fun hHeld => ?_)
        clear hK K
        refine no_ ?_
        refine pu_ 24 (some 37) (fl 26 33554431) rfl rfl HT_ ?_
        refine pu_ 25 (some 5) (fl 26 67108863) rfl rfl HT_ ?_
        refine done_ (done_of HT_.out (by kernel_rfl)) ?_
        try go_wp2
        go_loopg [5, 6] k (fun kq v5 v6 w' => ∃ (x5_1 : ByteArray) (x6_1 : Int), v5 = .string x5_1 ∧ v6 = .int .i64 x6_1 ∧ Aside0 (emulatorref28_Encode.l0 kq x5_1 x6_1 a0_0 a0_1 a0_2 a0_3 l0_4 l0_5 = some (r1, r2)) ∧ Aside0 (kq ≤ k) ∧ Aside0 (w'.heap[gb448]? = some (.cells #[.string a0_0, .string a0_1, .string a0_2, .int .i64 a0_3, (.slice A0_4 l0_4.length c0_4), (.slice A0_5 l0_5.length c0_5)] 25 (0, 0))) ∧ Aside0 (Below w.heap.size w w'))
        case atStart => exact ⟨(((((((⟨#[79, 66, 74, 49]⟩ : ByteArray) ++ t450) ++ t451) ++ t452) ++ t453) ++ t454) ++ t455), (0), cl_, cl_, H', ⟨Nat.le_refl _⟩, ⟨bk_ BK448.out⟩, ⟨hb_⟩⟩
        case round =>
         clear H'
         (try clear c1); (try clear c2); (try clear p2); (try clear c3); (try clear c3b0); (try clear c3b1); (try clear c5); (try clear c5b0); (try clear c5b1); (try clear c5b2); (try clear c7); (try clear c7b0); (try clear c7b1); (try clear c7b2); (try clear c9); (try clear c9b0); (try clear c9b1); (try clear c9b2); (try clear c11); (try clear c11b0); (try clear c11b1); (try clear c11b2); (try clear c13); (try clear c13b0); (try clear c13b1); (try clear c13b2); (try clear c15); (try clear c15b0); (try clear c15b1); (try clear c15b2); (try clear c19); (try clear c22); (try clear hcz17_0); (try clear hcz17_1); (try clear hcz17_2); (try clear hcz17_3); (try clear hcz17_4); (try clear hcz17_5); (try clear hfz17_0); (try clear hfz17_1); (try clear hfz17_2); (try clear hfz17_3); (try clear hfz17_4); (try clear hfz17_5)
         obtain ⟨x5_1, x6_1, rfl, rfl, HA, HK1, BK448, HB⟩ := hrel
         cases gk with
         | zero => exact absurd HA.out (by simp [emulatorref28_Encode.l0])
         | succ k1 =>
          have H := HA.out
          clear HA
          simp only [emulatorref28_Encode.l0] at H
          by_cases c26 : x6_1 < (l0_5.length : Int)
          ·rw [if_pos c26] at H
           have c26b0 : decide (x6_1 < (l0_5.length : Int)) = true := decide_eq_true c26
           clear c26
           by_cases c27 : 0 ≤ x6_1
           ·rw [if_pos c27] at H
            have c27b0 : decide (0 ≤ x6_1) = true := decide_eq_true c27
            clear c27
            replace H := Option.bind_eq_some_iff.mp H
            obtain ⟨t459, A280, H⟩ := H
            (try dsimp only at H)
            have A28 := Aside0.mk A280
            clear A280
            replace H := Option.bind_eq_some_iff.mp H
            obtain ⟨t460, A290, H⟩ := H
            (try dsimp only at H)
            have A29 := Aside0.mk A290
            clear A290
            by_cases c30 : t459.size + t460.size ≤ 9223372036854775807
            ·rw [if_pos c30] at H
             have c30b0 := eq_true c30
             have c30b1 : decide (t459.size + t460.size ≤ 9223372036854775807) = true := decide_eq_true c30
             try have c30b2 : (9223372036854775807 < t459.size + t460.size) = False := eq_false (Nat.not_lt.2 c30)
             replace H := Option.bind_eq_some_iff.mp H
             obtain ⟨t461, A310, H⟩ := H
             (try dsimp only at H)
             have A31 := Aside0.mk A310
             clear A310
             by_cases c32 : (t459 ++ t460).size + t461.size ≤ 9223372036854775807
             ·rw [if_pos c32] at H
              have c32b0 := eq_true c32
              have c32b1 : decide ((t459 ++ t460).size + t461.size ≤ 9223372036854775807) = true := decide_eq_true c32
              try have c32b2 : (9223372036854775807 < (t459 ++ t460).size + t461.size) = False := eq_false (Nat.not_lt.2 c32)
              replace H := Option.bind_eq_some_iff.mp H
              obtain ⟨t462, A330, H⟩ := H
              (try dsimp only at H)
              have A33 := Aside0.mk A330
              clear A330
              by_cases c34 : ((t459 ++ t460) ++ t461).size + t462.size ≤ 9223372036854775807
              ·rw [if_pos c34] at H
               have c34b0 := eq_true c34
               have c34b1 : decide (((t459 ++ t460) ++ t461).size + t462.size ≤ 9223372036854775807) = true := decide_eq_true c34
               try have c34b2 : (9223372036854775807 < ((t459 ++ t460) ++ t461).size + t462.size) = False := eq_false (Nat.not_lt.2 c34)
               replace H := Option.bind_eq_some_iff.mp H
               obtain ⟨t463, A350, H⟩ := H
               (try dsimp only at H)
               have A35 := Aside0.mk A350
               clear A350
               by_cases c36 : (((t459 ++ t460) ++ t461) ++ t462).size + t463.size ≤ 9223372036854775807
               ·rw [if_pos c36] at H
                have c36b0 := eq_true c36
                have c36b1 : decide ((((t459 ++ t460) ++ t461) ++ t462).size + t463.size ≤ 9223372036854775807) = true := decide_eq_true c36
                try have c36b2 : (9223372036854775807 < (((t459 ++ t460) ++ t461) ++ t462).size + t463.size) = False := eq_false (Nat.not_lt.2 c36)
                by_cases c37 : x5_1.size + ((((t459 ++ t460) ++ t461) ++ t462) ++ t463).size ≤ 9223372036854775807
                ·rw [if_pos c37] at H
                 have c37b0 := eq_true c37
                 have c37b1 : decide (x5_1.size + ((((t459 ++ t460) ++ t461) ++ t462) ++ t463).size ≤ 9223372036854775807) = true := decide_eq_true c37
                 try have c37b2 : (9223372036854775807 < x5_1.size + ((((t459 ++ t460) ++ t461) ++ t462) ++ t463).size) = False := eq_false (Nat.not_lt.2 c37)
                 have H' := Aside0.mk H
                 clear H
                 obtain ⟨hcz38_0, hfz38_0⟩ := bc_ BK448.out 0 rfl
                 obtain ⟨hcz38_1, hfz38_1⟩ := bc_ BK448.out 1 rfl
                 obtain ⟨hcz38_2, hfz38_2⟩ := bc_ BK448.out 2 rfl
                 obtain ⟨hcz38_3, hfz38_3⟩ := bc_ BK448.out 3 rfl
                 obtain ⟨hcz38_4, hfz38_4⟩ := bc_ BK448.out 4 rfl
                 obtain ⟨hcz38_5, hfz38_5⟩ := bc_ BK448.out 5 rfl
                 have p457 : 0 ≤ (x6_1 : Int) := oa_
                 have q457 : x6_1 < (l0_5.length : Int) := oa_
                 obtain ⟨ad457, e457, hx457_0, hx457_1, hx457_2, hx457_3, hx457_4⟩ := at_T43 HR0_5.out x6_1 p457 q457
                 cases e457
                 replace hx457_0 := (HB.out.cell (World.block_lt_of_cell? w _ hx457_0)).trans hx457_0
                 replace hx457_1 := (HB.out.cell (World.block_lt_of_cell? w _ hx457_1)).trans hx457_1
                 replace hx457_2 := (HB.out.cell (World.block_lt_of_cell? w _ hx457_2)).trans hx457_2
                 replace hx457_3 := (HB.out.cell (World.block_lt_of_cell? w _ hx457_3)).trans hx457_3
                 replace hx457_4 := (HB.out.cell (World.block_lt_of_cell? w _ hx457_4)).trans hx457_4
                 replace p457 := eq_true p457
                 replace q457 := eq_true q457
                 try go_wp2_with (first | ((with_reducible refine gate_dst (N := 7) rfl ?_); refine box_event ?hg (N := 7) ?hd (cs := #[.int .i64 0, .int .i64 0, .int .i64 0, .string (⟨#[]⟩ : ByteArray), .bool false]) (t := 43) ?hr ?_; (case hd => rfl); (case hg => rfl); (case hr => first | (go_simp; done) | (go_simp; rfl)); intro gb458 hg w39 hbox hb; have n0_ := Aside0.mk (blk_below (bk_ BK448.out) hb); have n1_ := Aside0.mk (below_step hb_ hb); have n2_ := Aside0.mk (hbox); have n3_ := Aside0.mk ((by rw [hg]; exact (below_size hb_) : w.heap.size ≤ gb458)); have n4_ := Aside0.mk ((by rw [hg]; exact (below_size hb_) : w.heap.size ≤ gb458)); have n5_ := Aside0.mk ((by rw [hg]; exact Nat.ne_of_lt (blk_lt (bk_ BK448.out)) : gb448 ≠ gb458)); have n6_ := Aside0.mk ((by rw [hg]; exact Nat.ne_of_gt (blk_lt (bk_ BK448.out)) : gb458 ≠ gb448)); clear BK448 HB; have BK448 := n0_; have HB := n1_; have BK458 := n2_; have GW458 := n3_; have GE458 := n4_; have NB448_458 := n5_; have NB458_448 := n6_; clear n0_ n1_ n2_ n3_ n4_ n5_ n6_; clear hb hbox hg; have hnb40 := NB458_448.out; have hnc40 := NB448_458.out; obtain ⟨hcz41_0, hfz41_0⟩ := bc_ BK458.out 0 rfl; obtain ⟨hcz41_1, hfz41_1⟩ := bc_ BK458.out 1 rfl; obtain ⟨hcz41_2, hfz41_2⟩ := bc_ BK458.out 2 rfl; obtain ⟨hcz41_3, hfz41_3⟩ := bc_ BK458.out 3 rfl; obtain ⟨hcz41_4, hfz41_4⟩ := bc_ BK458.out 4 rfl))
                 have n0_ : Aside0 ((((((w39.setCell ⟨gb458, 0, none⟩ (.int .i64 ((rd_T43 l0_5 x6_1).f0))).setCell ⟨gb458, 1, none⟩ (.int .i64 ((rd_T43 l0_5 x6_1).f1))).setCell ⟨gb458, 2, none⟩ (.int .i64 ((rd_T43 l0_5 x6_1).f2))).setCell ⟨gb458, 3, none⟩ (.string ((rd_T43 l0_5 x6_1).f3))).setCell ⟨gb458, 4, none⟩ (.bool ((rd_T43 l0_5 x6_1).f4))).heap[gb448]? = some (.cells #[.string a0_0, .string a0_1, .string a0_2, .int .i64 a0_3, .slice A0_4 l0_4.length c0_4, .slice (some ad457) l0_5.length c0_5] 25 (0, 0))) := ⟨by (with_reducible repeat (first | refine blk_drewN ?_ _ | refine blk_drew ?_ | refine blk_alloc ?_ _)); refine blk_far ?_ NB448_458.out _; (with_reducible repeat (first | refine blk_drewN ?_ _ | refine blk_drew ?_ | refine blk_alloc ?_ _)); refine blk_far ?_ NB448_458.out _; (with_reducible repeat (first | refine blk_drewN ?_ _ | refine blk_drew ?_ | refine blk_alloc ?_ _)); refine blk_far ?_ NB448_458.out _; (with_reducible repeat (first | refine blk_drewN ?_ _ | refine blk_drew ?_ | refine blk_alloc ?_ _)); refine blk_far ?_ NB448_458.out _; (with_reducible repeat (first | refine blk_drewN ?_ _ | refine blk_drew ?_ | refine blk_alloc ?_ _)); refine blk_far ?_ NB448_458.out _; (with_reducible repeat (first | refine blk_drewN ?_ _ | refine blk_drew ?_ | refine blk_alloc ?_ _)); exact BK448.out⟩
                 have n1_ : Aside0 ((((((w39.setCell ⟨gb458, 0, none⟩ (.int .i64 ((rd_T43 l0_5 x6_1).f0))).setCell ⟨gb458, 1, none⟩ (.int .i64 ((rd_T43 l0_5 x6_1).f1))).setCell ⟨gb458, 2, none⟩ (.int .i64 ((rd_T43 l0_5 x6_1).f2))).setCell ⟨gb458, 3, none⟩ (.string ((rd_T43 l0_5 x6_1).f3))).setCell ⟨gb458, 4, none⟩ (.bool ((rd_T43 l0_5 x6_1).f4))).heap[gb458]? = some (.cells #[.int .i64 ((rd_T43 l0_5 x6_1).f0), .int .i64 ((rd_T43 l0_5 x6_1).f1), .int .i64 ((rd_T43 l0_5 x6_1).f2), .string ((rd_T43 l0_5 x6_1).f3), .bool ((rd_T43 l0_5 x6_1).f4)] 43 (0, 0))) := ⟨by (with_reducible repeat (first | refine blk_drewN ?_ _ | refine blk_drew ?_ | refine blk_alloc ?_ _)); refine blk_put (cs := #[.int .i64 ((rd_T43 l0_5 x6_1).f0), .int .i64 ((rd_T43 l0_5 x6_1).f1), .int .i64 ((rd_T43 l0_5 x6_1).f2), .string ((rd_T43 l0_5 x6_1).f3), .bool false]) ?_ 4 _ rfl; (with_reducible repeat (first | refine blk_drewN ?_ _ | refine blk_drew ?_ | refine blk_alloc ?_ _)); refine blk_put (cs := #[.int .i64 ((rd_T43 l0_5 x6_1).f0), .int .i64 ((rd_T43 l0_5 x6_1).f1), .int .i64 ((rd_T43 l0_5 x6_1).f2), .string (⟨#[]⟩ : ByteArray), .bool false]) ?_ 3 _ rfl; (with_reducible repeat (first | refine blk_drewN ?_ _ | refine blk_drew ?_ | refine blk_alloc ?_ _)); refine blk_put (cs := #[.int .i64 ((rd_T43 l0_5 x6_1).f0), .int .i64 ((rd_T43 l0_5 x6_1).f1), .int .i64 0, .string (⟨#[]⟩ : ByteArray), .bool false]) ?_ 2 _ rfl; (with_reducible repeat (first | refine blk_drewN ?_ _ | refine blk_drew ?_ | refine blk_alloc ?_ _)); refine blk_put (cs := #[.int .i64 ((rd_T43 l0_5 x6_1).f0), .int .i64 0, .int .i64 0, .string (⟨#[]⟩ : ByteArray), .bool false]) ?_ 1 _ rfl; (with_reducible repeat (first | refine blk_drewN ?_ _ | refine blk_drew ?_ | refine blk_alloc ?_ _)); refine blk_put (cs := #[.int .i64 0, .int .i64 0, .int .i64 0, .string (⟨#[]⟩ : ByteArray), .bool false]) ?_ 0 _ rfl; (with_reducible repeat (first | refine blk_drewN ?_ _ | refine blk_drew ?_ | refine blk_alloc ?_ _)); exact BK458.out⟩
                 have n2_ : Aside0 (Below w.heap.size w (((((w39.setCell ⟨gb458, 0, none⟩ (.int .i64 ((rd_T43 l0_5 x6_1).f0))).setCell ⟨gb458, 1, none⟩ (.int .i64 ((rd_T43 l0_5 x6_1).f1))).setCell ⟨gb458, 2, none⟩ (.int .i64 ((rd_T43 l0_5 x6_1).f2))).setCell ⟨gb458, 3, none⟩ (.string ((rd_T43 l0_5 x6_1).f3))).setCell ⟨gb458, 4, none⟩ (.bool ((rd_T43 l0_5 x6_1).f4)))) := ⟨hb_⟩
                 (try clear BK448); (try clear BK458); (try clear HB)
                 (try (have hck_w42 : ((((((w39.setCell ⟨gb458, 0, none⟩ (.int .i64 ((rd_T43 l0_5 x6_1).f0))).setCell ⟨gb458, 1, none⟩ (.int .i64 ((rd_T43 l0_5 x6_1).f1))).setCell ⟨gb458, 2, none⟩ (.int .i64 ((rd_T43 l0_5 x6_1).f2))).setCell ⟨gb458, 3, none⟩ (.string ((rd_T43 l0_5 x6_1).f3))).setCell ⟨gb458, 4, none⟩ (.bool ((rd_T43 l0_5 x6_1).f4)))).cell? ⟨gb458, 4, none⟩ = some (.bool ((rd_T43 l0_5 x6_1).f4)) := World.cell?_setCell_same _ _ _ (by assumption)))
                 (first | generalize (((((w39.setCell ⟨gb458, 0, none⟩ (.int .i64 ((rd_T43 l0_5 x6_1).f0))).setCell ⟨gb458, 1, none⟩ (.int .i64 ((rd_T43 l0_5 x6_1).f1))).setCell ⟨gb458, 2, none⟩ (.int .i64 ((rd_T43 l0_5 x6_1).f2))).setCell ⟨gb458, 3, none⟩ (.string ((rd_T43 l0_5 x6_1).f3))).setCell ⟨gb458, 4, none⟩ (.bool ((rd_T43 l0_5 x6_1).f4))) = w42 at n0_ n1_ n2_ hck_w42 ⊢ | generalize (((((w39.setCell ⟨gb458, 0, none⟩ (.int .i64 ((rd_T43 l0_5 x6_1).f0))).setCell ⟨gb458, 1, none⟩ (.int .i64 ((rd_T43 l0_5 x6_1).f1))).setCell ⟨gb458, 2, none⟩ (.int .i64 ((rd_T43 l0_5 x6_1).f2))).setCell ⟨gb458, 3, none⟩ (.string ((rd_T43 l0_5 x6_1).f3))).setCell ⟨gb458, 4, none⟩ (.bool ((rd_T43 l0_5 x6_1).f4))) = w42 at n0_ n1_ n2_ ⊢)
                 have BK448 := n0_; have BK458 := n1_; have HB := n2_
                 clear n0_ n1_ n2_
                 have n0_ := Aside0.mk (blk_drew BK448.out)
                 have n1_ := Aside0.mk (blk_drew BK458.out)
                 have n2_ := Aside0.mk (below_drew1 HB.out)
                 clear BK448 BK458 HB
                 have BK448 := n0_; have BK458 := n1_; have HB := n2_
                 clear n0_ n1_ n2_
                 refine start_ (n := 22) (S := fun w' => w'.cell? ⟨gb458, 0, none⟩ = some (.int .i64 ((rd_T43 l0_5 x6_1).f0)) ∧ w'.cell? ⟨gb458, 1, none⟩ = some (.int .i64 ((rd_T43 l0_5 x6_1).f1)) ∧ w'.cell? ⟨gb458, 2, none⟩ = some (.int .i64 ((rd_T43 l0_5 x6_1).f2)) ∧ w'.cell? ⟨gb458, 3, none⟩ = some (.string ((rd_T43 l0_5 x6_1).f3)) ∧ w'.cell? ⟨gb458, 4, none⟩ = some (.bool ((rd_T43 l0_5 x6_1).f4))) (ds := []) #[false, false, false, false, false, false, false, false, false, false, false, false, false, false, false, false, false, false, false, false, false, false] (by kernel_rfl) rfl rfl ⟨(blk_cell BK458.out 0).trans rfl, (blk_cell BK458.out 1).trans rfl, (blk_cell BK458.out 2).trans rfl, (blk_cell BK458.out 3).trans rfl, (blk_cell BK458.out 4).trans rfl⟩ (fun hHeld => ?_); refine with_tabW emulatorref28_Encode.tab9 emulatorref28_Encode.bits9 (fun HT_ HW_ => ?_)
                 generalize w42.drew = w43 at BK448 BK458 HB hHeld ⊢
                 refine pu_ 0 (some 50) (fl 22 1) rfl rfl HT_ ?_
                 refine pu_ 1 (some 51) (fl 22 3) rfl rfl HT_ ?_
                 refine pu_ 4 (some 54) (fl 22 19) rfl rfl HT_ ?_
                 refine pu_ 8 (some 58) (fl 22 275) rfl rfl HT_ ?_
                 refine pu_ 12 (some 62) (fl 22 4371) rfl rfl HT_ ?_
                 refine pu_ 16 (some 66) (fl 22 69907) rfl rfl HT_ ?_
                 refine ta_ 2 (some 52) (fl 22 69911) rfl rfl HT_ HW_ hHeld ?_
                 refine ta_ 5 (some 55) (fl 22 69943) rfl rfl HT_ HW_ hHeld ?_
                 refine ta_ 9 (some 59) (fl 22 70455) rfl rfl HT_ HW_ hHeld ?_
                 refine ta_ 13 (some 63) (fl 22 78647) rfl rfl HT_ HW_ hHeld ?_
                 refine ta_ 17 (some 67) (fl 22 209719) rfl rfl HT_ HW_ hHeld ?_
                 refine one_ (i := 3) (N := some 53) (fl 22 209727) rfl rfl (one_of HT_.out (by kernel_rfl)) (by decide) (fun K hK => ?_)
                 refine goes_ Try.func57 (by kernel_rfl) rfl #[.int .i64 ((rd_T43 l0_5 x6_1).f0), .int .i64 1] (by rfl) rfl rfl ar_ ?_
                 with_reducible refine (emulatorref03_Put.calls k1 ((rd_T43 l0_5 x6_1).f0) 1 t459 _ A28.out).mono ?_
                 rintro e w44 ⟨rfl, hb⟩
                 refine ⟨_, rfl, ?_⟩
                 have n0_ := Aside0.mk (blk_below (bk_ BK448.out) hb)
                 have n1_ := Aside0.mk (blk_below (bk_ BK458.out) hb)
                 have n2_ := Aside0.mk (below_step hb_ hb)
                 clear BK448 BK458 HB
                 have BK448 := n0_; have BK458 := n1_; have HB := n2_
                 clear n0_ n1_ n2_
                 (try clear hb); (try clear hb2); (try clear hk); (try clear hi)
                 refine hK.out _ _ ⟨(blk_cell BK458.out 0).trans rfl, (blk_cell BK458.out 1).trans rfl, (blk_cell BK458.out 2).trans rfl, (blk_cell BK458.out 3).trans rfl, (blk_cell BK458.out 4).trans rfl⟩ (fun hHeld => ?_)
                 clear hK K
                 refine no_ ?_
                 refine one_ (i := 6) (N := some 56) (fl 22 209791) rfl rfl (one_of HT_.out (by kernel_rfl)) (by decide) (fun K hK => ?_)
                 refine goes_ Try.func57 (by kernel_rfl) rfl #[.int .i64 ((rd_T43 l0_5 x6_1).f1), .int .i64 2] (by rfl) rfl rfl ar_ ?_
                 with_reducible refine (emulatorref03_Put.calls k1 ((rd_T43 l0_5 x6_1).f1) 2 t460 _ A29.out).mono ?_
                 rintro e w45 ⟨rfl, hb⟩
                 refine ⟨_, rfl, ?_⟩
                 have n0_ := Aside0.mk (blk_below (bk_ BK448.out) hb)
                 have n1_ := Aside0.mk (blk_below (bk_ BK458.out) hb)
                 have n2_ := Aside0.mk (below_step hb_ hb)
                 clear BK448 BK458 HB
                 have BK448 := n0_; have BK458 := n1_; have HB := n2_
                 clear n0_ n1_ n2_
                 (try clear hb); (try clear hb2); (try clear hk); (try clear hi)
                 refine hK.out _ _ ⟨(blk_cell BK458.out 0).trans rfl, (blk_cell BK458.out 1).trans rfl, (blk_cell BK458.out 2).trans rfl, (blk_cell BK458.out 3).trans rfl, (blk_cell BK458.out 4).trans rfl⟩ (fun hHeld => ?_)
                 clear hK K
                 refine no_ ?_
                 refine pu_ 7 (some 57) (fl 22 209919) rfl rfl HT_ ?_
                 refine one_ (i := 10) (N := some 60) (fl 22 210943) rfl rfl (one_of HT_.out (by kernel_rfl)) (by decide) (fun K hK => ?_)
                 refine goes_ Try.func57 (by kernel_rfl) rfl #[.int .i64 ((rd_T43 l0_5 x6_1).f2), .int .i64 1] (by rfl) rfl rfl ar_ ?_
                 with_reducible refine (emulatorref03_Put.calls k1 ((rd_T43 l0_5 x6_1).f2) 1 t461 _ A31.out).mono ?_
                 rintro e w46 ⟨rfl, hb⟩
                 refine ⟨_, rfl, ?_⟩
                 have n0_ := Aside0.mk (blk_below (bk_ BK448.out) hb)
                 have n1_ := Aside0.mk (blk_below (bk_ BK458.out) hb)
                 have n2_ := Aside0.mk (below_step hb_ hb)
                 clear BK448 BK458 HB
                 have BK448 := n0_; have BK458 := n1_; have HB := n2_
                 clear n0_ n1_ n2_
                 (try clear hb); (try clear hb2); (try clear hk); (try clear hi)
                 refine hK.out _ _ ⟨(blk_cell BK458.out 0).trans rfl, (blk_cell BK458.out 1).trans rfl, (blk_cell BK458.out 2).trans rfl, (blk_cell BK458.out 3).trans rfl, (blk_cell BK458.out 4).trans rfl⟩ (fun hHeld => ?_)
                 clear hK K
                 refine no_ ?_
                 refine pu_ 11 (some 61) (fl 22 212991) rfl rfl HT_ ?_
                 refine one_ (i := 14) (N := some 64) (fl 22 229375) rfl rfl (one_of HT_.out (by kernel_rfl)) (by decide) (fun K hK => ?_)
                 refine goes_ Try.func56 (by kernel_rfl) rfl #[.string ((rd_T43 l0_5 x6_1).f3)] (by rfl) rfl rfl ar_ ?_
                 with_reducible refine (emulatorref03_PutText.calls k1 ((rd_T43 l0_5 x6_1).f3) t462 _ A33.out).mono ?_
                 rintro e w47 ⟨rfl, hb⟩
                 refine ⟨_, rfl, ?_⟩
                 have n0_ := Aside0.mk (blk_below (bk_ BK448.out) hb)
                 have n1_ := Aside0.mk (blk_below (bk_ BK458.out) hb)
                 have n2_ := Aside0.mk (below_step hb_ hb)
                 clear BK448 BK458 HB
                 have BK448 := n0_; have BK458 := n1_; have HB := n2_
                 clear n0_ n1_ n2_
                 (try clear hb); (try clear hb2); (try clear hk); (try clear hi)
                 refine hK.out _ _ ⟨(blk_cell BK458.out 0).trans rfl, (blk_cell BK458.out 1).trans rfl, (blk_cell BK458.out 2).trans rfl, (blk_cell BK458.out 3).trans rfl, (blk_cell BK458.out 4).trans rfl⟩ (fun hHeld => ?_)
                 clear hK K
                 refine no_ ?_
                 refine pu_ 15 (some 65) (fl 22 262143) rfl rfl HT_ ?_
                 refine one_ (i := 18) (N := some 68) (fl 22 524287) rfl rfl (one_of HT_.out (by kernel_rfl)) (by decide) (fun K hK => ?_)
                 refine goes_ Try.func59 (by kernel_rfl) rfl #[.bool ((rd_T43 l0_5 x6_1).f4)] (by rfl) rfl rfl ar_ ?_
                 with_reducible refine (emulatorref28_bit.calls k1 ((rd_T43 l0_5 x6_1).f4) t463 _ A35.out).mono ?_
                 rintro e w48 ⟨rfl, hb⟩
                 refine ⟨_, rfl, ?_⟩
                 have n0_ := Aside0.mk (blk_below (bk_ BK448.out) hb)
                 have n1_ := Aside0.mk (blk_below (bk_ BK458.out) hb)
                 have n2_ := Aside0.mk (below_step hb_ hb)
                 clear BK448 BK458 HB
                 have BK448 := n0_; have BK458 := n1_; have HB := n2_
                 clear n0_ n1_ n2_
                 (try clear hb); (try clear hb2); (try clear hk); (try clear hi)
                 refine hK.out _ _ ⟨(blk_cell BK458.out 0).trans rfl, (blk_cell BK458.out 1).trans rfl, (blk_cell BK458.out 2).trans rfl, (blk_cell BK458.out 3).trans rfl, (blk_cell BK458.out 4).trans rfl⟩ (fun hHeld => ?_)
                 clear hK K
                 refine no_ ?_
                 refine pu_ 19 (some 69) (fl 22 1048575) rfl rfl HT_ ?_
                 refine pu_ 20 (some 70) (fl 22 2097151) rfl rfl HT_ ?_
                 refine pu_ 21 (some 5) (fl 22 4194303) rfl rfl HT_ ?_
                 refine done_ (done_of HT_.out (by kernel_rfl)) ?_
                 try go_wp2
                 go_roundg k1
                 case measure => have := HK1.out; omega
                 case rel => exact ⟨(x5_1 ++ ((((t459 ++ t460) ++ t461) ++ t462) ++ t463)), (wrap64 (x6_1 + 1)), cl_, cl_, H', ⟨by have := HK1.out; omega⟩, ⟨bk_ BK448.out⟩, ⟨hb_⟩⟩
                ·rw [if_neg c37] at H
                 exact absurd H (by simp)
               ·rw [if_neg c36] at H
                exact absurd H (by simp)
              ·rw [if_neg c34] at H
               exact absurd H (by simp)
             ·rw [if_neg c32] at H
              exact absurd H (by simp)
            ·rw [if_neg c30] at H
             exact absurd H (by simp)
           ·rw [if_neg c27] at H
            exact absurd H (by simp)
          ·rw [if_neg c26] at H
           have c26b0 : decide (x6_1 < (l0_5.length : Int)) = false := decide_eq_false c26
           clear c26
           replace H := Option.bind_eq_some_iff.mp H
           obtain ⟨t456, A490, H⟩ := H
           (try dsimp only at H)
           have A49 := Aside0.mk A490
           clear A490
           simp only [Option.some.injEq, Prod.mk.injEq] at H
           obtain ⟨rfl, rfl⟩ := H
           obtain ⟨hcz50_0, hfz50_0⟩ := bc_ BK448.out 0 rfl
           obtain ⟨hcz50_1, hfz50_1⟩ := bc_ BK448.out 1 rfl
           obtain ⟨hcz50_2, hfz50_2⟩ := bc_ BK448.out 2 rfl
           obtain ⟨hcz50_3, hfz50_3⟩ := bc_ BK448.out 3 rfl
           obtain ⟨hcz50_4, hfz50_4⟩ := bc_ BK448.out 4 rfl
           obtain ⟨hcz50_5, hfz50_5⟩ := bc_ BK448.out 5 rfl
           go_wp2_with (first | ((with_reducible refine gate_callee (f := 23) rfl ?_); refine goesL_ (some 72) rfl rfl Try.func23 (by kernel_rfl) rfl #[.string x5_1] rfl ar_ ?_; (with_reducible refine (emulatorref03_Seal.calls k1 x5_1 t456 _ A49.out).mono ?_); rintro e w51 ⟨rfl, hb⟩; refine ⟨_, rfl, ?_⟩; have n0_ := Aside0.mk (blk_below (bk_ BK448.out) hb); have n1_ := Aside0.mk (below_step hb_ hb); clear BK448 HB; have BK448 := n0_; have HB := n1_; clear n0_ n1_; (try clear hb); (try clear hb2); (try clear hk); (try clear hi)))
           go_ret2
           exact ⟨ew_, hb_⟩
       ·rw [if_neg c15] at H
        exact absurd H (by simp)
      ·rw [if_neg c13] at H
       exact absurd H (by simp)
     ·rw [if_neg c11] at H
      exact absurd H (by simp)
    ·rw [if_neg c9] at H
     exact absurd H (by simp)
   ·rw [if_neg c7] at H
    exact absurd H (by simp)
  ·rw [if_neg c5] at H
   exact absurd H (by simp)
 ·rw [if_neg c3] at H
  have c3b0 : (t449 == 0) = false := beq_eq_false_iff_ne.mpr c3
  have c3b1 : (t449 != 0) = true := bne_iff_ne.mpr c3
  simp only [Option.some.injEq, Prod.mk.injEq] at H
  obtain ⟨rfl, rfl⟩ := H
  go_enter Try.func22, Try.ntmps22
  go_wp2_with (first | ((with_reducible refine gate_dst (N := 1) rfl ?_); refine box_event ?hg (N := 1) ?hd (cs := #[.string a0_0, .string a0_1, .string a0_2, .int .i64 a0_3, .slice A0_4 l0_4.length c0_4, .slice A0_5 l0_5.length c0_5]) (t := 25) ?hr ?_; (case hd => rfl); (case hg => rfl); (case hr => first | (go_simp; done) | (go_simp; rfl)); intro gb448 hg w52 hbox hb; have n0_ := Aside0.mk (below_step hb_ hb); have n1_ := Aside0.mk (hbox); have n2_ := Aside0.mk ((by rw [hg]; exact (below_size hb_) : w.heap.size ≤ gb448)); have n3_ := Aside0.mk ((by rw [hg]; exact (below_size hb_) : w.heap.size ≤ gb448)); clear HB; have HB := n0_; have BK448 := n1_; have GW448 := n2_; have GE448 := n3_; clear n0_ n1_ n2_ n3_; clear hb hbox hg; obtain ⟨hcz53_0, hfz53_0⟩ := bc_ BK448.out 0 rfl; obtain ⟨hcz53_1, hfz53_1⟩ := bc_ BK448.out 1 rfl; obtain ⟨hcz53_2, hfz53_2⟩ := bc_ BK448.out 2 rfl; obtain ⟨hcz53_3, hfz53_3⟩ := bc_ BK448.out 3 rfl; obtain ⟨hcz53_4, hfz53_4⟩ := bc_ BK448.out 4 rfl; obtain ⟨hcz53_5, hfz53_5⟩ := bc_ BK448.out 5 rfl) | ((with_reducible refine gate_callee (f := 19) rfl ?_); refine goesL_ (some 9) rfl rfl Try.func19 (by kernel_rfl) rfl #[.agg #[.string a0_0, .string a0_1, .string a0_2, .int .i64 a0_3, .slice A0_4 l0_4.length c0_4, .slice A0_5 l0_5.length c0_5]] rfl ar_ ?_; (with_reducible refine (emulatorref28_Check.calls k a0_0 a0_1 a0_2 a0_3 _ _ l0_4 _ _ l0_5 t449 _ ?side1 ?side2 ?side3 ?side4 A2.out).mono ?_); (case side1 => repeat (first | exact (Kd.C_below HR0_4.out HB.out) | (with_reducible refine Kd.C_alloc ?_ _) | (with_reducible refine Kd.C_drewN ?_ _) | (with_reducible refine Kd.C_drew ?_))); (case side2 => exact HC0_4.out); (case side3 => repeat (first | exact (Kd.C_below HR0_5.out HB.out) | (with_reducible refine Kd.C_alloc ?_ _) | (with_reducible refine Kd.C_drewN ?_ _) | (with_reducible refine Kd.C_drew ?_))); (case side4 => exact HC0_5.out); rintro e w54 ⟨rfl, hb⟩; refine ⟨_, rfl, ?_⟩; have n0_ := Aside0.mk (blk_below (bk_ BK448.out) hb); have n1_ := Aside0.mk (below_step hb_ hb); clear BK448 HB; have BK448 := n0_; have HB := n1_; clear n0_ n1_; (try clear hb); (try clear hb2); (try clear hk); (try clear hi)))
  go_ret2
  exact ⟨ew_, hb_⟩
end Go.Proofs.Ytenlmckahaniiaa.K
end
