/- Lemmas for the law ObjectDecodes: what its proof needs of this seat's texts, in one place. -/
import Derived.Test.YtenlmckahaniiaaZObjectDecodes9
section
namespace Go.Proofs.Ytenlmckahaniiaa.K
open Go.RowKit Go.Proofs.YtenlmckahaniiaaW.PrintWords Go.Proofs.YtenlmckahaniiaaW.PrintLast
set_option linter.unusedVariables false
set_option linter.unusedSimpArgs false
def emulatorref28_bit.f (k : Nat) (a0 : Bool) : Option (ByteArray) := if a0 = true then ((emulatorref03_Put.f k 1 1).bind fun t437 => (some t437)) else ((emulatorref03_Put.f k 0 1).bind fun t438 => (some t438))
theorem emulatorref28_bit.mono : ∀ a0 k, LeO (emulatorref28_bit.f k a0) (emulatorref28_bit.f (k + 1) a0) := by
 intro a0 k
 unfold emulatorref28_bit.f
 repeat' first
   | (with_reducible exact emulatorref03_Put.mono _ _ _)
   | (with_reducible exact LeO.refl _)
   | (with_reducible exact LeO.none _)
   | (with_reducible refine LeO.ite ?_ ?_)
   | (with_reducible refine LeO.bind ?_ (fun _ => ?_))
   | exact emulatorref03_Put.mono _ _ _
   | exact LeO.none _
   | refine LeO.ite ?_ ?_
   | refine LeO.bind ?_ (fun _ => ?_)
set_option maxHeartbeats 8000000 in
set_option maxRecDepth 100000 in
theorem emulatorref28_bit.calls (k : Nat) (a0 : Bool) (r : ByteArray) (w : World) (h : emulatorref28_bit.f k a0 = some r) :
  Calls Try.prog 59 #[.bool a0] w fun e w' => e = .returned (.string r) ∧ Below w.heap.size w w' := by
 have HB := Aside0.mk (Below.refl w.heap.size w)
 have H : (if a0 = true then ((emulatorref03_Put.f k 1 1).bind fun t437 => (some t437)) else ((emulatorref03_Put.f k 0 1).bind fun t438 => (some t438))) = some r := h
 clear h
 by_cases c2 : a0 = true
 ·subst c2
  have H1 : ((emulatorref03_Put.f k 1 1).bind fun t437 => (some t437)) = some r := by rw [if_pos rfl] at H; exact H
  clear H
  have H := H1
  clear H1
  replace H := Option.bind_eq_some_iff.mp H
  obtain ⟨t437, A30, H⟩ := H
  (try dsimp only at H)
  have A3 := Aside0.mk A30
  clear A30
  obtain rfl := Option.some.inj H
  go_enter Try.func59, Try.ntmps59
  go_wp2_with (first | ((with_reducible refine gate_callee (f := 57) rfl ?_); refine goesL_ (some 4) rfl rfl Try.func57 (by kernel_rfl) rfl #[.int .i64 1, .int .i64 1] rfl ar_ ?_; (with_reducible refine (emulatorref03_Put.calls k 1 1 t437 _ A3.out).mono ?_); rintro e w4 ⟨rfl, hb⟩; refine ⟨_, rfl, ?_⟩; have n0_ := Aside0.mk (below_step hb_ hb); clear HB; have HB := n0_; clear n0_; (try clear hb); (try clear hb2); (try clear hk); (try clear hi)))
  go_ret
  exact ⟨ew_, hb_⟩
 ·replace c2 := Bool.eq_false_iff.mpr c2
  subst c2
  have H1 : ((emulatorref03_Put.f k 0 1).bind fun t438 => (some t438)) = some r := by rw [if_neg (show ¬ (false = true) by decide)] at H; exact H
  clear H
  have H := H1
  clear H1
  replace H := Option.bind_eq_some_iff.mp H
  obtain ⟨t438, A50, H⟩ := H
  (try dsimp only at H)
  have A5 := Aside0.mk A50
  clear A50
  obtain rfl := Option.some.inj H
  go_enter Try.func59, Try.ntmps59
  go_wp2_with (first | ((with_reducible refine gate_callee (f := 57) rfl ?_); refine goesL_ (some 5) rfl rfl Try.func57 (by kernel_rfl) rfl #[.int .i64 0, .int .i64 1] rfl ar_ ?_; (with_reducible refine (emulatorref03_Put.calls k 0 1 t438 _ A5.out).mono ?_); rintro e w6 ⟨rfl, hb⟩; refine ⟨_, rfl, ?_⟩; have n0_ := Aside0.mk (below_step hb_ hb); clear HB; have HB := n0_; clear n0_; (try clear hb); (try clear hb2); (try clear hk); (try clear hi)))
  go_ret
  exact ⟨ew_, hb_⟩
end Go.Proofs.Ytenlmckahaniiaa.K
end
section
namespace Go.Proofs.Ytenlmckahaniiaa.K
open Go.RowKit Go.Proofs.YtenlmckahaniiaaW.PrintWords Go.Proofs.YtenlmckahaniiaaW.PrintLast
set_option linter.unusedVariables false
set_option linter.unusedSimpArgs false
def emulatorref28_PutSymbols.l0 : Nat → List (S62) → ByteArray → Int → Option (ByteArray)
  | 0, _, _, _ => none
  | k + 1, x0, x3, x4 => if x4 < (x0.length : Int) then (if 0 ≤ x4 then ((emulatorref03_PutText.f k ((rd_T62 x0 x4).f0)).bind fun t441 => ((emulatorref03_Put.f k ((rd_T62 x0 x4).f1) 1).bind fun t443 => (if t441.size + t443.size ≤ 9223372036854775807 then ((emulatorref03_Put.f k ((rd_T62 x0 x4).f2) 2).bind fun t445 => (if (t441 ++ t443).size + t445.size ≤ 9223372036854775807 then ((emulatorref28_bit.f k ((rd_T62 x0 x4).f3)).bind fun t447 => (if ((t441 ++ t443) ++ t445).size + t447.size ≤ 9223372036854775807 then (if x3.size + (((t441 ++ t443) ++ t445) ++ t447).size ≤ 9223372036854775807 then (emulatorref28_PutSymbols.l0 k x0 (x3 ++ (((t441 ++ t443) ++ t445) ++ t447)) (wrap64 (x4 + 1))) else (none)) else (none))) else (none))) else (none)))) else (none)) else (some x3)
def emulatorref28_PutSymbols.f (k : Nat) (l0 : List (S62)) : Option (ByteArray) := (emulatorref03_Put.f k (l0.length : Int) 2).bind fun t439 => (emulatorref28_PutSymbols.l0 k l0 t439 0)
theorem emulatorref28_PutSymbols.mono_l : ∀ k, (∀ y0 y1 y2, LeO (emulatorref28_PutSymbols.l0 k y0 y1 y2) (emulatorref28_PutSymbols.l0 (k + 1) y0 y1 y2))
 | 0 => fun _ _ _ r h => by simp [emulatorref28_PutSymbols.l0] at h
 | k + 1 => by
  have ih0 := emulatorref28_PutSymbols.mono_l k
  ·intro y0 y1 y2
   unfold emulatorref28_PutSymbols.l0
   repeat' first
   | (with_reducible exact ih0 _ _ _)
   | (with_reducible exact emulatorref03_Put.mono _ _ _)
   | (with_reducible exact emulatorref03_PutText.mono _ _)
   | (with_reducible exact emulatorref28_bit.mono _ _)
   | (with_reducible exact LeO.refl _)
   | (with_reducible exact LeO.none _)
   | (with_reducible refine LeO.ite ?_ ?_)
   | (with_reducible refine LeO.bind ?_ (fun _ => ?_))
   | exact ih0 _ _ _
   | exact emulatorref03_Put.mono _ _ _
   | exact emulatorref03_PutText.mono _ _
   | exact emulatorref28_bit.mono _ _
   | exact LeO.none _
   | refine LeO.ite ?_ ?_
   | refine LeO.bind ?_ (fun _ => ?_)
theorem emulatorref28_PutSymbols.mono : ∀ a0 k, LeO (emulatorref28_PutSymbols.f k a0) (emulatorref28_PutSymbols.f (k + 1) a0) := by
 intro a0 k
 have ih0 := emulatorref28_PutSymbols.mono_l k
 unfold emulatorref28_PutSymbols.f
 repeat' first
   | (with_reducible exact ih0 _ _ _)
   | (with_reducible exact emulatorref03_Put.mono _ _ _)
   | (with_reducible exact emulatorref03_PutText.mono _ _)
   | (with_reducible exact emulatorref28_bit.mono _ _)
   | (with_reducible exact LeO.refl _)
   | (with_reducible exact LeO.none _)
   | (with_reducible refine LeO.ite ?_ ?_)
   | (with_reducible refine LeO.bind ?_ (fun _ => ?_))
   | exact ih0 _ _ _
   | exact emulatorref03_Put.mono _ _ _
   | exact emulatorref03_PutText.mono _ _
   | exact emulatorref28_bit.mono _ _
   | exact LeO.none _
   | refine LeO.ite ?_ ?_
   | refine LeO.bind ?_ (fun _ => ?_)
def emulatorref28_PutSymbols.T5 : Bool × List (List Nat × List Nat) := (true, [([], []), ([], []), ([], []), ([1, 2], [1, 2]), ([3], [3]), ([4], [4]), ([5], [5]), ([], []), ([], []), ([7, 8], [7, 8]), ([9], [9]), ([10], [10]), ([11, 6], [11]), ([6, 12], [6, 12]), ([], []), ([], []), ([14, 15], [14, 15]), ([16], [16]), ([17], [17]), ([18, 12], [18]), ([13, 19], [13, 19]), ([], []), ([], []), ([21, 22], [21, 22]), ([23], [23]), ([24], [24]), ([25, 19], [25]), ([20, 26], [20, 26]), ([0, 27], [0, 27]), ([28, 26, 0, 1, 2, 3, 4, 5, 6, 7, 8, 9, 10, 11, 12, 13, 14, 15, 16, 17, 18, 19, 20, 21, 22, 23, 24, 25, 26, 27, 28], [0, 28])])
def emulatorref28_PutSymbols.B5 : List Nat := [0, 0, 0, 6, 14, 30, 62, 0, 0, 384, 896, 1920, 4094, 8190, 0, 0, 49152, 114688, 245760, 516094, 1048574, 0, 0, 6291456, 14680064, 31457280, 66052094, 134217726, 268435455, 536870911]
theorem emulatorref28_PutSymbols.tab5 : rtab .any (opsOf Try.f58 5) = emulatorref28_PutSymbols.T5 := by kernel_rfl
theorem emulatorref28_PutSymbols.bits5 : waitsOk emulatorref28_PutSymbols.T5.2 emulatorref28_PutSymbols.B5 = true := by kernel_rfl
set_option maxHeartbeats 8000000 in
set_option maxRecDepth 100000 in
theorem emulatorref28_PutSymbols.calls (k : Nat) (A0 : Option Addr) (c0 : Nat) (l0 : List (S62)) (r : ByteArray) (w : World) (hr0 : Kd.C k62 w A0 l0.length l0) (hc0 : l0.length ≤ c0) (h : emulatorref28_PutSymbols.f k l0 = some r) :
  Calls Try.prog 58 #[.slice A0 l0.length c0] w fun e w' => e = .returned (.string r) ∧ Below w.heap.size w w' := by
 have HR0 := Aside0.mk hr0
 have HC0 := Aside0.mk hc0
 clear hr0 hc0
 have HB := Aside0.mk (Below.refl w.heap.size w)
 have H : ((emulatorref03_Put.f k (l0.length : Int) 2).bind fun t439 => (emulatorref28_PutSymbols.l0 k l0 t439 0)) = some r := h
 clear h
 replace H := Option.bind_eq_some_iff.mp H
 obtain ⟨t439, A20, H⟩ := H
 (try dsimp only at H)
 have A2 := Aside0.mk A20
 clear A20
 have H' := Aside0.mk H
 clear H
 go_enter Try.func58, Try.ntmps58
 go_wp2_with (first | ((with_reducible refine gate_callee (f := 57) rfl ?_); refine goesL_ (some 7) rfl rfl Try.func57 (by kernel_rfl) rfl #[.int .i64 (l0.length : Int), .int .i64 2] rfl ar_ ?_; (with_reducible refine (emulatorref03_Put.calls k (l0.length : Int) 2 t439 _ A2.out).mono ?_); rintro e w3 ⟨rfl, hb⟩; refine ⟨_, rfl, ?_⟩; have n0_ := Aside0.mk (below_step hb_ hb); clear HB; have HB := n0_; clear n0_; (try clear hb); (try clear hb2); (try clear hk); (try clear hi)))
 go_loopg [3, 4] k (fun kq v3 v4 w' => ∃ (x3_1 : ByteArray) (x4_1 : Int), v3 = .string x3_1 ∧ v4 = .int .i64 x4_1 ∧ Aside0 (emulatorref28_PutSymbols.l0 kq l0 x3_1 x4_1 = some r) ∧ Aside0 (kq ≤ k) ∧ Aside0 (Below w.heap.size w w'))
 case atStart => exact ⟨(t439), (0), cl_, cl_, H', ⟨Nat.le_refl _⟩, ⟨hb_⟩⟩
 case round =>
  clear H'
  (try clear p2)
  obtain ⟨x3_1, x4_1, rfl, rfl, HA, HK1, HB⟩ := hrel
  cases gk with
  | zero => exact absurd HA.out (by simp [emulatorref28_PutSymbols.l0])
  | succ k1 =>
   have H := HA.out
   clear HA
   simp only [emulatorref28_PutSymbols.l0] at H
   by_cases c4 : x4_1 < (l0.length : Int)
   ·rw [if_pos c4] at H
    have c4b0 : decide (x4_1 < (l0.length : Int)) = true := decide_eq_true c4
    clear c4
    by_cases c5 : 0 ≤ x4_1
    ·rw [if_pos c5] at H
     have c5b0 : decide (0 ≤ x4_1) = true := decide_eq_true c5
     clear c5
     replace H := Option.bind_eq_some_iff.mp H
     obtain ⟨t441, A60, H⟩ := H
     (try dsimp only at H)
     have A6 := Aside0.mk A60
     clear A60
     replace H := Option.bind_eq_some_iff.mp H
     obtain ⟨t443, A70, H⟩ := H
     (try dsimp only at H)
     have A7 := Aside0.mk A70
     clear A70
     by_cases c8 : t441.size + t443.size ≤ 9223372036854775807
     ·rw [if_pos c8] at H
      have c8b0 := eq_true c8
      have c8b1 : decide (t441.size + t443.size ≤ 9223372036854775807) = true := decide_eq_true c8
      try have c8b2 : (9223372036854775807 < t441.size + t443.size) = False := eq_false (Nat.not_lt.2 c8)
      replace H := Option.bind_eq_some_iff.mp H
      obtain ⟨t445, A90, H⟩ := H
      (try dsimp only at H)
      have A9 := Aside0.mk A90
      clear A90
      by_cases c10 : (t441 ++ t443).size + t445.size ≤ 9223372036854775807
      ·rw [if_pos c10] at H
       have c10b0 := eq_true c10
       have c10b1 : decide ((t441 ++ t443).size + t445.size ≤ 9223372036854775807) = true := decide_eq_true c10
       try have c10b2 : (9223372036854775807 < (t441 ++ t443).size + t445.size) = False := eq_false (Nat.not_lt.2 c10)
       replace H := Option.bind_eq_some_iff.mp H
       obtain ⟨t447, A110, H⟩ := H
       (try dsimp only at H)
       have A11 := Aside0.mk A110
       clear A110
       by_cases c12 : ((t441 ++ t443) ++ t445).size + t447.size ≤ 9223372036854775807
       ·rw [if_pos c12] at H
        have c12b0 := eq_true c12
        have c12b1 : decide (((t441 ++ t443) ++ t445).size + t447.size ≤ 9223372036854775807) = true := decide_eq_true c12
        try have c12b2 : (9223372036854775807 < ((t441 ++ t443) ++ t445).size + t447.size) = False := eq_false (Nat.not_lt.2 c12)
        by_cases c13 : x3_1.size + (((t441 ++ t443) ++ t445) ++ t447).size ≤ 9223372036854775807
        ·rw [if_pos c13] at H
         have c13b0 := eq_true c13
         have c13b1 : decide (x3_1.size + (((t441 ++ t443) ++ t445) ++ t447).size ≤ 9223372036854775807) = true := decide_eq_true c13
         try have c13b2 : (9223372036854775807 < x3_1.size + (((t441 ++ t443) ++ t445) ++ t447).size) = False := eq_false (Nat.not_lt.2 c13)
         have H' := Aside0.mk H
         clear H
         try go_wp2
         have n0_ := Aside0.mk (below_drew1 HB.out)
         clear HB
         have HB := n0_
         clear n0_
         have p440 : 0 ≤ (x4_1 : Int) := oa_
         have q440 : x4_1 < (l0.length : Int) := oa_
         obtain ⟨ad440, e440, hx440_0, hx440_1, hx440_2, hx440_3⟩ := at_T62 HR0.out x4_1 p440 q440
         have hw440_3 := hx440_3
         have hw440_2 := hx440_2
         have hw440_1 := hx440_1
         have hw440_0 := hx440_0
         cases e440
         replace hx440_0 := (HB.out.cell (World.block_lt_of_cell? w _ hx440_0)).trans hx440_0
         replace hx440_1 := (HB.out.cell (World.block_lt_of_cell? w _ hx440_1)).trans hx440_1
         replace hx440_2 := (HB.out.cell (World.block_lt_of_cell? w _ hx440_2)).trans hx440_2
         replace hx440_3 := (HB.out.cell (World.block_lt_of_cell? w _ hx440_3)).trans hx440_3
         replace p440 := eq_true p440
         replace q440 := eq_true q440
         have p442 : 0 ≤ (x4_1 : Int) := oa_
         have q442 : x4_1 < (l0.length : Int) := oa_
         obtain ⟨ad442, e442, hx442_0, hx442_1, hx442_2, hx442_3⟩ := at_T62 HR0.out x4_1 p442 q442
         have hw442_3 := hx442_3
         have hw442_2 := hx442_2
         have hw442_1 := hx442_1
         have hw442_0 := hx442_0
         obtain rfl : ad440 = ad442 := (by injection e442)
         replace hx442_0 := (HB.out.cell (World.block_lt_of_cell? w _ hx442_0)).trans hx442_0
         replace hx442_1 := (HB.out.cell (World.block_lt_of_cell? w _ hx442_1)).trans hx442_1
         replace hx442_2 := (HB.out.cell (World.block_lt_of_cell? w _ hx442_2)).trans hx442_2
         replace hx442_3 := (HB.out.cell (World.block_lt_of_cell? w _ hx442_3)).trans hx442_3
         replace p442 := eq_true p442
         replace q442 := eq_true q442
         have p444 : 0 ≤ (x4_1 : Int) := oa_
         have q444 : x4_1 < (l0.length : Int) := oa_
         obtain ⟨ad444, e444, hx444_0, hx444_1, hx444_2, hx444_3⟩ := at_T62 HR0.out x4_1 p444 q444
         have hw444_3 := hx444_3
         have hw444_2 := hx444_2
         have hw444_1 := hx444_1
         have hw444_0 := hx444_0
         obtain rfl : ad440 = ad444 := (by injection e444)
         replace hx444_0 := (HB.out.cell (World.block_lt_of_cell? w _ hx444_0)).trans hx444_0
         replace hx444_1 := (HB.out.cell (World.block_lt_of_cell? w _ hx444_1)).trans hx444_1
         replace hx444_2 := (HB.out.cell (World.block_lt_of_cell? w _ hx444_2)).trans hx444_2
         replace hx444_3 := (HB.out.cell (World.block_lt_of_cell? w _ hx444_3)).trans hx444_3
         replace p444 := eq_true p444
         replace q444 := eq_true q444
         have p446 : 0 ≤ (x4_1 : Int) := oa_
         have q446 : x4_1 < (l0.length : Int) := oa_
         obtain ⟨ad446, e446, hx446_0, hx446_1, hx446_2, hx446_3⟩ := at_T62 HR0.out x4_1 p446 q446
         have hw446_3 := hx446_3
         have hw446_2 := hx446_2
         have hw446_1 := hx446_1
         have hw446_0 := hx446_0
         obtain rfl : ad440 = ad446 := (by injection e446)
         replace hx446_0 := (HB.out.cell (World.block_lt_of_cell? w _ hx446_0)).trans hx446_0
         replace hx446_1 := (HB.out.cell (World.block_lt_of_cell? w _ hx446_1)).trans hx446_1
         replace hx446_2 := (HB.out.cell (World.block_lt_of_cell? w _ hx446_2)).trans hx446_2
         replace hx446_3 := (HB.out.cell (World.block_lt_of_cell? w _ hx446_3)).trans hx446_3
         replace p446 := eq_true p446
         replace q446 := eq_true q446
         refine start_ (n := 30) (S := fun w' => w'.cell? (ad440.add ((x4_1).toNat * 4)) = some (.string ((rd_T62 l0 x4_1).f0)) ∧ w'.cell? ⟨(ad440.add ((x4_1).toNat * 4)).block, (ad440.add ((x4_1).toNat * 4)).off + 1, none⟩ = some (.int .i64 ((rd_T62 l0 x4_1).f1)) ∧ w'.cell? ⟨(ad440.add ((x4_1).toNat * 4)).block, (ad440.add ((x4_1).toNat * 4)).off + 2, none⟩ = some (.int .i64 ((rd_T62 l0 x4_1).f2)) ∧ w'.cell? ⟨(ad440.add ((x4_1).toNat * 4)).block, (ad440.add ((x4_1).toNat * 4)).off + 3, none⟩ = some (.bool ((rd_T62 l0 x4_1).f3)) ∧ w'.cell? (ad440.add ((x4_1).toNat * 4)) = some (.string ((rd_T62 l0 x4_1).f0)) ∧ w'.cell? ⟨(ad440.add ((x4_1).toNat * 4)).block, (ad440.add ((x4_1).toNat * 4)).off + 1, none⟩ = some (.int .i64 ((rd_T62 l0 x4_1).f1)) ∧ w'.cell? ⟨(ad440.add ((x4_1).toNat * 4)).block, (ad440.add ((x4_1).toNat * 4)).off + 2, none⟩ = some (.int .i64 ((rd_T62 l0 x4_1).f2)) ∧ w'.cell? ⟨(ad440.add ((x4_1).toNat * 4)).block, (ad440.add ((x4_1).toNat * 4)).off + 3, none⟩ = some (.bool ((rd_T62 l0 x4_1).f3)) ∧ w'.cell? (ad440.add ((x4_1).toNat * 4)) = some (.string ((rd_T62 l0 x4_1).f0)) ∧ w'.cell? ⟨(ad440.add ((x4_1).toNat * 4)).block, (ad440.add ((x4_1).toNat * 4)).off + 1, none⟩ = some (.int .i64 ((rd_T62 l0 x4_1).f1)) ∧ w'.cell? ⟨(ad440.add ((x4_1).toNat * 4)).block, (ad440.add ((x4_1).toNat * 4)).off + 2, none⟩ = some (.int .i64 ((rd_T62 l0 x4_1).f2)) ∧ w'.cell? ⟨(ad440.add ((x4_1).toNat * 4)).block, (ad440.add ((x4_1).toNat * 4)).off + 3, none⟩ = some (.bool ((rd_T62 l0 x4_1).f3)) ∧ w'.cell? (ad440.add ((x4_1).toNat * 4)) = some (.string ((rd_T62 l0 x4_1).f0)) ∧ w'.cell? ⟨(ad440.add ((x4_1).toNat * 4)).block, (ad440.add ((x4_1).toNat * 4)).off + 1, none⟩ = some (.int .i64 ((rd_T62 l0 x4_1).f1)) ∧ w'.cell? ⟨(ad440.add ((x4_1).toNat * 4)).block, (ad440.add ((x4_1).toNat * 4)).off + 2, none⟩ = some (.int .i64 ((rd_T62 l0 x4_1).f2)) ∧ w'.cell? ⟨(ad440.add ((x4_1).toNat * 4)).block, (ad440.add ((x4_1).toNat * 4)).off + 3, none⟩ = some (.bool ((rd_T62 l0 x4_1).f3))) (ds := []) #[false, false, false, false, false, false, false, false, false, false, false, false, false, false, false, false, false, false, false, false, false, false, false, false, false, false, false, false, false, false] (by kernel_rfl) rfl rfl ⟨((HB.out.cell (World.block_lt_of_cell? w _ hw440_0)).trans hw440_0), ((HB.out.cell (World.block_lt_of_cell? w _ hw440_1)).trans hw440_1), ((HB.out.cell (World.block_lt_of_cell? w _ hw440_2)).trans hw440_2), ((HB.out.cell (World.block_lt_of_cell? w _ hw440_3)).trans hw440_3), ((HB.out.cell (World.block_lt_of_cell? w _ hw442_0)).trans hw442_0), ((HB.out.cell (World.block_lt_of_cell? w _ hw442_1)).trans hw442_1), ((HB.out.cell (World.block_lt_of_cell? w _ hw442_2)).trans hw442_2), ((HB.out.cell (World.block_lt_of_cell? w _ hw442_3)).trans hw442_3), ((HB.out.cell (World.block_lt_of_cell? w _ hw444_0)).trans hw444_0), ((HB.out.cell (World.block_lt_of_cell? w _ hw444_1)).trans hw444_1), ((HB.out.cell (World.block_lt_of_cell? w _ hw444_2)).trans hw444_2), ((HB.out.cell (World.block_lt_of_cell? w _ hw444_3)).trans hw444_3), ((HB.out.cell (World.block_lt_of_cell? w _ hw446_0)).trans hw446_0), ((HB.out.cell (World.block_lt_of_cell? w _ hw446_1)).trans hw446_1), ((HB.out.cell (World.block_lt_of_cell? w _ hw446_2)).trans hw446_2), ((HB.out.cell (World.block_lt_of_cell? w _ hw446_3)).trans hw446_3)⟩ (fun hHeld => ?_); refine with_tabW emulatorref28_PutSymbols.tab5 emulatorref28_PutSymbols.bits5 (fun HT_ HW_ => ?_)
         generalize wr.drew = w14 at HB hx440_0 hx440_1 hx440_2 hx440_3 hx442_0 hx442_1 hx442_2 hx442_3 hx444_0 hx444_1 hx444_2 hx444_3 hx446_0 hx446_1 hx446_2 hx446_3 hHeld ⊢
         refine pu_ 0 (some 14) (fl 30 1) rfl rfl HT_ ?_
         refine pu_ 1 (some 15) (fl 30 3) rfl rfl HT_ ?_
         refine pu_ 2 (some 16) (fl 30 7) rfl rfl HT_ ?_
         refine pu_ 3 (some 17) (fl 30 15) rfl rfl HT_ ?_
         refine pu_ 4 (some 18) (fl 30 31) rfl rfl HT_ ?_
         refine pu_ 7 (some 21) (fl 30 159) rfl rfl HT_ ?_
         refine pu_ 8 (some 22) (fl 30 415) rfl rfl HT_ ?_
         refine pu_ 9 (some 23) (fl 30 927) rfl rfl HT_ ?_
         refine pu_ 10 (some 24) (fl 30 1951) rfl rfl HT_ ?_
         refine pu_ 14 (some 28) (fl 30 18335) rfl rfl HT_ ?_
         refine pu_ 15 (some 29) (fl 30 51103) rfl rfl HT_ ?_
         refine pu_ 16 (some 30) (fl 30 116639) rfl rfl HT_ ?_
         refine pu_ 17 (some 31) (fl 30 247711) rfl rfl HT_ ?_
         refine pu_ 21 (some 35) (fl 30 2344863) rfl rfl HT_ ?_
         refine pu_ 22 (some 36) (fl 30 6539167) rfl rfl HT_ ?_
         refine pu_ 23 (some 37) (fl 30 14927775) rfl rfl HT_ ?_
         refine pu_ 24 (some 38) (fl 30 31704991) rfl rfl HT_ ?_
         refine ta_ 5 (some 19) (fl 30 31705023) rfl rfl HT_ HW_ hHeld ?_
         refine ta_ 11 (some 25) (fl 30 31707071) rfl rfl HT_ HW_ hHeld ?_
         refine ta_ 18 (some 32) (fl 30 31969215) rfl rfl HT_ HW_ hHeld ?_
         refine ta_ 25 (some 39) (fl 30 65523647) rfl rfl HT_ HW_ hHeld ?_
         refine one_ (i := 6) (N := some 20) (fl 30 65523711) rfl rfl (one_of HT_.out (by kernel_rfl)) (by decide) (fun K hK => ?_)
         refine goes_ Try.func56 (by kernel_rfl) rfl #[.string ((rd_T62 l0 x4_1).f0)] (by rfl) rfl rfl ar_ ?_
         with_reducible refine (emulatorref03_PutText.calls k1 ((rd_T62 l0 x4_1).f0) t441 _ A6.out).mono ?_
         rintro e w15 ⟨rfl, hb⟩
         refine ⟨_, rfl, ?_⟩
         have n0_ := Aside0.mk (below_step hb_ hb)
         clear HB
         have HB := n0_
         clear n0_
         (try clear hb); (try clear hb2); (try clear hk); (try clear hi)
         refine hK.out _ _ ⟨((HB.out.cell (World.block_lt_of_cell? w _ hw440_0)).trans hw440_0), ((HB.out.cell (World.block_lt_of_cell? w _ hw440_1)).trans hw440_1), ((HB.out.cell (World.block_lt_of_cell? w _ hw440_2)).trans hw440_2), ((HB.out.cell (World.block_lt_of_cell? w _ hw440_3)).trans hw440_3), ((HB.out.cell (World.block_lt_of_cell? w _ hw442_0)).trans hw442_0), ((HB.out.cell (World.block_lt_of_cell? w _ hw442_1)).trans hw442_1), ((HB.out.cell (World.block_lt_of_cell? w _ hw442_2)).trans hw442_2), ((HB.out.cell (World.block_lt_of_cell? w _ hw442_3)).trans hw442_3), ((HB.out.cell (World.block_lt_of_cell? w _ hw444_0)).trans hw444_0), ((HB.out.cell (World.block_lt_of_cell? w _ hw444_1)).trans hw444_1), ((HB.out.cell (World.block_lt_of_cell? w _ hw444_2)).trans hw444_2), ((HB.out.cell (World.block_lt_of_cell? w _ hw444_3)).trans hw444_3), ((HB.out.cell (World.block_lt_of_cell? w _ hw446_0)).trans hw446_0), ((HB.out.cell (World.block_lt_of_cell? w _ hw446_1)).trans hw446_1), ((HB.out.cell (World.block_lt_of_cell? w _ hw446_2)).trans hw446_2), ((HB.out.cell (World.block_lt_of_cell? w _ hw446_3)).trans hw446_3)⟩ (fun hHeld => ?_)
         clear hK K
         refine no_ ?_
         refine one_ (i := 12) (N := some 26) (fl 30 65527807) rfl rfl (one_of HT_.out (by kernel_rfl)) (by decide) (fun K hK => ?_)
         refine goes_ Try.func57 (by kernel_rfl) rfl #[.int .i64 ((rd_T62 l0 x4_1).f1), .int .i64 1] (by rfl) rfl rfl ar_ ?_
         with_reducible refine (emulatorref03_Put.calls k1 ((rd_T62 l0 x4_1).f1) 1 t443 _ A7.out).mono ?_
         rintro e w16 ⟨rfl, hb⟩
         refine ⟨_, rfl, ?_⟩
         have n0_ := Aside0.mk (below_step hb_ hb)
         clear HB
         have HB := n0_
         clear n0_
         (try clear hb); (try clear hb2); (try clear hk); (try clear hi)
         refine hK.out _ _ ⟨((HB.out.cell (World.block_lt_of_cell? w _ hw440_0)).trans hw440_0), ((HB.out.cell (World.block_lt_of_cell? w _ hw440_1)).trans hw440_1), ((HB.out.cell (World.block_lt_of_cell? w _ hw440_2)).trans hw440_2), ((HB.out.cell (World.block_lt_of_cell? w _ hw440_3)).trans hw440_3), ((HB.out.cell (World.block_lt_of_cell? w _ hw442_0)).trans hw442_0), ((HB.out.cell (World.block_lt_of_cell? w _ hw442_1)).trans hw442_1), ((HB.out.cell (World.block_lt_of_cell? w _ hw442_2)).trans hw442_2), ((HB.out.cell (World.block_lt_of_cell? w _ hw442_3)).trans hw442_3), ((HB.out.cell (World.block_lt_of_cell? w _ hw444_0)).trans hw444_0), ((HB.out.cell (World.block_lt_of_cell? w _ hw444_1)).trans hw444_1), ((HB.out.cell (World.block_lt_of_cell? w _ hw444_2)).trans hw444_2), ((HB.out.cell (World.block_lt_of_cell? w _ hw444_3)).trans hw444_3), ((HB.out.cell (World.block_lt_of_cell? w _ hw446_0)).trans hw446_0), ((HB.out.cell (World.block_lt_of_cell? w _ hw446_1)).trans hw446_1), ((HB.out.cell (World.block_lt_of_cell? w _ hw446_2)).trans hw446_2), ((HB.out.cell (World.block_lt_of_cell? w _ hw446_3)).trans hw446_3)⟩ (fun hHeld => ?_)
         clear hK K
         refine no_ ?_
         refine pu_ 13 (some 27) (fl 30 65535999) rfl rfl HT_ ?_
         refine one_ (i := 19) (N := some 33) (fl 30 66060287) rfl rfl (one_of HT_.out (by kernel_rfl)) (by decide) (fun K hK => ?_)
         refine goes_ Try.func57 (by kernel_rfl) rfl #[.int .i64 ((rd_T62 l0 x4_1).f2), .int .i64 2] (by rfl) rfl rfl ar_ ?_
         with_reducible refine (emulatorref03_Put.calls k1 ((rd_T62 l0 x4_1).f2) 2 t445 _ A9.out).mono ?_
         rintro e w17 ⟨rfl, hb⟩
         refine ⟨_, rfl, ?_⟩
         have n0_ := Aside0.mk (below_step hb_ hb)
         clear HB
         have HB := n0_
         clear n0_
         (try clear hb); (try clear hb2); (try clear hk); (try clear hi)
         refine hK.out _ _ ⟨((HB.out.cell (World.block_lt_of_cell? w _ hw440_0)).trans hw440_0), ((HB.out.cell (World.block_lt_of_cell? w _ hw440_1)).trans hw440_1), ((HB.out.cell (World.block_lt_of_cell? w _ hw440_2)).trans hw440_2), ((HB.out.cell (World.block_lt_of_cell? w _ hw440_3)).trans hw440_3), ((HB.out.cell (World.block_lt_of_cell? w _ hw442_0)).trans hw442_0), ((HB.out.cell (World.block_lt_of_cell? w _ hw442_1)).trans hw442_1), ((HB.out.cell (World.block_lt_of_cell? w _ hw442_2)).trans hw442_2), ((HB.out.cell (World.block_lt_of_cell? w _ hw442_3)).trans hw442_3), ((HB.out.cell (World.block_lt_of_cell? w _ hw444_0)).trans hw444_0), ((HB.out.cell (World.block_lt_of_cell? w _ hw444_1)).trans hw444_1), ((HB.out.cell (World.block_lt_of_cell? w _ hw444_2)).trans hw444_2), ((HB.out.cell (World.block_lt_of_cell? w _ hw444_3)).trans hw444_3), ((HB.out.cell (World.block_lt_of_cell? w _ hw446_0)).trans hw446_0), ((HB.out.cell (World.block_lt_of_cell? w _ hw446_1)).trans hw446_1), ((HB.out.cell (World.block_lt_of_cell? w _ hw446_2)).trans hw446_2), ((HB.out.cell (World.block_lt_of_cell? w _ hw446_3)).trans hw446_3)⟩ (fun hHeld => ?_)
         clear hK K
         refine no_ ?_
         refine pu_ 20 (some 34) (fl 30 67108863) rfl rfl HT_ ?_
         refine one_ (i := 26) (N := some 40) (fl 30 134217727) rfl rfl (one_of HT_.out (by kernel_rfl)) (by decide) (fun K hK => ?_)
         refine goes_ Try.func59 (by kernel_rfl) rfl #[.bool ((rd_T62 l0 x4_1).f3)] (by rfl) rfl rfl ar_ ?_
         with_reducible refine (emulatorref28_bit.calls k1 ((rd_T62 l0 x4_1).f3) t447 _ A11.out).mono ?_
         rintro e w18 ⟨rfl, hb⟩
         refine ⟨_, rfl, ?_⟩
         have n0_ := Aside0.mk (below_step hb_ hb)
         clear HB
         have HB := n0_
         clear n0_
         (try clear hb); (try clear hb2); (try clear hk); (try clear hi)
         refine hK.out _ _ ⟨((HB.out.cell (World.block_lt_of_cell? w _ hw440_0)).trans hw440_0), ((HB.out.cell (World.block_lt_of_cell? w _ hw440_1)).trans hw440_1), ((HB.out.cell (World.block_lt_of_cell? w _ hw440_2)).trans hw440_2), ((HB.out.cell (World.block_lt_of_cell? w _ hw440_3)).trans hw440_3), ((HB.out.cell (World.block_lt_of_cell? w _ hw442_0)).trans hw442_0), ((HB.out.cell (World.block_lt_of_cell? w _ hw442_1)).trans hw442_1), ((HB.out.cell (World.block_lt_of_cell? w _ hw442_2)).trans hw442_2), ((HB.out.cell (World.block_lt_of_cell? w _ hw442_3)).trans hw442_3), ((HB.out.cell (World.block_lt_of_cell? w _ hw444_0)).trans hw444_0), ((HB.out.cell (World.block_lt_of_cell? w _ hw444_1)).trans hw444_1), ((HB.out.cell (World.block_lt_of_cell? w _ hw444_2)).trans hw444_2), ((HB.out.cell (World.block_lt_of_cell? w _ hw444_3)).trans hw444_3), ((HB.out.cell (World.block_lt_of_cell? w _ hw446_0)).trans hw446_0), ((HB.out.cell (World.block_lt_of_cell? w _ hw446_1)).trans hw446_1), ((HB.out.cell (World.block_lt_of_cell? w _ hw446_2)).trans hw446_2), ((HB.out.cell (World.block_lt_of_cell? w _ hw446_3)).trans hw446_3)⟩ (fun hHeld => ?_)
         clear hK K
         refine no_ ?_
         refine pu_ 27 (some 41) (fl 30 268435455) rfl rfl HT_ ?_
         refine pu_ 28 (some 42) (fl 30 536870911) rfl rfl HT_ ?_
         refine pu_ 29 (some 3) (fl 30 1073741823) rfl rfl HT_ ?_
         refine done_ (done_of HT_.out (by kernel_rfl)) ?_
         try go_wp2
         go_roundg k1
         case measure => have := HK1.out; omega
         case rel => exact ⟨(x3_1 ++ (((t441 ++ t443) ++ t445) ++ t447)), (wrap64 (x4_1 + 1)), cl_, cl_, H', ⟨by have := HK1.out; omega⟩, ⟨hb_⟩⟩
        ·rw [if_neg c13] at H
         exact absurd H (by simp)
       ·rw [if_neg c12] at H
        exact absurd H (by simp)
      ·rw [if_neg c10] at H
       exact absurd H (by simp)
     ·rw [if_neg c8] at H
      exact absurd H (by simp)
    ·rw [if_neg c5] at H
     exact absurd H (by simp)
   ·rw [if_neg c4] at H
    have c4b0 : decide (x4_1 < (l0.length : Int)) = false := decide_eq_false c4
    clear c4
    obtain rfl := Option.some.inj H
    go_wp2
    go_ret
    exact ⟨ew_, hb_⟩
end Go.Proofs.Ytenlmckahaniiaa.K
end
