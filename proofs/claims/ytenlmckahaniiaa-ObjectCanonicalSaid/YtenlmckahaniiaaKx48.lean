-- Printed by a program of this session out of Lean's print of the translation. Lean checks it.
import Derived.Test.YtenlmckahaniiaaKx0
import Derived.Test.YtenlmckahaniiaaKx8
import Derived.Test.YtenlmckahaniiaaKx18
import Derived.Test.YtenlmckahaniiaaKx22
import Derived.Test.YtenlmckahaniiaaKx32
import Derived.Test.YtenlmckahaniiaaKx35
namespace Go.Proofs.Ytenlmckahaniiaa.K
open Go.RowKit Go.Proofs.YtenlmckahaniiaaW.PrintWords Go.Proofs.YtenlmckahaniiaaW.PrintLast
set_option linter.unusedVariables false
set_option linter.unusedSimpArgs false

/-! ### emulatorlaw28_ObjectCanonical: function 7 -/
def emulatorlaw28_ObjectCanonical.f (k : Nat) (a0 : ByteArray) : Option (Bool) := if (a0.size : Int) > 3000 then ((emulatorlaw28_alive.f k).bind fun t626 => (some t626)) else ((emulatorref03_Seal.f k a0).bind fun t627 => ((object_Decode.f k t627).bind fun bt628 => (if bt628.2.2.2.2.2.2 = 0 then ((object_Encode.f k bt628.1 bt628.2.1 bt628.2.2.1 bt628.2.2.2.1 bt628.2.2.2.2.1 bt628.2.2.2.2.2.1).bind fun bt640 => (if bt640.2 = 0 then (if bt640.1.toList = t627.toList then ((object_Check.f k bt628.1 bt628.2.1 bt628.2.2.1 bt628.2.2.2.1 bt628.2.2.2.2.1 bt628.2.2.2.2.2.1).bind fun t642 => (if t642 = 0 then ((emulatorlaw28_alive.f k).bind fun t643 => (some t643)) else (none))) else (none)) else (none))) else ((emulatorlaw28_alive.f k).bind fun t644 => (some t644)))))
theorem emulatorlaw28_ObjectCanonical.mono : ∀ a0 k, LeO (emulatorlaw28_ObjectCanonical.f k a0) (emulatorlaw28_ObjectCanonical.f (k + 1) a0) := by
 intro a0 k
 unfold emulatorlaw28_ObjectCanonical.f
 repeat' first
   | (with_reducible exact emulatorlaw28_alive.mono _)
   | (with_reducible exact emulatorref03_Seal.mono _ _)
   | (with_reducible exact object_Check.mono _ _ _ _ _ _ _)
   | (with_reducible exact object_Decode.mono _ _)
   | (with_reducible exact object_Encode.mono _ _ _ _ _ _ _)
   | (with_reducible exact LeO.refl _)
   | (with_reducible exact LeO.none _)
   | (with_reducible refine LeO.ite ?_ ?_)
   | (with_reducible refine LeO.bind ?_ (fun _ => ?_))
   | exact emulatorlaw28_alive.mono _
   | exact emulatorref03_Seal.mono _ _
   | exact object_Check.mono _ _ _ _ _ _ _
   | exact object_Decode.mono _ _
   | exact object_Encode.mono _ _ _ _ _ _ _
   | exact LeO.none _
   | refine LeO.ite ?_ ?_
   | refine LeO.bind ?_ (fun _ => ?_)
set_option maxHeartbeats 8000000 in
set_option maxRecDepth 100000 in
theorem emulatorlaw28_ObjectCanonical.calls (k : Nat) (a0 : ByteArray) (r : Bool) (w : World) (h : emulatorlaw28_ObjectCanonical.f k a0 = some r) :
  Calls Try.prog 7 #[.string a0] w fun e w' => e = .returned (.bool r) ∧ Below w.heap.size w w' := by
 have hu25 := Try.underlying25
 have HB := Aside0.mk (Below.refl w.heap.size w)
 have H : (if (a0.size : Int) > 3000 then ((emulatorlaw28_alive.f k).bind fun t626 => (some t626)) else ((emulatorref03_Seal.f k a0).bind fun t627 => ((object_Decode.f k t627).bind fun bt628 => (if bt628.2.2.2.2.2.2 = 0 then ((object_Encode.f k bt628.1 bt628.2.1 bt628.2.2.1 bt628.2.2.2.1 bt628.2.2.2.2.1 bt628.2.2.2.2.2.1).bind fun bt640 => (if bt640.2 = 0 then (if bt640.1.toList = t627.toList then ((object_Check.f k bt628.1 bt628.2.1 bt628.2.2.1 bt628.2.2.2.1 bt628.2.2.2.2.1 bt628.2.2.2.2.2.1).bind fun t642 => (if t642 = 0 then ((emulatorlaw28_alive.f k).bind fun t643 => (some t643)) else (none))) else (none)) else (none))) else ((emulatorlaw28_alive.f k).bind fun t644 => (some t644)))))) = some r := h
 clear h
 by_cases c2 : (a0.size : Int) > 3000
 ·rw [if_pos c2] at H
  have c2b0 : decide (3000 < (a0.size : Int)) = true := decide_eq_true c2
  have c2b1 : decide (3000 < a0.size) = true := decide_eq_true (by omega)
  clear c2
  replace H := Option.bind_eq_some_iff.mp H
  obtain ⟨t626, A30, H⟩ := H
  (try dsimp only at H)
  have A3 := Aside0.mk A30
  clear A30
  obtain rfl := Option.some.inj H
  go_enter Try.func7, Try.ntmps7
  go_wp2_with (first | ((with_reducible refine gate_callee (f := 20) rfl ?_); refine goesL_ (some 11) rfl rfl Try.func20 (by kernel_rfl) rfl #[] rfl ar_ ?_; (with_reducible refine (emulatorlaw28_alive.calls k  t626 _ A3.out).mono ?_); rintro e w4 ⟨rfl, hb⟩; refine ⟨_, rfl, ?_⟩; have n0_ := Aside0.mk (below_step hb_ hb); clear HB; have HB := n0_; clear n0_; (try clear hb); (try clear hb2); (try clear hk); (try clear hi)))
  go_ret
  exact ⟨ew_, hb_⟩
 ·rw [if_neg c2] at H
  have c2b0 : decide (3000 < (a0.size : Int)) = false := decide_eq_false c2
  have c2b1 : decide (3000 < a0.size) = false := decide_eq_false (by omega)
  clear c2
  replace H := Option.bind_eq_some_iff.mp H
  obtain ⟨t627, A50, H⟩ := H
  (try dsimp only at H)
  have A5 := Aside0.mk A50
  clear A50
  replace H := Option.bind_eq_some_iff.mp H
  obtain ⟨⟨t628, t629, t630, t631, t632, t635, t638⟩, A60, H⟩ := H
  (try dsimp only at H)
  have A6 := Aside0.mk A60
  clear A60
  by_cases c7 : t638 = 0
  ·rw [if_pos c7] at H
   have c7b0 : (t638 == 0) = true := beq_iff_eq.mpr c7
   have c7b1 : (t638 != 0) = false := bne_eq_false_iff_eq.mpr c7
   clear c7
   replace H := Option.bind_eq_some_iff.mp H
   obtain ⟨⟨t640, t641⟩, A80, H⟩ := H
   (try dsimp only at H)
   have A8 := Aside0.mk A80
   clear A80
   by_cases c9 : t641 = 0
   ·rw [if_pos c9] at H
    have c9b0 : (t641 == 0) = true := beq_iff_eq.mpr c9
    have c9b1 : (t641 != 0) = false := bne_eq_false_iff_eq.mpr c9
    clear c9
    by_cases c10 : t640.toList = t627.toList
    ·rw [if_pos c10] at H
     have c10b0 : (t640.toList == t627.toList) = true := beq_iff_eq.mpr c10
     have c10b1 : (t640.toList != t627.toList) = false := bne_eq_false_iff_eq.mpr c10
     clear c10
     replace H := Option.bind_eq_some_iff.mp H
     obtain ⟨t642, A110, H⟩ := H
     (try dsimp only at H)
     have A11 := Aside0.mk A110
     clear A110
     by_cases c12 : t642 = 0
     ·rw [if_pos c12] at H
      have c12b0 : (t642 == 0) = true := beq_iff_eq.mpr c12
      have c12b1 : (t642 != 0) = false := bne_eq_false_iff_eq.mpr c12
      clear c12
      replace H := Option.bind_eq_some_iff.mp H
      obtain ⟨t643, A130, H⟩ := H
      (try dsimp only at H)
      have A13 := Aside0.mk A130
      clear A130
      obtain rfl := Option.some.inj H
      go_enter Try.func7, Try.ntmps7
      go_wp2_with (first | ((with_reducible refine gate_callee (f := 23) rfl ?_); refine goesL_ (some 13) rfl rfl Try.func23 (by kernel_rfl) rfl #[.string a0] rfl ar_ ?_; (with_reducible refine (emulatorref03_Seal.calls k a0 t627 _ A5.out).mono ?_); rintro e w14 ⟨rfl, hb⟩; refine ⟨_, rfl, ?_⟩; have n0_ := Aside0.mk (below_step hb_ hb); clear HB; have HB := n0_; clear n0_; (try clear hb); (try clear hb2); (try clear hk); (try clear hi)) | ((with_reducible refine gate_callee (f := 24) rfl ?_); refine goesL_ (some 16) rfl rfl Try.func24 (by kernel_rfl) rfl #[.string t627] rfl ar_ ?_; (with_reducible refine (object_Decode.calls k t627 t628 t629 t630 t631 t632 t635 t638 _ A6.out).mono ?_); rintro e w15 ⟨v633, v636, rfl, ho0, ho1, hb⟩; refine ⟨_, rfl, ?_⟩; have n0_ := Aside0.mk (Kd.R_lower ho0 (below_size hb_)); have n1_ := Aside0.mk (Kd.R_lower ho1 (below_size hb_)); have n2_ := Aside0.mk (below_step hb_ hb); clear HB; have HO634 := n0_; have HO637 := n1_; have HB := n2_; clear n0_ n1_ n2_; (try clear hb); (try clear hb2); (try clear hk); (try clear hi); (try clear ho0); (try clear ho1)) | ((with_reducible refine gate_dst (N := 4) rfl ?_); refine box_event ?hg (N := 4) ?hd (cs := #[.string (⟨#[]⟩ : ByteArray), .string (⟨#[]⟩ : ByteArray), .string (⟨#[]⟩ : ByteArray), .int .i64 0, .slice none 0 0, .slice none 0 0]) (t := 25) ?hr ?_; (case hd => rfl); (case hg => rfl); (case hr => first | (go_simp; done) | (go_simp; rfl)); intro gb639 hg w16 hbox hb; have n0_ := Aside0.mk (Kd.R_below (rk_ HO634.out) hb); have n1_ := Aside0.mk (Kd.R_below (rk_ HO637.out) hb); have n2_ := Aside0.mk (below_step hb_ hb); have n3_ := Aside0.mk (hbox); have n4_ := Aside0.mk ((by rw [hg]; exact (below_size hb_) : w.heap.size ≤ gb639)); have n5_ := Aside0.mk ((by rw [hg]; exact (below_size hb_) : w.heap.size ≤ gb639)); clear HO634 HO637 HB; have HO634 := n0_; have HO637 := n1_; have HB := n2_; have BK639 := n3_; have GW639 := n4_; have GE639 := n5_; clear n0_ n1_ n2_ n3_ n4_ n5_; clear hb hbox hg; have hcz17_0 : w16.cell? ⟨gb639, 0, none⟩ = some (.string (⟨#[]⟩ : ByteArray)) := (blk_cell BK639.out 0).trans rfl; have hcz17_1 : w16.cell? ⟨gb639, 1, none⟩ = some (.string (⟨#[]⟩ : ByteArray)) := (blk_cell BK639.out 1).trans rfl; have hcz17_2 : w16.cell? ⟨gb639, 2, none⟩ = some (.string (⟨#[]⟩ : ByteArray)) := (blk_cell BK639.out 2).trans rfl; have hcz17_3 : w16.cell? ⟨gb639, 3, none⟩ = some (.int .i64 0) := (blk_cell BK639.out 3).trans rfl; have hcz17_4 : w16.cell? ⟨gb639, 4, none⟩ = some (.slice none 0 0) := (blk_cell BK639.out 4).trans rfl; have hcz17_5 : w16.cell? ⟨gb639, 5, none⟩ = some (.slice none 0 0) := (blk_cell BK639.out 5).trans rfl; have hfz17_0 := blk_frozen BK639.out 0; have hfz17_1 := blk_frozen BK639.out 1; have hfz17_2 := blk_frozen BK639.out 2; have hfz17_3 := blk_frozen BK639.out 3; have hfz17_4 := blk_frozen BK639.out 4; have hfz17_5 := blk_frozen BK639.out 5; obtain ⟨Ao18, co18, eo18⟩ := Kd.R_slice HO634.out; subst eo18; obtain ⟨Ao19, co19, eo19⟩ := Kd.R_slice HO637.out; subst eo19) | ((with_reducible refine gate_callee (f := 21) rfl ?_); refine goesL_ (some 24) rfl rfl Try.func21 (by kernel_rfl) rfl #[.agg #[.string t628, .string t629, .string t630, .int .i64 t631, .slice Ao18 t632.length co18, .slice Ao19 t635.length co19]] rfl ar_ ?_; (with_reducible refine (object_Encode.calls k t628 t629 t630 t631 _ _ t632 _ _ t635 t640 t641 _ ?side1 ?side2 ?side3 ?side4 A8.out).mono ?_); (case side1 => refine (Kd.R_reads' (e := 62) (base := w.heap.size) (ok := fun k_ => True) (n := t632.length) (c := co18) ?_).2.2; exact (by (with_reducible repeat (first | apply Kd.R_alloc | apply Kd.R_drewN | apply Kd.R_drew)); exact (Kd.R_mono (Kd.R_far (p := ⟨gb639, 5, none⟩) (Kd.R_far (p := ⟨gb639, 4, none⟩) (Kd.R_far (p := ⟨gb639, 3, none⟩) (Kd.R_far (p := ⟨gb639, 2, none⟩) (Kd.R_far (p := ⟨gb639, 1, none⟩) (Kd.R_far (p := ⟨gb639, 0, none⟩) (Kd.R_types HO634.out BK639.out (by decide)) (fun _ hk => hk.2) (.string t628)) (fun _ hk => hk.2) (.string t629)) (fun _ hk => hk.2) (.string t630)) (fun _ hk => hk.2) (.int .i64 t631)) (fun _ hk => hk.2) (.slice Ao18 t632.length co18)) (fun _ hk => hk.2) (.slice Ao19 t635.length co19)) (fun _ h_ => h_.1)))); (case side2 => exact (Kd.R_reads' HO634.out).2.1); (case side3 => refine (Kd.R_reads' (e := 43) (base := w.heap.size) (ok := fun k_ => True) (n := t635.length) (c := co19) ?_).2.2; exact (by (with_reducible repeat (first | apply Kd.R_alloc | apply Kd.R_drewN | apply Kd.R_drew)); exact (Kd.R_mono (Kd.R_far (p := ⟨gb639, 5, none⟩) (Kd.R_far (p := ⟨gb639, 4, none⟩) (Kd.R_far (p := ⟨gb639, 3, none⟩) (Kd.R_far (p := ⟨gb639, 2, none⟩) (Kd.R_far (p := ⟨gb639, 1, none⟩) (Kd.R_far (p := ⟨gb639, 0, none⟩) (Kd.R_types HO637.out BK639.out (by decide)) (fun _ hk => hk.2) (.string t628)) (fun _ hk => hk.2) (.string t629)) (fun _ hk => hk.2) (.string t630)) (fun _ hk => hk.2) (.int .i64 t631)) (fun _ hk => hk.2) (.slice Ao18 t632.length co18)) (fun _ hk => hk.2) (.slice Ao19 t635.length co19)) (fun _ h_ => h_.1)))); (case side4 => exact (Kd.R_reads' HO637.out).2.1); rintro e w20 ⟨rfl, hb⟩; refine ⟨_, rfl, ?_⟩; have n0_ := Aside0.mk (Kd.R_below (by (with_reducible repeat (first | apply Kd.R_alloc | apply Kd.R_drewN | apply Kd.R_drew)); exact (Kd.R_mono (Kd.R_far (p := ⟨gb639, 5, none⟩) (Kd.R_far (p := ⟨gb639, 4, none⟩) (Kd.R_far (p := ⟨gb639, 3, none⟩) (Kd.R_far (p := ⟨gb639, 2, none⟩) (Kd.R_far (p := ⟨gb639, 1, none⟩) (Kd.R_far (p := ⟨gb639, 0, none⟩) (Kd.R_types HO634.out BK639.out (by decide)) (fun _ hk => hk.2) (.string t628)) (fun _ hk => hk.2) (.string t629)) (fun _ hk => hk.2) (.string t630)) (fun _ hk => hk.2) (.int .i64 t631)) (fun _ hk => hk.2) (.slice Ao18 t632.length co18)) (fun _ hk => hk.2) (.slice Ao19 t635.length co19)) (fun _ h_ => h_.1))) hb); have n1_ := Aside0.mk (Kd.R_below (by (with_reducible repeat (first | apply Kd.R_alloc | apply Kd.R_drewN | apply Kd.R_drew)); exact (Kd.R_mono (Kd.R_far (p := ⟨gb639, 5, none⟩) (Kd.R_far (p := ⟨gb639, 4, none⟩) (Kd.R_far (p := ⟨gb639, 3, none⟩) (Kd.R_far (p := ⟨gb639, 2, none⟩) (Kd.R_far (p := ⟨gb639, 1, none⟩) (Kd.R_far (p := ⟨gb639, 0, none⟩) (Kd.R_types HO637.out BK639.out (by decide)) (fun _ hk => hk.2) (.string t628)) (fun _ hk => hk.2) (.string t629)) (fun _ hk => hk.2) (.string t630)) (fun _ hk => hk.2) (.int .i64 t631)) (fun _ hk => hk.2) (.slice Ao18 t632.length co18)) (fun _ hk => hk.2) (.slice Ao19 t635.length co19)) (fun _ h_ => h_.1))) hb); have n2_ := Aside0.mk (blk_below (g := gb639) (o := .cells #[.string t628, .string t629, .string t630, .int .i64 t631, .slice Ao18 t632.length co18, .slice Ao19 t635.length co19] 25 (0, 0)) (by (with_reducible repeat (first | refine blk_drewN ?_ _ | refine blk_drew ?_ | refine blk_alloc ?_ _)); refine blk_put (cs := #[.string t628, .string t629, .string t630, .int .i64 t631, .slice Ao18 t632.length co18, .slice none 0 0]) ?_ 5 _ rfl; (with_reducible repeat (first | refine blk_drewN ?_ _ | refine blk_drew ?_ | refine blk_alloc ?_ _)); refine blk_put (cs := #[.string t628, .string t629, .string t630, .int .i64 t631, .slice none 0 0, .slice none 0 0]) ?_ 4 _ rfl; (with_reducible repeat (first | refine blk_drewN ?_ _ | refine blk_drew ?_ | refine blk_alloc ?_ _)); refine blk_put (cs := #[.string t628, .string t629, .string t630, .int .i64 0, .slice none 0 0, .slice none 0 0]) ?_ 3 _ rfl; (with_reducible repeat (first | refine blk_drewN ?_ _ | refine blk_drew ?_ | refine blk_alloc ?_ _)); refine blk_put (cs := #[.string t628, .string t629, .string (⟨#[]⟩ : ByteArray), .int .i64 0, .slice none 0 0, .slice none 0 0]) ?_ 2 _ rfl; (with_reducible repeat (first | refine blk_drewN ?_ _ | refine blk_drew ?_ | refine blk_alloc ?_ _)); refine blk_put (cs := #[.string t628, .string (⟨#[]⟩ : ByteArray), .string (⟨#[]⟩ : ByteArray), .int .i64 0, .slice none 0 0, .slice none 0 0]) ?_ 1 _ rfl; (with_reducible repeat (first | refine blk_drewN ?_ _ | refine blk_drew ?_ | refine blk_alloc ?_ _)); refine blk_put (cs := #[.string (⟨#[]⟩ : ByteArray), .string (⟨#[]⟩ : ByteArray), .string (⟨#[]⟩ : ByteArray), .int .i64 0, .slice none 0 0, .slice none 0 0]) ?_ 0 _ rfl; (with_reducible repeat (first | refine blk_drewN ?_ _ | refine blk_drew ?_ | refine blk_alloc ?_ _)); exact BK639.out) hb); have n3_ := Aside0.mk (below_step hb_ hb); clear HO634 HO637 BK639 HB; have HO634 := n0_; have HO637 := n1_; have BK639 := n2_; have HB := n3_; clear n0_ n1_ n2_ n3_; (try clear hb); (try clear hb2); (try clear hk); (try clear hi); have hcz21_0 : w20.cell? ⟨gb639, 0, none⟩ = some (.string t628) := (blk_cell BK639.out 0).trans rfl; have hcz21_1 : w20.cell? ⟨gb639, 1, none⟩ = some (.string t629) := (blk_cell BK639.out 1).trans rfl; have hcz21_2 : w20.cell? ⟨gb639, 2, none⟩ = some (.string t630) := (blk_cell BK639.out 2).trans rfl; have hcz21_3 : w20.cell? ⟨gb639, 3, none⟩ = some (.int .i64 t631) := (blk_cell BK639.out 3).trans rfl; have hcz21_4 : w20.cell? ⟨gb639, 4, none⟩ = some (.slice Ao18 t632.length co18) := (blk_cell BK639.out 4).trans rfl; have hcz21_5 : w20.cell? ⟨gb639, 5, none⟩ = some (.slice Ao19 t635.length co19) := (blk_cell BK639.out 5).trans rfl; have hfz21_0 := blk_frozen BK639.out 0; have hfz21_1 := blk_frozen BK639.out 1; have hfz21_2 := blk_frozen BK639.out 2; have hfz21_3 := blk_frozen BK639.out 3; have hfz21_4 := blk_frozen BK639.out 4; have hfz21_5 := blk_frozen BK639.out 5) | (go_at_call 18; (with_reducible refine (object_Check.calls k t628 t629 t630 t631 _ _ t632 _ _ t635 t642 _ ?side1 ?side2 ?side3 ?side4 A11.out).mono ?_); (case side1 => repeat (first | exact (Kd.R_reads' HO634.out).2.2 | (with_reducible refine Kd.C_alloc ?_ _) | (with_reducible refine Kd.C_drewN ?_ _) | (with_reducible refine Kd.C_drew ?_))); (case side2 => exact (Kd.R_reads' HO634.out).2.1); (case side3 => repeat (first | exact (Kd.R_reads' HO637.out).2.2 | (with_reducible refine Kd.C_alloc ?_ _) | (with_reducible refine Kd.C_drewN ?_ _) | (with_reducible refine Kd.C_drew ?_))); (case side4 => exact (Kd.R_reads' HO637.out).2.1); rintro e w22 ⟨rfl, hb⟩; have n0_ := Aside0.mk (Kd.R_below (rk_ HO634.out) hb); have n1_ := Aside0.mk (Kd.R_below (rk_ HO637.out) hb); have n2_ := Aside0.mk (blk_below (g := gb639) (o := .cells #[.string t628, .string t629, .string t630, .int .i64 t631, .slice Ao18 t632.length co18, .slice Ao19 t635.length co19] 25 (0, 0)) (bk_ BK639.out) hb); have n3_ := Aside0.mk (below_step hb_ hb); clear HO634 HO637 BK639 HB; have HO634 := n0_; have HO637 := n1_; have BK639 := n2_; have HB := n3_; clear n0_ n1_ n2_ n3_; (try clear hb); (try clear hb2); (try clear hk); (try clear hi)) | (go_at_call 20; (with_reducible refine (emulatorlaw28_alive.calls k  t643 _ A13.out).mono ?_); rintro e w23 ⟨rfl, hb⟩; have n0_ := Aside0.mk (Kd.R_below (rk_ HO634.out) hb); have n1_ := Aside0.mk (Kd.R_below (rk_ HO637.out) hb); have n2_ := Aside0.mk (blk_below (g := gb639) (o := .cells #[.string t628, .string t629, .string t630, .int .i64 t631, .slice Ao18 t632.length co18, .slice Ao19 t635.length co19] 25 (0, 0)) (bk_ BK639.out) hb); have n3_ := Aside0.mk (below_step hb_ hb); clear HO634 HO637 BK639 HB; have HO634 := n0_; have HO637 := n1_; have BK639 := n2_; have HB := n3_; clear n0_ n1_ n2_ n3_; (try clear hb); (try clear hb2); (try clear hk); (try clear hi)))
      go_ret
      exact ⟨ew_, hb_⟩
     ·rw [if_neg c12] at H
      exact absurd H (by simp)
    ·rw [if_neg c10] at H
     exact absurd H (by simp)
   ·rw [if_neg c9] at H
    exact absurd H (by simp)
  ·rw [if_neg c7] at H
   have c7b0 : (t638 == 0) = false := beq_eq_false_iff_ne.mpr c7
   have c7b1 : (t638 != 0) = true := bne_iff_ne.mpr c7
   replace H := Option.bind_eq_some_iff.mp H
   obtain ⟨t644, A240, H⟩ := H
   (try dsimp only at H)
   have A24 := Aside0.mk A240
   clear A240
   obtain rfl := Option.some.inj H
   go_enter Try.func7, Try.ntmps7
   go_wp2_with (first | ((with_reducible refine gate_callee (f := 23) rfl ?_); refine goesL_ (some 13) rfl rfl Try.func23 (by kernel_rfl) rfl #[.string a0] rfl ar_ ?_; (with_reducible refine (emulatorref03_Seal.calls k a0 t627 _ A5.out).mono ?_); rintro e w25 ⟨rfl, hb⟩; refine ⟨_, rfl, ?_⟩; have n0_ := Aside0.mk (below_step hb_ hb); clear HB; have HB := n0_; clear n0_; (try clear hb); (try clear hb2); (try clear hk); (try clear hi)) | ((with_reducible refine gate_callee (f := 24) rfl ?_); refine goesL_ (some 16) rfl rfl Try.func24 (by kernel_rfl) rfl #[.string t627] rfl ar_ ?_; (with_reducible refine (object_Decode.calls k t627 t628 t629 t630 t631 t632 t635 t638 _ A6.out).mono ?_); rintro e w26 ⟨v633, v636, rfl, ho0, ho1, hb⟩; refine ⟨_, rfl, ?_⟩; have n0_ := Aside0.mk (Kd.R_lower ho0 (below_size hb_)); have n1_ := Aside0.mk (Kd.R_lower ho1 (below_size hb_)); have n2_ := Aside0.mk (below_step hb_ hb); clear HB; have HO634 := n0_; have HO637 := n1_; have HB := n2_; clear n0_ n1_ n2_; (try clear hb); (try clear hb2); (try clear hk); (try clear hi); (try clear ho0); (try clear ho1)) | ((with_reducible refine gate_dst (N := 4) rfl ?_); refine box_event ?hg (N := 4) ?hd (cs := #[.string (⟨#[]⟩ : ByteArray), .string (⟨#[]⟩ : ByteArray), .string (⟨#[]⟩ : ByteArray), .int .i64 0, .slice none 0 0, .slice none 0 0]) (t := 25) ?hr ?_; (case hd => rfl); (case hg => rfl); (case hr => first | (go_simp; done) | (go_simp; rfl)); intro gb639 hg w27 hbox hb; have n0_ := Aside0.mk (Kd.R_below (rk_ HO634.out) hb); have n1_ := Aside0.mk (Kd.R_below (rk_ HO637.out) hb); have n2_ := Aside0.mk (below_step hb_ hb); have n3_ := Aside0.mk (hbox); have n4_ := Aside0.mk ((by rw [hg]; exact (below_size hb_) : w.heap.size ≤ gb639)); have n5_ := Aside0.mk ((by rw [hg]; exact (below_size hb_) : w.heap.size ≤ gb639)); clear HO634 HO637 HB; have HO634 := n0_; have HO637 := n1_; have HB := n2_; have BK639 := n3_; have GW639 := n4_; have GE639 := n5_; clear n0_ n1_ n2_ n3_ n4_ n5_; clear hb hbox hg; have hcz28_0 : w27.cell? ⟨gb639, 0, none⟩ = some (.string (⟨#[]⟩ : ByteArray)) := (blk_cell BK639.out 0).trans rfl; have hcz28_1 : w27.cell? ⟨gb639, 1, none⟩ = some (.string (⟨#[]⟩ : ByteArray)) := (blk_cell BK639.out 1).trans rfl; have hcz28_2 : w27.cell? ⟨gb639, 2, none⟩ = some (.string (⟨#[]⟩ : ByteArray)) := (blk_cell BK639.out 2).trans rfl; have hcz28_3 : w27.cell? ⟨gb639, 3, none⟩ = some (.int .i64 0) := (blk_cell BK639.out 3).trans rfl; have hcz28_4 : w27.cell? ⟨gb639, 4, none⟩ = some (.slice none 0 0) := (blk_cell BK639.out 4).trans rfl; have hcz28_5 : w27.cell? ⟨gb639, 5, none⟩ = some (.slice none 0 0) := (blk_cell BK639.out 5).trans rfl; have hfz28_0 := blk_frozen BK639.out 0; have hfz28_1 := blk_frozen BK639.out 1; have hfz28_2 := blk_frozen BK639.out 2; have hfz28_3 := blk_frozen BK639.out 3; have hfz28_4 := blk_frozen BK639.out 4; have hfz28_5 := blk_frozen BK639.out 5; obtain ⟨Ao29, co29, eo29⟩ := Kd.R_slice HO634.out; subst eo29; obtain ⟨Ao30, co30, eo30⟩ := Kd.R_slice HO637.out; subst eo30) | ((with_reducible refine gate_callee (f := 20) rfl ?_); refine goesL_ (some 21) rfl rfl Try.func20 (by kernel_rfl) rfl #[] rfl ar_ ?_; (with_reducible refine (emulatorlaw28_alive.calls k  t644 _ A24.out).mono ?_); rintro e w31 ⟨rfl, hb⟩; refine ⟨_, rfl, ?_⟩; have n0_ := Aside0.mk (Kd.R_below (by (with_reducible repeat (first | apply Kd.R_alloc | apply Kd.R_drewN | apply Kd.R_drew)); exact (Kd.R_mono (Kd.R_far (p := ⟨gb639, 5, none⟩) (Kd.R_far (p := ⟨gb639, 4, none⟩) (Kd.R_far (p := ⟨gb639, 3, none⟩) (Kd.R_far (p := ⟨gb639, 2, none⟩) (Kd.R_far (p := ⟨gb639, 1, none⟩) (Kd.R_far (p := ⟨gb639, 0, none⟩) (Kd.R_types HO634.out BK639.out (by decide)) (fun _ hk => hk.2) (.string t628)) (fun _ hk => hk.2) (.string t629)) (fun _ hk => hk.2) (.string t630)) (fun _ hk => hk.2) (.int .i64 t631)) (fun _ hk => hk.2) (.slice Ao29 t632.length co29)) (fun _ hk => hk.2) (.slice Ao30 t635.length co30)) (fun _ h_ => h_.1))) hb); have n1_ := Aside0.mk (Kd.R_below (by (with_reducible repeat (first | apply Kd.R_alloc | apply Kd.R_drewN | apply Kd.R_drew)); exact (Kd.R_mono (Kd.R_far (p := ⟨gb639, 5, none⟩) (Kd.R_far (p := ⟨gb639, 4, none⟩) (Kd.R_far (p := ⟨gb639, 3, none⟩) (Kd.R_far (p := ⟨gb639, 2, none⟩) (Kd.R_far (p := ⟨gb639, 1, none⟩) (Kd.R_far (p := ⟨gb639, 0, none⟩) (Kd.R_types HO637.out BK639.out (by decide)) (fun _ hk => hk.2) (.string t628)) (fun _ hk => hk.2) (.string t629)) (fun _ hk => hk.2) (.string t630)) (fun _ hk => hk.2) (.int .i64 t631)) (fun _ hk => hk.2) (.slice Ao29 t632.length co29)) (fun _ hk => hk.2) (.slice Ao30 t635.length co30)) (fun _ h_ => h_.1))) hb); have n2_ := Aside0.mk (blk_below (g := gb639) (o := .cells #[.string t628, .string t629, .string t630, .int .i64 t631, .slice Ao29 t632.length co29, .slice Ao30 t635.length co30] 25 (0, 0)) (by (with_reducible repeat (first | refine blk_drewN ?_ _ | refine blk_drew ?_ | refine blk_alloc ?_ _)); refine blk_put (cs := #[.string t628, .string t629, .string t630, .int .i64 t631, .slice Ao29 t632.length co29, .slice none 0 0]) ?_ 5 _ rfl; (with_reducible repeat (first | refine blk_drewN ?_ _ | refine blk_drew ?_ | refine blk_alloc ?_ _)); refine blk_put (cs := #[.string t628, .string t629, .string t630, .int .i64 t631, .slice none 0 0, .slice none 0 0]) ?_ 4 _ rfl; (with_reducible repeat (first | refine blk_drewN ?_ _ | refine blk_drew ?_ | refine blk_alloc ?_ _)); refine blk_put (cs := #[.string t628, .string t629, .string t630, .int .i64 0, .slice none 0 0, .slice none 0 0]) ?_ 3 _ rfl; (with_reducible repeat (first | refine blk_drewN ?_ _ | refine blk_drew ?_ | refine blk_alloc ?_ _)); refine blk_put (cs := #[.string t628, .string t629, .string (⟨#[]⟩ : ByteArray), .int .i64 0, .slice none 0 0, .slice none 0 0]) ?_ 2 _ rfl; (with_reducible repeat (first | refine blk_drewN ?_ _ | refine blk_drew ?_ | refine blk_alloc ?_ _)); refine blk_put (cs := #[.string t628, .string (⟨#[]⟩ : ByteArray), .string (⟨#[]⟩ : ByteArray), .int .i64 0, .slice none 0 0, .slice none 0 0]) ?_ 1 _ rfl; (with_reducible repeat (first | refine blk_drewN ?_ _ | refine blk_drew ?_ | refine blk_alloc ?_ _)); refine blk_put (cs := #[.string (⟨#[]⟩ : ByteArray), .string (⟨#[]⟩ : ByteArray), .string (⟨#[]⟩ : ByteArray), .int .i64 0, .slice none 0 0, .slice none 0 0]) ?_ 0 _ rfl; (with_reducible repeat (first | refine blk_drewN ?_ _ | refine blk_drew ?_ | refine blk_alloc ?_ _)); exact BK639.out) hb); have n3_ := Aside0.mk (below_step hb_ hb); clear HO634 HO637 BK639 HB; have HO634 := n0_; have HO637 := n1_; have BK639 := n2_; have HB := n3_; clear n0_ n1_ n2_ n3_; (try clear hb); (try clear hb2); (try clear hk); (try clear hi)))
   go_ret
   exact ⟨ew_, hb_⟩

/-- THE ONE PURE STATEMENT of emulatorlaw28_ObjectCanonical: yours. -/
def emulatorlaw28_ObjectCanonical.Pure : Prop := ∀ (a0 : ByteArray), a0.size ≤ 140737488351232 → ∃ k, emulatorlaw28_ObjectCanonical.f k a0 = some true
theorem emulatorlaw28_ObjectCanonical.walk (P : emulatorlaw28_ObjectCanonical.Pure) (a0 : ByteArray) (w : World) (w0 : a0.size ≤ 140737488351232) :
  Calls Try.prog 7 #[.string a0] w fun e w' => e = .returned (.bool true) ∧ Below w.heap.size w w' := by
 obtain ⟨k, h⟩ := P a0 w0
 refine (emulatorlaw28_ObjectCanonical.calls k a0 true w h).mono ?_
 rintro e w' ⟨rfl, hd⟩
 exact ⟨rfl, hd⟩

-- NOT PRINTED: function 8 (emulatorlaw28_ObjectLess)

end Go.Proofs.Ytenlmckahaniiaa.K
