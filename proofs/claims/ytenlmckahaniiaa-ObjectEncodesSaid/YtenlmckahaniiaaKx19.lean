-- Printed by a program of this session out of Lean's print of the translation. Lean checks it.
import Derived.Test.YtenlmckahaniiaaKx0
import Derived.Test.YtenlmckahaniiaaKx14
import Derived.Test.YtenlmckahaniiaaKx15
namespace Go.Proofs.Ytenlmckahaniiaa.K
open Go.RowKit Go.Proofs.YtenlmckahaniiaaW.PrintWords Go.Proofs.YtenlmckahaniiaaW.PrintLast
set_option linter.unusedVariables false
set_option linter.unusedSimpArgs false

/-! ### octet_Open: function 61 -/
def octet_Open.f (k : Nat) (a0 : ByteArray) : Option (ByteArray × Int) := if (wrap64 ((a0.size : Int) - 4)) < 0 then (some ((⟨#[]⟩ : ByteArray), 8)) else (if 0 ≤ (wrap64 ((a0.size : Int) - 4)) then (if (wrap64 ((a0.size : Int) - 4)) ≤ (a0.size : Int) then ((octet_sum.f k (([a0.extract 0 ((wrap64 ((a0.size : Int) - 4)) : Int).toNat] : List ByteArray))).bind fun t178 => ((octet_Put.f k t178 4).bind fun t179 => (if (a0.extract ((wrap64 ((a0.size : Int) - 4)) : Int).toNat a0.size).toList = t179.toList then (some (a0.extract 0 ((wrap64 ((a0.size : Int) - 4)) : Int).toNat, 0)) else (some ((⟨#[]⟩ : ByteArray), 10))))) else (none)) else (none))
theorem octet_Open.mono : ∀ a0 k, LeO (octet_Open.f k a0) (octet_Open.f (k + 1) a0) := by
 intro a0 k
 unfold octet_Open.f
 repeat' first
   | (with_reducible exact octet_Put.mono _ _ _)
   | (with_reducible exact octet_sum.mono _ _)
   | (with_reducible exact LeO.refl _)
   | (with_reducible exact LeO.none _)
   | (with_reducible refine LeO.ite ?_ ?_)
   | (with_reducible refine LeO.bind ?_ (fun _ => ?_))
   | exact octet_Put.mono _ _ _
   | exact octet_sum.mono _ _
   | exact LeO.none _
   | refine LeO.ite ?_ ?_
   | refine LeO.bind ?_ (fun _ => ?_)
def octet_Open.T4 : Bool × List (List Nat × List Nat) := (true, [([], []), ([], []), ([0, 1], [0, 1]), ([], []), ([], []), ([3, 4], [3, 4]), ([5], [5]), ([6], [6]), ([7, 7], [7]), ([2, 8], [2, 8])])
def octet_Open.B4 : List Nat := [0, 0, 3, 0, 0, 24, 56, 120, 248, 511]
theorem octet_Open.tab4 : rtab .any (opsOf Try.f61 4) = octet_Open.T4 := by kernel_rfl
theorem octet_Open.bits4 : waitsOk octet_Open.T4.2 octet_Open.B4 = true := by kernel_rfl
set_option maxHeartbeats 8000000 in
set_option maxRecDepth 100000 in
theorem octet_Open.calls (k : Nat) (a0 : ByteArray) (r1 : ByteArray) (r2 : Int) (w : World) (h : octet_Open.f k a0 = some (r1, r2)) :
  Calls Try.prog 61 #[.string a0] w fun e w' => e = .returned (.tuple #[.string r1, .int .i64 r2]) ∧ Below w.heap.size w w' := by
 have HB := Aside0.mk (Below.refl w.heap.size w)
 have H : (if (wrap64 ((a0.size : Int) - 4)) < 0 then (some ((⟨#[]⟩ : ByteArray), 8)) else (if 0 ≤ (wrap64 ((a0.size : Int) - 4)) then (if (wrap64 ((a0.size : Int) - 4)) ≤ (a0.size : Int) then ((octet_sum.f k (([a0.extract 0 ((wrap64 ((a0.size : Int) - 4)) : Int).toNat] : List ByteArray))).bind fun t178 => ((octet_Put.f k t178 4).bind fun t179 => (if (a0.extract ((wrap64 ((a0.size : Int) - 4)) : Int).toNat a0.size).toList = t179.toList then (some (a0.extract 0 ((wrap64 ((a0.size : Int) - 4)) : Int).toNat, 0)) else (some ((⟨#[]⟩ : ByteArray), 10))))) else (none)) else (none))) = some (r1, r2) := h
 clear h
 by_cases c2 : (wrap64 ((a0.size : Int) - 4)) < 0
 ·rw [if_pos c2] at H
  have c2b0 : decide ((wrap64 ((a0.size : Int) - 4)) < 0) = true := decide_eq_true c2
  clear c2
  simp only [Option.some.injEq, Prod.mk.injEq] at H
  obtain ⟨rfl, rfl⟩ := H
  go_enter Try.func61, Try.ntmps61
  go_wp2
  go_ret2
  exact ⟨ew_, hb_⟩
 ·rw [if_neg c2] at H
  have c2b0 : decide ((wrap64 ((a0.size : Int) - 4)) < 0) = false := decide_eq_false c2
  clear c2
  obtain ⟨ji3, hji3⟩ : ∃ j_ : Int, (wrap64 ((a0.size : Int) - 4)) = j_ := ⟨_, rfl⟩
  replace H : (if 0 ≤ (ji3) then (if (ji3) ≤ (a0.size : Int) then ((octet_sum.f k (([a0.extract 0 ((ji3) : Int).toNat] : List ByteArray))).bind fun t178 => ((octet_Put.f k t178 4).bind fun t179 => (if (a0.extract ((ji3) : Int).toNat a0.size).toList = t179.toList then (some (a0.extract 0 ((ji3) : Int).toNat, 0)) else (some ((⟨#[]⟩ : ByteArray), 10))))) else (none)) else (none)) = some (r1, r2) := by first | (rw [hji3] at H; exact H) | (simp only [hji3] at H ⊢; exact H)
  (try rw [hji3] at c2b0)
  have hji3w : (IntKind.i64.wrap ((a0.size : Int) - 4)) = ji3 := (i64_w _).trans hji3
  by_cases c4 : 0 ≤ (ji3)
  ·rw [if_pos c4] at H
   have c4b0 := eq_true c4
   have c4b1 : decide (0 ≤ (ji3)) = true := decide_eq_true c4
   clear c4
   by_cases c5 : (ji3) ≤ (a0.size : Int)
   ·rw [if_pos c5] at H
    have c5b0 := eq_true c5
    have c5b1 : decide ((ji3) ≤ (a0.size : Int)) = true := decide_eq_true c5
    clear c5
    have c6b0 := eq_true (oa_ : 0 ≤ (ji3))
    have c7b0 := eq_true (oa_ : (ji3) ≤ (a0.size : Int))
    obtain ⟨y175, hy175⟩ : ∃ y_ : List ByteArray, y_ = (([a0.extract 0 ((ji3) : Int).toNat] : List ByteArray)) := ⟨_, rfl⟩
    replace H : ((octet_sum.f k y175).bind fun t178 => ((octet_Put.f k t178 4).bind fun t179 => (if (a0.extract ((ji3) : Int).toNat a0.size).toList = t179.toList then (some (a0.extract 0 ((ji3) : Int).toNat, 0)) else (some ((⟨#[]⟩ : ByteArray), 10))))) = some (r1, r2) := by first | (rw [hy175]; with_reducible exact H) | (have H2_ := (Option.bind_some _ _).symm.trans H; rw [hy175]; with_reducible exact H2_) | (have H2_ := (Option.bind_some _ _).symm.trans H; with_reducible exact H2_) | with_reducible exact H | (rw [hy175]; exact H) | exact H
    have Ny175 := Aside0.mk hy175
    clear hy175
    replace H := Option.bind_eq_some_iff.mp H
    obtain ⟨t178, A80, H⟩ := H
    (try dsimp only at H)
    have A8 := Aside0.mk A80
    clear A80
    replace H := Option.bind_eq_some_iff.mp H
    obtain ⟨t179, A90, H⟩ := H
    (try dsimp only at H)
    have A9 := Aside0.mk A90
    clear A90
    by_cases c10 : (a0.extract ((ji3) : Int).toNat a0.size).toList = t179.toList
    ·rw [if_pos c10] at H
     have c10b0 : ((a0.extract ((ji3) : Int).toNat a0.size).toList == t179.toList) = true := beq_iff_eq.mpr c10
     have c10b1 : ((a0.extract ((ji3) : Int).toNat a0.size).toList != t179.toList) = false := bne_eq_false_iff_eq.mpr c10
     clear c10
     have c11b0 := eq_true (oa_ : 0 ≤ (ji3))
     have c12b0 := eq_true (oa_ : (ji3) ≤ (a0.size : Int))
     simp only [Option.some.injEq, Prod.mk.injEq] at H
     obtain ⟨rfl, rfl⟩ := H
     go_enter Try.func61, Try.ntmps61
     try go_wp2
     have n0_ := Aside0.mk (below_drew1 HB.out)
     clear HB
     have HB := n0_
     clear n0_
     refine start_ (n := 10) (S := fun w' => True) (ds := []) #[false, false, false, false, false, false, false, false, false, false] (by kernel_rfl) rfl rfl trivial (fun hHeld => ?_); refine with_tabW octet_Open.tab4 octet_Open.bits4 (fun HT_ HW_ => ?_)
     generalize w.drew = w13 at HB hHeld ⊢
     refine pu_ 0 (some 10) (fl 10 1) rfl rfl HT_ ?_
     refine pu_ 1 (some 11) (fl 10 3) rfl rfl HT_ ?_
     refine pu_ 2 (some 12) (fl 10 7) rfl rfl HT_ ?_
     refine pu_ 3 (some 13) (fl 10 15) rfl rfl HT_ ?_
     refine pu_ 4 (some 14) (fl 10 31) rfl rfl HT_ ?_
     refine pu_ 5 (some 15) (fl 10 63) rfl rfl HT_ ?_
     refine one_ (i := 6) (N := some 16) (fl 10 127) rfl rfl (one_of HT_.out (by kernel_rfl)) (by decide) (fun K hK => ?_)
     refine Kd.R_lit_step Kd.string _ 9 ?hg (N := 16) ?hd (xs := ([a0.extract 0 ((ji3) : Int).toNat] : List ByteArray)) (inner := [.string (a0.extract 0 ((ji3) : Int).toNat)]) (ok := fun _ => True) (okp := fun _ => True) ?hr ?hp (fun _ hk => hk) trivial (Below.refl _ _) (Nat.le_refl _) (by simp) ?_; (case hd => rfl); (case hg => rfl); (case hr => first | (go_simp; done) | (go_simp; rfl)); (case hp => exact (Reps.one (show Kd.M Kd.string _ _ _ (a0.extract 0 ((ji3) : Int).toNat) [.string (a0.extract 0 ((ji3) : Int).toNat)] from rfl) (Reps.none _ _)))
     intro v176 w14 ho15 hb hg_ hnew_
     clear hg_ hnew_
     (first | rw [← Ny175.out] at ho15 | (simp only [Int.reduceToNat] at ho15; rw [← Ny175.out] at ho15))
     have n0_ := Aside0.mk (Kd.R_lower ho15 (below_size hb_))
     have n1_ := Aside0.mk (below_step hb_ hb)
     clear HB
     have HO177 := n0_; have HB := n1_
     clear n0_ n1_ hb ho15
     obtain ⟨Ao16, co16, eo16⟩ := Kd.R_slice HO177.out
     (first | subst eo16 | (injection eo16 with f1_ f2_ f3_; have f4_ := f1_.symm; have f5_ := f3_.symm; clear f1_ f2_ f3_; subst f4_; subst f5_))
     refine hK.out _ _ trivial (fun hHeld => ?_)
     clear hK K
     refine no_ ?_
     refine one_ (i := 7) (N := some 17) (fl 10 255) rfl rfl (one_of HT_.out (by kernel_rfl)) (by decide) (fun K hK => ?_)
     refine goes_ Try.func90 (by kernel_rfl) rfl #[.slice Ao16 y175.length co16] (by rfl) rfl rfl ar_ ?_
     with_reducible refine (octet_sum.calls k _ _ y175 t178 _ ?side1 ?side2 A8.out).mono ?_
     (case side1 => repeat (first | exact (Kd.R_reads' HO177.out).2.2 | (with_reducible refine Kd.C_alloc ?_ _) | (with_reducible refine Kd.C_drewN ?_ _) | (with_reducible refine Kd.C_drew ?_)))
     (case side2 => exact (Kd.R_reads' HO177.out).2.1)
     rintro e w' ⟨rfl, ⟨nd, rfl⟩⟩
     refine ⟨_, rfl, ?_⟩
     refine hK.out _ _ trivial (fun hHeld => ?_)
     clear hK K
     refine no_ ?_
     refine one_ (i := 8) (N := some 18) (fl 10 511) rfl rfl (one_of HT_.out (by kernel_rfl)) (by decide) (fun K hK => ?_)
     refine goes_ Try.func78 (by kernel_rfl) rfl #[.int .i64 t178, .int .i64 4] (by rfl) rfl rfl ar_ ?_
     with_reducible refine (octet_Put.calls k t178 4 t179 _ A9.out).mono ?_
     rintro e w17 ⟨rfl, hb⟩
     refine ⟨_, rfl, ?_⟩
     have n0_ := Aside0.mk (Kd.R_below (rk_ HO177.out) hb)
     have n1_ := Aside0.mk (below_step hb_ hb)
     clear HO177 HB
     have HO177 := n0_; have HB := n1_
     clear n0_ n1_
     (try clear hb); (try clear hb2); (try clear hk); (try clear hi)
     refine hK.out _ _ trivial (fun hHeld => ?_)
     clear hK K
     refine no_ ?_
     refine pu_ 9 (some 19) (fl 10 1023) rfl rfl HT_ ?_
     refine done_ (done_of HT_.out (by kernel_rfl)) ?_
     try go_wp2
     go_ret2
     exact ⟨by first | rfl | (simp [errW_none, errW_some] <;> rfl) | (simp only [← hji3]; first | rfl | (simp [errW_none, errW_some] <;> rfl)) | (simp [*, errW_none, errW_some] <;> rfl), hb_⟩
    ·rw [if_neg c10] at H
     have c10b0 : ((a0.extract ((ji3) : Int).toNat a0.size).toList == t179.toList) = false := beq_eq_false_iff_ne.mpr c10
     have c10b1 : ((a0.extract ((ji3) : Int).toNat a0.size).toList != t179.toList) = true := bne_iff_ne.mpr c10
     simp only [Option.some.injEq, Prod.mk.injEq] at H
     obtain ⟨rfl, rfl⟩ := H
     go_enter Try.func61, Try.ntmps61
     try go_wp2
     have n0_ := Aside0.mk (below_drew1 HB.out)
     clear HB
     have HB := n0_
     clear n0_
     refine start_ (n := 10) (S := fun w' => True) (ds := []) #[false, false, false, false, false, false, false, false, false, false] (by kernel_rfl) rfl rfl trivial (fun hHeld => ?_); refine with_tabW octet_Open.tab4 octet_Open.bits4 (fun HT_ HW_ => ?_)
     generalize w.drew = w18 at HB hHeld ⊢
     refine pu_ 0 (some 10) (fl 10 1) rfl rfl HT_ ?_
     refine pu_ 1 (some 11) (fl 10 3) rfl rfl HT_ ?_
     refine pu_ 2 (some 12) (fl 10 7) rfl rfl HT_ ?_
     refine pu_ 3 (some 13) (fl 10 15) rfl rfl HT_ ?_
     refine pu_ 4 (some 14) (fl 10 31) rfl rfl HT_ ?_
     refine pu_ 5 (some 15) (fl 10 63) rfl rfl HT_ ?_
     refine one_ (i := 6) (N := some 16) (fl 10 127) rfl rfl (one_of HT_.out (by kernel_rfl)) (by decide) (fun K hK => ?_)
     refine Kd.R_lit_step Kd.string _ 9 ?hg (N := 16) ?hd (xs := ([a0.extract 0 ((ji3) : Int).toNat] : List ByteArray)) (inner := [.string (a0.extract 0 ((ji3) : Int).toNat)]) (ok := fun _ => True) (okp := fun _ => True) ?hr ?hp (fun _ hk => hk) trivial (Below.refl _ _) (Nat.le_refl _) (by simp) ?_; (case hd => rfl); (case hg => rfl); (case hr => first | (go_simp; done) | (go_simp; rfl)); (case hp => exact (Reps.one (show Kd.M Kd.string _ _ _ (a0.extract 0 ((ji3) : Int).toNat) [.string (a0.extract 0 ((ji3) : Int).toNat)] from rfl) (Reps.none _ _)))
     intro v176 w19 ho20 hb hg_ hnew_
     clear hg_ hnew_
     (first | rw [← Ny175.out] at ho20 | (simp only [Int.reduceToNat] at ho20; rw [← Ny175.out] at ho20))
     have n0_ := Aside0.mk (Kd.R_lower ho20 (below_size hb_))
     have n1_ := Aside0.mk (below_step hb_ hb)
     clear HB
     have HO177 := n0_; have HB := n1_
     clear n0_ n1_ hb ho20
     obtain ⟨Ao21, co21, eo21⟩ := Kd.R_slice HO177.out
     (first | subst eo21 | (injection eo21 with f1_ f2_ f3_; have f4_ := f1_.symm; have f5_ := f3_.symm; clear f1_ f2_ f3_; subst f4_; subst f5_))
     refine hK.out _ _ trivial (fun hHeld => ?_)
     clear hK K
     refine no_ ?_
     refine one_ (i := 7) (N := some 17) (fl 10 255) rfl rfl (one_of HT_.out (by kernel_rfl)) (by decide) (fun K hK => ?_)
     refine goes_ Try.func90 (by kernel_rfl) rfl #[.slice Ao21 y175.length co21] (by rfl) rfl rfl ar_ ?_
     with_reducible refine (octet_sum.calls k _ _ y175 t178 _ ?side1 ?side2 A8.out).mono ?_
     (case side1 => repeat (first | exact (Kd.R_reads' HO177.out).2.2 | (with_reducible refine Kd.C_alloc ?_ _) | (with_reducible refine Kd.C_drewN ?_ _) | (with_reducible refine Kd.C_drew ?_)))
     (case side2 => exact (Kd.R_reads' HO177.out).2.1)
     rintro e w' ⟨rfl, ⟨nd, rfl⟩⟩
     refine ⟨_, rfl, ?_⟩
     refine hK.out _ _ trivial (fun hHeld => ?_)
     clear hK K
     refine no_ ?_
     refine one_ (i := 8) (N := some 18) (fl 10 511) rfl rfl (one_of HT_.out (by kernel_rfl)) (by decide) (fun K hK => ?_)
     refine goes_ Try.func78 (by kernel_rfl) rfl #[.int .i64 t178, .int .i64 4] (by rfl) rfl rfl ar_ ?_
     with_reducible refine (octet_Put.calls k t178 4 t179 _ A9.out).mono ?_
     rintro e w22 ⟨rfl, hb⟩
     refine ⟨_, rfl, ?_⟩
     have n0_ := Aside0.mk (Kd.R_below (rk_ HO177.out) hb)
     have n1_ := Aside0.mk (below_step hb_ hb)
     clear HO177 HB
     have HO177 := n0_; have HB := n1_
     clear n0_ n1_
     (try clear hb); (try clear hb2); (try clear hk); (try clear hi)
     refine hK.out _ _ trivial (fun hHeld => ?_)
     clear hK K
     refine no_ ?_
     refine pu_ 9 (some 19) (fl 10 1023) rfl rfl HT_ ?_
     refine done_ (done_of HT_.out (by kernel_rfl)) ?_
     try go_wp2
     go_ret2
     exact ⟨by first | rfl | (simp [errW_none, errW_some] <;> rfl) | (simp only [← hji3]; first | rfl | (simp [errW_none, errW_some] <;> rfl)) | (simp [*, errW_none, errW_some] <;> rfl), hb_⟩
   ·rw [if_neg c5] at H
    exact absurd H (by simp)
  ·rw [if_neg c4] at H
   exact absurd H (by simp)

end Go.Proofs.Ytenlmckahaniiaa.K
