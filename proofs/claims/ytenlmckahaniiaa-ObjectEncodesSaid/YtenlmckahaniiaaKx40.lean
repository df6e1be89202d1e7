-- Printed by a program of this session out of Lean's print of the translation. Lean checks it.
import Derived.Test.YtenlmckahaniiaaKx0
import Derived.Test.YtenlmckahaniiaaKx34
import Derived.Test.YtenlmckahaniiaaKx35
namespace Go.Proofs.Ytenlmckahaniiaa.K
open Go.RowKit Go.Proofs.YtenlmckahaniiaaW.PrintWords Go.Proofs.YtenlmckahaniiaaW.PrintLast
set_option linter.unusedVariables false
set_option linter.unusedSimpArgs false

/-! ### emulatorref03_Open: function 65 -/
def emulatorref03_Open.f (k : Nat) (a0 : ByteArray) : Option (ByteArray × Int) := if (a0.size : Int) < 4 then (some ((⟨#[]⟩ : ByteArray), 8)) else (if 0 ≤ (wrap64 ((a0.size : Int) - 4)) then (if (wrap64 ((a0.size : Int) - 4)) ≤ (a0.size : Int) then ((emulatorref03_Crc.f k (a0.extract 0 ((wrap64 ((a0.size : Int) - 4)) : Int).toNat)).bind fun t472 => ((emulatorref03_Put.f k t472 4).bind fun t473 => (if t473.toList = (a0.extract ((wrap64 ((a0.size : Int) - 4)) : Int).toNat a0.size).toList then (some (a0.extract 0 ((wrap64 ((a0.size : Int) - 4)) : Int).toNat, 0)) else (some ((⟨#[]⟩ : ByteArray), 10))))) else (none)) else (none))
theorem emulatorref03_Open.mono : ∀ a0 k, LeO (emulatorref03_Open.f k a0) (emulatorref03_Open.f (k + 1) a0) := by
 intro a0 k
 unfold emulatorref03_Open.f
 repeat' first
   | (with_reducible exact emulatorref03_Crc.mono _ _)
   | (with_reducible exact emulatorref03_Put.mono _ _ _)
   | (with_reducible exact LeO.refl _)
   | (with_reducible exact LeO.none _)
   | (with_reducible refine LeO.ite ?_ ?_)
   | (with_reducible refine LeO.bind ?_ (fun _ => ?_))
   | exact emulatorref03_Crc.mono _ _
   | exact emulatorref03_Put.mono _ _ _
   | exact LeO.none _
   | refine LeO.ite ?_ ?_
   | refine LeO.bind ?_ (fun _ => ?_)
def emulatorref03_Open.T4 : Bool × List (List Nat × List Nat) := (true, [([], []), ([0], [0]), ([1, 1], [1]), ([], []), ([], []), ([4], [4]), ([5], [5]), ([3, 6], [3, 6]), ([2, 7], [2, 7])])
def emulatorref03_Open.B4 : List Nat := [0, 1, 3, 0, 0, 16, 48, 120, 255]
theorem emulatorref03_Open.tab4 : rtab .any (opsOf Try.f65 4) = emulatorref03_Open.T4 := by kernel_rfl
theorem emulatorref03_Open.bits4 : waitsOk emulatorref03_Open.T4.2 emulatorref03_Open.B4 = true := by kernel_rfl
set_option maxHeartbeats 8000000 in
set_option maxRecDepth 100000 in
theorem emulatorref03_Open.calls (k : Nat) (a0 : ByteArray) (r1 : ByteArray) (r2 : Int) (w : World) (h : emulatorref03_Open.f k a0 = some (r1, r2)) :
  Calls Try.prog 65 #[.string a0] w fun e w' => e = .returned (.tuple #[.string r1, .int .i64 r2]) ∧ Below w.heap.size w w' := by
 have HB := Aside0.mk (Below.refl w.heap.size w)
 have H : (if (a0.size : Int) < 4 then (some ((⟨#[]⟩ : ByteArray), 8)) else (if 0 ≤ (wrap64 ((a0.size : Int) - 4)) then (if (wrap64 ((a0.size : Int) - 4)) ≤ (a0.size : Int) then ((emulatorref03_Crc.f k (a0.extract 0 ((wrap64 ((a0.size : Int) - 4)) : Int).toNat)).bind fun t472 => ((emulatorref03_Put.f k t472 4).bind fun t473 => (if t473.toList = (a0.extract ((wrap64 ((a0.size : Int) - 4)) : Int).toNat a0.size).toList then (some (a0.extract 0 ((wrap64 ((a0.size : Int) - 4)) : Int).toNat, 0)) else (some ((⟨#[]⟩ : ByteArray), 10))))) else (none)) else (none))) = some (r1, r2) := h
 clear h
 by_cases c2 : (a0.size : Int) < 4
 ·rw [if_pos c2] at H
  have c2b0 : decide ((a0.size : Int) < 4) = true := decide_eq_true c2
  have c2b1 : decide (a0.size < 4) = true := decide_eq_true (by omega)
  clear c2
  simp only [Option.some.injEq, Prod.mk.injEq] at H
  obtain ⟨rfl, rfl⟩ := H
  go_enter Try.func65, Try.ntmps65
  go_wp2
  go_ret2
  exact ⟨ew_, hb_⟩
 ·rw [if_neg c2] at H
  have c2b0 : decide ((a0.size : Int) < 4) = false := decide_eq_false c2
  have c2b1 : decide (a0.size < 4) = false := decide_eq_false (by omega)
  clear c2
  obtain ⟨ji3, hji3⟩ : ∃ j_ : Int, (wrap64 ((a0.size : Int) - 4)) = j_ := ⟨_, rfl⟩
  replace H : (if 0 ≤ (ji3) then (if (ji3) ≤ (a0.size : Int) then ((emulatorref03_Crc.f k (a0.extract 0 ((ji3) : Int).toNat)).bind fun t472 => ((emulatorref03_Put.f k t472 4).bind fun t473 => (if t473.toList = (a0.extract ((ji3) : Int).toNat a0.size).toList then (some (a0.extract 0 ((ji3) : Int).toNat, 0)) else (some ((⟨#[]⟩ : ByteArray), 10))))) else (none)) else (none)) = some (r1, r2) := by first | (rw [hji3] at H; exact H) | (simp only [hji3] at H ⊢; exact H)
  have hji3w : (IntKind.i64.wrap ((a0.size : Int) - 4)) = ji3 := (i64_w _).trans hji3
  by_cases c4 : 0 ≤ (ji3)
  ·rw [if_pos c4] at H
   have c4b0 := eq_true c4
   have c4b1 : decide (0 ≤ (ji3)) = true := decide_eq_true c4
   clear c4
   by_cases c5 : (ji3) ≤ (a0.size : Int)
   ·rw [if_pos c5] at H
    have c5b0 := eq_true c5
    have c5b1 : decide ((ji3) ≤ (a0.size : Int)) = true := decide_eq_true c5
    clear c5
    replace H := Option.bind_eq_some_iff.mp H
    obtain ⟨t472, A60, H⟩ := H
    (try dsimp only at H)
    have A6 := Aside0.mk A60
    clear A60
    replace H := Option.bind_eq_some_iff.mp H
    obtain ⟨t473, A70, H⟩ := H
    (try dsimp only at H)
    have A7 := Aside0.mk A70
    clear A70
    have c8b0 := eq_true (oa_ : 0 ≤ (ji3))
    have c9b0 := eq_true (oa_ : (ji3) ≤ (a0.size : Int))
    by_cases c10 : t473.toList = (a0.extract ((ji3) : Int).toNat a0.size).toList
    ·rw [if_pos c10] at H
     have c10b0 : (t473.toList == (a0.extract ((ji3) : Int).toNat a0.size).toList) = true := beq_iff_eq.mpr c10
     have c10b1 : (t473.toList != (a0.extract ((ji3) : Int).toNat a0.size).toList) = false := bne_eq_false_iff_eq.mpr c10
     clear c10
     simp only [Option.some.injEq, Prod.mk.injEq] at H
     obtain ⟨rfl, rfl⟩ := H
     go_enter Try.func65, Try.ntmps65
     try go_wp2
     have n0_ := Aside0.mk (below_drew1 HB.out)
     clear HB
     have HB := n0_
     clear n0_
     refine start_ (n := 9) (S := fun w' => True) (ds := []) #[false, false, false, false, false, false, false, false, false] (by kernel_rfl) rfl rfl trivial (fun hHeld => ?_); refine with_tabW emulatorref03_Open.tab4 emulatorref03_Open.bits4 (fun HT_ HW_ => ?_)
     generalize w.drew = w11 at HB hHeld ⊢
     refine pu_ 0 (some 13) (fl 9 1) rfl rfl HT_ ?_
     refine pu_ 3 (some 16) (fl 9 9) rfl rfl HT_ ?_
     refine pu_ 4 (some 17) (fl 9 25) rfl rfl HT_ ?_
     refine pu_ 5 (some 18) (fl 9 57) rfl rfl HT_ ?_
     refine pu_ 6 (some 19) (fl 9 121) rfl rfl HT_ ?_
     refine pu_ 7 (some 20) (fl 9 249) rfl rfl HT_ ?_
     refine one_ (i := 1) (N := some 14) (fl 9 251) rfl rfl (one_of HT_.out (by kernel_rfl)) (by decide) (fun K hK => ?_)
     refine goes_ Try.func60 (by kernel_rfl) rfl #[.string (a0.extract 0 ((ji3) : Int).toNat)] (by rfl) rfl rfl (by (try simp only [List.map_toArray, List.map_cons, List.map_nil]); first | done | (simp only [hji3]; rfl) | rfl | (simp only [List.length_drop, List.length_take]; rfl) | (simp only [ByteArray.size_extract, Nat.sub_zero]; rfl) | (simp only [ByteArray.size_extract, Nat.sub_zero]; done) | ((try go_simp); (try simp only [ByteArray.size_extract, Nat.sub_zero]); (try simp only [eq_iff_iff, iff_true] at *); repeat (first | rfl | omega | congr 1))) ?_
     with_reducible refine (emulatorref03_Crc.calls k (a0.extract 0 ((ji3) : Int).toNat) t472 _ A6.out).mono ?_
     rintro e w' ⟨rfl, ⟨nd, rfl⟩⟩
     refine ⟨_, rfl, ?_⟩
     refine hK.out _ _ trivial (fun hHeld => ?_)
     clear hK K
     refine no_ ?_
     refine one_ (i := 2) (N := some 15) (fl 9 255) rfl rfl (one_of HT_.out (by kernel_rfl)) (by decide) (fun K hK => ?_)
     refine goes_ Try.func57 (by kernel_rfl) rfl #[.int .i64 t472, .int .i64 4] (by rfl) rfl rfl ar_ ?_
     with_reducible refine (emulatorref03_Put.calls k t472 4 t473 _ A7.out).mono ?_
     rintro e w12 ⟨rfl, hb⟩
     refine ⟨_, rfl, ?_⟩
     have n0_ := Aside0.mk (below_step hb_ hb)
     clear HB
     have HB := n0_
     clear n0_
     (try clear hb); (try clear hb2); (try clear hk); (try clear hi)
     refine hK.out _ _ trivial (fun hHeld => ?_)
     clear hK K
     refine no_ ?_
     refine pu_ 8 (some 21) (fl 9 511) rfl rfl HT_ ?_
     refine done_ (done_of HT_.out (by kernel_rfl)) ?_
     try go_wp2
     go_ret2
     exact ⟨by first | rfl | (simp [errW_none, errW_some] <;> rfl) | (simp only [← hji3]; first | rfl | (simp [errW_none, errW_some] <;> rfl)) | (simp [*, errW_none, errW_some] <;> rfl), hb_⟩
    ·rw [if_neg c10] at H
     have c10b0 : (t473.toList == (a0.extract ((ji3) : Int).toNat a0.size).toList) = false := beq_eq_false_iff_ne.mpr c10
     have c10b1 : (t473.toList != (a0.extract ((ji3) : Int).toNat a0.size).toList) = true := bne_iff_ne.mpr c10
     simp only [Option.some.injEq, Prod.mk.injEq] at H
     obtain ⟨rfl, rfl⟩ := H
     go_enter Try.func65, Try.ntmps65
     try go_wp2
     have n0_ := Aside0.mk (below_drew1 HB.out)
     clear HB
     have HB := n0_
     clear n0_
     refine start_ (n := 9) (S := fun w' => True) (ds := []) #[false, false, false, false, false, false, false, false, false] (by kernel_rfl) rfl rfl trivial (fun hHeld => ?_); refine with_tabW emulatorref03_Open.tab4 emulatorref03_Open.bits4 (fun HT_ HW_ => ?_)
     generalize w.drew = w13 at HB hHeld ⊢
     refine pu_ 0 (some 13) (fl 9 1) rfl rfl HT_ ?_
     refine pu_ 3 (some 16) (fl 9 9) rfl rfl HT_ ?_
     refine pu_ 4 (some 17) (fl 9 25) rfl rfl HT_ ?_
     refine pu_ 5 (some 18) (fl 9 57) rfl rfl HT_ ?_
     refine pu_ 6 (some 19) (fl 9 121) rfl rfl HT_ ?_
     refine pu_ 7 (some 20) (fl 9 249) rfl rfl HT_ ?_
     refine one_ (i := 1) (N := some 14) (fl 9 251) rfl rfl (one_of HT_.out (by kernel_rfl)) (by decide) (fun K hK => ?_)
     refine goes_ Try.func60 (by kernel_rfl) rfl #[.string (a0.extract 0 ((ji3) : Int).toNat)] (by rfl) rfl rfl (by (try simp only [List.map_toArray, List.map_cons, List.map_nil]); first | done | (simp only [hji3]; rfl) | rfl | (simp only [List.length_drop, List.length_take]; rfl) | (simp only [ByteArray.size_extract, Nat.sub_zero]; rfl) | (simp only [ByteArray.size_extract, Nat.sub_zero]; done) | ((try go_simp); (try simp only [ByteArray.size_extract, Nat.sub_zero]); (try simp only [eq_iff_iff, iff_true] at *); repeat (first | rfl | omega | congr 1))) ?_
     with_reducible refine (emulatorref03_Crc.calls k (a0.extract 0 ((ji3) : Int).toNat) t472 _ A6.out).mono ?_
     rintro e w' ⟨rfl, ⟨nd, rfl⟩⟩
     refine ⟨_, rfl, ?_⟩
     refine hK.out _ _ trivial (fun hHeld => ?_)
     clear hK K
     refine no_ ?_
     refine one_ (i := 2) (N := some 15) (fl 9 255) rfl rfl (one_of HT_.out (by kernel_rfl)) (by decide) (fun K hK => ?_)
     refine goes_ Try.func57 (by kernel_rfl) rfl #[.int .i64 t472, .int .i64 4] (by rfl) rfl rfl ar_ ?_
     with_reducible refine (emulatorref03_Put.calls k t472 4 t473 _ A7.out).mono ?_
     rintro e w14 ⟨rfl, hb⟩
     refine ⟨_, rfl, ?_⟩
     have n0_ := Aside0.mk (below_step hb_ hb)
     clear HB
     have HB := n0_
     clear n0_
     (try clear hb); (try clear hb2); (try clear hk); (try clear hi)
     refine hK.out _ _ trivial (fun hHeld => ?_)
     clear hK K
     refine no_ ?_
     refine pu_ 8 (some 21) (fl 9 511) rfl rfl HT_ ?_
     refine done_ (done_of HT_.out (by kernel_rfl)) ?_
     try go_wp2
     go_ret2
     exact ⟨by first | rfl | (simp [errW_none, errW_some] <;> rfl) | (simp only [← hji3]; first | rfl | (simp [errW_none, errW_some] <;> rfl)) | (simp [*, errW_none, errW_some] <;> rfl), hb_⟩
   ·rw [if_neg c5] at H
    exact absurd H (by simp)
  ·rw [if_neg c4] at H
   exact absurd H (by simp)

end Go.Proofs.Ytenlmckahaniiaa.K
