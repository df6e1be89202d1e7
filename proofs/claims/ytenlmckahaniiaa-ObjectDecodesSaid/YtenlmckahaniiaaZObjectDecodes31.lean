/- Lemmas for the law ObjectDecodes: what its proof needs of this seat's texts, in one place. -/
import Derived.Test.YtenlmckahaniiaaZObjectDecodes12
import Derived.Test.YtenlmckahaniiaaZObjectDecodes20
import Derived.Test.YtenlmckahaniiaaZObjectDecodes22
import Derived.Test.YtenlmckahaniiaaZObjectDecodes30
section
namespace Go.Proofs.Ytenlmckahaniiaa.K
open Go.RowKit Go.Proofs.YtenlmckahaniiaaW.PrintWords Go.Proofs.YtenlmckahaniiaaW.PrintLast
set_option linter.unusedVariables false
set_option linter.unusedSimpArgs false
def emulatorlaw28_ObjectDecodes.l0 : Nat → List ByteArray → Int → Int → Option (Bool)
  | 0, _, _, _ => none
  | k + 1, x16, x17, x18 => if x18 < x17 then (if 0 ≤ x18 then (if x18 < (x16.length : Int) then ((object_Decode.f k (rdOf ByteArray.empty x16 x18)).bind fun bt577 => ((emulatorref28_Decode.f k (rdOf ByteArray.empty x16 x18)).bind fun bt589 => ((emulatorref28_SameModule.f k bt577.1 bt577.2.1 bt577.2.2.1 bt577.2.2.2.1 bt577.2.2.2.2.1 bt577.2.2.2.2.2.1 bt589.1 bt589.2.1 bt589.2.2.1 bt589.2.2.2.1 bt589.2.2.2.2.1 bt589.2.2.2.2.2.1).bind fun t601 => (if t601 = true then (if bt577.2.2.2.2.2.2 = bt589.2.2.2.2.2.2 then (emulatorlaw28_ObjectDecodes.l0 k x16 x17 (wrap64 (x18 + 1))) else (none)) else (none))))) else (none)) else (none)) else ((emulatorlaw28_alive.f k).bind fun t602 => (some t602))
def emulatorlaw28_ObjectDecodes.f (k : Nat) (a0 : ByteArray) : Option (Bool) := if (a0.size : Int) > 3000 then ((emulatorlaw28_alive.f k).bind fun t571 => (some t571)) else ((emulatorref03_Seal.f k a0).bind fun t572 => ((some (([a0, t572] : List ByteArray) : List ByteArray)).bind fun y573 => (emulatorlaw28_ObjectDecodes.l0 k y573 (y573.length : Int) 0)))
theorem emulatorlaw28_ObjectDecodes.mono_l : ∀ k, (∀ y0 y1 y2, LeO (emulatorlaw28_ObjectDecodes.l0 k y0 y1 y2) (emulatorlaw28_ObjectDecodes.l0 (k + 1) y0 y1 y2))
 | 0 => fun _ _ _ r h => by simp [emulatorlaw28_ObjectDecodes.l0] at h
 | k + 1 => by
  have ih0 := emulatorlaw28_ObjectDecodes.mono_l k
  ·intro y0 y1 y2
   unfold emulatorlaw28_ObjectDecodes.l0
   repeat' first
   | (with_reducible exact ih0 _ _ _)
   | (with_reducible exact emulatorlaw28_alive.mono _)
   | (with_reducible exact emulatorref03_Seal.mono _ _)
   | (with_reducible exact emulatorref28_Decode.mono _ _)
   | (with_reducible exact emulatorref28_SameModule.mono _ _ _ _ _ _ _ _ _ _ _ _ _)
   | (with_reducible exact object_Decode.mono _ _)
   | (with_reducible exact LeO.refl _)
   | (with_reducible exact LeO.none _)
   | (with_reducible refine LeO.ite ?_ ?_)
   | (with_reducible refine LeO.bind ?_ (fun _ => ?_))
   | exact ih0 _ _ _
   | exact emulatorlaw28_alive.mono _
   | exact emulatorref03_Seal.mono _ _
   | exact emulatorref28_Decode.mono _ _
   | exact emulatorref28_SameModule.mono _ _ _ _ _ _ _ _ _ _ _ _ _
   | exact object_Decode.mono _ _
   | exact LeO.none _
   | refine LeO.ite ?_ ?_
   | refine LeO.bind ?_ (fun _ => ?_)
theorem emulatorlaw28_ObjectDecodes.mono : ∀ a0 k, LeO (emulatorlaw28_ObjectDecodes.f k a0) (emulatorlaw28_ObjectDecodes.f (k + 1) a0) := by
 intro a0 k
 have ih0 := emulatorlaw28_ObjectDecodes.mono_l k
 unfold emulatorlaw28_ObjectDecodes.f
 repeat' first
   | (with_reducible exact ih0 _ _ _)
   | (with_reducible exact emulatorlaw28_alive.mono _)
   | (with_reducible exact emulatorref03_Seal.mono _ _)
   | (with_reducible exact emulatorref28_Decode.mono _ _)
   | (with_reducible exact emulatorref28_SameModule.mono _ _ _ _ _ _ _ _ _ _ _ _ _)
   | (with_reducible exact object_Decode.mono _ _)
   | (with_reducible exact LeO.refl _)
   | (with_reducible exact LeO.none _)
   | (with_reducible refine LeO.ite ?_ ?_)
   | (with_reducible refine LeO.bind ?_ (fun _ => ?_))
   | exact ih0 _ _ _
   | exact emulatorlaw28_alive.mono _
   | exact emulatorref03_Seal.mono _ _
   | exact emulatorref28_Decode.mono _ _
   | exact emulatorref28_SameModule.mono _ _ _ _ _ _ _ _ _ _ _ _ _
   | exact object_Decode.mono _ _
   | exact LeO.none _
   | refine LeO.ite ?_ ?_
   | refine LeO.bind ?_ (fun _ => ?_)
set_option maxHeartbeats 8000000 in
set_option maxRecDepth 100000 in
theorem emulatorlaw28_ObjectDecodes.calls (k : Nat) (a0 : ByteArray) (r : Bool) (w : World) (h : emulatorlaw28_ObjectDecodes.f k a0 = some r) :
  Calls Try.prog 5 #[.string a0] w fun e w' => e = .returned (.bool r) ∧ Below w.heap.size w w' := by
 have hu25 := Try.underlying25
 have HB := Aside0.mk (Below.refl w.heap.size w)
 have H : (if (a0.size : Int) > 3000 then ((emulatorlaw28_alive.f k).bind fun t571 => (some t571)) else ((emulatorref03_Seal.f k a0).bind fun t572 => ((some (([a0, t572] : List ByteArray) : List ByteArray)).bind fun y573 => (emulatorlaw28_ObjectDecodes.l0 k y573 (y573.length : Int) 0)))) = some r := h
 clear h
 by_cases c2 : (a0.size : Int) > 3000
 ·rw [if_pos c2] at H
  have c2b0 : decide (3000 < (a0.size : Int)) = true := decide_eq_true c2
  have c2b1 : decide (3000 < a0.size) = true := decide_eq_true (by omega)
  clear c2
  replace H := Option.bind_eq_some_iff.mp H
  obtain ⟨t571, A30, H⟩ := H
  (try dsimp only at H)
  have A3 := Aside0.mk A30
  clear A30
  obtain rfl := Option.some.inj H
  go_enter Try.func5, Try.ntmps5
  go_wp2_with (first | ((with_reducible refine gate_callee (f := 20) rfl ?_); refine goesL_ (some 12) rfl rfl Try.func20 (by kernel_rfl) rfl #[] rfl ar_ ?_; (with_reducible refine (emulatorlaw28_alive.calls k  t571 _ A3.out).mono ?_); rintro e w4 ⟨rfl, hb⟩; refine ⟨_, rfl, ?_⟩; have n0_ := Aside0.mk (below_step hb_ hb); clear HB; have HB := n0_; clear n0_; (try clear hb); (try clear hb2); (try clear hk); (try clear hi)))
  go_ret
  exact ⟨ew_, hb_⟩
 ·rw [if_neg c2] at H
  have c2b0 : decide (3000 < (a0.size : Int)) = false := decide_eq_false c2
  have c2b1 : decide (3000 < a0.size) = false := decide_eq_false (by omega)
  clear c2
  replace H := Option.bind_eq_some_iff.mp H
  obtain ⟨t572, A50, H⟩ := H
  (try dsimp only at H)
  have A5 := Aside0.mk A50
  clear A50
  obtain ⟨y573, hy573⟩ : ∃ y_ : List ByteArray, y_ = (([a0, t572] : List ByteArray)) := ⟨_, rfl⟩
  replace H : (emulatorlaw28_ObjectDecodes.l0 k y573 (y573.length : Int) 0) = some r := by first | (rw [hy573]; with_reducible exact H) | (have H2_ := (Option.bind_some _ _).symm.trans H; rw [hy573]; with_reducible exact H2_) | (have H2_ := (Option.bind_some _ _).symm.trans H; with_reducible exact H2_) | with_reducible exact H | (rw [hy573]; exact H) | exact H
  have Ny573 := Aside0.mk hy573
  clear hy573
  have H' := Aside0.mk H
  clear H
  go_enter Try.func5, Try.ntmps5
  go_wp2_with (first | ((with_reducible refine gate_callee (f := 23) rfl ?_); refine goesL_ (some 15) rfl rfl Try.func23 (by kernel_rfl) rfl #[.string a0] rfl ar_ ?_; (with_reducible refine (emulatorref03_Seal.calls k a0 t572 _ A5.out).mono ?_); rintro e w6 ⟨rfl, hb⟩; refine ⟨_, rfl, ?_⟩; have n0_ := Aside0.mk (below_step hb_ hb); clear HB; have HB := n0_; clear n0_; (try clear hb); (try clear hb2); (try clear hk); (try clear hi)) | ((with_reducible refine gate_dst (N := 16) rfl ?_); refine Kd.R_lit Kd.string _ 9 ?hg (N := 16) ?hd (xs := ([a0, t572] : List ByteArray)) (inner := [.string a0, .string t572]) (ok := fun _ => True) (okp := fun _ => True) ?hr ?hp (fun _ hk => hk) trivial (Below.refl _ _) (Nat.le_refl _) (by simp) ?_; (case hd => rfl); (case hg => rfl); (case hr => first | (go_simp; done) | (go_simp; rfl)); (case hp => exact (Reps.one (show Kd.M Kd.string _ _ _ a0 [.string a0] from rfl) (Reps.one (show Kd.M Kd.string _ _ _ t572 [.string t572] from rfl) (Reps.none _ _)))); intro v574 w7 ho8 hb hg_ hnew_; clear hg_ hnew_; (first | rw [← Ny573.out] at ho8 | (simp only [Int.reduceToNat] at ho8; rw [← Ny573.out] at ho8)); have n0_ := Aside0.mk (Kd.R_lower ho8 (below_size hb_)); have n1_ := Aside0.mk (below_step hb_ hb); clear HB; have HO575 := n0_; have HB := n1_; clear n0_ n1_; clear hb ho8; obtain ⟨Ao9, co9, eo9⟩ := Kd.R_slice HO575.out; subst eo9))
  go_loopg [18] k (fun kq v18 w' => ∃ (x18_1 : Int), v18 = .int .i64 x18_1 ∧ Aside0 (emulatorlaw28_ObjectDecodes.l0 kq y573 (y573.length : Int) x18_1 = some r) ∧ Aside0 (kq ≤ k) ∧ Aside0 (Kd.R Kd.string 9 w' w.heap.size (fun _ => True) (.slice Ao9 y573.length co9) y573) ∧ Aside0 (Below w.heap.size w w'))
  case atStart => exact ⟨(0), cl_, H', ⟨Nat.le_refl _⟩, ⟨rk_ HO575.out⟩, ⟨hb_⟩⟩
  case round =>
   clear H'
   (try clear c2); (try clear c2b0); (try clear c2b1); (try clear p2); (try clear c5)
   obtain ⟨x18_1, rfl, HA, HK1, HO_16, HB⟩ := hrel
   cases gk with
   | zero => exact absurd HA.out (by simp [emulatorlaw28_ObjectDecodes.l0])
   | succ k1 =>
    have H := HA.out
    clear HA
    simp only [emulatorlaw28_ObjectDecodes.l0] at H
    by_cases c10 : x18_1 < (y573.length : Int)
    ·rw [if_pos c10] at H
     have c10b0 : decide (x18_1 < (y573.length : Int)) = true := decide_eq_true c10
     clear c10
     by_cases c11 : 0 ≤ x18_1
     ·rw [if_pos c11] at H
      have c11b0 : decide (0 ≤ x18_1) = true := decide_eq_true c11
      clear c11
      by_cases c12 : x18_1 < (y573.length : Int)
      ·rw [if_pos c12] at H
       have c12b0 : decide (x18_1 < (y573.length : Int)) = true := decide_eq_true c12
       clear c12
       replace H := Option.bind_eq_some_iff.mp H
       obtain ⟨⟨t577, t578, t579, t580, t581, t584, t587⟩, A130, H⟩ := H
       (try dsimp only at H)
       have A13 := Aside0.mk A130
       clear A130
       replace H := Option.bind_eq_some_iff.mp H
       obtain ⟨⟨t589, t590, t591, t592, t593, t596, t599⟩, A140, H⟩ := H
       (try dsimp only at H)
       have A14 := Aside0.mk A140
       clear A140
       replace H := Option.bind_eq_some_iff.mp H
       obtain ⟨t601, A150, H⟩ := H
       (try dsimp only at H)
       have A15 := Aside0.mk A150
       clear A150
       by_cases c16 : t601 = true
       ·subst c16
        have H1 : (if t587 = t599 then (emulatorlaw28_ObjectDecodes.l0 k1 y573 (y573.length : Int) (wrap64 (x18_1 + 1))) else (none)) = some r := by rw [if_pos rfl] at H; exact H
        clear H
        have H := H1
        clear H1
        by_cases c17 : t587 = t599
        ·rw [if_pos c17] at H
         have c17b0 : (t587 == t599) = true := beq_iff_eq.mpr c17
         have c17b1 : (t587 != t599) = false := bne_eq_false_iff_eq.mpr c17
         clear c17
         have H' := Aside0.mk H
         clear H
         have p576 : 0 ≤ (x18_1 : Int) := oa_
         have q576 : x18_1 < (y573.length : Int) := oa_
         obtain ⟨ad576, e576, hx576_0⟩ := Kd.at_string (Kd.R_reads' HO_16.out).2.2 x18_1 p576 q576
         cases e576
         replace p576 := eq_true p576
         replace q576 := eq_true q576
         go_wp2_with (first | ((with_reducible refine gate_callee (f := 24) rfl ?_); refine goesL_ (some 24) rfl rfl Try.func24 (by kernel_rfl) rfl #[.string (rdOf ByteArray.empty y573 x18_1)] rfl ar_ ?_; (with_reducible refine (object_Decode.calls k1 (rdOf ByteArray.empty y573 x18_1) t577 t578 t579 t580 t581 t584 t587 _ A13.out).mono ?_); rintro e w18 ⟨v582, v585, rfl, ho0, ho1, hb⟩; refine ⟨_, rfl, ?_⟩; have n0_ := Aside0.mk (Kd.R_below (rk_ HO_16.out) hb); have n1_ := Aside0.mk (Kd.R_lower ho0 (below_size hb_)); have n2_ := Aside0.mk (Kd.R_lower ho1 (below_size hb_)); have n3_ := Aside0.mk (below_step hb_ hb); clear HO_16 HB; have HO_16 := n0_; have HO583 := n1_; have HO586 := n2_; have HB := n3_; clear n0_ n1_ n2_ n3_; (try clear hb); (try clear hb2); (try clear hk); (try clear hi); (try clear ho0); (try clear ho1)) | ((with_reducible refine gate_dst (N := 5) rfl ?_); refine box_event ?hg (N := 5) ?hd (cs := #[.string (⟨#[]⟩ : ByteArray), .string (⟨#[]⟩ : ByteArray), .string (⟨#[]⟩ : ByteArray), .int .i64 0, .slice none 0 0, .slice none 0 0]) (t := 25) ?hr ?_; (case hd => rfl); (case hg => rfl); (case hr => first | (go_simp; done) | (go_simp; rfl)); intro gb588 hg w19 hbox hb; have n0_ := Aside0.mk (Kd.R_below (rk_ HO_16.out) hb); have n1_ := Aside0.mk (Kd.R_below (rk_ HO583.out) hb); have n2_ := Aside0.mk (Kd.R_below (rk_ HO586.out) hb); have n3_ := Aside0.mk (below_step hb_ hb); have n4_ := Aside0.mk (hbox); have n5_ := Aside0.mk ((by rw [hg]; exact (below_size hb_) : w.heap.size ≤ gb588)); have n6_ := Aside0.mk ((by rw [hg]; exact (below_size hb_) : w.heap.size ≤ gb588)); clear HO_16 HO583 HO586 HB; have HO_16 := n0_; have HO583 := n1_; have HO586 := n2_; have HB := n3_; have BK588 := n4_; have GW588 := n5_; have GE588 := n6_; clear n0_ n1_ n2_ n3_ n4_ n5_ n6_; clear hb hbox hg; obtain ⟨hcz20_0, hfz20_0⟩ := bc_ BK588.out 0 rfl; obtain ⟨hcz20_1, hfz20_1⟩ := bc_ BK588.out 1 rfl; obtain ⟨hcz20_2, hfz20_2⟩ := bc_ BK588.out 2 rfl; obtain ⟨hcz20_3, hfz20_3⟩ := bc_ BK588.out 3 rfl; obtain ⟨hcz20_4, hfz20_4⟩ := bc_ BK588.out 4 rfl; obtain ⟨hcz20_5, hfz20_5⟩ := bc_ BK588.out 5 rfl; obtain ⟨Ao21, co21, eo21⟩ := Kd.R_slice HO583.out; subst eo21; obtain ⟨Ao22, co22, eo22⟩ := Kd.R_slice HO586.out; subst eo22) | ((with_reducible refine gate_callee (f := 25) rfl ?_); refine goesL_ (some 29) rfl rfl Try.func25 (by kernel_rfl) rfl #[.string (rdOf ByteArray.empty y573 x18_1)] rfl ar_ ?_; (with_reducible refine (emulatorref28_Decode.calls k1 (rdOf ByteArray.empty y573 x18_1) t589 t590 t591 t592 t593 t596 t599 _ A14.out).mono ?_); rintro e w23 ⟨v594, v597, rfl, ho0, ho1, hb⟩; refine ⟨_, rfl, ?_⟩; have n0_ := Aside0.mk (Kd.R_below (by (with_reducible repeat (first | apply Kd.R_alloc | apply Kd.R_drewN | apply Kd.R_drew)); exact (Kd.R_mono (Kd.R_far (p := ⟨gb588, 5, none⟩) (Kd.R_far (p := ⟨gb588, 4, none⟩) (Kd.R_far (p := ⟨gb588, 3, none⟩) (Kd.R_far (p := ⟨gb588, 2, none⟩) (Kd.R_far (p := ⟨gb588, 1, none⟩) (Kd.R_far (p := ⟨gb588, 0, none⟩) (Kd.R_types HO_16.out BK588.out (by decide)) (fun _ hk => hk.2) (.string t577)) (fun _ hk => hk.2) (.string t578)) (fun _ hk => hk.2) (.string t579)) (fun _ hk => hk.2) (.int .i64 t580)) (fun _ hk => hk.2) (.slice Ao21 t581.length co21)) (fun _ hk => hk.2) (.slice Ao22 t584.length co22)) (fun _ h_ => h_.1))) hb); have n1_ := Aside0.mk (Kd.R_elder' (by (with_reducible repeat (first | apply Kd.R_alloc | apply Kd.R_drewN | apply Kd.R_drew)); exact (Kd.R_mono (Kd.R_far (p := ⟨gb588, 5, none⟩) (Kd.R_far (p := ⟨gb588, 4, none⟩) (Kd.R_far (p := ⟨gb588, 3, none⟩) (Kd.R_far (p := ⟨gb588, 2, none⟩) (Kd.R_far (p := ⟨gb588, 1, none⟩) (Kd.R_far (p := ⟨gb588, 0, none⟩) (Kd.R_types HO583.out BK588.out (by decide)) (fun _ hk => hk.2) (.string t577)) (fun _ hk => hk.2) (.string t578)) (fun _ hk => hk.2) (.string t579)) (fun _ hk => hk.2) (.int .i64 t580)) (fun _ hk => hk.2) (.slice Ao21 t581.length co21)) (fun _ hk => hk.2) (.slice Ao22 t584.length co22)) (fun _ h_ => h_.1))) (Kd.R_base ho0) hb); have n2_ := Aside0.mk (Kd.R_elder' (by (with_reducible repeat (first | apply Kd.R_alloc | apply Kd.R_drewN | apply Kd.R_drew)); exact (Kd.R_mono (Kd.R_far (p := ⟨gb588, 5, none⟩) (Kd.R_far (p := ⟨gb588, 4, none⟩) (Kd.R_far (p := ⟨gb588, 3, none⟩) (Kd.R_far (p := ⟨gb588, 2, none⟩) (Kd.R_far (p := ⟨gb588, 1, none⟩) (Kd.R_far (p := ⟨gb588, 0, none⟩) (Kd.R_types HO586.out BK588.out (by decide)) (fun _ hk => hk.2) (.string t577)) (fun _ hk => hk.2) (.string t578)) (fun _ hk => hk.2) (.string t579)) (fun _ hk => hk.2) (.int .i64 t580)) (fun _ hk => hk.2) (.slice Ao21 t581.length co21)) (fun _ hk => hk.2) (.slice Ao22 t584.length co22)) (fun _ h_ => h_.1))) (Kd.R_base ho1) hb); have n3_ := Aside0.mk (Kd.R_lower (Kd.R_new' ho0 (Kd.R_lt (by (with_reducible repeat (first | apply Kd.R_alloc | apply Kd.R_drewN | apply Kd.R_drew)); exact (Kd.R_mono (Kd.R_far (p := ⟨gb588, 5, none⟩) (Kd.R_far (p := ⟨gb588, 4, none⟩) (Kd.R_far (p := ⟨gb588, 3, none⟩) (Kd.R_far (p := ⟨gb588, 2, none⟩) (Kd.R_far (p := ⟨gb588, 1, none⟩) (Kd.R_far (p := ⟨gb588, 0, none⟩) (Kd.R_types HO583.out BK588.out (by decide)) (fun _ hk => hk.2) (.string t577)) (fun _ hk => hk.2) (.string t578)) (fun _ hk => hk.2) (.string t579)) (fun _ hk => hk.2) (.int .i64 t580)) (fun _ hk => hk.2) (.slice Ao21 t581.length co21)) (fun _ hk => hk.2) (.slice Ao22 t584.length co22)) (fun _ h_ => h_.1))))) (below_size hb_)); have n4_ := Aside0.mk (Kd.R_lower (Kd.R_new' ho1 (Kd.R_lt (by (with_reducible repeat (first | apply Kd.R_alloc | apply Kd.R_drewN | apply Kd.R_drew)); exact (Kd.R_mono (Kd.R_far (p := ⟨gb588, 5, none⟩) (Kd.R_far (p := ⟨gb588, 4, none⟩) (Kd.R_far (p := ⟨gb588, 3, none⟩) (Kd.R_far (p := ⟨gb588, 2, none⟩) (Kd.R_far (p := ⟨gb588, 1, none⟩) (Kd.R_far (p := ⟨gb588, 0, none⟩) (Kd.R_types HO586.out BK588.out (by decide)) (fun _ hk => hk.2) (.string t577)) (fun _ hk => hk.2) (.string t578)) (fun _ hk => hk.2) (.string t579)) (fun _ hk => hk.2) (.int .i64 t580)) (fun _ hk => hk.2) (.slice Ao21 t581.length co21)) (fun _ hk => hk.2) (.slice Ao22 t584.length co22)) (fun _ h_ => h_.1))))) (below_size hb_)); have n5_ := Aside0.mk (blk_below (g := gb588) (o := .cells #[.string t577, .string t578, .string t579, .int .i64 t580, .slice Ao21 t581.length co21, .slice Ao22 t584.length co22] 25 (0, 0)) (by (with_reducible repeat (first | refine blk_drewN ?_ _ | refine blk_drew ?_ | refine blk_alloc ?_ _)); refine blk_put (cs := #[.string t577, .string t578, .string t579, .int .i64 t580, .slice Ao21 t581.length co21, .slice none 0 0]) ?_ 5 _ rfl; (with_reducible repeat (first | refine blk_drewN ?_ _ | refine blk_drew ?_ | refine blk_alloc ?_ _)); refine blk_put (cs := #[.string t577, .string t578, .string t579, .int .i64 t580, .slice none 0 0, .slice none 0 0]) ?_ 4 _ rfl; (with_reducible repeat (first | refine blk_drewN ?_ _ | refine blk_drew ?_ | refine blk_alloc ?_ _)); refine blk_put (cs := #[.string t577, .string t578, .string t579, .int .i64 0, .slice none 0 0, .slice none 0 0]) ?_ 3 _ rfl; (with_reducible repeat (first | refine blk_drewN ?_ _ | refine blk_drew ?_ | refine blk_alloc ?_ _)); refine blk_put (cs := #[.string t577, .string t578, .string (⟨#[]⟩ : ByteArray), .int .i64 0, .slice none 0 0, .slice none 0 0]) ?_ 2 _ rfl; (with_reducible repeat (first | refine blk_drewN ?_ _ | refine blk_drew ?_ | refine blk_alloc ?_ _)); refine blk_put (cs := #[.string t577, .string (⟨#[]⟩ : ByteArray), .string (⟨#[]⟩ : ByteArray), .int .i64 0, .slice none 0 0, .slice none 0 0]) ?_ 1 _ rfl; (with_reducible repeat (first | refine blk_drewN ?_ _ | refine blk_drew ?_ | refine blk_alloc ?_ _)); refine blk_put (cs := #[.string (⟨#[]⟩ : ByteArray), .string (⟨#[]⟩ : ByteArray), .string (⟨#[]⟩ : ByteArray), .int .i64 0, .slice none 0 0, .slice none 0 0]) ?_ 0 _ rfl; (with_reducible repeat (first | refine blk_drewN ?_ _ | refine blk_drew ?_ | refine blk_alloc ?_ _)); exact BK588.out) hb); have n6_ := Aside0.mk (below_step hb_ hb); clear HO_16 HO583 HO586 BK588 HB; have HO_16 := n0_; have HO583 := n1_; have HO586 := n2_; have HO595 := n3_; have HO598 := n4_; have BK588 := n5_; have HB := n6_; clear n0_ n1_ n2_ n3_ n4_ n5_ n6_; (try clear hb); (try clear hb2); (try clear hk); (try clear hi); (try clear ho0); (try clear ho1)) | ((with_reducible refine gate_dst (N := 7) rfl ?_); refine box_event ?hg (N := 7) ?hd (cs := #[.string (⟨#[]⟩ : ByteArray), .string (⟨#[]⟩ : ByteArray), .string (⟨#[]⟩ : ByteArray), .int .i64 0, .slice none 0 0, .slice none 0 0]) (t := 25) ?hr ?_; (case hd => rfl); (case hg => rfl); (case hr => first | (go_simp; done) | (go_simp; rfl)); intro gb600 hg w24 hbox hb; have n0_ := Aside0.mk (Kd.R_below (rk_ HO_16.out) hb); have n1_ := Aside0.mk (Kd.R_below (rk_ HO583.out) hb); have n2_ := Aside0.mk (Kd.R_below (rk_ HO586.out) hb); have n3_ := Aside0.mk (Kd.R_below (rk_ HO595.out) hb); have n4_ := Aside0.mk (Kd.R_below (rk_ HO598.out) hb); have n5_ := Aside0.mk (blk_below (bk_ BK588.out) hb); have n6_ := Aside0.mk (below_step hb_ hb); have n7_ := Aside0.mk (hbox); have n8_ := Aside0.mk ((by rw [hg]; exact (below_size hb_) : w.heap.size ≤ gb600)); have n9_ := Aside0.mk ((by rw [hg]; exact (below_size hb_) : w.heap.size ≤ gb600)); have n10_ := Aside0.mk ((by rw [hg]; exact Nat.ne_of_lt (blk_lt (bk_ BK588.out)) : gb588 ≠ gb600)); have n11_ := Aside0.mk ((by rw [hg]; exact Nat.ne_of_gt (blk_lt (bk_ BK588.out)) : gb600 ≠ gb588)); clear HO_16 HO583 HO586 HO595 HO598 BK588 HB; have HO_16 := n0_; have HO583 := n1_; have HO586 := n2_; have HO595 := n3_; have HO598 := n4_; have BK588 := n5_; have HB := n6_; have BK600 := n7_; have GW600 := n8_; have GE600 := n9_; have NB588_600 := n10_; have NB600_588 := n11_; clear n0_ n1_ n2_ n3_ n4_ n5_ n6_ n7_ n8_ n9_ n10_ n11_; clear hb hbox hg; have hnb25 := NB600_588.out; have hnc25 := NB588_600.out; obtain ⟨hcz26_0, hfz26_0⟩ := bc_ BK600.out 0 rfl; obtain ⟨hcz26_1, hfz26_1⟩ := bc_ BK600.out 1 rfl; obtain ⟨hcz26_2, hfz26_2⟩ := bc_ BK600.out 2 rfl; obtain ⟨hcz26_3, hfz26_3⟩ := bc_ BK600.out 3 rfl; obtain ⟨hcz26_4, hfz26_4⟩ := bc_ BK600.out 4 rfl; obtain ⟨hcz26_5, hfz26_5⟩ := bc_ BK600.out 5 rfl; obtain ⟨Ao27, co27, eo27⟩ := Kd.R_slice HO595.out; subst eo27; obtain ⟨Ao28, co28, eo28⟩ := Kd.R_slice HO598.out; subst eo28; obtain ⟨hcz29_0, hfz29_0⟩ := bc_ BK588.out 0 rfl; obtain ⟨hcz29_1, hfz29_1⟩ := bc_ BK588.out 1 rfl; obtain ⟨hcz29_2, hfz29_2⟩ := bc_ BK588.out 2 rfl; obtain ⟨hcz29_3, hfz29_3⟩ := bc_ BK588.out 3 rfl; obtain ⟨hcz29_4, hfz29_4⟩ := bc_ BK588.out 4 rfl; obtain ⟨hcz29_5, hfz29_5⟩ := bc_ BK588.out 5 rfl) | ((with_reducible refine gate_callee (f := 26) rfl ?_); refine goesL_ (some 34) rfl rfl Try.func26 (by kernel_rfl) rfl #[.agg #[.string t577, .string t578, .string t579, .int .i64 t580, .slice Ao21 t581.length co21, .slice Ao22 t584.length co22], .agg #[.string t589, .string t590, .string t591, .int .i64 t592, .slice Ao27 t593.length co27, .slice Ao28 t596.length co28]] rfl ar_ ?_; (with_reducible refine (emulatorref28_SameModule.calls k1 t577 t578 t579 t580 _ _ t581 _ _ t584 t589 t590 t591 t592 _ _ t593 _ _ t596 true _ ?side1 ?side2 ?side3 ?side4 ?side5 ?side6 ?side7 ?side8 A15.out).mono ?_); (case side1 => refine (Kd.R_reads' (e := 62) (base := w.heap.size) (ok := fun k_ => (True ∧ some k_ ≠ (.slice Ao27 t593.length co27 : Value).ownBlock)) (n := t581.length) (c := co21) ?_).2.2; exact (by (with_reducible repeat (first | apply Kd.R_alloc | apply Kd.R_drewN | apply Kd.R_drew)); exact (Kd.R_mono (Kd.R_far (p := ⟨gb600, 5, none⟩) (Kd.R_far (p := ⟨gb600, 4, none⟩) (Kd.R_far (p := ⟨gb600, 3, none⟩) (Kd.R_far (p := ⟨gb600, 2, none⟩) (Kd.R_far (p := ⟨gb600, 1, none⟩) (Kd.R_far (p := ⟨gb600, 0, none⟩) (Kd.R_types HO583.out BK600.out (by decide)) (fun _ hk => hk.2) (.string t589)) (fun _ hk => hk.2) (.string t590)) (fun _ hk => hk.2) (.string t591)) (fun _ hk => hk.2) (.int .i64 t592)) (fun _ hk => hk.2) (.slice Ao27 t593.length co27)) (fun _ hk => hk.2) (.slice Ao28 t596.length co28)) (fun _ h_ => h_.1)))); (case side2 => exact (Kd.R_reads' HO583.out).2.1); (case side3 => refine (Kd.R_reads' (e := 43) (base := w.heap.size) (ok := fun k_ => (True ∧ some k_ ≠ (.slice Ao28 t596.length co28 : Value).ownBlock)) (n := t584.length) (c := co22) ?_).2.2; exact (by (with_reducible repeat (first | apply Kd.R_alloc | apply Kd.R_drewN | apply Kd.R_drew)); exact (Kd.R_mono (Kd.R_far (p := ⟨gb600, 5, none⟩) (Kd.R_far (p := ⟨gb600, 4, none⟩) (Kd.R_far (p := ⟨gb600, 3, none⟩) (Kd.R_far (p := ⟨gb600, 2, none⟩) (Kd.R_far (p := ⟨gb600, 1, none⟩) (Kd.R_far (p := ⟨gb600, 0, none⟩) (Kd.R_types HO586.out BK600.out (by decide)) (fun _ hk => hk.2) (.string t589)) (fun _ hk => hk.2) (.string t590)) (fun _ hk => hk.2) (.string t591)) (fun _ hk => hk.2) (.int .i64 t592)) (fun _ hk => hk.2) (.slice Ao27 t593.length co27)) (fun _ hk => hk.2) (.slice Ao28 t596.length co28)) (fun _ h_ => h_.1)))); (case side4 => exact (Kd.R_reads' HO586.out).2.1); (case side5 => refine (Kd.R_reads' (e := 62) (base := w.heap.size) (ok := fun k_ => (True ∧ some k_ ≠ (.slice Ao21 t581.length co21 : Value).ownBlock)) (n := t593.length) (c := co27) ?_).2.2; exact (by (with_reducible repeat (first | apply Kd.R_alloc | apply Kd.R_drewN | apply Kd.R_drew)); exact (Kd.R_mono (Kd.R_far (p := ⟨gb600, 5, none⟩) (Kd.R_far (p := ⟨gb600, 4, none⟩) (Kd.R_far (p := ⟨gb600, 3, none⟩) (Kd.R_far (p := ⟨gb600, 2, none⟩) (Kd.R_far (p := ⟨gb600, 1, none⟩) (Kd.R_far (p := ⟨gb600, 0, none⟩) (Kd.R_types HO595.out BK600.out (by decide)) (fun _ hk => hk.2) (.string t589)) (fun _ hk => hk.2) (.string t590)) (fun _ hk => hk.2) (.string t591)) (fun _ hk => hk.2) (.int .i64 t592)) (fun _ hk => hk.2) (.slice Ao27 t593.length co27)) (fun _ hk => hk.2) (.slice Ao28 t596.length co28)) (fun _ h_ => h_.1)))); (case side6 => exact (Kd.R_reads' HO595.out).2.1); (case side7 => refine (Kd.R_reads' (e := 43) (base := w.heap.size) (ok := fun k_ => (True ∧ some k_ ≠ (.slice Ao22 t584.length co22 : Value).ownBlock)) (n := t596.length) (c := co28) ?_).2.2; exact (by (with_reducible repeat (first | apply Kd.R_alloc | apply Kd.R_drewN | apply Kd.R_drew)); exact (Kd.R_mono (Kd.R_far (p := ⟨gb600, 5, none⟩) (Kd.R_far (p := ⟨gb600, 4, none⟩) (Kd.R_far (p := ⟨gb600, 3, none⟩) (Kd.R_far (p := ⟨gb600, 2, none⟩) (Kd.R_far (p := ⟨gb600, 1, none⟩) (Kd.R_far (p := ⟨gb600, 0, none⟩) (Kd.R_types HO598.out BK600.out (by decide)) (fun _ hk => hk.2) (.string t589)) (fun _ hk => hk.2) (.string t590)) (fun _ hk => hk.2) (.string t591)) (fun _ hk => hk.2) (.int .i64 t592)) (fun _ hk => hk.2) (.slice Ao27 t593.length co27)) (fun _ hk => hk.2) (.slice Ao28 t596.length co28)) (fun _ h_ => h_.1)))); (case side8 => exact (Kd.R_reads' HO598.out).2.1); rintro e w30 ⟨rfl, hb⟩; refine ⟨_, rfl, ?_⟩; have n0_ := Aside0.mk (Kd.R_below (by (with_reducible repeat (first | apply Kd.R_alloc | apply Kd.R_drewN | apply Kd.R_drew)); exact (Kd.R_mono (Kd.R_far (p := ⟨gb600, 5, none⟩) (Kd.R_far (p := ⟨gb600, 4, none⟩) (Kd.R_far (p := ⟨gb600, 3, none⟩) (Kd.R_far (p := ⟨gb600, 2, none⟩) (Kd.R_far (p := ⟨gb600, 1, none⟩) (Kd.R_far (p := ⟨gb600, 0, none⟩) (Kd.R_types HO_16.out BK600.out (by decide)) (fun _ hk => hk.2) (.string t589)) (fun _ hk => hk.2) (.string t590)) (fun _ hk => hk.2) (.string t591)) (fun _ hk => hk.2) (.int .i64 t592)) (fun _ hk => hk.2) (.slice Ao27 t593.length co27)) (fun _ hk => hk.2) (.slice Ao28 t596.length co28)) (fun _ h_ => h_.1))) hb); have n1_ := Aside0.mk (Kd.R_below (by (with_reducible repeat (first | apply Kd.R_alloc | apply Kd.R_drewN | apply Kd.R_drew)); exact (Kd.R_mono (Kd.R_far (p := ⟨gb600, 5, none⟩) (Kd.R_far (p := ⟨gb600, 4, none⟩) (Kd.R_far (p := ⟨gb600, 3, none⟩) (Kd.R_far (p := ⟨gb600, 2, none⟩) (Kd.R_far (p := ⟨gb600, 1, none⟩) (Kd.R_far (p := ⟨gb600, 0, none⟩) (Kd.R_types HO583.out BK600.out (by decide)) (fun _ hk => hk.2) (.string t589)) (fun _ hk => hk.2) (.string t590)) (fun _ hk => hk.2) (.string t591)) (fun _ hk => hk.2) (.int .i64 t592)) (fun _ hk => hk.2) (.slice Ao27 t593.length co27)) (fun _ hk => hk.2) (.slice Ao28 t596.length co28)) (fun _ h_ => h_.1))) hb); have n2_ := Aside0.mk (Kd.R_below (by (with_reducible repeat (first | apply Kd.R_alloc | apply Kd.R_drewN | apply Kd.R_drew)); exact (Kd.R_mono (Kd.R_far (p := ⟨gb600, 5, none⟩) (Kd.R_far (p := ⟨gb600, 4, none⟩) (Kd.R_far (p := ⟨gb600, 3, none⟩) (Kd.R_far (p := ⟨gb600, 2, none⟩) (Kd.R_far (p := ⟨gb600, 1, none⟩) (Kd.R_far (p := ⟨gb600, 0, none⟩) (Kd.R_types HO586.out BK600.out (by decide)) (fun _ hk => hk.2) (.string t589)) (fun _ hk => hk.2) (.string t590)) (fun _ hk => hk.2) (.string t591)) (fun _ hk => hk.2) (.int .i64 t592)) (fun _ hk => hk.2) (.slice Ao27 t593.length co27)) (fun _ hk => hk.2) (.slice Ao28 t596.length co28)) (fun _ h_ => h_.1))) hb); have n3_ := Aside0.mk (Kd.R_below (by (with_reducible repeat (first | apply Kd.R_alloc | apply Kd.R_drewN | apply Kd.R_drew)); exact (Kd.R_mono (Kd.R_far (p := ⟨gb600, 5, none⟩) (Kd.R_far (p := ⟨gb600, 4, none⟩) (Kd.R_far (p := ⟨gb600, 3, none⟩) (Kd.R_far (p := ⟨gb600, 2, none⟩) (Kd.R_far (p := ⟨gb600, 1, none⟩) (Kd.R_far (p := ⟨gb600, 0, none⟩) (Kd.R_types HO595.out BK600.out (by decide)) (fun _ hk => hk.2) (.string t589)) (fun _ hk => hk.2) (.string t590)) (fun _ hk => hk.2) (.string t591)) (fun _ hk => hk.2) (.int .i64 t592)) (fun _ hk => hk.2) (.slice Ao27 t593.length co27)) (fun _ hk => hk.2) (.slice Ao28 t596.length co28)) (fun _ h_ => h_.1))) hb); have n4_ := Aside0.mk (Kd.R_below (by (with_reducible repeat (first | apply Kd.R_alloc | apply Kd.R_drewN | apply Kd.R_drew)); exact (Kd.R_mono (Kd.R_far (p := ⟨gb600, 5, none⟩) (Kd.R_far (p := ⟨gb600, 4, none⟩) (Kd.R_far (p := ⟨gb600, 3, none⟩) (Kd.R_far (p := ⟨gb600, 2, none⟩) (Kd.R_far (p := ⟨gb600, 1, none⟩) (Kd.R_far (p := ⟨gb600, 0, none⟩) (Kd.R_types HO598.out BK600.out (by decide)) (fun _ hk => hk.2) (.string t589)) (fun _ hk => hk.2) (.string t590)) (fun _ hk => hk.2) (.string t591)) (fun _ hk => hk.2) (.int .i64 t592)) (fun _ hk => hk.2) (.slice Ao27 t593.length co27)) (fun _ hk => hk.2) (.slice Ao28 t596.length co28)) (fun _ h_ => h_.1))) hb); have n5_ := Aside0.mk (blk_below (g := gb588) (o := .cells #[.string t577, .string t578, .string t579, .int .i64 t580, .slice Ao21 t581.length co21, .slice Ao22 t584.length co22] 25 (0, 0)) (by (with_reducible repeat (first | refine blk_drewN ?_ _ | refine blk_drew ?_ | refine blk_alloc ?_ _)); refine blk_far ?_ NB588_600.out _; (with_reducible repeat (first | refine blk_drewN ?_ _ | refine blk_drew ?_ | refine blk_alloc ?_ _)); refine blk_far ?_ NB588_600.out _; (with_reducible repeat (first | refine blk_drewN ?_ _ | refine blk_drew ?_ | refine blk_alloc ?_ _)); refine blk_far ?_ NB588_600.out _; (with_reducible repeat (first | refine blk_drewN ?_ _ | refine blk_drew ?_ | refine blk_alloc ?_ _)); refine blk_far ?_ NB588_600.out _; (with_reducible repeat (first | refine blk_drewN ?_ _ | refine blk_drew ?_ | refine blk_alloc ?_ _)); refine blk_far ?_ NB588_600.out _; (with_reducible repeat (first | refine blk_drewN ?_ _ | refine blk_drew ?_ | refine blk_alloc ?_ _)); refine blk_far ?_ NB588_600.out _; (with_reducible repeat (first | refine blk_drewN ?_ _ | refine blk_drew ?_ | refine blk_alloc ?_ _)); exact BK588.out) hb); have n6_ := Aside0.mk (blk_below (g := gb600) (o := .cells #[.string t589, .string t590, .string t591, .int .i64 t592, .slice Ao27 t593.length co27, .slice Ao28 t596.length co28] 25 (0, 0)) (by (with_reducible repeat (first | refine blk_drewN ?_ _ | refine blk_drew ?_ | refine blk_alloc ?_ _)); refine blk_put (cs := #[.string t589, .string t590, .string t591, .int .i64 t592, .slice Ao27 t593.length co27, .slice none 0 0]) ?_ 5 _ rfl; (with_reducible repeat (first | refine blk_drewN ?_ _ | refine blk_drew ?_ | refine blk_alloc ?_ _)); refine blk_put (cs := #[.string t589, .string t590, .string t591, .int .i64 t592, .slice none 0 0, .slice none 0 0]) ?_ 4 _ rfl; (with_reducible repeat (first | refine blk_drewN ?_ _ | refine blk_drew ?_ | refine blk_alloc ?_ _)); refine blk_put (cs := #[.string t589, .string t590, .string t591, .int .i64 0, .slice none 0 0, .slice none 0 0]) ?_ 3 _ rfl; (with_reducible repeat (first | refine blk_drewN ?_ _ | refine blk_drew ?_ | refine blk_alloc ?_ _)); refine blk_put (cs := #[.string t589, .string t590, .string (⟨#[]⟩ : ByteArray), .int .i64 0, .slice none 0 0, .slice none 0 0]) ?_ 2 _ rfl; (with_reducible repeat (first | refine blk_drewN ?_ _ | refine blk_drew ?_ | refine blk_alloc ?_ _)); refine blk_put (cs := #[.string t589, .string (⟨#[]⟩ : ByteArray), .string (⟨#[]⟩ : ByteArray), .int .i64 0, .slice none 0 0, .slice none 0 0]) ?_ 1 _ rfl; (with_reducible repeat (first | refine blk_drewN ?_ _ | refine blk_drew ?_ | refine blk_alloc ?_ _)); refine blk_put (cs := #[.string (⟨#[]⟩ : ByteArray), .string (⟨#[]⟩ : ByteArray), .string (⟨#[]⟩ : ByteArray), .int .i64 0, .slice none 0 0, .slice none 0 0]) ?_ 0 _ rfl; (with_reducible repeat (first | refine blk_drewN ?_ _ | refine blk_drew ?_ | refine blk_alloc ?_ _)); exact BK600.out) hb); have n7_ := Aside0.mk (below_step hb_ hb); clear HO_16 HO583 HO586 HO595 HO598 BK588 BK600 HB; have HO_16 := n0_; have HO583 := n1_; have HO586 := n2_; have HO595 := n3_; have HO598 := n4_; have BK588 := n5_; have BK600 := n6_; have HB := n7_; clear n0_ n1_ n2_ n3_ n4_ n5_ n6_ n7_; (try clear hb); (try clear hb2); (try clear hk); (try clear hi)))
         go_roundg k1
         case measure => have := HK1.out; omega
         case rel => exact ⟨(wrap64 (x18_1 + 1)), cl_, H', ⟨by have := HK1.out; omega⟩, ⟨rk_ HO_16.out⟩, ⟨hb_⟩⟩
        ·rw [if_neg c17] at H
         exact absurd H (by simp)
       ·replace c16 := Bool.eq_false_iff.mpr c16
        subst c16
        have H1 : (none) = some r := by rw [if_neg (show ¬ (false = true) by decide)] at H; exact H
        clear H
        have H := H1
        clear H1
        exact absurd H (by simp)
      ·rw [if_neg c12] at H
       exact absurd H (by simp)
     ·rw [if_neg c11] at H
      exact absurd H (by simp)
    ·rw [if_neg c10] at H
     have c10b0 : decide (x18_1 < (y573.length : Int)) = false := decide_eq_false c10
     clear c10
     replace H := Option.bind_eq_some_iff.mp H
     obtain ⟨t602, A310, H⟩ := H
     (try dsimp only at H)
     have A31 := Aside0.mk A310
     clear A310
     obtain rfl := Option.some.inj H
     go_wp2_with (first | ((with_reducible refine gate_callee (f := 20) rfl ?_); refine goesL_ (some 42) rfl rfl Try.func20 (by kernel_rfl) rfl #[] rfl ar_ ?_; (with_reducible refine (emulatorlaw28_alive.calls k1  t602 _ A31.out).mono ?_); rintro e w32 ⟨rfl, hb⟩; refine ⟨_, rfl, ?_⟩; have n0_ := Aside0.mk (Kd.R_below (rk_ HO_16.out) hb); have n1_ := Aside0.mk (below_step hb_ hb); clear HO_16 HB; have HO_16 := n0_; have HB := n1_; clear n0_ n1_; (try clear hb); (try clear hb2); (try clear hk); (try clear hi)))
     go_ret
     exact ⟨ew_, hb_⟩
def emulatorlaw28_ObjectDecodes.Pure : Prop := ∀ (a0 : ByteArray), a0.size ≤ 140737488351232 → ∃ k, emulatorlaw28_ObjectDecodes.f k a0 = some true
theorem emulatorlaw28_ObjectDecodes.walk (P : emulatorlaw28_ObjectDecodes.Pure) (a0 : ByteArray) (w : World) (w0 : a0.size ≤ 140737488351232) :
  Calls Try.prog 5 #[.string a0] w fun e w' => e = .returned (.bool true) ∧ Below w.heap.size w w' := by
 obtain ⟨k, h⟩ := P a0 w0
 refine (emulatorlaw28_ObjectDecodes.calls k a0 true w h).mono ?_
 rintro e w' ⟨rfl, hd⟩
 exact ⟨rfl, hd⟩
end Go.Proofs.Ytenlmckahaniiaa.K
end
