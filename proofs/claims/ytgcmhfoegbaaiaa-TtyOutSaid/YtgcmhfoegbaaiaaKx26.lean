-- Printed by a program of this session out of Lean's print of the translation. Lean checks it.
import Derived.Test.YtgcmhfoegbaaiaaKx0
namespace Go.Proofs.Ytgcmhfoegbaaiaa.K
open Go.RowKit Go.Proofs.YtgcmhfoegbaaiaaW.PrintWords Go.Proofs.YtgcmhfoegbaaiaaW.PrintLast
set_option linter.unusedVariables false
set_option linter.unusedSimpArgs false

/-! ### emulatorref43_Write: function 26 -/
def emulatorref43_Write.l0 : Nat → ByteArray → Int → Bool → ByteArray → List ByteArray → ByteArray → Option (Bool × ByteArray × List ByteArray × ByteArray × Int)
  | 0, _, _, _, _, _, _ => none
  | k + 1, x1, x6, x588000, x588001, x588002, x588003 => if x6 < (x1.size : Int) then (if 0 ≤ x6 then (if x6 ≤ (wrap64 (x6 + 1)) then (if (wrap64 (x6 + 1)) ≤ (x1.size : Int) then (if (x1.extract (x6 : Int).toNat ((wrap64 (x6 + 1)) : Int).toNat).toList = ([10] : List UInt8) then (if (wrap64 ((x588003.size : Int) + 2)) > 256 then (some (x588000, x588001, x588002, x588003, x6)) else (if x588003.size + 2 ≤ 9223372036854775807 then (emulatorref43_Write.l0 k x1 (wrap64 (x6 + 1)) x588000 x588001 x588002 (x588003 ++ (⟨#[13, 10]⟩ : ByteArray))) else (none))) else (if (wrap64 ((x588003.size : Int) + ((x1.extract (x6 : Int).toNat ((wrap64 (x6 + 1)) : Int).toNat).size : Int))) > 256 then (some (x588000, x588001, x588002, x588003, x6)) else (if x588003.size + (x1.extract (x6 : Int).toNat ((wrap64 (x6 + 1)) : Int).toNat).size ≤ 9223372036854775807 then (emulatorref43_Write.l0 k x1 (wrap64 (x6 + 1)) x588000 x588001 x588002 (x588003 ++ (x1.extract (x6 : Int).toNat ((wrap64 (x6 + 1)) : Int).toNat))) else (none)))) else (none)) else (none)) else (none)) else (some (x588000, x588001, x588002, x588003, (x1.size : Int)))
def emulatorref43_Write.f (k : Nat) (a0_0 : Bool) (a0_1 : ByteArray) (l0_2 : List ByteArray) (a0_3 : ByteArray) (a1 : ByteArray) : Option (Bool × ByteArray × List ByteArray × ByteArray × Int) := emulatorref43_Write.l0 k a1 0 a0_0 a0_1 l0_2 a0_3
theorem emulatorref43_Write.mono_l : ∀ k, (∀ y0 y1 y2 y3 y4 y5, LeO (emulatorref43_Write.l0 k y0 y1 y2 y3 y4 y5) (emulatorref43_Write.l0 (k + 1) y0 y1 y2 y3 y4 y5))
  | 0 => fun _ _ _ _ _ _ r h => by simp [emulatorref43_Write.l0] at h
  | k + 1 => by
    have ih0 := emulatorref43_Write.mono_l k
    · intro y0 y1 y2 y3 y4 y5
      unfold emulatorref43_Write.l0
      repeat' first
      | (with_reducible exact ih0 _ _ _ _ _ _)
      | (with_reducible exact LeO.refl _)
      | (with_reducible exact LeO.none _)
      | (with_reducible refine LeO.ite ?_ ?_)
      | (with_reducible refine LeO.bind ?_ (fun _ => ?_))
      | exact ih0 _ _ _ _ _ _
      | exact LeO.none _
      | refine LeO.ite ?_ ?_
      | refine LeO.bind ?_ (fun _ => ?_)
theorem emulatorref43_Write.mono : ∀ a0 a1 a2 a3 a4 k, LeO (emulatorref43_Write.f k a0 a1 a2 a3 a4) (emulatorref43_Write.f (k + 1) a0 a1 a2 a3 a4) := by
  intro a0 a1 a2 a3 a4 k
  have ih0 := emulatorref43_Write.mono_l k
  unfold emulatorref43_Write.f
  repeat' first
      | (with_reducible exact ih0 _ _ _ _ _ _)
      | (with_reducible exact LeO.refl _)
      | (with_reducible exact LeO.none _)
      | (with_reducible refine LeO.ite ?_ ?_)
      | (with_reducible refine LeO.bind ?_ (fun _ => ?_))
      | exact ih0 _ _ _ _ _ _
      | exact LeO.none _
      | refine LeO.ite ?_ ?_
      | refine LeO.bind ?_ (fun _ => ?_)
set_option maxHeartbeats 8000000 in
set_option maxRecDepth 100000 in
theorem emulatorref43_Write.calls (k : Nat) (a0_0 : Bool) (a0_1 : ByteArray) (P0_2_ : Nat → Prop) (A0_2 : Option Addr) (c0_2 : Nat) (l0_2 : List ByteArray) (a0_3 : ByteArray) (a1 : ByteArray) (r1 : Bool) (r2 : ByteArray) (r3 : List ByteArray) (r4 : ByteArray) (r5 : Int) (w : World) (hs0_2 : Kd.V Kd.string 9 w w.heap.size (fun k_ => P0_2_ k_) (.slice A0_2 l0_2.length c0_2) l0_2) (h : emulatorref43_Write.f k a0_0 a0_1 l0_2 a0_3 a1 = some (r1, r2, r3, r4, r5)) :
    Calls Try.prog 26 #[.agg #[.bool a0_0, .string a0_1, .slice A0_2 l0_2.length c0_2, .string a0_3], .string a1] w fun e w' => ∃ v2_ : Value, e = .returned (.tuple #[.agg #[.bool r1, .string r2, v2_, .string r4], .int .i64 r5]) ∧ Kd.V Kd.string 9 w' w.heap.size (fun k_ => (P0_2_ k_ ∨ w.heap.size ≤ k_)) v2_ r3 ∧ Below w.heap.size w w' := by
  have hu24 := Try.underlying24
  have HO0_2 := Aside0.mk (show Kd.V Kd.string 9 w w.heap.size (fun k_ => (P0_2_ k_ ∨ w.heap.size ≤ k_)) (.slice A0_2 l0_2.length c0_2) l0_2 from Kd.V_mono hs0_2 (fun k_ hk => .inl hk))
  have HB := Aside0.mk (Below.refl w.heap.size w)
  have H : (emulatorref43_Write.l0 k a1 0 a0_0 a0_1 l0_2 a0_3) = some (r1, r2, r3, r4, r5) := h
  clear h
  have H' := Aside0.mk H
  clear H
  go_enter Try.func26, Try.ntmps26
  go_wp2_with (first | ((with_reducible refine gate_dst (N := 2) rfl ?_); refine box_event ?hg (N := 2) ?hd (cs := #[.bool a0_0, .string a0_1, .slice A0_2 l0_2.length c0_2, .string a0_3]) (t := 24) ?hr ?_; (case hd => rfl); (case hg => rfl); (case hr => first | (go_simp; done) | (go_simp; rfl)); intro gb587 hg w3 hbox hb; have n0_ := Aside0.mk (Kd.V_below (Kd.V_elderB (by (with_reducible repeat (first | apply Kd.V_alloc | apply Kd.V_drewN | apply Kd.V_drew)); exact HO0_2.out) gb587 (Nat.le_of_eq hg.symm)) hb); have n1_ := Aside0.mk (below_step (by repeat (first | (with_reducible first | exact HB.out | apply below_alloc | apply pw_below_drewN | apply below_drew1) | exact HB.out)) hb); have n2_ := Aside0.mk (hbox); have n3_ := Aside0.mk ((by rw [hg]; exact (below_size (by repeat (first | (with_reducible first | exact HB.out | apply below_alloc | apply pw_below_drewN | apply below_drew1) | exact HB.out))) : w.heap.size ≤ gb587)); have n4_ := Aside0.mk ((by rw [hg]; exact (below_size (by repeat (first | (with_reducible first | exact HB.out | apply below_alloc | apply pw_below_drewN | apply below_drew1) | exact HB.out))) : w.heap.size ≤ gb587)); clear HO0_2; clear HB; have HO0_2 := n0_; have HB := n1_; have BK587 := n2_; have GW587 := n3_; have GE587 := n4_; clear n0_ n1_ n2_ n3_ n4_; clear hb hbox hg) | ((with_reducible refine gate_dst (N := 4) rfl ?_); refine box_event ?hg (N := 4) ?hd (cs := #[.bool false, .string (⟨#[]⟩ : ByteArray), .slice none 0 0, .string (⟨#[]⟩ : ByteArray)]) (t := 24) ?hr ?_; (case hd => rfl); (case hg => rfl); (case hr => first | (go_simp; done) | (go_simp; rfl)); intro gb588 hg w4 hbox hb; have n0_ := Aside0.mk (Kd.V_below (Kd.V_elderB (by (with_reducible repeat (first | apply Kd.V_alloc | apply Kd.V_drewN | apply Kd.V_drew)); exact HO0_2.out) gb588 (Nat.le_of_eq hg.symm)) hb); have n1_ := Aside0.mk (blk_below (g := gb587) (o := .cells #[.bool a0_0, .string a0_1, .slice A0_2 l0_2.length c0_2, .string a0_3] 24 (0, 0)) (by (with_reducible repeat (first | refine blk_drewN ?_ _ | refine blk_drew ?_ | refine blk_alloc ?_ _)); exact BK587.out) hb); have n2_ := Aside0.mk (below_step (by repeat (first | (with_reducible first | exact HB.out | apply below_alloc | apply pw_below_drewN | apply below_drew1 | refine below_set ?_ GE587.out) | exact HB.out)) hb); have n3_ := Aside0.mk (hbox); have n4_ := Aside0.mk ((by rw [hg]; exact (below_size (by repeat (first | (with_reducible first | exact HB.out | apply below_alloc | apply pw_below_drewN | apply below_drew1 | refine below_set ?_ GE587.out) | exact HB.out))) : w.heap.size ≤ gb588)); have n5_ := Aside0.mk ((by rw [hg]; exact (below_size (by repeat (first | (with_reducible first | exact HB.out | apply below_alloc | apply pw_below_drewN | apply below_drew1 | refine below_set ?_ GE587.out) | exact HB.out))) : w.heap.size ≤ gb588)); have n6_ := Aside0.mk ((by rw [hg]; exact Nat.ne_of_lt (blk_lt (g := gb587) (o := .cells #[.bool a0_0, .string a0_1, .slice A0_2 l0_2.length c0_2, .string a0_3] 24 (0, 0)) (by (with_reducible repeat (first | refine blk_drewN ?_ _ | refine blk_drew ?_ | refine blk_alloc ?_ _)); exact BK587.out)) : gb587 ≠ gb588)); have n7_ := Aside0.mk ((by rw [hg]; exact Nat.ne_of_gt (blk_lt (g := gb587) (o := .cells #[.bool a0_0, .string a0_1, .slice A0_2 l0_2.length c0_2, .string a0_3] 24 (0, 0)) (by (with_reducible repeat (first | refine blk_drewN ?_ _ | refine blk_drew ?_ | refine blk_alloc ?_ _)); exact BK587.out)) : gb588 ≠ gb587)); clear HO0_2; clear BK587; clear HB; have HO0_2 := n0_; have BK587 := n1_; have HB := n2_; have BK588 := n3_; have GW588 := n4_; have GE588 := n5_; have NB587_588 := n6_; have NB588_587 := n7_; clear n0_ n1_ n2_ n3_ n4_ n5_ n6_ n7_; clear hb hbox hg))
  go_loopg [6] k (fun kq v6 w' => ∃ (x6_1 : Int) (x588003_1 : ByteArray) (x589000_1 : Bool) (x589001_1 : ByteArray) (x589003_1 : ByteArray), v6 = .int .i64 x6_1 ∧ Aside0 (emulatorref43_Write.l0 kq a1 x6_1 a0_0 a0_1 l0_2 x588003_1 = some (r1, r2, r3, r4, r5)) ∧ Aside0 (kq ≤ k) ∧ Aside0 (Kd.V Kd.string 9 w' w.heap.size (fun k_ => (P0_2_ k_ ∨ w.heap.size ≤ k_) ∧ k_ ≠ gb587 ∧ k_ ≠ gb588) (.slice A0_2 l0_2.length c0_2) l0_2) ∧ Aside0 (w'.heap[gb587]? = some (.cells #[.bool a0_0, .string a0_1, (.slice A0_2 l0_2.length c0_2), .string x588003_1] 24 (0, 0))) ∧ Aside0 (w'.heap[gb588]? = some (.cells #[.bool x589000_1, .string x589001_1, (.slice none 0 0), .string x589003_1] 24 (0, 0))) ∧ Aside0 (Below w.heap.size w w'))
  case atStart => exact ⟨(0), (a0_3), (false), ((⟨#[]⟩ : ByteArray)), ((⟨#[]⟩ : ByteArray)), (by first | rfl | (simp; done) | (simp [isEmpty_ne]; done) | (simp [*]; done)), H', ⟨Nat.le_refl _⟩, ⟨by (with_reducible repeat (first | apply Kd.V_alloc | apply Kd.V_drewN | apply Kd.V_drew)); exact Kd.V_mono HO0_2.out (fun _ hk => ⟨hk.1.1, ⟨hk.1.2, hk.2⟩⟩)⟩, ⟨by (with_reducible repeat (first | refine blk_drewN ?_ _ | refine blk_drew ?_ | refine blk_alloc ?_ _)); exact BK587.out⟩, ⟨by (with_reducible repeat (first | refine blk_drewN ?_ _ | refine blk_drew ?_ | refine blk_alloc ?_ _)); exact BK588.out⟩, ⟨by repeat (first | (with_reducible first | exact HB.out | apply below_alloc | apply pw_below_drewN | apply below_drew1 | refine below_set ?_ GE587.out | refine below_set ?_ GE588.out) | exact HB.out)⟩⟩
  case round =>
    clear H'
    try clear c2
    try clear p2
    obtain ⟨x6_1, x588003_1, x589000_1, x589001_1, x589003_1, rfl, HA, HK1, HO_588002, BK587, BK588, HB⟩ := hrel
    cases gk with
    | zero => exact absurd HA.out (by simp [emulatorref43_Write.l0])
    | succ k1 =>
      have H := HA.out
      clear HA
      simp only [emulatorref43_Write.l0] at H
      by_cases c5 : x6_1 < (a1.size : Int)
      · rw [if_pos c5] at H
        have c5b0 : decide (x6_1 < (a1.size : Int)) = true := decide_eq_true c5
        clear c5
        by_cases c6 : 0 ≤ x6_1
        · rw [if_pos c6] at H
          have c6b0 := eq_true c6
          have c6b1 : decide (0 ≤ x6_1) = true := decide_eq_true c6
          clear c6
          by_cases c7 : x6_1 ≤ (wrap64 (x6_1 + 1))
          · rw [if_pos c7] at H
            have c7b0 := eq_true c7
            have c7b1 : decide (x6_1 ≤ (wrap64 (x6_1 + 1))) = true := decide_eq_true c7
            by_cases c8 : (wrap64 (x6_1 + 1)) ≤ (a1.size : Int)
            · rw [if_pos c8] at H
              have c8b0 := eq_true c8
              have c8b1 : decide ((wrap64 (x6_1 + 1)) ≤ (a1.size : Int)) = true := decide_eq_true c8
              by_cases c9 : (a1.extract (x6_1 : Int).toNat ((wrap64 (x6_1 + 1)) : Int).toNat).toList = ([10] : List UInt8)
              · rw [if_pos c9] at H
                have c9b0 : ((a1.extract (x6_1 : Int).toNat ((wrap64 (x6_1 + 1)) : Int).toNat).toList == ([10] : List UInt8)) = true := beq_iff_eq.mpr c9
                have c9b1 : ((a1.extract (x6_1 : Int).toNat ((wrap64 (x6_1 + 1)) : Int).toNat).toList != ([10] : List UInt8)) = false := bne_eq_false_iff_eq.mpr c9
                clear c9
                by_cases c10 : (wrap64 ((x588003_1.size : Int) + 2)) > 256
                · rw [if_pos c10] at H
                  have c10b0 : decide (256 < (wrap64 ((x588003_1.size : Int) + 2))) = true := decide_eq_true c10
                  clear c10
                  simp only [Option.some.injEq, Prod.mk.injEq] at H
                  obtain ⟨rfl, rfl, rfl, rfl, rfl⟩ := H
                  have hnb11 := NB587_588.out
                  have hnc11 := NB588_587.out
                  have hcz12_0 : wr.cell? ⟨gb587, 0, none⟩ = some (.bool a0_0) := (blk_cell BK587.out 0).trans rfl
                  have hcz12_1 : wr.cell? ⟨gb587, 1, none⟩ = some (.string a0_1) := (blk_cell BK587.out 1).trans rfl
                  have hcz12_2 : wr.cell? ⟨gb587, 2, none⟩ = some (.slice A0_2 l0_2.length c0_2) := (blk_cell BK587.out 2).trans rfl
                  have hcz12_3 : wr.cell? ⟨gb587, 3, none⟩ = some (.string x588003_1) := (blk_cell BK587.out 3).trans rfl
                  have hfz12_0 := blk_frozen BK587.out 0
                  have hfz12_1 := blk_frozen BK587.out 1
                  have hfz12_2 := blk_frozen BK587.out 2
                  have hfz12_3 := blk_frozen BK587.out 3
                  have hcz13_0 : wr.cell? ⟨gb588, 0, none⟩ = some (.bool x589000_1) := (blk_cell BK588.out 0).trans rfl
                  have hcz13_1 : wr.cell? ⟨gb588, 1, none⟩ = some (.string x589001_1) := (blk_cell BK588.out 1).trans rfl
                  have hcz13_2 : wr.cell? ⟨gb588, 2, none⟩ = some (.slice none 0 0) := (blk_cell BK588.out 2).trans rfl
                  have hcz13_3 : wr.cell? ⟨gb588, 3, none⟩ = some (.string x589003_1) := (blk_cell BK588.out 3).trans rfl
                  have hfz13_0 := blk_frozen BK588.out 0
                  have hfz13_1 := blk_frozen BK588.out 1
                  have hfz13_2 := blk_frozen BK588.out 2
                  have hfz13_3 := blk_frozen BK588.out 3
                  go_wp2
                  refine bodyPost_ret (results_ct rfl _ _ gb588 24 #[.bool a0_0, .string a0_1, .slice A0_2 l0_2.length c0_2, .string x588003_1] (0, 0) _ rfl (by (with_reducible repeat (first | refine blk_drewN ?_ _ | refine blk_drew ?_ | refine blk_alloc ?_ _)); refine blk_put (cs := #[.bool a0_0, .string a0_1, .slice A0_2 l0_2.length c0_2, .string x589003_1]) ?_ 3 _ rfl; (with_reducible repeat (first | refine blk_drewN ?_ _ | refine blk_drew ?_ | refine blk_alloc ?_ _)); refine blk_put (cs := #[.bool a0_0, .string a0_1, .slice none 0 0, .string x589003_1]) ?_ 2 _ rfl; (with_reducible repeat (first | refine blk_drewN ?_ _ | refine blk_drew ?_ | refine blk_alloc ?_ _)); refine blk_put (cs := #[.bool a0_0, .string x589001_1, .slice none 0 0, .string x589003_1]) ?_ 1 _ rfl; (with_reducible repeat (first | refine blk_drewN ?_ _ | refine blk_drew ?_ | refine blk_alloc ?_ _)); refine blk_put (cs := #[.bool x589000_1, .string x589001_1, .slice none 0 0, .string x589003_1]) ?_ 0 _ rfl; (with_reducible repeat (first | refine blk_drewN ?_ _ | refine blk_drew ?_ | refine blk_alloc ?_ _)); exact BK588.out) Try.underlying24 rfl (by kernel_rfl)) rfl ?_
                  exact ⟨_, by first | rfl | (simp [errW_none, errW_some] <;> rfl) | (simp [*, errW_none, errW_some] <;> rfl), by (with_reducible repeat (first | apply Kd.V_alloc | apply Kd.V_drewN | apply Kd.V_drew)); exact Kd.V_mono (Kd.V_far (p := ⟨gb588, 3, none⟩) (Kd.V_far (p := ⟨gb588, 2, none⟩) (Kd.V_far (p := ⟨gb588, 1, none⟩) (Kd.V_far (p := ⟨gb588, 0, none⟩) (Kd.V_mono HO_588002.out (fun k_ hk => (⟨hk, hk.2.2⟩ : _ ∧ k_ ≠ gb588))) (fun _ hk => hk.2) (.bool a0_0)) (fun _ hk => hk.2) (.string a0_1)) (fun _ hk => hk.2) (.slice A0_2 l0_2.length c0_2)) (fun _ hk => hk.2) (.string x588003_1)) (fun _ hk => hk.1.1), by repeat (first | (with_reducible first | exact HB.out | apply below_alloc | apply pw_below_drewN | apply below_drew1 | refine below_set ?_ GE587.out | refine below_set ?_ GE588.out) | exact HB.out)⟩
                · rw [if_neg c10] at H
                  have c10b0 : decide (256 < (wrap64 ((x588003_1.size : Int) + 2))) = false := decide_eq_false c10
                  clear c10
                  by_cases c14 : x588003_1.size + 2 ≤ 9223372036854775807
                  · rw [if_pos c14] at H
                    have c14b0 := eq_true c14
                    have c14b1 : decide (x588003_1.size + 2 ≤ 9223372036854775807) = true := decide_eq_true c14
                    try have c14b2 : (9223372036854775807 < x588003_1.size + 2) = False := eq_false (Nat.not_lt.2 c14)
                    (try (have c7b0w : x6_1 ≤ ((x6_1 + 1)) := by have h_ := c7b0; rw [show wrap64 (x6_1 + 1) = (x6_1 + 1) by unfold wrap64; omega] at h_; exact h_))
                    (try (have c7b1w : x6_1 ≤ ((x6_1 + 1)) := by have h_ := c7b1; rw [show wrap64 (x6_1 + 1) = (x6_1 + 1) by unfold wrap64; omega] at h_; exact h_))
                    (try (have c7w : x6_1 ≤ ((x6_1 + 1)) := by have h_ := c7; rw [show wrap64 (x6_1 + 1) = (x6_1 + 1) by unfold wrap64; omega] at h_; exact h_))
                    (try (have c8b0w : ((x6_1 + 1)) ≤ (a1.size : Int) := by have h_ := c8b0; rw [show wrap64 (x6_1 + 1) = (x6_1 + 1) by unfold wrap64; omega] at h_; exact h_))
                    (try (have c8b1w : ((x6_1 + 1)) ≤ (a1.size : Int) := by have h_ := c8b1; rw [show wrap64 (x6_1 + 1) = (x6_1 + 1) by unfold wrap64; omega] at h_; exact h_))
                    (try (have c8w : ((x6_1 + 1)) ≤ (a1.size : Int) := by have h_ := c8; rw [show wrap64 (x6_1 + 1) = (x6_1 + 1) by unfold wrap64; omega] at h_; exact h_))
                    (try (have c9b0w : ((a1.extract (x6_1 : Int).toNat (((x6_1 + 1)) : Int).toNat).toList == ([10] : List UInt8)) = true := by have h_ := c9b0; rw [show wrap64 (x6_1 + 1) = (x6_1 + 1) by unfold wrap64; omega] at h_; exact h_))
                    (try (have c9b1w : ((a1.extract (x6_1 : Int).toNat (((x6_1 + 1)) : Int).toNat).toList != ([10] : List UInt8)) = false := by have h_ := c9b1; rw [show wrap64 (x6_1 + 1) = (x6_1 + 1) by unfold wrap64; omega] at h_; exact h_))
                    (try (have c10b0w : decide (256 < (((x588003_1.size : Int) + 2))) = false := by have h_ := c10b0; rw [show wrap64 ((x588003_1.size : Int) + 2) = ((x588003_1.size : Int) + 2) by unfold wrap64; omega] at h_; exact h_))
                    have H' := Aside0.mk H
                    clear H
                    have hnb15 := NB587_588.out
                    have hnc15 := NB588_587.out
                    have hcz16_0 : wr.cell? ⟨gb587, 0, none⟩ = some (.bool a0_0) := (blk_cell BK587.out 0).trans rfl
                    have hcz16_1 : wr.cell? ⟨gb587, 1, none⟩ = some (.string a0_1) := (blk_cell BK587.out 1).trans rfl
                    have hcz16_2 : wr.cell? ⟨gb587, 2, none⟩ = some (.slice A0_2 l0_2.length c0_2) := (blk_cell BK587.out 2).trans rfl
                    have hcz16_3 : wr.cell? ⟨gb587, 3, none⟩ = some (.string x588003_1) := (blk_cell BK587.out 3).trans rfl
                    have hfz16_0 := blk_frozen BK587.out 0
                    have hfz16_1 := blk_frozen BK587.out 1
                    have hfz16_2 := blk_frozen BK587.out 2
                    have hfz16_3 := blk_frozen BK587.out 3
                    go_wp2
                    go_roundg k1
                    case measure => have := HK1.out; omega
                    case rel => exact ⟨(wrap64 (x6_1 + 1)), (x588003_1 ++ (⟨#[13, 10]⟩ : ByteArray)), (x589000_1), (x589001_1), (x589003_1), (by first | rfl | (simp; done) | (simp [isEmpty_ne]; done) | (simp [*]; done)), H', ⟨by have := HK1.out; omega⟩, ⟨by (with_reducible repeat (first | apply Kd.V_alloc | apply Kd.V_drewN | apply Kd.V_drew)); exact Kd.V_mono (Kd.V_far (p := ⟨gb587, 3, none⟩) (Kd.V_mono HO_588002.out (fun k_ hk => (⟨hk, hk.2.1⟩ : _ ∧ k_ ≠ gb587))) (fun _ hk => hk.2) (.string (x588003_1 ++ (⟨#[13, 10]⟩ : ByteArray)))) (fun _ hk => ⟨hk.1.1, ⟨hk.1.2.1, hk.1.2.2⟩⟩)⟩, ⟨by (with_reducible repeat (first | refine blk_drewN ?_ _ | refine blk_drew ?_ | refine blk_alloc ?_ _)); refine blk_put (cs := #[.bool a0_0, .string a0_1, .slice A0_2 l0_2.length c0_2, .string x588003_1]) ?_ 3 _ rfl; (with_reducible repeat (first | refine blk_drewN ?_ _ | refine blk_drew ?_ | refine blk_alloc ?_ _)); exact BK587.out⟩, ⟨by (with_reducible repeat (first | refine blk_drewN ?_ _ | refine blk_drew ?_ | refine blk_alloc ?_ _)); refine blk_far ?_ NB588_587.out _; (with_reducible repeat (first | refine blk_drewN ?_ _ | refine blk_drew ?_ | refine blk_alloc ?_ _)); exact BK588.out⟩, ⟨by repeat (first | (with_reducible first | exact HB.out | apply below_alloc | apply pw_below_drewN | apply below_drew1 | refine below_set ?_ GE587.out | refine below_set ?_ GE588.out) | exact HB.out)⟩⟩
                  · rw [if_neg c14] at H
                    exact absurd H (by simp)
              · rw [if_neg c9] at H
                have c9b0 : ((a1.extract (x6_1 : Int).toNat ((wrap64 (x6_1 + 1)) : Int).toNat).toList == ([10] : List UInt8)) = false := beq_eq_false_iff_ne.mpr c9
                have c9b1 : ((a1.extract (x6_1 : Int).toNat ((wrap64 (x6_1 + 1)) : Int).toNat).toList != ([10] : List UInt8)) = true := bne_iff_ne.mpr c9
                by_cases c17 : (wrap64 ((x588003_1.size : Int) + ((a1.extract (x6_1 : Int).toNat ((wrap64 (x6_1 + 1)) : Int).toNat).size : Int))) > 256
                · rw [if_pos c17] at H
                  have c17b0 : decide (256 < (wrap64 ((x588003_1.size : Int) + ((a1.extract (x6_1 : Int).toNat ((wrap64 (x6_1 + 1)) : Int).toNat).size : Int)))) = true := decide_eq_true c17
                  (try (have c17b0x : decide (256 < (wrap64 ((x588003_1.size : Int) + ((((wrap64 (x6_1 + 1)) : Int).toNat - (x6_1 : Int).toNat : Nat) : Int)))) = true := by have h_ := c17b0; rw [show (a1.extract (x6_1 : Int).toNat ((wrap64 (x6_1 + 1)) : Int).toNat).size = (((wrap64 (x6_1 + 1)) : Int).toNat - (x6_1 : Int).toNat : Nat) by rw [ByteArray.size_extract]; omega] at h_; exact h_))
                  clear c17
                  simp only [Option.some.injEq, Prod.mk.injEq] at H
                  obtain ⟨rfl, rfl, rfl, rfl, rfl⟩ := H
                  have hnb18 := NB587_588.out
                  have hnc18 := NB588_587.out
                  have hcz19_0 : wr.cell? ⟨gb587, 0, none⟩ = some (.bool a0_0) := (blk_cell BK587.out 0).trans rfl
                  have hcz19_1 : wr.cell? ⟨gb587, 1, none⟩ = some (.string a0_1) := (blk_cell BK587.out 1).trans rfl
                  have hcz19_2 : wr.cell? ⟨gb587, 2, none⟩ = some (.slice A0_2 l0_2.length c0_2) := (blk_cell BK587.out 2).trans rfl
                  have hcz19_3 : wr.cell? ⟨gb587, 3, none⟩ = some (.string x588003_1) := (blk_cell BK587.out 3).trans rfl
                  have hfz19_0 := blk_frozen BK587.out 0
                  have hfz19_1 := blk_frozen BK587.out 1
                  have hfz19_2 := blk_frozen BK587.out 2
                  have hfz19_3 := blk_frozen BK587.out 3
                  have hcz20_0 : wr.cell? ⟨gb588, 0, none⟩ = some (.bool x589000_1) := (blk_cell BK588.out 0).trans rfl
                  have hcz20_1 : wr.cell? ⟨gb588, 1, none⟩ = some (.string x589001_1) := (blk_cell BK588.out 1).trans rfl
                  have hcz20_2 : wr.cell? ⟨gb588, 2, none⟩ = some (.slice none 0 0) := (blk_cell BK588.out 2).trans rfl
                  have hcz20_3 : wr.cell? ⟨gb588, 3, none⟩ = some (.string x589003_1) := (blk_cell BK588.out 3).trans rfl
                  have hfz20_0 := blk_frozen BK588.out 0
                  have hfz20_1 := blk_frozen BK588.out 1
                  have hfz20_2 := blk_frozen BK588.out 2
                  have hfz20_3 := blk_frozen BK588.out 3
                  go_wp2
                  refine bodyPost_ret (results_ct rfl _ _ gb588 24 #[.bool a0_0, .string a0_1, .slice A0_2 l0_2.length c0_2, .string x588003_1] (0, 0) _ rfl (by (with_reducible repeat (first | refine blk_drewN ?_ _ | refine blk_drew ?_ | refine blk_alloc ?_ _)); refine blk_put (cs := #[.bool a0_0, .string a0_1, .slice A0_2 l0_2.length c0_2, .string x589003_1]) ?_ 3 _ rfl; (with_reducible repeat (first | refine blk_drewN ?_ _ | refine blk_drew ?_ | refine blk_alloc ?_ _)); refine blk_put (cs := #[.bool a0_0, .string a0_1, .slice none 0 0, .string x589003_1]) ?_ 2 _ rfl; (with_reducible repeat (first | refine blk_drewN ?_ _ | refine blk_drew ?_ | refine blk_alloc ?_ _)); refine blk_put (cs := #[.bool a0_0, .string x589001_1, .slice none 0 0, .string x589003_1]) ?_ 1 _ rfl; (with_reducible repeat (first | refine blk_drewN ?_ _ | refine blk_drew ?_ | refine blk_alloc ?_ _)); refine blk_put (cs := #[.bool x589000_1, .string x589001_1, .slice none 0 0, .string x589003_1]) ?_ 0 _ rfl; (with_reducible repeat (first | refine blk_drewN ?_ _ | refine blk_drew ?_ | refine blk_alloc ?_ _)); exact BK588.out) Try.underlying24 rfl (by kernel_rfl)) rfl ?_
                  exact ⟨_, by first | rfl | (simp [errW_none, errW_some] <;> rfl) | (simp [*, errW_none, errW_some] <;> rfl), by (with_reducible repeat (first | apply Kd.V_alloc | apply Kd.V_drewN | apply Kd.V_drew)); exact Kd.V_mono (Kd.V_far (p := ⟨gb588, 3, none⟩) (Kd.V_far (p := ⟨gb588, 2, none⟩) (Kd.V_far (p := ⟨gb588, 1, none⟩) (Kd.V_far (p := ⟨gb588, 0, none⟩) (Kd.V_mono HO_588002.out (fun k_ hk => (⟨hk, hk.2.2⟩ : _ ∧ k_ ≠ gb588))) (fun _ hk => hk.2) (.bool a0_0)) (fun _ hk => hk.2) (.string a0_1)) (fun _ hk => hk.2) (.slice A0_2 l0_2.length c0_2)) (fun _ hk => hk.2) (.string x588003_1)) (fun _ hk => hk.1.1), by repeat (first | (with_reducible first | exact HB.out | apply below_alloc | apply pw_below_drewN | apply below_drew1 | refine below_set ?_ GE587.out | refine below_set ?_ GE588.out) | exact HB.out)⟩
                · rw [if_neg c17] at H
                  have c17b0 : decide (256 < (wrap64 ((x588003_1.size : Int) + ((a1.extract (x6_1 : Int).toNat ((wrap64 (x6_1 + 1)) : Int).toNat).size : Int)))) = false := decide_eq_false c17
                  (try (have c17b0x : decide (256 < (wrap64 ((x588003_1.size : Int) + ((((wrap64 (x6_1 + 1)) : Int).toNat - (x6_1 : Int).toNat : Nat) : Int)))) = false := by have h_ := c17b0; rw [show (a1.extract (x6_1 : Int).toNat ((wrap64 (x6_1 + 1)) : Int).toNat).size = (((wrap64 (x6_1 + 1)) : Int).toNat - (x6_1 : Int).toNat : Nat) by rw [ByteArray.size_extract]; omega] at h_; exact h_))
                  clear c17
                  by_cases c21 : x588003_1.size + (a1.extract (x6_1 : Int).toNat ((wrap64 (x6_1 + 1)) : Int).toNat).size ≤ 9223372036854775807
                  · rw [if_pos c21] at H
                    have c21b0 := eq_true c21
                    have c21b1 : decide (x588003_1.size + (a1.extract (x6_1 : Int).toNat ((wrap64 (x6_1 + 1)) : Int).toNat).size ≤ 9223372036854775807) = true := decide_eq_true c21
                    try have c21b2 : (9223372036854775807 < x588003_1.size + (a1.extract (x6_1 : Int).toNat ((wrap64 (x6_1 + 1)) : Int).toNat).size) = False := eq_false (Nat.not_lt.2 c21)
                    (try (have c21b0x : (x588003_1.size + (((wrap64 (x6_1 + 1)) : Int).toNat - (x6_1 : Int).toNat : Nat) ≤ 9223372036854775807) = True := by have h_ := c21b0; rw [show (a1.extract (x6_1 : Int).toNat ((wrap64 (x6_1 + 1)) : Int).toNat).size = (((wrap64 (x6_1 + 1)) : Int).toNat - (x6_1 : Int).toNat : Nat) by rw [ByteArray.size_extract]; omega] at h_; exact h_))
                    (try (have c21b1x : decide (x588003_1.size + (((wrap64 (x6_1 + 1)) : Int).toNat - (x6_1 : Int).toNat : Nat) ≤ 9223372036854775807) = true := by have h_ := c21b1; rw [show (a1.extract (x6_1 : Int).toNat ((wrap64 (x6_1 + 1)) : Int).toNat).size = (((wrap64 (x6_1 + 1)) : Int).toNat - (x6_1 : Int).toNat : Nat) by rw [ByteArray.size_extract]; omega] at h_; exact h_))
                    (try (have c21b3 := c21b1; simp only [ByteArray.size_extract, Nat.min_self] at c21b3))
                    (try (have c21b4 := eq_true (of_decide_eq_true c21b3)))
                    (try (have c7b0w : x6_1 ≤ ((x6_1 + 1)) := by have h_ := c7b0; rw [show wrap64 (x6_1 + 1) = (x6_1 + 1) by unfold wrap64; omega] at h_; exact h_))
                    (try (have c7b1w : x6_1 ≤ ((x6_1 + 1)) := by have h_ := c7b1; rw [show wrap64 (x6_1 + 1) = (x6_1 + 1) by unfold wrap64; omega] at h_; exact h_))
                    (try (have c7w : x6_1 ≤ ((x6_1 + 1)) := by have h_ := c7; rw [show wrap64 (x6_1 + 1) = (x6_1 + 1) by unfold wrap64; omega] at h_; exact h_))
                    (try (have c8b0w : ((x6_1 + 1)) ≤ (a1.size : Int) := by have h_ := c8b0; rw [show wrap64 (x6_1 + 1) = (x6_1 + 1) by unfold wrap64; omega] at h_; exact h_))
                    (try (have c8b1w : ((x6_1 + 1)) ≤ (a1.size : Int) := by have h_ := c8b1; rw [show wrap64 (x6_1 + 1) = (x6_1 + 1) by unfold wrap64; omega] at h_; exact h_))
                    (try (have c8w : ((x6_1 + 1)) ≤ (a1.size : Int) := by have h_ := c8; rw [show wrap64 (x6_1 + 1) = (x6_1 + 1) by unfold wrap64; omega] at h_; exact h_))
                    (try (have c9b0w : ((a1.extract (x6_1 : Int).toNat (((x6_1 + 1)) : Int).toNat).toList == ([10] : List UInt8)) = false := by have h_ := c9b0; rw [show wrap64 (x6_1 + 1) = (x6_1 + 1) by unfold wrap64; omega] at h_; exact h_))
                    (try (have c9b1w : ((a1.extract (x6_1 : Int).toNat (((x6_1 + 1)) : Int).toNat).toList != ([10] : List UInt8)) = true := by have h_ := c9b1; rw [show wrap64 (x6_1 + 1) = (x6_1 + 1) by unfold wrap64; omega] at h_; exact h_))
                    (try (have c17b0w : decide (256 < (wrap64 ((x588003_1.size : Int) + ((a1.extract (x6_1 : Int).toNat (((x6_1 + 1)) : Int).toNat).size : Int)))) = false := by have h_ := c17b0; rw [show wrap64 (x6_1 + 1) = (x6_1 + 1) by unfold wrap64; omega] at h_; exact h_))
                    have H' := Aside0.mk H
                    clear H
                    have hnb22 := NB587_588.out
                    have hnc22 := NB588_587.out
                    have hcz23_0 : wr.cell? ⟨gb587, 0, none⟩ = some (.bool a0_0) := (blk_cell BK587.out 0).trans rfl
                    have hcz23_1 : wr.cell? ⟨gb587, 1, none⟩ = some (.string a0_1) := (blk_cell BK587.out 1).trans rfl
                    have hcz23_2 : wr.cell? ⟨gb587, 2, none⟩ = some (.slice A0_2 l0_2.length c0_2) := (blk_cell BK587.out 2).trans rfl
                    have hcz23_3 : wr.cell? ⟨gb587, 3, none⟩ = some (.string x588003_1) := (blk_cell BK587.out 3).trans rfl
                    have hfz23_0 := blk_frozen BK587.out 0
                    have hfz23_1 := blk_frozen BK587.out 1
                    have hfz23_2 := blk_frozen BK587.out 2
                    have hfz23_3 := blk_frozen BK587.out 3
                    go_wp2
                    go_roundg k1
                    case measure => have := HK1.out; omega
                    case rel => exact ⟨(wrap64 (x6_1 + 1)), (x588003_1 ++ (a1.extract (x6_1 : Int).toNat ((wrap64 (x6_1 + 1)) : Int).toNat)), (x589000_1), (x589001_1), (x589003_1), (by first | rfl | (simp; done) | (simp [isEmpty_ne]; done) | (simp [*]; done)), H', ⟨by have := HK1.out; omega⟩, ⟨by (with_reducible repeat (first | apply Kd.V_alloc | apply Kd.V_drewN | apply Kd.V_drew)); exact Kd.V_mono (Kd.V_far (p := ⟨gb587, 3, none⟩) (Kd.V_mono HO_588002.out (fun k_ hk => (⟨hk, hk.2.1⟩ : _ ∧ k_ ≠ gb587))) (fun _ hk => hk.2) (.string (x588003_1 ++ (a1.extract (x6_1 : Int).toNat ((wrap64 (x6_1 + 1)) : Int).toNat)))) (fun _ hk => ⟨hk.1.1, ⟨hk.1.2.1, hk.1.2.2⟩⟩)⟩, ⟨by (with_reducible repeat (first | refine blk_drewN ?_ _ | refine blk_drew ?_ | refine blk_alloc ?_ _)); refine blk_put (cs := #[.bool a0_0, .string a0_1, .slice A0_2 l0_2.length c0_2, .string x588003_1]) ?_ 3 _ rfl; (with_reducible repeat (first | refine blk_drewN ?_ _ | refine blk_drew ?_ | refine blk_alloc ?_ _)); exact BK587.out⟩, ⟨by (with_reducible repeat (first | refine blk_drewN ?_ _ | refine blk_drew ?_ | refine blk_alloc ?_ _)); refine blk_far ?_ NB588_587.out _; (with_reducible repeat (first | refine blk_drewN ?_ _ | refine blk_drew ?_ | refine blk_alloc ?_ _)); exact BK588.out⟩, ⟨by repeat (first | (with_reducible first | exact HB.out | apply below_alloc | apply pw_below_drewN | apply below_drew1 | refine below_set ?_ GE587.out | refine below_set ?_ GE588.out) | exact HB.out)⟩⟩
                  · rw [if_neg c21] at H
                    exact absurd H (by simp)
            · rw [if_neg c8] at H
              exact absurd H (by simp)
          · rw [if_neg c7] at H
            exact absurd H (by simp)
        · rw [if_neg c6] at H
          exact absurd H (by simp)
      · rw [if_neg c5] at H
        have c5b0 : decide (x6_1 < (a1.size : Int)) = false := decide_eq_false c5
        clear c5
        simp only [Option.some.injEq, Prod.mk.injEq] at H
        obtain ⟨rfl, rfl, rfl, rfl, rfl⟩ := H
        have hnb24 := NB587_588.out
        have hnc24 := NB588_587.out
        have hcz25_0 : wr.cell? ⟨gb587, 0, none⟩ = some (.bool a0_0) := (blk_cell BK587.out 0).trans rfl
        have hcz25_1 : wr.cell? ⟨gb587, 1, none⟩ = some (.string a0_1) := (blk_cell BK587.out 1).trans rfl
        have hcz25_2 : wr.cell? ⟨gb587, 2, none⟩ = some (.slice A0_2 l0_2.length c0_2) := (blk_cell BK587.out 2).trans rfl
        have hcz25_3 : wr.cell? ⟨gb587, 3, none⟩ = some (.string x588003_1) := (blk_cell BK587.out 3).trans rfl
        have hfz25_0 := blk_frozen BK587.out 0
        have hfz25_1 := blk_frozen BK587.out 1
        have hfz25_2 := blk_frozen BK587.out 2
        have hfz25_3 := blk_frozen BK587.out 3
        have hcz26_0 : wr.cell? ⟨gb588, 0, none⟩ = some (.bool x589000_1) := (blk_cell BK588.out 0).trans rfl
        have hcz26_1 : wr.cell? ⟨gb588, 1, none⟩ = some (.string x589001_1) := (blk_cell BK588.out 1).trans rfl
        have hcz26_2 : wr.cell? ⟨gb588, 2, none⟩ = some (.slice none 0 0) := (blk_cell BK588.out 2).trans rfl
        have hcz26_3 : wr.cell? ⟨gb588, 3, none⟩ = some (.string x589003_1) := (blk_cell BK588.out 3).trans rfl
        have hfz26_0 := blk_frozen BK588.out 0
        have hfz26_1 := blk_frozen BK588.out 1
        have hfz26_2 := blk_frozen BK588.out 2
        have hfz26_3 := blk_frozen BK588.out 3
        go_wp2
        refine bodyPost_ret (results_ct rfl _ _ gb588 24 #[.bool a0_0, .string a0_1, .slice A0_2 l0_2.length c0_2, .string x588003_1] (0, 0) _ rfl (by (with_reducible repeat (first | refine blk_drewN ?_ _ | refine blk_drew ?_ | refine blk_alloc ?_ _)); refine blk_put (cs := #[.bool a0_0, .string a0_1, .slice A0_2 l0_2.length c0_2, .string x589003_1]) ?_ 3 _ rfl; (with_reducible repeat (first | refine blk_drewN ?_ _ | refine blk_drew ?_ | refine blk_alloc ?_ _)); refine blk_put (cs := #[.bool a0_0, .string a0_1, .slice none 0 0, .string x589003_1]) ?_ 2 _ rfl; (with_reducible repeat (first | refine blk_drewN ?_ _ | refine blk_drew ?_ | refine blk_alloc ?_ _)); refine blk_put (cs := #[.bool a0_0, .string x589001_1, .slice none 0 0, .string x589003_1]) ?_ 1 _ rfl; (with_reducible repeat (first | refine blk_drewN ?_ _ | refine blk_drew ?_ | refine blk_alloc ?_ _)); refine blk_put (cs := #[.bool x589000_1, .string x589001_1, .slice none 0 0, .string x589003_1]) ?_ 0 _ rfl; (with_reducible repeat (first | refine blk_drewN ?_ _ | refine blk_drew ?_ | refine blk_alloc ?_ _)); exact BK588.out) Try.underlying24 rfl (by kernel_rfl)) rfl ?_
        exact ⟨_, by first | rfl | (simp [errW_none, errW_some] <;> rfl) | (simp [*, errW_none, errW_some] <;> rfl), by (with_reducible repeat (first | apply Kd.V_alloc | apply Kd.V_drewN | apply Kd.V_drew)); exact Kd.V_mono (Kd.V_far (p := ⟨gb588, 3, none⟩) (Kd.V_far (p := ⟨gb588, 2, none⟩) (Kd.V_far (p := ⟨gb588, 1, none⟩) (Kd.V_far (p := ⟨gb588, 0, none⟩) (Kd.V_mono HO_588002.out (fun k_ hk => (⟨hk, hk.2.2⟩ : _ ∧ k_ ≠ gb588))) (fun _ hk => hk.2) (.bool a0_0)) (fun _ hk => hk.2) (.string a0_1)) (fun _ hk => hk.2) (.slice A0_2 l0_2.length c0_2)) (fun _ hk => hk.2) (.string x588003_1)) (fun _ hk => hk.1.1), by repeat (first | (with_reducible first | exact HB.out | apply below_alloc | apply pw_below_drewN | apply below_drew1 | refine below_set ?_ GE587.out | refine below_set ?_ GE588.out) | exact HB.out)⟩

/-! ### emulatorref43_Next: function 28 -/
def emulatorref43_Next.f (a0_0 : Bool) (a0_1 : ByteArray) (l0_2 : List ByteArray) (a0_3 : ByteArray) : Option (Bool × ByteArray × List ByteArray × ByteArray × Int × Bool) := if a0_3.toList = ([] : List UInt8) then (some (a0_0, a0_1, l0_2, a0_3, 0, false)) else (if 0 < (a0_3.size : Int) then (if 1 ≤ (a0_3.size : Int) then (some (a0_0, a0_1, l0_2, a0_3.extract 1 a0_3.size, wrap64 (bt a0_3 0), true)) else (none)) else (none))
set_option maxHeartbeats 8000000 in
set_option maxRecDepth 100000 in
theorem emulatorref43_Next.calls (a0_0 : Bool) (a0_1 : ByteArray) (P0_2_ : Nat → Prop) (A0_2 : Option Addr) (c0_2 : Nat) (l0_2 : List ByteArray) (a0_3 : ByteArray) (r1 : Bool) (r2 : ByteArray) (r3 : List ByteArray) (r4 : ByteArray) (r5 : Int) (r6 : Bool) (w : World) (hs0_2 : Kd.V Kd.string 9 w w.heap.size (fun k_ => P0_2_ k_) (.slice A0_2 l0_2.length c0_2) l0_2) (h : emulatorref43_Next.f a0_0 a0_1 l0_2 a0_3 = some (r1, r2, r3, r4, r5, r6)) :
    Calls Try.prog 28 #[.agg #[.bool a0_0, .string a0_1, .slice A0_2 l0_2.length c0_2, .string a0_3]] w fun e w' => ∃ v2_ : Value, e = .returned (.tuple #[.agg #[.bool r1, .string r2, v2_, .string r4], .int .i64 r5, .bool r6]) ∧ Kd.V Kd.string 9 w' w.heap.size (fun k_ => (P0_2_ k_ ∨ w.heap.size ≤ k_)) v2_ r3 ∧ Below w.heap.size w w' := by
  have hu24 := Try.underlying24
  have HO0_2 := Aside0.mk (show Kd.V Kd.string 9 w w.heap.size (fun k_ => (P0_2_ k_ ∨ w.heap.size ≤ k_)) (.slice A0_2 l0_2.length c0_2) l0_2 from Kd.V_mono hs0_2 (fun k_ hk => .inl hk))
  have HB := Aside0.mk (Below.refl w.heap.size w)
  have H : (if a0_3.toList = ([] : List UInt8) then (some (a0_0, a0_1, l0_2, a0_3, 0, false)) else (if 0 < (a0_3.size : Int) then (if 1 ≤ (a0_3.size : Int) then (some (a0_0, a0_1, l0_2, a0_3.extract 1 a0_3.size, wrap64 (bt a0_3 0), true)) else (none)) else (none))) = some (r1, r2, r3, r4, r5, r6) := h
  clear h
  by_cases c2 : a0_3.toList = ([] : List UInt8)
  · rw [if_pos c2] at H
    have c2b0 : (a0_3.toList == ([] : List UInt8)) = true := beq_iff_eq.mpr c2
    have c2b1 : (a0_3.toList != ([] : List UInt8)) = false := bne_eq_false_iff_eq.mpr c2
    clear c2
    simp only [Option.some.injEq, Prod.mk.injEq] at H
    obtain ⟨rfl, rfl, rfl, rfl, rfl, rfl⟩ := H
    go_enter Try.func28, Try.ntmps28
    go_wp2_with (first | ((with_reducible refine gate_dst (N := 1) rfl ?_); refine box_event ?hg (N := 1) ?hd (cs := #[.bool a0_0, .string a0_1, .slice A0_2 l0_2.length c0_2, .string a0_3]) (t := 24) ?hr ?_; (case hd => rfl); (case hg => rfl); (case hr => first | (go_simp; done) | (go_simp; rfl)); intro gb589 hg w3 hbox hb; have n0_ := Aside0.mk (Kd.V_below (Kd.V_elderB (by (with_reducible repeat (first | apply Kd.V_alloc | apply Kd.V_drewN | apply Kd.V_drew)); exact HO0_2.out) gb589 (Nat.le_of_eq hg.symm)) hb); have n1_ := Aside0.mk (below_step (by repeat (first | (with_reducible first | exact HB.out | apply below_alloc | apply pw_below_drewN | apply below_drew1) | exact HB.out)) hb); have n2_ := Aside0.mk (hbox); have n3_ := Aside0.mk ((by rw [hg]; exact (below_size (by repeat (first | (with_reducible first | exact HB.out | apply below_alloc | apply pw_below_drewN | apply below_drew1) | exact HB.out))) : w.heap.size ≤ gb589)); have n4_ := Aside0.mk ((by rw [hg]; exact (below_size (by repeat (first | (with_reducible first | exact HB.out | apply below_alloc | apply pw_below_drewN | apply below_drew1) | exact HB.out))) : w.heap.size ≤ gb589)); clear HO0_2; clear HB; have HO0_2 := n0_; have HB := n1_; have BK589 := n2_; have GW589 := n3_; have GE589 := n4_; clear n0_ n1_ n2_ n3_ n4_; clear hb hbox hg) | ((with_reducible refine gate_dst (N := 2) rfl ?_); refine box_event ?hg (N := 2) ?hd (cs := #[.bool false, .string (⟨#[]⟩ : ByteArray), .slice none 0 0, .string (⟨#[]⟩ : ByteArray)]) (t := 24) ?hr ?_; (case hd => rfl); (case hg => rfl); (case hr => first | (go_simp; done) | (go_simp; rfl)); intro gb590 hg w4 hbox hb; have n0_ := Aside0.mk (Kd.V_below (Kd.V_elderB (by (with_reducible repeat (first | apply Kd.V_alloc | apply Kd.V_drewN | apply Kd.V_drew)); exact HO0_2.out) gb590 (Nat.le_of_eq hg.symm)) hb); have n1_ := Aside0.mk (blk_below (g := gb589) (o := .cells #[.bool a0_0, .string a0_1, .slice A0_2 l0_2.length c0_2, .string a0_3] 24 (0, 0)) (by (with_reducible repeat (first | refine blk_drewN ?_ _ | refine blk_drew ?_ | refine blk_alloc ?_ _)); exact BK589.out) hb); have n2_ := Aside0.mk (below_step (by repeat (first | (with_reducible first | exact HB.out | apply below_alloc | apply pw_below_drewN | apply below_drew1 | refine below_set ?_ GE589.out) | exact HB.out)) hb); have n3_ := Aside0.mk (hbox); have n4_ := Aside0.mk ((by rw [hg]; exact (below_size (by repeat (first | (with_reducible first | exact HB.out | apply below_alloc | apply pw_below_drewN | apply below_drew1 | refine below_set ?_ GE589.out) | exact HB.out))) : w.heap.size ≤ gb590)); have n5_ := Aside0.mk ((by rw [hg]; exact (below_size (by repeat (first | (with_reducible first | exact HB.out | apply below_alloc | apply pw_below_drewN | apply below_drew1 | refine below_set ?_ GE589.out) | exact HB.out))) : w.heap.size ≤ gb590)); have n6_ := Aside0.mk ((by rw [hg]; exact Nat.ne_of_lt (blk_lt (g := gb589) (o := .cells #[.bool a0_0, .string a0_1, .slice A0_2 l0_2.length c0_2, .string a0_3] 24 (0, 0)) (by (with_reducible repeat (first | refine blk_drewN ?_ _ | refine blk_drew ?_ | refine blk_alloc ?_ _)); exact BK589.out)) : gb589 ≠ gb590)); have n7_ := Aside0.mk ((by rw [hg]; exact Nat.ne_of_gt (blk_lt (g := gb589) (o := .cells #[.bool a0_0, .string a0_1, .slice A0_2 l0_2.length c0_2, .string a0_3] 24 (0, 0)) (by (with_reducible repeat (first | refine blk_drewN ?_ _ | refine blk_drew ?_ | refine blk_alloc ?_ _)); exact BK589.out)) : gb590 ≠ gb589)); clear HO0_2; clear BK589; clear HB; have HO0_2 := n0_; have BK589 := n1_; have HB := n2_; have BK590 := n3_; have GW590 := n4_; have GE590 := n5_; have NB589_590 := n6_; have NB590_589 := n7_; clear n0_ n1_ n2_ n3_ n4_ n5_ n6_ n7_; clear hb hbox hg; have hnb5 := NB589_590.out; have hnc5 := NB590_589.out; have hcz6_0 : w4.cell? ⟨gb589, 0, none⟩ = some (.bool a0_0) := (blk_cell BK589.out 0).trans rfl; have hcz6_1 : w4.cell? ⟨gb589, 1, none⟩ = some (.string a0_1) := (blk_cell BK589.out 1).trans rfl; have hcz6_2 : w4.cell? ⟨gb589, 2, none⟩ = some (.slice A0_2 l0_2.length c0_2) := (blk_cell BK589.out 2).trans rfl; have hcz6_3 : w4.cell? ⟨gb589, 3, none⟩ = some (.string a0_3) := (blk_cell BK589.out 3).trans rfl; have hfz6_0 := blk_frozen BK589.out 0; have hfz6_1 := blk_frozen BK589.out 1; have hfz6_2 := blk_frozen BK589.out 2; have hfz6_3 := blk_frozen BK589.out 3; have hcz7_0 : w4.cell? ⟨gb590, 0, none⟩ = some (.bool false) := (blk_cell BK590.out 0).trans rfl; have hcz7_1 : w4.cell? ⟨gb590, 1, none⟩ = some (.string (⟨#[]⟩ : ByteArray)) := (blk_cell BK590.out 1).trans rfl; have hcz7_2 : w4.cell? ⟨gb590, 2, none⟩ = some (.slice none 0 0) := (blk_cell BK590.out 2).trans rfl; have hcz7_3 : w4.cell? ⟨gb590, 3, none⟩ = some (.string (⟨#[]⟩ : ByteArray)) := (blk_cell BK590.out 3).trans rfl; have hfz7_0 := blk_frozen BK590.out 0; have hfz7_1 := blk_frozen BK590.out 1; have hfz7_2 := blk_frozen BK590.out 2; have hfz7_3 := blk_frozen BK590.out 3))
    refine bodyPost_ret (results_ctt rfl _ _ gb590 24 #[.bool a0_0, .string a0_1, .slice A0_2 l0_2.length c0_2, .string a0_3] (0, 0) _ rfl (by (with_reducible repeat (first | refine blk_drewN ?_ _ | refine blk_drew ?_ | refine blk_alloc ?_ _)); refine blk_put (cs := #[.bool a0_0, .string a0_1, .slice A0_2 l0_2.length c0_2, .string (⟨#[]⟩ : ByteArray)]) ?_ 3 _ rfl; (with_reducible repeat (first | refine blk_drewN ?_ _ | refine blk_drew ?_ | refine blk_alloc ?_ _)); refine blk_put (cs := #[.bool a0_0, .string a0_1, .slice none 0 0, .string (⟨#[]⟩ : ByteArray)]) ?_ 2 _ rfl; (with_reducible repeat (first | refine blk_drewN ?_ _ | refine blk_drew ?_ | refine blk_alloc ?_ _)); refine blk_put (cs := #[.bool a0_0, .string (⟨#[]⟩ : ByteArray), .slice none 0 0, .string (⟨#[]⟩ : ByteArray)]) ?_ 1 _ rfl; (with_reducible repeat (first | refine blk_drewN ?_ _ | refine blk_drew ?_ | refine blk_alloc ?_ _)); refine blk_put (cs := #[.bool false, .string (⟨#[]⟩ : ByteArray), .slice none 0 0, .string (⟨#[]⟩ : ByteArray)]) ?_ 0 _ rfl; (with_reducible repeat (first | refine blk_drewN ?_ _ | refine blk_drew ?_ | refine blk_alloc ?_ _)); exact BK590.out) Try.underlying24 rfl (by kernel_rfl)) rfl ?_
    exact ⟨_, by first | rfl | (simp [errW_none, errW_some] <;> rfl) | (simp [*, errW_none, errW_some] <;> rfl), by (with_reducible repeat (first | apply Kd.V_alloc | apply Kd.V_drewN | apply Kd.V_drew)); exact Kd.V_mono (Kd.V_far (p := ⟨gb590, 3, none⟩) (Kd.V_far (p := ⟨gb590, 2, none⟩) (Kd.V_far (p := ⟨gb590, 1, none⟩) (Kd.V_far (p := ⟨gb590, 0, none⟩) (Kd.V_mono HO0_2.out (fun k_ hk => (⟨hk, hk.2⟩ : _ ∧ k_ ≠ gb590))) (fun _ hk => hk.2) (.bool a0_0)) (fun _ hk => hk.2) (.string a0_1)) (fun _ hk => hk.2) (.slice A0_2 l0_2.length c0_2)) (fun _ hk => hk.2) (.string a0_3)) (fun _ hk => hk.1.1.1), by repeat (first | (with_reducible first | exact HB.out | apply below_alloc | apply pw_below_drewN | apply below_drew1 | refine below_set ?_ GE589.out | refine below_set ?_ GE590.out) | exact HB.out)⟩
  · rw [if_neg c2] at H
    have c2b0 : (a0_3.toList == ([] : List UInt8)) = false := beq_eq_false_iff_ne.mpr c2
    have c2b1 : (a0_3.toList != ([] : List UInt8)) = true := bne_iff_ne.mpr c2
    by_cases c8 : 0 < (a0_3.size : Int)
    · rw [if_pos c8] at H
      have c8b0 : decide (0 < (a0_3.size : Int)) = true := decide_eq_true c8
      have c8b1 : decide (0 < a0_3.size) = true := decide_eq_true (by omega)
      clear c8
      by_cases c10 : 1 ≤ (a0_3.size : Int)
      · rw [if_pos c10] at H
        have c10b0 := eq_true c10
        have c10b1 : decide (1 ≤ (a0_3.size : Int)) = true := decide_eq_true c10
        clear c10
        simp only [Option.some.injEq, Prod.mk.injEq] at H
        obtain ⟨rfl, rfl, rfl, rfl, rfl, rfl⟩ := H
        go_enter Try.func28, Try.ntmps28
        go_wp2_with (first | ((with_reducible refine gate_dst (N := 1) rfl ?_); refine box_event ?hg (N := 1) ?hd (cs := #[.bool a0_0, .string a0_1, .slice A0_2 l0_2.length c0_2, .string a0_3]) (t := 24) ?hr ?_; (case hd => rfl); (case hg => rfl); (case hr => first | (go_simp; done) | (go_simp; rfl)); intro gb589 hg w11 hbox hb; have n0_ := Aside0.mk (Kd.V_below (Kd.V_elderB (by (with_reducible repeat (first | apply Kd.V_alloc | apply Kd.V_drewN | apply Kd.V_drew)); exact HO0_2.out) gb589 (Nat.le_of_eq hg.symm)) hb); have n1_ := Aside0.mk (below_step (by repeat (first | (with_reducible first | exact HB.out | apply below_alloc | apply pw_below_drewN | apply below_drew1) | exact HB.out)) hb); have n2_ := Aside0.mk (hbox); have n3_ := Aside0.mk ((by rw [hg]; exact (below_size (by repeat (first | (with_reducible first | exact HB.out | apply below_alloc | apply pw_below_drewN | apply below_drew1) | exact HB.out))) : w.heap.size ≤ gb589)); have n4_ := Aside0.mk ((by rw [hg]; exact (below_size (by repeat (first | (with_reducible first | exact HB.out | apply below_alloc | apply pw_below_drewN | apply below_drew1) | exact HB.out))) : w.heap.size ≤ gb589)); clear HO0_2; clear HB; have HO0_2 := n0_; have HB := n1_; have BK589 := n2_; have GW589 := n3_; have GE589 := n4_; clear n0_ n1_ n2_ n3_ n4_; clear hb hbox hg) | ((with_reducible refine gate_dst (N := 2) rfl ?_); refine box_event ?hg (N := 2) ?hd (cs := #[.bool false, .string (⟨#[]⟩ : ByteArray), .slice none 0 0, .string (⟨#[]⟩ : ByteArray)]) (t := 24) ?hr ?_; (case hd => rfl); (case hg => rfl); (case hr => first | (go_simp; done) | (go_simp; rfl)); intro gb590 hg w12 hbox hb; have n0_ := Aside0.mk (Kd.V_below (Kd.V_elderB (by (with_reducible repeat (first | apply Kd.V_alloc | apply Kd.V_drewN | apply Kd.V_drew)); exact HO0_2.out) gb590 (Nat.le_of_eq hg.symm)) hb); have n1_ := Aside0.mk (blk_below (g := gb589) (o := .cells #[.bool a0_0, .string a0_1, .slice A0_2 l0_2.length c0_2, .string a0_3] 24 (0, 0)) (by (with_reducible repeat (first | refine blk_drewN ?_ _ | refine blk_drew ?_ | refine blk_alloc ?_ _)); exact BK589.out) hb); have n2_ := Aside0.mk (below_step (by repeat (first | (with_reducible first | exact HB.out | apply below_alloc | apply pw_below_drewN | apply below_drew1 | refine below_set ?_ GE589.out) | exact HB.out)) hb); have n3_ := Aside0.mk (hbox); have n4_ := Aside0.mk ((by rw [hg]; exact (below_size (by repeat (first | (with_reducible first | exact HB.out | apply below_alloc | apply pw_below_drewN | apply below_drew1 | refine below_set ?_ GE589.out) | exact HB.out))) : w.heap.size ≤ gb590)); have n5_ := Aside0.mk ((by rw [hg]; exact (below_size (by repeat (first | (with_reducible first | exact HB.out | apply below_alloc | apply pw_below_drewN | apply below_drew1 | refine below_set ?_ GE589.out) | exact HB.out))) : w.heap.size ≤ gb590)); have n6_ := Aside0.mk ((by rw [hg]; exact Nat.ne_of_lt (blk_lt (g := gb589) (o := .cells #[.bool a0_0, .string a0_1, .slice A0_2 l0_2.length c0_2, .string a0_3] 24 (0, 0)) (by (with_reducible repeat (first | refine blk_drewN ?_ _ | refine blk_drew ?_ | refine blk_alloc ?_ _)); exact BK589.out)) : gb589 ≠ gb590)); have n7_ := Aside0.mk ((by rw [hg]; exact Nat.ne_of_gt (blk_lt (g := gb589) (o := .cells #[.bool a0_0, .string a0_1, .slice A0_2 l0_2.length c0_2, .string a0_3] 24 (0, 0)) (by (with_reducible repeat (first | refine blk_drewN ?_ _ | refine blk_drew ?_ | refine blk_alloc ?_ _)); exact BK589.out)) : gb590 ≠ gb589)); clear HO0_2; clear BK589; clear HB; have HO0_2 := n0_; have BK589 := n1_; have HB := n2_; have BK590 := n3_; have GW590 := n4_; have GE590 := n5_; have NB589_590 := n6_; have NB590_589 := n7_; clear n0_ n1_ n2_ n3_ n4_ n5_ n6_ n7_; clear hb hbox hg; have hnb13 := NB589_590.out; have hnc13 := NB590_589.out; have hcz14_0 : w12.cell? ⟨gb589, 0, none⟩ = some (.bool a0_0) := (blk_cell BK589.out 0).trans rfl; have hcz14_1 : w12.cell? ⟨gb589, 1, none⟩ = some (.string a0_1) := (blk_cell BK589.out 1).trans rfl; have hcz14_2 : w12.cell? ⟨gb589, 2, none⟩ = some (.slice A0_2 l0_2.length c0_2) := (blk_cell BK589.out 2).trans rfl; have hcz14_3 : w12.cell? ⟨gb589, 3, none⟩ = some (.string a0_3) := (blk_cell BK589.out 3).trans rfl; have hfz14_0 := blk_frozen BK589.out 0; have hfz14_1 := blk_frozen BK589.out 1; have hfz14_2 := blk_frozen BK589.out 2; have hfz14_3 := blk_frozen BK589.out 3; have p9 : 0 ≤ (0 : Int) := (by omega); have q9 : 0 < a0_3.size := (by have : (0 : Int) < (a0_3.size : Int) := of_decide_eq_true (by first | (with_reducible assumption) | assumption); omega); have hx9 : ∀ h : 0 < a0_3.size, ((a0_3[0]'h).toNat : Int) = bt a0_3 0 := bt_at a0_3 0; clear p9; have qi9 : (0 < (a0_3.size : Int)) = True := eq_true (of_decide_eq_true (by first | (with_reducible assumption) | assumption)); replace q9 := eq_true q9; have hcz15_0 : w12.cell? ⟨gb590, 0, none⟩ = some (.bool false) := (blk_cell BK590.out 0).trans rfl; have hcz15_1 : w12.cell? ⟨gb590, 1, none⟩ = some (.string (⟨#[]⟩ : ByteArray)) := (blk_cell BK590.out 1).trans rfl; have hcz15_2 : w12.cell? ⟨gb590, 2, none⟩ = some (.slice none 0 0) := (blk_cell BK590.out 2).trans rfl; have hcz15_3 : w12.cell? ⟨gb590, 3, none⟩ = some (.string (⟨#[]⟩ : ByteArray)) := (blk_cell BK590.out 3).trans rfl; have hfz15_0 := blk_frozen BK590.out 0; have hfz15_1 := blk_frozen BK590.out 1; have hfz15_2 := blk_frozen BK590.out 2; have hfz15_3 := blk_frozen BK590.out 3))
        refine bodyPost_ret (results_ctt rfl _ _ gb590 24 #[.bool a0_0, .string a0_1, .slice A0_2 l0_2.length c0_2, .string (a0_3.extract 1 a0_3.size)] (0, 0) _ rfl (by (with_reducible repeat (first | refine blk_drewN ?_ _ | refine blk_drew ?_ | refine blk_alloc ?_ _)); refine blk_put (cs := #[.bool a0_0, .string a0_1, .slice A0_2 l0_2.length c0_2, .string (⟨#[]⟩ : ByteArray)]) ?_ 3 _ rfl; (with_reducible repeat (first | refine blk_drewN ?_ _ | refine blk_drew ?_ | refine blk_alloc ?_ _)); refine blk_put (cs := #[.bool a0_0, .string a0_1, .slice none 0 0, .string (⟨#[]⟩ : ByteArray)]) ?_ 2 _ rfl; (with_reducible repeat (first | refine blk_drewN ?_ _ | refine blk_drew ?_ | refine blk_alloc ?_ _)); refine blk_put (cs := #[.bool a0_0, .string (⟨#[]⟩ : ByteArray), .slice none 0 0, .string (⟨#[]⟩ : ByteArray)]) ?_ 1 _ rfl; (with_reducible repeat (first | refine blk_drewN ?_ _ | refine blk_drew ?_ | refine blk_alloc ?_ _)); refine blk_put (cs := #[.bool false, .string (⟨#[]⟩ : ByteArray), .slice none 0 0, .string (⟨#[]⟩ : ByteArray)]) ?_ 0 _ rfl; (with_reducible repeat (first | refine blk_drewN ?_ _ | refine blk_drew ?_ | refine blk_alloc ?_ _)); refine blk_far ?_ NB590_589.out _; (with_reducible repeat (first | refine blk_drewN ?_ _ | refine blk_drew ?_ | refine blk_alloc ?_ _)); exact BK590.out) Try.underlying24 rfl (by kernel_rfl)) rfl ?_
        exact ⟨_, by first | rfl | (simp [errW_none, errW_some] <;> rfl) | (simp [*, errW_none, errW_some] <;> rfl), by (with_reducible repeat (first | apply Kd.V_alloc | apply Kd.V_drewN | apply Kd.V_drew)); exact Kd.V_mono (Kd.V_far (p := ⟨gb590, 3, none⟩) (Kd.V_far (p := ⟨gb590, 2, none⟩) (Kd.V_far (p := ⟨gb590, 1, none⟩) (Kd.V_far (p := ⟨gb590, 0, none⟩) (Kd.V_far (p := ⟨gb589, 3, none⟩) (Kd.V_mono (Kd.V_mono HO0_2.out (fun k_ hk => (⟨hk, hk.1.2⟩ : _ ∧ k_ ≠ gb589))) (fun k_ hk => (⟨hk, hk.1.2⟩ : _ ∧ k_ ≠ gb590))) (fun _ hk => hk.1.2) (.string (a0_3.extract 1 a0_3.size))) (fun _ hk => hk.2) (.bool a0_0)) (fun _ hk => hk.2) (.string a0_1)) (fun _ hk => hk.2) (.slice A0_2 l0_2.length c0_2)) (fun _ hk => hk.2) (.string (a0_3.extract 1 a0_3.size))) (fun _ hk => hk.1.1.1.1), by repeat (first | (with_reducible first | exact HB.out | apply below_alloc | apply pw_below_drewN | apply below_drew1 | refine below_set ?_ GE589.out | refine below_set ?_ GE590.out) | exact HB.out)⟩
      · rw [if_neg c10] at H
        exact absurd H (by simp)
    · rw [if_neg c8] at H
      exact absurd H (by simp)

end Go.Proofs.Ytgcmhfoegbaaiaa.K
