-- Printed by a program of this session out of Lean's print of the translation. Lean checks it.
import Derived.Test.YtenlmckahaniiaaKx0
namespace Go.Proofs.Ytenlmckahaniiaa.K
open Go.RowKit Go.Proofs.YtenlmckahaniiaaW.PrintWords Go.Proofs.YtenlmckahaniiaaW.PrintLast
set_option linter.unusedVariables false
set_option linter.unusedSimpArgs false

/-! ### emulatorref28_Needs: function 28 -/
mutual
def emulatorref28_Needs.l0 : Nat → List ByteArray → Int → ByteArray → ByteArray → ByteArray → Int → List (S62) → List (S43) → Option (List ByteArray)
  | 0, _, _, _, _, _, _, _, _ => none
  | k + 1, x3, x4, x685000, x685001, x685002, x685003, x685004, x685005 => if x4 < (x685005.length : Int) then (if 0 ≤ x4 then (if ((rd_T43 x685005 x4).f2) = 4 then (emulatorref28_Needs.l1 k x3 x4 ((rd_T43 x685005 x4).f3) 0 x685000 x685001 x685002 x685003 x685004 x685005) else (emulatorref28_Needs.l0 k x3 (wrap64 (x4 + 1)) x685000 x685001 x685002 x685003 x685004 x685005)) else (none)) else (some x3)
def emulatorref28_Needs.l1 : Nat → List ByteArray → Int → ByteArray → Int → ByteArray → ByteArray → ByteArray → Int → List (S62) → List (S43) → Option (List ByteArray)
  | 0, _, _, _, _, _, _, _, _, _, _ => none
  | k + 1, x3, x4, x5, x6, x685000, x685001, x685002, x685003, x685004, x685005 => if x6 < (x3.length : Int) then (if 0 ≤ x6 then (if (Op.bytesLess ((rdOf ByteArray.empty x3 x6).toList) x5.toList) = true then (emulatorref28_Needs.l1 k x3 x4 x5 (wrap64 (x6 + 1)) x685000 x685001 x685002 x685003 x685004 x685005) else (if x6 = (x3.length : Int) then (if x6 ≤ (x3.length : Int) then ((some (x3.take (x6 : Int).toNat : List ByteArray)).bind fun y688 => (if ([] : List ByteArray).length + y688.length < 8796093022208 then ((some (([] : List ByteArray) ++ y688 : List ByteArray)).bind fun y692 => (if y692.length < 8796093022208 then ((some (y692 ++ [x5] : List ByteArray)).bind fun y695 => ((some (x3.drop (x6 : Int).toNat : List ByteArray)).bind fun y698 => (if y695.length + y698.length < 8796093022208 then (emulatorref28_Needs.l0 k (y695 ++ y698) (wrap64 (x4 + 1)) x685000 x685001 x685002 x685003 x685004 x685005) else (none)))) else (none))) else (none))) else (none)) else (if (rdOf ByteArray.empty x3 x6).toList = x5.toList then (emulatorref28_Needs.l0 k x3 (wrap64 (x4 + 1)) x685000 x685001 x685002 x685003 x685004 x685005) else (if x6 ≤ (x3.length : Int) then ((some (x3.take (x6 : Int).toNat : List ByteArray)).bind fun y706 => (if ([] : List ByteArray).length + y706.length < 8796093022208 then ((some (([] : List ByteArray) ++ y706 : List ByteArray)).bind fun y710 => (if y710.length < 8796093022208 then ((some (y710 ++ [x5] : List ByteArray)).bind fun y713 => ((some (x3.drop (x6 : Int).toNat : List ByteArray)).bind fun y716 => (if y713.length + y716.length < 8796093022208 then (emulatorref28_Needs.l0 k (y713 ++ y716) (wrap64 (x4 + 1)) x685000 x685001 x685002 x685003 x685004 x685005) else (none)))) else (none))) else (none))) else (none))))) else (none)) else (if x6 = (x3.length : Int) then (if 0 ≤ x6 then (if x6 ≤ (x3.length : Int) then ((some (x3.take (x6 : Int).toNat : List ByteArray)).bind fun y723 => (if ([] : List ByteArray).length + y723.length < 8796093022208 then ((some (([] : List ByteArray) ++ y723 : List ByteArray)).bind fun y727 => (if y727.length < 8796093022208 then ((some (y727 ++ [x5] : List ByteArray)).bind fun y730 => ((some (x3.drop (x6 : Int).toNat : List ByteArray)).bind fun y733 => (if y730.length + y733.length < 8796093022208 then (emulatorref28_Needs.l0 k (y730 ++ y733) (wrap64 (x4 + 1)) x685000 x685001 x685002 x685003 x685004 x685005) else (none)))) else (none))) else (none))) else (none)) else (none)) else (if 0 ≤ x6 then (none) else (none)))
end
def emulatorref28_Needs.f (k : Nat) (a0_0 : ByteArray) (a0_1 : ByteArray) (a0_2 : ByteArray) (a0_3 : Int) (l0_4 : List (S62)) (l0_5 : List (S43)) : Option (List ByteArray) := emulatorref28_Needs.l0 k ([] : List ByteArray) 0 a0_0 a0_1 a0_2 a0_3 l0_4 l0_5
theorem emulatorref28_Needs.mono_l : ∀ k, (∀ y0 y1 y2 y3 y4 y5 y6 y7, LeO (emulatorref28_Needs.l0 k y0 y1 y2 y3 y4 y5 y6 y7) (emulatorref28_Needs.l0 (k + 1) y0 y1 y2 y3 y4 y5 y6 y7)) ∧ (∀ y0 y1 y2 y3 y4 y5 y6 y7 y8 y9, LeO (emulatorref28_Needs.l1 k y0 y1 y2 y3 y4 y5 y6 y7 y8 y9) (emulatorref28_Needs.l1 (k + 1) y0 y1 y2 y3 y4 y5 y6 y7 y8 y9))
 | 0 => ⟨fun _ _ _ _ _ _ _ _ r h => by simp [emulatorref28_Needs.l0] at h, fun _ _ _ _ _ _ _ _ _ _ r h => by simp [emulatorref28_Needs.l1] at h⟩
 | k + 1 => by
  obtain ⟨ih0, ih1⟩ := emulatorref28_Needs.mono_l k
  refine ⟨?_, ?_⟩
  ·intro y0 y1 y2 y3 y4 y5 y6 y7
   unfold emulatorref28_Needs.l0
   repeat' first
   | (with_reducible exact ih0 _ _ _ _ _ _ _ _)
   | (with_reducible exact ih1 _ _ _ _ _ _ _ _ _ _)
   | (with_reducible exact LeO.refl _)
   | (with_reducible exact LeO.none _)
   | (with_reducible refine LeO.ite ?_ ?_)
   | (with_reducible refine LeO.bind ?_ (fun _ => ?_))
   | exact ih0 _ _ _ _ _ _ _ _
   | exact ih1 _ _ _ _ _ _ _ _ _ _
   | exact LeO.none _
   | refine LeO.ite ?_ ?_
   | refine LeO.bind ?_ (fun _ => ?_)
  ·intro y0 y1 y2 y3 y4 y5 y6 y7 y8 y9
   unfold emulatorref28_Needs.l1
   repeat' first
   | (with_reducible exact ih0 _ _ _ _ _ _ _ _)
   | (with_reducible exact ih1 _ _ _ _ _ _ _ _ _ _)
   | (with_reducible exact LeO.refl _)
   | (with_reducible exact LeO.none _)
   | (with_reducible refine LeO.ite ?_ ?_)
   | (with_reducible refine LeO.bind ?_ (fun _ => ?_))
   | exact ih0 _ _ _ _ _ _ _ _
   | exact ih1 _ _ _ _ _ _ _ _ _ _
   | exact LeO.none _
   | refine LeO.ite ?_ ?_
   | refine LeO.bind ?_ (fun _ => ?_)
theorem emulatorref28_Needs.mono : ∀ a0 a1 a2 a3 a4 a5 k, LeO (emulatorref28_Needs.f k a0 a1 a2 a3 a4 a5) (emulatorref28_Needs.f (k + 1) a0 a1 a2 a3 a4 a5) := by
 intro a0 a1 a2 a3 a4 a5 k
 obtain ⟨ih0, ih1⟩ := emulatorref28_Needs.mono_l k
 unfold emulatorref28_Needs.f
 repeat' first
   | (with_reducible exact ih0 _ _ _ _ _ _ _ _)
   | (with_reducible exact ih1 _ _ _ _ _ _ _ _ _ _)
   | (with_reducible exact LeO.refl _)
   | (with_reducible exact LeO.none _)
   | (with_reducible refine LeO.ite ?_ ?_)
   | (with_reducible refine LeO.bind ?_ (fun _ => ?_))
   | exact ih0 _ _ _ _ _ _ _ _
   | exact ih1 _ _ _ _ _ _ _ _ _ _
   | exact LeO.none _
   | refine LeO.ite ?_ ?_
   | refine LeO.bind ?_ (fun _ => ?_)
set_option maxHeartbeats 8000000 in
set_option maxRecDepth 100000 in
theorem emulatorref28_Needs.calls (k : Nat) (a0_0 : ByteArray) (a0_1 : ByteArray) (a0_2 : ByteArray) (a0_3 : Int) (A0_4 : Option Addr) (c0_4 : Nat) (l0_4 : List (S62)) (A0_5 : Option Addr) (c0_5 : Nat) (l0_5 : List (S43)) (r : List ByteArray) (w : World) (hr0_4 : Kd.C k62 w A0_4 l0_4.length l0_4) (hc0_4 : l0_4.length ≤ c0_4) (hr0_5 : Kd.C k43 w A0_5 l0_5.length l0_5) (hc0_5 : l0_5.length ≤ c0_5) (h : emulatorref28_Needs.f k a0_0 a0_1 a0_2 a0_3 l0_4 l0_5 = some r) :
  Calls Try.prog 28 #[.agg #[.string a0_0, .string a0_1, .string a0_2, .int .i64 a0_3, .slice A0_4 l0_4.length c0_4, .slice A0_5 l0_5.length c0_5]] w fun e w' => ∃ v0_ : Value, e = .returned (v0_) ∧ Kd.R Kd.string 9 w' w.heap.size (fun _ => True) v0_ r ∧ Below w.heap.size w w' := by
 have hu25 := Try.underlying25
 have HR0_4 := Aside0.mk hr0_4
 have HC0_4 := Aside0.mk hc0_4
 clear hr0_4 hc0_4
 have HR0_5 := Aside0.mk hr0_5
 have HC0_5 := Aside0.mk hc0_5
 clear hr0_5 hc0_5
 have HB := Aside0.mk (Below.refl w.heap.size w)
 have H : (emulatorref28_Needs.l0 k ([] : List ByteArray) 0 a0_0 a0_1 a0_2 a0_3 l0_4 l0_5) = some r := h
 clear h
 have H' := Aside0.mk H
 clear H
 go_enter Try.func28, Try.ntmps28
 go_wp2_with (first | ((with_reducible refine gate_dst (N := 1) rfl ?_); refine box_event ?hg (N := 1) ?hd (cs := #[.string a0_0, .string a0_1, .string a0_2, .int .i64 a0_3, .slice A0_4 l0_4.length c0_4, .slice A0_5 l0_5.length c0_5]) (t := 25) ?hr ?_; (case hd => rfl); (case hg => rfl); (case hr => first | (go_simp; done) | (go_simp; rfl)); intro gb684 hg w2 hbox hb; have n0_ := Aside0.mk (below_step (by repeat (first | (with_reducible first | exact HB.out | apply below_alloc | apply pw_below_drewN | apply below_drew1) | exact HB.out)) hb); have n1_ := Aside0.mk (hbox); have n2_ := Aside0.mk ((by rw [hg]; exact (below_size (by repeat (first | (with_reducible first | exact HB.out | apply below_alloc | apply pw_below_drewN | apply below_drew1) | exact HB.out))) : w.heap.size ≤ gb684)); have n3_ := Aside0.mk ((by rw [hg]; exact (below_size (by repeat (first | (with_reducible first | exact HB.out | apply below_alloc | apply pw_below_drewN | apply below_drew1) | exact HB.out))) : w.heap.size ≤ gb684)); clear HB; have HB := n0_; have BK684 := n1_; have GW684 := n2_; have GE684 := n3_; clear n0_ n1_ n2_ n3_; clear hb hbox hg))
 go_loopg [3, 4] k (fun kq v3 v4 w' => ∃ (x3_1 : List ByteArray) (x4_1 : Int), v4 = .int .i64 x4_1 ∧ Aside0 (emulatorref28_Needs.l0 kq x3_1 x4_1 a0_0 a0_1 a0_2 a0_3 l0_4 l0_5 = some r) ∧ Aside0 (kq ≤ k) ∧ Aside0 (Kd.R Kd.string 9 w' w.heap.size (fun _ => True) v3 x3_1) ∧ Aside0 (w'.heap[gb684]? = some (.cells #[.string a0_0, .string a0_1, .string a0_2, .int .i64 a0_3, (.slice A0_4 l0_4.length c0_4), (.slice A0_5 l0_5.length c0_5)] 25 (0, 0))) ∧ Aside0 (Below w.heap.size w w'))
 case atStart => exact ⟨(([] : List ByteArray)), (0), (by first | rfl | (simp; done) | (simp [isEmpty_ne]; done) | (simp [*]; done)), H', ⟨Nat.le_refl _⟩, ⟨by first | exact Kd.R_nil _ _ _ _ _ | exact Kd.N_nil _ _ _ _ _ | exact Kd.V_nil _ _ _ _ _ | exact Kd.Q_nil _ _ _ _ _ | exact Kd.S_nil _ _ _ _ _⟩, ⟨by (with_reducible repeat (first | refine blk_drewN ?_ _ | refine blk_drew ?_ | refine blk_alloc ?_ _)); exact BK684.out⟩, ⟨by repeat (first | (with_reducible first | exact HB.out | apply below_alloc | apply pw_below_drewN | apply below_drew1 | refine below_set ?_ GE684.out) | exact HB.out)⟩⟩
 case round =>
  clear H'
  (try clear c2); (try clear p2)
  obtain ⟨x3_1, x4_1, rfl, HA, HK1, HO_3, BK684, HB⟩ := hrel
  cases gk with
  | zero => exact absurd HA.out (by simp [emulatorref28_Needs.l0])
  | succ k1 =>
   have H := HA.out
   clear HA
   simp only [emulatorref28_Needs.l0] at H
   by_cases c3 : x4_1 < (l0_5.length : Int)
   ·rw [if_pos c3] at H
    have c3b0 : decide (x4_1 < (l0_5.length : Int)) = true := decide_eq_true c3
    clear c3
    by_cases c4 : 0 ≤ x4_1
    ·rw [if_pos c4] at H
     have c4b0 : decide (0 ≤ x4_1) = true := decide_eq_true c4
     clear c4
     by_cases c5 : ((rd_T43 l0_5 x4_1).f2) = 4
     ·rw [if_pos c5] at H
      have c5b0 : (((rd_T43 l0_5 x4_1).f2) == 4) = true := beq_iff_eq.mpr c5
      have c5b1 : (((rd_T43 l0_5 x4_1).f2) != 4) = false := bne_eq_false_iff_eq.mpr c5
      clear c5
      have H' := Aside0.mk H
      clear H
      have hcz6_0 : wr.cell? ⟨gb684, 0, none⟩ = some (.string a0_0) := (blk_cell BK684.out 0).trans rfl
      have hcz6_1 : wr.cell? ⟨gb684, 1, none⟩ = some (.string a0_1) := (blk_cell BK684.out 1).trans rfl
      have hcz6_2 : wr.cell? ⟨gb684, 2, none⟩ = some (.string a0_2) := (blk_cell BK684.out 2).trans rfl
      have hcz6_3 : wr.cell? ⟨gb684, 3, none⟩ = some (.int .i64 a0_3) := (blk_cell BK684.out 3).trans rfl
      have hcz6_4 : wr.cell? ⟨gb684, 4, none⟩ = some (.slice A0_4 l0_4.length c0_4) := (blk_cell BK684.out 4).trans rfl
      have hcz6_5 : wr.cell? ⟨gb684, 5, none⟩ = some (.slice A0_5 l0_5.length c0_5) := (blk_cell BK684.out 5).trans rfl
      have hfz6_0 := blk_frozen BK684.out 0
      have hfz6_1 := blk_frozen BK684.out 1
      have hfz6_2 := blk_frozen BK684.out 2
      have hfz6_3 := blk_frozen BK684.out 3
      have hfz6_4 := blk_frozen BK684.out 4
      have hfz6_5 := blk_frozen BK684.out 5
      have p685 : 0 ≤ (x4_1 : Int) := of_decide_eq_true (by first | (with_reducible assumption) | assumption)
      have q685 : x4_1 < (l0_5.length : Int) := of_decide_eq_true (by first | (with_reducible assumption) | assumption)
      obtain ⟨ad685, e685, hx685_0, hx685_1, hx685_2, hx685_3, hx685_4⟩ := at_T43 HR0_5.out x4_1 p685 q685
      cases e685
      replace hx685_0 := (HB.out.cell (World.block_lt_of_cell? w _ hx685_0)).trans hx685_0
      replace hx685_1 := (HB.out.cell (World.block_lt_of_cell? w _ hx685_1)).trans hx685_1
      replace hx685_2 := (HB.out.cell (World.block_lt_of_cell? w _ hx685_2)).trans hx685_2
      replace hx685_3 := (HB.out.cell (World.block_lt_of_cell? w _ hx685_3)).trans hx685_3
      replace hx685_4 := (HB.out.cell (World.block_lt_of_cell? w _ hx685_4)).trans hx685_4
      replace p685 := eq_true p685
      replace q685 := eq_true q685
      have p686 : 0 ≤ (x4_1 : Int) := of_decide_eq_true (by first | (with_reducible assumption) | assumption)
      have q686 : x4_1 < (l0_5.length : Int) := of_decide_eq_true (by first | (with_reducible assumption) | assumption)
      obtain ⟨ad686, e686, hx686_0, hx686_1, hx686_2, hx686_3, hx686_4⟩ := at_T43 HR0_5.out x4_1 p686 q686
      obtain rfl : ad685 = ad686 := (by injection e686)
      replace hx686_0 := (HB.out.cell (World.block_lt_of_cell? w _ hx686_0)).trans hx686_0
      replace hx686_1 := (HB.out.cell (World.block_lt_of_cell? w _ hx686_1)).trans hx686_1
      replace hx686_2 := (HB.out.cell (World.block_lt_of_cell? w _ hx686_2)).trans hx686_2
      replace hx686_3 := (HB.out.cell (World.block_lt_of_cell? w _ hx686_3)).trans hx686_3
      replace hx686_4 := (HB.out.cell (World.block_lt_of_cell? w _ hx686_4)).trans hx686_4
      replace p686 := eq_true p686
      replace q686 := eq_true q686
      go_wp2
      go_loopg [6] k1 (fun kq v6 w' => ∃ (x6_2 : Int), v6 = .int .i64 x6_2 ∧ Aside0 (emulatorref28_Needs.l1 kq x3_1 x4_1 ((rd_T43 l0_5 x4_1).f3) x6_2 a0_0 a0_1 a0_2 a0_3 l0_4 l0_5 = some r) ∧ Aside0 (kq ≤ k1) ∧ Aside0 (Kd.R Kd.string 9 w' w.heap.size (fun _ => True) u3 x3_1) ∧ Aside0 (w'.heap[gb684]? = some (.cells #[.string a0_0, .string a0_1, .string a0_2, .int .i64 a0_3, (.slice A0_4 l0_4.length c0_4), (.slice (some ad685) l0_5.length c0_5)] 25 (0, 0))) ∧ Aside0 (Below w.heap.size w w'))
      case atStart => exact ⟨(0), (by first | rfl | (simp; done) | (simp [isEmpty_ne]; done) | (simp [*]; done)), H', ⟨Nat.le_refl _⟩, ⟨by (with_reducible repeat (first | apply Kd.R_alloc | apply Kd.R_drewN | apply Kd.R_drew)); exact HO_3.out⟩, ⟨by (with_reducible repeat (first | refine blk_drewN ?_ _ | refine blk_drew ?_ | refine blk_alloc ?_ _)); exact BK684.out⟩, ⟨by repeat (first | (with_reducible first | exact HB.out | apply below_alloc | apply pw_below_drewN | apply below_drew1 | refine below_set ?_ GE684.out) | exact HB.out)⟩⟩
      case round =>
       clear H'
       (try clear c2); (try clear p2); (try clear c3); (try clear c3b0); (try clear c4); (try clear c4b0); (try clear c5); (try clear c5b0); (try clear c5b1); (try clear p6); (try clear q6); (try clear hx6); (try clear hcz6_0); (try clear hcz6_1); (try clear hcz6_2); (try clear hcz6_3); (try clear hcz6_4); (try clear hcz6_5); (try clear hfz6_0); (try clear hfz6_1); (try clear hfz6_2); (try clear hfz6_3); (try clear hfz6_4); (try clear hfz6_5); (try clear hx685_0); (try clear hx685_1); (try clear hx685_2); (try clear hx685_3); (try clear hx685_4); (try clear hx686_0); (try clear hx686_1); (try clear hx686_2); (try clear hx686_3); (try clear hx686_4); (try clear p2); (try clear p685); (try clear p686); (try clear q685); (try clear q686)
       obtain ⟨x6_2, rfl, HA, HK2, HO_3, BK684, HB⟩ := hrel
       cases gk with
       | zero => exact absurd HA.out (by simp [emulatorref28_Needs.l1])
       | succ k2 =>
        have H := HA.out
        clear HA
        simp only [emulatorref28_Needs.l1] at H
        by_cases c7 : x6_2 < (x3_1.length : Int)
        ·rw [if_pos c7] at H
         have c7b0 : decide (x6_2 < (x3_1.length : Int)) = true := decide_eq_true c7
         clear c7
         by_cases c8 : 0 ≤ x6_2
         ·rw [if_pos c8] at H
          have c8b0 : decide (0 ≤ x6_2) = true := decide_eq_true c8
          clear c8
          by_cases c9 : (Op.bytesLess ((rdOf ByteArray.empty x3_1 x6_2).toList) ((rd_T43 l0_5 x4_1).f3).toList) = true
          ·rw [if_pos c9] at H
           have c9b0 : (Op.bytesLess ((rdOf ByteArray.empty x3_1 x6_2).toList) ((rd_T43 l0_5 x4_1).f3).toList) = true := c9
           clear c9
           have H' := Aside0.mk H
           clear H
           obtain ⟨Ao10, co10, eo10⟩ := Kd.R_slice HO_3.out
           subst eo10
           have p687 : 0 ≤ (x6_2 : Int) := of_decide_eq_true (by first | (with_reducible assumption) | assumption)
           have q687 : x6_2 < (x3_1.length : Int) := of_decide_eq_true (by first | (with_reducible assumption) | assumption)
           obtain ⟨ad687, e687, hx687_0⟩ := Kd.at_string (Kd.R_reads' HO_3.out).2.2 x6_2 p687 q687
           cases e687
           replace p687 := eq_true p687
           replace q687 := eq_true q687
           go_wp2
           go_roundg k2
           case measure => have := HK1.out; have := HK2.out; omega
           case rel => exact ⟨(wrap64 (x6_2 + 1)), (by first | rfl | (simp; done) | (simp [isEmpty_ne]; done) | (simp [*]; done)), H', ⟨by have := HK1.out; have := HK2.out; omega⟩, ⟨by (with_reducible repeat (first | apply Kd.R_alloc | apply Kd.R_drewN | apply Kd.R_drew)); exact HO_3.out⟩, ⟨by (with_reducible repeat (first | refine blk_drewN ?_ _ | refine blk_drew ?_ | refine blk_alloc ?_ _)); exact BK684.out⟩, ⟨by repeat (first | (with_reducible first | exact HB.out | apply below_alloc | apply pw_below_drewN | apply below_drew1 | refine below_set ?_ GE684.out) | exact HB.out)⟩⟩
          ·rw [if_neg c9] at H
           have c9b0 : (Op.bytesLess ((rdOf ByteArray.empty x3_1 x6_2).toList) ((rd_T43 l0_5 x4_1).f3).toList) = false := by simpa using c9
           clear c9
           by_cases c11 : x6_2 = (x3_1.length : Int)
           ·rw [if_pos c11] at H
            have c11b0 : (x6_2 == (x3_1.length : Int)) = true := beq_iff_eq.mpr c11
            have c11b1 : (x6_2 != (x3_1.length : Int)) = false := bne_eq_false_iff_eq.mpr c11
            clear c11
            have c12b0 := eq_true (of_decide_eq_true (by first | (with_reducible assumption) | assumption) : 0 ≤ x6_2)
            by_cases c13 : x6_2 ≤ (x3_1.length : Int)
            ·rw [if_pos c13] at H
             have c13b0 := eq_true c13
             have c13b1 : decide (x6_2 ≤ (x3_1.length : Int)) = true := decide_eq_true c13
             clear c13
             obtain ⟨y688, hy688⟩ : ∃ y_ : List ByteArray, y_ = (x3_1.take (x6_2 : Int).toNat) := ⟨_, rfl⟩
             replace H : (if ([] : List ByteArray).length + y688.length < 8796093022208 then ((some (([] : List ByteArray) ++ y688 : List ByteArray)).bind fun y692 => (if y692.length < 8796093022208 then ((some (y692 ++ [((rd_T43 l0_5 x4_1).f3)] : List ByteArray)).bind fun y695 => ((some (x3_1.drop (x6_2 : Int).toNat : List ByteArray)).bind fun y698 => (if y695.length + y698.length < 8796093022208 then (emulatorref28_Needs.l0 k2 (y695 ++ y698) (wrap64 (x4_1 + 1)) a0_0 a0_1 a0_2 a0_3 l0_4 l0_5) else (none)))) else (none))) else (none)) = some r := by first | (rw [hy688]; with_reducible exact H) | (have H2_ := (Option.bind_some _ _).symm.trans H; rw [hy688]; with_reducible exact H2_) | (have H2_ := (Option.bind_some _ _).symm.trans H; with_reducible exact H2_) | with_reducible exact H | (rw [hy688]; exact H) | exact H
             have Ny688 := Aside0.mk hy688
             clear hy688
             by_cases c14 : ([] : List ByteArray).length + y688.length < 8796093022208
             ·rw [if_pos c14] at H
              have LMc14 := Aside0.mk c14
              clear c14
              obtain ⟨y692, hy692⟩ : ∃ y_ : List ByteArray, y_ = (([] : List ByteArray) ++ y688) := ⟨_, rfl⟩
              replace H : (if y692.length < 8796093022208 then ((some (y692 ++ [((rd_T43 l0_5 x4_1).f3)] : List ByteArray)).bind fun y695 => ((some (x3_1.drop (x6_2 : Int).toNat : List ByteArray)).bind fun y698 => (if y695.length + y698.length < 8796093022208 then (emulatorref28_Needs.l0 k2 (y695 ++ y698) (wrap64 (x4_1 + 1)) a0_0 a0_1 a0_2 a0_3 l0_4 l0_5) else (none)))) else (none)) = some r := by first | (rw [hy692]; with_reducible exact H) | (have H2_ := (Option.bind_some _ _).symm.trans H; rw [hy692]; with_reducible exact H2_) | (have H2_ := (Option.bind_some _ _).symm.trans H; with_reducible exact H2_) | with_reducible exact H | (rw [hy692]; exact H) | exact H
              have Ny692 := Aside0.mk hy692
              clear hy692
              by_cases c15 : y692.length < 8796093022208
              ·rw [if_pos c15] at H
               have LMc15 := Aside0.mk c15
               clear c15
               obtain ⟨y695, hy695⟩ : ∃ y_ : List ByteArray, y_ = (y692 ++ [((rd_T43 l0_5 x4_1).f3)]) := ⟨_, rfl⟩
               replace H : ((some (x3_1.drop (x6_2 : Int).toNat : List ByteArray)).bind fun y698 => (if y695.length + y698.length < 8796093022208 then (emulatorref28_Needs.l0 k2 (y695 ++ y698) (wrap64 (x4_1 + 1)) a0_0 a0_1 a0_2 a0_3 l0_4 l0_5) else (none))) = some r := by first | (rw [hy695]; with_reducible exact H) | (have H2_ := (Option.bind_some _ _).symm.trans H; rw [hy695]; with_reducible exact H2_) | (have H2_ := (Option.bind_some _ _).symm.trans H; with_reducible exact H2_) | with_reducible exact H | (rw [hy695]; exact H) | exact H
               have Ny695 := Aside0.mk hy695
               clear hy695
               have c16b0 := eq_true (of_decide_eq_true (by first | (with_reducible assumption) | assumption) : 0 ≤ x6_2)
               have c17b0 := eq_true (of_decide_eq_true (by first | (with_reducible assumption) | assumption) : x6_2 ≤ (x3_1.length : Int))
               obtain ⟨y698, hy698⟩ : ∃ y_ : List ByteArray, y_ = (x3_1.drop (x6_2 : Int).toNat) := ⟨_, rfl⟩
               replace H : (if y695.length + y698.length < 8796093022208 then (emulatorref28_Needs.l0 k2 (y695 ++ y698) (wrap64 (x4_1 + 1)) a0_0 a0_1 a0_2 a0_3 l0_4 l0_5) else (none)) = some r := by first | (rw [hy698]; with_reducible exact H) | (have H2_ := (Option.bind_some _ _).symm.trans H; rw [hy698]; with_reducible exact H2_) | (have H2_ := (Option.bind_some _ _).symm.trans H; with_reducible exact H2_) | with_reducible exact H | (rw [hy698]; exact H) | exact H
               have Ny698 := Aside0.mk hy698
               clear hy698
               by_cases c18 : y695.length + y698.length < 8796093022208
               ·rw [if_pos c18] at H
                have LMc18 := Aside0.mk c18
                clear c18
                obtain ⟨y702, hy702⟩ : ∃ y_ : List ByteArray, y_ = (y695 ++ y698) := ⟨_, rfl⟩
                replace H : (emulatorref28_Needs.l0 k2 y702 (wrap64 (x4_1 + 1)) a0_0 a0_1 a0_2 a0_3 l0_4 l0_5) = some r := by first | (rw [hy702]; with_reducible exact H) | (have H2_ := (Option.bind_some _ _).symm.trans H; rw [hy702]; with_reducible exact H2_) | (have H2_ := (Option.bind_some _ _).symm.trans H; with_reducible exact H2_) | with_reducible exact H | (rw [hy702]; exact H) | exact H
                have Ny702 := Aside0.mk hy702
                clear hy702
                have H' := Aside0.mk H
                clear H
                obtain ⟨Ao19, co19, eo19⟩ := Kd.R_slice HO_3.out
                subst eo19
                have p687 : 0 ≤ (x6_2 : Int) := of_decide_eq_true (by first | (with_reducible assumption) | assumption)
                have q687 : x6_2 < (x3_1.length : Int) := of_decide_eq_true (by first | (with_reducible assumption) | assumption)
                obtain ⟨ad687, e687, hx687_0⟩ := Kd.at_string (Kd.R_reads' HO_3.out).2.2 x6_2 p687 q687
                cases e687
                replace p687 := eq_true p687
                replace q687 := eq_true q687
                have q20 : (x6_2 : Int) ≤ ((x3_1.length : Int) : Int) := of_decide_eq_true (by first | (with_reducible assumption) | assumption)
                obtain ⟨i020, hi020, _, hsz20, _⟩ := info_parts info9
                have hroom20 : x3_1.length ≤ co19 := (Kd.R_reads' HO_3.out).2.1
                have hC20 : Kd.C Kd.string _ (some ad687) x3_1.length x3_1 := (Kd.R_reads' HO_3.out).2.2
                have hcut20 := cut_to (P := Try.prog) 33 9 .i64 Try.underlying33 hi020 (some ad687) x3_1.length co19 x6_2 (of_decide_eq_true (by first | (with_reducible assumption) | assumption)) q20 hroom20
                have hr20 := Kd.C_take (m := (x6_2 : Int).toNat) hC20 (by omega)
                have hy20 : y688.length = (x6_2 : Int).toNat := (by rw [Ny688.out, List.length_take]; omega)
                rw [← Ny688.out] at hr20
                rw [← hy20] at hcut20
                have HR691 := Aside0.mk hr20
                have HC691 := Aside0.mk (show y688.length ≤ co19 from by omega)
                clear hr20 hC20 hroom20 hi020 hsz20
                have KY20 := Aside0.mk hy20
                clear hy20
                have KL20 := Aside0.mk (show (x6_2 : Int).toNat ≤ x3_1.length from by omega)
                replace q20 := eq_true q20
                go_wp2_with (first | ((with_reducible refine gate_builtin (b := .append) (xs := #[.tmp 54, .tmp 57]) rfl ?_); at_builtin; refine Kd.R_append_rows Kd.string (w0 := w) w.heap.size rfl (.tmp 54) (.tmp 57) 33 9 (.string ⟨#[]⟩) 16 rfl Try.underlying33 info9 rfl (by decide) (by omega) (.slice none 0 0) ([] : List ByteArray) y688 _ _ _ (fun k_ => some k_ ≠ (.slice (some ad687) x3_1.length co19 : Value).ownBlock) (fun _ => False) rfl rfl ?aO ?aR (fun _ _ h => h) (fun _ h => h.elim) ?aF ?aB ?aS ?aL ?_; (case aR => repeat (first | exact (by repeat (first | (with_reducible exact HR691.out) | (with_reducible refine Kd.C_alloc ?_ _) | (with_reducible refine Kd.C_drewN ?_ _) | (with_reducible refine Kd.C_drew ?_) | exact HR691.out)) | (with_reducible refine Kd.C_alloc ?_ _) | (with_reducible refine Kd.C_drewN ?_ _) | (with_reducible refine Kd.C_drew ?_))); (case aB => exact (by repeat (first | (with_reducible first | exact HB.out | apply below_alloc | apply pw_below_drewN | apply below_drew1 | refine below_set ?_ GE684.out) | exact HB.out))); (case aF => exact (fun k_ hk => Kd.fresh' (Kd.R_lt (by (with_reducible repeat (first | apply Kd.R_alloc | apply Kd.R_drewN | apply Kd.R_drew)); exact HO_3.out)) k_ hk)); (case aO => exact ((Kd.R_nil _ _ _ _ (fun k_ => some k_ ≠ (.slice (some ad687) x3_1.length co19 : Value).ownBlock)))); (case aS => exact (below_size (by repeat (first | (with_reducible first | exact HB.out | apply below_alloc | apply pw_below_drewN | apply below_drew1 | refine below_set ?_ GE684.out) | exact HB.out)))); (case aL => have := LMc14.out; omega); intro v693 w21 ho hb hg hat; rw [← Ny692.out] at ho; have n0_ := Aside0.mk (Kd.R_after (Kd.R_apart_nil (by (with_reducible repeat (first | apply Kd.R_alloc | apply Kd.R_drewN | apply Kd.R_drew)); exact HO_3.out)) hg hat); have n1_ := Aside0.mk (blk_grown (g := gb684) (o := .cells #[.string a0_0, .string a0_1, .string a0_2, .int .i64 a0_3, .slice A0_4 l0_4.length c0_4, .slice (some ad685) l0_5.length c0_5] 25 (0, 0)) (by (with_reducible repeat (first | refine blk_drewN ?_ _ | refine blk_drew ?_ | refine blk_alloc ?_ _)); exact BK684.out) hg (by simp [Value.ownBlock])); have n2_ := Aside0.mk (hb); have n3_ := Aside0.mk ((show Kd.C Kd.string w21 (some ad687) y688.length y688 from by rw [Ny688.out]; exact Kd.C_take (m := (x6_2 : Int).toNat) ((Kd.R_reads' (Kd.R_after (Kd.R_apart_nil (by (with_reducible repeat (first | apply Kd.R_alloc | apply Kd.R_drewN | apply Kd.R_drew)); exact HO_3.out)) hg hat)).2.2) KL20.out)); have n4_ := Aside0.mk (ho); clear HO_3 BK684 HB HR691; have HO_3 := n0_; have BK684 := n1_; have HB := n2_; have HR691 := n3_; have HO694 := n4_; clear n0_ n1_ n2_ n3_ n4_; clear ho hb hg hat) | ((with_reducible refine gate_builtin (b := .append) (xs := #[.tmp 59, .tmp 61]) rfl ?_); at_builtin; refine Kd.R_append Kd.string (w0 := w) w.heap.size rfl (.tmp 59) (.tmp 61) 33 9 (.string ⟨#[]⟩) 16 rfl Try.underlying33 info9 rfl (by decide) (by omega) v693 y692 ((rd_T43 l0_5 x4_1).f3) [.string ((rd_T43 l0_5 x4_1).f3)] (fun k_ => some k_ ≠ (.slice (some ad687) x3_1.length co19 : Value).ownBlock) (fun _ => False) rfl rfl ?aP (fun _ hk => hk.elim) ?aF ?aO ?aB ?aS ?aL ?_; (case aP => exact rfl); (case aB => exact (by repeat (first | (with_reducible first | exact HB.out | apply below_alloc | apply pw_below_drewN | apply below_drew1 | refine below_set ?_ GE684.out) | exact HB.out))); (case aF => exact (fun k_ hk => Kd.fresh' (Kd.R_lt (by (with_reducible repeat (first | apply Kd.R_alloc | apply Kd.R_drewN | apply Kd.R_drew)); exact HO_3.out)) k_ hk)); (case aO => exact (by (with_reducible repeat (first | apply Kd.R_alloc | apply Kd.R_drewN | apply Kd.R_drew)); exact HO694.out)); (case aS => exact (below_size (by repeat (first | (with_reducible first | exact HB.out | apply below_alloc | apply pw_below_drewN | apply below_drew1 | refine below_set ?_ GE684.out) | exact HB.out)))); (case aL => have := LMc15.out; omega); intro v696 w22 ho hb hg hat; rw [← Ny695.out] at ho; have n0_ := Aside0.mk (Kd.R_after (ok := (fun _ => True)) (by (with_reducible repeat (first | apply Kd.R_alloc | apply Kd.R_drewN | apply Kd.R_drew)); exact HO_3.out) hg hat); have n1_ := Aside0.mk (blk_grown (g := gb684) (o := .cells #[.string a0_0, .string a0_1, .string a0_2, .int .i64 a0_3, .slice A0_4 l0_4.length c0_4, .slice (some ad685) l0_5.length c0_5] 25 (0, 0)) (by (with_reducible repeat (first | refine blk_drewN ?_ _ | refine blk_drew ?_ | refine blk_alloc ?_ _)); exact BK684.out) hg (Kd.R_ne HO694.out BK684.out (by decide))); have n2_ := Aside0.mk (hb); have n3_ := Aside0.mk ((show Kd.C Kd.string w22 (some ad687) y688.length y688 from by rw [Ny688.out]; exact Kd.C_take (m := (x6_2 : Int).toNat) ((Kd.R_reads' (Kd.R_after (ok := (fun _ => True)) (by (with_reducible repeat (first | apply Kd.R_alloc | apply Kd.R_drewN | apply Kd.R_drew)); exact HO_3.out) hg hat)).2.2) KL20.out)); have n4_ := Aside0.mk (ho); clear HO_3 BK684 HB HR691 HO694; have HO_3 := n0_; have BK684 := n1_; have HB := n2_; have HR691 := n3_; have HO697 := n4_; clear n0_ n1_ n2_ n3_ n4_; clear ho hb hg hat; have q23 : (x6_2 : Int) ≤ ((x3_1.length : Int) : Int) := of_decide_eq_true (by first | (with_reducible assumption) | assumption); obtain ⟨i023, hi023, _, hsz23, _⟩ := info_parts info9; have hroom23 : x3_1.length ≤ co19 := (Kd.R_reads' HO_3.out).2.1; have hC23 : Kd.C Kd.string _ (some ad687) x3_1.length x3_1 := (Kd.R_reads' HO_3.out).2.2; have q023 : (0 : Int) ≤ (x6_2 : Int) := of_decide_eq_true (by first | (with_reducible assumption) | assumption); have hcut23 := cut_from (P := Try.prog) 33 9 .i64 Try.underlying33 hi023 1 hsz23 (some ad687) x3_1.length co19 x6_2 q023 q23; have hr23 := Kd.C_drop (m := (x6_2 : Int).toNat) (c := co19) hC23 (by omega) hroom23; obtain ⟨A23, hA23⟩ : ∃ A1, A1 = (if co19 = (x6_2 : Int).toNat then (some ad687) else ((some ad687) : Option Addr).map (·.add ((x6_2 : Int).toNat * 1))) := ⟨_, rfl⟩; obtain ⟨c23, hc23⟩ : ∃ c1, c1 = co19 - (x6_2 : Int).toNat := ⟨_, rfl⟩; have hy23 : y698.length = x3_1.length - (x6_2 : Int).toNat := (by rw [Ny698.out, List.length_drop] <;> omega); rw [show (x3_1).drop (x6_2 : Int).toNat = y698 from Ny698.out.symm] at hr23; replace hr23 : Kd.C Kd.string _ A23 y698.length y698 := (by rw [hA23]; exact hr23); rw [← hy23, ← hA23, ← hc23] at hcut23; have HR701 := Aside0.mk hr23; have HC701 := Aside0.mk (show y698.length ≤ c23 from by rw [hy23, hc23]; exact Nat.sub_le_sub_right hroom23 _); clear hr23 hC23 hroom23 hi023 hsz23 hc23; have KY23 := Aside0.mk hy23; have KA23 := Aside0.mk hA23; clear hy23 hA23; have KL23 := Aside0.mk (show (x6_2 : Int).toNat ≤ x3_1.length from by omega); replace q23 := eq_true q23) | ((with_reducible refine gate_builtin (b := .append) (xs := #[.tmp 63, .tmp 66]) rfl ?_); at_builtin; refine Kd.R_append_rows Kd.string (w0 := w) w.heap.size rfl (.tmp 63) (.tmp 66) 33 9 (.string ⟨#[]⟩) 16 rfl Try.underlying33 info9 rfl (by decide) (by omega) v696 y695 y698 _ _ _ (fun k_ => some k_ ≠ (.slice (some ad687) x3_1.length co19 : Value).ownBlock) (fun _ => False) rfl rfl ?aO ?aR (fun _ _ h => h) (fun _ h => h.elim) ?aF ?aB ?aS ?aL ?_; (case aR => repeat (first | exact (by repeat (first | (with_reducible exact HR701.out) | (with_reducible refine Kd.C_alloc ?_ _) | (with_reducible refine Kd.C_drewN ?_ _) | (with_reducible refine Kd.C_drew ?_) | exact HR701.out)) | (with_reducible refine Kd.C_alloc ?_ _) | (with_reducible refine Kd.C_drewN ?_ _) | (with_reducible refine Kd.C_drew ?_))); (case aB => exact (by repeat (first | (with_reducible first | exact HB.out | apply below_alloc | apply pw_below_drewN | apply below_drew1 | refine below_set ?_ GE684.out) | exact HB.out))); (case aF => exact (fun k_ hk => Kd.fresh' (Kd.R_lt (by (with_reducible repeat (first | apply Kd.R_alloc | apply Kd.R_drewN | apply Kd.R_drew)); exact HO_3.out)) k_ hk)); (case aO => exact (by (with_reducible repeat (first | apply Kd.R_alloc | apply Kd.R_drewN | apply Kd.R_drew)); exact HO697.out)); (case aS => exact (below_size (by repeat (first | (with_reducible first | exact HB.out | apply below_alloc | apply pw_below_drewN | apply below_drew1 | refine below_set ?_ GE684.out) | exact HB.out)))); (case aL => have := LMc18.out; omega); intro v703 w24 ho hb hg hat; rw [← Ny702.out] at ho; have n0_ := Aside0.mk (Kd.R_after (ok := (fun _ => True)) (by (with_reducible repeat (first | apply Kd.R_alloc | apply Kd.R_drewN | apply Kd.R_drew)); exact HO_3.out) hg hat); have n1_ := Aside0.mk (blk_grown (g := gb684) (o := .cells #[.string a0_0, .string a0_1, .string a0_2, .int .i64 a0_3, .slice A0_4 l0_4.length c0_4, .slice (some ad685) l0_5.length c0_5] 25 (0, 0)) (by (with_reducible repeat (first | refine blk_drewN ?_ _ | refine blk_drew ?_ | refine blk_alloc ?_ _)); exact BK684.out) hg (Kd.R_ne HO697.out BK684.out (by decide))); have n2_ := Aside0.mk (hb); have n3_ := Aside0.mk ((show Kd.C Kd.string w24 (some ad687) y688.length y688 from by rw [Ny688.out]; exact Kd.C_take (m := (x6_2 : Int).toNat) ((Kd.R_reads' (Kd.R_after (ok := (fun _ => True)) (by (with_reducible repeat (first | apply Kd.R_alloc | apply Kd.R_drewN | apply Kd.R_drew)); exact HO_3.out) hg hat)).2.2) KL20.out)); have n4_ := Aside0.mk ((show Kd.C Kd.string w24 A23 y698.length y698 from by rw [Ny698.out, KA23.out]; exact Kd.C_drop (m := (x6_2 : Int).toNat) (c := co19) ((Kd.R_reads' (Kd.R_after (ok := (fun _ => True)) (by (with_reducible repeat (first | apply Kd.R_alloc | apply Kd.R_drewN | apply Kd.R_drew)); exact HO_3.out) hg hat)).2.2) KL23.out ((Kd.R_reads' (Kd.R_after (ok := (fun _ => True)) (by (with_reducible repeat (first | apply Kd.R_alloc | apply Kd.R_drewN | apply Kd.R_drew)); exact HO_3.out) hg hat)).2.1))); have n5_ := Aside0.mk (ho); clear HO_3 BK684 HB HR691 HR701 HO697; have HO_3 := n0_; have BK684 := n1_; have HB := n2_; have HR691 := n3_; have HR701 := n4_; have HO704 := n5_; clear n0_ n1_ n2_ n3_ n4_ n5_; clear ho hb hg hat))
                go_roundg k2
                case measure => have := HK1.out; have := HK2.out; omega
                case rel => exact ⟨(y702), (wrap64 (x4_1 + 1)), (by first | rfl | (simp; done) | (simp [isEmpty_ne]; done) | (simp [*]; done)), H', ⟨by have := HK1.out; have := HK2.out; omega⟩, ⟨by (with_reducible repeat (first | apply Kd.R_alloc | apply Kd.R_drewN | apply Kd.R_drew)); exact Kd.R_mono HO704.out (fun _ hk => trivial)⟩, ⟨by (with_reducible repeat (first | refine blk_drewN ?_ _ | refine blk_drew ?_ | refine blk_alloc ?_ _)); exact BK684.out⟩, ⟨by repeat (first | (with_reducible first | exact HB.out | apply below_alloc | apply pw_below_drewN | apply below_drew1 | refine below_set ?_ GE684.out) | exact HB.out)⟩⟩
               ·rw [if_neg c18] at H
                exact absurd H (by simp)
              ·rw [if_neg c15] at H
               exact absurd H (by simp)
             ·rw [if_neg c14] at H
              exact absurd H (by simp)
            ·rw [if_neg c13] at H
             exact absurd H (by simp)
           ·rw [if_neg c11] at H
            have c11b0 : (x6_2 == (x3_1.length : Int)) = false := beq_eq_false_iff_ne.mpr c11
            have c11b1 : (x6_2 != (x3_1.length : Int)) = true := bne_iff_ne.mpr c11
            by_cases c25 : (rdOf ByteArray.empty x3_1 x6_2).toList = ((rd_T43 l0_5 x4_1).f3).toList
            ·rw [if_pos c25] at H
             have c25b0 : ((rdOf ByteArray.empty x3_1 x6_2).toList == ((rd_T43 l0_5 x4_1).f3).toList) = true := beq_iff_eq.mpr c25
             have c25b1 : ((rdOf ByteArray.empty x3_1 x6_2).toList != ((rd_T43 l0_5 x4_1).f3).toList) = false := bne_eq_false_iff_eq.mpr c25
             clear c25
             have H' := Aside0.mk H
             clear H
             obtain ⟨Ao26, co26, eo26⟩ := Kd.R_slice HO_3.out
             subst eo26
             have p687 : 0 ≤ (x6_2 : Int) := of_decide_eq_true (by first | (with_reducible assumption) | assumption)
             have q687 : x6_2 < (x3_1.length : Int) := of_decide_eq_true (by first | (with_reducible assumption) | assumption)
             obtain ⟨ad687, e687, hx687_0⟩ := Kd.at_string (Kd.R_reads' HO_3.out).2.2 x6_2 p687 q687
             cases e687
             replace p687 := eq_true p687
             replace q687 := eq_true q687
             have p705 : 0 ≤ (x6_2 : Int) := of_decide_eq_true (by first | (with_reducible assumption) | assumption)
             have q705 : x6_2 < (x3_1.length : Int) := of_decide_eq_true (by first | (with_reducible assumption) | assumption)
             obtain ⟨ad705, e705, hx705_0⟩ := Kd.at_string (Kd.R_reads' HO_3.out).2.2 x6_2 p705 q705
             obtain rfl : ad687 = ad705 := (by injection e705)
             replace p705 := eq_true p705
             replace q705 := eq_true q705
             go_wp2
             go_roundg k2
             case measure => have := HK1.out; have := HK2.out; omega
             case rel => exact ⟨(x3_1), (wrap64 (x4_1 + 1)), (by first | rfl | (simp; done) | (simp [isEmpty_ne]; done) | (simp [*]; done)), H', ⟨by have := HK1.out; have := HK2.out; omega⟩, ⟨by (with_reducible repeat (first | apply Kd.R_alloc | apply Kd.R_drewN | apply Kd.R_drew)); exact HO_3.out⟩, ⟨by (with_reducible repeat (first | refine blk_drewN ?_ _ | refine blk_drew ?_ | refine blk_alloc ?_ _)); exact BK684.out⟩, ⟨by repeat (first | (with_reducible first | exact HB.out | apply below_alloc | apply pw_below_drewN | apply below_drew1 | refine below_set ?_ GE684.out) | exact HB.out)⟩⟩
            ·rw [if_neg c25] at H
             have c25b0 : ((rdOf ByteArray.empty x3_1 x6_2).toList == ((rd_T43 l0_5 x4_1).f3).toList) = false := beq_eq_false_iff_ne.mpr c25
             have c25b1 : ((rdOf ByteArray.empty x3_1 x6_2).toList != ((rd_T43 l0_5 x4_1).f3).toList) = true := bne_iff_ne.mpr c25
             have c27b0 := eq_true (of_decide_eq_true (by first | (with_reducible assumption) | assumption) : 0 ≤ x6_2)
             by_cases c28 : x6_2 ≤ (x3_1.length : Int)
             ·rw [if_pos c28] at H
              have c28b0 := eq_true c28
              have c28b1 : decide (x6_2 ≤ (x3_1.length : Int)) = true := decide_eq_true c28
              clear c28
              obtain ⟨y706, hy706⟩ : ∃ y_ : List ByteArray, y_ = (x3_1.take (x6_2 : Int).toNat) := ⟨_, rfl⟩
              replace H : (if ([] : List ByteArray).length + y706.length < 8796093022208 then ((some (([] : List ByteArray) ++ y706 : List ByteArray)).bind fun y710 => (if y710.length < 8796093022208 then ((some (y710 ++ [((rd_T43 l0_5 x4_1).f3)] : List ByteArray)).bind fun y713 => ((some (x3_1.drop (x6_2 : Int).toNat : List ByteArray)).bind fun y716 => (if y713.length + y716.length < 8796093022208 then (emulatorref28_Needs.l0 k2 (y713 ++ y716) (wrap64 (x4_1 + 1)) a0_0 a0_1 a0_2 a0_3 l0_4 l0_5) else (none)))) else (none))) else (none)) = some r := by first | (rw [hy706]; with_reducible exact H) | (have H2_ := (Option.bind_some _ _).symm.trans H; rw [hy706]; with_reducible exact H2_) | (have H2_ := (Option.bind_some _ _).symm.trans H; with_reducible exact H2_) | with_reducible exact H | (rw [hy706]; exact H) | exact H
              have Ny706 := Aside0.mk hy706
              clear hy706
              by_cases c29 : ([] : List ByteArray).length + y706.length < 8796093022208
              ·rw [if_pos c29] at H
               have LMc29 := Aside0.mk c29
               clear c29
               obtain ⟨y710, hy710⟩ : ∃ y_ : List ByteArray, y_ = (([] : List ByteArray) ++ y706) := ⟨_, rfl⟩
               replace H : (if y710.length < 8796093022208 then ((some (y710 ++ [((rd_T43 l0_5 x4_1).f3)] : List ByteArray)).bind fun y713 => ((some (x3_1.drop (x6_2 : Int).toNat : List ByteArray)).bind fun y716 => (if y713.length + y716.length < 8796093022208 then (emulatorref28_Needs.l0 k2 (y713 ++ y716) (wrap64 (x4_1 + 1)) a0_0 a0_1 a0_2 a0_3 l0_4 l0_5) else (none)))) else (none)) = some r := by first | (rw [hy710]; with_reducible exact H) | (have H2_ := (Option.bind_some _ _).symm.trans H; rw [hy710]; with_reducible exact H2_) | (have H2_ := (Option.bind_some _ _).symm.trans H; with_reducible exact H2_) | with_reducible exact H | (rw [hy710]; exact H) | exact H
               have Ny710 := Aside0.mk hy710
               clear hy710
               by_cases c30 : y710.length < 8796093022208
               ·rw [if_pos c30] at H
                have LMc30 := Aside0.mk c30
                clear c30
                obtain ⟨y713, hy713⟩ : ∃ y_ : List ByteArray, y_ = (y710 ++ [((rd_T43 l0_5 x4_1).f3)]) := ⟨_, rfl⟩
                replace H : ((some (x3_1.drop (x6_2 : Int).toNat : List ByteArray)).bind fun y716 => (if y713.length + y716.length < 8796093022208 then (emulatorref28_Needs.l0 k2 (y713 ++ y716) (wrap64 (x4_1 + 1)) a0_0 a0_1 a0_2 a0_3 l0_4 l0_5) else (none))) = some r := by first | (rw [hy713]; with_reducible exact H) | (have H2_ := (Option.bind_some _ _).symm.trans H; rw [hy713]; with_reducible exact H2_) | (have H2_ := (Option.bind_some _ _).symm.trans H; with_reducible exact H2_) | with_reducible exact H | (rw [hy713]; exact H) | exact H
                have Ny713 := Aside0.mk hy713
                clear hy713
                have c31b0 := eq_true (of_decide_eq_true (by first | (with_reducible assumption) | assumption) : 0 ≤ x6_2)
                have c32b0 := eq_true (of_decide_eq_true (by first | (with_reducible assumption) | assumption) : x6_2 ≤ (x3_1.length : Int))
                obtain ⟨y716, hy716⟩ : ∃ y_ : List ByteArray, y_ = (x3_1.drop (x6_2 : Int).toNat) := ⟨_, rfl⟩
                replace H : (if y713.length + y716.length < 8796093022208 then (emulatorref28_Needs.l0 k2 (y713 ++ y716) (wrap64 (x4_1 + 1)) a0_0 a0_1 a0_2 a0_3 l0_4 l0_5) else (none)) = some r := by first | (rw [hy716]; with_reducible exact H) | (have H2_ := (Option.bind_some _ _).symm.trans H; rw [hy716]; with_reducible exact H2_) | (have H2_ := (Option.bind_some _ _).symm.trans H; with_reducible exact H2_) | with_reducible exact H | (rw [hy716]; exact H) | exact H
                have Ny716 := Aside0.mk hy716
                clear hy716
                by_cases c33 : y713.length + y716.length < 8796093022208
                ·rw [if_pos c33] at H
                 have LMc33 := Aside0.mk c33
                 clear c33
                 obtain ⟨y720, hy720⟩ : ∃ y_ : List ByteArray, y_ = (y713 ++ y716) := ⟨_, rfl⟩
                 replace H : (emulatorref28_Needs.l0 k2 y720 (wrap64 (x4_1 + 1)) a0_0 a0_1 a0_2 a0_3 l0_4 l0_5) = some r := by first | (rw [hy720]; with_reducible exact H) | (have H2_ := (Option.bind_some _ _).symm.trans H; rw [hy720]; with_reducible exact H2_) | (have H2_ := (Option.bind_some _ _).symm.trans H; with_reducible exact H2_) | with_reducible exact H | (rw [hy720]; exact H) | exact H
                 have Ny720 := Aside0.mk hy720
                 clear hy720
                 have H' := Aside0.mk H
                 clear H
                 obtain ⟨Ao34, co34, eo34⟩ := Kd.R_slice HO_3.out
                 subst eo34
                 have p687 : 0 ≤ (x6_2 : Int) := of_decide_eq_true (by first | (with_reducible assumption) | assumption)
                 have q687 : x6_2 < (x3_1.length : Int) := of_decide_eq_true (by first | (with_reducible assumption) | assumption)
                 obtain ⟨ad687, e687, hx687_0⟩ := Kd.at_string (Kd.R_reads' HO_3.out).2.2 x6_2 p687 q687
                 cases e687
                 replace p687 := eq_true p687
                 replace q687 := eq_true q687
                 have p705 : 0 ≤ (x6_2 : Int) := of_decide_eq_true (by first | (with_reducible assumption) | assumption)
                 have q705 : x6_2 < (x3_1.length : Int) := of_decide_eq_true (by first | (with_reducible assumption) | assumption)
                 obtain ⟨ad705, e705, hx705_0⟩ := Kd.at_string (Kd.R_reads' HO_3.out).2.2 x6_2 p705 q705
                 obtain rfl : ad687 = ad705 := (by injection e705)
                 replace p705 := eq_true p705
                 replace q705 := eq_true q705
                 have q35 : (x6_2 : Int) ≤ ((x3_1.length : Int) : Int) := of_decide_eq_true (by first | (with_reducible assumption) | assumption)
                 obtain ⟨i035, hi035, _, hsz35, _⟩ := info_parts info9
                 have hroom35 : x3_1.length ≤ co34 := (Kd.R_reads' HO_3.out).2.1
                 have hC35 : Kd.C Kd.string _ (some ad687) x3_1.length x3_1 := (Kd.R_reads' HO_3.out).2.2
                 have hcut35 := cut_to (P := Try.prog) 33 9 .i64 Try.underlying33 hi035 (some ad687) x3_1.length co34 x6_2 (of_decide_eq_true (by first | (with_reducible assumption) | assumption)) q35 hroom35
                 have hr35 := Kd.C_take (m := (x6_2 : Int).toNat) hC35 (by omega)
                 have hy35 : y706.length = (x6_2 : Int).toNat := (by rw [Ny706.out, List.length_take]; omega)
                 rw [← Ny706.out] at hr35
                 rw [← hy35] at hcut35
                 have HR709 := Aside0.mk hr35
                 have HC709 := Aside0.mk (show y706.length ≤ co34 from by omega)
                 clear hr35 hC35 hroom35 hi035 hsz35
                 have KY35 := Aside0.mk hy35
                 clear hy35
                 have KL35 := Aside0.mk (show (x6_2 : Int).toNat ≤ x3_1.length from by omega)
                 replace q35 := eq_true q35
                 go_wp2_with (first | ((with_reducible refine gate_builtin (b := .append) (xs := #[.tmp 54, .tmp 57]) rfl ?_); at_builtin; refine Kd.R_append_rows Kd.string (w0 := w) w.heap.size rfl (.tmp 54) (.tmp 57) 33 9 (.string ⟨#[]⟩) 16 rfl Try.underlying33 info9 rfl (by decide) (by omega) (.slice none 0 0) ([] : List ByteArray) y706 _ _ _ (fun k_ => some k_ ≠ (.slice (some ad687) x3_1.length co34 : Value).ownBlock) (fun _ => False) rfl rfl ?aO ?aR (fun _ _ h => h) (fun _ h => h.elim) ?aF ?aB ?aS ?aL ?_; (case aR => repeat (first | exact (by repeat (first | (with_reducible exact HR709.out) | (with_reducible refine Kd.C_alloc ?_ _) | (with_reducible refine Kd.C_drewN ?_ _) | (with_reducible refine Kd.C_drew ?_) | exact HR709.out)) | (with_reducible refine Kd.C_alloc ?_ _) | (with_reducible refine Kd.C_drewN ?_ _) | (with_reducible refine Kd.C_drew ?_))); (case aB => exact (by repeat (first | (with_reducible first | exact HB.out | apply below_alloc | apply pw_below_drewN | apply below_drew1 | refine below_set ?_ GE684.out) | exact HB.out))); (case aF => exact (fun k_ hk => Kd.fresh' (Kd.R_lt (by (with_reducible repeat (first | apply Kd.R_alloc | apply Kd.R_drewN | apply Kd.R_drew)); exact HO_3.out)) k_ hk)); (case aO => exact ((Kd.R_nil _ _ _ _ (fun k_ => some k_ ≠ (.slice (some ad687) x3_1.length co34 : Value).ownBlock)))); (case aS => exact (below_size (by repeat (first | (with_reducible first | exact HB.out | apply below_alloc | apply pw_below_drewN | apply below_drew1 | refine below_set ?_ GE684.out) | exact HB.out)))); (case aL => have := LMc29.out; omega); intro v711 w36 ho hb hg hat; rw [← Ny710.out] at ho; have n0_ := Aside0.mk (Kd.R_after (Kd.R_apart_nil (by (with_reducible repeat (first | apply Kd.R_alloc | apply Kd.R_drewN | apply Kd.R_drew)); exact HO_3.out)) hg hat); have n1_ := Aside0.mk (blk_grown (g := gb684) (o := .cells #[.string a0_0, .string a0_1, .string a0_2, .int .i64 a0_3, .slice A0_4 l0_4.length c0_4, .slice (some ad685) l0_5.length c0_5] 25 (0, 0)) (by (with_reducible repeat (first | refine blk_drewN ?_ _ | refine blk_drew ?_ | refine blk_alloc ?_ _)); exact BK684.out) hg (by simp [Value.ownBlock])); have n2_ := Aside0.mk (hb); have n3_ := Aside0.mk ((show Kd.C Kd.string w36 (some ad687) y706.length y706 from by rw [Ny706.out]; exact Kd.C_take (m := (x6_2 : Int).toNat) ((Kd.R_reads' (Kd.R_after (Kd.R_apart_nil (by (with_reducible repeat (first | apply Kd.R_alloc | apply Kd.R_drewN | apply Kd.R_drew)); exact HO_3.out)) hg hat)).2.2) KL35.out)); have n4_ := Aside0.mk (ho); clear HO_3 BK684 HB HR709; have HO_3 := n0_; have BK684 := n1_; have HB := n2_; have HR709 := n3_; have HO712 := n4_; clear n0_ n1_ n2_ n3_ n4_; clear ho hb hg hat) | ((with_reducible refine gate_builtin (b := .append) (xs := #[.tmp 59, .tmp 61]) rfl ?_); at_builtin; refine Kd.R_append Kd.string (w0 := w) w.heap.size rfl (.tmp 59) (.tmp 61) 33 9 (.string ⟨#[]⟩) 16 rfl Try.underlying33 info9 rfl (by decide) (by omega) v711 y710 ((rd_T43 l0_5 x4_1).f3) [.string ((rd_T43 l0_5 x4_1).f3)] (fun k_ => some k_ ≠ (.slice (some ad687) x3_1.length co34 : Value).ownBlock) (fun _ => False) rfl rfl ?aP (fun _ hk => hk.elim) ?aF ?aO ?aB ?aS ?aL ?_; (case aP => exact rfl); (case aB => exact (by repeat (first | (with_reducible first | exact HB.out | apply below_alloc | apply pw_below_drewN | apply below_drew1 | refine below_set ?_ GE684.out) | exact HB.out))); (case aF => exact (fun k_ hk => Kd.fresh' (Kd.R_lt (by (with_reducible repeat (first | apply Kd.R_alloc | apply Kd.R_drewN | apply Kd.R_drew)); exact HO_3.out)) k_ hk)); (case aO => exact (by (with_reducible repeat (first | apply Kd.R_alloc | apply Kd.R_drewN | apply Kd.R_drew)); exact HO712.out)); (case aS => exact (below_size (by repeat (first | (with_reducible first | exact HB.out | apply below_alloc | apply pw_below_drewN | apply below_drew1 | refine below_set ?_ GE684.out) | exact HB.out)))); (case aL => have := LMc30.out; omega); intro v714 w37 ho hb hg hat; rw [← Ny713.out] at ho; have n0_ := Aside0.mk (Kd.R_after (ok := (fun _ => True)) (by (with_reducible repeat (first | apply Kd.R_alloc | apply Kd.R_drewN | apply Kd.R_drew)); exact HO_3.out) hg hat); have n1_ := Aside0.mk (blk_grown (g := gb684) (o := .cells #[.string a0_0, .string a0_1, .string a0_2, .int .i64 a0_3, .slice A0_4 l0_4.length c0_4, .slice (some ad685) l0_5.length c0_5] 25 (0, 0)) (by (with_reducible repeat (first | refine blk_drewN ?_ _ | refine blk_drew ?_ | refine blk_alloc ?_ _)); exact BK684.out) hg (Kd.R_ne HO712.out BK684.out (by decide))); have n2_ := Aside0.mk (hb); have n3_ := Aside0.mk ((show Kd.C Kd.string w37 (some ad687) y706.length y706 from by rw [Ny706.out]; exact Kd.C_take (m := (x6_2 : Int).toNat) ((Kd.R_reads' (Kd.R_after (ok := (fun _ => True)) (by (with_reducible repeat (first | apply Kd.R_alloc | apply Kd.R_drewN | apply Kd.R_drew)); exact HO_3.out) hg hat)).2.2) KL35.out)); have n4_ := Aside0.mk (ho); clear HO_3 BK684 HB HR709 HO712; have HO_3 := n0_; have BK684 := n1_; have HB := n2_; have HR709 := n3_; have HO715 := n4_; clear n0_ n1_ n2_ n3_ n4_; clear ho hb hg hat; have q38 : (x6_2 : Int) ≤ ((x3_1.length : Int) : Int) := of_decide_eq_true (by first | (with_reducible assumption) | assumption); obtain ⟨i038, hi038, _, hsz38, _⟩ := info_parts info9; have hroom38 : x3_1.length ≤ co34 := (Kd.R_reads' HO_3.out).2.1; have hC38 : Kd.C Kd.string _ (some ad687) x3_1.length x3_1 := (Kd.R_reads' HO_3.out).2.2; have q038 : (0 : Int) ≤ (x6_2 : Int) := of_decide_eq_true (by first | (with_reducible assumption) | assumption); have hcut38 := cut_from (P := Try.prog) 33 9 .i64 Try.underlying33 hi038 1 hsz38 (some ad687) x3_1.length co34 x6_2 q038 q38; have hr38 := Kd.C_drop (m := (x6_2 : Int).toNat) (c := co34) hC38 (by omega) hroom38; obtain ⟨A38, hA38⟩ : ∃ A1, A1 = (if co34 = (x6_2 : Int).toNat then (some ad687) else ((some ad687) : Option Addr).map (·.add ((x6_2 : Int).toNat * 1))) := ⟨_, rfl⟩; obtain ⟨c38, hc38⟩ : ∃ c1, c1 = co34 - (x6_2 : Int).toNat := ⟨_, rfl⟩; have hy38 : y716.length = x3_1.length - (x6_2 : Int).toNat := (by rw [Ny716.out, List.length_drop] <;> omega); rw [show (x3_1).drop (x6_2 : Int).toNat = y716 from Ny716.out.symm] at hr38; replace hr38 : Kd.C Kd.string _ A38 y716.length y716 := (by rw [hA38]; exact hr38); rw [← hy38, ← hA38, ← hc38] at hcut38; have HR719 := Aside0.mk hr38; have HC719 := Aside0.mk (show y716.length ≤ c38 from by rw [hy38, hc38]; exact Nat.sub_le_sub_right hroom38 _); clear hr38 hC38 hroom38 hi038 hsz38 hc38; have KY38 := Aside0.mk hy38; have KA38 := Aside0.mk hA38; clear hy38 hA38; have KL38 := Aside0.mk (show (x6_2 : Int).toNat ≤ x3_1.length from by omega); replace q38 := eq_true q38) | ((with_reducible refine gate_builtin (b := .append) (xs := #[.tmp 63, .tmp 66]) rfl ?_); at_builtin; refine Kd.R_append_rows Kd.string (w0 := w) w.heap.size rfl (.tmp 63) (.tmp 66) 33 9 (.string ⟨#[]⟩) 16 rfl Try.underlying33 info9 rfl (by decide) (by omega) v714 y713 y716 _ _ _ (fun k_ => some k_ ≠ (.slice (some ad687) x3_1.length co34 : Value).ownBlock) (fun _ => False) rfl rfl ?aO ?aR (fun _ _ h => h) (fun _ h => h.elim) ?aF ?aB ?aS ?aL ?_; (case aR => repeat (first | exact (by repeat (first | (with_reducible exact HR719.out) | (with_reducible refine Kd.C_alloc ?_ _) | (with_reducible refine Kd.C_drewN ?_ _) | (with_reducible refine Kd.C_drew ?_) | exact HR719.out)) | (with_reducible refine Kd.C_alloc ?_ _) | (with_reducible refine Kd.C_drewN ?_ _) | (with_reducible refine Kd.C_drew ?_))); (case aB => exact (by repeat (first | (with_reducible first | exact HB.out | apply below_alloc | apply pw_below_drewN | apply below_drew1 | refine below_set ?_ GE684.out) | exact HB.out))); (case aF => exact (fun k_ hk => Kd.fresh' (Kd.R_lt (by (with_reducible repeat (first | apply Kd.R_alloc | apply Kd.R_drewN | apply Kd.R_drew)); exact HO_3.out)) k_ hk)); (case aO => exact (by (with_reducible repeat (first | apply Kd.R_alloc | apply Kd.R_drewN | apply Kd.R_drew)); exact HO715.out)); (case aS => exact (below_size (by repeat (first | (with_reducible first | exact HB.out | apply below_alloc | apply pw_below_drewN | apply below_drew1 | refine below_set ?_ GE684.out) | exact HB.out)))); (case aL => have := LMc33.out; omega); intro v721 w39 ho hb hg hat; rw [← Ny720.out] at ho; have n0_ := Aside0.mk (Kd.R_after (ok := (fun _ => True)) (by (with_reducible repeat (first | apply Kd.R_alloc | apply Kd.R_drewN | apply Kd.R_drew)); exact HO_3.out) hg hat); have n1_ := Aside0.mk (blk_grown (g := gb684) (o := .cells #[.string a0_0, .string a0_1, .string a0_2, .int .i64 a0_3, .slice A0_4 l0_4.length c0_4, .slice (some ad685) l0_5.length c0_5] 25 (0, 0)) (by (with_reducible repeat (first | refine blk_drewN ?_ _ | refine blk_drew ?_ | refine blk_alloc ?_ _)); exact BK684.out) hg (Kd.R_ne HO715.out BK684.out (by decide))); have n2_ := Aside0.mk (hb); have n3_ := Aside0.mk ((show Kd.C Kd.string w39 (some ad687) y706.length y706 from by rw [Ny706.out]; exact Kd.C_take (m := (x6_2 : Int).toNat) ((Kd.R_reads' (Kd.R_after (ok := (fun _ => True)) (by (with_reducible repeat (first | apply Kd.R_alloc | apply Kd.R_drewN | apply Kd.R_drew)); exact HO_3.out) hg hat)).2.2) KL35.out)); have n4_ := Aside0.mk ((show Kd.C Kd.string w39 A38 y716.length y716 from by rw [Ny716.out, KA38.out]; exact Kd.C_drop (m := (x6_2 : Int).toNat) (c := co34) ((Kd.R_reads' (Kd.R_after (ok := (fun _ => True)) (by (with_reducible repeat (first | apply Kd.R_alloc | apply Kd.R_drewN | apply Kd.R_drew)); exact HO_3.out) hg hat)).2.2) KL38.out ((Kd.R_reads' (Kd.R_after (ok := (fun _ => True)) (by (with_reducible repeat (first | apply Kd.R_alloc | apply Kd.R_drewN | apply Kd.R_drew)); exact HO_3.out) hg hat)).2.1))); have n5_ := Aside0.mk (ho); clear HO_3 BK684 HB HR709 HR719 HO715; have HO_3 := n0_; have BK684 := n1_; have HB := n2_; have HR709 := n3_; have HR719 := n4_; have HO722 := n5_; clear n0_ n1_ n2_ n3_ n4_ n5_; clear ho hb hg hat))
                 go_roundg k2
                 case measure => have := HK1.out; have := HK2.out; omega
                 case rel => exact ⟨(y720), (wrap64 (x4_1 + 1)), (by first | rfl | (simp; done) | (simp [isEmpty_ne]; done) | (simp [*]; done)), H', ⟨by have := HK1.out; have := HK2.out; omega⟩, ⟨by (with_reducible repeat (first | apply Kd.R_alloc | apply Kd.R_drewN | apply Kd.R_drew)); exact Kd.R_mono HO722.out (fun _ hk => trivial)⟩, ⟨by (with_reducible repeat (first | refine blk_drewN ?_ _ | refine blk_drew ?_ | refine blk_alloc ?_ _)); exact BK684.out⟩, ⟨by repeat (first | (with_reducible first | exact HB.out | apply below_alloc | apply pw_below_drewN | apply below_drew1 | refine below_set ?_ GE684.out) | exact HB.out)⟩⟩
                ·rw [if_neg c33] at H
                 exact absurd H (by simp)
               ·rw [if_neg c30] at H
                exact absurd H (by simp)
              ·rw [if_neg c29] at H
               exact absurd H (by simp)
             ·rw [if_neg c28] at H
              exact absurd H (by simp)
         ·rw [if_neg c8] at H
          exact absurd H (by simp)
        ·rw [if_neg c7] at H
         have c7b0 : decide (x6_2 < (x3_1.length : Int)) = false := decide_eq_false c7
         clear c7
         by_cases c40 : x6_2 = (x3_1.length : Int)
         ·rw [if_pos c40] at H
          have c40b0 : (x6_2 == (x3_1.length : Int)) = true := beq_iff_eq.mpr c40
          have c40b1 : (x6_2 != (x3_1.length : Int)) = false := bne_eq_false_iff_eq.mpr c40
          clear c40
          by_cases c41 : 0 ≤ x6_2
          ·rw [if_pos c41] at H
           have c41b0 := eq_true c41
           have c41b1 : decide (0 ≤ x6_2) = true := decide_eq_true c41
           clear c41
           by_cases c42 : x6_2 ≤ (x3_1.length : Int)
           ·rw [if_pos c42] at H
            have c42b0 := eq_true c42
            have c42b1 : decide (x6_2 ≤ (x3_1.length : Int)) = true := decide_eq_true c42
            clear c42
            obtain ⟨y723, hy723⟩ : ∃ y_ : List ByteArray, y_ = (x3_1.take (x6_2 : Int).toNat) := ⟨_, rfl⟩
            replace H : (if ([] : List ByteArray).length + y723.length < 8796093022208 then ((some (([] : List ByteArray) ++ y723 : List ByteArray)).bind fun y727 => (if y727.length < 8796093022208 then ((some (y727 ++ [((rd_T43 l0_5 x4_1).f3)] : List ByteArray)).bind fun y730 => ((some (x3_1.drop (x6_2 : Int).toNat : List ByteArray)).bind fun y733 => (if y730.length + y733.length < 8796093022208 then (emulatorref28_Needs.l0 k2 (y730 ++ y733) (wrap64 (x4_1 + 1)) a0_0 a0_1 a0_2 a0_3 l0_4 l0_5) else (none)))) else (none))) else (none)) = some r := by first | (rw [hy723]; with_reducible exact H) | (have H2_ := (Option.bind_some _ _).symm.trans H; rw [hy723]; with_reducible exact H2_) | (have H2_ := (Option.bind_some _ _).symm.trans H; with_reducible exact H2_) | with_reducible exact H | (rw [hy723]; exact H) | exact H
            have Ny723 := Aside0.mk hy723
            clear hy723
            by_cases c43 : ([] : List ByteArray).length + y723.length < 8796093022208
            ·rw [if_pos c43] at H
             have LMc43 := Aside0.mk c43
             clear c43
             obtain ⟨y727, hy727⟩ : ∃ y_ : List ByteArray, y_ = (([] : List ByteArray) ++ y723) := ⟨_, rfl⟩
             replace H : (if y727.length < 8796093022208 then ((some (y727 ++ [((rd_T43 l0_5 x4_1).f3)] : List ByteArray)).bind fun y730 => ((some (x3_1.drop (x6_2 : Int).toNat : List ByteArray)).bind fun y733 => (if y730.length + y733.length < 8796093022208 then (emulatorref28_Needs.l0 k2 (y730 ++ y733) (wrap64 (x4_1 + 1)) a0_0 a0_1 a0_2 a0_3 l0_4 l0_5) else (none)))) else (none)) = some r := by first | (rw [hy727]; with_reducible exact H) | (have H2_ := (Option.bind_some _ _).symm.trans H; rw [hy727]; with_reducible exact H2_) | (have H2_ := (Option.bind_some _ _).symm.trans H; with_reducible exact H2_) | with_reducible exact H | (rw [hy727]; exact H) | exact H
             have Ny727 := Aside0.mk hy727
             clear hy727
             by_cases c44 : y727.length < 8796093022208
             ·rw [if_pos c44] at H
              have LMc44 := Aside0.mk c44
              clear c44
              obtain ⟨y730, hy730⟩ : ∃ y_ : List ByteArray, y_ = (y727 ++ [((rd_T43 l0_5 x4_1).f3)]) := ⟨_, rfl⟩
              replace H : ((some (x3_1.drop (x6_2 : Int).toNat : List ByteArray)).bind fun y733 => (if y730.length + y733.length < 8796093022208 then (emulatorref28_Needs.l0 k2 (y730 ++ y733) (wrap64 (x4_1 + 1)) a0_0 a0_1 a0_2 a0_3 l0_4 l0_5) else (none))) = some r := by first | (rw [hy730]; with_reducible exact H) | (have H2_ := (Option.bind_some _ _).symm.trans H; rw [hy730]; with_reducible exact H2_) | (have H2_ := (Option.bind_some _ _).symm.trans H; with_reducible exact H2_) | with_reducible exact H | (rw [hy730]; exact H) | exact H
              have Ny730 := Aside0.mk hy730
              clear hy730
              have c45b0 := eq_true (of_decide_eq_true (by first | (with_reducible assumption) | assumption) : 0 ≤ x6_2)
              have c46b0 := eq_true (of_decide_eq_true (by first | (with_reducible assumption) | assumption) : x6_2 ≤ (x3_1.length : Int))
              obtain ⟨y733, hy733⟩ : ∃ y_ : List ByteArray, y_ = (x3_1.drop (x6_2 : Int).toNat) := ⟨_, rfl⟩
              replace H : (if y730.length + y733.length < 8796093022208 then (emulatorref28_Needs.l0 k2 (y730 ++ y733) (wrap64 (x4_1 + 1)) a0_0 a0_1 a0_2 a0_3 l0_4 l0_5) else (none)) = some r := by first | (rw [hy733]; with_reducible exact H) | (have H2_ := (Option.bind_some _ _).symm.trans H; rw [hy733]; with_reducible exact H2_) | (have H2_ := (Option.bind_some _ _).symm.trans H; with_reducible exact H2_) | with_reducible exact H | (rw [hy733]; exact H) | exact H
              have Ny733 := Aside0.mk hy733
              clear hy733
              by_cases c47 : y730.length + y733.length < 8796093022208
              ·rw [if_pos c47] at H
               have LMc47 := Aside0.mk c47
               clear c47
               obtain ⟨y737, hy737⟩ : ∃ y_ : List ByteArray, y_ = (y730 ++ y733) := ⟨_, rfl⟩
               replace H : (emulatorref28_Needs.l0 k2 y737 (wrap64 (x4_1 + 1)) a0_0 a0_1 a0_2 a0_3 l0_4 l0_5) = some r := by first | (rw [hy737]; with_reducible exact H) | (have H2_ := (Option.bind_some _ _).symm.trans H; rw [hy737]; with_reducible exact H2_) | (have H2_ := (Option.bind_some _ _).symm.trans H; with_reducible exact H2_) | with_reducible exact H | (rw [hy737]; exact H) | exact H
               have Ny737 := Aside0.mk hy737
               clear hy737
               have H' := Aside0.mk H
               clear H
               obtain ⟨Ao48, co48, eo48⟩ := Kd.R_slice HO_3.out
               subst eo48
               have q49 : (x6_2 : Int) ≤ ((x3_1.length : Int) : Int) := of_decide_eq_true (by first | (with_reducible assumption) | assumption)
               obtain ⟨i049, hi049, _, hsz49, _⟩ := info_parts info9
               have hroom49 : x3_1.length ≤ co48 := (Kd.R_reads' HO_3.out).2.1
               have hC49 : Kd.C Kd.string _ Ao48 x3_1.length x3_1 := (Kd.R_reads' HO_3.out).2.2
               have hcut49 := cut_to (P := Try.prog) 33 9 .i64 Try.underlying33 hi049 Ao48 x3_1.length co48 x6_2 (of_decide_eq_true (by first | (with_reducible assumption) | assumption)) q49 hroom49
               have hr49 := Kd.C_take (m := (x6_2 : Int).toNat) hC49 (by omega)
               have hy49 : y723.length = (x6_2 : Int).toNat := (by rw [Ny723.out, List.length_take]; omega)
               rw [← Ny723.out] at hr49
               rw [← hy49] at hcut49
               have HR726 := Aside0.mk hr49
               have HC726 := Aside0.mk (show y723.length ≤ co48 from by omega)
               clear hr49 hC49 hroom49 hi049 hsz49
               have KY49 := Aside0.mk hy49
               clear hy49
               have KL49 := Aside0.mk (show (x6_2 : Int).toNat ≤ x3_1.length from by omega)
               replace q49 := eq_true q49
               go_wp2_with (first | ((with_reducible refine gate_builtin (b := .append) (xs := #[.tmp 54, .tmp 57]) rfl ?_); at_builtin; refine Kd.R_append_rows Kd.string (w0 := w) w.heap.size rfl (.tmp 54) (.tmp 57) 33 9 (.string ⟨#[]⟩) 16 rfl Try.underlying33 info9 rfl (by decide) (by omega) (.slice none 0 0) ([] : List ByteArray) y723 _ _ _ (fun k_ => some k_ ≠ (.slice Ao48 x3_1.length co48 : Value).ownBlock) (fun _ => False) rfl rfl ?aO ?aR (fun _ _ h => h) (fun _ h => h.elim) ?aF ?aB ?aS ?aL ?_; (case aR => repeat (first | exact (by repeat (first | (with_reducible exact HR726.out) | (with_reducible refine Kd.C_alloc ?_ _) | (with_reducible refine Kd.C_drewN ?_ _) | (with_reducible refine Kd.C_drew ?_) | exact HR726.out)) | (with_reducible refine Kd.C_alloc ?_ _) | (with_reducible refine Kd.C_drewN ?_ _) | (with_reducible refine Kd.C_drew ?_))); (case aB => exact (by repeat (first | (with_reducible first | exact HB.out | apply below_alloc | apply pw_below_drewN | apply below_drew1 | refine below_set ?_ GE684.out) | exact HB.out))); (case aF => exact (fun k_ hk => Kd.fresh' (Kd.R_lt (by (with_reducible repeat (first | apply Kd.R_alloc | apply Kd.R_drewN | apply Kd.R_drew)); exact HO_3.out)) k_ hk)); (case aO => exact ((Kd.R_nil _ _ _ _ (fun k_ => some k_ ≠ (.slice Ao48 x3_1.length co48 : Value).ownBlock)))); (case aS => exact (below_size (by repeat (first | (with_reducible first | exact HB.out | apply below_alloc | apply pw_below_drewN | apply below_drew1 | refine below_set ?_ GE684.out) | exact HB.out)))); (case aL => have := LMc43.out; omega); intro v728 w50 ho hb hg hat; rw [← Ny727.out] at ho; have n0_ := Aside0.mk (Kd.R_after (Kd.R_apart_nil (by (with_reducible repeat (first | apply Kd.R_alloc | apply Kd.R_drewN | apply Kd.R_drew)); exact HO_3.out)) hg hat); have n1_ := Aside0.mk (blk_grown (g := gb684) (o := .cells #[.string a0_0, .string a0_1, .string a0_2, .int .i64 a0_3, .slice A0_4 l0_4.length c0_4, .slice (some ad685) l0_5.length c0_5] 25 (0, 0)) (by (with_reducible repeat (first | refine blk_drewN ?_ _ | refine blk_drew ?_ | refine blk_alloc ?_ _)); exact BK684.out) hg (by simp [Value.ownBlock])); have n2_ := Aside0.mk (hb); have n3_ := Aside0.mk ((show Kd.C Kd.string w50 Ao48 y723.length y723 from by rw [Ny723.out]; exact Kd.C_take (m := (x6_2 : Int).toNat) ((Kd.R_reads' (Kd.R_after (Kd.R_apart_nil (by (with_reducible repeat (first | apply Kd.R_alloc | apply Kd.R_drewN | apply Kd.R_drew)); exact HO_3.out)) hg hat)).2.2) KL49.out)); have n4_ := Aside0.mk (ho); clear HO_3 BK684 HB HR726; have HO_3 := n0_; have BK684 := n1_; have HB := n2_; have HR726 := n3_; have HO729 := n4_; clear n0_ n1_ n2_ n3_ n4_; clear ho hb hg hat) | ((with_reducible refine gate_builtin (b := .append) (xs := #[.tmp 59, .tmp 61]) rfl ?_); at_builtin; refine Kd.R_append Kd.string (w0 := w) w.heap.size rfl (.tmp 59) (.tmp 61) 33 9 (.string ⟨#[]⟩) 16 rfl Try.underlying33 info9 rfl (by decide) (by omega) v728 y727 ((rd_T43 l0_5 x4_1).f3) [.string ((rd_T43 l0_5 x4_1).f3)] (fun k_ => some k_ ≠ (.slice Ao48 x3_1.length co48 : Value).ownBlock) (fun _ => False) rfl rfl ?aP (fun _ hk => hk.elim) ?aF ?aO ?aB ?aS ?aL ?_; (case aP => exact rfl); (case aB => exact (by repeat (first | (with_reducible first | exact HB.out | apply below_alloc | apply pw_below_drewN | apply below_drew1 | refine below_set ?_ GE684.out) | exact HB.out))); (case aF => exact (fun k_ hk => Kd.fresh' (Kd.R_lt (by (with_reducible repeat (first | apply Kd.R_alloc | apply Kd.R_drewN | apply Kd.R_drew)); exact HO_3.out)) k_ hk)); (case aO => exact (by (with_reducible repeat (first | apply Kd.R_alloc | apply Kd.R_drewN | apply Kd.R_drew)); exact HO729.out)); (case aS => exact (below_size (by repeat (first | (with_reducible first | exact HB.out | apply below_alloc | apply pw_below_drewN | apply below_drew1 | refine below_set ?_ GE684.out) | exact HB.out)))); (case aL => have := LMc44.out; omega); intro v731 w51 ho hb hg hat; rw [← Ny730.out] at ho; have n0_ := Aside0.mk (Kd.R_after (ok := (fun _ => True)) (by (with_reducible repeat (first | apply Kd.R_alloc | apply Kd.R_drewN | apply Kd.R_drew)); exact HO_3.out) hg hat); have n1_ := Aside0.mk (blk_grown (g := gb684) (o := .cells #[.string a0_0, .string a0_1, .string a0_2, .int .i64 a0_3, .slice A0_4 l0_4.length c0_4, .slice (some ad685) l0_5.length c0_5] 25 (0, 0)) (by (with_reducible repeat (first | refine blk_drewN ?_ _ | refine blk_drew ?_ | refine blk_alloc ?_ _)); exact BK684.out) hg (Kd.R_ne HO729.out BK684.out (by decide))); have n2_ := Aside0.mk (hb); have n3_ := Aside0.mk ((show Kd.C Kd.string w51 Ao48 y723.length y723 from by rw [Ny723.out]; exact Kd.C_take (m := (x6_2 : Int).toNat) ((Kd.R_reads' (Kd.R_after (ok := (fun _ => True)) (by (with_reducible repeat (first | apply Kd.R_alloc | apply Kd.R_drewN | apply Kd.R_drew)); exact HO_3.out) hg hat)).2.2) KL49.out)); have n4_ := Aside0.mk (ho); clear HO_3 BK684 HB HR726 HO729; have HO_3 := n0_; have BK684 := n1_; have HB := n2_; have HR726 := n3_; have HO732 := n4_; clear n0_ n1_ n2_ n3_ n4_; clear ho hb hg hat; have q52 : (x6_2 : Int) ≤ ((x3_1.length : Int) : Int) := of_decide_eq_true (by first | (with_reducible assumption) | assumption); obtain ⟨i052, hi052, _, hsz52, _⟩ := info_parts info9; have hroom52 : x3_1.length ≤ co48 := (Kd.R_reads' HO_3.out).2.1; have hC52 : Kd.C Kd.string _ Ao48 x3_1.length x3_1 := (Kd.R_reads' HO_3.out).2.2; have q052 : (0 : Int) ≤ (x6_2 : Int) := of_decide_eq_true (by first | (with_reducible assumption) | assumption); have hcut52 := cut_from (P := Try.prog) 33 9 .i64 Try.underlying33 hi052 1 hsz52 Ao48 x3_1.length co48 x6_2 q052 q52; have hr52 := Kd.C_drop (m := (x6_2 : Int).toNat) (c := co48) hC52 (by omega) hroom52; obtain ⟨A52, hA52⟩ : ∃ A1, A1 = (if co48 = (x6_2 : Int).toNat then Ao48 else (Ao48 : Option Addr).map (·.add ((x6_2 : Int).toNat * 1))) := ⟨_, rfl⟩; obtain ⟨c52, hc52⟩ : ∃ c1, c1 = co48 - (x6_2 : Int).toNat := ⟨_, rfl⟩; have hy52 : y733.length = x3_1.length - (x6_2 : Int).toNat := (by rw [Ny733.out, List.length_drop] <;> omega); rw [show (x3_1).drop (x6_2 : Int).toNat = y733 from Ny733.out.symm] at hr52; replace hr52 : Kd.C Kd.string _ A52 y733.length y733 := (by rw [hA52]; exact hr52); rw [← hy52, ← hA52, ← hc52] at hcut52; have HR736 := Aside0.mk hr52; have HC736 := Aside0.mk (show y733.length ≤ c52 from by rw [hy52, hc52]; exact Nat.sub_le_sub_right hroom52 _); clear hr52 hC52 hroom52 hi052 hsz52 hc52; have KY52 := Aside0.mk hy52; have KA52 := Aside0.mk hA52; clear hy52 hA52; have KL52 := Aside0.mk (show (x6_2 : Int).toNat ≤ x3_1.length from by omega); replace q52 := eq_true q52) | ((with_reducible refine gate_builtin (b := .append) (xs := #[.tmp 63, .tmp 66]) rfl ?_); at_builtin; refine Kd.R_append_rows Kd.string (w0 := w) w.heap.size rfl (.tmp 63) (.tmp 66) 33 9 (.string ⟨#[]⟩) 16 rfl Try.underlying33 info9 rfl (by decide) (by omega) v731 y730 y733 _ _ _ (fun k_ => some k_ ≠ (.slice Ao48 x3_1.length co48 : Value).ownBlock) (fun _ => False) rfl rfl ?aO ?aR (fun _ _ h => h) (fun _ h => h.elim) ?aF ?aB ?aS ?aL ?_; (case aR => repeat (first | exact (by repeat (first | (with_reducible exact HR736.out) | (with_reducible refine Kd.C_alloc ?_ _) | (with_reducible refine Kd.C_drewN ?_ _) | (with_reducible refine Kd.C_drew ?_) | exact HR736.out)) | (with_reducible refine Kd.C_alloc ?_ _) | (with_reducible refine Kd.C_drewN ?_ _) | (with_reducible refine Kd.C_drew ?_))); (case aB => exact (by repeat (first | (with_reducible first | exact HB.out | apply below_alloc | apply pw_below_drewN | apply below_drew1 | refine below_set ?_ GE684.out) | exact HB.out))); (case aF => exact (fun k_ hk => Kd.fresh' (Kd.R_lt (by (with_reducible repeat (first | apply Kd.R_alloc | apply Kd.R_drewN | apply Kd.R_drew)); exact HO_3.out)) k_ hk)); (case aO => exact (by (with_reducible repeat (first | apply Kd.R_alloc | apply Kd.R_drewN | apply Kd.R_drew)); exact HO732.out)); (case aS => exact (below_size (by repeat (first | (with_reducible first | exact HB.out | apply below_alloc | apply pw_below_drewN | apply below_drew1 | refine below_set ?_ GE684.out) | exact HB.out)))); (case aL => have := LMc47.out; omega); intro v738 w53 ho hb hg hat; rw [← Ny737.out] at ho; have n0_ := Aside0.mk (Kd.R_after (ok := (fun _ => True)) (by (with_reducible repeat (first | apply Kd.R_alloc | apply Kd.R_drewN | apply Kd.R_drew)); exact HO_3.out) hg hat); have n1_ := Aside0.mk (blk_grown (g := gb684) (o := .cells #[.string a0_0, .string a0_1, .string a0_2, .int .i64 a0_3, .slice A0_4 l0_4.length c0_4, .slice (some ad685) l0_5.length c0_5] 25 (0, 0)) (by (with_reducible repeat (first | refine blk_drewN ?_ _ | refine blk_drew ?_ | refine blk_alloc ?_ _)); exact BK684.out) hg (Kd.R_ne HO732.out BK684.out (by decide))); have n2_ := Aside0.mk (hb); have n3_ := Aside0.mk ((show Kd.C Kd.string w53 Ao48 y723.length y723 from by rw [Ny723.out]; exact Kd.C_take (m := (x6_2 : Int).toNat) ((Kd.R_reads' (Kd.R_after (ok := (fun _ => True)) (by (with_reducible repeat (first | apply Kd.R_alloc | apply Kd.R_drewN | apply Kd.R_drew)); exact HO_3.out) hg hat)).2.2) KL49.out)); have n4_ := Aside0.mk ((show Kd.C Kd.string w53 A52 y733.length y733 from by rw [Ny733.out, KA52.out]; exact Kd.C_drop (m := (x6_2 : Int).toNat) (c := co48) ((Kd.R_reads' (Kd.R_after (ok := (fun _ => True)) (by (with_reducible repeat (first | apply Kd.R_alloc | apply Kd.R_drewN | apply Kd.R_drew)); exact HO_3.out) hg hat)).2.2) KL52.out ((Kd.R_reads' (Kd.R_after (ok := (fun _ => True)) (by (with_reducible repeat (first | apply Kd.R_alloc | apply Kd.R_drewN | apply Kd.R_drew)); exact HO_3.out) hg hat)).2.1))); have n5_ := Aside0.mk (ho); clear HO_3 BK684 HB HR726 HR736 HO732; have HO_3 := n0_; have BK684 := n1_; have HB := n2_; have HR726 := n3_; have HR736 := n4_; have HO739 := n5_; clear n0_ n1_ n2_ n3_ n4_ n5_; clear ho hb hg hat))
               go_roundg k2
               case measure => have := HK1.out; have := HK2.out; omega
               case rel => exact ⟨(y737), (wrap64 (x4_1 + 1)), (by first | rfl | (simp; done) | (simp [isEmpty_ne]; done) | (simp [*]; done)), H', ⟨by have := HK1.out; have := HK2.out; omega⟩, ⟨by (with_reducible repeat (first | apply Kd.R_alloc | apply Kd.R_drewN | apply Kd.R_drew)); exact Kd.R_mono HO739.out (fun _ hk => trivial)⟩, ⟨by (with_reducible repeat (first | refine blk_drewN ?_ _ | refine blk_drew ?_ | refine blk_alloc ?_ _)); exact BK684.out⟩, ⟨by repeat (first | (with_reducible first | exact HB.out | apply below_alloc | apply pw_below_drewN | apply below_drew1 | refine below_set ?_ GE684.out) | exact HB.out)⟩⟩
              ·rw [if_neg c47] at H
               exact absurd H (by simp)
             ·rw [if_neg c44] at H
              exact absurd H (by simp)
            ·rw [if_neg c43] at H
             exact absurd H (by simp)
           ·rw [if_neg c42] at H
            exact absurd H (by simp)
          ·rw [if_neg c41] at H
           exact absurd H (by simp)
         ·rw [if_neg c40] at H
          have c40b0 : (x6_2 == (x3_1.length : Int)) = false := beq_eq_false_iff_ne.mpr c40
          have c40b1 : (x6_2 != (x3_1.length : Int)) = true := bne_iff_ne.mpr c40
          by_cases c54 : 0 ≤ x6_2
          ·rw [if_pos c54] at H
           exact absurd H (by simp)
          ·rw [if_neg c54] at H
           exact absurd H (by simp)
     ·rw [if_neg c5] at H
      have c5b0 : (((rd_T43 l0_5 x4_1).f2) == 4) = false := beq_eq_false_iff_ne.mpr c5
      have c5b1 : (((rd_T43 l0_5 x4_1).f2) != 4) = true := bne_iff_ne.mpr c5
      have H' := Aside0.mk H
      clear H
      have hcz55_0 : wr.cell? ⟨gb684, 0, none⟩ = some (.string a0_0) := (blk_cell BK684.out 0).trans rfl
      have hcz55_1 : wr.cell? ⟨gb684, 1, none⟩ = some (.string a0_1) := (blk_cell BK684.out 1).trans rfl
      have hcz55_2 : wr.cell? ⟨gb684, 2, none⟩ = some (.string a0_2) := (blk_cell BK684.out 2).trans rfl
      have hcz55_3 : wr.cell? ⟨gb684, 3, none⟩ = some (.int .i64 a0_3) := (blk_cell BK684.out 3).trans rfl
      have hcz55_4 : wr.cell? ⟨gb684, 4, none⟩ = some (.slice A0_4 l0_4.length c0_4) := (blk_cell BK684.out 4).trans rfl
      have hcz55_5 : wr.cell? ⟨gb684, 5, none⟩ = some (.slice A0_5 l0_5.length c0_5) := (blk_cell BK684.out 5).trans rfl
      have hfz55_0 := blk_frozen BK684.out 0
      have hfz55_1 := blk_frozen BK684.out 1
      have hfz55_2 := blk_frozen BK684.out 2
      have hfz55_3 := blk_frozen BK684.out 3
      have hfz55_4 := blk_frozen BK684.out 4
      have hfz55_5 := blk_frozen BK684.out 5
      have p685 : 0 ≤ (x4_1 : Int) := of_decide_eq_true (by first | (with_reducible assumption) | assumption)
      have q685 : x4_1 < (l0_5.length : Int) := of_decide_eq_true (by first | (with_reducible assumption) | assumption)
      obtain ⟨ad685, e685, hx685_0, hx685_1, hx685_2, hx685_3, hx685_4⟩ := at_T43 HR0_5.out x4_1 p685 q685
      cases e685
      replace hx685_0 := (HB.out.cell (World.block_lt_of_cell? w _ hx685_0)).trans hx685_0
      replace hx685_1 := (HB.out.cell (World.block_lt_of_cell? w _ hx685_1)).trans hx685_1
      replace hx685_2 := (HB.out.cell (World.block_lt_of_cell? w _ hx685_2)).trans hx685_2
      replace hx685_3 := (HB.out.cell (World.block_lt_of_cell? w _ hx685_3)).trans hx685_3
      replace hx685_4 := (HB.out.cell (World.block_lt_of_cell? w _ hx685_4)).trans hx685_4
      replace p685 := eq_true p685
      replace q685 := eq_true q685
      go_wp2
      go_roundg k1
      case measure => have := HK1.out; omega
      case rel => exact ⟨(x3_1), (wrap64 (x4_1 + 1)), (by first | rfl | (simp; done) | (simp [isEmpty_ne]; done) | (simp [*]; done)), H', ⟨by have := HK1.out; omega⟩, ⟨by (with_reducible repeat (first | apply Kd.R_alloc | apply Kd.R_drewN | apply Kd.R_drew)); exact HO_3.out⟩, ⟨by (with_reducible repeat (first | refine blk_drewN ?_ _ | refine blk_drew ?_ | refine blk_alloc ?_ _)); exact BK684.out⟩, ⟨by repeat (first | (with_reducible first | exact HB.out | apply below_alloc | apply pw_below_drewN | apply below_drew1 | refine below_set ?_ GE684.out) | exact HB.out)⟩⟩
    ·rw [if_neg c4] at H
     exact absurd H (by simp)
   ·rw [if_neg c3] at H
    have c3b0 : decide (x4_1 < (l0_5.length : Int)) = false := decide_eq_false c3
    clear c3
    obtain rfl := Option.some.inj H
    have hcz56_0 : wr.cell? ⟨gb684, 0, none⟩ = some (.string a0_0) := (blk_cell BK684.out 0).trans rfl
    have hcz56_1 : wr.cell? ⟨gb684, 1, none⟩ = some (.string a0_1) := (blk_cell BK684.out 1).trans rfl
    have hcz56_2 : wr.cell? ⟨gb684, 2, none⟩ = some (.string a0_2) := (blk_cell BK684.out 2).trans rfl
    have hcz56_3 : wr.cell? ⟨gb684, 3, none⟩ = some (.int .i64 a0_3) := (blk_cell BK684.out 3).trans rfl
    have hcz56_4 : wr.cell? ⟨gb684, 4, none⟩ = some (.slice A0_4 l0_4.length c0_4) := (blk_cell BK684.out 4).trans rfl
    have hcz56_5 : wr.cell? ⟨gb684, 5, none⟩ = some (.slice A0_5 l0_5.length c0_5) := (blk_cell BK684.out 5).trans rfl
    have hfz56_0 := blk_frozen BK684.out 0
    have hfz56_1 := blk_frozen BK684.out 1
    have hfz56_2 := blk_frozen BK684.out 2
    have hfz56_3 := blk_frozen BK684.out 3
    have hfz56_4 := blk_frozen BK684.out 4
    have hfz56_5 := blk_frozen BK684.out 5
    go_wp2
    go_ret
    exact ⟨_, by first | rfl | (simp [errW_none, errW_some] <;> rfl) | (simp [*, errW_none, errW_some] <;> rfl), by (with_reducible repeat (first | apply Kd.R_alloc | apply Kd.R_drewN | apply Kd.R_drew)); exact HO_3.out, by repeat (first | (with_reducible first | exact HB.out | apply below_alloc | apply pw_below_drewN | apply below_drew1 | refine below_set ?_ GE684.out) | exact HB.out)⟩

end Go.Proofs.Ytenlmckahaniiaa.K
