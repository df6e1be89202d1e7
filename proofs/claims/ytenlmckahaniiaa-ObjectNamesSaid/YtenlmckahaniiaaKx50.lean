-- Printed by a program of this session out of Lean's print of the translation. Lean checks it.
import Derived.Test.YtenlmckahaniiaaMyOlD
import Derived.Test.YtenlmckahaniiaaKx0
namespace Go.Proofs.Ytenlmckahaniiaa.K
open Go.RowKit Go.Proofs.YtenlmckahaniiaaW.PrintWords Go.Proofs.YtenlmckahaniiaaW.PrintLast
set_option linter.unusedVariables false
set_option linter.unusedSimpArgs false

-- NOT PRINTED: function 101 (api_Symbol_101)

-- NOT PRINTED: function 72 (api_Symbol_72)

/-! ### object_Defines: function 29 -/
def object_Defines.f (a0_0 : ByteArray) (a0_1 : ByteArray) (a0_2 : ByteArray) (a0_3 : Int) (l0_4 : List (S62)) (l0_5 : List (S43)) (a1 : ByteArray) : Option Bool := some (l0_4.any (pSym a1))
set_option maxHeartbeats 1000000 in
set_option maxRecDepth 100000 in
theorem object_Defines.calls (a0_0 : ByteArray) (a0_1 : ByteArray) (a0_2 : ByteArray) (a0_3 : Int) (A0_4 : Option Addr) (c0_4 : Nat) (l0_4 : List (S62)) (A0_5 : Option Addr) (c0_5 : Nat) (l0_5 : List (S43)) (a1 : ByteArray) (r : Bool) (w : World) (hr0_4 : Kd.C k62 w A0_4 l0_4.length l0_4) (hc0_4 : l0_4.length ≤ c0_4) (hr0_5 : Kd.C k43 w A0_5 l0_5.length l0_5) (hc0_5 : l0_5.length ≤ c0_5) (h : object_Defines.f a0_0 a0_1 a0_2 a0_3 l0_4 l0_5 a1 = some r) :
  Calls Try.prog 29 #[.agg #[.string a0_0, .string a0_1, .string a0_2, .int .i64 a0_3, .slice A0_4 l0_4.length c0_4, .slice A0_5 l0_5.length c0_5], .string a1] w fun e w' => e = .returned (.bool r) ∧ Below w.heap.size w w' := by
 obtain rfl := Option.some.inj h
 clear h
 have HR4 := Aside0.mk hr0_4
 clear hr0_4 hr0_5 hc0_4 hc0_5
 have HC := Aside0.mk (Kd.C_alloc (Kd.C_alloc HR4.out (.cells #[.string a0_0, .string a0_1, .string a0_2, .int .i64 a0_3, .slice A0_4 l0_4.length c0_4, .slice A0_5 l0_5.length c0_5] 25)) (.cells #[.string a1] 9))
 have HB := Aside0.mk (((Below.refl w.heap.size w).alloc (Nat.le_refl _) (.cells #[.string a0_0, .string a0_1, .string a0_2, .int .i64 a0_3, .slice A0_4 l0_4.length c0_4, .slice A0_5 l0_5.length c0_5] 25)).alloc (by simp) (.cells #[.string a1] 9))
 have HQ : Aside0 ((World.alloc (w.alloc (.cells #[.string a0_0, .string a0_1, .string a0_2, .int .i64 a0_3, .slice A0_4 l0_4.length c0_4, .slice A0_5 l0_5.length c0_5] 25)) (.cells #[.string a1] 9)).heap[w.heap.size + 1]? = some (.cells #[.string a1] 9)) := ⟨by have h_ := blk_new (w.alloc (.cells #[.string a0_0, .string a0_1, .string a0_2, .int .i64 a0_3, .slice A0_4 l0_4.length c0_4, .slice A0_5 l0_5.length c0_5] 25)) (.cells #[.string a1] 9); rwa [show ((w.alloc (.cells #[.string a0_0, .string a0_1, .string a0_2, .int .i64 a0_3, .slice A0_4 l0_4.length c0_4, .slice A0_5 l0_5.length c0_5] 25))).heap.size = w.heap.size + 1 by simp] at h_⟩
 go_enter Try.func29, Try.ntmps29
 go_wp2_with (go_at_call 72; (with_reducible refine (containsFunc_calls (pSym a1) 73 _ (fun args w => enters_ Try.func73 (by kernel_rfl) rfl args w) A0_4 c0_4 l0_4 _ HC.out (fun x w1 hb1 => definesF_calls x _ a1 w1 ((blk_cell (blk_below HQ.out hb1) 0).trans rfl))).mono ?_); rintro e w2 ⟨rfl, hb⟩; have HB2 := Aside0.mk (below_step HB.out hb); clear hb)
 go_ret
 exact ⟨rfl, HB2.out⟩

/-! ### emulatorref28_Defines: function 30 -/
def emulatorref28_Defines.l0 : Nat → ByteArray → Int → ByteArray → ByteArray → ByteArray → Int → List (S62) → List (S43) → Option (Bool)
  | 0, _, _, _, _, _, _, _, _ => none
  | k + 1, x1, x5, x741000, x741001, x741002, x741003, x741004, x741005 => if x5 < (x741004.length : Int) then (if 0 ≤ x5 then (if ((rd_T62 x741004 x5).f0).toList = x1.toList then (if (rd_T62 x741004 x5).f3 = true then (some true) else (emulatorref28_Defines.l0 k x1 (wrap64 (x5 + 1)) x741000 x741001 x741002 x741003 x741004 x741005)) else (emulatorref28_Defines.l0 k x1 (wrap64 (x5 + 1)) x741000 x741001 x741002 x741003 x741004 x741005)) else (none)) else (some false)
def emulatorref28_Defines.f (k : Nat) (a0_0 : ByteArray) (a0_1 : ByteArray) (a0_2 : ByteArray) (a0_3 : Int) (l0_4 : List (S62)) (l0_5 : List (S43)) (a1 : ByteArray) : Option (Bool) := emulatorref28_Defines.l0 k a1 0 a0_0 a0_1 a0_2 a0_3 l0_4 l0_5
theorem emulatorref28_Defines.mono_l : ∀ k, (∀ y0 y1 y2 y3 y4 y5 y6 y7, LeO (emulatorref28_Defines.l0 k y0 y1 y2 y3 y4 y5 y6 y7) (emulatorref28_Defines.l0 (k + 1) y0 y1 y2 y3 y4 y5 y6 y7))
 | 0 => fun _ _ _ _ _ _ _ _ r h => by simp [emulatorref28_Defines.l0] at h
 | k + 1 => by
  have ih0 := emulatorref28_Defines.mono_l k
  ·intro y0 y1 y2 y3 y4 y5 y6 y7
   unfold emulatorref28_Defines.l0
   repeat' first
   | (with_reducible exact ih0 _ _ _ _ _ _ _ _)
   | (with_reducible exact LeO.refl _)
   | (with_reducible exact LeO.none _)
   | (with_reducible refine LeO.ite ?_ ?_)
   | (with_reducible refine LeO.bind ?_ (fun _ => ?_))
   | exact ih0 _ _ _ _ _ _ _ _
   | exact LeO.none _
   | refine LeO.ite ?_ ?_
   | refine LeO.bind ?_ (fun _ => ?_)
theorem emulatorref28_Defines.mono : ∀ a0 a1 a2 a3 a4 a5 a6 k, LeO (emulatorref28_Defines.f k a0 a1 a2 a3 a4 a5 a6) (emulatorref28_Defines.f (k + 1) a0 a1 a2 a3 a4 a5 a6) := by
 intro a0 a1 a2 a3 a4 a5 a6 k
 have ih0 := emulatorref28_Defines.mono_l k
 unfold emulatorref28_Defines.f
 repeat' first
   | (with_reducible exact ih0 _ _ _ _ _ _ _ _)
   | (with_reducible exact LeO.refl _)
   | (with_reducible exact LeO.none _)
   | (with_reducible refine LeO.ite ?_ ?_)
   | (with_reducible refine LeO.bind ?_ (fun _ => ?_))
   | exact ih0 _ _ _ _ _ _ _ _
   | exact LeO.none _
   | refine LeO.ite ?_ ?_
   | refine LeO.bind ?_ (fun _ => ?_)
set_option maxHeartbeats 8000000 in
set_option maxRecDepth 100000 in
theorem emulatorref28_Defines.calls (k : Nat) (a0_0 : ByteArray) (a0_1 : ByteArray) (a0_2 : ByteArray) (a0_3 : Int) (A0_4 : Option Addr) (c0_4 : Nat) (l0_4 : List (S62)) (A0_5 : Option Addr) (c0_5 : Nat) (l0_5 : List (S43)) (a1 : ByteArray) (r : Bool) (w : World) (hr0_4 : Kd.C k62 w A0_4 l0_4.length l0_4) (hc0_4 : l0_4.length ≤ c0_4) (hr0_5 : Kd.C k43 w A0_5 l0_5.length l0_5) (hc0_5 : l0_5.length ≤ c0_5) (h : emulatorref28_Defines.f k a0_0 a0_1 a0_2 a0_3 l0_4 l0_5 a1 = some r) :
  Calls Try.prog 30 #[.agg #[.string a0_0, .string a0_1, .string a0_2, .int .i64 a0_3, .slice A0_4 l0_4.length c0_4, .slice A0_5 l0_5.length c0_5], .string a1] w fun e w' => e = .returned (.bool r) ∧ Below w.heap.size w w' := by
 have hu25 := Try.underlying25
 have HR0_4 := Aside0.mk hr0_4
 have HC0_4 := Aside0.mk hc0_4
 clear hr0_4 hc0_4
 have HR0_5 := Aside0.mk hr0_5
 have HC0_5 := Aside0.mk hc0_5
 clear hr0_5 hc0_5
 have HB := Aside0.mk (Below.refl w.heap.size w)
 have H : (emulatorref28_Defines.l0 k a1 0 a0_0 a0_1 a0_2 a0_3 l0_4 l0_5) = some r := h
 clear h
 have H' := Aside0.mk H
 clear H
 go_enter Try.func30, Try.ntmps30
 go_wp2_with (first | ((with_reducible refine gate_dst (N := 2) rfl ?_); refine box_event ?hg (N := 2) ?hd (cs := #[.string a0_0, .string a0_1, .string a0_2, .int .i64 a0_3, .slice A0_4 l0_4.length c0_4, .slice A0_5 l0_5.length c0_5]) (t := 25) ?hr ?_; (case hd => rfl); (case hg => rfl); (case hr => first | (go_simp; done) | (go_simp; rfl)); intro gb740 hg w3 hbox hb; have n0_ := Aside0.mk (below_step (by repeat (first | (with_reducible first | exact HB.out | apply below_alloc | apply pw_below_drewN | apply below_drew1) | exact HB.out)) hb); have n1_ := Aside0.mk (hbox); have n2_ := Aside0.mk ((by rw [hg]; exact (below_size (by repeat (first | (with_reducible first | exact HB.out | apply below_alloc | apply pw_below_drewN | apply below_drew1) | exact HB.out))) : w.heap.size ≤ gb740)); have n3_ := Aside0.mk ((by rw [hg]; exact (below_size (by repeat (first | (with_reducible first | exact HB.out | apply below_alloc | apply pw_below_drewN | apply below_drew1) | exact HB.out))) : w.heap.size ≤ gb740)); clear HB; have HB := n0_; have BK740 := n1_; have GW740 := n2_; have GE740 := n3_; clear n0_ n1_ n2_ n3_; clear hb hbox hg))
 go_loopg [5] k (fun kq v5 w' => ∃ (x5_1 : Int), v5 = .int .i64 x5_1 ∧ Aside0 (emulatorref28_Defines.l0 kq a1 x5_1 a0_0 a0_1 a0_2 a0_3 l0_4 l0_5 = some r) ∧ Aside0 (kq ≤ k) ∧ Aside0 (w'.heap[gb740]? = some (.cells #[.string a0_0, .string a0_1, .string a0_2, .int .i64 a0_3, (.slice A0_4 l0_4.length c0_4), (.slice A0_5 l0_5.length c0_5)] 25 (0, 0))) ∧ Aside0 (Below w.heap.size w w'))
 case atStart => exact ⟨(0), (by first | rfl | (simp; done) | (simp [isEmpty_ne]; done) | (simp [*]; done)), H', ⟨Nat.le_refl _⟩, ⟨by (with_reducible repeat (first | refine blk_drewN ?_ _ | refine blk_drew ?_ | refine blk_alloc ?_ _)); exact BK740.out⟩, ⟨by repeat (first | (with_reducible first | exact HB.out | apply below_alloc | apply pw_below_drewN | apply below_drew1 | refine below_set ?_ GE740.out) | exact HB.out)⟩⟩
 case round =>
  clear H'
  (try clear p2); (try clear c3)
  obtain ⟨x5_1, rfl, HA, HK1, BK740, HB⟩ := hrel
  cases gk with
  | zero => exact absurd HA.out (by simp [emulatorref28_Defines.l0])
  | succ k1 =>
   have H := HA.out
   clear HA
   simp only [emulatorref28_Defines.l0] at H
   by_cases c4 : x5_1 < (l0_4.length : Int)
   ·rw [if_pos c4] at H
    have c4b0 : decide (x5_1 < (l0_4.length : Int)) = true := decide_eq_true c4
    clear c4
    by_cases c5 : 0 ≤ x5_1
    ·rw [if_pos c5] at H
     have c5b0 : decide (0 ≤ x5_1) = true := decide_eq_true c5
     clear c5
     by_cases c6 : ((rd_T62 l0_4 x5_1).f0).toList = a1.toList
     ·rw [if_pos c6] at H
      have c6b0 : (((rd_T62 l0_4 x5_1).f0).toList == a1.toList) = true := beq_iff_eq.mpr c6
      have c6b1 : (((rd_T62 l0_4 x5_1).f0).toList != a1.toList) = false := bne_eq_false_iff_eq.mpr c6
      clear c6
      obtain ⟨bq7, hbq7⟩ : ∃ b_ : Bool, b_ = ((rd_T62 l0_4 x5_1).f3) := ⟨_, rfl⟩
      replace H : (if bq7 = true then (some true) else (emulatorref28_Defines.l0 k1 a1 (wrap64 (x5_1 + 1)) a0_0 a0_1 a0_2 a0_3 l0_4 l0_5)) = some r := by rw [← hbq7] at H; exact H
      have Nbq7 := Aside0.mk hbq7
      clear hbq7
      by_cases c8 : bq7 = true
      ·subst c8
       have H1 : (some true) = some r := by rw [if_pos rfl] at H; exact H
       clear H
       have H := H1
       clear H1
       obtain rfl := Option.some.inj H
       have hcz9_0 : wr.cell? ⟨gb740, 0, none⟩ = some (.string a0_0) := (blk_cell BK740.out 0).trans rfl
       have hcz9_1 : wr.cell? ⟨gb740, 1, none⟩ = some (.string a0_1) := (blk_cell BK740.out 1).trans rfl
       have hcz9_2 : wr.cell? ⟨gb740, 2, none⟩ = some (.string a0_2) := (blk_cell BK740.out 2).trans rfl
       have hcz9_3 : wr.cell? ⟨gb740, 3, none⟩ = some (.int .i64 a0_3) := (blk_cell BK740.out 3).trans rfl
       have hcz9_4 : wr.cell? ⟨gb740, 4, none⟩ = some (.slice A0_4 l0_4.length c0_4) := (blk_cell BK740.out 4).trans rfl
       have hcz9_5 : wr.cell? ⟨gb740, 5, none⟩ = some (.slice A0_5 l0_5.length c0_5) := (blk_cell BK740.out 5).trans rfl
       have hfz9_0 := blk_frozen BK740.out 0
       have hfz9_1 := blk_frozen BK740.out 1
       have hfz9_2 := blk_frozen BK740.out 2
       have hfz9_3 := blk_frozen BK740.out 3
       have hfz9_4 := blk_frozen BK740.out 4
       have hfz9_5 := blk_frozen BK740.out 5
       have p741 : 0 ≤ (x5_1 : Int) := of_decide_eq_true (by first | (with_reducible assumption) | assumption)
       have q741 : x5_1 < (l0_4.length : Int) := of_decide_eq_true (by first | (with_reducible assumption) | assumption)
       obtain ⟨ad741, e741, hx741_0, hx741_1, hx741_2, hx741_3⟩ := at_T62 HR0_4.out x5_1 p741 q741
       (try rw [← Nbq7.out] at hx741_3)
       cases e741
       replace hx741_0 := (HB.out.cell (World.block_lt_of_cell? w _ hx741_0)).trans hx741_0
       replace hx741_1 := (HB.out.cell (World.block_lt_of_cell? w _ hx741_1)).trans hx741_1
       replace hx741_2 := (HB.out.cell (World.block_lt_of_cell? w _ hx741_2)).trans hx741_2
       replace hx741_3 := (HB.out.cell (World.block_lt_of_cell? w _ hx741_3)).trans hx741_3
       replace p741 := eq_true p741
       replace q741 := eq_true q741
       have p742 : 0 ≤ (x5_1 : Int) := of_decide_eq_true (by first | (with_reducible assumption) | assumption)
       have q742 : x5_1 < (l0_4.length : Int) := of_decide_eq_true (by first | (with_reducible assumption) | assumption)
       obtain ⟨ad742, e742, hx742_0, hx742_1, hx742_2, hx742_3⟩ := at_T62 HR0_4.out x5_1 p742 q742
       (try rw [← Nbq7.out] at hx742_3)
       obtain rfl : ad741 = ad742 := (by injection e742)
       replace hx742_0 := (HB.out.cell (World.block_lt_of_cell? w _ hx742_0)).trans hx742_0
       replace hx742_1 := (HB.out.cell (World.block_lt_of_cell? w _ hx742_1)).trans hx742_1
       replace hx742_2 := (HB.out.cell (World.block_lt_of_cell? w _ hx742_2)).trans hx742_2
       replace hx742_3 := (HB.out.cell (World.block_lt_of_cell? w _ hx742_3)).trans hx742_3
       replace p742 := eq_true p742
       replace q742 := eq_true q742
       go_wp2
       go_ret
       exact ⟨by first | rfl | (simp [errW_none, errW_some] <;> rfl) | (simp [*, errW_none, errW_some] <;> rfl), by repeat (first | (with_reducible first | exact HB.out | apply below_alloc | apply pw_below_drewN | apply below_drew1 | refine below_set ?_ GE740.out) | exact HB.out)⟩
      ·replace c8 := Bool.eq_false_iff.mpr c8
       subst c8
       have H1 : (emulatorref28_Defines.l0 k1 a1 (wrap64 (x5_1 + 1)) a0_0 a0_1 a0_2 a0_3 l0_4 l0_5) = some r := by rw [if_neg (show ¬ (false = true) by decide)] at H; exact H
       clear H
       have H := H1
       clear H1
       have H' := Aside0.mk H
       clear H
       have hcz10_0 : wr.cell? ⟨gb740, 0, none⟩ = some (.string a0_0) := (blk_cell BK740.out 0).trans rfl
       have hcz10_1 : wr.cell? ⟨gb740, 1, none⟩ = some (.string a0_1) := (blk_cell BK740.out 1).trans rfl
       have hcz10_2 : wr.cell? ⟨gb740, 2, none⟩ = some (.string a0_2) := (blk_cell BK740.out 2).trans rfl
       have hcz10_3 : wr.cell? ⟨gb740, 3, none⟩ = some (.int .i64 a0_3) := (blk_cell BK740.out 3).trans rfl
       have hcz10_4 : wr.cell? ⟨gb740, 4, none⟩ = some (.slice A0_4 l0_4.length c0_4) := (blk_cell BK740.out 4).trans rfl
       have hcz10_5 : wr.cell? ⟨gb740, 5, none⟩ = some (.slice A0_5 l0_5.length c0_5) := (blk_cell BK740.out 5).trans rfl
       have hfz10_0 := blk_frozen BK740.out 0
       have hfz10_1 := blk_frozen BK740.out 1
       have hfz10_2 := blk_frozen BK740.out 2
       have hfz10_3 := blk_frozen BK740.out 3
       have hfz10_4 := blk_frozen BK740.out 4
       have hfz10_5 := blk_frozen BK740.out 5
       have p741 : 0 ≤ (x5_1 : Int) := of_decide_eq_true (by first | (with_reducible assumption) | assumption)
       have q741 : x5_1 < (l0_4.length : Int) := of_decide_eq_true (by first | (with_reducible assumption) | assumption)
       obtain ⟨ad741, e741, hx741_0, hx741_1, hx741_2, hx741_3⟩ := at_T62 HR0_4.out x5_1 p741 q741
       (try rw [← Nbq7.out] at hx741_3)
       cases e741
       replace hx741_0 := (HB.out.cell (World.block_lt_of_cell? w _ hx741_0)).trans hx741_0
       replace hx741_1 := (HB.out.cell (World.block_lt_of_cell? w _ hx741_1)).trans hx741_1
       replace hx741_2 := (HB.out.cell (World.block_lt_of_cell? w _ hx741_2)).trans hx741_2
       replace hx741_3 := (HB.out.cell (World.block_lt_of_cell? w _ hx741_3)).trans hx741_3
       replace p741 := eq_true p741
       replace q741 := eq_true q741
       have p742 : 0 ≤ (x5_1 : Int) := of_decide_eq_true (by first | (with_reducible assumption) | assumption)
       have q742 : x5_1 < (l0_4.length : Int) := of_decide_eq_true (by first | (with_reducible assumption) | assumption)
       obtain ⟨ad742, e742, hx742_0, hx742_1, hx742_2, hx742_3⟩ := at_T62 HR0_4.out x5_1 p742 q742
       (try rw [← Nbq7.out] at hx742_3)
       obtain rfl : ad741 = ad742 := (by injection e742)
       replace hx742_0 := (HB.out.cell (World.block_lt_of_cell? w _ hx742_0)).trans hx742_0
       replace hx742_1 := (HB.out.cell (World.block_lt_of_cell? w _ hx742_1)).trans hx742_1
       replace hx742_2 := (HB.out.cell (World.block_lt_of_cell? w _ hx742_2)).trans hx742_2
       replace hx742_3 := (HB.out.cell (World.block_lt_of_cell? w _ hx742_3)).trans hx742_3
       replace p742 := eq_true p742
       replace q742 := eq_true q742
       go_wp2
       go_roundg k1
       case measure => have := HK1.out; omega
       case rel => exact ⟨(wrap64 (x5_1 + 1)), (by first | rfl | (simp; done) | (simp [isEmpty_ne]; done) | (simp [*]; done)), H', ⟨by have := HK1.out; omega⟩, ⟨by (with_reducible repeat (first | refine blk_drewN ?_ _ | refine blk_drew ?_ | refine blk_alloc ?_ _)); exact BK740.out⟩, ⟨by repeat (first | (with_reducible first | exact HB.out | apply below_alloc | apply pw_below_drewN | apply below_drew1 | refine below_set ?_ GE740.out) | exact HB.out)⟩⟩
     ·rw [if_neg c6] at H
      have c6b0 : (((rd_T62 l0_4 x5_1).f0).toList == a1.toList) = false := beq_eq_false_iff_ne.mpr c6
      have c6b1 : (((rd_T62 l0_4 x5_1).f0).toList != a1.toList) = true := bne_iff_ne.mpr c6
      have H' := Aside0.mk H
      clear H
      have hcz11_0 : wr.cell? ⟨gb740, 0, none⟩ = some (.string a0_0) := (blk_cell BK740.out 0).trans rfl
      have hcz11_1 : wr.cell? ⟨gb740, 1, none⟩ = some (.string a0_1) := (blk_cell BK740.out 1).trans rfl
      have hcz11_2 : wr.cell? ⟨gb740, 2, none⟩ = some (.string a0_2) := (blk_cell BK740.out 2).trans rfl
      have hcz11_3 : wr.cell? ⟨gb740, 3, none⟩ = some (.int .i64 a0_3) := (blk_cell BK740.out 3).trans rfl
      have hcz11_4 : wr.cell? ⟨gb740, 4, none⟩ = some (.slice A0_4 l0_4.length c0_4) := (blk_cell BK740.out 4).trans rfl
      have hcz11_5 : wr.cell? ⟨gb740, 5, none⟩ = some (.slice A0_5 l0_5.length c0_5) := (blk_cell BK740.out 5).trans rfl
      have hfz11_0 := blk_frozen BK740.out 0
      have hfz11_1 := blk_frozen BK740.out 1
      have hfz11_2 := blk_frozen BK740.out 2
      have hfz11_3 := blk_frozen BK740.out 3
      have hfz11_4 := blk_frozen BK740.out 4
      have hfz11_5 := blk_frozen BK740.out 5
      have p741 : 0 ≤ (x5_1 : Int) := of_decide_eq_true (by first | (with_reducible assumption) | assumption)
      have q741 : x5_1 < (l0_4.length : Int) := of_decide_eq_true (by first | (with_reducible assumption) | assumption)
      obtain ⟨ad741, e741, hx741_0, hx741_1, hx741_2, hx741_3⟩ := at_T62 HR0_4.out x5_1 p741 q741
      cases e741
      replace hx741_0 := (HB.out.cell (World.block_lt_of_cell? w _ hx741_0)).trans hx741_0
      replace hx741_1 := (HB.out.cell (World.block_lt_of_cell? w _ hx741_1)).trans hx741_1
      replace hx741_2 := (HB.out.cell (World.block_lt_of_cell? w _ hx741_2)).trans hx741_2
      replace hx741_3 := (HB.out.cell (World.block_lt_of_cell? w _ hx741_3)).trans hx741_3
      replace p741 := eq_true p741
      replace q741 := eq_true q741
      go_wp2
      go_roundg k1
      case measure => have := HK1.out; omega
      case rel => exact ⟨(wrap64 (x5_1 + 1)), (by first | rfl | (simp; done) | (simp [isEmpty_ne]; done) | (simp [*]; done)), H', ⟨by have := HK1.out; omega⟩, ⟨by (with_reducible repeat (first | refine blk_drewN ?_ _ | refine blk_drew ?_ | refine blk_alloc ?_ _)); exact BK740.out⟩, ⟨by repeat (first | (with_reducible first | exact HB.out | apply below_alloc | apply pw_below_drewN | apply below_drew1 | refine below_set ?_ GE740.out) | exact HB.out)⟩⟩
    ·rw [if_neg c5] at H
     exact absurd H (by simp)
   ·rw [if_neg c4] at H
    have c4b0 : decide (x5_1 < (l0_4.length : Int)) = false := decide_eq_false c4
    clear c4
    obtain rfl := Option.some.inj H
    have hcz12_0 : wr.cell? ⟨gb740, 0, none⟩ = some (.string a0_0) := (blk_cell BK740.out 0).trans rfl
    have hcz12_1 : wr.cell? ⟨gb740, 1, none⟩ = some (.string a0_1) := (blk_cell BK740.out 1).trans rfl
    have hcz12_2 : wr.cell? ⟨gb740, 2, none⟩ = some (.string a0_2) := (blk_cell BK740.out 2).trans rfl
    have hcz12_3 : wr.cell? ⟨gb740, 3, none⟩ = some (.int .i64 a0_3) := (blk_cell BK740.out 3).trans rfl
    have hcz12_4 : wr.cell? ⟨gb740, 4, none⟩ = some (.slice A0_4 l0_4.length c0_4) := (blk_cell BK740.out 4).trans rfl
    have hcz12_5 : wr.cell? ⟨gb740, 5, none⟩ = some (.slice A0_5 l0_5.length c0_5) := (blk_cell BK740.out 5).trans rfl
    have hfz12_0 := blk_frozen BK740.out 0
    have hfz12_1 := blk_frozen BK740.out 1
    have hfz12_2 := blk_frozen BK740.out 2
    have hfz12_3 := blk_frozen BK740.out 3
    have hfz12_4 := blk_frozen BK740.out 4
    have hfz12_5 := blk_frozen BK740.out 5
    go_wp2
    go_ret
    exact ⟨by first | rfl | (simp [errW_none, errW_some] <;> rfl) | (simp [*, errW_none, errW_some] <;> rfl), by repeat (first | (with_reducible first | exact HB.out | apply below_alloc | apply pw_below_drewN | apply below_drew1 | refine below_set ?_ GE740.out) | exact HB.out)⟩

end Go.Proofs.Ytenlmckahaniiaa.K
