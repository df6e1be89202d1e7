/- Lemmas for several laws: what their proofs need of this seat's texts, in one place. -/
import Derived.Test.YtenlmckahaniiaaZcLess9
set_option linter.unusedVariables false
set_option linter.unusedSimpArgs false
set_option linter.unusedSectionVars false
set_option maxHeartbeats 8000000
set_option maxRecDepth 100000
section
namespace Go.Proofs.Ytenlmckahaniiaa.K
open Go.RowKit Go.Proofs.YtenlmckahaniiaaW.PrintWords Go.Proofs.YtenlmckahaniiaaW.PrintLast
def zqp.l0 : Nat → List ByteArray → List (S43) → Int → Int → Option (List ByteArray)
  | 0, _, _, _, _ => none
  | k + 1, x3, x7, x8, x9 => if x9 < x8 then (if 0 ≤ x9 then (if x9 < (x7.length : Int) then (if ((y0l x7 x9).f2) = 4 then (if x3.length < 8796093022208 then (zqp.l0 k (x3 ++ [(y0l x7 x9).f3]) x7 x8 (wrap64 (x9 + 1))) else (none)) else (zqp.l0 k x3 x7 x8 (wrap64 (x9 + 1)))) else (none)) else (none)) else (some x3)
def zqp.f (k : Nat) (a0_0 : ByteArray) (a0_1 : ByteArray) (a0_2 : ByteArray) (a0_3 : Int) (l0_4 : List (S62)) (l0_5 : List (S43)) : Option (List ByteArray) := (zqp.l0 k ([] : List ByteArray) l0_5 (l0_5.length : Int) 0).bind fun t_ => (if t_.length ≤ 8796093022208 then (some (compS (sortS t_))) else none)
theorem zqp.mono_l : ∀ k, (∀ y0 y1 y2 y3, LeO (zqp.l0 k y0 y1 y2 y3) (zqp.l0 (k + 1) y0 y1 y2 y3))
 | 0 => fun _ _ _ _ r h => by simp [zqp.l0] at h
 | k + 1 => by
  have ih0 := zqp.mono_l k
  ·intro y0 y1 y2 y3
   unfold zqp.l0
   repeat' first
   | (with_reducible exact ih0 _ _ _ _)
   | (with_reducible exact LeO.refl _)
   | (with_reducible exact LeO.none _)
   | (with_reducible refine LeO.ite ?_ ?_)
   | (with_reducible refine LeO.bind ?_ (fun _ => ?_))
   | exact ih0 _ _ _ _
   | exact LeO.none _
   | refine LeO.ite ?_ ?_
   | refine LeO.bind ?_ (fun _ => ?_)
theorem zqp.mono : ∀ a0 a1 a2 a3 a4 a5 k, LeO (zqp.f k a0 a1 a2 a3 a4 a5) (zqp.f (k + 1) a0 a1 a2 a3 a4 a5) := by
 intro a0 a1 a2 a3 a4 a5 k
 have ih0 := zqp.mono_l k
 unfold zqp.f
 repeat' first
   | (with_reducible exact ih0 _ _ _ _)
   | (with_reducible exact LeO.refl _)
   | (with_reducible exact LeO.none _)
   | (with_reducible refine LeO.ite ?_ ?_)
   | (with_reducible refine LeO.bind ?_ (fun _ => ?_))
   | exact ih0 _ _ _ _
   | exact LeO.none _
   | refine LeO.ite ?_ ?_
   | refine LeO.bind ?_ (fun _ => ?_)
theorem zqp.calls (k : Nat) (a0_0 : ByteArray) (a0_1 : ByteArray) (a0_2 : ByteArray) (a0_3 : Int) (A0_4 : Option Addr) (c0_4 : Nat) (l0_4 : List (S62)) (A0_5 : Option Addr) (c0_5 : Nat) (l0_5 : List (S43)) (r : List ByteArray) (w : World) (hr0_4 : Kd.C k62 w A0_4 l0_4.length l0_4) (hc0_4 : l0_4.length ≤ c0_4) (hr0_5 : Kd.C k43 w A0_5 l0_5.length l0_5) (hc0_5 : l0_5.length ≤ c0_5) (h : zqp.f k a0_0 a0_1 a0_2 a0_3 l0_4 l0_5 = some r) :
  Calls Try.prog 27 #[.agg #[.string a0_0, .string a0_1, .string a0_2, .int .i64 a0_3, .slice A0_4 l0_4.length c0_4, .slice A0_5 l0_5.length c0_5]] w fun e w' => ∃ v0_ : Value, e = .returned (v0_) ∧ Kd.R Kd.string 9 w' w.heap.size (fun _ => True) v0_ r ∧ Below w.heap.size w w' := by
 have hu25 := Try.underlying25
 have hu43 := Try.underlying43
 have HR0_4 := Aside0.mk hr0_4
 have HC0_4 := Aside0.mk hc0_4
 clear hr0_4 hc0_4
 have HR0_5 := Aside0.mk hr0_5
 have HC0_5 := Aside0.mk hc0_5
 clear hr0_5 hc0_5
 have HB := Aside0.mk (Below.refl w.heap.size w)
 obtain ⟨t_, H, h⟩ := Option.bind_eq_some_iff.mp h
 obtain ⟨hlen_, h⟩ := ite_some h
 obtain rfl := Option.some.inj h
 clear h
 have HL_ := Aside0.mk hlen_
 clear hlen_
 have H' := Aside0.mk H
 clear H
 go_enter Try.func27, Try.ntmps27
 go_wp2_with (first | ((with_reducible refine y0j (N := 1) rfl ?_); refine y0e ?hg (N := 1) ?hd (cs := #[.string a0_0, .string a0_1, .string a0_2, .int .i64 a0_3, .slice A0_4 l0_4.length c0_4, .slice A0_5 l0_5.length c0_5]) (t := 25) ?hr ?_; (case hd => rfl); (case hg => rfl); (case hr => first | (go_simp; done) | (go_simp; rfl)); intro gb379 hg w2 hbox hb; have n0_ := Aside0.mk (y04 hb_ hb); have n1_ := Aside0.mk (hbox); have n2_ := Aside0.mk ((by rw [hg]; exact (y03 hb_) : w.heap.size ≤ gb379)); have n3_ := Aside0.mk ((by rw [hg]; exact (y03 hb_) : w.heap.size ≤ gb379)); clear HB; have HB := n0_; have BK379 := n1_; have GW379 := n2_; have GE379 := n3_; clear n0_ n1_ n2_ n3_; clear hb hbox hg; obtain ⟨hcz3_0, hfz3_0⟩ := bc_ BK379.out 0 rfl; obtain ⟨hcz3_1, hfz3_1⟩ := bc_ BK379.out 1 rfl; obtain ⟨hcz3_2, hfz3_2⟩ := bc_ BK379.out 2 rfl; obtain ⟨hcz3_3, hfz3_3⟩ := bc_ BK379.out 3 rfl; obtain ⟨hcz3_4, hfz3_4⟩ := bc_ BK379.out 4 rfl; obtain ⟨hcz3_5, hfz3_5⟩ := bc_ BK379.out 5 rfl))
 go_loopg [3, 9] k (fun kq v3 v9 w' => ∃ (x3_1 : List ByteArray) (x9_1 : Int), v9 = .int .i64 x9_1 ∧ Aside0 (zqp.l0 kq x3_1 l0_5 (l0_5.length : Int) x9_1 = some t_) ∧ Aside0 (kq ≤ k) ∧ Aside0 (Kd.R Kd.string 9 w' w.heap.size (fun _ => True) v3 x3_1) ∧ Aside0 (w'.heap[gb379]? = some (.cells #[.string a0_0, .string a0_1, .string a0_2, .int .i64 a0_3, (.slice A0_4 l0_4.length c0_4), (.slice A0_5 l0_5.length c0_5)] 25 (0, 0))) ∧ Aside0 (Below w.heap.size w w'))
 case atStart => exact ⟨(([] : List ByteArray)), (0), cl_, H', ⟨Nat.le_refl _⟩, ⟨by first | exact Kd.R_nil _ _ _ _ _ | exact Kd.N_nil _ _ _ _ _ | exact Kd.V_nil _ _ _ _ _ | exact Kd.Q_nil _ _ _ _ _ | exact Kd.S_nil _ _ _ _ _⟩, ⟨bk_ BK379.out⟩, ⟨hb_⟩⟩
 case round =>
  clear H'
  (try clear c2); (try clear p2); (try clear hcz3_0); (try clear hcz3_1); (try clear hcz3_2); (try clear hcz3_3); (try clear hcz3_4); (try clear hcz3_5); (try clear hfz3_0); (try clear hfz3_1); (try clear hfz3_2); (try clear hfz3_3); (try clear hfz3_4); (try clear hfz3_5)
  obtain ⟨x3_1, x9_1, rfl, HA, HK1, HO_3, BK379, HB⟩ := hrel
  cases gk with
  | zero => exact absurd HA.out (by simp [zqp.l0])
  | succ k1 =>
   have H := HA.out
   clear HA
   simp only [zqp.l0] at H
   by_cases c4 : x9_1 < (l0_5.length : Int)
   ·rw [if_pos c4] at H
    have c4b0 : decide (x9_1 < (l0_5.length : Int)) = true := decide_eq_true c4
    clear c4
    by_cases c5 : 0 ≤ x9_1
    ·rw [if_pos c5] at H
     have c5b0 : decide (0 ≤ x9_1) = true := decide_eq_true c5
     clear c5
     by_cases c6 : x9_1 < (l0_5.length : Int)
     ·rw [if_pos c6] at H
      have c6b0 : decide (x9_1 < (l0_5.length : Int)) = true := decide_eq_true c6
      clear c6
      by_cases c7 : ((y0l l0_5 x9_1).f2) = 4
      ·rw [if_pos c7] at H
       have c7b0 : (((y0l l0_5 x9_1).f2) == 4) = true := beq_iff_eq.mpr c7
       have c7b1 : (((y0l l0_5 x9_1).f2) != 4) = false := bne_eq_false_iff_eq.mpr c7
       clear c7
       by_cases c8 : x3_1.length < 8796093022208
       ·rw [if_pos c8] at H
        have LMc8 := Aside0.mk c8
        clear c8
        obtain ⟨y382, hy382⟩ : ∃ y_ : List ByteArray, y_ = (x3_1 ++ [(y0l l0_5 x9_1).f3]) := ⟨_, rfl⟩
        replace H : (zqp.l0 k1 y382 l0_5 (l0_5.length : Int) (wrap64 (x9_1 + 1))) = some t_ := by first | (rw [hy382]; with_reducible exact H) | (have H2_ := (Option.bind_some _ _).symm.trans H; rw [hy382]; with_reducible exact H2_) | (have H2_ := (Option.bind_some _ _).symm.trans H; with_reducible exact H2_) | with_reducible exact H | (rw [hy382]; exact H) | exact H
        have Ny382 := Aside0.mk hy382
        clear hy382
        have H' := Aside0.mk H
        clear H
        have p380 : 0 ≤ (x9_1 : Int) := oa_
        have q380 : x9_1 < (l0_5.length : Int) := oa_
        obtain ⟨ad380, e380, hx380_0, hx380_1, hx380_2, hx380_3, hx380_4⟩ := at_T43 HR0_5.out x9_1 p380 q380
        cases e380
        replace hx380_0 := (HB.out.cell (World.block_lt_of_cell? w _ hx380_0)).trans hx380_0
        replace hx380_1 := (HB.out.cell (World.block_lt_of_cell? w _ hx380_1)).trans hx380_1
        replace hx380_2 := (HB.out.cell (World.block_lt_of_cell? w _ hx380_2)).trans hx380_2
        replace hx380_3 := (HB.out.cell (World.block_lt_of_cell? w _ hx380_3)).trans hx380_3
        replace hx380_4 := (HB.out.cell (World.block_lt_of_cell? w _ hx380_4)).trans hx380_4
        replace p380 := eq_true p380
        replace q380 := eq_true q380
        go_wp2_with (first | ((with_reducible refine y0j (N := 5) rfl ?_); refine y0e ?hg (N := 5) ?hd (cs := #[.int .i64 0, .int .i64 0, .int .i64 0, .string (⟨#[]⟩ : ByteArray), .bool false]) (t := 43) ?hr ?_; (case hd => rfl); (case hg => rfl); (case hr => first | (go_simp; done) | (go_simp; rfl)); intro gb381 hg w9 hbox hb; have n0_ := Aside0.mk (Kd.R_below (rk_ HO_3.out) hb); have n1_ := Aside0.mk (y06 (bk_ BK379.out) hb); have n2_ := Aside0.mk (y04 hb_ hb); have n3_ := Aside0.mk (hbox); have n4_ := Aside0.mk ((by rw [hg]; exact (y03 hb_) : w.heap.size ≤ gb381)); have n5_ := Aside0.mk ((by rw [hg]; exact (y03 hb_) : w.heap.size ≤ gb381)); have n6_ := Aside0.mk ((by rw [hg]; exact Nat.ne_of_lt (y0c (bk_ BK379.out)) : gb379 ≠ gb381)); have n7_ := Aside0.mk ((by rw [hg]; exact Nat.ne_of_gt (y0c (bk_ BK379.out)) : gb381 ≠ gb379)); clear HO_3 BK379 HB; have HO_3 := n0_; have BK379 := n1_; have HB := n2_; have BK381 := n3_; have GW381 := n4_; have GE381 := n5_; have NB379_381 := n6_; have NB381_379 := n7_; clear n0_ n1_ n2_ n3_ n4_ n5_ n6_ n7_; clear hb hbox hg; have hnb10 := NB381_379.out; have hnc10 := NB379_381.out; obtain ⟨hcz11_0, hfz11_0⟩ := bc_ BK381.out 0 rfl; obtain ⟨hcz11_1, hfz11_1⟩ := bc_ BK381.out 1 rfl; obtain ⟨hcz11_2, hfz11_2⟩ := bc_ BK381.out 2 rfl; obtain ⟨hcz11_3, hfz11_3⟩ := bc_ BK381.out 3 rfl; obtain ⟨hcz11_4, hfz11_4⟩ := bc_ BK381.out 4 rfl) | ((with_reducible refine gate_builtin (b := .append) (xs := #[.tmp 16, .tmp 19]) rfl ?_); at_builtin; refine Kd.R_append Kd.string (w0 := w) w.heap.size rfl (.tmp 16) (.tmp 19) 33 9 (.string ⟨#[]⟩) 16 rfl Try.underlying33 info9 rfl (by decide) (by omega) u3 x3_1 ((y0l l0_5 x9_1).f3) [.string ((y0l l0_5 x9_1).f3)] (fun _ => True) (fun _ => False) rfl (by first | (go_simp; done) | (go_simp; rfl)) ?aP (fun _ hk => hk.elim) ?aF ?aO ?aB ?aS ?aL ?_; (case aP => exact rfl); (case aB => exact hb_); (case aF => exact (fun _ _ => trivial)); (case aO => exact (by (with_reducible repeat (first | apply Kd.R_alloc | apply Kd.R_drewN | apply Kd.R_drew)); exact Kd.R_mono (Kd.R_far (p := ⟨gb381, 4, none⟩) (Kd.R_far (p := ⟨gb381, 3, none⟩) (Kd.R_far (p := ⟨gb381, 2, none⟩) (Kd.R_far (p := ⟨gb381, 1, none⟩) (Kd.R_far (p := ⟨gb381, 0, none⟩) (Kd.R_types HO_3.out BK381.out (by decide)) (fun _ hk => hk.2) (.int .i64 ((y0l l0_5 x9_1).f0))) (fun _ hk => hk.2) (.int .i64 ((y0l l0_5 x9_1).f1))) (fun _ hk => hk.2) (.int .i64 ((y0l l0_5 x9_1).f2))) (fun _ hk => hk.2) (.string ((y0l l0_5 x9_1).f3))) (fun _ hk => hk.2) (.bool ((y0l l0_5 x9_1).f4))) (fun _ hk => trivial))); (case aS => exact (y03 hb_)); (case aL => have := LMc8.out; omega); intro v383 w12 ho hb hg hat; rw [← Ny382.out] at ho; have n0_ := Aside0.mk (blk_grown (g := gb379) (o := .cells #[.string a0_0, .string a0_1, .string a0_2, .int .i64 a0_3, .slice A0_4 l0_4.length c0_4, .slice (some ad380) l0_5.length c0_5] 25 (0, 0)) (by (with_reducible repeat (first | refine y09 ?_ _ | refine y08 ?_ | refine y05 ?_ _)); refine y0a ?_ NB379_381.out _; (with_reducible repeat (first | refine y09 ?_ _ | refine y08 ?_ | refine y05 ?_ _)); refine y0a ?_ NB379_381.out _; (with_reducible repeat (first | refine y09 ?_ _ | refine y08 ?_ | refine y05 ?_ _)); refine y0a ?_ NB379_381.out _; (with_reducible repeat (first | refine y09 ?_ _ | refine y08 ?_ | refine y05 ?_ _)); refine y0a ?_ NB379_381.out _; (with_reducible repeat (first | refine y09 ?_ _ | refine y08 ?_ | refine y05 ?_ _)); refine y0a ?_ NB379_381.out _; (with_reducible repeat (first | refine y09 ?_ _ | refine y08 ?_ | refine y05 ?_ _)); exact BK379.out) hg (Kd.R_ne HO_3.out BK379.out (by decide))); have n1_ := Aside0.mk (blk_grown (g := gb381) (o := .cells #[.int .i64 ((y0l l0_5 x9_1).f0), .int .i64 ((y0l l0_5 x9_1).f1), .int .i64 ((y0l l0_5 x9_1).f2), .string ((y0l l0_5 x9_1).f3), .bool ((y0l l0_5 x9_1).f4)] 43 (0, 0)) (by (with_reducible repeat (first | refine y09 ?_ _ | refine y08 ?_ | refine y05 ?_ _)); refine y0d (cs := #[.int .i64 ((y0l l0_5 x9_1).f0), .int .i64 ((y0l l0_5 x9_1).f1), .int .i64 ((y0l l0_5 x9_1).f2), .string ((y0l l0_5 x9_1).f3), .bool false]) ?_ 4 _ rfl; (with_reducible repeat (first | refine y09 ?_ _ | refine y08 ?_ | refine y05 ?_ _)); refine y0d (cs := #[.int .i64 ((y0l l0_5 x9_1).f0), .int .i64 ((y0l l0_5 x9_1).f1), .int .i64 ((y0l l0_5 x9_1).f2), .string (⟨#[]⟩ : ByteArray), .bool false]) ?_ 3 _ rfl; (with_reducible repeat (first | refine y09 ?_ _ | refine y08 ?_ | refine y05 ?_ _)); refine y0d (cs := #[.int .i64 ((y0l l0_5 x9_1).f0), .int .i64 ((y0l l0_5 x9_1).f1), .int .i64 0, .string (⟨#[]⟩ : ByteArray), .bool false]) ?_ 2 _ rfl; (with_reducible repeat (first | refine y09 ?_ _ | refine y08 ?_ | refine y05 ?_ _)); refine y0d (cs := #[.int .i64 ((y0l l0_5 x9_1).f0), .int .i64 0, .int .i64 0, .string (⟨#[]⟩ : ByteArray), .bool false]) ?_ 1 _ rfl; (with_reducible repeat (first | refine y09 ?_ _ | refine y08 ?_ | refine y05 ?_ _)); refine y0d (cs := #[.int .i64 0, .int .i64 0, .int .i64 0, .string (⟨#[]⟩ : ByteArray), .bool false]) ?_ 0 _ rfl; (with_reducible repeat (first | refine y09 ?_ _ | refine y08 ?_ | refine y05 ?_ _)); exact BK381.out) hg (Kd.R_ne HO_3.out BK381.out (by decide))); have n2_ := Aside0.mk (hb); have n3_ := Aside0.mk (ho); clear BK379 BK381 HB HO_3; have BK379 := n0_; have BK381 := n1_; have HB := n2_; have HO384 := n3_; clear n0_ n1_ n2_ n3_; clear ho hb hg hat))
        go_roundg k1
        case measure => have := HK1.out; omega
        case rel => exact ⟨(y382), (wrap64 (x9_1 + 1)), cl_, H', ⟨by have := HK1.out; omega⟩, ⟨rk_ HO384.out⟩, ⟨bk_ BK379.out⟩, ⟨hb_⟩⟩
       ·rw [if_neg c8] at H
        exact absurd H (by simp)
      ·rw [if_neg c7] at H
       have c7b0 : (((y0l l0_5 x9_1).f2) == 4) = false := beq_eq_false_iff_ne.mpr c7
       have c7b1 : (((y0l l0_5 x9_1).f2) != 4) = true := bne_iff_ne.mpr c7
       have H' := Aside0.mk H
       clear H
       have p380 : 0 ≤ (x9_1 : Int) := oa_
       have q380 : x9_1 < (l0_5.length : Int) := oa_
       obtain ⟨ad380, e380, hx380_0, hx380_1, hx380_2, hx380_3, hx380_4⟩ := at_T43 HR0_5.out x9_1 p380 q380
       cases e380
       replace hx380_0 := (HB.out.cell (World.block_lt_of_cell? w _ hx380_0)).trans hx380_0
       replace hx380_1 := (HB.out.cell (World.block_lt_of_cell? w _ hx380_1)).trans hx380_1
       replace hx380_2 := (HB.out.cell (World.block_lt_of_cell? w _ hx380_2)).trans hx380_2
       replace hx380_3 := (HB.out.cell (World.block_lt_of_cell? w _ hx380_3)).trans hx380_3
       replace hx380_4 := (HB.out.cell (World.block_lt_of_cell? w _ hx380_4)).trans hx380_4
       replace p380 := eq_true p380
       replace q380 := eq_true q380
       go_wp2_with (first | ((with_reducible refine y0j (N := 5) rfl ?_); refine y0e ?hg (N := 5) ?hd (cs := #[.int .i64 0, .int .i64 0, .int .i64 0, .string (⟨#[]⟩ : ByteArray), .bool false]) (t := 43) ?hr ?_; (case hd => rfl); (case hg => rfl); (case hr => first | (go_simp; done) | (go_simp; rfl)); intro gb381 hg w13 hbox hb; have n0_ := Aside0.mk (Kd.R_below (rk_ HO_3.out) hb); have n1_ := Aside0.mk (y06 (bk_ BK379.out) hb); have n2_ := Aside0.mk (y04 hb_ hb); have n3_ := Aside0.mk (hbox); have n4_ := Aside0.mk ((by rw [hg]; exact (y03 hb_) : w.heap.size ≤ gb381)); have n5_ := Aside0.mk ((by rw [hg]; exact (y03 hb_) : w.heap.size ≤ gb381)); have n6_ := Aside0.mk ((by rw [hg]; exact Nat.ne_of_lt (y0c (bk_ BK379.out)) : gb379 ≠ gb381)); have n7_ := Aside0.mk ((by rw [hg]; exact Nat.ne_of_gt (y0c (bk_ BK379.out)) : gb381 ≠ gb379)); clear HO_3 BK379 HB; have HO_3 := n0_; have BK379 := n1_; have HB := n2_; have BK381 := n3_; have GW381 := n4_; have GE381 := n5_; have NB379_381 := n6_; have NB381_379 := n7_; clear n0_ n1_ n2_ n3_ n4_ n5_ n6_ n7_; clear hb hbox hg; have hnb14 := NB381_379.out; have hnc14 := NB379_381.out; obtain ⟨hcz15_0, hfz15_0⟩ := bc_ BK381.out 0 rfl; obtain ⟨hcz15_1, hfz15_1⟩ := bc_ BK381.out 1 rfl; obtain ⟨hcz15_2, hfz15_2⟩ := bc_ BK381.out 2 rfl; obtain ⟨hcz15_3, hfz15_3⟩ := bc_ BK381.out 3 rfl; obtain ⟨hcz15_4, hfz15_4⟩ := bc_ BK381.out 4 rfl))
       go_roundg k1
       case measure => have := HK1.out; omega
       case rel => exact ⟨(x3_1), (wrap64 (x9_1 + 1)), cl_, H', ⟨by have := HK1.out; omega⟩, ⟨by (with_reducible repeat (first | apply Kd.R_alloc | apply Kd.R_drewN | apply Kd.R_drew)); exact Kd.R_mono (Kd.R_far (p := ⟨gb381, 4, none⟩) (Kd.R_far (p := ⟨gb381, 3, none⟩) (Kd.R_far (p := ⟨gb381, 2, none⟩) (Kd.R_far (p := ⟨gb381, 1, none⟩) (Kd.R_far (p := ⟨gb381, 0, none⟩) (Kd.R_types HO_3.out BK381.out (by decide)) (fun _ hk => hk.2) (.int .i64 ((y0l l0_5 x9_1).f0))) (fun _ hk => hk.2) (.int .i64 ((y0l l0_5 x9_1).f1))) (fun _ hk => hk.2) (.int .i64 ((y0l l0_5 x9_1).f2))) (fun _ hk => hk.2) (.string ((y0l l0_5 x9_1).f3))) (fun _ hk => hk.2) (.bool ((y0l l0_5 x9_1).f4))) (fun _ hk => trivial)⟩, ⟨by (with_reducible repeat (first | refine y09 ?_ _ | refine y08 ?_ | refine y05 ?_ _)); refine y0a ?_ NB379_381.out _; (with_reducible repeat (first | refine y09 ?_ _ | refine y08 ?_ | refine y05 ?_ _)); refine y0a ?_ NB379_381.out _; (with_reducible repeat (first | refine y09 ?_ _ | refine y08 ?_ | refine y05 ?_ _)); refine y0a ?_ NB379_381.out _; (with_reducible repeat (first | refine y09 ?_ _ | refine y08 ?_ | refine y05 ?_ _)); refine y0a ?_ NB379_381.out _; (with_reducible repeat (first | refine y09 ?_ _ | refine y08 ?_ | refine y05 ?_ _)); refine y0a ?_ NB379_381.out _; (with_reducible repeat (first | refine y09 ?_ _ | refine y08 ?_ | refine y05 ?_ _)); exact BK379.out⟩, ⟨hb_⟩⟩
     ·rw [if_neg c6] at H
      exact absurd H (by simp)
    ·rw [if_neg c5] at H
     exact absurd H (by simp)
   ·rw [if_neg c4] at H
    have c4b0 : decide (x9_1 < (l0_5.length : Int)) = false := decide_eq_false c4
    clear c4
    obtain rfl := Option.some.inj H
    go_wp2_with (first | (go_at_call 70; (with_reducible refine (sort_step HO_3.out HB.out HL_.out).mono ?_); rintro e ws_ ⟨rfl, ho1, hb1⟩; have HO1 := Aside0.mk ho1; have HB1 := Aside0.mk hb1; have HL1 := Aside0.mk (show (sortS _).length ≤ 8796093022208 from (sortS_length _).symm ▸ HL_.out); clear ho1 hb1) | (go_at_call 71; (with_reducible refine (compact_step HO1.out HB1.out HL1.out).mono ?_); rintro e wc_ ⟨v2_, rfl, ho2, hb2⟩; have HO2 := Aside0.mk ho2; have HB2 := Aside0.mk hb2; clear ho2 hb2))
    go_ret
    exact ⟨_, rfl, HO2.out, HB2.out⟩
def zq6.f (k : Nat)  : Option (Bool) := (zqk.f k (⟨#[109]⟩ : ByteArray) (⟨#[]⟩ : ByteArray) (⟨#[]⟩ : ByteArray) 0 ([] : List (S62)) ([] : List (S43))).bind fun bt398 => ((zqj.f k bt398.1).bind fun bt400 => ((zqp.f k (⟨#[]⟩ : ByteArray) (⟨#[]⟩ : ByteArray) (⟨#[]⟩ : ByteArray) 0 ([] : List (S62)) (([(⟨0, 0, 4, (⟨#[98]⟩ : ByteArray), false⟩ : S43), (⟨0, 0, 4, (⟨#[97]⟩ : ByteArray), false⟩ : S43), (⟨0, 0, 4, (⟨#[98]⟩ : ByteArray), false⟩ : S43)] : List (S43)))).bind fun t415 => (if (bt398.1.size : Int) = 21 then (if bt398.2 = 0 then (if bt400.1.toList = ([109] : List UInt8) then (if bt400.2.2.2.2.2.2 = 0 then (if (t415.length : Int) = 2 then (if 0 < (t415.length : Int) then (if (rdOf ByteArray.empty t415 0).toList = ([97] : List UInt8) then (if 1 < (t415.length : Int) then (if (rdOf ByteArray.empty t415 1).toList = ([98] : List UInt8) then ((zqo.f k (⟨#[109]⟩ : ByteArray) (⟨#[120]⟩ : ByteArray) (⟨#[]⟩ : ByteArray) 0 ([] : List (S62)) ([] : List (S43))).bind fun t420 => (if t420 = 1 then ((zqo.f k (⟨#[109]⟩ : ByteArray) (⟨#[120, 120]⟩ : ByteArray) (⟨#[]⟩ : ByteArray) 0 ([] : List (S62)) (([(⟨1, 2, 1, (⟨#[]⟩ : ByteArray), false⟩ : S43)] : List (S43)))).bind fun t424 => (some (t424 == 2))) else (none))) else (none)) else (none)) else (none)) else (none)) else (none)) else (none)) else (none)) else (none)) else (none))))
theorem zq6.mono : ∀ k, LeO (zq6.f k ) (zq6.f (k + 1) ) := by
 intro  k
 unfold zq6.f
 repeat' first
   | (with_reducible exact zqo.mono _ _ _ _ _ _ _)
   | (with_reducible exact zqj.mono _ _)
   | (with_reducible exact zqk.mono _ _ _ _ _ _ _)
   | (with_reducible exact zqp.mono _ _ _ _ _ _ _)
   | (with_reducible exact LeO.refl _)
   | (with_reducible exact LeO.none _)
   | (with_reducible refine LeO.ite ?_ ?_)
   | (with_reducible refine LeO.bind ?_ (fun _ => ?_))
   | exact zqo.mono _ _ _ _ _ _ _
   | exact zqj.mono _ _
   | exact zqk.mono _ _ _ _ _ _ _
   | exact zqp.mono _ _ _ _ _ _ _
   | exact LeO.none _
   | refine LeO.ite ?_ ?_
   | refine LeO.bind ?_ (fun _ => ?_)
theorem zq6.calls (k : Nat)  (r : Bool) (w : World) (h : zq6.f k  = some r) :
  Calls Try.prog 20 #[] w fun e w' => e = .returned (.bool r) ∧ Below w.heap.size w w' := by
 have hu25 := Try.underlying25
 have hu43 := Try.underlying43
 have HB := Aside0.mk (Below.refl w.heap.size w)
 have H : ((zqk.f k (⟨#[109]⟩ : ByteArray) (⟨#[]⟩ : ByteArray) (⟨#[]⟩ : ByteArray) 0 ([] : List (S62)) ([] : List (S43))).bind fun bt398 => ((zqj.f k bt398.1).bind fun bt400 => ((zqp.f k (⟨#[]⟩ : ByteArray) (⟨#[]⟩ : ByteArray) (⟨#[]⟩ : ByteArray) 0 ([] : List (S62)) (([(⟨0, 0, 4, (⟨#[98]⟩ : ByteArray), false⟩ : S43), (⟨0, 0, 4, (⟨#[97]⟩ : ByteArray), false⟩ : S43), (⟨0, 0, 4, (⟨#[98]⟩ : ByteArray), false⟩ : S43)] : List (S43)))).bind fun t415 => (if (bt398.1.size : Int) = 21 then (if bt398.2 = 0 then (if bt400.1.toList = ([109] : List UInt8) then (if bt400.2.2.2.2.2.2 = 0 then (if (t415.length : Int) = 2 then (if 0 < (t415.length : Int) then (if (rdOf ByteArray.empty t415 0).toList = ([97] : List UInt8) then (if 1 < (t415.length : Int) then (if (rdOf ByteArray.empty t415 1).toList = ([98] : List UInt8) then ((zqo.f k (⟨#[109]⟩ : ByteArray) (⟨#[120]⟩ : ByteArray) (⟨#[]⟩ : ByteArray) 0 ([] : List (S62)) ([] : List (S43))).bind fun t420 => (if t420 = 1 then ((zqo.f k (⟨#[109]⟩ : ByteArray) (⟨#[120, 120]⟩ : ByteArray) (⟨#[]⟩ : ByteArray) 0 ([] : List (S62)) (([(⟨1, 2, 1, (⟨#[]⟩ : ByteArray), false⟩ : S43)] : List (S43)))).bind fun t424 => (some (t424 == 2))) else (none))) else (none)) else (none)) else (none)) else (none)) else (none)) else (none)) else (none)) else (none)) else (none))))) = some r := h
 clear h
 replace H := Option.bind_eq_some_iff.mp H
 obtain ⟨⟨t398, t399⟩, A10, H⟩ := H
 (try dsimp only at H)
 have A1 := Aside0.mk A10
 clear A10
 replace H := Option.bind_eq_some_iff.mp H
 obtain ⟨⟨t400, t401, t402, t403, t404, t407, t410⟩, A20, H⟩ := H
 (try dsimp only at H)
 have A2 := Aside0.mk A20
 clear A20
 obtain ⟨y412, hy412⟩ : ∃ y_ : List (S43), y_ = (([(⟨0, 0, 4, (⟨#[98]⟩ : ByteArray), false⟩ : S43), (⟨0, 0, 4, (⟨#[97]⟩ : ByteArray), false⟩ : S43), (⟨0, 0, 4, (⟨#[98]⟩ : ByteArray), false⟩ : S43)] : List (S43))) := ⟨_, rfl⟩
 replace H : ((zqp.f k (⟨#[]⟩ : ByteArray) (⟨#[]⟩ : ByteArray) (⟨#[]⟩ : ByteArray) 0 ([] : List (S62)) y412).bind fun t415 => (if (t398.size : Int) = 21 then (if t399 = 0 then (if t400.toList = ([109] : List UInt8) then (if t410 = 0 then (if (t415.length : Int) = 2 then (if 0 < (t415.length : Int) then (if (rdOf ByteArray.empty t415 0).toList = ([97] : List UInt8) then (if 1 < (t415.length : Int) then (if (rdOf ByteArray.empty t415 1).toList = ([98] : List UInt8) then ((zqo.f k (⟨#[109]⟩ : ByteArray) (⟨#[120]⟩ : ByteArray) (⟨#[]⟩ : ByteArray) 0 ([] : List (S62)) ([] : List (S43))).bind fun t420 => (if t420 = 1 then ((zqo.f k (⟨#[109]⟩ : ByteArray) (⟨#[120, 120]⟩ : ByteArray) (⟨#[]⟩ : ByteArray) 0 ([] : List (S62)) (([(⟨1, 2, 1, (⟨#[]⟩ : ByteArray), false⟩ : S43)] : List (S43)))).bind fun t424 => (some (t424 == 2))) else (none))) else (none)) else (none)) else (none)) else (none)) else (none)) else (none)) else (none)) else (none)) else (none))) = some r := by first | (rw [hy412]; with_reducible exact H) | (have H2_ := (Option.bind_some _ _).symm.trans H; rw [hy412]; with_reducible exact H2_) | (have H2_ := (Option.bind_some _ _).symm.trans H; with_reducible exact H2_) | with_reducible exact H | (rw [hy412]; exact H) | exact H
 have Ny412 := Aside0.mk hy412
 clear hy412
 replace H := Option.bind_eq_some_iff.mp H
 obtain ⟨t415, A30, H⟩ := H
 (try dsimp only at H)
 have A3 := Aside0.mk A30
 clear A30
 by_cases c4 : (t398.size : Int) = 21
 ·rw [if_pos c4] at H
  have c4b0 : ((t398.size : Int) == 21) = true := beq_iff_eq.mpr c4
  have c4b1 : ((t398.size : Int) != 21) = false := bne_eq_false_iff_eq.mpr c4
  clear c4
  by_cases c5 : t399 = 0
  ·rw [if_pos c5] at H
   have c5b0 : (t399 == 0) = true := beq_iff_eq.mpr c5
   have c5b1 : (t399 != 0) = false := bne_eq_false_iff_eq.mpr c5
   clear c5
   by_cases c6 : t400.toList = ([109] : List UInt8)
   ·rw [if_pos c6] at H
    have c6b0 : (t400.toList == ([109] : List UInt8)) = true := beq_iff_eq.mpr c6
    have c6b1 : (t400.toList != ([109] : List UInt8)) = false := bne_eq_false_iff_eq.mpr c6
    clear c6
    by_cases c7 : t410 = 0
    ·rw [if_pos c7] at H
     have c7b0 : (t410 == 0) = true := beq_iff_eq.mpr c7
     have c7b1 : (t410 != 0) = false := bne_eq_false_iff_eq.mpr c7
     clear c7
     by_cases c8 : (t415.length : Int) = 2
     ·rw [if_pos c8] at H
      have c8b0 : ((t415.length : Int) == 2) = true := beq_iff_eq.mpr c8
      have c8b1 : ((t415.length : Int) != 2) = false := bne_eq_false_iff_eq.mpr c8
      clear c8
      by_cases c9 : 0 < (t415.length : Int)
      ·rw [if_pos c9] at H
       have c9b0 : decide (0 < (t415.length : Int)) = true := decide_eq_true c9
       have c9b1 : decide (0 < t415.length) = true := decide_eq_true (by omega)
       clear c9
       by_cases c10 : (rdOf ByteArray.empty t415 0).toList = ([97] : List UInt8)
       ·rw [if_pos c10] at H
        have c10b0 : ((rdOf ByteArray.empty t415 0).toList == ([97] : List UInt8)) = true := beq_iff_eq.mpr c10
        have c10b1 : ((rdOf ByteArray.empty t415 0).toList != ([97] : List UInt8)) = false := bne_eq_false_iff_eq.mpr c10
        clear c10
        by_cases c11 : 1 < (t415.length : Int)
        ·rw [if_pos c11] at H
         have c11b0 : decide (1 < (t415.length : Int)) = true := decide_eq_true c11
         have c11b1 : decide (1 < t415.length) = true := decide_eq_true (by omega)
         clear c11
         by_cases c12 : (rdOf ByteArray.empty t415 1).toList = ([98] : List UInt8)
         ·rw [if_pos c12] at H
          have c12b0 : ((rdOf ByteArray.empty t415 1).toList == ([98] : List UInt8)) = true := beq_iff_eq.mpr c12
          have c12b1 : ((rdOf ByteArray.empty t415 1).toList != ([98] : List UInt8)) = false := bne_eq_false_iff_eq.mpr c12
          clear c12
          replace H := Option.bind_eq_some_iff.mp H
          obtain ⟨t420, A130, H⟩ := H
          (try dsimp only at H)
          have A13 := Aside0.mk A130
          clear A130
          by_cases c14 : t420 = 1
          ·rw [if_pos c14] at H
           have c14b0 : (t420 == 1) = true := beq_iff_eq.mpr c14
           have c14b1 : (t420 != 1) = false := bne_eq_false_iff_eq.mpr c14
           clear c14
           obtain ⟨y421, hy421⟩ : ∃ y_ : List (S43), y_ = (([(⟨1, 2, 1, (⟨#[]⟩ : ByteArray), false⟩ : S43)] : List (S43))) := ⟨_, rfl⟩
           replace H : ((zqo.f k (⟨#[109]⟩ : ByteArray) (⟨#[120, 120]⟩ : ByteArray) (⟨#[]⟩ : ByteArray) 0 ([] : List (S62)) y421).bind fun t424 => (some (t424 == 2))) = some r := by first | (rw [hy421]; with_reducible exact H) | (have H2_ := (Option.bind_some _ _).symm.trans H; rw [hy421]; with_reducible exact H2_) | (have H2_ := (Option.bind_some _ _).symm.trans H; with_reducible exact H2_) | with_reducible exact H | (rw [hy421]; exact H) | exact H
           have Ny421 := Aside0.mk hy421
           clear hy421
           replace H := Option.bind_eq_some_iff.mp H
           obtain ⟨t424, A150, H⟩ := H
           (try dsimp only at H)
           have A15 := Aside0.mk A150
           clear A150
           obtain rfl := Option.some.inj H
           go_enter Try.func20, Try.ntmps20
           go_wp2_with (first | (go_at_call 21; (with_reducible show Calls Try.prog 21 #[.agg #[.string (⟨#[109]⟩ : ByteArray), .string (⟨#[]⟩ : ByteArray), .string (⟨#[]⟩ : ByteArray), .int .i64 0, .slice none 0 0, .slice none 0 0]] _ _); (refine (zqk.calls k (⟨#[109]⟩ : ByteArray) (⟨#[]⟩ : ByteArray) (⟨#[]⟩ : ByteArray) 0 _ _ ([] : List (S62)) _ _ ([] : List (S43)) t398 t399 _ ?side1 ?side2 ?side3 ?side4 A1.out).mono ?_); (case side1 => exact Kd.C_nil _ _); (case side2 => exact Nat.le_refl _); (case side3 => exact Kd.C_nil _ _); (case side4 => exact Nat.le_refl _); rintro e w16 ⟨rfl, hb⟩; have n0_ := Aside0.mk (y04 hb_ hb); clear HB; have HB := n0_; clear n0_; (try clear hb); (try clear hb2); (try clear hk); (try clear hi)) | ((with_reducible refine y0i (f := 24) rfl ?_); refine goesL_ (some 13) rfl rfl Try.func24 (by kernel_rfl) rfl #[.string t398] rfl ar_ ?_; (with_reducible refine (zqj.calls k t398 t400 t401 t402 t403 t404 t407 t410 _ A2.out).mono ?_); rintro e w17 ⟨v405, v408, rfl, ho0, ho1, hb⟩; refine ⟨_, rfl, ?_⟩; have n0_ := Aside0.mk (Kd.R_lower ho0 (y03 hb_)); have n1_ := Aside0.mk (Kd.R_lower ho1 (y03 hb_)); have n2_ := Aside0.mk (y04 hb_ hb); clear HB; have HO406 := n0_; have HO409 := n1_; have HB := n2_; clear n0_ n1_ n2_; (try clear hb); (try clear hb2); (try clear hk); (try clear hi); (try clear ho0); (try clear ho1)) | ((with_reducible refine y0j (N := 3) rfl ?_); (try (refine gate_guard (by rfl) ?_; dsimp only)); refine y0e ?hg (N := 3) ?hd (cs := #[.string (⟨#[]⟩ : ByteArray), .string (⟨#[]⟩ : ByteArray), .string (⟨#[]⟩ : ByteArray), .int .i64 0, .slice none 0 0, .slice none 0 0]) (t := 25) ?hr ?_; (case hd => rfl); (case hg => rfl); (case hr => first | (go_simp; done) | (go_simp; rfl)); intro gb411 hg w18 hbox hb; have n0_ := Aside0.mk (Kd.R_below (rk_ HO406.out) hb); have n1_ := Aside0.mk (Kd.R_below (rk_ HO409.out) hb); have n2_ := Aside0.mk (y04 hb_ hb); have n3_ := Aside0.mk (hbox); have n4_ := Aside0.mk ((by rw [hg]; exact (y03 hb_) : w.heap.size ≤ gb411)); have n5_ := Aside0.mk ((by rw [hg]; exact (y03 hb_) : w.heap.size ≤ gb411)); clear HO406 HO409 HB; have HO406 := n0_; have HO409 := n1_; have HB := n2_; have BK411 := n3_; have GW411 := n4_; have GE411 := n5_; clear n0_ n1_ n2_ n3_ n4_ n5_; clear hb hbox hg; obtain ⟨hcz19_0, hfz19_0⟩ := bc_ BK411.out 0 rfl; obtain ⟨hcz19_1, hfz19_1⟩ := bc_ BK411.out 1 rfl; obtain ⟨hcz19_2, hfz19_2⟩ := bc_ BK411.out 2 rfl; obtain ⟨hcz19_3, hfz19_3⟩ := bc_ BK411.out 3 rfl; obtain ⟨hcz19_4, hfz19_4⟩ := bc_ BK411.out 4 rfl; obtain ⟨hcz19_5, hfz19_5⟩ := bc_ BK411.out 5 rfl; obtain ⟨Ao20, co20, eo20⟩ := Kd.R_slice HO406.out; subst eo20; obtain ⟨Ao21, co21, eo21⟩ := Kd.R_slice HO409.out; subst eo21) | ((with_reducible refine y0j (N := 19) rfl ?_); (try (refine gate_guard (by rfl) ?_; dsimp only)); refine Kd.R_lit k43 _ 43 ?hg (N := 19) ?hd (xs := ([(⟨0, 0, 4, (⟨#[98]⟩ : ByteArray), false⟩ : S43), (⟨0, 0, 4, (⟨#[97]⟩ : ByteArray), false⟩ : S43), (⟨0, 0, 4, (⟨#[98]⟩ : ByteArray), false⟩ : S43)] : List (S43))) (inner := [.int .i64 0, .int .i64 0, .int .i64 4, .string (⟨#[98]⟩ : ByteArray), .bool false, .int .i64 0, .int .i64 0, .int .i64 4, .string (⟨#[97]⟩ : ByteArray), .bool false, .int .i64 0, .int .i64 0, .int .i64 4, .string (⟨#[98]⟩ : ByteArray), .bool false]) (ok := fun _ => True) (okp := fun _ => True) ?hr ?hp (fun _ hk => hk) trivial (Below.refl _ _) (Nat.le_refl _) (by simp) ?_; (case hd => rfl); (case hg => rfl); (case hr => first | (go_simp; done) | (go_simp; rfl)); (case hp => exact (Reps.c5 (show Kd.M k43 _ _ _ (⟨0, 0, 4, (⟨#[98]⟩ : ByteArray), false⟩ : S43) [.int .i64 0, .int .i64 0, .int .i64 4, .string (⟨#[98]⟩ : ByteArray), .bool false] from (k43_mkM _ _ _ (⟨0, 0, 4, (⟨#[98]⟩ : ByteArray), false⟩ : S43) )) (Reps.c5 (show Kd.M k43 _ _ _ (⟨0, 0, 4, (⟨#[97]⟩ : ByteArray), false⟩ : S43) [.int .i64 0, .int .i64 0, .int .i64 4, .string (⟨#[97]⟩ : ByteArray), .bool false] from (k43_mkM _ _ _ (⟨0, 0, 4, (⟨#[97]⟩ : ByteArray), false⟩ : S43) )) (Reps.c5 (show Kd.M k43 _ _ _ (⟨0, 0, 4, (⟨#[98]⟩ : ByteArray), false⟩ : S43) [.int .i64 0, .int .i64 0, .int .i64 4, .string (⟨#[98]⟩ : ByteArray), .bool false] from (k43_mkM _ _ _ (⟨0, 0, 4, (⟨#[98]⟩ : ByteArray), false⟩ : S43) )) (Reps.none _ _))))); intro v413 w22 ho23 hb hg_ hnew_; clear hg_ hnew_; (first | rw [← Ny412.out] at ho23 | (simp only [Int.reduceToNat] at ho23; rw [← Ny412.out] at ho23)); have n0_ := Aside0.mk (Kd.R_below (by (with_reducible repeat (first | apply Kd.R_alloc | apply Kd.R_drewN | apply Kd.R_drew)); exact (Kd.R_mono (Kd.R_far (p := ⟨gb411, 5, none⟩) (Kd.R_far (p := ⟨gb411, 4, none⟩) (Kd.R_far (p := ⟨gb411, 3, none⟩) (Kd.R_far (p := ⟨gb411, 2, none⟩) (Kd.R_far (p := ⟨gb411, 1, none⟩) (Kd.R_far (p := ⟨gb411, 0, none⟩) (Kd.R_types HO406.out BK411.out (by decide)) (fun _ hk => hk.2) (.string t400)) (fun _ hk => hk.2) (.string t401)) (fun _ hk => hk.2) (.string t402)) (fun _ hk => hk.2) (.int .i64 t403)) (fun _ hk => hk.2) (.slice Ao20 t404.length co20)) (fun _ hk => hk.2) (.slice Ao21 t407.length co21)) (fun _ h_ => h_.1))) hb); have n1_ := Aside0.mk (Kd.R_elder' (by (with_reducible repeat (first | apply Kd.R_alloc | apply Kd.R_drewN | apply Kd.R_drew)); exact (Kd.R_mono (Kd.R_far (p := ⟨gb411, 5, none⟩) (Kd.R_far (p := ⟨gb411, 4, none⟩) (Kd.R_far (p := ⟨gb411, 3, none⟩) (Kd.R_far (p := ⟨gb411, 2, none⟩) (Kd.R_far (p := ⟨gb411, 1, none⟩) (Kd.R_far (p := ⟨gb411, 0, none⟩) (Kd.R_types HO409.out BK411.out (by decide)) (fun _ hk => hk.2) (.string t400)) (fun _ hk => hk.2) (.string t401)) (fun _ hk => hk.2) (.string t402)) (fun _ hk => hk.2) (.int .i64 t403)) (fun _ hk => hk.2) (.slice Ao20 t404.length co20)) (fun _ hk => hk.2) (.slice Ao21 t407.length co21)) (fun _ h_ => h_.1))) (Kd.R_base ho23) hb); have n2_ := Aside0.mk (Kd.R_lower (Kd.R_new' ho23 (Kd.R_lt (by (with_reducible repeat (first | apply Kd.R_alloc | apply Kd.R_drewN | apply Kd.R_drew)); exact (Kd.R_mono (Kd.R_far (p := ⟨gb411, 5, none⟩) (Kd.R_far (p := ⟨gb411, 4, none⟩) (Kd.R_far (p := ⟨gb411, 3, none⟩) (Kd.R_far (p := ⟨gb411, 2, none⟩) (Kd.R_far (p := ⟨gb411, 1, none⟩) (Kd.R_far (p := ⟨gb411, 0, none⟩) (Kd.R_types HO409.out BK411.out (by decide)) (fun _ hk => hk.2) (.string t400)) (fun _ hk => hk.2) (.string t401)) (fun _ hk => hk.2) (.string t402)) (fun _ hk => hk.2) (.int .i64 t403)) (fun _ hk => hk.2) (.slice Ao20 t404.length co20)) (fun _ hk => hk.2) (.slice Ao21 t407.length co21)) (fun _ h_ => h_.1))))) (y03 hb_)); have n3_ := Aside0.mk (y06 (g := gb411) (o := .cells #[.string t400, .string t401, .string t402, .int .i64 t403, .slice Ao20 t404.length co20, .slice Ao21 t407.length co21] 25 (0, 0)) (by (with_reducible repeat (first | refine y09 ?_ _ | refine y08 ?_ | refine y05 ?_ _)); refine y0d (cs := #[.string t400, .string t401, .string t402, .int .i64 t403, .slice Ao20 t404.length co20, .slice none 0 0]) ?_ 5 _ rfl; (with_reducible repeat (first | refine y09 ?_ _ | refine y08 ?_ | refine y05 ?_ _)); refine y0d (cs := #[.string t400, .string t401, .string t402, .int .i64 t403, .slice none 0 0, .slice none 0 0]) ?_ 4 _ rfl; (with_reducible repeat (first | refine y09 ?_ _ | refine y08 ?_ | refine y05 ?_ _)); refine y0d (cs := #[.string t400, .string t401, .string t402, .int .i64 0, .slice none 0 0, .slice none 0 0]) ?_ 3 _ rfl; (with_reducible repeat (first | refine y09 ?_ _ | refine y08 ?_ | refine y05 ?_ _)); refine y0d (cs := #[.string t400, .string t401, .string (⟨#[]⟩ : ByteArray), .int .i64 0, .slice none 0 0, .slice none 0 0]) ?_ 2 _ rfl; (with_reducible repeat (first | refine y09 ?_ _ | refine y08 ?_ | refine y05 ?_ _)); refine y0d (cs := #[.string t400, .string (⟨#[]⟩ : ByteArray), .string (⟨#[]⟩ : ByteArray), .int .i64 0, .slice none 0 0, .slice none 0 0]) ?_ 1 _ rfl; (with_reducible repeat (first | refine y09 ?_ _ | refine y08 ?_ | refine y05 ?_ _)); refine y0d (cs := #[.string (⟨#[]⟩ : ByteArray), .string (⟨#[]⟩ : ByteArray), .string (⟨#[]⟩ : ByteArray), .int .i64 0, .slice none 0 0, .slice none 0 0]) ?_ 0 _ rfl; (with_reducible repeat (first | refine y09 ?_ _ | refine y08 ?_ | refine y05 ?_ _)); exact BK411.out) hb); have n4_ := Aside0.mk (y04 hb_ hb); clear HO406 HO409 BK411 HB; have HO406 := n0_; have HO409 := n1_; have HO414 := n2_; have BK411 := n3_; have HB := n4_; clear n0_ n1_ n2_ n3_ n4_; clear hb ho23; obtain ⟨Ao24, co24, eo24⟩ := Kd.R_slice HO414.out; subst eo24) | (go_at_call 27; (with_reducible show Calls Try.prog 27 #[.agg #[.string (⟨#[]⟩ : ByteArray), .string (⟨#[]⟩ : ByteArray), .string (⟨#[]⟩ : ByteArray), .int .i64 0, .slice none 0 0, .slice Ao24 y412.length co24]] _ _); (refine (zqp.calls k (⟨#[]⟩ : ByteArray) (⟨#[]⟩ : ByteArray) (⟨#[]⟩ : ByteArray) 0 _ _ ([] : List (S62)) _ _ y412 t415 _ ?side1 ?side2 ?side3 ?side4 A3.out).mono ?_); (case side1 => exact Kd.C_nil _ _); (case side2 => exact Nat.le_refl _); (case side3 => repeat (first | exact (Kd.R_reads' HO414.out).2.2 | (with_reducible refine Kd.C_alloc ?_ _) | (with_reducible refine Kd.C_drewN ?_ _) | (with_reducible refine Kd.C_drew ?_))); (case side4 => exact (Kd.R_reads' HO414.out).2.1); rintro e w25 ⟨v416, rfl, ho0, hb⟩; have n0_ := Aside0.mk (Kd.R_below (rk_ HO406.out) hb); have n1_ := Aside0.mk (Kd.R_below (rk_ HO409.out) hb); have n2_ := Aside0.mk (Kd.R_below (rk_ HO414.out) hb); have n3_ := Aside0.mk (Kd.R_lower ho0 (y03 hb_)); have n4_ := Aside0.mk (y06 (bk_ BK411.out) hb); have n5_ := Aside0.mk (y04 hb_ hb); clear HO406 HO409 HO414 BK411 HB; have HO406 := n0_; have HO409 := n1_; have HO414 := n2_; have HO417 := n3_; have BK411 := n4_; have HB := n5_; clear n0_ n1_ n2_ n3_ n4_ n5_; (try clear hb); (try clear hb2); (try clear hk); (try clear hi); (try clear ho0); obtain ⟨hcz26_0, hfz26_0⟩ := bc_ BK411.out 0 rfl; obtain ⟨hcz26_1, hfz26_1⟩ := bc_ BK411.out 1 rfl; obtain ⟨hcz26_2, hfz26_2⟩ := bc_ BK411.out 2 rfl; obtain ⟨hcz26_3, hfz26_3⟩ := bc_ BK411.out 3 rfl; obtain ⟨hcz26_4, hfz26_4⟩ := bc_ BK411.out 4 rfl; obtain ⟨hcz26_5, hfz26_5⟩ := bc_ BK411.out 5 rfl; obtain ⟨Ao27, co27, eo27⟩ := Kd.R_slice HO417.out; subst eo27; have p418 : 0 ≤ (0 : Int) := (by omega); have q418 : 0 < (t415.length : Int) := oa_; obtain ⟨ad418, e418, hx418_0⟩ := Kd.at_string (Kd.R_reads' HO417.out).2.2 0 p418 q418; cases e418; have qi418 : (0 < t415.length) = True := eq_true (by omega); (try rw [show ((0 : Int)).toNat = 0 from rfl] at hx418_0); (try rw [Addr.add_zero'] at hx418_0); replace p418 := eq_true p418; replace q418 := eq_true q418; have p419 : 0 ≤ (1 : Int) := (by omega); have q419 : 1 < (t415.length : Int) := oa_; obtain ⟨ad419, e419, hx419_0⟩ := Kd.at_string (Kd.R_reads' HO417.out).2.2 1 p419 q419; obtain rfl : ad418 = ad419 := (by injection e419); (try simp only [show (1 : Int).toNat = 1 from rfl, Nat.reduceMul, Nat.reduceEqDiff, Go.Addr.add, ↓reduceIte] at hx419_0); have qi419 : (1 < t415.length) = True := eq_true (by omega); (try rw [show ((1 : Int)).toNat = 1 from rfl] at hx419_0); replace p419 := eq_true p419; replace q419 := eq_true q419) | (go_at_call 18; (with_reducible show Calls Try.prog 18 #[.agg #[.string (⟨#[109]⟩ : ByteArray), .string (⟨#[120]⟩ : ByteArray), .string (⟨#[]⟩ : ByteArray), .int .i64 0, .slice none 0 0, .slice none 0 0]] _ _); (refine (zqo.calls k (⟨#[109]⟩ : ByteArray) (⟨#[120]⟩ : ByteArray) (⟨#[]⟩ : ByteArray) 0 _ _ ([] : List (S62)) _ _ ([] : List (S43)) t420 _ ?side1 ?side2 ?side3 ?side4 A13.out).mono ?_); (case side1 => exact Kd.C_nil _ _); (case side2 => exact Nat.le_refl _); (case side3 => exact Kd.C_nil _ _); (case side4 => exact Nat.le_refl _); rintro e w28 ⟨rfl, hb⟩; have n0_ := Aside0.mk (Kd.R_below (rk_ HO406.out) hb); have n1_ := Aside0.mk (Kd.R_below (rk_ HO409.out) hb); have n2_ := Aside0.mk (Kd.R_below (rk_ HO414.out) hb); have n3_ := Aside0.mk (Kd.R_below (rk_ HO417.out) hb); have n4_ := Aside0.mk (y06 (bk_ BK411.out) hb); have n5_ := Aside0.mk (y04 hb_ hb); clear HO406 HO409 HO414 HO417 BK411 HB; have HO406 := n0_; have HO409 := n1_; have HO414 := n2_; have HO417 := n3_; have BK411 := n4_; have HB := n5_; clear n0_ n1_ n2_ n3_ n4_ n5_; (try clear hb); (try clear hb2); (try clear hk); (try clear hi)) | ((with_reducible refine y0j (N := 62) rfl ?_); (try (refine gate_guard (by rfl) ?_; dsimp only)); refine Kd.R_lit k43 _ 43 ?hg (N := 62) ?hd (xs := ([(⟨1, 2, 1, (⟨#[]⟩ : ByteArray), false⟩ : S43)] : List (S43))) (inner := [.int .i64 1, .int .i64 2, .int .i64 1, .string (⟨#[]⟩ : ByteArray), .bool false]) (ok := fun _ => True) (okp := fun _ => True) ?hr ?hp (fun _ hk => hk) trivial (Below.refl _ _) (Nat.le_refl _) (by simp) ?_; (case hd => rfl); (case hg => rfl); (case hr => first | (go_simp; done) | (go_simp; rfl)); (case hp => exact (Reps.c5 (show Kd.M k43 _ _ _ (⟨1, 2, 1, (⟨#[]⟩ : ByteArray), false⟩ : S43) [.int .i64 1, .int .i64 2, .int .i64 1, .string (⟨#[]⟩ : ByteArray), .bool false] from (k43_mkM _ _ _ (⟨1, 2, 1, (⟨#[]⟩ : ByteArray), false⟩ : S43) )) (Reps.none _ _))); intro v422 w29 ho30 hb hg_ hnew_; clear hg_ hnew_; (first | rw [← Ny421.out] at ho30 | (simp only [Int.reduceToNat] at ho30; rw [← Ny421.out] at ho30)); have n0_ := Aside0.mk (Kd.R_below (rk_ HO406.out) hb); have n1_ := Aside0.mk (Kd.R_elder' (rk_ HO409.out) (Kd.R_base ho30) hb); have n2_ := Aside0.mk (Kd.R_elder' (rk_ HO414.out) (Kd.R_base ho30) hb); have n3_ := Aside0.mk (Kd.R_below (rk_ HO417.out) hb); have n4_ := Aside0.mk (Kd.R_lower (Kd.R_new' (Kd.R_new' ho30 (Kd.R_lt (rk_ HO409.out))) (Kd.R_lt (rk_ HO414.out))) (y03 hb_)); have n5_ := Aside0.mk (y06 (bk_ BK411.out) hb); have n6_ := Aside0.mk (y04 hb_ hb); clear HO406 HO409 HO414 HO417 BK411 HB; have HO406 := n0_; have HO409 := n1_; have HO414 := n2_; have HO417 := n3_; have HO423 := n4_; have BK411 := n5_; have HB := n6_; clear n0_ n1_ n2_ n3_ n4_ n5_ n6_; clear hb ho30; obtain ⟨Ao31, co31, eo31⟩ := Kd.R_slice HO423.out; subst eo31) | (go_at_call 18; (with_reducible show Calls Try.prog 18 #[.agg #[.string (⟨#[109]⟩ : ByteArray), .string (⟨#[120, 120]⟩ : ByteArray), .string (⟨#[]⟩ : ByteArray), .int .i64 0, .slice none 0 0, .slice Ao31 y421.length co31]] _ _); (refine (zqo.calls k (⟨#[109]⟩ : ByteArray) (⟨#[120, 120]⟩ : ByteArray) (⟨#[]⟩ : ByteArray) 0 _ _ ([] : List (S62)) _ _ y421 t424 _ ?side1 ?side2 ?side3 ?side4 A15.out).mono ?_); (case side1 => exact Kd.C_nil _ _); (case side2 => exact Nat.le_refl _); (case side3 => repeat (first | exact (Kd.R_reads' HO423.out).2.2 | (with_reducible refine Kd.C_alloc ?_ _) | (with_reducible refine Kd.C_drewN ?_ _) | (with_reducible refine Kd.C_drew ?_))); (case side4 => exact (Kd.R_reads' HO423.out).2.1); rintro e w32 ⟨rfl, hb⟩; have n0_ := Aside0.mk (Kd.R_below (rk_ HO406.out) hb); have n1_ := Aside0.mk (Kd.R_below (rk_ HO409.out) hb); have n2_ := Aside0.mk (Kd.R_below (rk_ HO414.out) hb); have n3_ := Aside0.mk (Kd.R_below (rk_ HO417.out) hb); have n4_ := Aside0.mk (Kd.R_below (rk_ HO423.out) hb); have n5_ := Aside0.mk (y06 (bk_ BK411.out) hb); have n6_ := Aside0.mk (y04 hb_ hb); clear HO406 HO409 HO414 HO417 HO423 BK411 HB; have HO406 := n0_; have HO409 := n1_; have HO414 := n2_; have HO417 := n3_; have HO423 := n4_; have BK411 := n5_; have HB := n6_; clear n0_ n1_ n2_ n3_ n4_ n5_ n6_; (try clear hb); (try clear hb2); (try clear hk); (try clear hi)))
           go_ret
           exact ⟨ew_, hb_⟩
          ·rw [if_neg c14] at H
           exact absurd H (by simp)
         ·rw [if_neg c12] at H
          exact absurd H (by simp)
        ·rw [if_neg c11] at H
         exact absurd H (by simp)
       ·rw [if_neg c10] at H
        exact absurd H (by simp)
      ·rw [if_neg c9] at H
       exact absurd H (by simp)
     ·rw [if_neg c8] at H
      exact absurd H (by simp)
    ·rw [if_neg c7] at H
     exact absurd H (by simp)
   ·rw [if_neg c6] at H
    exact absurd H (by simp)
  ·rw [if_neg c5] at H
   exact absurd H (by simp)
 ·rw [if_neg c4] at H
  exact absurd H (by simp)
end Go.Proofs.Ytenlmckahaniiaa.K
end
