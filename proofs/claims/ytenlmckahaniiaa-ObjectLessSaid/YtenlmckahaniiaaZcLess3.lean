/- Lemmas for several laws: what their proofs need of this seat's texts, in one place. -/
import Derived.Test.YtenlmckahaniiaaZcLess2
set_option linter.unusedVariables false
set_option linter.unusedSimpArgs false
set_option linter.unusedSectionVars false
set_option maxHeartbeats 8000000
set_option maxRecDepth 100000
section
namespace Go.Proofs.Ytenlmckahaniiaa.K
open Go.RowKit Go.Proofs.YtenlmckahaniiaaW.PrintWords Go.Proofs.YtenlmckahaniiaaW.PrintLast
mutual
def zqf.j0 : Nat → Int → Int → Int → Int → ByteArray → Bool → Int → Int → Int → ByteArray → Bool → Option (Int)
  | 0, _, _, _, _, _, _, _, _, _, _, _ => none
  | k + 1, x7, x120000, x120001, x120002, x120003, x120004, x121000, x121001, x121002, x121003, x121004 => if x120001 < 0 then (zqf.j1 k true x120000 x120001 x120002 x120003 x120004 x121000 x121001 x121002 x121003 x121004) else (if (Int.tmod x120001 2) = 0 then (zqf.j1 k (decide (x120001 > (wrap64 (x7 - 2)))) x120000 x120001 x120002 x120003 x120004 x121000 x121001 x121002 x121003 x121004) else (zqf.j1 k true x120000 x120001 x120002 x120003 x120004 x121000 x121001 x121002 x121003 x121004))
def zqf.j1 : Nat → Bool → Int → Int → Int → ByteArray → Bool → Int → Int → Int → ByteArray → Bool → Option (Int)
  | 0, _, _, _, _, _, _, _, _, _, _, _ => none
  | k + 1, x20, x120000, x120001, x120002, x120003, x120004, x121000, x121001, x121002, x121003, x121004 => if x20 = true then (some 2) else (if x120000 < x121000 then (zqf.j2 k true x120000 x120001 x120002 x120003 x120004) else (if x120000 = x121000 then (zqf.j2 k (decide (x120001 ≤ x121001)) x120000 x120001 x120002 x120003 x120004) else (zqf.j2 k false x120000 x120001 x120002 x120003 x120004)))
def zqf.j2 : Nat → Bool → Int → Int → Int → ByteArray → Bool → Option (Int)
  | 0, _, _, _, _, _, _ => none
  | k + 1, x37, x120000, x120001, x120002, x120003, x120004 => if x37 = true then (some 2) else (if x120002 < 0 then (zqf.j3 k true x120000 x120001 x120002 x120003 x120004) else (if x120002 > 4 then (zqf.j3 k true x120000 x120001 x120002 x120003 x120004) else (if x120002 = 0 then (zqf.j3 k (!x120004) x120000 x120001 x120002 x120003 x120004) else (zqf.j3 k false x120000 x120001 x120002 x120003 x120004))))
def zqf.j3 : Nat → Bool → Int → Int → Int → ByteArray → Bool → Option (Int)
  | 0, _, _, _, _, _, _ => none
  | k + 1, x57, x120000, x120001, x120002, x120003, x120004 => if x57 = true then (some 2) else (if x120002 = 4 then ((zql.f k x120003).bind fun t121 => (if t121 = true then (some 0) else (some 4))) else (if x120003.toList = ([] : List UInt8) then (some 0) else (some 4)))
end
def zqf.f (k : Nat) (a0_0 : ByteArray) (a0_1 : ByteArray) (a0_2 : ByteArray) (a0_3 : Int) (l0_4 : List (S62)) (l0_5 : List (S43)) (a1_0 : Int) (a1_1 : Int) (a1_2 : Int) (a1_3 : ByteArray) (a1_4 : Bool) (a2_0 : Int) (a2_1 : Int) (a2_2 : Int) (a2_3 : ByteArray) (a2_4 : Bool) : Option (Int) := if a1_0 = 1 then (zqf.j0 k (a0_1.size : Int) a1_0 a1_1 a1_2 a1_3 a1_4 a2_0 a2_1 a2_2 a2_3 a2_4) else (if a1_0 = 2 then (zqf.j0 k (a0_2.size : Int) a1_0 a1_1 a1_2 a1_3 a1_4 a2_0 a2_1 a2_2 a2_3 a2_4) else (some 2))
theorem zqf.mono_l : ∀ k, (∀ y0 y1 y2 y3 y4 y5 y6 y7 y8 y9 y10, LeO (zqf.j0 k y0 y1 y2 y3 y4 y5 y6 y7 y8 y9 y10) (zqf.j0 (k + 1) y0 y1 y2 y3 y4 y5 y6 y7 y8 y9 y10)) ∧ (∀ y0 y1 y2 y3 y4 y5 y6 y7 y8 y9 y10, LeO (zqf.j1 k y0 y1 y2 y3 y4 y5 y6 y7 y8 y9 y10) (zqf.j1 (k + 1) y0 y1 y2 y3 y4 y5 y6 y7 y8 y9 y10)) ∧ (∀ y0 y1 y2 y3 y4 y5, LeO (zqf.j2 k y0 y1 y2 y3 y4 y5) (zqf.j2 (k + 1) y0 y1 y2 y3 y4 y5)) ∧ (∀ y0 y1 y2 y3 y4 y5, LeO (zqf.j3 k y0 y1 y2 y3 y4 y5) (zqf.j3 (k + 1) y0 y1 y2 y3 y4 y5))
 | 0 => ⟨fun _ _ _ _ _ _ _ _ _ _ _ r h => by simp [zqf.j0] at h, fun _ _ _ _ _ _ _ _ _ _ _ r h => by simp [zqf.j1] at h, fun _ _ _ _ _ _ r h => by simp [zqf.j2] at h, fun _ _ _ _ _ _ r h => by simp [zqf.j3] at h⟩
 | k + 1 => by
  obtain ⟨ih0, ih1, ih2, ih3⟩ := zqf.mono_l k
  refine ⟨?_, ?_, ?_, ?_⟩
  ·intro y0 y1 y2 y3 y4 y5 y6 y7 y8 y9 y10
   unfold zqf.j0
   repeat' first
   | (with_reducible exact ih0 _ _ _ _ _ _ _ _ _ _ _)
   | (with_reducible exact ih1 _ _ _ _ _ _ _ _ _ _ _)
   | (with_reducible exact ih2 _ _ _ _ _ _)
   | (with_reducible exact ih3 _ _ _ _ _ _)
   | (with_reducible exact zql.mono _ _)
   | (with_reducible exact LeO.refl _)
   | (with_reducible exact LeO.none _)
   | (with_reducible refine LeO.ite ?_ ?_)
   | (with_reducible refine LeO.bind ?_ (fun _ => ?_))
   | exact ih0 _ _ _ _ _ _ _ _ _ _ _
   | exact ih1 _ _ _ _ _ _ _ _ _ _ _
   | exact ih2 _ _ _ _ _ _
   | exact ih3 _ _ _ _ _ _
   | exact zql.mono _ _
   | exact LeO.none _
   | refine LeO.ite ?_ ?_
   | refine LeO.bind ?_ (fun _ => ?_)
  ·intro y0 y1 y2 y3 y4 y5 y6 y7 y8 y9 y10
   unfold zqf.j1
   repeat' first
   | (with_reducible exact ih0 _ _ _ _ _ _ _ _ _ _ _)
   | (with_reducible exact ih1 _ _ _ _ _ _ _ _ _ _ _)
   | (with_reducible exact ih2 _ _ _ _ _ _)
   | (with_reducible exact ih3 _ _ _ _ _ _)
   | (with_reducible exact zql.mono _ _)
   | (with_reducible exact LeO.refl _)
   | (with_reducible exact LeO.none _)
   | (with_reducible refine LeO.ite ?_ ?_)
   | (with_reducible refine LeO.bind ?_ (fun _ => ?_))
   | exact ih0 _ _ _ _ _ _ _ _ _ _ _
   | exact ih1 _ _ _ _ _ _ _ _ _ _ _
   | exact ih2 _ _ _ _ _ _
   | exact ih3 _ _ _ _ _ _
   | exact zql.mono _ _
   | exact LeO.none _
   | refine LeO.ite ?_ ?_
   | refine LeO.bind ?_ (fun _ => ?_)
  ·intro y0 y1 y2 y3 y4 y5
   unfold zqf.j2
   repeat' first
   | (with_reducible exact ih0 _ _ _ _ _ _ _ _ _ _ _)
   | (with_reducible exact ih1 _ _ _ _ _ _ _ _ _ _ _)
   | (with_reducible exact ih2 _ _ _ _ _ _)
   | (with_reducible exact ih3 _ _ _ _ _ _)
   | (with_reducible exact zql.mono _ _)
   | (with_reducible exact LeO.refl _)
   | (with_reducible exact LeO.none _)
   | (with_reducible refine LeO.ite ?_ ?_)
   | (with_reducible refine LeO.bind ?_ (fun _ => ?_))
   | exact ih0 _ _ _ _ _ _ _ _ _ _ _
   | exact ih1 _ _ _ _ _ _ _ _ _ _ _
   | exact ih2 _ _ _ _ _ _
   | exact ih3 _ _ _ _ _ _
   | exact zql.mono _ _
   | exact LeO.none _
   | refine LeO.ite ?_ ?_
   | refine LeO.bind ?_ (fun _ => ?_)
  ·intro y0 y1 y2 y3 y4 y5
   unfold zqf.j3
   repeat' first
   | (with_reducible exact ih0 _ _ _ _ _ _ _ _ _ _ _)
   | (with_reducible exact ih1 _ _ _ _ _ _ _ _ _ _ _)
   | (with_reducible exact ih2 _ _ _ _ _ _)
   | (with_reducible exact ih3 _ _ _ _ _ _)
   | (with_reducible exact zql.mono _ _)
   | (with_reducible exact LeO.refl _)
   | (with_reducible exact LeO.none _)
   | (with_reducible refine LeO.ite ?_ ?_)
   | (with_reducible refine LeO.bind ?_ (fun _ => ?_))
   | exact ih0 _ _ _ _ _ _ _ _ _ _ _
   | exact ih1 _ _ _ _ _ _ _ _ _ _ _
   | exact ih2 _ _ _ _ _ _
   | exact ih3 _ _ _ _ _ _
   | exact zql.mono _ _
   | exact LeO.none _
   | refine LeO.ite ?_ ?_
   | refine LeO.bind ?_ (fun _ => ?_)
theorem zqf.mono : ∀ a0 a1 a2 a3 a4 a5 a6 a7 a8 a9 a10 a11 a12 a13 a14 a15 k, LeO (zqf.f k a0 a1 a2 a3 a4 a5 a6 a7 a8 a9 a10 a11 a12 a13 a14 a15) (zqf.f (k + 1) a0 a1 a2 a3 a4 a5 a6 a7 a8 a9 a10 a11 a12 a13 a14 a15) := by
 intro a0 a1 a2 a3 a4 a5 a6 a7 a8 a9 a10 a11 a12 a13 a14 a15 k
 obtain ⟨ih0, ih1, ih2, ih3⟩ := zqf.mono_l k
 unfold zqf.f
 repeat' first
   | (with_reducible exact ih0 _ _ _ _ _ _ _ _ _ _ _)
   | (with_reducible exact ih1 _ _ _ _ _ _ _ _ _ _ _)
   | (with_reducible exact ih2 _ _ _ _ _ _)
   | (with_reducible exact ih3 _ _ _ _ _ _)
   | (with_reducible exact zql.mono _ _)
   | (with_reducible exact LeO.refl _)
   | (with_reducible exact LeO.none _)
   | (with_reducible refine LeO.ite ?_ ?_)
   | (with_reducible refine LeO.bind ?_ (fun _ => ?_))
   | exact ih0 _ _ _ _ _ _ _ _ _ _ _
   | exact ih1 _ _ _ _ _ _ _ _ _ _ _
   | exact ih2 _ _ _ _ _ _
   | exact ih3 _ _ _ _ _ _
   | exact zql.mono _ _
   | exact LeO.none _
   | refine LeO.ite ?_ ?_
   | refine LeO.bind ?_ (fun _ => ?_)
theorem zqf.calls (k : Nat) (a0_0 : ByteArray) (a0_1 : ByteArray) (a0_2 : ByteArray) (a0_3 : Int) (A0_4 : Option Addr) (c0_4 : Nat) (l0_4 : List (S62)) (A0_5 : Option Addr) (c0_5 : Nat) (l0_5 : List (S43)) (a1_0 : Int) (a1_1 : Int) (a1_2 : Int) (a1_3 : ByteArray) (a1_4 : Bool) (a2_0 : Int) (a2_1 : Int) (a2_2 : Int) (a2_3 : ByteArray) (a2_4 : Bool) (r : Int) (w : World) (hr0_4 : Kd.C k62 w A0_4 l0_4.length l0_4) (hc0_4 : l0_4.length ≤ c0_4) (hr0_5 : Kd.C k43 w A0_5 l0_5.length l0_5) (hc0_5 : l0_5.length ≤ c0_5) (h : zqf.f k a0_0 a0_1 a0_2 a0_3 l0_4 l0_5 a1_0 a1_1 a1_2 a1_3 a1_4 a2_0 a2_1 a2_2 a2_3 a2_4 = some r) :
  Calls Try.prog 50 #[.agg #[.string a0_0, .string a0_1, .string a0_2, .int .i64 a0_3, .slice A0_4 l0_4.length c0_4, .slice A0_5 l0_5.length c0_5], .agg #[.int .i64 a1_0, .int .i64 a1_1, .int .i64 a1_2, .string a1_3, .bool a1_4], .agg #[.int .i64 a2_0, .int .i64 a2_1, .int .i64 a2_2, .string a2_3, .bool a2_4]] w fun e w' => e = .returned (.int .i64 r) ∧ Below w.heap.size w w' := by
 have hu25 := Try.underlying25
 have hu43 := Try.underlying43
 have HR0_4 := Aside0.mk hr0_4
 have HC0_4 := Aside0.mk hc0_4
 clear hr0_4 hc0_4
 have HR0_5 := Aside0.mk hr0_5
 have HC0_5 := Aside0.mk hc0_5
 clear hr0_5 hc0_5
 have HB := Aside0.mk (Below.refl w.heap.size w)
 have H : (if a1_0 = 1 then (zqf.j0 k (a0_1.size : Int) a1_0 a1_1 a1_2 a1_3 a1_4 a2_0 a2_1 a2_2 a2_3 a2_4) else (if a1_0 = 2 then (zqf.j0 k (a0_2.size : Int) a1_0 a1_1 a1_2 a1_3 a1_4 a2_0 a2_1 a2_2 a2_3 a2_4) else (some 2))) = some r := h
 clear h
 have HC4 := Aside0.mk H
 clear H
 go_enter Try.func50, Try.ntmps50
 go_upto_block 0 with (first | ((with_reducible refine y0j (N := 3) rfl ?_); refine y0e ?hg (N := 3) ?hd (cs := #[.string a0_0, .string a0_1, .string a0_2, .int .i64 a0_3, .slice A0_4 l0_4.length c0_4, .slice A0_5 l0_5.length c0_5]) (t := 25) ?hr ?_; (case hd => rfl); (case hg => rfl); (case hr => first | (go_simp; done) | (go_simp; rfl)); intro gb118 hg w5 hbox hb; have n0_ := Aside0.mk (y04 hb_ hb); have n1_ := Aside0.mk (hbox); have n2_ := Aside0.mk ((by rw [hg]; exact (y03 hb_) : w.heap.size ≤ gb118)); have n3_ := Aside0.mk ((by rw [hg]; exact (y03 hb_) : w.heap.size ≤ gb118)); clear HB; have HB := n0_; have BK118 := n1_; have GW118 := n2_; have GE118 := n3_; clear n0_ n1_ n2_ n3_; clear hb hbox hg) | ((with_reducible refine y0j (N := 4) rfl ?_); refine y0e ?hg (N := 4) ?hd (cs := #[.int .i64 a1_0, .int .i64 a1_1, .int .i64 a1_2, .string a1_3, .bool a1_4]) (t := 43) ?hr ?_; (case hd => rfl); (case hg => rfl); (case hr => first | (go_simp; done) | (go_simp; rfl)); intro gb119 hg w6 hbox hb; have n0_ := Aside0.mk (y06 (bk_ BK118.out) hb); have n1_ := Aside0.mk (y04 hb_ hb); have n2_ := Aside0.mk (hbox); have n3_ := Aside0.mk ((by rw [hg]; exact (y03 hb_) : w.heap.size ≤ gb119)); have n4_ := Aside0.mk ((by rw [hg]; exact (y03 hb_) : w.heap.size ≤ gb119)); have n5_ := Aside0.mk ((by rw [hg]; exact Nat.ne_of_lt (y0c (bk_ BK118.out)) : gb118 ≠ gb119)); have n6_ := Aside0.mk ((by rw [hg]; exact Nat.ne_of_gt (y0c (bk_ BK118.out)) : gb119 ≠ gb118)); clear BK118 HB; have BK118 := n0_; have HB := n1_; have BK119 := n2_; have GW119 := n3_; have GE119 := n4_; have NB118_119 := n5_; have NB119_118 := n6_; clear n0_ n1_ n2_ n3_ n4_ n5_ n6_; clear hb hbox hg) | ((with_reducible refine y0j (N := 5) rfl ?_); refine y0e ?hg (N := 5) ?hd (cs := #[.int .i64 a2_0, .int .i64 a2_1, .int .i64 a2_2, .string a2_3, .bool a2_4]) (t := 43) ?hr ?_; (case hd => rfl); (case hg => rfl); (case hr => first | (go_simp; done) | (go_simp; rfl)); intro gb120 hg w7 hbox hb; have n0_ := Aside0.mk (y06 (bk_ BK118.out) hb); have n1_ := Aside0.mk (y06 (bk_ BK119.out) hb); have n2_ := Aside0.mk (y04 hb_ hb); have n3_ := Aside0.mk (hbox); have n4_ := Aside0.mk ((by rw [hg]; exact (y03 hb_) : w.heap.size ≤ gb120)); have n5_ := Aside0.mk ((by rw [hg]; exact (y03 hb_) : w.heap.size ≤ gb120)); have n6_ := Aside0.mk ((by rw [hg]; exact Nat.ne_of_lt (y0c (bk_ BK118.out)) : gb118 ≠ gb120)); have n7_ := Aside0.mk ((by rw [hg]; exact Nat.ne_of_gt (y0c (bk_ BK118.out)) : gb120 ≠ gb118)); have n8_ := Aside0.mk ((by rw [hg]; exact Nat.ne_of_lt (y0c (bk_ BK119.out)) : gb119 ≠ gb120)); have n9_ := Aside0.mk ((by rw [hg]; exact Nat.ne_of_gt (y0c (bk_ BK119.out)) : gb120 ≠ gb119)); clear BK118 BK119 HB; have BK118 := n0_; have BK119 := n1_; have HB := n2_; have BK120 := n3_; have GW120 := n4_; have GE120 := n5_; have NB118_120 := n6_; have NB120_118 := n7_; have NB119_120 := n8_; have NB120_119 := n9_; clear n0_ n1_ n2_ n3_ n4_ n5_ n6_ n7_ n8_ n9_; clear hb hbox hg; have hnb8 := NB119_118.out; have hnc8 := NB118_119.out; have hnb9 := NB119_120.out; have hnc9 := NB120_119.out; obtain ⟨hcz10_0, hfz10_0⟩ := bc_ BK119.out 0 rfl; obtain ⟨hcz10_1, hfz10_1⟩ := bc_ BK119.out 1 rfl; obtain ⟨hcz10_2, hfz10_2⟩ := bc_ BK119.out 2 rfl; obtain ⟨hcz10_3, hfz10_3⟩ := bc_ BK119.out 3 rfl; obtain ⟨hcz10_4, hfz10_4⟩ := bc_ BK119.out 4 rfl))
 (try simp only [Act.put, List.setIfInBounds_toArray, List.set_cons_zero, List.set_cons_succ])
 go_cut [7] (fun v7 wc => ∃ (kq : Nat) (x7_3 : Int), v7 = .int .i64 x7_3 ∧ Aside0 (zqf.j0 kq x7_3 a1_0 a1_1 a1_2 a1_3 a1_4 a2_0 a2_1 a2_2 a2_3 a2_4 = some r) ∧ Aside0 (kq ≤ k) ∧ Aside0 (wc.heap[gb118]? = some (.cells #[.string a0_0, .string a0_1, .string a0_2, .int .i64 a0_3, (.slice A0_4 l0_4.length c0_4), (.slice A0_5 l0_5.length c0_5)] 25 (0, 0))) ∧ Aside0 (wc.heap[gb119]? = some (.cells #[.int .i64 a1_0, .int .i64 a1_1, .int .i64 a1_2, .string a1_3, .bool a1_4] 43 (0, 0))) ∧ Aside0 (wc.heap[gb120]? = some (.cells #[.int .i64 a2_0, .int .i64 a2_1, .int .i64 a2_2, .string a2_3, .bool a2_4] 43 (0, 0))) ∧ Aside0 (Below w.heap.size w wc))
 case first =>
  have H := HC4.out
  clear HC4
  by_cases c11 : a1_0 = 1
  ·rw [if_pos c11] at H
   have c11b0 : (a1_0 == 1) = true := beq_iff_eq.mpr c11
   have c11b1 : (a1_0 != 1) = false := bne_eq_false_iff_eq.mpr c11
   clear c11
   (first | rw [c11b0] | (simp only [i64_w, i32_w]; rw [c11b0]) | skip)
   have H' := Aside0.mk H
   clear H
   have hnb12 := NB118_119.out
   have hnc12 := NB119_118.out
   have hnb13 := NB118_120.out
   have hnc13 := NB120_118.out
   obtain ⟨hcz14_0, hfz14_0⟩ := bc_ BK118.out 0 rfl
   obtain ⟨hcz14_1, hfz14_1⟩ := bc_ BK118.out 1 rfl
   obtain ⟨hcz14_2, hfz14_2⟩ := bc_ BK118.out 2 rfl
   obtain ⟨hcz14_3, hfz14_3⟩ := bc_ BK118.out 3 rfl
   obtain ⟨hcz14_4, hfz14_4⟩ := bc_ BK118.out 4 rfl
   obtain ⟨hcz14_5, hfz14_5⟩ := bc_ BK118.out 5 rfl
   go_wp2
   go_meet
   case rel => exact ⟨_, ((a0_1.size : Int)), cl_, H', ⟨by first | omega | exact Nat.le_refl _⟩, ⟨bk_ BK118.out⟩, ⟨bk_ BK119.out⟩, ⟨bk_ BK120.out⟩, ⟨hb_⟩⟩
  ·rw [if_neg c11] at H
   have c11b0 : (a1_0 == 1) = false := beq_eq_false_iff_ne.mpr c11
   have c11b1 : (a1_0 != 1) = true := bne_iff_ne.mpr c11
   (first | rw [c11b0] | (simp only [i64_w, i32_w]; rw [c11b0]) | skip)
   by_cases c15 : a1_0 = 2
   ·rw [if_pos c15] at H
    have c15b0 : (a1_0 == 2) = true := beq_iff_eq.mpr c15
    have c15b1 : (a1_0 != 2) = false := bne_eq_false_iff_eq.mpr c15
    clear c15
    have H' := Aside0.mk H
    clear H
    have hnb16 := NB118_119.out
    have hnc16 := NB119_118.out
    have hnb17 := NB118_120.out
    have hnc17 := NB120_118.out
    obtain ⟨hcz18_0, hfz18_0⟩ := bc_ BK118.out 0 rfl
    obtain ⟨hcz18_1, hfz18_1⟩ := bc_ BK118.out 1 rfl
    obtain ⟨hcz18_2, hfz18_2⟩ := bc_ BK118.out 2 rfl
    obtain ⟨hcz18_3, hfz18_3⟩ := bc_ BK118.out 3 rfl
    obtain ⟨hcz18_4, hfz18_4⟩ := bc_ BK118.out 4 rfl
    obtain ⟨hcz18_5, hfz18_5⟩ := bc_ BK118.out 5 rfl
    go_wp2
    go_meet
    case rel => exact ⟨_, ((a0_2.size : Int)), cl_, H', ⟨by first | omega | exact Nat.le_refl _⟩, ⟨bk_ BK118.out⟩, ⟨bk_ BK119.out⟩, ⟨bk_ BK120.out⟩, ⟨hb_⟩⟩
   ·rw [if_neg c15] at H
    have c15b0 : (a1_0 == 2) = false := beq_eq_false_iff_ne.mpr c15
    have c15b1 : (a1_0 != 2) = true := bne_iff_ne.mpr c15
    obtain rfl := Option.some.inj H
    go_wp2
    go_ret
    exact ⟨ew_, hb_⟩
 case rest =>
  clear HC4
  clear hcz10_0; clear hcz10_1; clear hcz10_2; clear hcz10_3; clear hcz10_4; clear hfz10_0; clear hfz10_1; clear hfz10_2; clear hfz10_3; clear hfz10_4
  obtain ⟨kq, x7_3, rfl, HA, HJ3, BK118, BK119, BK120, HB⟩ := hcut
  cases kq with
  | zero => exact absurd HA.out (by simp [zqf.j0])
  | succ kj3 =>
   have H := HA.out
   clear HA
   simp only [zqf.j0] at H
   have HC19 := Aside0.mk H
   clear H
   go_upto_region 8 with (fail)
   go_cut [20] (fun v20 wc => ∃ (kq : Nat) (x20_18 : Bool), v20 = .bool x20_18 ∧ Aside0 (zqf.j1 kq x20_18 a1_0 a1_1 a1_2 a1_3 a1_4 a2_0 a2_1 a2_2 a2_3 a2_4 = some r) ∧ Aside0 (kq ≤ kj3) ∧ Aside0 (wc.heap[gb118]? = some (.cells #[.string a0_0, .string a0_1, .string a0_2, .int .i64 a0_3, (.slice A0_4 l0_4.length c0_4), (.slice A0_5 l0_5.length c0_5)] 25 (0, 0))) ∧ Aside0 (wc.heap[gb119]? = some (.cells #[.int .i64 a1_0, .int .i64 a1_1, .int .i64 a1_2, .string a1_3, .bool a1_4] 43 (0, 0))) ∧ Aside0 (wc.heap[gb120]? = some (.cells #[.int .i64 a2_0, .int .i64 a2_1, .int .i64 a2_2, .string a2_3, .bool a2_4] 43 (0, 0))) ∧ Aside0 (Below w.heap.size w wc))
   case first =>
    have H := HC19.out
    clear HC19
    by_cases c20 : a1_1 < 0
    ·rw [if_pos c20] at H
     have c20b0 : decide (a1_1 < 0) = true := decide_eq_true c20
     clear c20
     (first | rw [c20b0] | (simp only [i64_w, i32_w]; rw [c20b0]) | skip)
     have H' := Aside0.mk H
     clear H
     have hnb21 := NB119_118.out
     have hnc21 := NB118_119.out
     have hnb22 := NB119_120.out
     have hnc22 := NB120_119.out
     obtain ⟨hcz23_0, hfz23_0⟩ := bc_ BK119.out 0 rfl
     obtain ⟨hcz23_1, hfz23_1⟩ := bc_ BK119.out 1 rfl
     obtain ⟨hcz23_2, hfz23_2⟩ := bc_ BK119.out 2 rfl
     obtain ⟨hcz23_3, hfz23_3⟩ := bc_ BK119.out 3 rfl
     obtain ⟨hcz23_4, hfz23_4⟩ := bc_ BK119.out 4 rfl
     go_wp2
     go_meet
     case rel => exact ⟨_, (true), cl_, H', ⟨by have := HJ3.out; first | omega | exact Nat.le_refl _⟩, ⟨bk_ BK118.out⟩, ⟨bk_ BK119.out⟩, ⟨bk_ BK120.out⟩, ⟨hb_⟩⟩
    ·rw [if_neg c20] at H
     have c20b0 : decide (a1_1 < 0) = false := decide_eq_false c20
     clear c20
     (first | rw [c20b0] | (simp only [i64_w, i32_w]; rw [c20b0]) | skip)
     by_cases c24 : (Int.tmod a1_1 2) = 0
     ·rw [if_pos c24] at H
      have c24b0 : ((Int.tmod a1_1 2) == 0) = true := beq_iff_eq.mpr c24
      have c24b1 : ((Int.tmod a1_1 2) != 0) = false := bne_eq_false_iff_eq.mpr c24
      clear c24
      have H' := Aside0.mk H
      clear H
      have hnb25 := NB119_118.out
      have hnc25 := NB118_119.out
      have hnb26 := NB119_120.out
      have hnc26 := NB120_119.out
      obtain ⟨hcz27_0, hfz27_0⟩ := bc_ BK119.out 0 rfl
      obtain ⟨hcz27_1, hfz27_1⟩ := bc_ BK119.out 1 rfl
      obtain ⟨hcz27_2, hfz27_2⟩ := bc_ BK119.out 2 rfl
      obtain ⟨hcz27_3, hfz27_3⟩ := bc_ BK119.out 3 rfl
      obtain ⟨hcz27_4, hfz27_4⟩ := bc_ BK119.out 4 rfl
      go_wp2
      go_meet
      case rel => exact ⟨_, (decide (a1_1 > (wrap64 (x7_3 - 2)))), cl_, H', ⟨by have := HJ3.out; first | omega | exact Nat.le_refl _⟩, ⟨bk_ BK118.out⟩, ⟨bk_ BK119.out⟩, ⟨bk_ BK120.out⟩, ⟨hb_⟩⟩
     ·rw [if_neg c24] at H
      have c24b0 : ((Int.tmod a1_1 2) == 0) = false := beq_eq_false_iff_ne.mpr c24
      have c24b1 : ((Int.tmod a1_1 2) != 0) = true := bne_iff_ne.mpr c24
      have H' := Aside0.mk H
      clear H
      have hnb28 := NB119_118.out
      have hnc28 := NB118_119.out
      have hnb29 := NB119_120.out
      have hnc29 := NB120_119.out
      obtain ⟨hcz30_0, hfz30_0⟩ := bc_ BK119.out 0 rfl
      obtain ⟨hcz30_1, hfz30_1⟩ := bc_ BK119.out 1 rfl
      obtain ⟨hcz30_2, hfz30_2⟩ := bc_ BK119.out 2 rfl
      obtain ⟨hcz30_3, hfz30_3⟩ := bc_ BK119.out 3 rfl
      obtain ⟨hcz30_4, hfz30_4⟩ := bc_ BK119.out 4 rfl
      go_wp2
      go_meet
      case rel => exact ⟨_, (true), cl_, H', ⟨by have := HJ3.out; first | omega | exact Nat.le_refl _⟩, ⟨bk_ BK118.out⟩, ⟨bk_ BK119.out⟩, ⟨bk_ BK120.out⟩, ⟨hb_⟩⟩
   case rest =>
    clear HC19
    obtain ⟨kq, x20_18, rfl, HA, HJ18, BK118, BK119, BK120, HB⟩ := hcut
    cases kq with
    | zero => exact absurd HA.out (by simp [zqf.j1])
    | succ kj18 =>
     have H := HA.out
     clear HA
     simp only [zqf.j1] at H
     by_cases c31 : x20_18 = true
     ·subst c31
      have H1 : (some 2) = some r := by rw [if_pos rfl] at H; exact H
      clear H
      have H := H1
      clear H1
      obtain rfl := Option.some.inj H
      go_wp2
      go_ret
      exact ⟨ew_, hb_⟩
     ·replace c31 := Bool.eq_false_iff.mpr c31
      subst c31
      have H1 : (if a1_0 < a2_0 then (zqf.j2 kj18 true a1_0 a1_1 a1_2 a1_3 a1_4) else (if a1_0 = a2_0 then (zqf.j2 kj18 (decide (a1_1 ≤ a2_1)) a1_0 a1_1 a1_2 a1_3 a1_4) else (zqf.j2 kj18 false a1_0 a1_1 a1_2 a1_3 a1_4))) = some r := by rw [if_neg (show ¬ (false = true) by decide)] at H; exact H
      clear H
      have H := H1
      clear H1
      have HC32 := Aside0.mk H
      clear H
      go_upto_region 10 with (fail)
      go_cut [37] (fun v37 wc => ∃ (kq : Nat) (x37_31 : Bool), v37 = .bool x37_31 ∧ Aside0 (zqf.j2 kq x37_31 a1_0 a1_1 a1_2 a1_3 a1_4 = some r) ∧ Aside0 (kq ≤ kj18) ∧ Aside0 (wc.heap[gb118]? = some (.cells #[.string a0_0, .string a0_1, .string a0_2, .int .i64 a0_3, (.slice A0_4 l0_4.length c0_4), (.slice A0_5 l0_5.length c0_5)] 25 (0, 0))) ∧ Aside0 (wc.heap[gb119]? = some (.cells #[.int .i64 a1_0, .int .i64 a1_1, .int .i64 a1_2, .string a1_3, .bool a1_4] 43 (0, 0))) ∧ Aside0 (wc.heap[gb120]? = some (.cells #[.int .i64 a2_0, .int .i64 a2_1, .int .i64 a2_2, .string a2_3, .bool a2_4] 43 (0, 0))) ∧ Aside0 (Below w.heap.size w wc))
      case first =>
       have H := HC32.out
       clear HC32
       by_cases c33 : a1_0 < a2_0
       ·rw [if_pos c33] at H
        have c33b0 : decide (a1_0 < a2_0) = true := decide_eq_true c33
        clear c33
        (first | rw [c33b0] | (simp only [i64_w, i32_w]; rw [c33b0]) | skip)
        have H' := Aside0.mk H
        clear H
        have hnb34 := NB119_118.out
        have hnc34 := NB118_119.out
        have hnb35 := NB119_120.out
        have hnc35 := NB120_119.out
        obtain ⟨hcz36_0, hfz36_0⟩ := bc_ BK119.out 0 rfl
        obtain ⟨hcz36_1, hfz36_1⟩ := bc_ BK119.out 1 rfl
        obtain ⟨hcz36_2, hfz36_2⟩ := bc_ BK119.out 2 rfl
        obtain ⟨hcz36_3, hfz36_3⟩ := bc_ BK119.out 3 rfl
        obtain ⟨hcz36_4, hfz36_4⟩ := bc_ BK119.out 4 rfl
        have hnb37 := NB120_118.out
        have hnc37 := NB118_120.out
        obtain ⟨hcz38_0, hfz38_0⟩ := bc_ BK120.out 0 rfl
        obtain ⟨hcz38_1, hfz38_1⟩ := bc_ BK120.out 1 rfl
        obtain ⟨hcz38_2, hfz38_2⟩ := bc_ BK120.out 2 rfl
        obtain ⟨hcz38_3, hfz38_3⟩ := bc_ BK120.out 3 rfl
        obtain ⟨hcz38_4, hfz38_4⟩ := bc_ BK120.out 4 rfl
        go_wp2
        go_meet
        case rel => exact ⟨_, (true), cl_, H', ⟨by have := HJ3.out; have := HJ18.out; first | omega | exact Nat.le_refl _⟩, ⟨bk_ BK118.out⟩, ⟨bk_ BK119.out⟩, ⟨bk_ BK120.out⟩, ⟨hb_⟩⟩
       ·rw [if_neg c33] at H
        have c33b0 : decide (a1_0 < a2_0) = false := decide_eq_false c33
        clear c33
        (first | rw [c33b0] | (simp only [i64_w, i32_w]; rw [c33b0]) | skip)
        by_cases c39 : a1_0 = a2_0
        ·rw [if_pos c39] at H
         have c39b0 : (a1_0 == a2_0) = true := beq_iff_eq.mpr c39
         have c39b1 : (a1_0 != a2_0) = false := bne_eq_false_iff_eq.mpr c39
         clear c39
         have H' := Aside0.mk H
         clear H
         have hnb40 := NB119_118.out
         have hnc40 := NB118_119.out
         have hnb41 := NB119_120.out
         have hnc41 := NB120_119.out
         obtain ⟨hcz42_0, hfz42_0⟩ := bc_ BK119.out 0 rfl
         obtain ⟨hcz42_1, hfz42_1⟩ := bc_ BK119.out 1 rfl
         obtain ⟨hcz42_2, hfz42_2⟩ := bc_ BK119.out 2 rfl
         obtain ⟨hcz42_3, hfz42_3⟩ := bc_ BK119.out 3 rfl
         obtain ⟨hcz42_4, hfz42_4⟩ := bc_ BK119.out 4 rfl
         have hnb43 := NB120_118.out
         have hnc43 := NB118_120.out
         obtain ⟨hcz44_0, hfz44_0⟩ := bc_ BK120.out 0 rfl
         obtain ⟨hcz44_1, hfz44_1⟩ := bc_ BK120.out 1 rfl
         obtain ⟨hcz44_2, hfz44_2⟩ := bc_ BK120.out 2 rfl
         obtain ⟨hcz44_3, hfz44_3⟩ := bc_ BK120.out 3 rfl
         obtain ⟨hcz44_4, hfz44_4⟩ := bc_ BK120.out 4 rfl
         go_wp2
         go_meet
         case rel => exact ⟨_, (decide (a1_1 ≤ a2_1)), cl_, H', ⟨by have := HJ3.out; have := HJ18.out; first | omega | exact Nat.le_refl _⟩, ⟨bk_ BK118.out⟩, ⟨bk_ BK119.out⟩, ⟨bk_ BK120.out⟩, ⟨hb_⟩⟩
        ·rw [if_neg c39] at H
         have c39b0 : (a1_0 == a2_0) = false := beq_eq_false_iff_ne.mpr c39
         have c39b1 : (a1_0 != a2_0) = true := bne_iff_ne.mpr c39
         have H' := Aside0.mk H
         clear H
         have hnb45 := NB119_118.out
         have hnc45 := NB118_119.out
         have hnb46 := NB119_120.out
         have hnc46 := NB120_119.out
         obtain ⟨hcz47_0, hfz47_0⟩ := bc_ BK119.out 0 rfl
         obtain ⟨hcz47_1, hfz47_1⟩ := bc_ BK119.out 1 rfl
         obtain ⟨hcz47_2, hfz47_2⟩ := bc_ BK119.out 2 rfl
         obtain ⟨hcz47_3, hfz47_3⟩ := bc_ BK119.out 3 rfl
         obtain ⟨hcz47_4, hfz47_4⟩ := bc_ BK119.out 4 rfl
         have hnb48 := NB120_118.out
         have hnc48 := NB118_120.out
         obtain ⟨hcz49_0, hfz49_0⟩ := bc_ BK120.out 0 rfl
         obtain ⟨hcz49_1, hfz49_1⟩ := bc_ BK120.out 1 rfl
         obtain ⟨hcz49_2, hfz49_2⟩ := bc_ BK120.out 2 rfl
         obtain ⟨hcz49_3, hfz49_3⟩ := bc_ BK120.out 3 rfl
         obtain ⟨hcz49_4, hfz49_4⟩ := bc_ BK120.out 4 rfl
         go_wp2
         go_meet
         case rel => exact ⟨_, (false), cl_, H', ⟨by have := HJ3.out; have := HJ18.out; first | omega | exact Nat.le_refl _⟩, ⟨bk_ BK118.out⟩, ⟨bk_ BK119.out⟩, ⟨bk_ BK120.out⟩, ⟨hb_⟩⟩
      case rest =>
       clear HC32
       obtain ⟨kq, x37_31, rfl, HA, HJ31, BK118, BK119, BK120, HB⟩ := hcut
       cases kq with
       | zero => exact absurd HA.out (by simp [zqf.j2])
       | succ kj31 =>
        have H := HA.out
        clear HA
        simp only [zqf.j2] at H
        by_cases c50 : x37_31 = true
        ·subst c50
         have H1 : (some 2) = some r := by rw [if_pos rfl] at H; exact H
         clear H
         have H := H1
         clear H1
         obtain rfl := Option.some.inj H
         go_wp2
         go_ret
         exact ⟨ew_, hb_⟩
        ·replace c50 := Bool.eq_false_iff.mpr c50
         subst c50
         have H1 : (if a1_2 < 0 then (zqf.j3 kj31 true a1_0 a1_1 a1_2 a1_3 a1_4) else (if a1_2 > 4 then (zqf.j3 kj31 true a1_0 a1_1 a1_2 a1_3 a1_4) else (if a1_2 = 0 then (zqf.j3 kj31 (!a1_4) a1_0 a1_1 a1_2 a1_3 a1_4) else (zqf.j3 kj31 false a1_0 a1_1 a1_2 a1_3 a1_4)))) = some r := by rw [if_neg (show ¬ (false = true) by decide)] at H; exact H
         clear H
         have H := H1
         clear H1
         have HC51 := Aside0.mk H
         clear H
         go_upto_region 12 with (fail)
         go_cut [57] (fun v57 wc => ∃ (kq : Nat) (x57_50 : Bool), v57 = .bool x57_50 ∧ Aside0 (zqf.j3 kq x57_50 a1_0 a1_1 a1_2 a1_3 a1_4 = some r) ∧ Aside0 (kq ≤ kj31) ∧ Aside0 (wc.heap[gb118]? = some (.cells #[.string a0_0, .string a0_1, .string a0_2, .int .i64 a0_3, (.slice A0_4 l0_4.length c0_4), (.slice A0_5 l0_5.length c0_5)] 25 (0, 0))) ∧ Aside0 (wc.heap[gb119]? = some (.cells #[.int .i64 a1_0, .int .i64 a1_1, .int .i64 a1_2, .string a1_3, .bool a1_4] 43 (0, 0))) ∧ Aside0 (wc.heap[gb120]? = some (.cells #[.int .i64 a2_0, .int .i64 a2_1, .int .i64 a2_2, .string a2_3, .bool a2_4] 43 (0, 0))) ∧ Aside0 (Below w.heap.size w wc))
         case first =>
          have H := HC51.out
          clear HC51
          by_cases c52 : a1_2 < 0
          ·rw [if_pos c52] at H
           have c52b0 : decide (a1_2 < 0) = true := decide_eq_true c52
           clear c52
           (first | rw [c52b0] | (simp only [i64_w, i32_w]; rw [c52b0]) | skip)
           have H' := Aside0.mk H
           clear H
           have hnb53 := NB119_118.out
           have hnc53 := NB118_119.out
           have hnb54 := NB119_120.out
           have hnc54 := NB120_119.out
           obtain ⟨hcz55_0, hfz55_0⟩ := bc_ BK119.out 0 rfl
           obtain ⟨hcz55_1, hfz55_1⟩ := bc_ BK119.out 1 rfl
           obtain ⟨hcz55_2, hfz55_2⟩ := bc_ BK119.out 2 rfl
           obtain ⟨hcz55_3, hfz55_3⟩ := bc_ BK119.out 3 rfl
           obtain ⟨hcz55_4, hfz55_4⟩ := bc_ BK119.out 4 rfl
           go_wp2
           go_meet
           case rel => exact ⟨_, (true), cl_, H', ⟨by have := HJ3.out; have := HJ18.out; have := HJ31.out; first | omega | exact Nat.le_refl _⟩, ⟨bk_ BK118.out⟩, ⟨bk_ BK119.out⟩, ⟨bk_ BK120.out⟩, ⟨hb_⟩⟩
          ·rw [if_neg c52] at H
           have c52b0 : decide (a1_2 < 0) = false := decide_eq_false c52
           clear c52
           (first | rw [c52b0] | (simp only [i64_w, i32_w]; rw [c52b0]) | skip)
           by_cases c56 : a1_2 > 4
           ·rw [if_pos c56] at H
            have c56b0 : decide (4 < a1_2) = true := decide_eq_true c56
            clear c56
            have H' := Aside0.mk H
            clear H
            have hnb57 := NB119_118.out
            have hnc57 := NB118_119.out
            have hnb58 := NB119_120.out
            have hnc58 := NB120_119.out
            obtain ⟨hcz59_0, hfz59_0⟩ := bc_ BK119.out 0 rfl
            obtain ⟨hcz59_1, hfz59_1⟩ := bc_ BK119.out 1 rfl
            obtain ⟨hcz59_2, hfz59_2⟩ := bc_ BK119.out 2 rfl
            obtain ⟨hcz59_3, hfz59_3⟩ := bc_ BK119.out 3 rfl
            obtain ⟨hcz59_4, hfz59_4⟩ := bc_ BK119.out 4 rfl
            go_wp2
            go_meet
            case rel => exact ⟨_, (true), cl_, H', ⟨by have := HJ3.out; have := HJ18.out; have := HJ31.out; first | omega | exact Nat.le_refl _⟩, ⟨bk_ BK118.out⟩, ⟨bk_ BK119.out⟩, ⟨bk_ BK120.out⟩, ⟨hb_⟩⟩
           ·rw [if_neg c56] at H
            have c56b0 : decide (4 < a1_2) = false := decide_eq_false c56
            clear c56
            by_cases c60 : a1_2 = 0
            ·rw [if_pos c60] at H
             have c60b0 : (a1_2 == 0) = true := beq_iff_eq.mpr c60
             have c60b1 : (a1_2 != 0) = false := bne_eq_false_iff_eq.mpr c60
             clear c60
             have H' := Aside0.mk H
             clear H
             have hnb61 := NB119_118.out
             have hnc61 := NB118_119.out
             have hnb62 := NB119_120.out
             have hnc62 := NB120_119.out
             obtain ⟨hcz63_0, hfz63_0⟩ := bc_ BK119.out 0 rfl
             obtain ⟨hcz63_1, hfz63_1⟩ := bc_ BK119.out 1 rfl
             obtain ⟨hcz63_2, hfz63_2⟩ := bc_ BK119.out 2 rfl
             obtain ⟨hcz63_3, hfz63_3⟩ := bc_ BK119.out 3 rfl
             obtain ⟨hcz63_4, hfz63_4⟩ := bc_ BK119.out 4 rfl
             go_wp2
             go_meet
             case rel => exact ⟨_, (!a1_4), cl_, H', ⟨by have := HJ3.out; have := HJ18.out; have := HJ31.out; first | omega | exact Nat.le_refl _⟩, ⟨bk_ BK118.out⟩, ⟨bk_ BK119.out⟩, ⟨bk_ BK120.out⟩, ⟨hb_⟩⟩
            ·rw [if_neg c60] at H
             have c60b0 : (a1_2 == 0) = false := beq_eq_false_iff_ne.mpr c60
             have c60b1 : (a1_2 != 0) = true := bne_iff_ne.mpr c60
             have H' := Aside0.mk H
             clear H
             have hnb64 := NB119_118.out
             have hnc64 := NB118_119.out
             have hnb65 := NB119_120.out
             have hnc65 := NB120_119.out
             obtain ⟨hcz66_0, hfz66_0⟩ := bc_ BK119.out 0 rfl
             obtain ⟨hcz66_1, hfz66_1⟩ := bc_ BK119.out 1 rfl
             obtain ⟨hcz66_2, hfz66_2⟩ := bc_ BK119.out 2 rfl
             obtain ⟨hcz66_3, hfz66_3⟩ := bc_ BK119.out 3 rfl
             obtain ⟨hcz66_4, hfz66_4⟩ := bc_ BK119.out 4 rfl
             go_wp2
             go_meet
             case rel => exact ⟨_, (false), cl_, H', ⟨by have := HJ3.out; have := HJ18.out; have := HJ31.out; first | omega | exact Nat.le_refl _⟩, ⟨bk_ BK118.out⟩, ⟨bk_ BK119.out⟩, ⟨bk_ BK120.out⟩, ⟨hb_⟩⟩
         case rest =>
          clear HC51
          obtain ⟨kq, x57_50, rfl, HA, HJ50, BK118, BK119, BK120, HB⟩ := hcut
          cases kq with
          | zero => exact absurd HA.out (by simp [zqf.j3])
          | succ kj50 =>
           have H := HA.out
           clear HA
           simp only [zqf.j3] at H
           by_cases c67 : x57_50 = true
           ·subst c67
            have H1 : (some 2) = some r := by rw [if_pos rfl] at H; exact H
            clear H
            have H := H1
            clear H1
            obtain rfl := Option.some.inj H
            go_wp2
            go_ret
            exact ⟨ew_, hb_⟩
           ·replace c67 := Bool.eq_false_iff.mpr c67
            subst c67
            have H1 : (if a1_2 = 4 then ((zql.f kj50 a1_3).bind fun t121 => (if t121 = true then (some 0) else (some 4))) else (if a1_3.toList = ([] : List UInt8) then (some 0) else (some 4))) = some r := by rw [if_neg (show ¬ (false = true) by decide)] at H; exact H
            clear H
            have H := H1
            clear H1
            by_cases c68 : a1_2 = 4
            ·rw [if_pos c68] at H
             have c68b0 : (a1_2 == 4) = true := beq_iff_eq.mpr c68
             have c68b1 : (a1_2 != 4) = false := bne_eq_false_iff_eq.mpr c68
             clear c68
             replace H := Option.bind_eq_some_iff.mp H
             obtain ⟨t121, A690, H⟩ := H
             (try dsimp only at H)
             have A69 := Aside0.mk A690
             clear A690
             by_cases c70 : t121 = true
             ·subst c70
              have H1 : (some 0) = some r := by rw [if_pos rfl] at H; exact H
              clear H
              have H := H1
              clear H1
              obtain rfl := Option.some.inj H
              have hnb71 := NB119_118.out
              have hnc71 := NB118_119.out
              have hnb72 := NB119_120.out
              have hnc72 := NB120_119.out
              obtain ⟨hcz73_0, hfz73_0⟩ := bc_ BK119.out 0 rfl
              obtain ⟨hcz73_1, hfz73_1⟩ := bc_ BK119.out 1 rfl
              obtain ⟨hcz73_2, hfz73_2⟩ := bc_ BK119.out 2 rfl
              obtain ⟨hcz73_3, hfz73_3⟩ := bc_ BK119.out 3 rfl
              obtain ⟨hcz73_4, hfz73_4⟩ := bc_ BK119.out 4 rfl
              go_wp2_with (first | (go_at_call 48; (with_reducible refine (zql.calls kj50 a1_3 true _ A69.out).mono ?_); rintro e w74 ⟨rfl, hb⟩; have n0_ := Aside0.mk (y06 (bk_ BK118.out) hb); have n1_ := Aside0.mk (y06 (bk_ BK119.out) hb); have n2_ := Aside0.mk (y06 (bk_ BK120.out) hb); have n3_ := Aside0.mk (y04 hb_ hb); clear BK118 BK119 BK120 HB; have BK118 := n0_; have BK119 := n1_; have BK120 := n2_; have HB := n3_; clear n0_ n1_ n2_ n3_; clear hb; obtain ⟨hcz75_0, hfz75_0⟩ := bc_ BK119.out 0 rfl; obtain ⟨hcz75_1, hfz75_1⟩ := bc_ BK119.out 1 rfl; obtain ⟨hcz75_2, hfz75_2⟩ := bc_ BK119.out 2 rfl; obtain ⟨hcz75_3, hfz75_3⟩ := bc_ BK119.out 3 rfl; obtain ⟨hcz75_4, hfz75_4⟩ := bc_ BK119.out 4 rfl))
              go_ret
              exact ⟨ew_, hb_⟩
             ·replace c70 := Bool.eq_false_iff.mpr c70
              subst c70
              have H1 : (some 4) = some r := by rw [if_neg (show ¬ (false = true) by decide)] at H; exact H
              clear H
              have H := H1
              clear H1
              obtain rfl := Option.some.inj H
              have hnb76 := NB119_118.out
              have hnc76 := NB118_119.out
              have hnb77 := NB119_120.out
              have hnc77 := NB120_119.out
              obtain ⟨hcz78_0, hfz78_0⟩ := bc_ BK119.out 0 rfl
              obtain ⟨hcz78_1, hfz78_1⟩ := bc_ BK119.out 1 rfl
              obtain ⟨hcz78_2, hfz78_2⟩ := bc_ BK119.out 2 rfl
              obtain ⟨hcz78_3, hfz78_3⟩ := bc_ BK119.out 3 rfl
              obtain ⟨hcz78_4, hfz78_4⟩ := bc_ BK119.out 4 rfl
              go_wp2_with (first | (go_at_call 48; (with_reducible refine (zql.calls kj50 a1_3 false _ A69.out).mono ?_); rintro e w79 ⟨rfl, hb⟩; have n0_ := Aside0.mk (y06 (bk_ BK118.out) hb); have n1_ := Aside0.mk (y06 (bk_ BK119.out) hb); have n2_ := Aside0.mk (y06 (bk_ BK120.out) hb); have n3_ := Aside0.mk (y04 hb_ hb); clear BK118 BK119 BK120 HB; have BK118 := n0_; have BK119 := n1_; have BK120 := n2_; have HB := n3_; clear n0_ n1_ n2_ n3_; clear hb))
              go_ret
              exact ⟨ew_, hb_⟩
            ·rw [if_neg c68] at H
             have c68b0 : (a1_2 == 4) = false := beq_eq_false_iff_ne.mpr c68
             have c68b1 : (a1_2 != 4) = true := bne_iff_ne.mpr c68
             by_cases c80 : a1_3.toList = ([] : List UInt8)
             ·rw [if_pos c80] at H
              have c80b0 : (a1_3.toList == ([] : List UInt8)) = true := beq_iff_eq.mpr c80
              have c80b1 : (a1_3.toList != ([] : List UInt8)) = false := bne_eq_false_iff_eq.mpr c80
              clear c80
              obtain rfl := Option.some.inj H
              have hnb81 := NB119_118.out
              have hnc81 := NB118_119.out
              have hnb82 := NB119_120.out
              have hnc82 := NB120_119.out
              obtain ⟨hcz83_0, hfz83_0⟩ := bc_ BK119.out 0 rfl
              obtain ⟨hcz83_1, hfz83_1⟩ := bc_ BK119.out 1 rfl
              obtain ⟨hcz83_2, hfz83_2⟩ := bc_ BK119.out 2 rfl
              obtain ⟨hcz83_3, hfz83_3⟩ := bc_ BK119.out 3 rfl
              obtain ⟨hcz83_4, hfz83_4⟩ := bc_ BK119.out 4 rfl
              go_wp2
              go_ret
              exact ⟨ew_, hb_⟩
             ·rw [if_neg c80] at H
              have c80b0 : (a1_3.toList == ([] : List UInt8)) = false := beq_eq_false_iff_ne.mpr c80
              have c80b1 : (a1_3.toList != ([] : List UInt8)) = true := bne_iff_ne.mpr c80
              obtain rfl := Option.some.inj H
              have hnb84 := NB119_118.out
              have hnc84 := NB118_119.out
              have hnb85 := NB119_120.out
              have hnc85 := NB120_119.out
              obtain ⟨hcz86_0, hfz86_0⟩ := bc_ BK119.out 0 rfl
              obtain ⟨hcz86_1, hfz86_1⟩ := bc_ BK119.out 1 rfl
              obtain ⟨hcz86_2, hfz86_2⟩ := bc_ BK119.out 2 rfl
              obtain ⟨hcz86_3, hfz86_3⟩ := bc_ BK119.out 3 rfl
              obtain ⟨hcz86_4, hfz86_4⟩ := bc_ BK119.out 4 rfl
              go_wp2
              go_ret
              exact ⟨ew_, hb_⟩
end Go.Proofs.Ytenlmckahaniiaa.K
end
