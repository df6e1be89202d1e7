/- Lemmas for the law ObjectRoundTrip: what its proof needs of this seat's texts, in one place. -/
import Derived.Test.YtenlmckahaniiaaZObjectRoundTrip3
section
namespace Go.Proofs.Ytenlmckahaniiaa.K
open Go.RowKit Go.Proofs.YtenlmckahaniiaaW.PrintWords Go.Proofs.YtenlmckahaniiaaW.PrintLast
set_option linter.unusedVariables false
set_option linter.unusedSimpArgs false
mutual
def object_checkReloc.j0 : Nat → Int → Int → Int → Int → ByteArray → Bool → Int → Int → Int → ByteArray → Bool → Option (Int)
  | 0, _, _, _, _, _, _, _, _, _, _, _ => none
  | k + 1, x7, x120000, x120001, x120002, x120003, x120004, x121000, x121001, x121002, x121003, x121004 => if x120001 < 0 then (object_checkReloc.j1 k true x120000 x120001 x120002 x120003 x120004 x121000 x121001 x121002 x121003 x121004) else (if (Int.tmod x120001 2) = 0 then (object_checkReloc.j1 k (decide (x120001 > (wrap64 (x7 - 2)))) x120000 x120001 x120002 x120003 x120004 x121000 x121001 x121002 x121003 x121004) else (object_checkReloc.j1 k true x120000 x120001 x120002 x120003 x120004 x121000 x121001 x121002 x121003 x121004))
def object_checkReloc.j1 : Nat → Bool → Int → Int → Int → ByteArray → Bool → Int → Int → Int → ByteArray → Bool → Option (Int)
  | 0, _, _, _, _, _, _, _, _, _, _, _ => none
  | k + 1, x20, x120000, x120001, x120002, x120003, x120004, x121000, x121001, x121002, x121003, x121004 => if x20 = true then (some 2) else (if x120000 < x121000 then (object_checkReloc.j2 k true x120000 x120001 x120002 x120003 x120004) else (if x120000 = x121000 then (object_checkReloc.j2 k (decide (x120001 ≤ x121001)) x120000 x120001 x120002 x120003 x120004) else (object_checkReloc.j2 k false x120000 x120001 x120002 x120003 x120004)))
def object_checkReloc.j2 : Nat → Bool → Int → Int → Int → ByteArray → Bool → Option (Int)
  | 0, _, _, _, _, _, _ => none
  | k + 1, x37, x120000, x120001, x120002, x120003, x120004 => if x37 = true then (some 2) else (if x120002 < 0 then (object_checkReloc.j3 k true x120000 x120001 x120002 x120003 x120004) else (if x120002 > 4 then (object_checkReloc.j3 k true x120000 x120001 x120002 x120003 x120004) else (if x120002 = 0 then (object_checkReloc.j3 k (!x120004) x120000 x120001 x120002 x120003 x120004) else (object_checkReloc.j3 k false x120000 x120001 x120002 x120003 x120004))))
def object_checkReloc.j3 : Nat → Bool → Int → Int → Int → ByteArray → Bool → Option (Int)
  | 0, _, _, _, _, _, _ => none
  | k + 1, x57, x120000, x120001, x120002, x120003, x120004 => if x57 = true then (some 2) else (if x120002 = 4 then ((object_isName.f k x120003).bind fun t121 => (if t121 = true then (some 0) else (some 4))) else (if x120003.toList = ([] : List UInt8) then (some 0) else (some 4)))
end
def object_checkReloc.f (k : Nat) (a0_0 : ByteArray) (a0_1 : ByteArray) (a0_2 : ByteArray) (a0_3 : Int) (l0_4 : List (S62)) (l0_5 : List (S43)) (a1_0 : Int) (a1_1 : Int) (a1_2 : Int) (a1_3 : ByteArray) (a1_4 : Bool) (a2_0 : Int) (a2_1 : Int) (a2_2 : Int) (a2_3 : ByteArray) (a2_4 : Bool) : Option (Int) := if a1_0 = 1 then (object_checkReloc.j0 k (a0_1.size : Int) a1_0 a1_1 a1_2 a1_3 a1_4 a2_0 a2_1 a2_2 a2_3 a2_4) else (if a1_0 = 2 then (object_checkReloc.j0 k (a0_2.size : Int) a1_0 a1_1 a1_2 a1_3 a1_4 a2_0 a2_1 a2_2 a2_3 a2_4) else (some 2))
theorem object_checkReloc.mono_l : ∀ k, (∀ y0 y1 y2 y3 y4 y5 y6 y7 y8 y9 y10, LeO (object_checkReloc.j0 k y0 y1 y2 y3 y4 y5 y6 y7 y8 y9 y10) (object_checkReloc.j0 (k + 1) y0 y1 y2 y3 y4 y5 y6 y7 y8 y9 y10)) ∧ (∀ y0 y1 y2 y3 y4 y5 y6 y7 y8 y9 y10, LeO (object_checkReloc.j1 k y0 y1 y2 y3 y4 y5 y6 y7 y8 y9 y10) (object_checkReloc.j1 (k + 1) y0 y1 y2 y3 y4 y5 y6 y7 y8 y9 y10)) ∧ (∀ y0 y1 y2 y3 y4 y5, LeO (object_checkReloc.j2 k y0 y1 y2 y3 y4 y5) (object_checkReloc.j2 (k + 1) y0 y1 y2 y3 y4 y5)) ∧ (∀ y0 y1 y2 y3 y4 y5, LeO (object_checkReloc.j3 k y0 y1 y2 y3 y4 y5) (object_checkReloc.j3 (k + 1) y0 y1 y2 y3 y4 y5))
 | 0 => ⟨fun _ _ _ _ _ _ _ _ _ _ _ r h => by simp [object_checkReloc.j0] at h, fun _ _ _ _ _ _ _ _ _ _ _ r h => by simp [object_checkReloc.j1] at h, fun _ _ _ _ _ _ r h => by simp [object_checkReloc.j2] at h, fun _ _ _ _ _ _ r h => by simp [object_checkReloc.j3] at h⟩
 | k + 1 => by
  obtain ⟨ih0, ih1, ih2, ih3⟩ := object_checkReloc.mono_l k
  refine ⟨?_, ?_, ?_, ?_⟩
  ·intro y0 y1 y2 y3 y4 y5 y6 y7 y8 y9 y10
   unfold object_checkReloc.j0
   repeat' first
   | (with_reducible exact ih0 _ _ _ _ _ _ _ _ _ _ _)
   | (with_reducible exact ih1 _ _ _ _ _ _ _ _ _ _ _)
   | (with_reducible exact ih2 _ _ _ _ _ _)
   | (with_reducible exact ih3 _ _ _ _ _ _)
   | (with_reducible exact object_isName.mono _ _)
   | (with_reducible exact LeO.refl _)
   | (with_reducible exact LeO.none _)
   | (with_reducible refine LeO.ite ?_ ?_)
   | (with_reducible refine LeO.bind ?_ (fun _ => ?_))
   | exact ih0 _ _ _ _ _ _ _ _ _ _ _
   | exact ih1 _ _ _ _ _ _ _ _ _ _ _
   | exact ih2 _ _ _ _ _ _
   | exact ih3 _ _ _ _ _ _
   | exact object_isName.mono _ _
   | exact LeO.none _
   | refine LeO.ite ?_ ?_
   | refine LeO.bind ?_ (fun _ => ?_)
  ·intro y0 y1 y2 y3 y4 y5 y6 y7 y8 y9 y10
   unfold object_checkReloc.j1
   repeat' first
   | (with_reducible exact ih0 _ _ _ _ _ _ _ _ _ _ _)
   | (with_reducible exact ih1 _ _ _ _ _ _ _ _ _ _ _)
   | (with_reducible exact ih2 _ _ _ _ _ _)
   | (with_reducible exact ih3 _ _ _ _ _ _)
   | (with_reducible exact object_isName.mono _ _)
   | (with_reducible exact LeO.refl _)
   | (with_reducible exact LeO.none _)
   | (with_reducible refine LeO.ite ?_ ?_)
   | (with_reducible refine LeO.bind ?_ (fun _ => ?_))
   | exact ih0 _ _ _ _ _ _ _ _ _ _ _
   | exact ih1 _ _ _ _ _ _ _ _ _ _ _
   | exact ih2 _ _ _ _ _ _
   | exact ih3 _ _ _ _ _ _
   | exact object_isName.mono _ _
   | exact LeO.none _
   | refine LeO.ite ?_ ?_
   | refine LeO.bind ?_ (fun _ => ?_)
  ·intro y0 y1 y2 y3 y4 y5
   unfold object_checkReloc.j2
   repeat' first
   | (with_reducible exact ih0 _ _ _ _ _ _ _ _ _ _ _)
   | (with_reducible exact ih1 _ _ _ _ _ _ _ _ _ _ _)
   | (with_reducible exact ih2 _ _ _ _ _ _)
   | (with_reducible exact ih3 _ _ _ _ _ _)
   | (with_reducible exact object_isName.mono _ _)
   | (with_reducible exact LeO.refl _)
   | (with_reducible exact LeO.none _)
   | (with_reducible refine LeO.ite ?_ ?_)
   | (with_reducible refine LeO.bind ?_ (fun _ => ?_))
   | exact ih0 _ _ _ _ _ _ _ _ _ _ _
   | exact ih1 _ _ _ _ _ _ _ _ _ _ _
   | exact ih2 _ _ _ _ _ _
   | exact ih3 _ _ _ _ _ _
   | exact object_isName.mono _ _
   | exact LeO.none _
   | refine LeO.ite ?_ ?_
   | refine LeO.bind ?_ (fun _ => ?_)
  ·intro y0 y1 y2 y3 y4 y5
   unfold object_checkReloc.j3
   repeat' first
   | (with_reducible exact ih0 _ _ _ _ _ _ _ _ _ _ _)
   | (with_reducible exact ih1 _ _ _ _ _ _ _ _ _ _ _)
   | (with_reducible exact ih2 _ _ _ _ _ _)
   | (with_reducible exact ih3 _ _ _ _ _ _)
   | (with_reducible exact object_isName.mono _ _)
   | (with_reducible exact LeO.refl _)
   | (with_reducible exact LeO.none _)
   | (with_reducible refine LeO.ite ?_ ?_)
   | (with_reducible refine LeO.bind ?_ (fun _ => ?_))
   | exact ih0 _ _ _ _ _ _ _ _ _ _ _
   | exact ih1 _ _ _ _ _ _ _ _ _ _ _
   | exact ih2 _ _ _ _ _ _
   | exact ih3 _ _ _ _ _ _
   | exact object_isName.mono _ _
   | exact LeO.none _
   | refine LeO.ite ?_ ?_
   | refine LeO.bind ?_ (fun _ => ?_)
theorem object_checkReloc.mono : ∀ a0 a1 a2 a3 a4 a5 a6 a7 a8 a9 a10 a11 a12 a13 a14 a15 k, LeO (object_checkReloc.f k a0 a1 a2 a3 a4 a5 a6 a7 a8 a9 a10 a11 a12 a13 a14 a15) (object_checkReloc.f (k + 1) a0 a1 a2 a3 a4 a5 a6 a7 a8 a9 a10 a11 a12 a13 a14 a15) := by
 intro a0 a1 a2 a3 a4 a5 a6 a7 a8 a9 a10 a11 a12 a13 a14 a15 k
 obtain ⟨ih0, ih1, ih2, ih3⟩ := object_checkReloc.mono_l k
 unfold object_checkReloc.f
 repeat' first
   | (with_reducible exact ih0 _ _ _ _ _ _ _ _ _ _ _)
   | (with_reducible exact ih1 _ _ _ _ _ _ _ _ _ _ _)
   | (with_reducible exact ih2 _ _ _ _ _ _)
   | (with_reducible exact ih3 _ _ _ _ _ _)
   | (with_reducible exact object_isName.mono _ _)
   | (with_reducible exact LeO.refl _)
   | (with_reducible exact LeO.none _)
   | (with_reducible refine LeO.ite ?_ ?_)
   | (with_reducible refine LeO.bind ?_ (fun _ => ?_))
   | exact ih0 _ _ _ _ _ _ _ _ _ _ _
   | exact ih1 _ _ _ _ _ _ _ _ _ _ _
   | exact ih2 _ _ _ _ _ _
   | exact ih3 _ _ _ _ _ _
   | exact object_isName.mono _ _
   | exact LeO.none _
   | refine LeO.ite ?_ ?_
   | refine LeO.bind ?_ (fun _ => ?_)
set_option maxHeartbeats 8000000 in
set_option maxRecDepth 100000 in
theorem object_checkReloc.calls (k : Nat) (a0_0 : ByteArray) (a0_1 : ByteArray) (a0_2 : ByteArray) (a0_3 : Int) (A0_4 : Option Addr) (c0_4 : Nat) (l0_4 : List (S62)) (A0_5 : Option Addr) (c0_5 : Nat) (l0_5 : List (S43)) (a1_0 : Int) (a1_1 : Int) (a1_2 : Int) (a1_3 : ByteArray) (a1_4 : Bool) (a2_0 : Int) (a2_1 : Int) (a2_2 : Int) (a2_3 : ByteArray) (a2_4 : Bool) (r : Int) (w : World) (hr0_4 : Kd.C k62 w A0_4 l0_4.length l0_4) (hc0_4 : l0_4.length ≤ c0_4) (hr0_5 : Kd.C k43 w A0_5 l0_5.length l0_5) (hc0_5 : l0_5.length ≤ c0_5) (h : object_checkReloc.f k a0_0 a0_1 a0_2 a0_3 l0_4 l0_5 a1_0 a1_1 a1_2 a1_3 a1_4 a2_0 a2_1 a2_2 a2_3 a2_4 = some r) :
  Calls Try.prog 50 #[.agg #[.string a0_0, .string a0_1, .string a0_2, .int .i64 a0_3, .slice A0_4 l0_4.length c0_4, .slice A0_5 l0_5.length c0_5], .agg #[.int .i64 a1_0, .int .i64 a1_1, .int .i64 a1_2, .string a1_3, .bool a1_4], .agg #[.int .i64 a2_0, .int .i64 a2_1, .int .i64 a2_2, .string a2_3, .bool a2_4]] w fun e w' => e = .returned (.int .i64 r) ∧ Below w.heap.size w w' := by
 have hu25 := Try.underlying25
 have hu43 := Try.underlying43
 have HR0_4 := Aside0.mk hr0_4
 have HC0_4 := Aside0.mk hc0_4
 clear hr0_4 hc0_4
 have HR0_5 := Aside0.mk hr0_5
 have HC0_5 := Aside0.mk hc0_5
 clear hr0_5 hc0_5
 have HB := Aside0.mk (Below.refl w.heap.size w)
 have H : (if a1_0 = 1 then (object_checkReloc.j0 k (a0_1.size : Int) a1_0 a1_1 a1_2 a1_3 a1_4 a2_0 a2_1 a2_2 a2_3 a2_4) else (if a1_0 = 2 then (object_checkReloc.j0 k (a0_2.size : Int) a1_0 a1_1 a1_2 a1_3 a1_4 a2_0 a2_1 a2_2 a2_3 a2_4) else (some 2))) = some r := h
 clear h
 have HC4 := Aside0.mk H
 clear H
 go_enter Try.func50, Try.ntmps50
 go_upto_block 0 with (first | ((with_reducible refine gate_dst (N := 3) rfl ?_); refine box_event ?hg (N := 3) ?hd (cs := #[.string a0_0, .string a0_1, .string a0_2, .int .i64 a0_3, .slice A0_4 l0_4.length c0_4, .slice A0_5 l0_5.length c0_5]) (t := 25) ?hr ?_; (case hd => rfl); (case hg => rfl); (case hr => first | (go_simp; done) | (go_simp; rfl)); intro gb118 hg w5 hbox hb; have n0_ := Aside0.mk (below_step hb_ hb); have n1_ := Aside0.mk (hbox); have n2_ := Aside0.mk ((by rw [hg]; exact (below_size hb_) : w.heap.size ≤ gb118)); have n3_ := Aside0.mk ((by rw [hg]; exact (below_size hb_) : w.heap.size ≤ gb118)); clear HB; have HB := n0_; have BK118 := n1_; have GW118 := n2_; have GE118 := n3_; clear n0_ n1_ n2_ n3_; clear hb hbox hg) | ((with_reducible refine gate_dst (N := 4) rfl ?_); refine box_event ?hg (N := 4) ?hd (cs := #[.int .i64 a1_0, .int .i64 a1_1, .int .i64 a1_2, .string a1_3, .bool a1_4]) (t := 43) ?hr ?_; (case hd => rfl); (case hg => rfl); (case hr => first | (go_simp; done) | (go_simp; rfl)); intro gb119 hg w6 hbox hb; have n0_ := Aside0.mk (blk_below (g := gb118) (o := .cells #[.string a0_0, .string a0_1, .string a0_2, .int .i64 a0_3, .slice A0_4 l0_4.length c0_4, .slice A0_5 l0_5.length c0_5] 25 (0, 0)) (bk_ BK118.out) hb); have n1_ := Aside0.mk (below_step hb_ hb); have n2_ := Aside0.mk (hbox); have n3_ := Aside0.mk ((by rw [hg]; exact (below_size hb_) : w.heap.size ≤ gb119)); have n4_ := Aside0.mk ((by rw [hg]; exact (below_size hb_) : w.heap.size ≤ gb119)); have n5_ := Aside0.mk ((by rw [hg]; exact Nat.ne_of_lt (blk_lt (g := gb118) (o := .cells #[.string a0_0, .string a0_1, .string a0_2, .int .i64 a0_3, .slice A0_4 l0_4.length c0_4, .slice A0_5 l0_5.length c0_5] 25 (0, 0)) (bk_ BK118.out)) : gb118 ≠ gb119)); have n6_ := Aside0.mk ((by rw [hg]; exact Nat.ne_of_gt (blk_lt (g := gb118) (o := .cells #[.string a0_0, .string a0_1, .string a0_2, .int .i64 a0_3, .slice A0_4 l0_4.length c0_4, .slice A0_5 l0_5.length c0_5] 25 (0, 0)) (bk_ BK118.out)) : gb119 ≠ gb118)); clear BK118 HB; have BK118 := n0_; have HB := n1_; have BK119 := n2_; have GW119 := n3_; have GE119 := n4_; have NB118_119 := n5_; have NB119_118 := n6_; clear n0_ n1_ n2_ n3_ n4_ n5_ n6_; clear hb hbox hg) | ((with_reducible refine gate_dst (N := 5) rfl ?_); refine box_event ?hg (N := 5) ?hd (cs := #[.int .i64 a2_0, .int .i64 a2_1, .int .i64 a2_2, .string a2_3, .bool a2_4]) (t := 43) ?hr ?_; (case hd => rfl); (case hg => rfl); (case hr => first | (go_simp; done) | (go_simp; rfl)); intro gb120 hg w7 hbox hb; have n0_ := Aside0.mk (blk_below (g := gb118) (o := .cells #[.string a0_0, .string a0_1, .string a0_2, .int .i64 a0_3, .slice A0_4 l0_4.length c0_4, .slice A0_5 l0_5.length c0_5] 25 (0, 0)) (bk_ BK118.out) hb); have n1_ := Aside0.mk (blk_below (g := gb119) (o := .cells #[.int .i64 a1_0, .int .i64 a1_1, .int .i64 a1_2, .string a1_3, .bool a1_4] 43 (0, 0)) (bk_ BK119.out) hb); have n2_ := Aside0.mk (below_step hb_ hb); have n3_ := Aside0.mk (hbox); have n4_ := Aside0.mk ((by rw [hg]; exact (below_size hb_) : w.heap.size ≤ gb120)); have n5_ := Aside0.mk ((by rw [hg]; exact (below_size hb_) : w.heap.size ≤ gb120)); have n6_ := Aside0.mk ((by rw [hg]; exact Nat.ne_of_lt (blk_lt (g := gb118) (o := .cells #[.string a0_0, .string a0_1, .string a0_2, .int .i64 a0_3, .slice A0_4 l0_4.length c0_4, .slice A0_5 l0_5.length c0_5] 25 (0, 0)) (bk_ BK118.out)) : gb118 ≠ gb120)); have n7_ := Aside0.mk ((by rw [hg]; exact Nat.ne_of_gt (blk_lt (g := gb118) (o := .cells #[.string a0_0, .string a0_1, .string a0_2, .int .i64 a0_3, .slice A0_4 l0_4.length c0_4, .slice A0_5 l0_5.length c0_5] 25 (0, 0)) (bk_ BK118.out)) : gb120 ≠ gb118)); have n8_ := Aside0.mk ((by rw [hg]; exact Nat.ne_of_lt (blk_lt (g := gb119) (o := .cells #[.int .i64 a1_0, .int .i64 a1_1, .int .i64 a1_2, .string a1_3, .bool a1_4] 43 (0, 0)) (bk_ BK119.out)) : gb119 ≠ gb120)); have n9_ := Aside0.mk ((by rw [hg]; exact Nat.ne_of_gt (blk_lt (g := gb119) (o := .cells #[.int .i64 a1_0, .int .i64 a1_1, .int .i64 a1_2, .string a1_3, .bool a1_4] 43 (0, 0)) (bk_ BK119.out)) : gb120 ≠ gb119)); clear BK118 BK119 HB; have BK118 := n0_; have BK119 := n1_; have HB := n2_; have BK120 := n3_; have GW120 := n4_; have GE120 := n5_; have NB118_120 := n6_; have NB120_118 := n7_; have NB119_120 := n8_; have NB120_119 := n9_; clear n0_ n1_ n2_ n3_ n4_ n5_ n6_ n7_ n8_ n9_; clear hb hbox hg; have hnb8 := NB119_118.out; have hnc8 := NB118_119.out; have hnb9 := NB119_120.out; have hnc9 := NB120_119.out; have hcz10_0 : w7.cell? ⟨gb119, 0, none⟩ = some (.int .i64 a1_0) := (blk_cell BK119.out 0).trans rfl; have hcz10_1 : w7.cell? ⟨gb119, 1, none⟩ = some (.int .i64 a1_1) := (blk_cell BK119.out 1).trans rfl; have hcz10_2 : w7.cell? ⟨gb119, 2, none⟩ = some (.int .i64 a1_2) := (blk_cell BK119.out 2).trans rfl; have hcz10_3 : w7.cell? ⟨gb119, 3, none⟩ = some (.string a1_3) := (blk_cell BK119.out 3).trans rfl; have hcz10_4 : w7.cell? ⟨gb119, 4, none⟩ = some (.bool a1_4) := (blk_cell BK119.out 4).trans rfl; have hfz10_0 := blk_frozen BK119.out 0; have hfz10_1 := blk_frozen BK119.out 1; have hfz10_2 := blk_frozen BK119.out 2; have hfz10_3 := blk_frozen BK119.out 3; have hfz10_4 := blk_frozen BK119.out 4))
 (try simp only [Act.put, List.setIfInBounds_toArray, List.set_cons_zero, List.set_cons_succ])
 go_cut [7] (fun v7 wc => ∃ (kq : Nat) (x7_3 : Int), v7 = .int .i64 x7_3 ∧ Aside0 (object_checkReloc.j0 kq x7_3 a1_0 a1_1 a1_2 a1_3 a1_4 a2_0 a2_1 a2_2 a2_3 a2_4 = some r) ∧ Aside0 (kq ≤ k) ∧ Aside0 (wc.heap[gb118]? = some (.cells #[.string a0_0, .string a0_1, .string a0_2, .int .i64 a0_3, (.slice A0_4 l0_4.length c0_4), (.slice A0_5 l0_5.length c0_5)] 25 (0, 0))) ∧ Aside0 (wc.heap[gb119]? = some (.cells #[.int .i64 a1_0, .int .i64 a1_1, .int .i64 a1_2, .string a1_3, .bool a1_4] 43 (0, 0))) ∧ Aside0 (wc.heap[gb120]? = some (.cells #[.int .i64 a2_0, .int .i64 a2_1, .int .i64 a2_2, .string a2_3, .bool a2_4] 43 (0, 0))) ∧ Aside0 (Below w.heap.size w wc))
 case first =>
  have H := HC4.out
  clear HC4
  by_cases c11 : a1_0 = 1
  ·rw [if_pos c11] at H
   have c11b0 : (a1_0 == 1) = true := beq_iff_eq.mpr c11
   have c11b1 : (a1_0 != 1) = false := bne_eq_false_iff_eq.mpr c11
   clear c11
   (first | rw [c11b0] | (simp only [i64_w, i32_w]; rw [c11b0]) | skip)
   have H' := Aside0.mk H
   clear H
   have hnb12 := NB118_119.out
   have hnc12 := NB119_118.out
   have hnb13 := NB118_120.out
   have hnc13 := NB120_118.out
   have hcz14_0 : w7.cell? ⟨gb118, 0, none⟩ = some (.string a0_0) := (blk_cell BK118.out 0).trans rfl
   have hcz14_1 : w7.cell? ⟨gb118, 1, none⟩ = some (.string a0_1) := (blk_cell BK118.out 1).trans rfl
   have hcz14_2 : w7.cell? ⟨gb118, 2, none⟩ = some (.string a0_2) := (blk_cell BK118.out 2).trans rfl
   have hcz14_3 : w7.cell? ⟨gb118, 3, none⟩ = some (.int .i64 a0_3) := (blk_cell BK118.out 3).trans rfl
   have hcz14_4 : w7.cell? ⟨gb118, 4, none⟩ = some (.slice A0_4 l0_4.length c0_4) := (blk_cell BK118.out 4).trans rfl
   have hcz14_5 : w7.cell? ⟨gb118, 5, none⟩ = some (.slice A0_5 l0_5.length c0_5) := (blk_cell BK118.out 5).trans rfl
   have hfz14_0 := blk_frozen BK118.out 0
   have hfz14_1 := blk_frozen BK118.out 1
   have hfz14_2 := blk_frozen BK118.out 2
   have hfz14_3 := blk_frozen BK118.out 3
   have hfz14_4 := blk_frozen BK118.out 4
   have hfz14_5 := blk_frozen BK118.out 5
   go_wp2
   go_meet
   case rel => exact ⟨_, ((a0_1.size : Int)), cl_, H', ⟨by first | omega | exact Nat.le_refl _⟩, ⟨bk_ BK118.out⟩, ⟨bk_ BK119.out⟩, ⟨bk_ BK120.out⟩, ⟨hb_⟩⟩
  ·rw [if_neg c11] at H
   have c11b0 : (a1_0 == 1) = false := beq_eq_false_iff_ne.mpr c11
   have c11b1 : (a1_0 != 1) = true := bne_iff_ne.mpr c11
   (first | rw [c11b0] | (simp only [i64_w, i32_w]; rw [c11b0]) | skip)
   by_cases c15 : a1_0 = 2
   ·rw [if_pos c15] at H
    have c15b0 : (a1_0 == 2) = true := beq_iff_eq.mpr c15
    have c15b1 : (a1_0 != 2) = false := bne_eq_false_iff_eq.mpr c15
    clear c15
    have H' := Aside0.mk H
    clear H
    have hnb16 := NB118_119.out
    have hnc16 := NB119_118.out
    have hnb17 := NB118_120.out
    have hnc17 := NB120_118.out
    have hcz18_0 : w7.cell? ⟨gb118, 0, none⟩ = some (.string a0_0) := (blk_cell BK118.out 0).trans rfl
    have hcz18_1 : w7.cell? ⟨gb118, 1, none⟩ = some (.string a0_1) := (blk_cell BK118.out 1).trans rfl
    have hcz18_2 : w7.cell? ⟨gb118, 2, none⟩ = some (.string a0_2) := (blk_cell BK118.out 2).trans rfl
    have hcz18_3 : w7.cell? ⟨gb118, 3, none⟩ = some (.int .i64 a0_3) := (blk_cell BK118.out 3).trans rfl
    have hcz18_4 : w7.cell? ⟨gb118, 4, none⟩ = some (.slice A0_4 l0_4.length c0_4) := (blk_cell BK118.out 4).trans rfl
    have hcz18_5 : w7.cell? ⟨gb118, 5, none⟩ = some (.slice A0_5 l0_5.length c0_5) := (blk_cell BK118.out 5).trans rfl
    have hfz18_0 := blk_frozen BK118.out 0
    have hfz18_1 := blk_frozen BK118.out 1
    have hfz18_2 := blk_frozen BK118.out 2
    have hfz18_3 := blk_frozen BK118.out 3
    have hfz18_4 := blk_frozen BK118.out 4
    have hfz18_5 := blk_frozen BK118.out 5
    go_wp2
    go_meet
    case rel => exact ⟨_, ((a0_2.size : Int)), cl_, H', ⟨by first | omega | exact Nat.le_refl _⟩, ⟨bk_ BK118.out⟩, ⟨bk_ BK119.out⟩, ⟨bk_ BK120.out⟩, ⟨hb_⟩⟩
   ·rw [if_neg c15] at H
    have c15b0 : (a1_0 == 2) = false := beq_eq_false_iff_ne.mpr c15
    have c15b1 : (a1_0 != 2) = true := bne_iff_ne.mpr c15
    obtain rfl := Option.some.inj H
    go_wp2
    go_ret
    exact ⟨ew_, hb_⟩
 case rest =>
  clear HC4
  (try clear c1); (try clear p2); (try clear c5); (try clear c8); (try clear c9); (try clear c11); (try clear c11b0); (try clear c11b1); (try clear c12); (try clear c13); (try clear c15); (try clear c15b0); (try clear c15b1); (try clear c16); (try clear c17); (try clear hcz10_0); (try clear hcz10_1); (try clear hcz10_2); (try clear hcz10_3); (try clear hcz10_4); (try clear hcz14_0); (try clear hcz14_1); (try clear hcz14_2); (try clear hcz14_3); (try clear hcz14_4); (try clear hcz14_5); (try clear hcz18_0); (try clear hcz18_1); (try clear hcz18_2); (try clear hcz18_3); (try clear hcz18_4); (try clear hcz18_5); (try clear hfz10_0); (try clear hfz10_1); (try clear hfz10_2); (try clear hfz10_3); (try clear hfz10_4); (try clear hfz14_0); (try clear hfz14_1); (try clear hfz14_2); (try clear hfz14_3); (try clear hfz14_4); (try clear hfz14_5); (try clear hfz18_0); (try clear hfz18_1); (try clear hfz18_2); (try clear hfz18_3); (try clear hfz18_4); (try clear hfz18_5)
  obtain ⟨kq, x7_3, rfl, HA, HJ3, BK118, BK119, BK120, HB⟩ := hcut
  cases kq with
  | zero => exact absurd HA.out (by simp [object_checkReloc.j0])
  | succ kj3 =>
   have H := HA.out
   clear HA
   simp only [object_checkReloc.j0] at H
   have HC19 := Aside0.mk H
   clear H
   go_upto_region 8 with (fail)
   go_cut [20] (fun v20 wc => ∃ (kq : Nat) (x20_18 : Bool), v20 = .bool x20_18 ∧ Aside0 (object_checkReloc.j1 kq x20_18 a1_0 a1_1 a1_2 a1_3 a1_4 a2_0 a2_1 a2_2 a2_3 a2_4 = some r) ∧ Aside0 (kq ≤ kj3) ∧ Aside0 (wc.heap[gb118]? = some (.cells #[.string a0_0, .string a0_1, .string a0_2, .int .i64 a0_3, (.slice A0_4 l0_4.length c0_4), (.slice A0_5 l0_5.length c0_5)] 25 (0, 0))) ∧ Aside0 (wc.heap[gb119]? = some (.cells #[.int .i64 a1_0, .int .i64 a1_1, .int .i64 a1_2, .string a1_3, .bool a1_4] 43 (0, 0))) ∧ Aside0 (wc.heap[gb120]? = some (.cells #[.int .i64 a2_0, .int .i64 a2_1, .int .i64 a2_2, .string a2_3, .bool a2_4] 43 (0, 0))) ∧ Aside0 (Below w.heap.size w wc))
   case first =>
    have H := HC19.out
    clear HC19
    by_cases c20 : a1_1 < 0
    ·rw [if_pos c20] at H
     have c20b0 : decide (a1_1 < 0) = true := decide_eq_true c20
     clear c20
     (first | rw [c20b0] | (simp only [i64_w, i32_w]; rw [c20b0]) | skip)
     have H' := Aside0.mk H
     clear H
     have hnb21 := NB119_118.out
     have hnc21 := NB118_119.out
     have hnb22 := NB119_120.out
     have hnc22 := NB120_119.out
     have hcz23_0 : wc.cell? ⟨gb119, 0, none⟩ = some (.int .i64 a1_0) := (blk_cell BK119.out 0).trans rfl
     have hcz23_1 : wc.cell? ⟨gb119, 1, none⟩ = some (.int .i64 a1_1) := (blk_cell BK119.out 1).trans rfl
     have hcz23_2 : wc.cell? ⟨gb119, 2, none⟩ = some (.int .i64 a1_2) := (blk_cell BK119.out 2).trans rfl
     have hcz23_3 : wc.cell? ⟨gb119, 3, none⟩ = some (.string a1_3) := (blk_cell BK119.out 3).trans rfl
     have hcz23_4 : wc.cell? ⟨gb119, 4, none⟩ = some (.bool a1_4) := (blk_cell BK119.out 4).trans rfl
     have hfz23_0 := blk_frozen BK119.out 0
     have hfz23_1 := blk_frozen BK119.out 1
     have hfz23_2 := blk_frozen BK119.out 2
     have hfz23_3 := blk_frozen BK119.out 3
     have hfz23_4 := blk_frozen BK119.out 4
     go_wp2
     go_meet
     case rel => exact ⟨_, (true), cl_, H', ⟨by have := HJ3.out; first | omega | exact Nat.le_refl _⟩, ⟨bk_ BK118.out⟩, ⟨bk_ BK119.out⟩, ⟨bk_ BK120.out⟩, ⟨hb_⟩⟩
    ·rw [if_neg c20] at H
     have c20b0 : decide (a1_1 < 0) = false := decide_eq_false c20
     clear c20
     (first | rw [c20b0] | (simp only [i64_w, i32_w]; rw [c20b0]) | skip)
     by_cases c24 : (Int.tmod a1_1 2) = 0
     ·rw [if_pos c24] at H
      have c24b0 : ((Int.tmod a1_1 2) == 0) = true := beq_iff_eq.mpr c24
      have c24b1 : ((Int.tmod a1_1 2) != 0) = false := bne_eq_false_iff_eq.mpr c24
      clear c24
      have H' := Aside0.mk H
      clear H
      have hnb25 := NB119_118.out
      have hnc25 := NB118_119.out
      have hnb26 := NB119_120.out
      have hnc26 := NB120_119.out
      have hcz27_0 : wc.cell? ⟨gb119, 0, none⟩ = some (.int .i64 a1_0) := (blk_cell BK119.out 0).trans rfl
      have hcz27_1 : wc.cell? ⟨gb119, 1, none⟩ = some (.int .i64 a1_1) := (blk_cell BK119.out 1).trans rfl
      have hcz27_2 : wc.cell? ⟨gb119, 2, none⟩ = some (.int .i64 a1_2) := (blk_cell BK119.out 2).trans rfl
      have hcz27_3 : wc.cell? ⟨gb119, 3, none⟩ = some (.string a1_3) := (blk_cell BK119.out 3).trans rfl
      have hcz27_4 : wc.cell? ⟨gb119, 4, none⟩ = some (.bool a1_4) := (blk_cell BK119.out 4).trans rfl
      have hfz27_0 := blk_frozen BK119.out 0
      have hfz27_1 := blk_frozen BK119.out 1
      have hfz27_2 := blk_frozen BK119.out 2
      have hfz27_3 := blk_frozen BK119.out 3
      have hfz27_4 := blk_frozen BK119.out 4
      go_wp2
      go_meet
      case rel => exact ⟨_, (decide (a1_1 > (wrap64 (x7_3 - 2)))), cl_, H', ⟨by have := HJ3.out; first | omega | exact Nat.le_refl _⟩, ⟨bk_ BK118.out⟩, ⟨bk_ BK119.out⟩, ⟨bk_ BK120.out⟩, ⟨hb_⟩⟩
     ·rw [if_neg c24] at H
      have c24b0 : ((Int.tmod a1_1 2) == 0) = false := beq_eq_false_iff_ne.mpr c24
      have c24b1 : ((Int.tmod a1_1 2) != 0) = true := bne_iff_ne.mpr c24
      have H' := Aside0.mk H
      clear H
      have hnb28 := NB119_118.out
      have hnc28 := NB118_119.out
      have hnb29 := NB119_120.out
      have hnc29 := NB120_119.out
      have hcz30_0 : wc.cell? ⟨gb119, 0, none⟩ = some (.int .i64 a1_0) := (blk_cell BK119.out 0).trans rfl
      have hcz30_1 : wc.cell? ⟨gb119, 1, none⟩ = some (.int .i64 a1_1) := (blk_cell BK119.out 1).trans rfl
      have hcz30_2 : wc.cell? ⟨gb119, 2, none⟩ = some (.int .i64 a1_2) := (blk_cell BK119.out 2).trans rfl
      have hcz30_3 : wc.cell? ⟨gb119, 3, none⟩ = some (.string a1_3) := (blk_cell BK119.out 3).trans rfl
      have hcz30_4 : wc.cell? ⟨gb119, 4, none⟩ = some (.bool a1_4) := (blk_cell BK119.out 4).trans rfl
      have hfz30_0 := blk_frozen BK119.out 0
      have hfz30_1 := blk_frozen BK119.out 1
      have hfz30_2 := blk_frozen BK119.out 2
      have hfz30_3 := blk_frozen BK119.out 3
      have hfz30_4 := blk_frozen BK119.out 4
      go_wp2
      go_meet
      case rel => exact ⟨_, (true), cl_, H', ⟨by have := HJ3.out; first | omega | exact Nat.le_refl _⟩, ⟨bk_ BK118.out⟩, ⟨bk_ BK119.out⟩, ⟨bk_ BK120.out⟩, ⟨hb_⟩⟩
   case rest =>
    clear HC19
    (try clear c1); (try clear c2); (try clear p2); (try clear c5); (try clear p6); (try clear c8); (try clear c9); (try clear c11); (try clear c11b0); (try clear c11b1); (try clear c12); (try clear c13); (try clear c15); (try clear c15b0); (try clear c15b1); (try clear c16); (try clear c17); (try clear c20); (try clear c20b0); (try clear c21); (try clear c22); (try clear c24); (try clear c24b0); (try clear c24b1); (try clear c25); (try clear c26); (try clear c28); (try clear c29); (try clear hcz10_0); (try clear hcz10_1); (try clear hcz10_2); (try clear hcz10_3); (try clear hcz10_4); (try clear hcz14_0); (try clear hcz14_1); (try clear hcz14_2); (try clear hcz14_3); (try clear hcz14_4); (try clear hcz14_5); (try clear hcz18_0); (try clear hcz18_1); (try clear hcz18_2); (try clear hcz18_3); (try clear hcz18_4); (try clear hcz18_5); (try clear hcz23_0); (try clear hcz23_1); (try clear hcz23_2); (try clear hcz23_3); (try clear hcz23_4); (try clear hcz27_0); (try clear hcz27_1); (try clear hcz27_2); (try clear hcz27_3); (try clear hcz27_4); (try clear hcz30_0); (try clear hcz30_1); (try clear hcz30_2); (try clear hcz30_3); (try clear hcz30_4); (try clear hfz10_0); (try clear hfz10_1); (try clear hfz10_2); (try clear hfz10_3); (try clear hfz10_4); (try clear hfz14_0); (try clear hfz14_1); (try clear hfz14_2); (try clear hfz14_3); (try clear hfz14_4); (try clear hfz14_5); (try clear hfz18_0); (try clear hfz18_1); (try clear hfz18_2); (try clear hfz18_3); (try clear hfz18_4); (try clear hfz18_5); (try clear hfz23_0); (try clear hfz23_1); (try clear hfz23_2); (try clear hfz23_3); (try clear hfz23_4); (try clear hfz27_0); (try clear hfz27_1); (try clear hfz27_2); (try clear hfz27_3); (try clear hfz27_4); (try clear hfz30_0); (try clear hfz30_1); (try clear hfz30_2); (try clear hfz30_3); (try clear hfz30_4); (try clear p2)
    obtain ⟨kq, x20_18, rfl, HA, HJ18, BK118, BK119, BK120, HB⟩ := hcut
    cases kq with
    | zero => exact absurd HA.out (by simp [object_checkReloc.j1])
    | succ kj18 =>
     have H := HA.out
     clear HA
     simp only [object_checkReloc.j1] at H
     by_cases c31 : x20_18 = true
     ·subst c31
      have H1 : (some 2) = some r := by rw [if_pos rfl] at H; exact H
      clear H
      have H := H1
      clear H1
      obtain rfl := Option.some.inj H
      go_wp2
      go_ret
      exact ⟨ew_, hb_⟩
     ·replace c31 := Bool.eq_false_iff.mpr c31
      subst c31
      have H1 : (if a1_0 < a2_0 then (object_checkReloc.j2 kj18 true a1_0 a1_1 a1_2 a1_3 a1_4) else (if a1_0 = a2_0 then (object_checkReloc.j2 kj18 (decide (a1_1 ≤ a2_1)) a1_0 a1_1 a1_2 a1_3 a1_4) else (object_checkReloc.j2 kj18 false a1_0 a1_1 a1_2 a1_3 a1_4))) = some r := by rw [if_neg (show ¬ (false = true) by decide)] at H; exact H
      clear H
      have H := H1
      clear H1
      have HC32 := Aside0.mk H
      clear H
      go_upto_region 10 with (fail)
      go_cut [37] (fun v37 wc => ∃ (kq : Nat) (x37_31 : Bool), v37 = .bool x37_31 ∧ Aside0 (object_checkReloc.j2 kq x37_31 a1_0 a1_1 a1_2 a1_3 a1_4 = some r) ∧ Aside0 (kq ≤ kj18) ∧ Aside0 (wc.heap[gb118]? = some (.cells #[.string a0_0, .string a0_1, .string a0_2, .int .i64 a0_3, (.slice A0_4 l0_4.length c0_4), (.slice A0_5 l0_5.length c0_5)] 25 (0, 0))) ∧ Aside0 (wc.heap[gb119]? = some (.cells #[.int .i64 a1_0, .int .i64 a1_1, .int .i64 a1_2, .string a1_3, .bool a1_4] 43 (0, 0))) ∧ Aside0 (wc.heap[gb120]? = some (.cells #[.int .i64 a2_0, .int .i64 a2_1, .int .i64 a2_2, .string a2_3, .bool a2_4] 43 (0, 0))) ∧ Aside0 (Below w.heap.size w wc))
      case first =>
       have H := HC32.out
       clear HC32
       by_cases c33 : a1_0 < a2_0
       ·rw [if_pos c33] at H
        have c33b0 : decide (a1_0 < a2_0) = true := decide_eq_true c33
        clear c33
        (first | rw [c33b0] | (simp only [i64_w, i32_w]; rw [c33b0]) | skip)
        have H' := Aside0.mk H
        clear H
        have hnb34 := NB119_118.out
        have hnc34 := NB118_119.out
        have hnb35 := NB119_120.out
        have hnc35 := NB120_119.out
        have hcz36_0 : wc.cell? ⟨gb119, 0, none⟩ = some (.int .i64 a1_0) := (blk_cell BK119.out 0).trans rfl
        have hcz36_1 : wc.cell? ⟨gb119, 1, none⟩ = some (.int .i64 a1_1) := (blk_cell BK119.out 1).trans rfl
        have hcz36_2 : wc.cell? ⟨gb119, 2, none⟩ = some (.int .i64 a1_2) := (blk_cell BK119.out 2).trans rfl
        have hcz36_3 : wc.cell? ⟨gb119, 3, none⟩ = some (.string a1_3) := (blk_cell BK119.out 3).trans rfl
        have hcz36_4 : wc.cell? ⟨gb119, 4, none⟩ = some (.bool a1_4) := (blk_cell BK119.out 4).trans rfl
        have hfz36_0 := blk_frozen BK119.out 0
        have hfz36_1 := blk_frozen BK119.out 1
        have hfz36_2 := blk_frozen BK119.out 2
        have hfz36_3 := blk_frozen BK119.out 3
        have hfz36_4 := blk_frozen BK119.out 4
        have hnb37 := NB120_118.out
        have hnc37 := NB118_120.out
        have hcz38_0 : wc.cell? ⟨gb120, 0, none⟩ = some (.int .i64 a2_0) := (blk_cell BK120.out 0).trans rfl
        have hcz38_1 : wc.cell? ⟨gb120, 1, none⟩ = some (.int .i64 a2_1) := (blk_cell BK120.out 1).trans rfl
        have hcz38_2 : wc.cell? ⟨gb120, 2, none⟩ = some (.int .i64 a2_2) := (blk_cell BK120.out 2).trans rfl
        have hcz38_3 : wc.cell? ⟨gb120, 3, none⟩ = some (.string a2_3) := (blk_cell BK120.out 3).trans rfl
        have hcz38_4 : wc.cell? ⟨gb120, 4, none⟩ = some (.bool a2_4) := (blk_cell BK120.out 4).trans rfl
        have hfz38_0 := blk_frozen BK120.out 0
        have hfz38_1 := blk_frozen BK120.out 1
        have hfz38_2 := blk_frozen BK120.out 2
        have hfz38_3 := blk_frozen BK120.out 3
        have hfz38_4 := blk_frozen BK120.out 4
        go_wp2
        go_meet
        case rel => exact ⟨_, (true), cl_, H', ⟨by have := HJ3.out; have := HJ18.out; first | omega | exact Nat.le_refl _⟩, ⟨bk_ BK118.out⟩, ⟨bk_ BK119.out⟩, ⟨bk_ BK120.out⟩, ⟨hb_⟩⟩
       ·rw [if_neg c33] at H
        have c33b0 : decide (a1_0 < a2_0) = false := decide_eq_false c33
        clear c33
        (first | rw [c33b0] | (simp only [i64_w, i32_w]; rw [c33b0]) | skip)
        by_cases c39 : a1_0 = a2_0
        ·rw [if_pos c39] at H
         have c39b0 : (a1_0 == a2_0) = true := beq_iff_eq.mpr c39
         have c39b1 : (a1_0 != a2_0) = false := bne_eq_false_iff_eq.mpr c39
         clear c39
         have H' := Aside0.mk H
         clear H
         have hnb40 := NB119_118.out
         have hnc40 := NB118_119.out
         have hnb41 := NB119_120.out
         have hnc41 := NB120_119.out
         have hcz42_0 : wc.cell? ⟨gb119, 0, none⟩ = some (.int .i64 a1_0) := (blk_cell BK119.out 0).trans rfl
         have hcz42_1 : wc.cell? ⟨gb119, 1, none⟩ = some (.int .i64 a1_1) := (blk_cell BK119.out 1).trans rfl
         have hcz42_2 : wc.cell? ⟨gb119, 2, none⟩ = some (.int .i64 a1_2) := (blk_cell BK119.out 2).trans rfl
         have hcz42_3 : wc.cell? ⟨gb119, 3, none⟩ = some (.string a1_3) := (blk_cell BK119.out 3).trans rfl
         have hcz42_4 : wc.cell? ⟨gb119, 4, none⟩ = some (.bool a1_4) := (blk_cell BK119.out 4).trans rfl
         have hfz42_0 := blk_frozen BK119.out 0
         have hfz42_1 := blk_frozen BK119.out 1
         have hfz42_2 := blk_frozen BK119.out 2
         have hfz42_3 := blk_frozen BK119.out 3
         have hfz42_4 := blk_frozen BK119.out 4
         have hnb43 := NB120_118.out
         have hnc43 := NB118_120.out
         have hcz44_0 : wc.cell? ⟨gb120, 0, none⟩ = some (.int .i64 a2_0) := (blk_cell BK120.out 0).trans rfl
         have hcz44_1 : wc.cell? ⟨gb120, 1, none⟩ = some (.int .i64 a2_1) := (blk_cell BK120.out 1).trans rfl
         have hcz44_2 : wc.cell? ⟨gb120, 2, none⟩ = some (.int .i64 a2_2) := (blk_cell BK120.out 2).trans rfl
         have hcz44_3 : wc.cell? ⟨gb120, 3, none⟩ = some (.string a2_3) := (blk_cell BK120.out 3).trans rfl
         have hcz44_4 : wc.cell? ⟨gb120, 4, none⟩ = some (.bool a2_4) := (blk_cell BK120.out 4).trans rfl
         have hfz44_0 := blk_frozen BK120.out 0
         have hfz44_1 := blk_frozen BK120.out 1
         have hfz44_2 := blk_frozen BK120.out 2
         have hfz44_3 := blk_frozen BK120.out 3
         have hfz44_4 := blk_frozen BK120.out 4
         go_wp2
         go_meet
         case rel => exact ⟨_, (decide (a1_1 ≤ a2_1)), cl_, H', ⟨by have := HJ3.out; have := HJ18.out; first | omega | exact Nat.le_refl _⟩, ⟨bk_ BK118.out⟩, ⟨bk_ BK119.out⟩, ⟨bk_ BK120.out⟩, ⟨hb_⟩⟩
        ·rw [if_neg c39] at H
         have c39b0 : (a1_0 == a2_0) = false := beq_eq_false_iff_ne.mpr c39
         have c39b1 : (a1_0 != a2_0) = true := bne_iff_ne.mpr c39
         have H' := Aside0.mk H
         clear H
         have hnb45 := NB119_118.out
         have hnc45 := NB118_119.out
         have hnb46 := NB119_120.out
         have hnc46 := NB120_119.out
         have hcz47_0 : wc.cell? ⟨gb119, 0, none⟩ = some (.int .i64 a1_0) := (blk_cell BK119.out 0).trans rfl
         have hcz47_1 : wc.cell? ⟨gb119, 1, none⟩ = some (.int .i64 a1_1) := (blk_cell BK119.out 1).trans rfl
         have hcz47_2 : wc.cell? ⟨gb119, 2, none⟩ = some (.int .i64 a1_2) := (blk_cell BK119.out 2).trans rfl
         have hcz47_3 : wc.cell? ⟨gb119, 3, none⟩ = some (.string a1_3) := (blk_cell BK119.out 3).trans rfl
         have hcz47_4 : wc.cell? ⟨gb119, 4, none⟩ = some (.bool a1_4) := (blk_cell BK119.out 4).trans rfl
         have hfz47_0 := blk_frozen BK119.out 0
         have hfz47_1 := blk_frozen BK119.out 1
         have hfz47_2 := blk_frozen BK119.out 2
         have hfz47_3 := blk_frozen BK119.out 3
         have hfz47_4 := blk_frozen BK119.out 4
         have hnb48 := NB120_118.out
         have hnc48 := NB118_120.out
         have hcz49_0 : wc.cell? ⟨gb120, 0, none⟩ = some (.int .i64 a2_0) := (blk_cell BK120.out 0).trans rfl
         have hcz49_1 : wc.cell? ⟨gb120, 1, none⟩ = some (.int .i64 a2_1) := (blk_cell BK120.out 1).trans rfl
         have hcz49_2 : wc.cell? ⟨gb120, 2, none⟩ = some (.int .i64 a2_2) := (blk_cell BK120.out 2).trans rfl
         have hcz49_3 : wc.cell? ⟨gb120, 3, none⟩ = some (.string a2_3) := (blk_cell BK120.out 3).trans rfl
         have hcz49_4 : wc.cell? ⟨gb120, 4, none⟩ = some (.bool a2_4) := (blk_cell BK120.out 4).trans rfl
         have hfz49_0 := blk_frozen BK120.out 0
         have hfz49_1 := blk_frozen BK120.out 1
         have hfz49_2 := blk_frozen BK120.out 2
         have hfz49_3 := blk_frozen BK120.out 3
         have hfz49_4 := blk_frozen BK120.out 4
         go_wp2
         go_meet
         case rel => exact ⟨_, (false), cl_, H', ⟨by have := HJ3.out; have := HJ18.out; first | omega | exact Nat.le_refl _⟩, ⟨bk_ BK118.out⟩, ⟨bk_ BK119.out⟩, ⟨bk_ BK120.out⟩, ⟨hb_⟩⟩
      case rest =>
       clear HC32
       (try clear c1); (try clear c2); (try clear p2); (try clear c3); (try clear c4); (try clear c5); (try clear p6); (try clear c8); (try clear c9); (try clear c11); (try clear c11b0); (try clear c11b1); (try clear c12); (try clear c13); (try clear c15); (try clear c15b0); (try clear c15b1); (try clear c16); (try clear c17); (try clear c20); (try clear c20b0); (try clear c21); (try clear c22); (try clear c24); (try clear c24b0); (try clear c24b1); (try clear c25); (try clear c26); (try clear c28); (try clear c29); (try clear c31); (try clear c33); (try clear c33b0); (try clear c34); (try clear c35); (try clear c37); (try clear c39); (try clear c39b0); (try clear c39b1); (try clear c40); (try clear c41); (try clear c43); (try clear c45); (try clear c46); (try clear c48); (try clear hcz10_0); (try clear hcz10_1); (try clear hcz10_2); (try clear hcz10_3); (try clear hcz10_4); (try clear hcz14_0); (try clear hcz14_1); (try clear hcz14_2); (try clear hcz14_3); (try clear hcz14_4); (try clear hcz14_5); (try clear hcz18_0); (try clear hcz18_1); (try clear hcz18_2); (try clear hcz18_3); (try clear hcz18_4); (try clear hcz18_5); (try clear hcz23_0); (try clear hcz23_1); (try clear hcz23_2); (try clear hcz23_3); (try clear hcz23_4); (try clear hcz27_0); (try clear hcz27_1); (try clear hcz27_2); (try clear hcz27_3); (try clear hcz27_4); (try clear hcz30_0); (try clear hcz30_1); (try clear hcz30_2); (try clear hcz30_3); (try clear hcz30_4); (try clear hcz36_0); (try clear hcz36_1); (try clear hcz36_2); (try clear hcz36_3); (try clear hcz36_4); (try clear hcz38_0); (try clear hcz38_1); (try clear hcz38_2); (try clear hcz38_3); (try clear hcz38_4); (try clear hcz42_0); (try clear hcz42_1); (try clear hcz42_2); (try clear hcz42_3); (try clear hcz42_4); (try clear hcz44_0); (try clear hcz44_1); (try clear hcz44_2); (try clear hcz44_3); (try clear hcz44_4); (try clear hcz47_0); (try clear hcz47_1); (try clear hcz47_2); (try clear hcz47_3); (try clear hcz47_4); (try clear hcz49_0); (try clear hcz49_1); (try clear hcz49_2); (try clear hcz49_3); (try clear hcz49_4); (try clear hfz10_0); (try clear hfz10_1); (try clear hfz10_2); (try clear hfz10_3); (try clear hfz10_4); (try clear hfz14_0); (try clear hfz14_1); (try clear hfz14_2); (try clear hfz14_3); (try clear hfz14_4); (try clear hfz14_5); (try clear hfz18_0); (try clear hfz18_1); (try clear hfz18_2); (try clear hfz18_3); (try clear hfz18_4); (try clear hfz18_5); (try clear hfz23_0); (try clear hfz23_1); (try clear hfz23_2); (try clear hfz23_3); (try clear hfz23_4); (try clear hfz27_0); (try clear hfz27_1); (try clear hfz27_2); (try clear hfz27_3); (try clear hfz27_4); (try clear hfz30_0); (try clear hfz30_1); (try clear hfz30_2); (try clear hfz30_3); (try clear hfz30_4); (try clear hfz36_0); (try clear hfz36_1); (try clear hfz36_2); (try clear hfz36_3); (try clear hfz36_4); (try clear hfz38_0); (try clear hfz38_1); (try clear hfz38_2); (try clear hfz38_3); (try clear hfz38_4); (try clear hfz42_0); (try clear hfz42_1); (try clear hfz42_2); (try clear hfz42_3); (try clear hfz42_4); (try clear hfz44_0); (try clear hfz44_1); (try clear hfz44_2); (try clear hfz44_3); (try clear hfz44_4); (try clear hfz47_0); (try clear hfz47_1); (try clear hfz47_2); (try clear hfz47_3); (try clear hfz47_4); (try clear hfz49_0); (try clear hfz49_1); (try clear hfz49_2); (try clear hfz49_3); (try clear hfz49_4); (try clear p2); (try clear p6)
       obtain ⟨kq, x37_31, rfl, HA, HJ31, BK118, BK119, BK120, HB⟩ := hcut
       cases kq with
       | zero => exact absurd HA.out (by simp [object_checkReloc.j2])
       | succ kj31 =>
        have H := HA.out
        clear HA
        simp only [object_checkReloc.j2] at H
        by_cases c50 : x37_31 = true
        ·subst c50
         have H1 : (some 2) = some r := by rw [if_pos rfl] at H; exact H
         clear H
         have H := H1
         clear H1
         obtain rfl := Option.some.inj H
         go_wp2
         go_ret
         exact ⟨ew_, hb_⟩
        ·replace c50 := Bool.eq_false_iff.mpr c50
         subst c50
         have H1 : (if a1_2 < 0 then (object_checkReloc.j3 kj31 true a1_0 a1_1 a1_2 a1_3 a1_4) else (if a1_2 > 4 then (object_checkReloc.j3 kj31 true a1_0 a1_1 a1_2 a1_3 a1_4) else (if a1_2 = 0 then (object_checkReloc.j3 kj31 (!a1_4) a1_0 a1_1 a1_2 a1_3 a1_4) else (object_checkReloc.j3 kj31 false a1_0 a1_1 a1_2 a1_3 a1_4)))) = some r := by rw [if_neg (show ¬ (false = true) by decide)] at H; exact H
         clear H
         have H := H1
         clear H1
         have HC51 := Aside0.mk H
         clear H
         go_upto_region 12 with (fail)
         go_cut [57] (fun v57 wc => ∃ (kq : Nat) (x57_50 : Bool), v57 = .bool x57_50 ∧ Aside0 (object_checkReloc.j3 kq x57_50 a1_0 a1_1 a1_2 a1_3 a1_4 = some r) ∧ Aside0 (kq ≤ kj31) ∧ Aside0 (wc.heap[gb118]? = some (.cells #[.string a0_0, .string a0_1, .string a0_2, .int .i64 a0_3, (.slice A0_4 l0_4.length c0_4), (.slice A0_5 l0_5.length c0_5)] 25 (0, 0))) ∧ Aside0 (wc.heap[gb119]? = some (.cells #[.int .i64 a1_0, .int .i64 a1_1, .int .i64 a1_2, .string a1_3, .bool a1_4] 43 (0, 0))) ∧ Aside0 (wc.heap[gb120]? = some (.cells #[.int .i64 a2_0, .int .i64 a2_1, .int .i64 a2_2, .string a2_3, .bool a2_4] 43 (0, 0))) ∧ Aside0 (Below w.heap.size w wc))
         case first =>
          have H := HC51.out
          clear HC51
          by_cases c52 : a1_2 < 0
          ·rw [if_pos c52] at H
           have c52b0 : decide (a1_2 < 0) = true := decide_eq_true c52
           clear c52
           (first | rw [c52b0] | (simp only [i64_w, i32_w]; rw [c52b0]) | skip)
           have H' := Aside0.mk H
           clear H
           have hnb53 := NB119_118.out
           have hnc53 := NB118_119.out
           have hnb54 := NB119_120.out
           have hnc54 := NB120_119.out
           have hcz55_0 : wc.cell? ⟨gb119, 0, none⟩ = some (.int .i64 a1_0) := (blk_cell BK119.out 0).trans rfl
           have hcz55_1 : wc.cell? ⟨gb119, 1, none⟩ = some (.int .i64 a1_1) := (blk_cell BK119.out 1).trans rfl
           have hcz55_2 : wc.cell? ⟨gb119, 2, none⟩ = some (.int .i64 a1_2) := (blk_cell BK119.out 2).trans rfl
           have hcz55_3 : wc.cell? ⟨gb119, 3, none⟩ = some (.string a1_3) := (blk_cell BK119.out 3).trans rfl
           have hcz55_4 : wc.cell? ⟨gb119, 4, none⟩ = some (.bool a1_4) := (blk_cell BK119.out 4).trans rfl
           have hfz55_0 := blk_frozen BK119.out 0
           have hfz55_1 := blk_frozen BK119.out 1
           have hfz55_2 := blk_frozen BK119.out 2
           have hfz55_3 := blk_frozen BK119.out 3
           have hfz55_4 := blk_frozen BK119.out 4
           go_wp2
           go_meet
           case rel => exact ⟨_, (true), cl_, H', ⟨by have := HJ3.out; have := HJ18.out; have := HJ31.out; first | omega | exact Nat.le_refl _⟩, ⟨bk_ BK118.out⟩, ⟨bk_ BK119.out⟩, ⟨bk_ BK120.out⟩, ⟨hb_⟩⟩
          ·rw [if_neg c52] at H
           have c52b0 : decide (a1_2 < 0) = false := decide_eq_false c52
           clear c52
           (first | rw [c52b0] | (simp only [i64_w, i32_w]; rw [c52b0]) | skip)
           by_cases c56 : a1_2 > 4
           ·rw [if_pos c56] at H
            have c56b0 : decide (4 < a1_2) = true := decide_eq_true c56
            clear c56
            have H' := Aside0.mk H
            clear H
            have hnb57 := NB119_118.out
            have hnc57 := NB118_119.out
            have hnb58 := NB119_120.out
            have hnc58 := NB120_119.out
            have hcz59_0 : wc.cell? ⟨gb119, 0, none⟩ = some (.int .i64 a1_0) := (blk_cell BK119.out 0).trans rfl
            have hcz59_1 : wc.cell? ⟨gb119, 1, none⟩ = some (.int .i64 a1_1) := (blk_cell BK119.out 1).trans rfl
            have hcz59_2 : wc.cell? ⟨gb119, 2, none⟩ = some (.int .i64 a1_2) := (blk_cell BK119.out 2).trans rfl
            have hcz59_3 : wc.cell? ⟨gb119, 3, none⟩ = some (.string a1_3) := (blk_cell BK119.out 3).trans rfl
            have hcz59_4 : wc.cell? ⟨gb119, 4, none⟩ = some (.bool a1_4) := (blk_cell BK119.out 4).trans rfl
            have hfz59_0 := blk_frozen BK119.out 0
            have hfz59_1 := blk_frozen BK119.out 1
            have hfz59_2 := blk_frozen BK119.out 2
            have hfz59_3 := blk_frozen BK119.out 3
            have hfz59_4 := blk_frozen BK119.out 4
            go_wp2
            go_meet
            case rel => exact ⟨_, (true), cl_, H', ⟨by have := HJ3.out; have := HJ18.out; have := HJ31.out; first | omega | exact Nat.le_refl _⟩, ⟨bk_ BK118.out⟩, ⟨bk_ BK119.out⟩, ⟨bk_ BK120.out⟩, ⟨hb_⟩⟩
           ·rw [if_neg c56] at H
            have c56b0 : decide (4 < a1_2) = false := decide_eq_false c56
            clear c56
            by_cases c60 : a1_2 = 0
            ·rw [if_pos c60] at H
             have c60b0 : (a1_2 == 0) = true := beq_iff_eq.mpr c60
             have c60b1 : (a1_2 != 0) = false := bne_eq_false_iff_eq.mpr c60
             clear c60
             have H' := Aside0.mk H
             clear H
             have hnb61 := NB119_118.out
             have hnc61 := NB118_119.out
             have hnb62 := NB119_120.out
             have hnc62 := NB120_119.out
             have hcz63_0 : wc.cell? ⟨gb119, 0, none⟩ = some (.int .i64 a1_0) := (blk_cell BK119.out 0).trans rfl
             have hcz63_1 : wc.cell? ⟨gb119, 1, none⟩ = some (.int .i64 a1_1) := (blk_cell BK119.out 1).trans rfl
             have hcz63_2 : wc.cell? ⟨gb119, 2, none⟩ = some (.int .i64 a1_2) := (blk_cell BK119.out 2).trans rfl
             have hcz63_3 : wc.cell? ⟨gb119, 3, none⟩ = some (.string a1_3) := (blk_cell BK119.out 3).trans rfl
             have hcz63_4 : wc.cell? ⟨gb119, 4, none⟩ = some (.bool a1_4) := (blk_cell BK119.out 4).trans rfl
             have hfz63_0 := blk_frozen BK119.out 0
             have hfz63_1 := blk_frozen BK119.out 1
             have hfz63_2 := blk_frozen BK119.out 2
             have hfz63_3 := blk_frozen BK119.out 3
             have hfz63_4 := blk_frozen BK119.out 4
             go_wp2
             go_meet
             case rel => exact ⟨_, (!a1_4), cl_, H', ⟨by have := HJ3.out; have := HJ18.out; have := HJ31.out; first | omega | exact Nat.le_refl _⟩, ⟨bk_ BK118.out⟩, ⟨bk_ BK119.out⟩, ⟨bk_ BK120.out⟩, ⟨hb_⟩⟩
            ·rw [if_neg c60] at H
             have c60b0 : (a1_2 == 0) = false := beq_eq_false_iff_ne.mpr c60
             have c60b1 : (a1_2 != 0) = true := bne_iff_ne.mpr c60
             have H' := Aside0.mk H
             clear H
             have hnb64 := NB119_118.out
             have hnc64 := NB118_119.out
             have hnb65 := NB119_120.out
             have hnc65 := NB120_119.out
             have hcz66_0 : wc.cell? ⟨gb119, 0, none⟩ = some (.int .i64 a1_0) := (blk_cell BK119.out 0).trans rfl
             have hcz66_1 : wc.cell? ⟨gb119, 1, none⟩ = some (.int .i64 a1_1) := (blk_cell BK119.out 1).trans rfl
             have hcz66_2 : wc.cell? ⟨gb119, 2, none⟩ = some (.int .i64 a1_2) := (blk_cell BK119.out 2).trans rfl
             have hcz66_3 : wc.cell? ⟨gb119, 3, none⟩ = some (.string a1_3) := (blk_cell BK119.out 3).trans rfl
             have hcz66_4 : wc.cell? ⟨gb119, 4, none⟩ = some (.bool a1_4) := (blk_cell BK119.out 4).trans rfl
             have hfz66_0 := blk_frozen BK119.out 0
             have hfz66_1 := blk_frozen BK119.out 1
             have hfz66_2 := blk_frozen BK119.out 2
             have hfz66_3 := blk_frozen BK119.out 3
             have hfz66_4 := blk_frozen BK119.out 4
             go_wp2
             go_meet
             case rel => exact ⟨_, (false), cl_, H', ⟨by have := HJ3.out; have := HJ18.out; have := HJ31.out; first | omega | exact Nat.le_refl _⟩, ⟨bk_ BK118.out⟩, ⟨bk_ BK119.out⟩, ⟨bk_ BK120.out⟩, ⟨hb_⟩⟩
         case rest =>
          clear HC51
          (try clear c1); (try clear c2); (try clear p2); (try clear c3); (try clear c4); (try clear c5); (try clear c6); (try clear p6); (try clear c8); (try clear c9); (try clear c11); (try clear c11b0); (try clear c11b1); (try clear c12); (try clear c13); (try clear c15); (try clear c15b0); (try clear c15b1); (try clear c16); (try clear c17); (try clear c20); (try clear c20b0); (try clear c21); (try clear c22); (try clear c24); (try clear c24b0); (try clear c24b1); (try clear c25); (try clear c26); (try clear c28); (try clear c29); (try clear c31); (try clear c33); (try clear c33b0); (try clear c34); (try clear c35); (try clear c37); (try clear c39); (try clear c39b0); (try clear c39b1); (try clear c40); (try clear c41); (try clear c43); (try clear c45); (try clear c46); (try clear c48); (try clear c50); (try clear c52); (try clear c52b0); (try clear c53); (try clear c54); (try clear c56); (try clear c56b0); (try clear c57); (try clear c58); (try clear c60); (try clear c60b0); (try clear c60b1); (try clear c61); (try clear c62); (try clear c64); (try clear p64); (try clear c65); (try clear hcz10_0); (try clear hcz10_1); (try clear hcz10_2); (try clear hcz10_3); (try clear hcz10_4); (try clear hcz14_0); (try clear hcz14_1); (try clear hcz14_2); (try clear hcz14_3); (try clear hcz14_4); (try clear hcz14_5); (try clear hcz18_0); (try clear hcz18_1); (try clear hcz18_2); (try clear hcz18_3); (try clear hcz18_4); (try clear hcz18_5); (try clear hcz23_0); (try clear hcz23_1); (try clear hcz23_2); (try clear hcz23_3); (try clear hcz23_4); (try clear hcz27_0); (try clear hcz27_1); (try clear hcz27_2); (try clear hcz27_3); (try clear hcz27_4); (try clear hcz30_0); (try clear hcz30_1); (try clear hcz30_2); (try clear hcz30_3); (try clear hcz30_4); (try clear hcz36_0); (try clear hcz36_1); (try clear hcz36_2); (try clear hcz36_3); (try clear hcz36_4); (try clear hcz38_0); (try clear hcz38_1); (try clear hcz38_2); (try clear hcz38_3); (try clear hcz38_4); (try clear hcz42_0); (try clear hcz42_1); (try clear hcz42_2); (try clear hcz42_3); (try clear hcz42_4); (try clear hcz44_0); (try clear hcz44_1); (try clear hcz44_2); (try clear hcz44_3); (try clear hcz44_4); (try clear hcz47_0); (try clear hcz47_1); (try clear hcz47_2); (try clear hcz47_3); (try clear hcz47_4); (try clear hcz49_0); (try clear hcz49_1); (try clear hcz49_2); (try clear hcz49_3); (try clear hcz49_4); (try clear hcz55_0); (try clear hcz55_1); (try clear hcz55_2); (try clear hcz55_3); (try clear hcz55_4); (try clear hcz59_0); (try clear hcz59_1); (try clear hcz59_2); (try clear hcz59_3); (try clear hcz59_4); (try clear hcz63_0); (try clear hcz63_1); (try clear hcz63_2); (try clear hcz63_3); (try clear hcz63_4); (try clear hcz66_0); (try clear hcz66_1); (try clear hcz66_2); (try clear hcz66_3); (try clear hcz66_4); (try clear hfz10_0); (try clear hfz10_1); (try clear hfz10_2); (try clear hfz10_3); (try clear hfz10_4); (try clear hfz14_0); (try clear hfz14_1); (try clear hfz14_2); (try clear hfz14_3); (try clear hfz14_4); (try clear hfz14_5); (try clear hfz18_0); (try clear hfz18_1); (try clear hfz18_2); (try clear hfz18_3); (try clear hfz18_4); (try clear hfz18_5); (try clear hfz23_0); (try clear hfz23_1); (try clear hfz23_2); (try clear hfz23_3); (try clear hfz23_4); (try clear hfz27_0); (try clear hfz27_1); (try clear hfz27_2); (try clear hfz27_3); (try clear hfz27_4); (try clear hfz30_0); (try clear hfz30_1); (try clear hfz30_2); (try clear hfz30_3); (try clear hfz30_4); (try clear hfz36_0); (try clear hfz36_1); (try clear hfz36_2); (try clear hfz36_3); (try clear hfz36_4); (try clear hfz38_0); (try clear hfz38_1); (try clear hfz38_2); (try clear hfz38_3); (try clear hfz38_4); (try clear hfz42_0); (try clear hfz42_1); (try clear hfz42_2); (try clear hfz42_3); (try clear hfz42_4); (try clear hfz44_0); (try clear hfz44_1); (try clear hfz44_2); (try clear hfz44_3); (try clear hfz44_4); (try clear hfz47_0); (try clear hfz47_1); (try clear hfz47_2); (try clear hfz47_3); (try clear hfz47_4); (try clear hfz49_0); (try clear hfz49_1); (try clear hfz49_2); (try clear hfz49_3); (try clear hfz49_4); (try clear hfz55_0); (try clear hfz55_1); (try clear hfz55_2); (try clear hfz55_3); (try clear hfz55_4); (try clear hfz59_0); (try clear hfz59_1); (try clear hfz59_2); (try clear hfz59_3); (try clear hfz59_4); (try clear hfz63_0); (try clear hfz63_1); (try clear hfz63_2); (try clear hfz63_3); (try clear hfz63_4); (try clear hfz66_0); (try clear hfz66_1); (try clear hfz66_2); (try clear hfz66_3); (try clear hfz66_4); (try clear p2); (try clear p6)
          obtain ⟨kq, x57_50, rfl, HA, HJ50, BK118, BK119, BK120, HB⟩ := hcut
          cases kq with
          | zero => exact absurd HA.out (by simp [object_checkReloc.j3])
          | succ kj50 =>
           have H := HA.out
           clear HA
           simp only [object_checkReloc.j3] at H
           by_cases c67 : x57_50 = true
           ·subst c67
            have H1 : (some 2) = some r := by rw [if_pos rfl] at H; exact H
            clear H
            have H := H1
            clear H1
            obtain rfl := Option.some.inj H
            go_wp2
            go_ret
            exact ⟨ew_, hb_⟩
           ·replace c67 := Bool.eq_false_iff.mpr c67
            subst c67
            have H1 : (if a1_2 = 4 then ((object_isName.f kj50 a1_3).bind fun t121 => (if t121 = true then (some 0) else (some 4))) else (if a1_3.toList = ([] : List UInt8) then (some 0) else (some 4))) = some r := by rw [if_neg (show ¬ (false = true) by decide)] at H; exact H
            clear H
            have H := H1
            clear H1
            by_cases c68 : a1_2 = 4
            ·rw [if_pos c68] at H
             have c68b0 : (a1_2 == 4) = true := beq_iff_eq.mpr c68
             have c68b1 : (a1_2 != 4) = false := bne_eq_false_iff_eq.mpr c68
             clear c68
             replace H := Option.bind_eq_some_iff.mp H
             obtain ⟨t121, A690, H⟩ := H
             (try dsimp only at H)
             have A69 := Aside0.mk A690
             clear A690
             by_cases c70 : t121 = true
             ·subst c70
              have H1 : (some 0) = some r := by rw [if_pos rfl] at H; exact H
              clear H
              have H := H1
              clear H1
              obtain rfl := Option.some.inj H
              have hnb71 := NB119_118.out
              have hnc71 := NB118_119.out
              have hnb72 := NB119_120.out
              have hnc72 := NB120_119.out
              have hcz73_0 : wc.cell? ⟨gb119, 0, none⟩ = some (.int .i64 a1_0) := (blk_cell BK119.out 0).trans rfl
              have hcz73_1 : wc.cell? ⟨gb119, 1, none⟩ = some (.int .i64 a1_1) := (blk_cell BK119.out 1).trans rfl
              have hcz73_2 : wc.cell? ⟨gb119, 2, none⟩ = some (.int .i64 a1_2) := (blk_cell BK119.out 2).trans rfl
              have hcz73_3 : wc.cell? ⟨gb119, 3, none⟩ = some (.string a1_3) := (blk_cell BK119.out 3).trans rfl
              have hcz73_4 : wc.cell? ⟨gb119, 4, none⟩ = some (.bool a1_4) := (blk_cell BK119.out 4).trans rfl
              have hfz73_0 := blk_frozen BK119.out 0
              have hfz73_1 := blk_frozen BK119.out 1
              have hfz73_2 := blk_frozen BK119.out 2
              have hfz73_3 := blk_frozen BK119.out 3
              have hfz73_4 := blk_frozen BK119.out 4
              go_wp2_with (first | (go_at_call 48; (with_reducible refine (object_isName.calls kj50 a1_3 true _ A69.out).mono ?_); rintro e w74 ⟨rfl, hb⟩; have n0_ := Aside0.mk (blk_below (g := gb118) (o := .cells #[.string a0_0, .string a0_1, .string a0_2, .int .i64 a0_3, .slice A0_4 l0_4.length c0_4, .slice A0_5 l0_5.length c0_5] 25 (0, 0)) (bk_ BK118.out) hb); have n1_ := Aside0.mk (blk_below (g := gb119) (o := .cells #[.int .i64 a1_0, .int .i64 a1_1, .int .i64 a1_2, .string a1_3, .bool a1_4] 43 (0, 0)) (bk_ BK119.out) hb); have n2_ := Aside0.mk (blk_below (g := gb120) (o := .cells #[.int .i64 a2_0, .int .i64 a2_1, .int .i64 a2_2, .string a2_3, .bool a2_4] 43 (0, 0)) (bk_ BK120.out) hb); have n3_ := Aside0.mk (below_step hb_ hb); clear BK118 BK119 BK120 HB; have BK118 := n0_; have BK119 := n1_; have BK120 := n2_; have HB := n3_; clear n0_ n1_ n2_ n3_; (try clear hb); (try clear hb2); (try clear hk); (try clear hi); have hcz75_0 : w74.cell? ⟨gb119, 0, none⟩ = some (.int .i64 a1_0) := (blk_cell BK119.out 0).trans rfl; have hcz75_1 : w74.cell? ⟨gb119, 1, none⟩ = some (.int .i64 a1_1) := (blk_cell BK119.out 1).trans rfl; have hcz75_2 : w74.cell? ⟨gb119, 2, none⟩ = some (.int .i64 a1_2) := (blk_cell BK119.out 2).trans rfl; have hcz75_3 : w74.cell? ⟨gb119, 3, none⟩ = some (.string a1_3) := (blk_cell BK119.out 3).trans rfl; have hcz75_4 : w74.cell? ⟨gb119, 4, none⟩ = some (.bool a1_4) := (blk_cell BK119.out 4).trans rfl; have hfz75_0 := blk_frozen BK119.out 0; have hfz75_1 := blk_frozen BK119.out 1; have hfz75_2 := blk_frozen BK119.out 2; have hfz75_3 := blk_frozen BK119.out 3; have hfz75_4 := blk_frozen BK119.out 4))
              go_ret
              exact ⟨ew_, hb_⟩
             ·replace c70 := Bool.eq_false_iff.mpr c70
              subst c70
              have H1 : (some 4) = some r := by rw [if_neg (show ¬ (false = true) by decide)] at H; exact H
              clear H
              have H := H1
              clear H1
              obtain rfl := Option.some.inj H
              have hnb76 := NB119_118.out
              have hnc76 := NB118_119.out
              have hnb77 := NB119_120.out
              have hnc77 := NB120_119.out
              have hcz78_0 : wc.cell? ⟨gb119, 0, none⟩ = some (.int .i64 a1_0) := (blk_cell BK119.out 0).trans rfl
              have hcz78_1 : wc.cell? ⟨gb119, 1, none⟩ = some (.int .i64 a1_1) := (blk_cell BK119.out 1).trans rfl
              have hcz78_2 : wc.cell? ⟨gb119, 2, none⟩ = some (.int .i64 a1_2) := (blk_cell BK119.out 2).trans rfl
              have hcz78_3 : wc.cell? ⟨gb119, 3, none⟩ = some (.string a1_3) := (blk_cell BK119.out 3).trans rfl
              have hcz78_4 : wc.cell? ⟨gb119, 4, none⟩ = some (.bool a1_4) := (blk_cell BK119.out 4).trans rfl
              have hfz78_0 := blk_frozen BK119.out 0
              have hfz78_1 := blk_frozen BK119.out 1
              have hfz78_2 := blk_frozen BK119.out 2
              have hfz78_3 := blk_frozen BK119.out 3
              have hfz78_4 := blk_frozen BK119.out 4
              go_wp2_with (first | (go_at_call 48; (with_reducible refine (object_isName.calls kj50 a1_3 false _ A69.out).mono ?_); rintro e w79 ⟨rfl, hb⟩; have n0_ := Aside0.mk (blk_below (g := gb118) (o := .cells #[.string a0_0, .string a0_1, .string a0_2, .int .i64 a0_3, .slice A0_4 l0_4.length c0_4, .slice A0_5 l0_5.length c0_5] 25 (0, 0)) (bk_ BK118.out) hb); have n1_ := Aside0.mk (blk_below (g := gb119) (o := .cells #[.int .i64 a1_0, .int .i64 a1_1, .int .i64 a1_2, .string a1_3, .bool a1_4] 43 (0, 0)) (bk_ BK119.out) hb); have n2_ := Aside0.mk (blk_below (g := gb120) (o := .cells #[.int .i64 a2_0, .int .i64 a2_1, .int .i64 a2_2, .string a2_3, .bool a2_4] 43 (0, 0)) (bk_ BK120.out) hb); have n3_ := Aside0.mk (below_step hb_ hb); clear BK118 BK119 BK120 HB; have BK118 := n0_; have BK119 := n1_; have BK120 := n2_; have HB := n3_; clear n0_ n1_ n2_ n3_; (try clear hb); (try clear hb2); (try clear hk); (try clear hi)))
              go_ret
              exact ⟨ew_, hb_⟩
            ·rw [if_neg c68] at H
             have c68b0 : (a1_2 == 4) = false := beq_eq_false_iff_ne.mpr c68
             have c68b1 : (a1_2 != 4) = true := bne_iff_ne.mpr c68
             by_cases c80 : a1_3.toList = ([] : List UInt8)
             ·rw [if_pos c80] at H
              have c80b0 : (a1_3.toList == ([] : List UInt8)) = true := beq_iff_eq.mpr c80
              have c80b1 : (a1_3.toList != ([] : List UInt8)) = false := bne_eq_false_iff_eq.mpr c80
              clear c80
              obtain rfl := Option.some.inj H
              have hnb81 := NB119_118.out
              have hnc81 := NB118_119.out
              have hnb82 := NB119_120.out
              have hnc82 := NB120_119.out
              have hcz83_0 : wc.cell? ⟨gb119, 0, none⟩ = some (.int .i64 a1_0) := (blk_cell BK119.out 0).trans rfl
              have hcz83_1 : wc.cell? ⟨gb119, 1, none⟩ = some (.int .i64 a1_1) := (blk_cell BK119.out 1).trans rfl
              have hcz83_2 : wc.cell? ⟨gb119, 2, none⟩ = some (.int .i64 a1_2) := (blk_cell BK119.out 2).trans rfl
              have hcz83_3 : wc.cell? ⟨gb119, 3, none⟩ = some (.string a1_3) := (blk_cell BK119.out 3).trans rfl
              have hcz83_4 : wc.cell? ⟨gb119, 4, none⟩ = some (.bool a1_4) := (blk_cell BK119.out 4).trans rfl
              have hfz83_0 := blk_frozen BK119.out 0
              have hfz83_1 := blk_frozen BK119.out 1
              have hfz83_2 := blk_frozen BK119.out 2
              have hfz83_3 := blk_frozen BK119.out 3
              have hfz83_4 := blk_frozen BK119.out 4
              go_wp2
              go_ret
              exact ⟨ew_, hb_⟩
             ·rw [if_neg c80] at H
              have c80b0 : (a1_3.toList == ([] : List UInt8)) = false := beq_eq_false_iff_ne.mpr c80
              have c80b1 : (a1_3.toList != ([] : List UInt8)) = true := bne_iff_ne.mpr c80
              obtain rfl := Option.some.inj H
              have hnb84 := NB119_118.out
              have hnc84 := NB118_119.out
              have hnb85 := NB119_120.out
              have hnc85 := NB120_119.out
              have hcz86_0 : wc.cell? ⟨gb119, 0, none⟩ = some (.int .i64 a1_0) := (blk_cell BK119.out 0).trans rfl
              have hcz86_1 : wc.cell? ⟨gb119, 1, none⟩ = some (.int .i64 a1_1) := (blk_cell BK119.out 1).trans rfl
              have hcz86_2 : wc.cell? ⟨gb119, 2, none⟩ = some (.int .i64 a1_2) := (blk_cell BK119.out 2).trans rfl
              have hcz86_3 : wc.cell? ⟨gb119, 3, none⟩ = some (.string a1_3) := (blk_cell BK119.out 3).trans rfl
              have hcz86_4 : wc.cell? ⟨gb119, 4, none⟩ = some (.bool a1_4) := (blk_cell BK119.out 4).trans rfl
              have hfz86_0 := blk_frozen BK119.out 0
              have hfz86_1 := blk_frozen BK119.out 1
              have hfz86_2 := blk_frozen BK119.out 2
              have hfz86_3 := blk_frozen BK119.out 3
              have hfz86_4 := blk_frozen BK119.out 4
              go_wp2
              go_ret
              exact ⟨ew_, hb_⟩
end Go.Proofs.Ytenlmckahaniiaa.K
end
