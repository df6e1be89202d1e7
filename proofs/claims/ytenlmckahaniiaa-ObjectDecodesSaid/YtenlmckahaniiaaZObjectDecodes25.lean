/- Lemmas for the law ObjectDecodes: what its proof needs of this seat's texts, in one place. -/
import Derived.Test.YtenlmckahaniiaaZObjectDecodes23
section
namespace Go.Proofs.Ytenlmckahaniiaa.K
open Go.RowKit Go.Proofs.YtenlmckahaniiaaW.PrintWords Go.Proofs.YtenlmckahaniiaaW.PrintLast
set_option linter.unusedVariables false
set_option linter.unusedSimpArgs false
mutual
def emulatorref28_reloc.j0 : Nat → Int → Int → Int → Int → ByteArray → Bool → Int → Int → Int → ByteArray → Bool → Option (Int)
  | 0, _, _, _, _, _, _, _, _, _, _, _ => none
  | k + 1, x7, x139000, x139001, x139002, x139003, x139004, x140000, x140001, x140002, x140003, x140004 => if x139000 = 1 then (if x139001 < 0 then (emulatorref28_reloc.j1 k true x139000 x139001 x139002 x139003 x139004 x140000 x140001 x140002 x140003 x140004) else (if (Int.tmod x139001 2) = 0 then (emulatorref28_reloc.j1 k (decide (x139001 > (wrap64 (x7 - 2)))) x139000 x139001 x139002 x139003 x139004 x140000 x140001 x140002 x140003 x140004) else (emulatorref28_reloc.j1 k true x139000 x139001 x139002 x139003 x139004 x140000 x140001 x140002 x140003 x140004))) else (if x139000 = 2 then (if x139001 < 0 then (emulatorref28_reloc.j1 k true x139000 x139001 x139002 x139003 x139004 x140000 x140001 x140002 x140003 x140004) else (if (Int.tmod x139001 2) = 0 then (emulatorref28_reloc.j1 k (decide (x139001 > (wrap64 (x7 - 2)))) x139000 x139001 x139002 x139003 x139004 x140000 x140001 x140002 x140003 x140004) else (emulatorref28_reloc.j1 k true x139000 x139001 x139002 x139003 x139004 x140000 x140001 x140002 x140003 x140004))) else (emulatorref28_reloc.j1 k true x139000 x139001 x139002 x139003 x139004 x140000 x140001 x140002 x140003 x140004))
def emulatorref28_reloc.j1 : Nat → Bool → Int → Int → Int → ByteArray → Bool → Int → Int → Int → ByteArray → Bool → Option (Int)
  | 0, _, _, _, _, _, _, _, _, _, _, _ => none
  | k + 1, x42, x139000, x139001, x139002, x139003, x139004, x140000, x140001, x140002, x140003, x140004 => if x42 = true then (some 2) else (if x140000 > x139000 then (emulatorref28_reloc.j2 k true x139000 x139001 x139002 x139003 x139004) else (if x140000 = x139000 then (emulatorref28_reloc.j2 k (decide (x140001 ≥ x139001)) x139000 x139001 x139002 x139003 x139004) else (emulatorref28_reloc.j2 k false x139000 x139001 x139002 x139003 x139004)))
def emulatorref28_reloc.j2 : Nat → Bool → Int → Int → Int → ByteArray → Bool → Option (Int)
  | 0, _, _, _, _, _, _ => none
  | k + 1, x61, x139000, x139001, x139002, x139003, x139004 => if x61 = true then (some 2) else (if x139002 < 0 then (emulatorref28_reloc.j3 k true x139000 x139001 x139002 x139003 x139004) else (if x139002 > 4 then (emulatorref28_reloc.j3 k true x139000 x139001 x139002 x139003 x139004) else (if x139002 = 0 then (emulatorref28_reloc.j3 k (!x139004) x139000 x139001 x139002 x139003 x139004) else (emulatorref28_reloc.j3 k false x139000 x139001 x139002 x139003 x139004))))
def emulatorref28_reloc.j3 : Nat → Bool → Int → Int → Int → ByteArray → Bool → Option (Int)
  | 0, _, _, _, _, _, _ => none
  | k + 1, x79, x139000, x139001, x139002, x139003, x139004 => if x79 = true then (some 2) else (if x139002 = 4 then ((emulatorref28_IsName.f k x139003).bind fun t140 => (if t140 = true then (some 0) else (some 4))) else (if x139003.toList = ([] : List UInt8) then (some 0) else (some 4)))
end
def emulatorref28_reloc.f (k : Nat) (a0_0 : ByteArray) (a0_1 : ByteArray) (a0_2 : ByteArray) (a0_3 : Int) (l0_4 : List (S62)) (l0_5 : List (S43)) (a1_0 : Int) (a1_1 : Int) (a1_2 : Int) (a1_3 : ByteArray) (a1_4 : Bool) (a2_0 : Int) (a2_1 : Int) (a2_2 : Int) (a2_3 : ByteArray) (a2_4 : Bool) : Option (Int) := if a1_0 = 2 then (emulatorref28_reloc.j0 k (a0_2.size : Int) a1_0 a1_1 a1_2 a1_3 a1_4 a2_0 a2_1 a2_2 a2_3 a2_4) else (emulatorref28_reloc.j0 k (a0_1.size : Int) a1_0 a1_1 a1_2 a1_3 a1_4 a2_0 a2_1 a2_2 a2_3 a2_4)
theorem emulatorref28_reloc.mono_l : ∀ k, (∀ y0 y1 y2 y3 y4 y5 y6 y7 y8 y9 y10, LeO (emulatorref28_reloc.j0 k y0 y1 y2 y3 y4 y5 y6 y7 y8 y9 y10) (emulatorref28_reloc.j0 (k + 1) y0 y1 y2 y3 y4 y5 y6 y7 y8 y9 y10)) ∧ (∀ y0 y1 y2 y3 y4 y5 y6 y7 y8 y9 y10, LeO (emulatorref28_reloc.j1 k y0 y1 y2 y3 y4 y5 y6 y7 y8 y9 y10) (emulatorref28_reloc.j1 (k + 1) y0 y1 y2 y3 y4 y5 y6 y7 y8 y9 y10)) ∧ (∀ y0 y1 y2 y3 y4 y5, LeO (emulatorref28_reloc.j2 k y0 y1 y2 y3 y4 y5) (emulatorref28_reloc.j2 (k + 1) y0 y1 y2 y3 y4 y5)) ∧ (∀ y0 y1 y2 y3 y4 y5, LeO (emulatorref28_reloc.j3 k y0 y1 y2 y3 y4 y5) (emulatorref28_reloc.j3 (k + 1) y0 y1 y2 y3 y4 y5))
 | 0 => ⟨fun _ _ _ _ _ _ _ _ _ _ _ r h => by simp [emulatorref28_reloc.j0] at h, fun _ _ _ _ _ _ _ _ _ _ _ r h => by simp [emulatorref28_reloc.j1] at h, fun _ _ _ _ _ _ r h => by simp [emulatorref28_reloc.j2] at h, fun _ _ _ _ _ _ r h => by simp [emulatorref28_reloc.j3] at h⟩
 | k + 1 => by
  obtain ⟨ih0, ih1, ih2, ih3⟩ := emulatorref28_reloc.mono_l k
  refine ⟨?_, ?_, ?_, ?_⟩
  ·intro y0 y1 y2 y3 y4 y5 y6 y7 y8 y9 y10
   unfold emulatorref28_reloc.j0
   repeat' first
   | (with_reducible exact ih0 _ _ _ _ _ _ _ _ _ _ _)
   | (with_reducible exact ih1 _ _ _ _ _ _ _ _ _ _ _)
   | (with_reducible exact ih2 _ _ _ _ _ _)
   | (with_reducible exact ih3 _ _ _ _ _ _)
   | (with_reducible exact emulatorref28_IsName.mono _ _)
   | (with_reducible exact LeO.refl _)
   | (with_reducible exact LeO.none _)
   | (with_reducible refine LeO.ite ?_ ?_)
   | (with_reducible refine LeO.bind ?_ (fun _ => ?_))
   | exact ih0 _ _ _ _ _ _ _ _ _ _ _
   | exact ih1 _ _ _ _ _ _ _ _ _ _ _
   | exact ih2 _ _ _ _ _ _
   | exact ih3 _ _ _ _ _ _
   | exact emulatorref28_IsName.mono _ _
   | exact LeO.none _
   | refine LeO.ite ?_ ?_
   | refine LeO.bind ?_ (fun _ => ?_)
  ·intro y0 y1 y2 y3 y4 y5 y6 y7 y8 y9 y10
   unfold emulatorref28_reloc.j1
   repeat' first
   | (with_reducible exact ih0 _ _ _ _ _ _ _ _ _ _ _)
   | (with_reducible exact ih1 _ _ _ _ _ _ _ _ _ _ _)
   | (with_reducible exact ih2 _ _ _ _ _ _)
   | (with_reducible exact ih3 _ _ _ _ _ _)
   | (with_reducible exact emulatorref28_IsName.mono _ _)
   | (with_reducible exact LeO.refl _)
   | (with_reducible exact LeO.none _)
   | (with_reducible refine LeO.ite ?_ ?_)
   | (with_reducible refine LeO.bind ?_ (fun _ => ?_))
   | exact ih0 _ _ _ _ _ _ _ _ _ _ _
   | exact ih1 _ _ _ _ _ _ _ _ _ _ _
   | exact ih2 _ _ _ _ _ _
   | exact ih3 _ _ _ _ _ _
   | exact emulatorref28_IsName.mono _ _
   | exact LeO.none _
   | refine LeO.ite ?_ ?_
   | refine LeO.bind ?_ (fun _ => ?_)
  ·intro y0 y1 y2 y3 y4 y5
   unfold emulatorref28_reloc.j2
   repeat' first
   | (with_reducible exact ih0 _ _ _ _ _ _ _ _ _ _ _)
   | (with_reducible exact ih1 _ _ _ _ _ _ _ _ _ _ _)
   | (with_reducible exact ih2 _ _ _ _ _ _)
   | (with_reducible exact ih3 _ _ _ _ _ _)
   | (with_reducible exact emulatorref28_IsName.mono _ _)
   | (with_reducible exact LeO.refl _)
   | (with_reducible exact LeO.none _)
   | (with_reducible refine LeO.ite ?_ ?_)
   | (with_reducible refine LeO.bind ?_ (fun _ => ?_))
   | exact ih0 _ _ _ _ _ _ _ _ _ _ _
   | exact ih1 _ _ _ _ _ _ _ _ _ _ _
   | exact ih2 _ _ _ _ _ _
   | exact ih3 _ _ _ _ _ _
   | exact emulatorref28_IsName.mono _ _
   | exact LeO.none _
   | refine LeO.ite ?_ ?_
   | refine LeO.bind ?_ (fun _ => ?_)
  ·intro y0 y1 y2 y3 y4 y5
   unfold emulatorref28_reloc.j3
   repeat' first
   | (with_reducible exact ih0 _ _ _ _ _ _ _ _ _ _ _)
   | (with_reducible exact ih1 _ _ _ _ _ _ _ _ _ _ _)
   | (with_reducible exact ih2 _ _ _ _ _ _)
   | (with_reducible exact ih3 _ _ _ _ _ _)
   | (with_reducible exact emulatorref28_IsName.mono _ _)
   | (with_reducible exact LeO.refl _)
   | (with_reducible exact LeO.none _)
   | (with_reducible refine LeO.ite ?_ ?_)
   | (with_reducible refine LeO.bind ?_ (fun _ => ?_))
   | exact ih0 _ _ _ _ _ _ _ _ _ _ _
   | exact ih1 _ _ _ _ _ _ _ _ _ _ _
   | exact ih2 _ _ _ _ _ _
   | exact ih3 _ _ _ _ _ _
   | exact emulatorref28_IsName.mono _ _
   | exact LeO.none _
   | refine LeO.ite ?_ ?_
   | refine LeO.bind ?_ (fun _ => ?_)
theorem emulatorref28_reloc.mono : ∀ a0 a1 a2 a3 a4 a5 a6 a7 a8 a9 a10 a11 a12 a13 a14 a15 k, LeO (emulatorref28_reloc.f k a0 a1 a2 a3 a4 a5 a6 a7 a8 a9 a10 a11 a12 a13 a14 a15) (emulatorref28_reloc.f (k + 1) a0 a1 a2 a3 a4 a5 a6 a7 a8 a9 a10 a11 a12 a13 a14 a15) := by
 intro a0 a1 a2 a3 a4 a5 a6 a7 a8 a9 a10 a11 a12 a13 a14 a15 k
 obtain ⟨ih0, ih1, ih2, ih3⟩ := emulatorref28_reloc.mono_l k
 unfold emulatorref28_reloc.f
 repeat' first
   | (with_reducible exact ih0 _ _ _ _ _ _ _ _ _ _ _)
   | (with_reducible exact ih1 _ _ _ _ _ _ _ _ _ _ _)
   | (with_reducible exact ih2 _ _ _ _ _ _)
   | (with_reducible exact ih3 _ _ _ _ _ _)
   | (with_reducible exact emulatorref28_IsName.mono _ _)
   | (with_reducible exact LeO.refl _)
   | (with_reducible exact LeO.none _)
   | (with_reducible refine LeO.ite ?_ ?_)
   | (with_reducible refine LeO.bind ?_ (fun _ => ?_))
   | exact ih0 _ _ _ _ _ _ _ _ _ _ _
   | exact ih1 _ _ _ _ _ _ _ _ _ _ _
   | exact ih2 _ _ _ _ _ _
   | exact ih3 _ _ _ _ _ _
   | exact emulatorref28_IsName.mono _ _
   | exact LeO.none _
   | refine LeO.ite ?_ ?_
   | refine LeO.bind ?_ (fun _ => ?_)
set_option maxHeartbeats 8000000 in
set_option maxRecDepth 100000 in
theorem emulatorref28_reloc.calls (k : Nat) (a0_0 : ByteArray) (a0_1 : ByteArray) (a0_2 : ByteArray) (a0_3 : Int) (A0_4 : Option Addr) (c0_4 : Nat) (l0_4 : List (S62)) (A0_5 : Option Addr) (c0_5 : Nat) (l0_5 : List (S43)) (a1_0 : Int) (a1_1 : Int) (a1_2 : Int) (a1_3 : ByteArray) (a1_4 : Bool) (a2_0 : Int) (a2_1 : Int) (a2_2 : Int) (a2_3 : ByteArray) (a2_4 : Bool) (r : Int) (w : World) (hr0_4 : Kd.C k62 w A0_4 l0_4.length l0_4) (hc0_4 : l0_4.length ≤ c0_4) (hr0_5 : Kd.C k43 w A0_5 l0_5.length l0_5) (hc0_5 : l0_5.length ≤ c0_5) (h : emulatorref28_reloc.f k a0_0 a0_1 a0_2 a0_3 l0_4 l0_5 a1_0 a1_1 a1_2 a1_3 a1_4 a2_0 a2_1 a2_2 a2_3 a2_4 = some r) :
  Calls Try.prog 53 #[.agg #[.string a0_0, .string a0_1, .string a0_2, .int .i64 a0_3, .slice A0_4 l0_4.length c0_4, .slice A0_5 l0_5.length c0_5], .agg #[.int .i64 a1_0, .int .i64 a1_1, .int .i64 a1_2, .string a1_3, .bool a1_4], .agg #[.int .i64 a2_0, .int .i64 a2_1, .int .i64 a2_2, .string a2_3, .bool a2_4]] w fun e w' => e = .returned (.int .i64 r) ∧ Below w.heap.size w w' := by
 have hu25 := Try.underlying25
 have hu43 := Try.underlying43
 have HR0_4 := Aside0.mk hr0_4
 have HC0_4 := Aside0.mk hc0_4
 clear hr0_4 hc0_4
 have HR0_5 := Aside0.mk hr0_5
 have HC0_5 := Aside0.mk hc0_5
 clear hr0_5 hc0_5
 have HB := Aside0.mk (Below.refl w.heap.size w)
 have H : (if a1_0 = 2 then (emulatorref28_reloc.j0 k (a0_2.size : Int) a1_0 a1_1 a1_2 a1_3 a1_4 a2_0 a2_1 a2_2 a2_3 a2_4) else (emulatorref28_reloc.j0 k (a0_1.size : Int) a1_0 a1_1 a1_2 a1_3 a1_4 a2_0 a2_1 a2_2 a2_3 a2_4)) = some r := h
 clear h
 have HC4 := Aside0.mk H
 clear H
 go_enter Try.func53, Try.ntmps53
 go_upto_if 13 with (first | ((with_reducible refine gate_dst (N := 3) rfl ?_); refine box_event ?hg (N := 3) ?hd (cs := #[.string a0_0, .string a0_1, .string a0_2, .int .i64 a0_3, .slice A0_4 l0_4.length c0_4, .slice A0_5 l0_5.length c0_5]) (t := 25) ?hr ?_; (case hd => rfl); (case hg => rfl); (case hr => first | (go_simp; done) | (go_simp; rfl)); intro gb137 hg w5 hbox hb; have n0_ := Aside0.mk (below_step hb_ hb); have n1_ := Aside0.mk (hbox); have n2_ := Aside0.mk ((by rw [hg]; exact (below_size hb_) : w.heap.size ≤ gb137)); have n3_ := Aside0.mk ((by rw [hg]; exact (below_size hb_) : w.heap.size ≤ gb137)); clear HB; have HB := n0_; have BK137 := n1_; have GW137 := n2_; have GE137 := n3_; clear n0_ n1_ n2_ n3_; clear hb hbox hg) | ((with_reducible refine gate_dst (N := 4) rfl ?_); refine box_event ?hg (N := 4) ?hd (cs := #[.int .i64 a1_0, .int .i64 a1_1, .int .i64 a1_2, .string a1_3, .bool a1_4]) (t := 43) ?hr ?_; (case hd => rfl); (case hg => rfl); (case hr => first | (go_simp; done) | (go_simp; rfl)); intro gb138 hg w6 hbox hb; have n0_ := Aside0.mk (blk_below (bk_ BK137.out) hb); have n1_ := Aside0.mk (below_step hb_ hb); have n2_ := Aside0.mk (hbox); have n3_ := Aside0.mk ((by rw [hg]; exact (below_size hb_) : w.heap.size ≤ gb138)); have n4_ := Aside0.mk ((by rw [hg]; exact (below_size hb_) : w.heap.size ≤ gb138)); have n5_ := Aside0.mk ((by rw [hg]; exact Nat.ne_of_lt (blk_lt (bk_ BK137.out)) : gb137 ≠ gb138)); have n6_ := Aside0.mk ((by rw [hg]; exact Nat.ne_of_gt (blk_lt (bk_ BK137.out)) : gb138 ≠ gb137)); clear BK137 HB; have BK137 := n0_; have HB := n1_; have BK138 := n2_; have GW138 := n3_; have GE138 := n4_; have NB137_138 := n5_; have NB138_137 := n6_; clear n0_ n1_ n2_ n3_ n4_ n5_ n6_; clear hb hbox hg) | ((with_reducible refine gate_dst (N := 5) rfl ?_); refine box_event ?hg (N := 5) ?hd (cs := #[.int .i64 a2_0, .int .i64 a2_1, .int .i64 a2_2, .string a2_3, .bool a2_4]) (t := 43) ?hr ?_; (case hd => rfl); (case hg => rfl); (case hr => first | (go_simp; done) | (go_simp; rfl)); intro gb139 hg w7 hbox hb; have n0_ := Aside0.mk (blk_below (bk_ BK137.out) hb); have n1_ := Aside0.mk (blk_below (bk_ BK138.out) hb); have n2_ := Aside0.mk (below_step hb_ hb); have n3_ := Aside0.mk (hbox); have n4_ := Aside0.mk ((by rw [hg]; exact (below_size hb_) : w.heap.size ≤ gb139)); have n5_ := Aside0.mk ((by rw [hg]; exact (below_size hb_) : w.heap.size ≤ gb139)); have n6_ := Aside0.mk ((by rw [hg]; exact Nat.ne_of_lt (blk_lt (bk_ BK137.out)) : gb137 ≠ gb139)); have n7_ := Aside0.mk ((by rw [hg]; exact Nat.ne_of_gt (blk_lt (bk_ BK137.out)) : gb139 ≠ gb137)); have n8_ := Aside0.mk ((by rw [hg]; exact Nat.ne_of_lt (blk_lt (bk_ BK138.out)) : gb138 ≠ gb139)); have n9_ := Aside0.mk ((by rw [hg]; exact Nat.ne_of_gt (blk_lt (bk_ BK138.out)) : gb139 ≠ gb138)); clear BK137 BK138 HB; have BK137 := n0_; have BK138 := n1_; have HB := n2_; have BK139 := n3_; have GW139 := n4_; have GE139 := n5_; have NB137_139 := n6_; have NB139_137 := n7_; have NB138_139 := n8_; have NB139_138 := n9_; clear n0_ n1_ n2_ n3_ n4_ n5_ n6_ n7_ n8_ n9_; clear hb hbox hg; have hnb8 := NB137_138.out; have hnc8 := NB138_137.out; have hnb9 := NB137_139.out; have hnc9 := NB139_137.out; obtain ⟨hcz10_0, hfz10_0⟩ := bc_ BK137.out 0 rfl; obtain ⟨hcz10_1, hfz10_1⟩ := bc_ BK137.out 1 rfl; obtain ⟨hcz10_2, hfz10_2⟩ := bc_ BK137.out 2 rfl; obtain ⟨hcz10_3, hfz10_3⟩ := bc_ BK137.out 3 rfl; obtain ⟨hcz10_4, hfz10_4⟩ := bc_ BK137.out 4 rfl; obtain ⟨hcz10_5, hfz10_5⟩ := bc_ BK137.out 5 rfl; have hnb11 := NB138_139.out; have hnc11 := NB139_138.out; obtain ⟨hcz12_0, hfz12_0⟩ := bc_ BK138.out 0 rfl; obtain ⟨hcz12_1, hfz12_1⟩ := bc_ BK138.out 1 rfl; obtain ⟨hcz12_2, hfz12_2⟩ := bc_ BK138.out 2 rfl; obtain ⟨hcz12_3, hfz12_3⟩ := bc_ BK138.out 3 rfl; obtain ⟨hcz12_4, hfz12_4⟩ := bc_ BK138.out 4 rfl))
 (try simp only [Act.put, List.setIfInBounds_toArray, List.set_cons_zero, List.set_cons_succ])
 go_cut [7] (fun v7 wc => ∃ (kq : Nat) (x7_3 : Int), v7 = .int .i64 x7_3 ∧ Aside0 (emulatorref28_reloc.j0 kq x7_3 a1_0 a1_1 a1_2 a1_3 a1_4 a2_0 a2_1 a2_2 a2_3 a2_4 = some r) ∧ Aside0 (kq ≤ k) ∧ Aside0 (wc.heap[gb137]? = some (.cells #[.string a0_0, .string a0_1, .string a0_2, .int .i64 a0_3, (.slice A0_4 l0_4.length c0_4), (.slice A0_5 l0_5.length c0_5)] 25 (0, 0))) ∧ Aside0 (wc.heap[gb138]? = some (.cells #[.int .i64 a1_0, .int .i64 a1_1, .int .i64 a1_2, .string a1_3, .bool a1_4] 43 (0, 0))) ∧ Aside0 (wc.heap[gb139]? = some (.cells #[.int .i64 a2_0, .int .i64 a2_1, .int .i64 a2_2, .string a2_3, .bool a2_4] 43 (0, 0))) ∧ Aside0 (Below w.heap.size w wc))
 case first =>
  have H := HC4.out
  clear HC4
  by_cases c13 : a1_0 = 2
  ·rw [if_pos c13] at H
   have c13b0 : (a1_0 == 2) = true := beq_iff_eq.mpr c13
   have c13b1 : (a1_0 != 2) = false := bne_eq_false_iff_eq.mpr c13
   clear c13
   (first | rw [c13b0] | (simp only [i64_w, i32_w]; rw [c13b0]) | skip)
   have H' := Aside0.mk H
   clear H
   have hnb14 := NB137_138.out
   have hnc14 := NB138_137.out
   have hnb15 := NB137_139.out
   have hnc15 := NB139_137.out
   obtain ⟨hcz16_0, hfz16_0⟩ := bc_ BK137.out 0 rfl
   obtain ⟨hcz16_1, hfz16_1⟩ := bc_ BK137.out 1 rfl
   obtain ⟨hcz16_2, hfz16_2⟩ := bc_ BK137.out 2 rfl
   obtain ⟨hcz16_3, hfz16_3⟩ := bc_ BK137.out 3 rfl
   obtain ⟨hcz16_4, hfz16_4⟩ := bc_ BK137.out 4 rfl
   obtain ⟨hcz16_5, hfz16_5⟩ := bc_ BK137.out 5 rfl
   go_wp2
   go_meet
   case rel => exact ⟨_, ((a0_2.size : Int)), cl_, H', ⟨by first | omega | exact Nat.le_refl _⟩, ⟨bk_ BK137.out⟩, ⟨bk_ BK138.out⟩, ⟨bk_ BK139.out⟩, ⟨hb_⟩⟩
  ·rw [if_neg c13] at H
   have c13b0 : (a1_0 == 2) = false := beq_eq_false_iff_ne.mpr c13
   have c13b1 : (a1_0 != 2) = true := bne_iff_ne.mpr c13
   (first | rw [c13b0] | (simp only [i64_w, i32_w]; rw [c13b0]) | skip)
   have H' := Aside0.mk H
   clear H
   go_wp2
   go_meet
   case rel => exact ⟨_, ((a0_1.size : Int)), cl_, H', ⟨by first | omega | exact Nat.le_refl _⟩, ⟨bk_ BK137.out⟩, ⟨bk_ BK138.out⟩, ⟨bk_ BK139.out⟩, ⟨hb_⟩⟩
 case rest =>
  clear HC4
  clear hcz10_0; clear hcz10_1; clear hcz10_2; clear hcz10_3; clear hcz10_4; clear hcz10_5; clear hcz12_0; clear hcz12_1; clear hcz12_2; clear hcz12_3; clear hcz12_4; clear hfz10_0; clear hfz10_1; clear hfz10_2; clear hfz10_3; clear hfz10_4; clear hfz10_5; clear hfz12_0; clear hfz12_1; clear hfz12_2; clear hfz12_3; clear hfz12_4
  obtain ⟨kq, x7_3, rfl, HA, HJ3, BK137, BK138, BK139, HB⟩ := hcut
  cases kq with
  | zero => exact absurd HA.out (by simp [emulatorref28_reloc.j0])
  | succ kj3 =>
   have H := HA.out
   clear HA
   simp only [emulatorref28_reloc.j0] at H
   have HC17 := Aside0.mk H
   clear H
   go_upto_region 4 with (fail)
   go_cut [42] (fun v42 wc => ∃ (kq : Nat) (x42_16 : Bool), v42 = .bool x42_16 ∧ Aside0 (emulatorref28_reloc.j1 kq x42_16 a1_0 a1_1 a1_2 a1_3 a1_4 a2_0 a2_1 a2_2 a2_3 a2_4 = some r) ∧ Aside0 (kq ≤ kj3) ∧ Aside0 (wc.heap[gb137]? = some (.cells #[.string a0_0, .string a0_1, .string a0_2, .int .i64 a0_3, (.slice A0_4 l0_4.length c0_4), (.slice A0_5 l0_5.length c0_5)] 25 (0, 0))) ∧ Aside0 (wc.heap[gb138]? = some (.cells #[.int .i64 a1_0, .int .i64 a1_1, .int .i64 a1_2, .string a1_3, .bool a1_4] 43 (0, 0))) ∧ Aside0 (wc.heap[gb139]? = some (.cells #[.int .i64 a2_0, .int .i64 a2_1, .int .i64 a2_2, .string a2_3, .bool a2_4] 43 (0, 0))) ∧ Aside0 (Below w.heap.size w wc))
   case first =>
    have H := HC17.out
    clear HC17
    by_cases c18 : a1_0 = 1
    ·rw [if_pos c18] at H
     have c18b0 : (a1_0 == 1) = true := beq_iff_eq.mpr c18
     have c18b1 : (a1_0 != 1) = false := bne_eq_false_iff_eq.mpr c18
     clear c18
     (first | rw [c18b0] | (simp only [i64_w, i32_w]; rw [c18b0]) | skip)
     by_cases c19 : a1_1 < 0
     ·rw [if_pos c19] at H
      have c19b0 : decide (a1_1 < 0) = true := decide_eq_true c19
      clear c19
      have H' := Aside0.mk H
      clear H
      have hnb20 := NB138_137.out
      have hnc20 := NB137_138.out
      have hnb21 := NB138_139.out
      have hnc21 := NB139_138.out
      obtain ⟨hcz22_0, hfz22_0⟩ := bc_ BK138.out 0 rfl
      obtain ⟨hcz22_1, hfz22_1⟩ := bc_ BK138.out 1 rfl
      obtain ⟨hcz22_2, hfz22_2⟩ := bc_ BK138.out 2 rfl
      obtain ⟨hcz22_3, hfz22_3⟩ := bc_ BK138.out 3 rfl
      obtain ⟨hcz22_4, hfz22_4⟩ := bc_ BK138.out 4 rfl
      go_wp2
      go_meet
      case rel => exact ⟨_, (true), cl_, H', ⟨by have := HJ3.out; first | omega | exact Nat.le_refl _⟩, ⟨bk_ BK137.out⟩, ⟨bk_ BK138.out⟩, ⟨bk_ BK139.out⟩, ⟨hb_⟩⟩
     ·rw [if_neg c19] at H
      have c19b0 : decide (a1_1 < 0) = false := decide_eq_false c19
      clear c19
      by_cases c23 : (Int.tmod a1_1 2) = 0
      ·rw [if_pos c23] at H
       have c23b0 : ((Int.tmod a1_1 2) == 0) = true := beq_iff_eq.mpr c23
       have c23b1 : ((Int.tmod a1_1 2) != 0) = false := bne_eq_false_iff_eq.mpr c23
       clear c23
       have H' := Aside0.mk H
       clear H
       have hnb24 := NB138_137.out
       have hnc24 := NB137_138.out
       have hnb25 := NB138_139.out
       have hnc25 := NB139_138.out
       obtain ⟨hcz26_0, hfz26_0⟩ := bc_ BK138.out 0 rfl
       obtain ⟨hcz26_1, hfz26_1⟩ := bc_ BK138.out 1 rfl
       obtain ⟨hcz26_2, hfz26_2⟩ := bc_ BK138.out 2 rfl
       obtain ⟨hcz26_3, hfz26_3⟩ := bc_ BK138.out 3 rfl
       obtain ⟨hcz26_4, hfz26_4⟩ := bc_ BK138.out 4 rfl
       go_wp2
       go_meet
       case rel => exact ⟨_, (decide (a1_1 > (wrap64 (x7_3 - 2)))), cl_, H', ⟨by have := HJ3.out; first | omega | exact Nat.le_refl _⟩, ⟨bk_ BK137.out⟩, ⟨bk_ BK138.out⟩, ⟨bk_ BK139.out⟩, ⟨hb_⟩⟩
      ·rw [if_neg c23] at H
       have c23b0 : ((Int.tmod a1_1 2) == 0) = false := beq_eq_false_iff_ne.mpr c23
       have c23b1 : ((Int.tmod a1_1 2) != 0) = true := bne_iff_ne.mpr c23
       have H' := Aside0.mk H
       clear H
       have hnb27 := NB138_137.out
       have hnc27 := NB137_138.out
       have hnb28 := NB138_139.out
       have hnc28 := NB139_138.out
       obtain ⟨hcz29_0, hfz29_0⟩ := bc_ BK138.out 0 rfl
       obtain ⟨hcz29_1, hfz29_1⟩ := bc_ BK138.out 1 rfl
       obtain ⟨hcz29_2, hfz29_2⟩ := bc_ BK138.out 2 rfl
       obtain ⟨hcz29_3, hfz29_3⟩ := bc_ BK138.out 3 rfl
       obtain ⟨hcz29_4, hfz29_4⟩ := bc_ BK138.out 4 rfl
       go_wp2
       go_meet
       case rel => exact ⟨_, (true), cl_, H', ⟨by have := HJ3.out; first | omega | exact Nat.le_refl _⟩, ⟨bk_ BK137.out⟩, ⟨bk_ BK138.out⟩, ⟨bk_ BK139.out⟩, ⟨hb_⟩⟩
    ·rw [if_neg c18] at H
     have c18b0 : (a1_0 == 1) = false := beq_eq_false_iff_ne.mpr c18
     have c18b1 : (a1_0 != 1) = true := bne_iff_ne.mpr c18
     (first | rw [c18b0] | (simp only [i64_w, i32_w]; rw [c18b0]) | skip)
     by_cases c30 : a1_0 = 2
     ·rw [if_pos c30] at H
      have c30b0 : (a1_0 == 2) = true := beq_iff_eq.mpr c30
      have c30b1 : (a1_0 != 2) = false := bne_eq_false_iff_eq.mpr c30
      clear c30
      by_cases c31 : a1_1 < 0
      ·rw [if_pos c31] at H
       have c31b0 : decide (a1_1 < 0) = true := decide_eq_true c31
       clear c31
       have H' := Aside0.mk H
       clear H
       have hnb32 := NB138_137.out
       have hnc32 := NB137_138.out
       have hnb33 := NB138_139.out
       have hnc33 := NB139_138.out
       obtain ⟨hcz34_0, hfz34_0⟩ := bc_ BK138.out 0 rfl
       obtain ⟨hcz34_1, hfz34_1⟩ := bc_ BK138.out 1 rfl
       obtain ⟨hcz34_2, hfz34_2⟩ := bc_ BK138.out 2 rfl
       obtain ⟨hcz34_3, hfz34_3⟩ := bc_ BK138.out 3 rfl
       obtain ⟨hcz34_4, hfz34_4⟩ := bc_ BK138.out 4 rfl
       go_wp2
       go_meet
       case rel => exact ⟨_, (true), cl_, H', ⟨by have := HJ3.out; first | omega | exact Nat.le_refl _⟩, ⟨bk_ BK137.out⟩, ⟨bk_ BK138.out⟩, ⟨bk_ BK139.out⟩, ⟨hb_⟩⟩
      ·rw [if_neg c31] at H
       have c31b0 : decide (a1_1 < 0) = false := decide_eq_false c31
       clear c31
       by_cases c35 : (Int.tmod a1_1 2) = 0
       ·rw [if_pos c35] at H
        have c35b0 : ((Int.tmod a1_1 2) == 0) = true := beq_iff_eq.mpr c35
        have c35b1 : ((Int.tmod a1_1 2) != 0) = false := bne_eq_false_iff_eq.mpr c35
        clear c35
        have H' := Aside0.mk H
        clear H
        have hnb36 := NB138_137.out
        have hnc36 := NB137_138.out
        have hnb37 := NB138_139.out
        have hnc37 := NB139_138.out
        obtain ⟨hcz38_0, hfz38_0⟩ := bc_ BK138.out 0 rfl
        obtain ⟨hcz38_1, hfz38_1⟩ := bc_ BK138.out 1 rfl
        obtain ⟨hcz38_2, hfz38_2⟩ := bc_ BK138.out 2 rfl
        obtain ⟨hcz38_3, hfz38_3⟩ := bc_ BK138.out 3 rfl
        obtain ⟨hcz38_4, hfz38_4⟩ := bc_ BK138.out 4 rfl
        go_wp2
        go_meet
        case rel => exact ⟨_, (decide (a1_1 > (wrap64 (x7_3 - 2)))), cl_, H', ⟨by have := HJ3.out; first | omega | exact Nat.le_refl _⟩, ⟨bk_ BK137.out⟩, ⟨bk_ BK138.out⟩, ⟨bk_ BK139.out⟩, ⟨hb_⟩⟩
       ·rw [if_neg c35] at H
        have c35b0 : ((Int.tmod a1_1 2) == 0) = false := beq_eq_false_iff_ne.mpr c35
        have c35b1 : ((Int.tmod a1_1 2) != 0) = true := bne_iff_ne.mpr c35
        have H' := Aside0.mk H
        clear H
        have hnb39 := NB138_137.out
        have hnc39 := NB137_138.out
        have hnb40 := NB138_139.out
        have hnc40 := NB139_138.out
        obtain ⟨hcz41_0, hfz41_0⟩ := bc_ BK138.out 0 rfl
        obtain ⟨hcz41_1, hfz41_1⟩ := bc_ BK138.out 1 rfl
        obtain ⟨hcz41_2, hfz41_2⟩ := bc_ BK138.out 2 rfl
        obtain ⟨hcz41_3, hfz41_3⟩ := bc_ BK138.out 3 rfl
        obtain ⟨hcz41_4, hfz41_4⟩ := bc_ BK138.out 4 rfl
        go_wp2
        go_meet
        case rel => exact ⟨_, (true), cl_, H', ⟨by have := HJ3.out; first | omega | exact Nat.le_refl _⟩, ⟨bk_ BK137.out⟩, ⟨bk_ BK138.out⟩, ⟨bk_ BK139.out⟩, ⟨hb_⟩⟩
     ·rw [if_neg c30] at H
      have c30b0 : (a1_0 == 2) = false := beq_eq_false_iff_ne.mpr c30
      have c30b1 : (a1_0 != 2) = true := bne_iff_ne.mpr c30
      have H' := Aside0.mk H
      clear H
      have hnb42 := NB138_137.out
      have hnc42 := NB137_138.out
      have hnb43 := NB138_139.out
      have hnc43 := NB139_138.out
      obtain ⟨hcz44_0, hfz44_0⟩ := bc_ BK138.out 0 rfl
      obtain ⟨hcz44_1, hfz44_1⟩ := bc_ BK138.out 1 rfl
      obtain ⟨hcz44_2, hfz44_2⟩ := bc_ BK138.out 2 rfl
      obtain ⟨hcz44_3, hfz44_3⟩ := bc_ BK138.out 3 rfl
      obtain ⟨hcz44_4, hfz44_4⟩ := bc_ BK138.out 4 rfl
      go_wp2
      go_meet
      case rel => exact ⟨_, (true), cl_, H', ⟨by have := HJ3.out; first | omega | exact Nat.le_refl _⟩, ⟨bk_ BK137.out⟩, ⟨bk_ BK138.out⟩, ⟨bk_ BK139.out⟩, ⟨hb_⟩⟩
   case rest =>
    clear HC17
    obtain ⟨kq, x42_16, rfl, HA, HJ16, BK137, BK138, BK139, HB⟩ := hcut
    cases kq with
    | zero => exact absurd HA.out (by simp [emulatorref28_reloc.j1])
    | succ kj16 =>
     have H := HA.out
     clear HA
     simp only [emulatorref28_reloc.j1] at H
     by_cases c45 : x42_16 = true
     ·subst c45
      have H1 : (some 2) = some r := by rw [if_pos rfl] at H; exact H
      clear H
      have H := H1
      clear H1
      obtain rfl := Option.some.inj H
      go_wp2
      go_ret
      exact ⟨ew_, hb_⟩
     ·replace c45 := Bool.eq_false_iff.mpr c45
      subst c45
      have H1 : (if a2_0 > a1_0 then (emulatorref28_reloc.j2 kj16 true a1_0 a1_1 a1_2 a1_3 a1_4) else (if a2_0 = a1_0 then (emulatorref28_reloc.j2 kj16 (decide (a2_1 ≥ a1_1)) a1_0 a1_1 a1_2 a1_3 a1_4) else (emulatorref28_reloc.j2 kj16 false a1_0 a1_1 a1_2 a1_3 a1_4))) = some r := by rw [if_neg (show ¬ (false = true) by decide)] at H; exact H
      clear H
      have H := H1
      clear H1
      have HC46 := Aside0.mk H
      clear H
      go_upto_region 6 with (fail)
      go_cut [61] (fun v61 wc => ∃ (kq : Nat) (x61_45 : Bool), v61 = .bool x61_45 ∧ Aside0 (emulatorref28_reloc.j2 kq x61_45 a1_0 a1_1 a1_2 a1_3 a1_4 = some r) ∧ Aside0 (kq ≤ kj16) ∧ Aside0 (wc.heap[gb137]? = some (.cells #[.string a0_0, .string a0_1, .string a0_2, .int .i64 a0_3, (.slice A0_4 l0_4.length c0_4), (.slice A0_5 l0_5.length c0_5)] 25 (0, 0))) ∧ Aside0 (wc.heap[gb138]? = some (.cells #[.int .i64 a1_0, .int .i64 a1_1, .int .i64 a1_2, .string a1_3, .bool a1_4] 43 (0, 0))) ∧ Aside0 (wc.heap[gb139]? = some (.cells #[.int .i64 a2_0, .int .i64 a2_1, .int .i64 a2_2, .string a2_3, .bool a2_4] 43 (0, 0))) ∧ Aside0 (Below w.heap.size w wc))
      case first =>
       have H := HC46.out
       clear HC46
       by_cases c47 : a2_0 > a1_0
       ·rw [if_pos c47] at H
        have c47b0 : decide (a1_0 < a2_0) = true := decide_eq_true c47
        clear c47
        (first | rw [c47b0] | (simp only [i64_w, i32_w]; rw [c47b0]) | skip)
        have H' := Aside0.mk H
        clear H
        have hnb48 := NB139_137.out
        have hnc48 := NB137_139.out
        have hnb49 := NB139_138.out
        have hnc49 := NB138_139.out
        obtain ⟨hcz50_0, hfz50_0⟩ := bc_ BK139.out 0 rfl
        obtain ⟨hcz50_1, hfz50_1⟩ := bc_ BK139.out 1 rfl
        obtain ⟨hcz50_2, hfz50_2⟩ := bc_ BK139.out 2 rfl
        obtain ⟨hcz50_3, hfz50_3⟩ := bc_ BK139.out 3 rfl
        obtain ⟨hcz50_4, hfz50_4⟩ := bc_ BK139.out 4 rfl
        have hnb51 := NB138_137.out
        have hnc51 := NB137_138.out
        obtain ⟨hcz52_0, hfz52_0⟩ := bc_ BK138.out 0 rfl
        obtain ⟨hcz52_1, hfz52_1⟩ := bc_ BK138.out 1 rfl
        obtain ⟨hcz52_2, hfz52_2⟩ := bc_ BK138.out 2 rfl
        obtain ⟨hcz52_3, hfz52_3⟩ := bc_ BK138.out 3 rfl
        obtain ⟨hcz52_4, hfz52_4⟩ := bc_ BK138.out 4 rfl
        go_wp2
        go_meet
        case rel => exact ⟨_, (true), cl_, H', ⟨by have := HJ3.out; have := HJ16.out; first | omega | exact Nat.le_refl _⟩, ⟨bk_ BK137.out⟩, ⟨bk_ BK138.out⟩, ⟨bk_ BK139.out⟩, ⟨hb_⟩⟩
       ·rw [if_neg c47] at H
        have c47b0 : decide (a1_0 < a2_0) = false := decide_eq_false c47
        clear c47
        (first | rw [c47b0] | (simp only [i64_w, i32_w]; rw [c47b0]) | skip)
        by_cases c53 : a2_0 = a1_0
        ·rw [if_pos c53] at H
         have c53b0 : (a2_0 == a1_0) = true := beq_iff_eq.mpr c53
         have c53b1 : (a2_0 != a1_0) = false := bne_eq_false_iff_eq.mpr c53
         clear c53
         have H' := Aside0.mk H
         clear H
         have hnb54 := NB139_137.out
         have hnc54 := NB137_139.out
         have hnb55 := NB139_138.out
         have hnc55 := NB138_139.out
         obtain ⟨hcz56_0, hfz56_0⟩ := bc_ BK139.out 0 rfl
         obtain ⟨hcz56_1, hfz56_1⟩ := bc_ BK139.out 1 rfl
         obtain ⟨hcz56_2, hfz56_2⟩ := bc_ BK139.out 2 rfl
         obtain ⟨hcz56_3, hfz56_3⟩ := bc_ BK139.out 3 rfl
         obtain ⟨hcz56_4, hfz56_4⟩ := bc_ BK139.out 4 rfl
         have hnb57 := NB138_137.out
         have hnc57 := NB137_138.out
         obtain ⟨hcz58_0, hfz58_0⟩ := bc_ BK138.out 0 rfl
         obtain ⟨hcz58_1, hfz58_1⟩ := bc_ BK138.out 1 rfl
         obtain ⟨hcz58_2, hfz58_2⟩ := bc_ BK138.out 2 rfl
         obtain ⟨hcz58_3, hfz58_3⟩ := bc_ BK138.out 3 rfl
         obtain ⟨hcz58_4, hfz58_4⟩ := bc_ BK138.out 4 rfl
         go_wp2
         go_meet
         case rel => exact ⟨_, (decide (a2_1 ≥ a1_1)), cl_, H', ⟨by have := HJ3.out; have := HJ16.out; first | omega | exact Nat.le_refl _⟩, ⟨bk_ BK137.out⟩, ⟨bk_ BK138.out⟩, ⟨bk_ BK139.out⟩, ⟨hb_⟩⟩
        ·rw [if_neg c53] at H
         have c53b0 : (a2_0 == a1_0) = false := beq_eq_false_iff_ne.mpr c53
         have c53b1 : (a2_0 != a1_0) = true := bne_iff_ne.mpr c53
         have H' := Aside0.mk H
         clear H
         have hnb59 := NB139_137.out
         have hnc59 := NB137_139.out
         have hnb60 := NB139_138.out
         have hnc60 := NB138_139.out
         obtain ⟨hcz61_0, hfz61_0⟩ := bc_ BK139.out 0 rfl
         obtain ⟨hcz61_1, hfz61_1⟩ := bc_ BK139.out 1 rfl
         obtain ⟨hcz61_2, hfz61_2⟩ := bc_ BK139.out 2 rfl
         obtain ⟨hcz61_3, hfz61_3⟩ := bc_ BK139.out 3 rfl
         obtain ⟨hcz61_4, hfz61_4⟩ := bc_ BK139.out 4 rfl
         have hnb62 := NB138_137.out
         have hnc62 := NB137_138.out
         obtain ⟨hcz63_0, hfz63_0⟩ := bc_ BK138.out 0 rfl
         obtain ⟨hcz63_1, hfz63_1⟩ := bc_ BK138.out 1 rfl
         obtain ⟨hcz63_2, hfz63_2⟩ := bc_ BK138.out 2 rfl
         obtain ⟨hcz63_3, hfz63_3⟩ := bc_ BK138.out 3 rfl
         obtain ⟨hcz63_4, hfz63_4⟩ := bc_ BK138.out 4 rfl
         go_wp2
         go_meet
         case rel => exact ⟨_, (false), cl_, H', ⟨by have := HJ3.out; have := HJ16.out; first | omega | exact Nat.le_refl _⟩, ⟨bk_ BK137.out⟩, ⟨bk_ BK138.out⟩, ⟨bk_ BK139.out⟩, ⟨hb_⟩⟩
      case rest =>
       clear HC46
       obtain ⟨kq, x61_45, rfl, HA, HJ45, BK137, BK138, BK139, HB⟩ := hcut
       cases kq with
       | zero => exact absurd HA.out (by simp [emulatorref28_reloc.j2])
       | succ kj45 =>
        have H := HA.out
        clear HA
        simp only [emulatorref28_reloc.j2] at H
        by_cases c64 : x61_45 = true
        ·subst c64
         have H1 : (some 2) = some r := by rw [if_pos rfl] at H; exact H
         clear H
         have H := H1
         clear H1
         obtain rfl := Option.some.inj H
         go_wp2
         go_ret
         exact ⟨ew_, hb_⟩
        ·replace c64 := Bool.eq_false_iff.mpr c64
         subst c64
         have H1 : (if a1_2 < 0 then (emulatorref28_reloc.j3 kj45 true a1_0 a1_1 a1_2 a1_3 a1_4) else (if a1_2 > 4 then (emulatorref28_reloc.j3 kj45 true a1_0 a1_1 a1_2 a1_3 a1_4) else (if a1_2 = 0 then (emulatorref28_reloc.j3 kj45 (!a1_4) a1_0 a1_1 a1_2 a1_3 a1_4) else (emulatorref28_reloc.j3 kj45 false a1_0 a1_1 a1_2 a1_3 a1_4)))) = some r := by rw [if_neg (show ¬ (false = true) by decide)] at H; exact H
         clear H
         have H := H1
         clear H1
         have HC65 := Aside0.mk H
         clear H
         go_upto_region 8 with (fail)
         go_cut [79] (fun v79 wc => ∃ (kq : Nat) (x79_64 : Bool), v79 = .bool x79_64 ∧ Aside0 (emulatorref28_reloc.j3 kq x79_64 a1_0 a1_1 a1_2 a1_3 a1_4 = some r) ∧ Aside0 (kq ≤ kj45) ∧ Aside0 (wc.heap[gb137]? = some (.cells #[.string a0_0, .string a0_1, .string a0_2, .int .i64 a0_3, (.slice A0_4 l0_4.length c0_4), (.slice A0_5 l0_5.length c0_5)] 25 (0, 0))) ∧ Aside0 (wc.heap[gb138]? = some (.cells #[.int .i64 a1_0, .int .i64 a1_1, .int .i64 a1_2, .string a1_3, .bool a1_4] 43 (0, 0))) ∧ Aside0 (wc.heap[gb139]? = some (.cells #[.int .i64 a2_0, .int .i64 a2_1, .int .i64 a2_2, .string a2_3, .bool a2_4] 43 (0, 0))) ∧ Aside0 (Below w.heap.size w wc))
         case first =>
          have H := HC65.out
          clear HC65
          by_cases c66 : a1_2 < 0
          ·rw [if_pos c66] at H
           have c66b0 : decide (a1_2 < 0) = true := decide_eq_true c66
           clear c66
           (first | rw [c66b0] | (simp only [i64_w, i32_w]; rw [c66b0]) | skip)
           have H' := Aside0.mk H
           clear H
           have hnb67 := NB138_137.out
           have hnc67 := NB137_138.out
           have hnb68 := NB138_139.out
           have hnc68 := NB139_138.out
           obtain ⟨hcz69_0, hfz69_0⟩ := bc_ BK138.out 0 rfl
           obtain ⟨hcz69_1, hfz69_1⟩ := bc_ BK138.out 1 rfl
           obtain ⟨hcz69_2, hfz69_2⟩ := bc_ BK138.out 2 rfl
           obtain ⟨hcz69_3, hfz69_3⟩ := bc_ BK138.out 3 rfl
           obtain ⟨hcz69_4, hfz69_4⟩ := bc_ BK138.out 4 rfl
           go_wp2
           go_meet
           case rel => exact ⟨_, (true), cl_, H', ⟨by have := HJ3.out; have := HJ16.out; have := HJ45.out; first | omega | exact Nat.le_refl _⟩, ⟨bk_ BK137.out⟩, ⟨bk_ BK138.out⟩, ⟨bk_ BK139.out⟩, ⟨hb_⟩⟩
          ·rw [if_neg c66] at H
           have c66b0 : decide (a1_2 < 0) = false := decide_eq_false c66
           clear c66
           (first | rw [c66b0] | (simp only [i64_w, i32_w]; rw [c66b0]) | skip)
           by_cases c70 : a1_2 > 4
           ·rw [if_pos c70] at H
            have c70b0 : decide (4 < a1_2) = true := decide_eq_true c70
            clear c70
            have H' := Aside0.mk H
            clear H
            have hnb71 := NB138_137.out
            have hnc71 := NB137_138.out
            have hnb72 := NB138_139.out
            have hnc72 := NB139_138.out
            obtain ⟨hcz73_0, hfz73_0⟩ := bc_ BK138.out 0 rfl
            obtain ⟨hcz73_1, hfz73_1⟩ := bc_ BK138.out 1 rfl
            obtain ⟨hcz73_2, hfz73_2⟩ := bc_ BK138.out 2 rfl
            obtain ⟨hcz73_3, hfz73_3⟩ := bc_ BK138.out 3 rfl
            obtain ⟨hcz73_4, hfz73_4⟩ := bc_ BK138.out 4 rfl
            go_wp2
            go_meet
            case rel => exact ⟨_, (true), cl_, H', ⟨by have := HJ3.out; have := HJ16.out; have := HJ45.out; first | omega | exact Nat.le_refl _⟩, ⟨bk_ BK137.out⟩, ⟨bk_ BK138.out⟩, ⟨bk_ BK139.out⟩, ⟨hb_⟩⟩
           ·rw [if_neg c70] at H
            have c70b0 : decide (4 < a1_2) = false := decide_eq_false c70
            clear c70
            by_cases c74 : a1_2 = 0
            ·rw [if_pos c74] at H
             have c74b0 : (a1_2 == 0) = true := beq_iff_eq.mpr c74
             have c74b1 : (a1_2 != 0) = false := bne_eq_false_iff_eq.mpr c74
             clear c74
             have H' := Aside0.mk H
             clear H
             have hnb75 := NB138_137.out
             have hnc75 := NB137_138.out
             have hnb76 := NB138_139.out
             have hnc76 := NB139_138.out
             obtain ⟨hcz77_0, hfz77_0⟩ := bc_ BK138.out 0 rfl
             obtain ⟨hcz77_1, hfz77_1⟩ := bc_ BK138.out 1 rfl
             obtain ⟨hcz77_2, hfz77_2⟩ := bc_ BK138.out 2 rfl
             obtain ⟨hcz77_3, hfz77_3⟩ := bc_ BK138.out 3 rfl
             obtain ⟨hcz77_4, hfz77_4⟩ := bc_ BK138.out 4 rfl
             go_wp2
             go_meet
             case rel => exact ⟨_, (!a1_4), cl_, H', ⟨by have := HJ3.out; have := HJ16.out; have := HJ45.out; first | omega | exact Nat.le_refl _⟩, ⟨bk_ BK137.out⟩, ⟨bk_ BK138.out⟩, ⟨bk_ BK139.out⟩, ⟨hb_⟩⟩
            ·rw [if_neg c74] at H
             have c74b0 : (a1_2 == 0) = false := beq_eq_false_iff_ne.mpr c74
             have c74b1 : (a1_2 != 0) = true := bne_iff_ne.mpr c74
             have H' := Aside0.mk H
             clear H
             have hnb78 := NB138_137.out
             have hnc78 := NB137_138.out
             have hnb79 := NB138_139.out
             have hnc79 := NB139_138.out
             obtain ⟨hcz80_0, hfz80_0⟩ := bc_ BK138.out 0 rfl
             obtain ⟨hcz80_1, hfz80_1⟩ := bc_ BK138.out 1 rfl
             obtain ⟨hcz80_2, hfz80_2⟩ := bc_ BK138.out 2 rfl
             obtain ⟨hcz80_3, hfz80_3⟩ := bc_ BK138.out 3 rfl
             obtain ⟨hcz80_4, hfz80_4⟩ := bc_ BK138.out 4 rfl
             go_wp2
             go_meet
             case rel => exact ⟨_, (false), cl_, H', ⟨by have := HJ3.out; have := HJ16.out; have := HJ45.out; first | omega | exact Nat.le_refl _⟩, ⟨bk_ BK137.out⟩, ⟨bk_ BK138.out⟩, ⟨bk_ BK139.out⟩, ⟨hb_⟩⟩
         case rest =>
          clear HC65
          obtain ⟨kq, x79_64, rfl, HA, HJ64, BK137, BK138, BK139, HB⟩ := hcut
          cases kq with
          | zero => exact absurd HA.out (by simp [emulatorref28_reloc.j3])
          | succ kj64 =>
           have H := HA.out
           clear HA
           simp only [emulatorref28_reloc.j3] at H
           by_cases c81 : x79_64 = true
           ·subst c81
            have H1 : (some 2) = some r := by rw [if_pos rfl] at H; exact H
            clear H
            have H := H1
            clear H1
            obtain rfl := Option.some.inj H
            go_wp2
            go_ret
            exact ⟨ew_, hb_⟩
           ·replace c81 := Bool.eq_false_iff.mpr c81
            subst c81
            have H1 : (if a1_2 = 4 then ((emulatorref28_IsName.f kj64 a1_3).bind fun t140 => (if t140 = true then (some 0) else (some 4))) else (if a1_3.toList = ([] : List UInt8) then (some 0) else (some 4))) = some r := by rw [if_neg (show ¬ (false = true) by decide)] at H; exact H
            clear H
            have H := H1
            clear H1
            by_cases c82 : a1_2 = 4
            ·rw [if_pos c82] at H
             have c82b0 : (a1_2 == 4) = true := beq_iff_eq.mpr c82
             have c82b1 : (a1_2 != 4) = false := bne_eq_false_iff_eq.mpr c82
             clear c82
             replace H := Option.bind_eq_some_iff.mp H
             obtain ⟨t140, A830, H⟩ := H
             (try dsimp only at H)
             have A83 := Aside0.mk A830
             clear A830
             by_cases c84 : t140 = true
             ·subst c84
              have H1 : (some 0) = some r := by rw [if_pos rfl] at H; exact H
              clear H
              have H := H1
              clear H1
              obtain rfl := Option.some.inj H
              have hnb85 := NB138_137.out
              have hnc85 := NB137_138.out
              have hnb86 := NB138_139.out
              have hnc86 := NB139_138.out
              obtain ⟨hcz87_0, hfz87_0⟩ := bc_ BK138.out 0 rfl
              obtain ⟨hcz87_1, hfz87_1⟩ := bc_ BK138.out 1 rfl
              obtain ⟨hcz87_2, hfz87_2⟩ := bc_ BK138.out 2 rfl
              obtain ⟨hcz87_3, hfz87_3⟩ := bc_ BK138.out 3 rfl
              obtain ⟨hcz87_4, hfz87_4⟩ := bc_ BK138.out 4 rfl
              go_wp2_with (first | (go_at_call 51; (with_reducible refine (emulatorref28_IsName.calls kj64 a1_3 true _ A83.out).mono ?_); rintro e w' ⟨rfl, ⟨nd, rfl⟩⟩))
              go_ret
              exact ⟨ew_, hb_⟩
             ·replace c84 := Bool.eq_false_iff.mpr c84
              subst c84
              have H1 : (some 4) = some r := by rw [if_neg (show ¬ (false = true) by decide)] at H; exact H
              clear H
              have H := H1
              clear H1
              obtain rfl := Option.some.inj H
              have hnb88 := NB138_137.out
              have hnc88 := NB137_138.out
              have hnb89 := NB138_139.out
              have hnc89 := NB139_138.out
              obtain ⟨hcz90_0, hfz90_0⟩ := bc_ BK138.out 0 rfl
              obtain ⟨hcz90_1, hfz90_1⟩ := bc_ BK138.out 1 rfl
              obtain ⟨hcz90_2, hfz90_2⟩ := bc_ BK138.out 2 rfl
              obtain ⟨hcz90_3, hfz90_3⟩ := bc_ BK138.out 3 rfl
              obtain ⟨hcz90_4, hfz90_4⟩ := bc_ BK138.out 4 rfl
              go_wp2_with (first | (go_at_call 51; (with_reducible refine (emulatorref28_IsName.calls kj64 a1_3 false _ A83.out).mono ?_); rintro e w' ⟨rfl, ⟨nd, rfl⟩⟩))
              go_ret
              exact ⟨ew_, hb_⟩
            ·rw [if_neg c82] at H
             have c82b0 : (a1_2 == 4) = false := beq_eq_false_iff_ne.mpr c82
             have c82b1 : (a1_2 != 4) = true := bne_iff_ne.mpr c82
             by_cases c91 : a1_3.toList = ([] : List UInt8)
             ·rw [if_pos c91] at H
              have c91b0 : (a1_3.toList == ([] : List UInt8)) = true := beq_iff_eq.mpr c91
              have c91b1 : (a1_3.toList != ([] : List UInt8)) = false := bne_eq_false_iff_eq.mpr c91
              clear c91
              obtain rfl := Option.some.inj H
              have hnb92 := NB138_137.out
              have hnc92 := NB137_138.out
              have hnb93 := NB138_139.out
              have hnc93 := NB139_138.out
              obtain ⟨hcz94_0, hfz94_0⟩ := bc_ BK138.out 0 rfl
              obtain ⟨hcz94_1, hfz94_1⟩ := bc_ BK138.out 1 rfl
              obtain ⟨hcz94_2, hfz94_2⟩ := bc_ BK138.out 2 rfl
              obtain ⟨hcz94_3, hfz94_3⟩ := bc_ BK138.out 3 rfl
              obtain ⟨hcz94_4, hfz94_4⟩ := bc_ BK138.out 4 rfl
              go_wp2
              go_ret
              exact ⟨ew_, hb_⟩
             ·rw [if_neg c91] at H
              have c91b0 : (a1_3.toList == ([] : List UInt8)) = false := beq_eq_false_iff_ne.mpr c91
              have c91b1 : (a1_3.toList != ([] : List UInt8)) = true := bne_iff_ne.mpr c91
              obtain rfl := Option.some.inj H
              have hnb95 := NB138_137.out
              have hnc95 := NB137_138.out
              have hnb96 := NB138_139.out
              have hnc96 := NB139_138.out
              obtain ⟨hcz97_0, hfz97_0⟩ := bc_ BK138.out 0 rfl
              obtain ⟨hcz97_1, hfz97_1⟩ := bc_ BK138.out 1 rfl
              obtain ⟨hcz97_2, hfz97_2⟩ := bc_ BK138.out 2 rfl
              obtain ⟨hcz97_3, hfz97_3⟩ := bc_ BK138.out 3 rfl
              obtain ⟨hcz97_4, hfz97_4⟩ := bc_ BK138.out 4 rfl
              go_wp2
              go_ret
              exact ⟨ew_, hb_⟩
end Go.Proofs.Ytenlmckahaniiaa.K
end
