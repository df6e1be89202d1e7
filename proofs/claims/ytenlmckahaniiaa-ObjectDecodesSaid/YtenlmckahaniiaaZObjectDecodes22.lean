/- Lemmas for the law ObjectDecodes: what its proof needs of this seat's texts, in one place. -/
import Derived.Test.YtenlmckahaniiaaZObjectDecodes21
section
namespace Go.Proofs.Ytenlmckahaniiaa.K
open Go.RowKit Go.Proofs.YtenlmckahaniiaaW.PrintWords Go.Proofs.YtenlmckahaniiaaW.PrintLast
set_option linter.unusedVariables false
set_option linter.unusedSimpArgs false
attribute [local go_sem high] eqA43
mutual
def emulatorref28_SameModule.j0 : Nat → Bool → ByteArray → ByteArray → ByteArray → Int → List (S62) → List (S43) → ByteArray → ByteArray → ByteArray → Int → List (S62) → List (S43) → Option (Bool)
  | 0, _, _, _, _, _, _, _, _, _, _, _, _, _ => none
  | k + 1, x48, x567000, x567001, x567002, x567003, x567004, x567005, x568000, x568001, x568002, x568003, x568004, x568005 => if x48 = true then (some false) else (emulatorref28_SameModule.l0 k 0 x567000 x567001 x567002 x567003 x567004 x567005 x568000 x568001 x568002 x568003 x568004 x568005)
def emulatorref28_SameModule.l0 : Nat → Int → ByteArray → ByteArray → ByteArray → Int → List (S62) → List (S43) → ByteArray → ByteArray → ByteArray → Int → List (S62) → List (S43) → Option (Bool)
  | 0, _, _, _, _, _, _, _, _, _, _, _, _, _ => none
  | k + 1, x5, x567000, x567001, x567002, x567003, x567004, x567005, x568000, x568001, x568002, x568003, x568004, x568005 => if x5 < (x567005.length : Int) then (if 0 ≤ x5 then (if x5 < (x568005.length : Int) then (if (!(((rd_T43 x567005 x5).f0) == ((rd_T43 x568005 x5).f0)) || (!(((rd_T43 x567005 x5).f1) == ((rd_T43 x568005 x5).f1)) || (!(((rd_T43 x567005 x5).f2) == ((rd_T43 x568005 x5).f2)) || (!((((rd_T43 x567005 x5).f3).toList) == (((rd_T43 x568005 x5).f3).toList)) || (!(((rd_T43 x567005 x5).f4) == ((rd_T43 x568005 x5).f4))))))) = true then (some false) else (emulatorref28_SameModule.l0 k (wrap64 (x5 + 1)) x567000 x567001 x567002 x567003 x567004 x567005 x568000 x568001 x568002 x568003 x568004 x568005)) else (none)) else (none)) else (some true)
end
def emulatorref28_SameModule.f (k : Nat) (a0_0 : ByteArray) (a0_1 : ByteArray) (a0_2 : ByteArray) (a0_3 : Int) (l0_4 : List (S62)) (l0_5 : List (S43)) (a1_0 : ByteArray) (a1_1 : ByteArray) (a1_2 : ByteArray) (a1_3 : Int) (l1_4 : List (S62)) (l1_5 : List (S43)) : Option (Bool) := if a0_0.toList = a1_0.toList then (if a0_1.toList = a1_1.toList then (if a0_2.toList = a1_2.toList then (if a0_3 = a1_3 then ((emulatorref28_SameSymbols.f k l0_4 l1_4).bind fun t568 => (if t568 = true then (emulatorref28_SameModule.j0 k ((l0_5.length : Int) != (l1_5.length : Int)) a0_0 a0_1 a0_2 a0_3 l0_4 l0_5 a1_0 a1_1 a1_2 a1_3 l1_4 l1_5) else (emulatorref28_SameModule.j0 k true a0_0 a0_1 a0_2 a0_3 l0_4 l0_5 a1_0 a1_1 a1_2 a1_3 l1_4 l1_5))) else (emulatorref28_SameModule.j0 k true a0_0 a0_1 a0_2 a0_3 l0_4 l0_5 a1_0 a1_1 a1_2 a1_3 l1_4 l1_5)) else (emulatorref28_SameModule.j0 k true a0_0 a0_1 a0_2 a0_3 l0_4 l0_5 a1_0 a1_1 a1_2 a1_3 l1_4 l1_5)) else (emulatorref28_SameModule.j0 k true a0_0 a0_1 a0_2 a0_3 l0_4 l0_5 a1_0 a1_1 a1_2 a1_3 l1_4 l1_5)) else (emulatorref28_SameModule.j0 k true a0_0 a0_1 a0_2 a0_3 l0_4 l0_5 a1_0 a1_1 a1_2 a1_3 l1_4 l1_5)
theorem emulatorref28_SameModule.mono_l : ∀ k, (∀ y0 y1 y2 y3 y4 y5 y6 y7 y8 y9 y10 y11 y12, LeO (emulatorref28_SameModule.j0 k y0 y1 y2 y3 y4 y5 y6 y7 y8 y9 y10 y11 y12) (emulatorref28_SameModule.j0 (k + 1) y0 y1 y2 y3 y4 y5 y6 y7 y8 y9 y10 y11 y12)) ∧ (∀ y0 y1 y2 y3 y4 y5 y6 y7 y8 y9 y10 y11 y12, LeO (emulatorref28_SameModule.l0 k y0 y1 y2 y3 y4 y5 y6 y7 y8 y9 y10 y11 y12) (emulatorref28_SameModule.l0 (k + 1) y0 y1 y2 y3 y4 y5 y6 y7 y8 y9 y10 y11 y12))
 | 0 => ⟨fun _ _ _ _ _ _ _ _ _ _ _ _ _ r h => by simp [emulatorref28_SameModule.j0] at h, fun _ _ _ _ _ _ _ _ _ _ _ _ _ r h => by simp [emulatorref28_SameModule.l0] at h⟩
 | k + 1 => by
  obtain ⟨ih0, ih1⟩ := emulatorref28_SameModule.mono_l k
  refine ⟨?_, ?_⟩
  ·intro y0 y1 y2 y3 y4 y5 y6 y7 y8 y9 y10 y11 y12
   unfold emulatorref28_SameModule.j0
   repeat' first
   | (with_reducible exact ih0 _ _ _ _ _ _ _ _ _ _ _ _ _)
   | (with_reducible exact ih1 _ _ _ _ _ _ _ _ _ _ _ _ _)
   | (with_reducible exact emulatorref28_SameSymbols.mono _ _ _)
   | (with_reducible exact LeO.refl _)
   | (with_reducible exact LeO.none _)
   | (with_reducible refine LeO.ite ?_ ?_)
   | (with_reducible refine LeO.bind ?_ (fun _ => ?_))
   | exact ih0 _ _ _ _ _ _ _ _ _ _ _ _ _
   | exact ih1 _ _ _ _ _ _ _ _ _ _ _ _ _
   | exact emulatorref28_SameSymbols.mono _ _ _
   | exact LeO.none _
   | refine LeO.ite ?_ ?_
   | refine LeO.bind ?_ (fun _ => ?_)
  ·intro y0 y1 y2 y3 y4 y5 y6 y7 y8 y9 y10 y11 y12
   unfold emulatorref28_SameModule.l0
   repeat' first
   | (with_reducible exact ih0 _ _ _ _ _ _ _ _ _ _ _ _ _)
   | (with_reducible exact ih1 _ _ _ _ _ _ _ _ _ _ _ _ _)
   | (with_reducible exact emulatorref28_SameSymbols.mono _ _ _)
   | (with_reducible exact LeO.refl _)
   | (with_reducible exact LeO.none _)
   | (with_reducible refine LeO.ite ?_ ?_)
   | (with_reducible refine LeO.bind ?_ (fun _ => ?_))
   | exact ih0 _ _ _ _ _ _ _ _ _ _ _ _ _
   | exact ih1 _ _ _ _ _ _ _ _ _ _ _ _ _
   | exact emulatorref28_SameSymbols.mono _ _ _
   | exact LeO.none _
   | refine LeO.ite ?_ ?_
   | refine LeO.bind ?_ (fun _ => ?_)
theorem emulatorref28_SameModule.mono : ∀ a0 a1 a2 a3 a4 a5 a6 a7 a8 a9 a10 a11 k, LeO (emulatorref28_SameModule.f k a0 a1 a2 a3 a4 a5 a6 a7 a8 a9 a10 a11) (emulatorref28_SameModule.f (k + 1) a0 a1 a2 a3 a4 a5 a6 a7 a8 a9 a10 a11) := by
 intro a0 a1 a2 a3 a4 a5 a6 a7 a8 a9 a10 a11 k
 obtain ⟨ih0, ih1⟩ := emulatorref28_SameModule.mono_l k
 unfold emulatorref28_SameModule.f
 repeat' first
   | (with_reducible exact ih0 _ _ _ _ _ _ _ _ _ _ _ _ _)
   | (with_reducible exact ih1 _ _ _ _ _ _ _ _ _ _ _ _ _)
   | (with_reducible exact emulatorref28_SameSymbols.mono _ _ _)
   | (with_reducible exact LeO.refl _)
   | (with_reducible exact LeO.none _)
   | (with_reducible refine LeO.ite ?_ ?_)
   | (with_reducible refine LeO.bind ?_ (fun _ => ?_))
   | exact ih0 _ _ _ _ _ _ _ _ _ _ _ _ _
   | exact ih1 _ _ _ _ _ _ _ _ _ _ _ _ _
   | exact emulatorref28_SameSymbols.mono _ _ _
   | exact LeO.none _
   | refine LeO.ite ?_ ?_
   | refine LeO.bind ?_ (fun _ => ?_)
set_option maxHeartbeats 8000000 in
set_option maxRecDepth 100000 in
theorem emulatorref28_SameModule.calls (k : Nat) (a0_0 : ByteArray) (a0_1 : ByteArray) (a0_2 : ByteArray) (a0_3 : Int) (A0_4 : Option Addr) (c0_4 : Nat) (l0_4 : List (S62)) (A0_5 : Option Addr) (c0_5 : Nat) (l0_5 : List (S43)) (a1_0 : ByteArray) (a1_1 : ByteArray) (a1_2 : ByteArray) (a1_3 : Int) (A1_4 : Option Addr) (c1_4 : Nat) (l1_4 : List (S62)) (A1_5 : Option Addr) (c1_5 : Nat) (l1_5 : List (S43)) (r : Bool) (w : World) (hr0_4 : Kd.C k62 w A0_4 l0_4.length l0_4) (hc0_4 : l0_4.length ≤ c0_4) (hr0_5 : Kd.C k43 w A0_5 l0_5.length l0_5) (hc0_5 : l0_5.length ≤ c0_5) (hr1_4 : Kd.C k62 w A1_4 l1_4.length l1_4) (hc1_4 : l1_4.length ≤ c1_4) (hr1_5 : Kd.C k43 w A1_5 l1_5.length l1_5) (hc1_5 : l1_5.length ≤ c1_5) (h : emulatorref28_SameModule.f k a0_0 a0_1 a0_2 a0_3 l0_4 l0_5 a1_0 a1_1 a1_2 a1_3 l1_4 l1_5 = some r) :
  Calls Try.prog 26 #[.agg #[.string a0_0, .string a0_1, .string a0_2, .int .i64 a0_3, .slice A0_4 l0_4.length c0_4, .slice A0_5 l0_5.length c0_5], .agg #[.string a1_0, .string a1_1, .string a1_2, .int .i64 a1_3, .slice A1_4 l1_4.length c1_4, .slice A1_5 l1_5.length c1_5]] w fun e w' => e = .returned (.bool r) ∧ Below w.heap.size w w' := by
 have hu25 := Try.underlying25
 have hu43 := Try.underlying43
 have HR0_4 := Aside0.mk hr0_4
 have HC0_4 := Aside0.mk hc0_4
 clear hr0_4 hc0_4
 have HR0_5 := Aside0.mk hr0_5
 have HC0_5 := Aside0.mk hc0_5
 clear hr0_5 hc0_5
 have HR1_4 := Aside0.mk hr1_4
 have HC1_4 := Aside0.mk hc1_4
 clear hr1_4 hc1_4
 have HR1_5 := Aside0.mk hr1_5
 have HC1_5 := Aside0.mk hc1_5
 clear hr1_5 hc1_5
 have HB := Aside0.mk (Below.refl w.heap.size w)
 have H : (if a0_0.toList = a1_0.toList then (if a0_1.toList = a1_1.toList then (if a0_2.toList = a1_2.toList then (if a0_3 = a1_3 then ((emulatorref28_SameSymbols.f k l0_4 l1_4).bind fun t568 => (if t568 = true then (emulatorref28_SameModule.j0 k ((l0_5.length : Int) != (l1_5.length : Int)) a0_0 a0_1 a0_2 a0_3 l0_4 l0_5 a1_0 a1_1 a1_2 a1_3 l1_4 l1_5) else (emulatorref28_SameModule.j0 k true a0_0 a0_1 a0_2 a0_3 l0_4 l0_5 a1_0 a1_1 a1_2 a1_3 l1_4 l1_5))) else (emulatorref28_SameModule.j0 k true a0_0 a0_1 a0_2 a0_3 l0_4 l0_5 a1_0 a1_1 a1_2 a1_3 l1_4 l1_5)) else (emulatorref28_SameModule.j0 k true a0_0 a0_1 a0_2 a0_3 l0_4 l0_5 a1_0 a1_1 a1_2 a1_3 l1_4 l1_5)) else (emulatorref28_SameModule.j0 k true a0_0 a0_1 a0_2 a0_3 l0_4 l0_5 a1_0 a1_1 a1_2 a1_3 l1_4 l1_5)) else (emulatorref28_SameModule.j0 k true a0_0 a0_1 a0_2 a0_3 l0_4 l0_5 a1_0 a1_1 a1_2 a1_3 l1_4 l1_5)) = some r := h
 clear h
 have HC3 := Aside0.mk H
 clear H
 go_enter Try.func26, Try.ntmps26
 go_upto_region 1 with (first | ((with_reducible refine gate_dst (N := 2) rfl ?_); (try (refine gate_guard (by rfl) ?_; dsimp only)); refine box_event ?hg (N := 2) ?hd (cs := #[.string a0_0, .string a0_1, .string a0_2, .int .i64 a0_3, .slice A0_4 l0_4.length c0_4, .slice A0_5 l0_5.length c0_5]) (t := 25) ?hr ?_; (case hd => rfl); (case hg => rfl); (case hr => first | (go_simp; done) | (go_simp; rfl)); intro gb566 hg w4 hbox hb; have n0_ := Aside0.mk (below_step hb_ hb); have n1_ := Aside0.mk (hbox); have n2_ := Aside0.mk ((by rw [hg]; exact (below_size hb_) : w.heap.size ≤ gb566)); have n3_ := Aside0.mk ((by rw [hg]; exact (below_size hb_) : w.heap.size ≤ gb566)); clear HB; have HB := n0_; have BK566 := n1_; have GW566 := n2_; have GE566 := n3_; clear n0_ n1_ n2_ n3_; clear hb hbox hg) | ((with_reducible refine gate_dst (N := 3) rfl ?_); (try (refine gate_guard (by rfl) ?_; dsimp only)); refine box_event ?hg (N := 3) ?hd (cs := #[.string a1_0, .string a1_1, .string a1_2, .int .i64 a1_3, .slice A1_4 l1_4.length c1_4, .slice A1_5 l1_5.length c1_5]) (t := 25) ?hr ?_; (case hd => rfl); (case hg => rfl); (case hr => first | (go_simp; done) | (go_simp; rfl)); intro gb567 hg w5 hbox hb; have n0_ := Aside0.mk (blk_below (bk_ BK566.out) hb); have n1_ := Aside0.mk (below_step hb_ hb); have n2_ := Aside0.mk (hbox); have n3_ := Aside0.mk ((by rw [hg]; exact (below_size hb_) : w.heap.size ≤ gb567)); have n4_ := Aside0.mk ((by rw [hg]; exact (below_size hb_) : w.heap.size ≤ gb567)); have n5_ := Aside0.mk ((by rw [hg]; exact Nat.ne_of_lt (blk_lt (bk_ BK566.out)) : gb566 ≠ gb567)); have n6_ := Aside0.mk ((by rw [hg]; exact Nat.ne_of_gt (blk_lt (bk_ BK566.out)) : gb567 ≠ gb566)); clear BK566 HB; have BK566 := n0_; have HB := n1_; have BK567 := n2_; have GW567 := n3_; have GE567 := n4_; have NB566_567 := n5_; have NB567_566 := n6_; clear n0_ n1_ n2_ n3_ n4_ n5_ n6_; clear hb hbox hg))
 repeat (go_quiet (first | ((with_reducible refine gate_dst (N := 2) rfl ?_); (try (refine gate_guard (by rfl) ?_; dsimp only)); refine box_event ?hg (N := 2) ?hd (cs := #[.string a0_0, .string a0_1, .string a0_2, .int .i64 a0_3, .slice A0_4 l0_4.length c0_4, .slice A0_5 l0_5.length c0_5]) (t := 25) ?hr ?_; (case hd => rfl); (case hg => rfl); (case hr => first | (go_simp; done) | (go_simp; rfl)); intro gb566 hg w4 hbox hb; have n0_ := Aside0.mk (below_step hb_ hb); have n1_ := Aside0.mk (hbox); have n2_ := Aside0.mk ((by rw [hg]; exact (below_size hb_) : w.heap.size ≤ gb566)); have n3_ := Aside0.mk ((by rw [hg]; exact (below_size hb_) : w.heap.size ≤ gb566)); clear HB; have HB := n0_; have BK566 := n1_; have GW566 := n2_; have GE566 := n3_; clear n0_ n1_ n2_ n3_; clear hb hbox hg) | ((with_reducible refine gate_dst (N := 3) rfl ?_); (try (refine gate_guard (by rfl) ?_; dsimp only)); refine box_event ?hg (N := 3) ?hd (cs := #[.string a1_0, .string a1_1, .string a1_2, .int .i64 a1_3, .slice A1_4 l1_4.length c1_4, .slice A1_5 l1_5.length c1_5]) (t := 25) ?hr ?_; (case hd => rfl); (case hg => rfl); (case hr => first | (go_simp; done) | (go_simp; rfl)); intro gb567 hg w5 hbox hb; have n0_ := Aside0.mk (blk_below (bk_ BK566.out) hb); have n1_ := Aside0.mk (below_step hb_ hb); have n2_ := Aside0.mk (hbox); have n3_ := Aside0.mk ((by rw [hg]; exact (below_size hb_) : w.heap.size ≤ gb567)); have n4_ := Aside0.mk ((by rw [hg]; exact (below_size hb_) : w.heap.size ≤ gb567)); have n5_ := Aside0.mk ((by rw [hg]; exact Nat.ne_of_lt (blk_lt (bk_ BK566.out)) : gb566 ≠ gb567)); have n6_ := Aside0.mk ((by rw [hg]; exact Nat.ne_of_gt (blk_lt (bk_ BK566.out)) : gb567 ≠ gb566)); clear BK566 HB; have BK566 := n0_; have HB := n1_; have BK567 := n2_; have GW567 := n3_; have GE567 := n4_; have NB566_567 := n5_; have NB567_566 := n6_; clear n0_ n1_ n2_ n3_ n4_ n5_ n6_; clear hb hbox hg)); go_upto_region 1 with (first | ((with_reducible refine gate_dst (N := 2) rfl ?_); (try (refine gate_guard (by rfl) ?_; dsimp only)); refine box_event ?hg (N := 2) ?hd (cs := #[.string a0_0, .string a0_1, .string a0_2, .int .i64 a0_3, .slice A0_4 l0_4.length c0_4, .slice A0_5 l0_5.length c0_5]) (t := 25) ?hr ?_; (case hd => rfl); (case hg => rfl); (case hr => first | (go_simp; done) | (go_simp; rfl)); intro gb566 hg w4 hbox hb; have n0_ := Aside0.mk (below_step hb_ hb); have n1_ := Aside0.mk (hbox); have n2_ := Aside0.mk ((by rw [hg]; exact (below_size hb_) : w.heap.size ≤ gb566)); have n3_ := Aside0.mk ((by rw [hg]; exact (below_size hb_) : w.heap.size ≤ gb566)); clear HB; have HB := n0_; have BK566 := n1_; have GW566 := n2_; have GE566 := n3_; clear n0_ n1_ n2_ n3_; clear hb hbox hg) | ((with_reducible refine gate_dst (N := 3) rfl ?_); (try (refine gate_guard (by rfl) ?_; dsimp only)); refine box_event ?hg (N := 3) ?hd (cs := #[.string a1_0, .string a1_1, .string a1_2, .int .i64 a1_3, .slice A1_4 l1_4.length c1_4, .slice A1_5 l1_5.length c1_5]) (t := 25) ?hr ?_; (case hd => rfl); (case hg => rfl); (case hr => first | (go_simp; done) | (go_simp; rfl)); intro gb567 hg w5 hbox hb; have n0_ := Aside0.mk (blk_below (bk_ BK566.out) hb); have n1_ := Aside0.mk (below_step hb_ hb); have n2_ := Aside0.mk (hbox); have n3_ := Aside0.mk ((by rw [hg]; exact (below_size hb_) : w.heap.size ≤ gb567)); have n4_ := Aside0.mk ((by rw [hg]; exact (below_size hb_) : w.heap.size ≤ gb567)); have n5_ := Aside0.mk ((by rw [hg]; exact Nat.ne_of_lt (blk_lt (bk_ BK566.out)) : gb566 ≠ gb567)); have n6_ := Aside0.mk ((by rw [hg]; exact Nat.ne_of_gt (blk_lt (bk_ BK566.out)) : gb567 ≠ gb566)); clear BK566 HB; have BK566 := n0_; have HB := n1_; have BK567 := n2_; have GW567 := n3_; have GE567 := n4_; have NB566_567 := n5_; have NB567_566 := n6_; clear n0_ n1_ n2_ n3_ n4_ n5_ n6_; clear hb hbox hg)))
 (try simp only [Act.put, List.setIfInBounds_toArray, List.set_cons_zero, List.set_cons_succ])
 go_cut [48] (fun v48 wc => ∃ (kq : Nat) (x48_2 : Bool), v48 = .bool x48_2 ∧ Aside0 (emulatorref28_SameModule.j0 kq x48_2 a0_0 a0_1 a0_2 a0_3 l0_4 l0_5 a1_0 a1_1 a1_2 a1_3 l1_4 l1_5 = some r) ∧ Aside0 (kq ≤ k) ∧ Aside0 (wc.heap[gb566]? = some (.cells #[.string a0_0, .string a0_1, .string a0_2, .int .i64 a0_3, (.slice A0_4 l0_4.length c0_4), (.slice A0_5 l0_5.length c0_5)] 25 (0, 0))) ∧ Aside0 (wc.heap[gb567]? = some (.cells #[.string a1_0, .string a1_1, .string a1_2, .int .i64 a1_3, (.slice A1_4 l1_4.length c1_4), (.slice A1_5 l1_5.length c1_5)] 25 (0, 0))) ∧ Aside0 (Below w.heap.size w wc))
 case first =>
  have H := HC3.out
  clear HC3
  by_cases c6 : a0_0.toList = a1_0.toList
  ·rw [if_pos c6] at H
   have c6b0 : (a0_0.toList == a1_0.toList) = true := beq_iff_eq.mpr c6
   have c6b1 : (a0_0.toList != a1_0.toList) = false := bne_eq_false_iff_eq.mpr c6
   clear c6
   (first | rw [c6b0] | (simp only [i64_w, i32_w]; rw [c6b0]) | skip)
   by_cases c7 : a0_1.toList = a1_1.toList
   ·rw [if_pos c7] at H
    have c7b0 : (a0_1.toList == a1_1.toList) = true := beq_iff_eq.mpr c7
    have c7b1 : (a0_1.toList != a1_1.toList) = false := bne_eq_false_iff_eq.mpr c7
    clear c7
    by_cases c8 : a0_2.toList = a1_2.toList
    ·rw [if_pos c8] at H
     have c8b0 : (a0_2.toList == a1_2.toList) = true := beq_iff_eq.mpr c8
     have c8b1 : (a0_2.toList != a1_2.toList) = false := bne_eq_false_iff_eq.mpr c8
     clear c8
     by_cases c9 : a0_3 = a1_3
     ·rw [if_pos c9] at H
      have c9b0 : (a0_3 == a1_3) = true := beq_iff_eq.mpr c9
      have c9b1 : (a0_3 != a1_3) = false := bne_eq_false_iff_eq.mpr c9
      clear c9
      replace H := Option.bind_eq_some_iff.mp H
      obtain ⟨t568, A100, H⟩ := H
      (try dsimp only at H)
      have A10 := Aside0.mk A100
      clear A100
      by_cases c11 : t568 = true
      ·subst c11
       have H1 : (emulatorref28_SameModule.j0 k ((l0_5.length : Int) != (l1_5.length : Int)) a0_0 a0_1 a0_2 a0_3 l0_4 l0_5 a1_0 a1_1 a1_2 a1_3 l1_4 l1_5) = some r := by rw [if_pos rfl] at H; exact H
       clear H
       have H := H1
       clear H1
       have H' := Aside0.mk H
       clear H
       have hnb12 := NB566_567.out
       have hnc12 := NB567_566.out
       obtain ⟨hcz13_0, hfz13_0⟩ := bc_ BK566.out 0 rfl
       obtain ⟨hcz13_1, hfz13_1⟩ := bc_ BK566.out 1 rfl
       obtain ⟨hcz13_2, hfz13_2⟩ := bc_ BK566.out 2 rfl
       obtain ⟨hcz13_3, hfz13_3⟩ := bc_ BK566.out 3 rfl
       obtain ⟨hcz13_4, hfz13_4⟩ := bc_ BK566.out 4 rfl
       obtain ⟨hcz13_5, hfz13_5⟩ := bc_ BK566.out 5 rfl
       obtain ⟨hcz14_0, hfz14_0⟩ := bc_ BK567.out 0 rfl
       obtain ⟨hcz14_1, hfz14_1⟩ := bc_ BK567.out 1 rfl
       obtain ⟨hcz14_2, hfz14_2⟩ := bc_ BK567.out 2 rfl
       obtain ⟨hcz14_3, hfz14_3⟩ := bc_ BK567.out 3 rfl
       obtain ⟨hcz14_4, hfz14_4⟩ := bc_ BK567.out 4 rfl
       obtain ⟨hcz14_5, hfz14_5⟩ := bc_ BK567.out 5 rfl
       go_wp2_with (first | (go_at_call 69; (with_reducible refine (emulatorref28_SameSymbols.calls k _ _ l0_4 _ _ l1_4 true _ ?side1 ?side2 ?side3 ?side4 A10.out).mono ?_); (case side1 => repeat (first | exact (Kd.C_below HR0_4.out HB.out) | (with_reducible refine Kd.C_alloc ?_ _) | (with_reducible refine Kd.C_drewN ?_ _) | (with_reducible refine Kd.C_drew ?_))); (case side2 => exact HC0_4.out); (case side3 => repeat (first | exact (Kd.C_below HR1_4.out HB.out) | (with_reducible refine Kd.C_alloc ?_ _) | (with_reducible refine Kd.C_drewN ?_ _) | (with_reducible refine Kd.C_drew ?_))); (case side4 => exact HC1_4.out); rintro e w' ⟨rfl, ⟨nd, rfl⟩⟩; (try first | exact ⟨rfl, _, World.drewN_drewN _ _ _⟩ | exact ⟨rfl, _, Eq.trans (World.drewN_drewN _ _ _) (congrArg (World.drewN _) (Nat.add_assoc _ _ _))⟩)))
       repeat (go_quiet (first | (go_at_call 69; (with_reducible refine (emulatorref28_SameSymbols.calls k _ _ l0_4 _ _ l1_4 true _ ?side1 ?side2 ?side3 ?side4 A10.out).mono ?_); (case side1 => repeat (first | exact (Kd.C_below HR0_4.out HB.out) | (with_reducible refine Kd.C_alloc ?_ _) | (with_reducible refine Kd.C_drewN ?_ _) | (with_reducible refine Kd.C_drew ?_))); (case side2 => exact HC0_4.out); (case side3 => repeat (first | exact (Kd.C_below HR1_4.out HB.out) | (with_reducible refine Kd.C_alloc ?_ _) | (with_reducible refine Kd.C_drewN ?_ _) | (with_reducible refine Kd.C_drew ?_))); (case side4 => exact HC1_4.out); rintro e w' ⟨rfl, ⟨nd, rfl⟩⟩; (try first | exact ⟨rfl, _, World.drewN_drewN _ _ _⟩ | exact ⟨rfl, _, Eq.trans (World.drewN_drewN _ _ _) (congrArg (World.drewN _) (Nat.add_assoc _ _ _))⟩))); try go_wp2_with (first | (go_at_call 69; (with_reducible refine (emulatorref28_SameSymbols.calls k _ _ l0_4 _ _ l1_4 true _ ?side1 ?side2 ?side3 ?side4 A10.out).mono ?_); (case side1 => repeat (first | exact (Kd.C_below HR0_4.out HB.out) | (with_reducible refine Kd.C_alloc ?_ _) | (with_reducible refine Kd.C_drewN ?_ _) | (with_reducible refine Kd.C_drew ?_))); (case side2 => exact HC0_4.out); (case side3 => repeat (first | exact (Kd.C_below HR1_4.out HB.out) | (with_reducible refine Kd.C_alloc ?_ _) | (with_reducible refine Kd.C_drewN ?_ _) | (with_reducible refine Kd.C_drew ?_))); (case side4 => exact HC1_4.out); rintro e w' ⟨rfl, ⟨nd, rfl⟩⟩; (try first | exact ⟨rfl, _, World.drewN_drewN _ _ _⟩ | exact ⟨rfl, _, Eq.trans (World.drewN_drewN _ _ _) (congrArg (World.drewN _) (Nat.add_assoc _ _ _))⟩))))
       go_meet
       case rel => exact ⟨_, (((l0_5.length : Int) != (l1_5.length : Int))), cl_, H', ⟨by first | omega | exact Nat.le_refl _⟩, ⟨bk_ BK566.out⟩, ⟨bk_ BK567.out⟩, ⟨hb_⟩⟩
      ·replace c11 := Bool.eq_false_iff.mpr c11
       subst c11
       have H1 : (emulatorref28_SameModule.j0 k true a0_0 a0_1 a0_2 a0_3 l0_4 l0_5 a1_0 a1_1 a1_2 a1_3 l1_4 l1_5) = some r := by rw [if_neg (show ¬ (false = true) by decide)] at H; exact H
       clear H
       have H := H1
       clear H1
       have H' := Aside0.mk H
       clear H
       have hnb15 := NB566_567.out
       have hnc15 := NB567_566.out
       obtain ⟨hcz16_0, hfz16_0⟩ := bc_ BK566.out 0 rfl
       obtain ⟨hcz16_1, hfz16_1⟩ := bc_ BK566.out 1 rfl
       obtain ⟨hcz16_2, hfz16_2⟩ := bc_ BK566.out 2 rfl
       obtain ⟨hcz16_3, hfz16_3⟩ := bc_ BK566.out 3 rfl
       obtain ⟨hcz16_4, hfz16_4⟩ := bc_ BK566.out 4 rfl
       obtain ⟨hcz16_5, hfz16_5⟩ := bc_ BK566.out 5 rfl
       obtain ⟨hcz17_0, hfz17_0⟩ := bc_ BK567.out 0 rfl
       obtain ⟨hcz17_1, hfz17_1⟩ := bc_ BK567.out 1 rfl
       obtain ⟨hcz17_2, hfz17_2⟩ := bc_ BK567.out 2 rfl
       obtain ⟨hcz17_3, hfz17_3⟩ := bc_ BK567.out 3 rfl
       obtain ⟨hcz17_4, hfz17_4⟩ := bc_ BK567.out 4 rfl
       obtain ⟨hcz17_5, hfz17_5⟩ := bc_ BK567.out 5 rfl
       go_wp2_with (first | (go_at_call 69; (with_reducible refine (emulatorref28_SameSymbols.calls k _ _ l0_4 _ _ l1_4 false _ ?side1 ?side2 ?side3 ?side4 A10.out).mono ?_); (case side1 => repeat (first | exact (Kd.C_below HR0_4.out HB.out) | (with_reducible refine Kd.C_alloc ?_ _) | (with_reducible refine Kd.C_drewN ?_ _) | (with_reducible refine Kd.C_drew ?_))); (case side2 => exact HC0_4.out); (case side3 => repeat (first | exact (Kd.C_below HR1_4.out HB.out) | (with_reducible refine Kd.C_alloc ?_ _) | (with_reducible refine Kd.C_drewN ?_ _) | (with_reducible refine Kd.C_drew ?_))); (case side4 => exact HC1_4.out); rintro e w' ⟨rfl, ⟨nd, rfl⟩⟩; (try first | exact ⟨rfl, _, World.drewN_drewN _ _ _⟩ | exact ⟨rfl, _, Eq.trans (World.drewN_drewN _ _ _) (congrArg (World.drewN _) (Nat.add_assoc _ _ _))⟩)))
       repeat (go_quiet (first | (go_at_call 69; (with_reducible refine (emulatorref28_SameSymbols.calls k _ _ l0_4 _ _ l1_4 false _ ?side1 ?side2 ?side3 ?side4 A10.out).mono ?_); (case side1 => repeat (first | exact (Kd.C_below HR0_4.out HB.out) | (with_reducible refine Kd.C_alloc ?_ _) | (with_reducible refine Kd.C_drewN ?_ _) | (with_reducible refine Kd.C_drew ?_))); (case side2 => exact HC0_4.out); (case side3 => repeat (first | exact (Kd.C_below HR1_4.out HB.out) | (with_reducible refine Kd.C_alloc ?_ _) | (with_reducible refine Kd.C_drewN ?_ _) | (with_reducible refine Kd.C_drew ?_))); (case side4 => exact HC1_4.out); rintro e w' ⟨rfl, ⟨nd, rfl⟩⟩; (try first | exact ⟨rfl, _, World.drewN_drewN _ _ _⟩ | exact ⟨rfl, _, Eq.trans (World.drewN_drewN _ _ _) (congrArg (World.drewN _) (Nat.add_assoc _ _ _))⟩))); try go_wp2_with (first | (go_at_call 69; (with_reducible refine (emulatorref28_SameSymbols.calls k _ _ l0_4 _ _ l1_4 false _ ?side1 ?side2 ?side3 ?side4 A10.out).mono ?_); (case side1 => repeat (first | exact (Kd.C_below HR0_4.out HB.out) | (with_reducible refine Kd.C_alloc ?_ _) | (with_reducible refine Kd.C_drewN ?_ _) | (with_reducible refine Kd.C_drew ?_))); (case side2 => exact HC0_4.out); (case side3 => repeat (first | exact (Kd.C_below HR1_4.out HB.out) | (with_reducible refine Kd.C_alloc ?_ _) | (with_reducible refine Kd.C_drewN ?_ _) | (with_reducible refine Kd.C_drew ?_))); (case side4 => exact HC1_4.out); rintro e w' ⟨rfl, ⟨nd, rfl⟩⟩; (try first | exact ⟨rfl, _, World.drewN_drewN _ _ _⟩ | exact ⟨rfl, _, Eq.trans (World.drewN_drewN _ _ _) (congrArg (World.drewN _) (Nat.add_assoc _ _ _))⟩))))
       go_meet
       case rel => exact ⟨_, (true), cl_, H', ⟨by first | omega | exact Nat.le_refl _⟩, ⟨bk_ BK566.out⟩, ⟨bk_ BK567.out⟩, ⟨hb_⟩⟩
     ·rw [if_neg c9] at H
      have c9b0 : (a0_3 == a1_3) = false := beq_eq_false_iff_ne.mpr c9
      have c9b1 : (a0_3 != a1_3) = true := bne_iff_ne.mpr c9
      have H' := Aside0.mk H
      clear H
      have hnb18 := NB566_567.out
      have hnc18 := NB567_566.out
      obtain ⟨hcz19_0, hfz19_0⟩ := bc_ BK566.out 0 rfl
      obtain ⟨hcz19_1, hfz19_1⟩ := bc_ BK566.out 1 rfl
      obtain ⟨hcz19_2, hfz19_2⟩ := bc_ BK566.out 2 rfl
      obtain ⟨hcz19_3, hfz19_3⟩ := bc_ BK566.out 3 rfl
      obtain ⟨hcz19_4, hfz19_4⟩ := bc_ BK566.out 4 rfl
      obtain ⟨hcz19_5, hfz19_5⟩ := bc_ BK566.out 5 rfl
      obtain ⟨hcz20_0, hfz20_0⟩ := bc_ BK567.out 0 rfl
      obtain ⟨hcz20_1, hfz20_1⟩ := bc_ BK567.out 1 rfl
      obtain ⟨hcz20_2, hfz20_2⟩ := bc_ BK567.out 2 rfl
      obtain ⟨hcz20_3, hfz20_3⟩ := bc_ BK567.out 3 rfl
      obtain ⟨hcz20_4, hfz20_4⟩ := bc_ BK567.out 4 rfl
      obtain ⟨hcz20_5, hfz20_5⟩ := bc_ BK567.out 5 rfl
      go_wp2
      repeat (go_quiet (fail); try go_wp2)
      go_meet
      case rel => exact ⟨_, (true), cl_, H', ⟨by first | omega | exact Nat.le_refl _⟩, ⟨bk_ BK566.out⟩, ⟨bk_ BK567.out⟩, ⟨hb_⟩⟩
    ·rw [if_neg c8] at H
     have c8b0 : (a0_2.toList == a1_2.toList) = false := beq_eq_false_iff_ne.mpr c8
     have c8b1 : (a0_2.toList != a1_2.toList) = true := bne_iff_ne.mpr c8
     have H' := Aside0.mk H
     clear H
     have hnb21 := NB566_567.out
     have hnc21 := NB567_566.out
     obtain ⟨hcz22_0, hfz22_0⟩ := bc_ BK566.out 0 rfl
     obtain ⟨hcz22_1, hfz22_1⟩ := bc_ BK566.out 1 rfl
     obtain ⟨hcz22_2, hfz22_2⟩ := bc_ BK566.out 2 rfl
     obtain ⟨hcz22_3, hfz22_3⟩ := bc_ BK566.out 3 rfl
     obtain ⟨hcz22_4, hfz22_4⟩ := bc_ BK566.out 4 rfl
     obtain ⟨hcz22_5, hfz22_5⟩ := bc_ BK566.out 5 rfl
     obtain ⟨hcz23_0, hfz23_0⟩ := bc_ BK567.out 0 rfl
     obtain ⟨hcz23_1, hfz23_1⟩ := bc_ BK567.out 1 rfl
     obtain ⟨hcz23_2, hfz23_2⟩ := bc_ BK567.out 2 rfl
     obtain ⟨hcz23_3, hfz23_3⟩ := bc_ BK567.out 3 rfl
     obtain ⟨hcz23_4, hfz23_4⟩ := bc_ BK567.out 4 rfl
     obtain ⟨hcz23_5, hfz23_5⟩ := bc_ BK567.out 5 rfl
     go_wp2
     repeat (go_quiet (fail); try go_wp2)
     go_meet
     case rel => exact ⟨_, (true), cl_, H', ⟨by first | omega | exact Nat.le_refl _⟩, ⟨bk_ BK566.out⟩, ⟨bk_ BK567.out⟩, ⟨hb_⟩⟩
   ·rw [if_neg c7] at H
    have c7b0 : (a0_1.toList == a1_1.toList) = false := beq_eq_false_iff_ne.mpr c7
    have c7b1 : (a0_1.toList != a1_1.toList) = true := bne_iff_ne.mpr c7
    have H' := Aside0.mk H
    clear H
    have hnb24 := NB566_567.out
    have hnc24 := NB567_566.out
    obtain ⟨hcz25_0, hfz25_0⟩ := bc_ BK566.out 0 rfl
    obtain ⟨hcz25_1, hfz25_1⟩ := bc_ BK566.out 1 rfl
    obtain ⟨hcz25_2, hfz25_2⟩ := bc_ BK566.out 2 rfl
    obtain ⟨hcz25_3, hfz25_3⟩ := bc_ BK566.out 3 rfl
    obtain ⟨hcz25_4, hfz25_4⟩ := bc_ BK566.out 4 rfl
    obtain ⟨hcz25_5, hfz25_5⟩ := bc_ BK566.out 5 rfl
    obtain ⟨hcz26_0, hfz26_0⟩ := bc_ BK567.out 0 rfl
    obtain ⟨hcz26_1, hfz26_1⟩ := bc_ BK567.out 1 rfl
    obtain ⟨hcz26_2, hfz26_2⟩ := bc_ BK567.out 2 rfl
    obtain ⟨hcz26_3, hfz26_3⟩ := bc_ BK567.out 3 rfl
    obtain ⟨hcz26_4, hfz26_4⟩ := bc_ BK567.out 4 rfl
    obtain ⟨hcz26_5, hfz26_5⟩ := bc_ BK567.out 5 rfl
    go_wp2
    repeat (go_quiet (fail); try go_wp2)
    go_meet
    case rel => exact ⟨_, (true), cl_, H', ⟨by first | omega | exact Nat.le_refl _⟩, ⟨bk_ BK566.out⟩, ⟨bk_ BK567.out⟩, ⟨hb_⟩⟩
  ·rw [if_neg c6] at H
   have c6b0 : (a0_0.toList == a1_0.toList) = false := beq_eq_false_iff_ne.mpr c6
   have c6b1 : (a0_0.toList != a1_0.toList) = true := bne_iff_ne.mpr c6
   (first | rw [c6b0] | (simp only [i64_w, i32_w]; rw [c6b0]) | skip)
   have H' := Aside0.mk H
   clear H
   have hnb27 := NB566_567.out
   have hnc27 := NB567_566.out
   obtain ⟨hcz28_0, hfz28_0⟩ := bc_ BK566.out 0 rfl
   obtain ⟨hcz28_1, hfz28_1⟩ := bc_ BK566.out 1 rfl
   obtain ⟨hcz28_2, hfz28_2⟩ := bc_ BK566.out 2 rfl
   obtain ⟨hcz28_3, hfz28_3⟩ := bc_ BK566.out 3 rfl
   obtain ⟨hcz28_4, hfz28_4⟩ := bc_ BK566.out 4 rfl
   obtain ⟨hcz28_5, hfz28_5⟩ := bc_ BK566.out 5 rfl
   obtain ⟨hcz29_0, hfz29_0⟩ := bc_ BK567.out 0 rfl
   obtain ⟨hcz29_1, hfz29_1⟩ := bc_ BK567.out 1 rfl
   obtain ⟨hcz29_2, hfz29_2⟩ := bc_ BK567.out 2 rfl
   obtain ⟨hcz29_3, hfz29_3⟩ := bc_ BK567.out 3 rfl
   obtain ⟨hcz29_4, hfz29_4⟩ := bc_ BK567.out 4 rfl
   obtain ⟨hcz29_5, hfz29_5⟩ := bc_ BK567.out 5 rfl
   go_wp2
   repeat (go_quiet (fail); try go_wp2)
   go_meet
   case rel => exact ⟨_, (true), cl_, H', ⟨by first | omega | exact Nat.le_refl _⟩, ⟨bk_ BK566.out⟩, ⟨bk_ BK567.out⟩, ⟨hb_⟩⟩
 case rest =>
  clear HC3
  obtain ⟨kq, x48_2, rfl, HA, HJ2, BK566, BK567, HB⟩ := hcut
  cases kq with
  | zero => exact absurd HA.out (by simp [emulatorref28_SameModule.j0])
  | succ kj2 =>
   have H := HA.out
   clear HA
   simp only [emulatorref28_SameModule.j0] at H
   by_cases c30 : x48_2 = true
   ·subst c30
    have H1 : (some false) = some r := by rw [if_pos rfl] at H; exact H
    clear H
    have H := H1
    clear H1
    obtain rfl := Option.some.inj H
    go_wp2
    repeat (go_quiet (fail); try go_wp2)
    go_ret
    exact ⟨ew_, hb_⟩
   ·replace c30 := Bool.eq_false_iff.mpr c30
    subst c30
    have H1 : (emulatorref28_SameModule.l0 kj2 0 a0_0 a0_1 a0_2 a0_3 l0_4 l0_5 a1_0 a1_1 a1_2 a1_3 l1_4 l1_5) = some r := by rw [if_neg (show ¬ (false = true) by decide)] at H; exact H
    clear H
    have H := H1
    clear H1
    have H' := Aside0.mk H
    clear H
    go_wp2
    repeat (go_quiet (fail); try go_wp2)
    go_loopg [5] kj2 (fun kq v5 w' => ∃ (x5_2 : Int), v5 = .int .i64 x5_2 ∧ Aside0 (emulatorref28_SameModule.l0 kq x5_2 a0_0 a0_1 a0_2 a0_3 l0_4 l0_5 a1_0 a1_1 a1_2 a1_3 l1_4 l1_5 = some r) ∧ Aside0 (kq ≤ kj2) ∧ Aside0 (w'.heap[gb566]? = some (.cells #[.string a0_0, .string a0_1, .string a0_2, .int .i64 a0_3, (.slice A0_4 l0_4.length c0_4), (.slice A0_5 l0_5.length c0_5)] 25 (0, 0))) ∧ Aside0 (w'.heap[gb567]? = some (.cells #[.string a1_0, .string a1_1, .string a1_2, .int .i64 a1_3, (.slice A1_4 l1_4.length c1_4), (.slice A1_5 l1_5.length c1_5)] 25 (0, 0))) ∧ Aside0 (Below w.heap.size w w'))
    case atStart => exact ⟨(0), cl_, H', ⟨Nat.le_refl _⟩, ⟨bk_ BK566.out⟩, ⟨bk_ BK567.out⟩, ⟨hb_⟩⟩
    case round =>
     clear H'
     obtain ⟨x5_2, rfl, HA, HK2, BK566, BK567, HB⟩ := hrel
     cases gk with
     | zero => exact absurd HA.out (by simp [emulatorref28_SameModule.l0])
     | succ k2 =>
      have H := HA.out
      clear HA
      simp only [emulatorref28_SameModule.l0] at H
      by_cases c31 : x5_2 < (l0_5.length : Int)
      ·rw [if_pos c31] at H
       have c31b0 : decide (x5_2 < (l0_5.length : Int)) = true := decide_eq_true c31
       clear c31
       by_cases c32 : 0 ≤ x5_2
       ·rw [if_pos c32] at H
        have c32b0 : decide (0 ≤ x5_2) = true := decide_eq_true c32
        clear c32
        by_cases c33 : x5_2 < (l1_5.length : Int)
        ·rw [if_pos c33] at H
         have c33b0 : decide (x5_2 < (l1_5.length : Int)) = true := decide_eq_true c33
         clear c33
         by_cases c34 : (!(((rd_T43 l0_5 x5_2).f0) == ((rd_T43 l1_5 x5_2).f0)) || (!(((rd_T43 l0_5 x5_2).f1) == ((rd_T43 l1_5 x5_2).f1)) || (!(((rd_T43 l0_5 x5_2).f2) == ((rd_T43 l1_5 x5_2).f2)) || (!((((rd_T43 l0_5 x5_2).f3).toList) == (((rd_T43 l1_5 x5_2).f3).toList)) || (!(((rd_T43 l0_5 x5_2).f4) == ((rd_T43 l1_5 x5_2).f4))))))) = true
         ·rw [if_pos c34] at H
          have c34b0 : (!(((rd_T43 l0_5 x5_2).f0) == ((rd_T43 l1_5 x5_2).f0)) || (!(((rd_T43 l0_5 x5_2).f1) == ((rd_T43 l1_5 x5_2).f1)) || (!(((rd_T43 l0_5 x5_2).f2) == ((rd_T43 l1_5 x5_2).f2)) || (!((((rd_T43 l0_5 x5_2).f3).toList) == (((rd_T43 l1_5 x5_2).f3).toList)) || (!(((rd_T43 l0_5 x5_2).f4) == ((rd_T43 l1_5 x5_2).f4))))))) = true := c34
          clear c34
          obtain rfl := Option.some.inj H
          have hnb35 := NB566_567.out
          have hnc35 := NB567_566.out
          obtain ⟨hcz36_0, hfz36_0⟩ := bc_ BK566.out 0 rfl
          obtain ⟨hcz36_1, hfz36_1⟩ := bc_ BK566.out 1 rfl
          obtain ⟨hcz36_2, hfz36_2⟩ := bc_ BK566.out 2 rfl
          obtain ⟨hcz36_3, hfz36_3⟩ := bc_ BK566.out 3 rfl
          obtain ⟨hcz36_4, hfz36_4⟩ := bc_ BK566.out 4 rfl
          obtain ⟨hcz36_5, hfz36_5⟩ := bc_ BK566.out 5 rfl
          have p569 : 0 ≤ (x5_2 : Int) := oa_
          have q569 : x5_2 < (l0_5.length : Int) := oa_
          obtain ⟨ad569, e569, hx569_0, hx569_1, hx569_2, hx569_3, hx569_4⟩ := at_T43 HR0_5.out x5_2 p569 q569
          cases e569
          replace hx569_0 := (HB.out.cell (World.block_lt_of_cell? w _ hx569_0)).trans hx569_0
          replace hx569_1 := (HB.out.cell (World.block_lt_of_cell? w _ hx569_1)).trans hx569_1
          replace hx569_2 := (HB.out.cell (World.block_lt_of_cell? w _ hx569_2)).trans hx569_2
          replace hx569_3 := (HB.out.cell (World.block_lt_of_cell? w _ hx569_3)).trans hx569_3
          replace hx569_4 := (HB.out.cell (World.block_lt_of_cell? w _ hx569_4)).trans hx569_4
          replace p569 := eq_true p569
          replace q569 := eq_true q569
          obtain ⟨hcz37_0, hfz37_0⟩ := bc_ BK567.out 0 rfl
          obtain ⟨hcz37_1, hfz37_1⟩ := bc_ BK567.out 1 rfl
          obtain ⟨hcz37_2, hfz37_2⟩ := bc_ BK567.out 2 rfl
          obtain ⟨hcz37_3, hfz37_3⟩ := bc_ BK567.out 3 rfl
          obtain ⟨hcz37_4, hfz37_4⟩ := bc_ BK567.out 4 rfl
          obtain ⟨hcz37_5, hfz37_5⟩ := bc_ BK567.out 5 rfl
          have p570 : 0 ≤ (x5_2 : Int) := oa_
          have q570 : x5_2 < (l1_5.length : Int) := oa_
          obtain ⟨ad570, e570, hx570_0, hx570_1, hx570_2, hx570_3, hx570_4⟩ := at_T43 HR1_5.out x5_2 p570 q570
          cases e570
          replace hx570_0 := (HB.out.cell (World.block_lt_of_cell? w _ hx570_0)).trans hx570_0
          replace hx570_1 := (HB.out.cell (World.block_lt_of_cell? w _ hx570_1)).trans hx570_1
          replace hx570_2 := (HB.out.cell (World.block_lt_of_cell? w _ hx570_2)).trans hx570_2
          replace hx570_3 := (HB.out.cell (World.block_lt_of_cell? w _ hx570_3)).trans hx570_3
          replace hx570_4 := (HB.out.cell (World.block_lt_of_cell? w _ hx570_4)).trans hx570_4
          replace p570 := eq_true p570
          replace q570 := eq_true q570
          go_wp2
          repeat (go_quiet (fail); try go_wp2)
          go_ret
          exact ⟨ew_, hb_⟩
         ·rw [if_neg c34] at H
          have c34b0 : (!(((rd_T43 l0_5 x5_2).f0) == ((rd_T43 l1_5 x5_2).f0)) || (!(((rd_T43 l0_5 x5_2).f1) == ((rd_T43 l1_5 x5_2).f1)) || (!(((rd_T43 l0_5 x5_2).f2) == ((rd_T43 l1_5 x5_2).f2)) || (!((((rd_T43 l0_5 x5_2).f3).toList) == (((rd_T43 l1_5 x5_2).f3).toList)) || (!(((rd_T43 l0_5 x5_2).f4) == ((rd_T43 l1_5 x5_2).f4))))))) = false := by simpa using c34
          clear c34
          have H' := Aside0.mk H
          clear H
          have hnb38 := NB566_567.out
          have hnc38 := NB567_566.out
          obtain ⟨hcz39_0, hfz39_0⟩ := bc_ BK566.out 0 rfl
          obtain ⟨hcz39_1, hfz39_1⟩ := bc_ BK566.out 1 rfl
          obtain ⟨hcz39_2, hfz39_2⟩ := bc_ BK566.out 2 rfl
          obtain ⟨hcz39_3, hfz39_3⟩ := bc_ BK566.out 3 rfl
          obtain ⟨hcz39_4, hfz39_4⟩ := bc_ BK566.out 4 rfl
          obtain ⟨hcz39_5, hfz39_5⟩ := bc_ BK566.out 5 rfl
          have p569 : 0 ≤ (x5_2 : Int) := oa_
          have q569 : x5_2 < (l0_5.length : Int) := oa_
          obtain ⟨ad569, e569, hx569_0, hx569_1, hx569_2, hx569_3, hx569_4⟩ := at_T43 HR0_5.out x5_2 p569 q569
          cases e569
          replace hx569_0 := (HB.out.cell (World.block_lt_of_cell? w _ hx569_0)).trans hx569_0
          replace hx569_1 := (HB.out.cell (World.block_lt_of_cell? w _ hx569_1)).trans hx569_1
          replace hx569_2 := (HB.out.cell (World.block_lt_of_cell? w _ hx569_2)).trans hx569_2
          replace hx569_3 := (HB.out.cell (World.block_lt_of_cell? w _ hx569_3)).trans hx569_3
          replace hx569_4 := (HB.out.cell (World.block_lt_of_cell? w _ hx569_4)).trans hx569_4
          replace p569 := eq_true p569
          replace q569 := eq_true q569
          obtain ⟨hcz40_0, hfz40_0⟩ := bc_ BK567.out 0 rfl
          obtain ⟨hcz40_1, hfz40_1⟩ := bc_ BK567.out 1 rfl
          obtain ⟨hcz40_2, hfz40_2⟩ := bc_ BK567.out 2 rfl
          obtain ⟨hcz40_3, hfz40_3⟩ := bc_ BK567.out 3 rfl
          obtain ⟨hcz40_4, hfz40_4⟩ := bc_ BK567.out 4 rfl
          obtain ⟨hcz40_5, hfz40_5⟩ := bc_ BK567.out 5 rfl
          have p570 : 0 ≤ (x5_2 : Int) := oa_
          have q570 : x5_2 < (l1_5.length : Int) := oa_
          obtain ⟨ad570, e570, hx570_0, hx570_1, hx570_2, hx570_3, hx570_4⟩ := at_T43 HR1_5.out x5_2 p570 q570
          cases e570
          replace hx570_0 := (HB.out.cell (World.block_lt_of_cell? w _ hx570_0)).trans hx570_0
          replace hx570_1 := (HB.out.cell (World.block_lt_of_cell? w _ hx570_1)).trans hx570_1
          replace hx570_2 := (HB.out.cell (World.block_lt_of_cell? w _ hx570_2)).trans hx570_2
          replace hx570_3 := (HB.out.cell (World.block_lt_of_cell? w _ hx570_3)).trans hx570_3
          replace hx570_4 := (HB.out.cell (World.block_lt_of_cell? w _ hx570_4)).trans hx570_4
          replace p570 := eq_true p570
          replace q570 := eq_true q570
          go_wp2
          repeat (go_quiet (fail); try go_wp2)
          go_roundg k2
          case measure => have := HJ2.out; have := HK2.out; omega
          case rel => exact ⟨(wrap64 (x5_2 + 1)), cl_, H', ⟨by have := HJ2.out; have := HK2.out; omega⟩, ⟨bk_ BK566.out⟩, ⟨bk_ BK567.out⟩, ⟨hb_⟩⟩
        ·rw [if_neg c33] at H
         exact absurd H (by simp)
       ·rw [if_neg c32] at H
        exact absurd H (by simp)
      ·rw [if_neg c31] at H
       have c31b0 : decide (x5_2 < (l0_5.length : Int)) = false := decide_eq_false c31
       clear c31
       obtain rfl := Option.some.inj H
       have hnb41 := NB566_567.out
       have hnc41 := NB567_566.out
       obtain ⟨hcz42_0, hfz42_0⟩ := bc_ BK566.out 0 rfl
       obtain ⟨hcz42_1, hfz42_1⟩ := bc_ BK566.out 1 rfl
       obtain ⟨hcz42_2, hfz42_2⟩ := bc_ BK566.out 2 rfl
       obtain ⟨hcz42_3, hfz42_3⟩ := bc_ BK566.out 3 rfl
       obtain ⟨hcz42_4, hfz42_4⟩ := bc_ BK566.out 4 rfl
       obtain ⟨hcz42_5, hfz42_5⟩ := bc_ BK566.out 5 rfl
       go_wp2
       repeat (go_quiet (fail); try go_wp2)
       go_ret
       exact ⟨ew_, hb_⟩
end Go.Proofs.Ytenlmckahaniiaa.K
end
