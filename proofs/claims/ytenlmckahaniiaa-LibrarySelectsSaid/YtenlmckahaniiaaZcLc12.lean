/- Lemmas for several laws: what their proofs need of this seat's texts, in one place. -/
import Derived.Test.YtenlmckahaniiaaZcLc11
set_option linter.unusedVariables false
set_option linter.unusedSimpArgs false
set_option linter.unusedSectionVars false
set_option maxHeartbeats 8000000
set_option maxRecDepth 100000
section
namespace Go.Proofs.Ytenlmckahaniiaa.K
open Go.RowKit Go.Proofs.YtenlmckahaniiaaW.PrintWords Go.Proofs.YtenlmckahaniiaaW.PrintLast
attribute [local go_sem high] eqA43 eqA62
mutual
def zq4.j0 : Nat → Bool → ByteArray → ByteArray → ByteArray → Int → List (S62) → List (S43) → ByteArray → ByteArray → ByteArray → Int → List (S62) → List (S43) → Option (Bool)
  | 0, _, _, _, _, _, _, _, _, _, _, _, _, _ => none
  | k + 1, x50, x743000, x743001, x743002, x743003, x743004, x743005, x744000, x744001, x744002, x744003, x744004, x744005 => if x50 = true then (some false) else (zq4.l0 k 0 x743000 x743001 x743002 x743003 x743004 x743005 x744000 x744001 x744002 x744003 x744004 x744005)
def zq4.l0 : Nat → Int → ByteArray → ByteArray → ByteArray → Int → List (S62) → List (S43) → ByteArray → ByteArray → ByteArray → Int → List (S62) → List (S43) → Option (Bool)
  | 0, _, _, _, _, _, _, _, _, _, _, _, _, _ => none
  | k + 1, x5, x743000, x743001, x743002, x743003, x743004, x743005, x744000, x744001, x744002, x744003, x744004, x744005 => if x5 < (x743004.length : Int) then (if 0 ≤ x5 then (if x5 < (x744004.length : Int) then (if (!((((y0s x743004 x5).f0).toList) == (((y0s x744004 x5).f0).toList)) || (!(((y0s x743004 x5).f1) == ((y0s x744004 x5).f1)) || (!(((y0s x743004 x5).f2) == ((y0s x744004 x5).f2)) || (!(((y0s x743004 x5).f3) == ((y0s x744004 x5).f3)))))) = true then (some false) else (zq4.l0 k (wrap64 (x5 + 1)) x743000 x743001 x743002 x743003 x743004 x743005 x744000 x744001 x744002 x744003 x744004 x744005)) else (none)) else (none)) else (zq4.l1 k 0 x743000 x743001 x743002 x743003 x743004 x743005 x744000 x744001 x744002 x744003 x744004 x744005)
def zq4.l1 : Nat → Int → ByteArray → ByteArray → ByteArray → Int → List (S62) → List (S43) → ByteArray → ByteArray → ByteArray → Int → List (S62) → List (S43) → Option (Bool)
  | 0, _, _, _, _, _, _, _, _, _, _, _, _, _ => none
  | k + 1, x6, x743000, x743001, x743002, x743003, x743004, x743005, x744000, x744001, x744002, x744003, x744004, x744005 => if x6 < (x743005.length : Int) then (if 0 ≤ x6 then (if x6 < (x744005.length : Int) then (if (!(((y0r x743005 x6).f0) == ((y0r x744005 x6).f0)) || (!(((y0r x743005 x6).f1) == ((y0r x744005 x6).f1)) || (!(((y0r x743005 x6).f2) == ((y0r x744005 x6).f2)) || (!((((y0r x743005 x6).f3).toList) == (((y0r x744005 x6).f3).toList)) || (!(((y0r x743005 x6).f4) == ((y0r x744005 x6).f4))))))) = true then (some false) else (zq4.l1 k (wrap64 (x6 + 1)) x743000 x743001 x743002 x743003 x743004 x743005 x744000 x744001 x744002 x744003 x744004 x744005)) else (none)) else (none)) else (some true)
end
def zq4.f (k : Nat) (a0_0 : ByteArray) (a0_1 : ByteArray) (a0_2 : ByteArray) (a0_3 : Int) (l0_4 : List (S62)) (l0_5 : List (S43)) (a1_0 : ByteArray) (a1_1 : ByteArray) (a1_2 : ByteArray) (a1_3 : Int) (l1_4 : List (S62)) (l1_5 : List (S43)) : Option (Bool) := if a0_0.toList = a1_0.toList then (if a0_1.toList = a1_1.toList then (if a0_2.toList = a1_2.toList then (if a0_3 = a1_3 then (if (l0_4.length : Int) = (l1_4.length : Int) then (zq4.j0 k ((l0_5.length : Int) != (l1_5.length : Int)) a0_0 a0_1 a0_2 a0_3 l0_4 l0_5 a1_0 a1_1 a1_2 a1_3 l1_4 l1_5) else (zq4.j0 k true a0_0 a0_1 a0_2 a0_3 l0_4 l0_5 a1_0 a1_1 a1_2 a1_3 l1_4 l1_5)) else (zq4.j0 k true a0_0 a0_1 a0_2 a0_3 l0_4 l0_5 a1_0 a1_1 a1_2 a1_3 l1_4 l1_5)) else (zq4.j0 k true a0_0 a0_1 a0_2 a0_3 l0_4 l0_5 a1_0 a1_1 a1_2 a1_3 l1_4 l1_5)) else (zq4.j0 k true a0_0 a0_1 a0_2 a0_3 l0_4 l0_5 a1_0 a1_1 a1_2 a1_3 l1_4 l1_5)) else (zq4.j0 k true a0_0 a0_1 a0_2 a0_3 l0_4 l0_5 a1_0 a1_1 a1_2 a1_3 l1_4 l1_5)
theorem zq4.calls (k : Nat) (a0_0 : ByteArray) (a0_1 : ByteArray) (a0_2 : ByteArray) (a0_3 : Int) (A0_4 : Option Addr) (c0_4 : Nat) (l0_4 : List (S62)) (A0_5 : Option Addr) (c0_5 : Nat) (l0_5 : List (S43)) (a1_0 : ByteArray) (a1_1 : ByteArray) (a1_2 : ByteArray) (a1_3 : Int) (A1_4 : Option Addr) (c1_4 : Nat) (l1_4 : List (S62)) (A1_5 : Option Addr) (c1_5 : Nat) (l1_5 : List (S43)) (r : Bool) (w : World) (hr0_4 : Kd.C k62 w A0_4 l0_4.length l0_4) (hc0_4 : l0_4.length ≤ c0_4) (hr0_5 : Kd.C k43 w A0_5 l0_5.length l0_5) (hc0_5 : l0_5.length ≤ c0_5) (hr1_4 : Kd.C k62 w A1_4 l1_4.length l1_4) (hc1_4 : l1_4.length ≤ c1_4) (hr1_5 : Kd.C k43 w A1_5 l1_5.length l1_5) (hc1_5 : l1_5.length ≤ c1_5) (h : zq4.f k a0_0 a0_1 a0_2 a0_3 l0_4 l0_5 a1_0 a1_1 a1_2 a1_3 l1_4 l1_5 = some r) :
  Calls Try.prog 83 #[.agg #[.string a0_0, .string a0_1, .string a0_2, .int .i64 a0_3, .slice A0_4 l0_4.length c0_4, .slice A0_5 l0_5.length c0_5], .agg #[.string a1_0, .string a1_1, .string a1_2, .int .i64 a1_3, .slice A1_4 l1_4.length c1_4, .slice A1_5 l1_5.length c1_5]] w fun e w' => e = .returned (.bool r) ∧ Below w.heap.size w w' := by
 have hu25 := Try.underlying25
 have hu62 := Try.underlying62
 have hu43 := Try.underlying43
 have HR0_4 := q_ hr0_4
 have HC0_4 := q_ hc0_4
 clear hr0_4 hc0_4
 have HR0_5 := q_ hr0_5
 have HC0_5 := q_ hc0_5
 clear hr0_5 hc0_5
 have HR1_4 := q_ hr1_4
 have HC1_4 := q_ hc1_4
 clear hr1_4 hc1_4
 have HR1_5 := q_ hr1_5
 have HC1_5 := q_ hc1_5
 clear hr1_5 hc1_5
 have HB := q_ (Below.refl w.heap.size w)
 have H : (if a0_0.toList = a1_0.toList then (if a0_1.toList = a1_1.toList then (if a0_2.toList = a1_2.toList then (if a0_3 = a1_3 then (if (l0_4.length : Int) = (l1_4.length : Int) then (zq4.j0 k ((l0_5.length : Int) != (l1_5.length : Int)) a0_0 a0_1 a0_2 a0_3 l0_4 l0_5 a1_0 a1_1 a1_2 a1_3 l1_4 l1_5) else (zq4.j0 k true a0_0 a0_1 a0_2 a0_3 l0_4 l0_5 a1_0 a1_1 a1_2 a1_3 l1_4 l1_5)) else (zq4.j0 k true a0_0 a0_1 a0_2 a0_3 l0_4 l0_5 a1_0 a1_1 a1_2 a1_3 l1_4 l1_5)) else (zq4.j0 k true a0_0 a0_1 a0_2 a0_3 l0_4 l0_5 a1_0 a1_1 a1_2 a1_3 l1_4 l1_5)) else (zq4.j0 k true a0_0 a0_1 a0_2 a0_3 l0_4 l0_5 a1_0 a1_1 a1_2 a1_3 l1_4 l1_5)) else (zq4.j0 k true a0_0 a0_1 a0_2 a0_3 l0_4 l0_5 a1_0 a1_1 a1_2 a1_3 l1_4 l1_5)) = some r := h
 clear h
 have HC3 := q_ H
 clear H
 go_enter Try.func83, Try.ntmps83
 go_upto_region 1 with (first | ((with_reducible refine y0k (N := 2) rfl ?_); (try (refine y0l (by rfl) ?_; dsimp only)); refine y0g ?hg (N := 2) ?hd (cs := #[.string a0_0, .string a0_1, .string a0_2, .int .i64 a0_3, .slice A0_4 l0_4.length c0_4, .slice A0_5 l0_5.length c0_5]) (t := 25) ?hr ?_; (case hd => rfl); (case hg => rfl); (case hr => first | (go_simp; done) | (go_simp; rfl)); intro gb742 hg w4 hbox hb; have n0_ := q_ (y05 hb_ hb); have n1_ := q_ (hbox); have n2_ := q_ ((by rw [hg]; exact (y04 hb_) : w.heap.size ≤ gb742)); have n3_ := q_ ((by rw [hg]; exact (y04 hb_) : w.heap.size ≤ gb742)); clear HB; have HB := n0_; have BK742 := n1_; have GW742 := n2_; have GE742 := n3_; clear n0_ n1_ n2_ n3_; clear hb hbox hg) | ((with_reducible refine y0k (N := 3) rfl ?_); (try (refine y0l (by rfl) ?_; dsimp only)); refine y0g ?hg (N := 3) ?hd (cs := #[.string a1_0, .string a1_1, .string a1_2, .int .i64 a1_3, .slice A1_4 l1_4.length c1_4, .slice A1_5 l1_5.length c1_5]) (t := 25) ?hr ?_; (case hd => rfl); (case hg => rfl); (case hr => first | (go_simp; done) | (go_simp; rfl)); intro gb743 hg w5 hbox hb; have n0_ := q_ (y07 (bk_ BK742.out) hb); have n1_ := q_ (y05 hb_ hb); have n2_ := q_ (hbox); have n3_ := q_ ((by rw [hg]; exact (y04 hb_) : w.heap.size ≤ gb743)); have n4_ := q_ ((by rw [hg]; exact (y04 hb_) : w.heap.size ≤ gb743)); have n5_ := q_ ((by rw [hg]; exact Nat.ne_of_lt (y0e (bk_ BK742.out)) : gb742 ≠ gb743)); have n6_ := q_ ((by rw [hg]; exact Nat.ne_of_gt (y0e (bk_ BK742.out)) : gb743 ≠ gb742)); clear BK742 HB; have BK742 := n0_; have HB := n1_; have BK743 := n2_; have GW743 := n3_; have GE743 := n4_; have NB742_743 := n5_; have NB743_742 := n6_; clear n0_ n1_ n2_ n3_ n4_ n5_ n6_; clear hb hbox hg))
 repeat (go_quiet (first | ((with_reducible refine y0k (N := 2) rfl ?_); (try (refine y0l (by rfl) ?_; dsimp only)); refine y0g ?hg (N := 2) ?hd (cs := #[.string a0_0, .string a0_1, .string a0_2, .int .i64 a0_3, .slice A0_4 l0_4.length c0_4, .slice A0_5 l0_5.length c0_5]) (t := 25) ?hr ?_; (case hd => rfl); (case hg => rfl); (case hr => first | (go_simp; done) | (go_simp; rfl)); intro gb742 hg w4 hbox hb; have n0_ := q_ (y05 hb_ hb); have n1_ := q_ (hbox); have n2_ := q_ ((by rw [hg]; exact (y04 hb_) : w.heap.size ≤ gb742)); have n3_ := q_ ((by rw [hg]; exact (y04 hb_) : w.heap.size ≤ gb742)); clear HB; have HB := n0_; have BK742 := n1_; have GW742 := n2_; have GE742 := n3_; clear n0_ n1_ n2_ n3_; clear hb hbox hg) | ((with_reducible refine y0k (N := 3) rfl ?_); (try (refine y0l (by rfl) ?_; dsimp only)); refine y0g ?hg (N := 3) ?hd (cs := #[.string a1_0, .string a1_1, .string a1_2, .int .i64 a1_3, .slice A1_4 l1_4.length c1_4, .slice A1_5 l1_5.length c1_5]) (t := 25) ?hr ?_; (case hd => rfl); (case hg => rfl); (case hr => first | (go_simp; done) | (go_simp; rfl)); intro gb743 hg w5 hbox hb; have n0_ := q_ (y07 (bk_ BK742.out) hb); have n1_ := q_ (y05 hb_ hb); have n2_ := q_ (hbox); have n3_ := q_ ((by rw [hg]; exact (y04 hb_) : w.heap.size ≤ gb743)); have n4_ := q_ ((by rw [hg]; exact (y04 hb_) : w.heap.size ≤ gb743)); have n5_ := q_ ((by rw [hg]; exact Nat.ne_of_lt (y0e (bk_ BK742.out)) : gb742 ≠ gb743)); have n6_ := q_ ((by rw [hg]; exact Nat.ne_of_gt (y0e (bk_ BK742.out)) : gb743 ≠ gb742)); clear BK742 HB; have BK742 := n0_; have HB := n1_; have BK743 := n2_; have GW743 := n3_; have GE743 := n4_; have NB742_743 := n5_; have NB743_742 := n6_; clear n0_ n1_ n2_ n3_ n4_ n5_ n6_; clear hb hbox hg)); go_upto_region 1 with (first | ((with_reducible refine y0k (N := 2) rfl ?_); (try (refine y0l (by rfl) ?_; dsimp only)); refine y0g ?hg (N := 2) ?hd (cs := #[.string a0_0, .string a0_1, .string a0_2, .int .i64 a0_3, .slice A0_4 l0_4.length c0_4, .slice A0_5 l0_5.length c0_5]) (t := 25) ?hr ?_; (case hd => rfl); (case hg => rfl); (case hr => first | (go_simp; done) | (go_simp; rfl)); intro gb742 hg w4 hbox hb; have n0_ := q_ (y05 hb_ hb); have n1_ := q_ (hbox); have n2_ := q_ ((by rw [hg]; exact (y04 hb_) : w.heap.size ≤ gb742)); have n3_ := q_ ((by rw [hg]; exact (y04 hb_) : w.heap.size ≤ gb742)); clear HB; have HB := n0_; have BK742 := n1_; have GW742 := n2_; have GE742 := n3_; clear n0_ n1_ n2_ n3_; clear hb hbox hg) | ((with_reducible refine y0k (N := 3) rfl ?_); (try (refine y0l (by rfl) ?_; dsimp only)); refine y0g ?hg (N := 3) ?hd (cs := #[.string a1_0, .string a1_1, .string a1_2, .int .i64 a1_3, .slice A1_4 l1_4.length c1_4, .slice A1_5 l1_5.length c1_5]) (t := 25) ?hr ?_; (case hd => rfl); (case hg => rfl); (case hr => first | (go_simp; done) | (go_simp; rfl)); intro gb743 hg w5 hbox hb; have n0_ := q_ (y07 (bk_ BK742.out) hb); have n1_ := q_ (y05 hb_ hb); have n2_ := q_ (hbox); have n3_ := q_ ((by rw [hg]; exact (y04 hb_) : w.heap.size ≤ gb743)); have n4_ := q_ ((by rw [hg]; exact (y04 hb_) : w.heap.size ≤ gb743)); have n5_ := q_ ((by rw [hg]; exact Nat.ne_of_lt (y0e (bk_ BK742.out)) : gb742 ≠ gb743)); have n6_ := q_ ((by rw [hg]; exact Nat.ne_of_gt (y0e (bk_ BK742.out)) : gb743 ≠ gb742)); clear BK742 HB; have BK742 := n0_; have HB := n1_; have BK743 := n2_; have GW743 := n3_; have GE743 := n4_; have NB742_743 := n5_; have NB743_742 := n6_; clear n0_ n1_ n2_ n3_ n4_ n5_ n6_; clear hb hbox hg)))
 (try simp only [Act.put, List.setIfInBounds_toArray, List.set_cons_zero, List.set_cons_succ])
 go_cut [50] (fun v50 wc => ∃ (kq : Nat) (x50_2 : Bool), v50 = .bool x50_2 ∧ Aside0 (zq4.j0 kq x50_2 a0_0 a0_1 a0_2 a0_3 l0_4 l0_5 a1_0 a1_1 a1_2 a1_3 l1_4 l1_5 = some r) ∧ Aside0 (kq ≤ k) ∧ Aside0 (wc.heap[gb742]? = some (.cells #[.string a0_0, .string a0_1, .string a0_2, .int .i64 a0_3, (.slice A0_4 l0_4.length c0_4), (.slice A0_5 l0_5.length c0_5)] 25 (0, 0))) ∧ Aside0 (wc.heap[gb743]? = some (.cells #[.string a1_0, .string a1_1, .string a1_2, .int .i64 a1_3, (.slice A1_4 l1_4.length c1_4), (.slice A1_5 l1_5.length c1_5)] 25 (0, 0))) ∧ Aside0 (Below w.heap.size w wc))
 case first =>
  have H := HC3.out
  clear HC3
  by_cases c6 : a0_0.toList = a1_0.toList
  rotate_left
  ·rw [if_neg c6] at H
   have c6b0 : (a0_0.toList == a1_0.toList) = false := beq_eq_false_iff_ne.mpr c6
   have c6b1 : (a0_0.toList != a1_0.toList) = true := bne_iff_ne.mpr c6
   (first | rw [c6b0] | (simp only [i64_w, i32_w]; rw [c6b0]) | skip)
   have H' := q_ H
   clear H
   have hnb26 := NB742_743.out
   have hnc26 := NB743_742.out
   obtain ⟨hcz27_0, hfz27_0, hcz27_1, hfz27_1, hcz27_2, hfz27_2, hcz27_3, hfz27_3, hcz27_4, hfz27_4, hcz27_5, hfz27_5⟩ := b6_ BK742.out
   obtain ⟨hcz28_0, hfz28_0, hcz28_1, hfz28_1, hcz28_2, hfz28_2, hcz28_3, hfz28_3, hcz28_4, hfz28_4, hcz28_5, hfz28_5⟩ := b6_ BK743.out
   go_wp2
   repeat (go_quiet (fail); try go_wp2)
   go_meet
   case rel => exact ⟨_, (true), cl_, H', ⟨by first | omega | exact Nat.le_refl _⟩, ⟨bk_ BK742.out⟩, ⟨bk_ BK743.out⟩, ⟨hb_⟩⟩
  rw [if_pos c6] at H
  have c6b0 : (a0_0.toList == a1_0.toList) = true := beq_iff_eq.mpr c6
  have c6b1 : (a0_0.toList != a1_0.toList) = false := bne_eq_false_iff_eq.mpr c6
  clear c6
  (first | rw [c6b0] | (simp only [i64_w, i32_w]; rw [c6b0]) | skip)
  by_cases c7 : a0_1.toList = a1_1.toList
  rotate_left
  ·rw [if_neg c7] at H
   have c7b0 : (a0_1.toList == a1_1.toList) = false := beq_eq_false_iff_ne.mpr c7
   have c7b1 : (a0_1.toList != a1_1.toList) = true := bne_iff_ne.mpr c7
   have H' := q_ H
   clear H
   have hnb23 := NB742_743.out
   have hnc23 := NB743_742.out
   obtain ⟨hcz24_0, hfz24_0, hcz24_1, hfz24_1, hcz24_2, hfz24_2, hcz24_3, hfz24_3, hcz24_4, hfz24_4, hcz24_5, hfz24_5⟩ := b6_ BK742.out
   obtain ⟨hcz25_0, hfz25_0, hcz25_1, hfz25_1, hcz25_2, hfz25_2, hcz25_3, hfz25_3, hcz25_4, hfz25_4, hcz25_5, hfz25_5⟩ := b6_ BK743.out
   go_wp2
   repeat (go_quiet (fail); try go_wp2)
   go_meet
   case rel => exact ⟨_, (true), cl_, H', ⟨by first | omega | exact Nat.le_refl _⟩, ⟨bk_ BK742.out⟩, ⟨bk_ BK743.out⟩, ⟨hb_⟩⟩
  rw [if_pos c7] at H
  have c7b0 : (a0_1.toList == a1_1.toList) = true := beq_iff_eq.mpr c7
  have c7b1 : (a0_1.toList != a1_1.toList) = false := bne_eq_false_iff_eq.mpr c7
  clear c7
  by_cases c8 : a0_2.toList = a1_2.toList
  rotate_left
  ·rw [if_neg c8] at H
   have c8b0 : (a0_2.toList == a1_2.toList) = false := beq_eq_false_iff_ne.mpr c8
   have c8b1 : (a0_2.toList != a1_2.toList) = true := bne_iff_ne.mpr c8
   have H' := q_ H
   clear H
   have hnb20 := NB742_743.out
   have hnc20 := NB743_742.out
   obtain ⟨hcz21_0, hfz21_0, hcz21_1, hfz21_1, hcz21_2, hfz21_2, hcz21_3, hfz21_3, hcz21_4, hfz21_4, hcz21_5, hfz21_5⟩ := b6_ BK742.out
   obtain ⟨hcz22_0, hfz22_0, hcz22_1, hfz22_1, hcz22_2, hfz22_2, hcz22_3, hfz22_3, hcz22_4, hfz22_4, hcz22_5, hfz22_5⟩ := b6_ BK743.out
   go_wp2
   repeat (go_quiet (fail); try go_wp2)
   go_meet
   case rel => exact ⟨_, (true), cl_, H', ⟨by first | omega | exact Nat.le_refl _⟩, ⟨bk_ BK742.out⟩, ⟨bk_ BK743.out⟩, ⟨hb_⟩⟩
  rw [if_pos c8] at H
  have c8b0 : (a0_2.toList == a1_2.toList) = true := beq_iff_eq.mpr c8
  have c8b1 : (a0_2.toList != a1_2.toList) = false := bne_eq_false_iff_eq.mpr c8
  clear c8
  by_cases c9 : a0_3 = a1_3
  rotate_left
  ·rw [if_neg c9] at H
   have c9b0 : (a0_3 == a1_3) = false := beq_eq_false_iff_ne.mpr c9
   have c9b1 : (a0_3 != a1_3) = true := bne_iff_ne.mpr c9
   have H' := q_ H
   clear H
   have hnb17 := NB742_743.out
   have hnc17 := NB743_742.out
   obtain ⟨hcz18_0, hfz18_0, hcz18_1, hfz18_1, hcz18_2, hfz18_2, hcz18_3, hfz18_3, hcz18_4, hfz18_4, hcz18_5, hfz18_5⟩ := b6_ BK742.out
   obtain ⟨hcz19_0, hfz19_0, hcz19_1, hfz19_1, hcz19_2, hfz19_2, hcz19_3, hfz19_3, hcz19_4, hfz19_4, hcz19_5, hfz19_5⟩ := b6_ BK743.out
   go_wp2
   repeat (go_quiet (fail); try go_wp2)
   go_meet
   case rel => exact ⟨_, (true), cl_, H', ⟨by first | omega | exact Nat.le_refl _⟩, ⟨bk_ BK742.out⟩, ⟨bk_ BK743.out⟩, ⟨hb_⟩⟩
  rw [if_pos c9] at H
  have c9b0 : (a0_3 == a1_3) = true := beq_iff_eq.mpr c9
  have c9b1 : (a0_3 != a1_3) = false := bne_eq_false_iff_eq.mpr c9
  clear c9
  by_cases c10 : (l0_4.length : Int) = (l1_4.length : Int)
  rotate_left
  ·rw [if_neg c10] at H
   have c10b0 : ((l0_4.length : Int) == (l1_4.length : Int)) = false := beq_eq_false_iff_ne.mpr c10
   have c10b1 : ((l0_4.length : Int) != (l1_4.length : Int)) = true := bne_iff_ne.mpr c10
   have c10b2 : (l0_4.length == l1_4.length) = false := by first | simpa using c10 | (simp at c10 ⊢; omega)
   have H' := q_ H
   clear H
   have hnb14 := NB742_743.out
   have hnc14 := NB743_742.out
   obtain ⟨hcz15_0, hfz15_0, hcz15_1, hfz15_1, hcz15_2, hfz15_2, hcz15_3, hfz15_3, hcz15_4, hfz15_4, hcz15_5, hfz15_5⟩ := b6_ BK742.out
   obtain ⟨hcz16_0, hfz16_0, hcz16_1, hfz16_1, hcz16_2, hfz16_2, hcz16_3, hfz16_3, hcz16_4, hfz16_4, hcz16_5, hfz16_5⟩ := b6_ BK743.out
   go_wp2
   repeat (go_quiet (fail); try go_wp2)
   go_meet
   case rel => exact ⟨_, (true), cl_, H', ⟨by first | omega | exact Nat.le_refl _⟩, ⟨bk_ BK742.out⟩, ⟨bk_ BK743.out⟩, ⟨hb_⟩⟩
  rw [if_pos c10] at H
  have c10b0 : ((l0_4.length : Int) == (l1_4.length : Int)) = true := beq_iff_eq.mpr c10
  have c10b1 : ((l0_4.length : Int) != (l1_4.length : Int)) = false := bne_eq_false_iff_eq.mpr c10
  have c10b2 : (l0_4.length == l1_4.length) = true := by first | simpa using c10 | (simp at c10 ⊢; omega)
  clear c10
  have H' := q_ H
  clear H
  have hnb11 := NB742_743.out
  have hnc11 := NB743_742.out
  obtain ⟨hcz12_0, hfz12_0, hcz12_1, hfz12_1, hcz12_2, hfz12_2, hcz12_3, hfz12_3, hcz12_4, hfz12_4, hcz12_5, hfz12_5⟩ := b6_ BK742.out
  obtain ⟨hcz13_0, hfz13_0, hcz13_1, hfz13_1, hcz13_2, hfz13_2, hcz13_3, hfz13_3, hcz13_4, hfz13_4, hcz13_5, hfz13_5⟩ := b6_ BK743.out
  go_wp2
  repeat (go_quiet (fail); try go_wp2)
  go_meet
  case rel => exact ⟨_, (((l0_5.length : Int) != (l1_5.length : Int))), cl_, H', ⟨by first | omega | exact Nat.le_refl _⟩, ⟨bk_ BK742.out⟩, ⟨bk_ BK743.out⟩, ⟨hb_⟩⟩
 case rest =>
  clear HC3
  obtain ⟨kq, x50_2, rfl, HA, HJ2, BK742, BK743, HB⟩ := hcut
  cases kq with
  | zero => exact absurd HA.out (by simp [zq4.j0])
  | succ kj2 =>
   have H := HA.out
   clear HA
   simp only [zq4.j0] at H
   by_cases c29 : x50_2 = true
   ·subst c29
    rw [if_pos rfl] at H
    obtain rfl := Option.some.inj H
    go_wp2
    repeat (go_quiet (fail); try go_wp2)
    go_ret
    exact ⟨ew_, hb_⟩
   replace c29 := Bool.eq_false_iff.mpr c29
   subst c29
   rw [if_neg (show ¬ (false = true) by decide)] at H
   have H' := q_ H
   clear H
   go_wp2
   repeat (go_quiet (fail); try go_wp2)
   go_loopg [5] kj2 (fun kq v5 w' => ∃ (x5_2 : Int), v5 = .int .i64 x5_2 ∧ Aside0 (zq4.l0 kq x5_2 a0_0 a0_1 a0_2 a0_3 l0_4 l0_5 a1_0 a1_1 a1_2 a1_3 l1_4 l1_5 = some r) ∧ Aside0 (kq ≤ kj2) ∧ Aside0 (w'.heap[gb742]? = some (.cells #[.string a0_0, .string a0_1, .string a0_2, .int .i64 a0_3, (.slice A0_4 l0_4.length c0_4), (.slice A0_5 l0_5.length c0_5)] 25 (0, 0))) ∧ Aside0 (w'.heap[gb743]? = some (.cells #[.string a1_0, .string a1_1, .string a1_2, .int .i64 a1_3, (.slice A1_4 l1_4.length c1_4), (.slice A1_5 l1_5.length c1_5)] 25 (0, 0))) ∧ Aside0 (Below w.heap.size w w'))
   case atStart => exact ⟨(0), cl_, H', ⟨Nat.le_refl _⟩, ⟨bk_ BK742.out⟩, ⟨bk_ BK743.out⟩, ⟨hb_⟩⟩
   case round =>
    clear H'
    obtain ⟨x5_2, rfl, HA, HK2, BK742, BK743, HB⟩ := hrel
    cases gk with
    | zero => exact absurd HA.out (by simp [zq4.l0])
    | succ k2 =>
     have H := HA.out
     clear HA
     simp only [zq4.l0] at H
     by_cases c30 : x5_2 < (l0_4.length : Int)
     ·rw [if_pos c30] at H
      have c30b0 : decide (x5_2 < (l0_4.length : Int)) = true := decide_eq_true c30
      clear c30
      by_cases c31 : 0 ≤ x5_2
      rotate_left
      ·rw [if_neg c31] at H
       exact absurd H (by simp)
      rw [if_pos c31] at H
      have c31b0 : decide (0 ≤ x5_2) = true := decide_eq_true c31
      clear c31
      by_cases c32 : x5_2 < (l1_4.length : Int)
      rotate_left
      ·rw [if_neg c32] at H
       exact absurd H (by simp)
      rw [if_pos c32] at H
      have c32b0 : decide (x5_2 < (l1_4.length : Int)) = true := decide_eq_true c32
      clear c32
      by_cases c33 : (!((((y0s l0_4 x5_2).f0).toList) == (((y0s l1_4 x5_2).f0).toList)) || (!(((y0s l0_4 x5_2).f1) == ((y0s l1_4 x5_2).f1)) || (!(((y0s l0_4 x5_2).f2) == ((y0s l1_4 x5_2).f2)) || (!(((y0s l0_4 x5_2).f3) == ((y0s l1_4 x5_2).f3)))))) = true
      ·rw [if_pos c33] at H
       have c33b0 : (!((((y0s l0_4 x5_2).f0).toList) == (((y0s l1_4 x5_2).f0).toList)) || (!(((y0s l0_4 x5_2).f1) == ((y0s l1_4 x5_2).f1)) || (!(((y0s l0_4 x5_2).f2) == ((y0s l1_4 x5_2).f2)) || (!(((y0s l0_4 x5_2).f3) == ((y0s l1_4 x5_2).f3)))))) = true := c33
       clear c33
       obtain rfl := Option.some.inj H
       have hnb34 := NB742_743.out
       have hnc34 := NB743_742.out
       obtain ⟨hcz35_0, hfz35_0, hcz35_1, hfz35_1, hcz35_2, hfz35_2, hcz35_3, hfz35_3, hcz35_4, hfz35_4, hcz35_5, hfz35_5⟩ := b6_ BK742.out
       have p744 : 0 ≤ (x5_2 : Int) := oa_
       have q744 : x5_2 < (l0_4.length : Int) := oa_
       obtain ⟨ad744, e744, hx744_0, hx744_1, hx744_2, hx744_3⟩ := at_T62 HR0_4.out x5_2 p744 q744
       cases e744
       replace hx744_0 := cb_ HB.out hx744_0
       replace hx744_1 := cb_ HB.out hx744_1
       replace hx744_2 := cb_ HB.out hx744_2
       replace hx744_3 := cb_ HB.out hx744_3
       replace p744 := eq_true p744
       replace q744 := eq_true q744
       obtain ⟨hcz36_0, hfz36_0, hcz36_1, hfz36_1, hcz36_2, hfz36_2, hcz36_3, hfz36_3, hcz36_4, hfz36_4, hcz36_5, hfz36_5⟩ := b6_ BK743.out
       have p745 : 0 ≤ (x5_2 : Int) := oa_
       have q745 : x5_2 < (l1_4.length : Int) := oa_
       obtain ⟨ad745, e745, hx745_0, hx745_1, hx745_2, hx745_3⟩ := at_T62 HR1_4.out x5_2 p745 q745
       cases e745
       replace hx745_0 := cb_ HB.out hx745_0
       replace hx745_1 := cb_ HB.out hx745_1
       replace hx745_2 := cb_ HB.out hx745_2
       replace hx745_3 := cb_ HB.out hx745_3
       replace p745 := eq_true p745
       replace q745 := eq_true q745
       go_wp2
       repeat (go_quiet (fail); try go_wp2)
       go_ret
       exact ⟨ew_, hb_⟩
      rw [if_neg c33] at H
      have c33b0 : (!((((y0s l0_4 x5_2).f0).toList) == (((y0s l1_4 x5_2).f0).toList)) || (!(((y0s l0_4 x5_2).f1) == ((y0s l1_4 x5_2).f1)) || (!(((y0s l0_4 x5_2).f2) == ((y0s l1_4 x5_2).f2)) || (!(((y0s l0_4 x5_2).f3) == ((y0s l1_4 x5_2).f3)))))) = false := by simpa using c33
      clear c33
      have H' := q_ H
      clear H
      have hnb37 := NB742_743.out
      have hnc37 := NB743_742.out
      obtain ⟨hcz38_0, hfz38_0, hcz38_1, hfz38_1, hcz38_2, hfz38_2, hcz38_3, hfz38_3, hcz38_4, hfz38_4, hcz38_5, hfz38_5⟩ := b6_ BK742.out
      have p744 : 0 ≤ (x5_2 : Int) := oa_
      have q744 : x5_2 < (l0_4.length : Int) := oa_
      obtain ⟨ad744, e744, hx744_0, hx744_1, hx744_2, hx744_3⟩ := at_T62 HR0_4.out x5_2 p744 q744
      cases e744
      replace hx744_0 := cb_ HB.out hx744_0
      replace hx744_1 := cb_ HB.out hx744_1
      replace hx744_2 := cb_ HB.out hx744_2
      replace hx744_3 := cb_ HB.out hx744_3
      replace p744 := eq_true p744
      replace q744 := eq_true q744
      obtain ⟨hcz39_0, hfz39_0, hcz39_1, hfz39_1, hcz39_2, hfz39_2, hcz39_3, hfz39_3, hcz39_4, hfz39_4, hcz39_5, hfz39_5⟩ := b6_ BK743.out
      have p745 : 0 ≤ (x5_2 : Int) := oa_
      have q745 : x5_2 < (l1_4.length : Int) := oa_
      obtain ⟨ad745, e745, hx745_0, hx745_1, hx745_2, hx745_3⟩ := at_T62 HR1_4.out x5_2 p745 q745
      cases e745
      replace hx745_0 := cb_ HB.out hx745_0
      replace hx745_1 := cb_ HB.out hx745_1
      replace hx745_2 := cb_ HB.out hx745_2
      replace hx745_3 := cb_ HB.out hx745_3
      replace p745 := eq_true p745
      replace q745 := eq_true q745
      go_wp2
      repeat (go_quiet (fail); try go_wp2)
      go_roundg k2
      case measure => have := HJ2.out; have := HK2.out; omega
      case rel => exact ⟨(wrap64 (x5_2 + 1)), cl_, H', ⟨by have := HJ2.out; have := HK2.out; omega⟩, ⟨bk_ BK742.out⟩, ⟨bk_ BK743.out⟩, ⟨hb_⟩⟩
     rw [if_neg c30] at H
     have c30b0 : decide (x5_2 < (l0_4.length : Int)) = false := decide_eq_false c30
     clear c30
     have H' := q_ H
     clear H
     have hnb40 := NB742_743.out
     have hnc40 := NB743_742.out
     obtain ⟨hcz41_0, hfz41_0, hcz41_1, hfz41_1, hcz41_2, hfz41_2, hcz41_3, hfz41_3, hcz41_4, hfz41_4, hcz41_5, hfz41_5⟩ := b6_ BK742.out
     go_wp2
     repeat (go_quiet (fail); try go_wp2)
     go_loopg [6] k2 (fun kq v6 w' => ∃ (x6_3 : Int), v6 = .int .i64 x6_3 ∧ Aside0 (zq4.l1 kq x6_3 a0_0 a0_1 a0_2 a0_3 l0_4 l0_5 a1_0 a1_1 a1_2 a1_3 l1_4 l1_5 = some r) ∧ Aside0 (kq ≤ k2) ∧ Aside0 (w'.heap[gb742]? = some (.cells #[.string a0_0, .string a0_1, .string a0_2, .int .i64 a0_3, (.slice A0_4 l0_4.length c0_4), (.slice A0_5 l0_5.length c0_5)] 25 (0, 0))) ∧ Aside0 (w'.heap[gb743]? = some (.cells #[.string a1_0, .string a1_1, .string a1_2, .int .i64 a1_3, (.slice A1_4 l1_4.length c1_4), (.slice A1_5 l1_5.length c1_5)] 25 (0, 0))) ∧ Aside0 (Below w.heap.size w w'))
     case atStart => exact ⟨(0), cl_, H', ⟨Nat.le_refl _⟩, ⟨bk_ BK742.out⟩, ⟨bk_ BK743.out⟩, ⟨hb_⟩⟩
     case round =>
      clear H'
      clear c30b0; clear hcz41_0; clear hcz41_1; clear hcz41_2; clear hcz41_3; clear hcz41_4; clear hcz41_5; clear hfz41_0; clear hfz41_1; clear hfz41_2; clear hfz41_3; clear hfz41_4; clear hfz41_5
      obtain ⟨x6_3, rfl, HA, HK3, BK742, BK743, HB⟩ := hrel
      cases gk with
      | zero => exact absurd HA.out (by simp [zq4.l1])
      | succ k3 =>
       have H := HA.out
       clear HA
       simp only [zq4.l1] at H
       by_cases c42 : x6_3 < (l0_5.length : Int)
       rotate_left
       ·rw [if_neg c42] at H
        have c42b0 : decide (x6_3 < (l0_5.length : Int)) = false := decide_eq_false c42
        clear c42
        obtain rfl := Option.some.inj H
        have hnb52 := NB742_743.out
        have hnc52 := NB743_742.out
        obtain ⟨hcz53_0, hfz53_0, hcz53_1, hfz53_1, hcz53_2, hfz53_2, hcz53_3, hfz53_3, hcz53_4, hfz53_4, hcz53_5, hfz53_5⟩ := b6_ BK742.out
        go_wp2
        repeat (go_quiet (fail); try go_wp2)
        go_ret
        exact ⟨ew_, hb_⟩
       rw [if_pos c42] at H
       have c42b0 : decide (x6_3 < (l0_5.length : Int)) = true := decide_eq_true c42
       clear c42
       by_cases c43 : 0 ≤ x6_3
       rotate_left
       ·rw [if_neg c43] at H
        exact absurd H (by simp)
       rw [if_pos c43] at H
       have c43b0 : decide (0 ≤ x6_3) = true := decide_eq_true c43
       clear c43
       by_cases c44 : x6_3 < (l1_5.length : Int)
       rotate_left
       ·rw [if_neg c44] at H
        exact absurd H (by simp)
       rw [if_pos c44] at H
       have c44b0 : decide (x6_3 < (l1_5.length : Int)) = true := decide_eq_true c44
       clear c44
       by_cases c45 : (!(((y0r l0_5 x6_3).f0) == ((y0r l1_5 x6_3).f0)) || (!(((y0r l0_5 x6_3).f1) == ((y0r l1_5 x6_3).f1)) || (!(((y0r l0_5 x6_3).f2) == ((y0r l1_5 x6_3).f2)) || (!((((y0r l0_5 x6_3).f3).toList) == (((y0r l1_5 x6_3).f3).toList)) || (!(((y0r l0_5 x6_3).f4) == ((y0r l1_5 x6_3).f4))))))) = true
       ·rw [if_pos c45] at H
        have c45b0 : (!(((y0r l0_5 x6_3).f0) == ((y0r l1_5 x6_3).f0)) || (!(((y0r l0_5 x6_3).f1) == ((y0r l1_5 x6_3).f1)) || (!(((y0r l0_5 x6_3).f2) == ((y0r l1_5 x6_3).f2)) || (!((((y0r l0_5 x6_3).f3).toList) == (((y0r l1_5 x6_3).f3).toList)) || (!(((y0r l0_5 x6_3).f4) == ((y0r l1_5 x6_3).f4))))))) = true := c45
        clear c45
        obtain rfl := Option.some.inj H
        have hnb46 := NB742_743.out
        have hnc46 := NB743_742.out
        obtain ⟨hcz47_0, hfz47_0, hcz47_1, hfz47_1, hcz47_2, hfz47_2, hcz47_3, hfz47_3, hcz47_4, hfz47_4, hcz47_5, hfz47_5⟩ := b6_ BK742.out
        have p746 : 0 ≤ (x6_3 : Int) := oa_
        have q746 : x6_3 < (l0_5.length : Int) := oa_
        obtain ⟨ad746, e746, hx746_0, hx746_1, hx746_2, hx746_3, hx746_4⟩ := at_T43 HR0_5.out x6_3 p746 q746
        cases e746
        replace hx746_0 := cb_ HB.out hx746_0
        replace hx746_1 := cb_ HB.out hx746_1
        replace hx746_2 := cb_ HB.out hx746_2
        replace hx746_3 := cb_ HB.out hx746_3
        replace hx746_4 := cb_ HB.out hx746_4
        replace p746 := eq_true p746
        replace q746 := eq_true q746
        obtain ⟨hcz48_0, hfz48_0, hcz48_1, hfz48_1, hcz48_2, hfz48_2, hcz48_3, hfz48_3, hcz48_4, hfz48_4, hcz48_5, hfz48_5⟩ := b6_ BK743.out
        have p747 : 0 ≤ (x6_3 : Int) := oa_
        have q747 : x6_3 < (l1_5.length : Int) := oa_
        obtain ⟨ad747, e747, hx747_0, hx747_1, hx747_2, hx747_3, hx747_4⟩ := at_T43 HR1_5.out x6_3 p747 q747
        cases e747
        replace hx747_0 := cb_ HB.out hx747_0
        replace hx747_1 := cb_ HB.out hx747_1
        replace hx747_2 := cb_ HB.out hx747_2
        replace hx747_3 := cb_ HB.out hx747_3
        replace hx747_4 := cb_ HB.out hx747_4
        replace p747 := eq_true p747
        replace q747 := eq_true q747
        go_wp2
        repeat (go_quiet (fail); try go_wp2)
        go_ret
        exact ⟨ew_, hb_⟩
       rw [if_neg c45] at H
       have c45b0 : (!(((y0r l0_5 x6_3).f0) == ((y0r l1_5 x6_3).f0)) || (!(((y0r l0_5 x6_3).f1) == ((y0r l1_5 x6_3).f1)) || (!(((y0r l0_5 x6_3).f2) == ((y0r l1_5 x6_3).f2)) || (!((((y0r l0_5 x6_3).f3).toList) == (((y0r l1_5 x6_3).f3).toList)) || (!(((y0r l0_5 x6_3).f4) == ((y0r l1_5 x6_3).f4))))))) = false := by simpa using c45
       clear c45
       have H' := q_ H
       clear H
       have hnb49 := NB742_743.out
       have hnc49 := NB743_742.out
       obtain ⟨hcz50_0, hfz50_0, hcz50_1, hfz50_1, hcz50_2, hfz50_2, hcz50_3, hfz50_3, hcz50_4, hfz50_4, hcz50_5, hfz50_5⟩ := b6_ BK742.out
       have p746 : 0 ≤ (x6_3 : Int) := oa_
       have q746 : x6_3 < (l0_5.length : Int) := oa_
       obtain ⟨ad746, e746, hx746_0, hx746_1, hx746_2, hx746_3, hx746_4⟩ := at_T43 HR0_5.out x6_3 p746 q746
       cases e746
       replace hx746_0 := cb_ HB.out hx746_0
       replace hx746_1 := cb_ HB.out hx746_1
       replace hx746_2 := cb_ HB.out hx746_2
       replace hx746_3 := cb_ HB.out hx746_3
       replace hx746_4 := cb_ HB.out hx746_4
       replace p746 := eq_true p746
       replace q746 := eq_true q746
       obtain ⟨hcz51_0, hfz51_0, hcz51_1, hfz51_1, hcz51_2, hfz51_2, hcz51_3, hfz51_3, hcz51_4, hfz51_4, hcz51_5, hfz51_5⟩ := b6_ BK743.out
       have p747 : 0 ≤ (x6_3 : Int) := oa_
       have q747 : x6_3 < (l1_5.length : Int) := oa_
       obtain ⟨ad747, e747, hx747_0, hx747_1, hx747_2, hx747_3, hx747_4⟩ := at_T43 HR1_5.out x6_3 p747 q747
       cases e747
       replace hx747_0 := cb_ HB.out hx747_0
       replace hx747_1 := cb_ HB.out hx747_1
       replace hx747_2 := cb_ HB.out hx747_2
       replace hx747_3 := cb_ HB.out hx747_3
       replace hx747_4 := cb_ HB.out hx747_4
       replace p747 := eq_true p747
       replace q747 := eq_true q747
       go_wp2
       repeat (go_quiet (fail); try go_wp2)
       go_roundg k3
       case measure => have := HJ2.out; have := HK2.out; have := HK3.out; omega
       case rel => exact ⟨(wrap64 (x6_3 + 1)), cl_, H', ⟨by have := HJ2.out; have := HK2.out; have := HK3.out; omega⟩, ⟨bk_ BK742.out⟩, ⟨bk_ BK743.out⟩, ⟨hb_⟩⟩
end Go.Proofs.Ytenlmckahaniiaa.K
end
section
namespace Go.Proofs.Ytenlmckahaniiaa.K
open Go.RowKit Go.Proofs.YtenlmckahaniiaaW.PrintWords Go.Proofs.YtenlmckahaniiaaW.PrintLast
def zqu.l0 : Nat → List (S25) → List (S25) → Int → Option (Bool)
  | 0, _, _, _ => none
  | k + 1, x0, x1, x5 => if x5 < (x0.length : Int) then (if 0 ≤ x5 then (if x5 < (x1.length : Int) then ((zq4.f k ((y0q x0 x5).f0) ((y0q x0 x5).f1) ((y0q x0 x5).f2) ((y0q x0 x5).f3) ((y0q x0 x5).f4) ((y0q x0 x5).f5) ((y0q x1 x5).f0) ((y0q x1 x5).f1) ((y0q x1 x5).f2) ((y0q x1 x5).f3) ((y0q x1 x5).f4) ((y0q x1 x5).f5)).bind fun t750 => (if t750 = true then (zqu.l0 k x0 x1 (wrap64 (x5 + 1))) else (some false))) else (none)) else (none)) else (some true)
def zqu.f (k : Nat) (l0 : List (S25)) (l1 : List (S25)) : Option (Bool) := if (l0.length : Int) = (l1.length : Int) then (zqu.l0 k l0 l1 0) else (some false)
def zqu.T6 : Bool × List (List Nat × List Nat) := (true, [([], []), ([], []), ([0, 1], [0, 1]), ([2], [2]), ([], []), ([], []), ([4, 5], [4, 5]), ([6], [6]), ([3, 7], [3, 7]), ([8], [8])])
def zqu.B6 : List Nat := [0, 0, 3, 7, 0, 0, 48, 112, 255, 511]
theorem zqu.tab6 : rtab .any (opsOf Try.f41 6) = zqu.T6 := by kernel_rfl
theorem zqu.bits6 : waitsOk zqu.T6.2 zqu.B6 = true := by kernel_rfl
theorem zqu.calls (k : Nat) (A0 : Option Addr) (c0 : Nat) (l0 : List (S25)) (A1 : Option Addr) (c1 : Nat) (l1 : List (S25)) (r : Bool) (w : World) (hr0 : Kd.C k25 w A0 l0.length l0) (hc0 : l0.length ≤ c0) (hr1 : Kd.C k25 w A1 l1.length l1) (hc1 : l1.length ≤ c1) (h : zqu.f k l0 l1 = some r) :
  Calls Try.prog 41 #[.slice A0 l0.length c0, .slice A1 l1.length c1] w fun e w' => e = .returned (.bool r) ∧ Below w.heap.size w w' := by
 have hu25 := Try.underlying25
 have HR0 := q_ hr0
 have HC0 := q_ hc0
 clear hr0 hc0
 have HR1 := q_ hr1
 have HC1 := q_ hc1
 clear hr1 hc1
 have HB := q_ (Below.refl w.heap.size w)
 have H : (if (l0.length : Int) = (l1.length : Int) then (zqu.l0 k l0 l1 0) else (some false)) = some r := h
 clear h
 by_cases c3 : (l0.length : Int) = (l1.length : Int)
 rotate_left
 ·rw [if_neg c3] at H
  have c3b0 : ((l0.length : Int) == (l1.length : Int)) = false := beq_eq_false_iff_ne.mpr c3
  have c3b1 : ((l0.length : Int) != (l1.length : Int)) = true := bne_iff_ne.mpr c3
  have c3b2 : (l0.length == l1.length) = false := by first | simpa using c3 | (simp at c3 ⊢; omega)
  obtain rfl := Option.some.inj H
  go_enter Try.func41, Try.ntmps41
  go_wp2
  go_ret
  exact ⟨ew_, hb_⟩
 rw [if_pos c3] at H
 have c3b0 : ((l0.length : Int) == (l1.length : Int)) = true := beq_iff_eq.mpr c3
 have c3b1 : ((l0.length : Int) != (l1.length : Int)) = false := bne_eq_false_iff_eq.mpr c3
 have c3b2 : (l0.length == l1.length) = true := by first | simpa using c3 | (simp at c3 ⊢; omega)
 clear c3
 have H' := q_ H
 clear H
 go_enter Try.func41, Try.ntmps41
 go_wp2
 go_loopg [5] k (fun kq v5 w' => ∃ (x5_1 : Int), v5 = .int .i64 x5_1 ∧ Aside0 (zqu.l0 kq l0 l1 x5_1 = some r) ∧ Aside0 (kq ≤ k) ∧ Aside0 (Below w.heap.size w w'))
 case atStart => exact ⟨(0), cl_, H', ⟨Nat.le_refl _⟩, ⟨hb_⟩⟩
 case round =>
  clear H'
  (try clear c1); (try clear p2); (try clear c3); (try clear c3b0); (try clear c3b1); (try clear c3b2)
  obtain ⟨x5_1, rfl, HA, HK1, HB⟩ := hrel
  cases gk with
  | zero => exact absurd HA.out (by simp [zqu.l0])
  | succ k1 =>
   have H := HA.out
   clear HA
   simp only [zqu.l0] at H
   by_cases c4 : x5_1 < (l0.length : Int)
   rotate_left
   ·rw [if_neg c4] at H
    have c4b0 : decide (x5_1 < (l0.length : Int)) = false := decide_eq_false c4
    clear c4
    obtain rfl := Option.some.inj H
    go_wp2
    go_ret
    exact ⟨ew_, hb_⟩
   rw [if_pos c4] at H
   have c4b0 : decide (x5_1 < (l0.length : Int)) = true := decide_eq_true c4
   clear c4
   by_cases c5 : 0 ≤ x5_1
   rotate_left
   ·rw [if_neg c5] at H
    exact absurd H (by simp)
   rw [if_pos c5] at H
   have c5b0 : decide (0 ≤ x5_1) = true := decide_eq_true c5
   clear c5
   by_cases c6 : x5_1 < (l1.length : Int)
   rotate_left
   ·rw [if_neg c6] at H
    exact absurd H (by simp)
   rw [if_pos c6] at H
   have c6b0 : decide (x5_1 < (l1.length : Int)) = true := decide_eq_true c6
   clear c6
   replace H := Option.bind_eq_some_iff.mp H
   obtain ⟨t750, A70, H⟩ := H
   (try dsimp only at H)
   have A7 := q_ A70
   clear A70
   by_cases c8 : t750 = true
   rotate_left
   ·replace c8 := Bool.eq_false_iff.mpr c8
    subst c8
    rw [if_neg (show ¬ (false = true) by decide)] at H
    obtain rfl := Option.some.inj H
    try go_wp2
    have n0_ := q_ (y02 HB.out)
    clear HB
    have HB := n0_
    clear n0_
    have p748 : 0 ≤ (x5_1 : Int) := oa_
    have q748 : x5_1 < (l0.length : Int) := oa_
    obtain ⟨ad748, A748_4, c748_4, A748_5, c748_5, e748, hx748_0, hx748_1, hx748_2, hx748_3, hx748_4, hx748_5, hl748_4, hi748_4, hl748_5, hi748_5⟩ := at_T25 HR0.out x5_1 p748 q748
    have hw748_5 := hx748_5
    have hw748_4 := hx748_4
    have hw748_3 := hx748_3
    have hw748_2 := hx748_2
    have hw748_1 := hx748_1
    have hw748_0 := hx748_0
    cases e748
    replace hx748_0 := cb_ HB.out hx748_0
    replace hx748_1 := cb_ HB.out hx748_1
    replace hx748_2 := cb_ HB.out hx748_2
    replace hx748_3 := cb_ HB.out hx748_3
    replace hx748_4 := cb_ HB.out hx748_4
    replace hx748_5 := cb_ HB.out hx748_5
    have HR748_4 := q_ hi748_4
    have HC748_4 := q_ hl748_4
    clear hi748_4 hl748_4
    have HR748_5 := q_ hi748_5
    have HC748_5 := q_ hl748_5
    clear hi748_5 hl748_5
    replace p748 := eq_true p748
    replace q748 := eq_true q748
    have p749 : 0 ≤ (x5_1 : Int) := oa_
    have q749 : x5_1 < (l1.length : Int) := oa_
    obtain ⟨ad749, A749_4, c749_4, A749_5, c749_5, e749, hx749_0, hx749_1, hx749_2, hx749_3, hx749_4, hx749_5, hl749_4, hi749_4, hl749_5, hi749_5⟩ := at_T25 HR1.out x5_1 p749 q749
    have hw749_5 := hx749_5
    have hw749_4 := hx749_4
    have hw749_3 := hx749_3
    have hw749_2 := hx749_2
    have hw749_1 := hx749_1
    have hw749_0 := hx749_0
    cases e749
    replace hx749_0 := cb_ HB.out hx749_0
    replace hx749_1 := cb_ HB.out hx749_1
    replace hx749_2 := cb_ HB.out hx749_2
    replace hx749_3 := cb_ HB.out hx749_3
    replace hx749_4 := cb_ HB.out hx749_4
    replace hx749_5 := cb_ HB.out hx749_5
    have HR749_4 := q_ hi749_4
    have HC749_4 := q_ hl749_4
    clear hi749_4 hl749_4
    have HR749_5 := q_ hi749_5
    have HC749_5 := q_ hl749_5
    clear hi749_5 hl749_5
    replace p749 := eq_true p749
    replace q749 := eq_true q749
    refine start_ (n := 10) (S := fun w' => w'.cell? (ad748.add ((x5_1).toNat * 6)) = some (.string ((y0q l0 x5_1).f0)) ∧ w'.cell? ⟨(ad748.add ((x5_1).toNat * 6)).block, (ad748.add ((x5_1).toNat * 6)).off + 1, none⟩ = some (.string ((y0q l0 x5_1).f1)) ∧ w'.cell? ⟨(ad748.add ((x5_1).toNat * 6)).block, (ad748.add ((x5_1).toNat * 6)).off + 2, none⟩ = some (.string ((y0q l0 x5_1).f2)) ∧ w'.cell? ⟨(ad748.add ((x5_1).toNat * 6)).block, (ad748.add ((x5_1).toNat * 6)).off + 3, none⟩ = some (.int .i64 ((y0q l0 x5_1).f3)) ∧ w'.cell? ⟨(ad748.add ((x5_1).toNat * 6)).block, (ad748.add ((x5_1).toNat * 6)).off + 4, none⟩ = some (.slice A748_4 ((y0q l0 x5_1).f4).length c748_4) ∧ w'.cell? ⟨(ad748.add ((x5_1).toNat * 6)).block, (ad748.add ((x5_1).toNat * 6)).off + 5, none⟩ = some (.slice A748_5 ((y0q l0 x5_1).f5).length c748_5) ∧ w'.cell? (ad749.add ((x5_1).toNat * 6)) = some (.string ((y0q l1 x5_1).f0)) ∧ w'.cell? ⟨(ad749.add ((x5_1).toNat * 6)).block, (ad749.add ((x5_1).toNat * 6)).off + 1, none⟩ = some (.string ((y0q l1 x5_1).f1)) ∧ w'.cell? ⟨(ad749.add ((x5_1).toNat * 6)).block, (ad749.add ((x5_1).toNat * 6)).off + 2, none⟩ = some (.string ((y0q l1 x5_1).f2)) ∧ w'.cell? ⟨(ad749.add ((x5_1).toNat * 6)).block, (ad749.add ((x5_1).toNat * 6)).off + 3, none⟩ = some (.int .i64 ((y0q l1 x5_1).f3)) ∧ w'.cell? ⟨(ad749.add ((x5_1).toNat * 6)).block, (ad749.add ((x5_1).toNat * 6)).off + 4, none⟩ = some (.slice A749_4 ((y0q l1 x5_1).f4).length c749_4) ∧ w'.cell? ⟨(ad749.add ((x5_1).toNat * 6)).block, (ad749.add ((x5_1).toNat * 6)).off + 5, none⟩ = some (.slice A749_5 ((y0q l1 x5_1).f5).length c749_5)) (ds := []) #[false, false, false, false, false, false, false, false, false, false] (by kernel_rfl) rfl rfl ⟨((HB.out.cell (World.block_lt_of_cell? w _ hw748_0)).trans hw748_0), ((HB.out.cell (World.block_lt_of_cell? w _ hw748_1)).trans hw748_1), ((HB.out.cell (World.block_lt_of_cell? w _ hw748_2)).trans hw748_2), ((HB.out.cell (World.block_lt_of_cell? w _ hw748_3)).trans hw748_3), ((HB.out.cell (World.block_lt_of_cell? w _ hw748_4)).trans hw748_4), ((HB.out.cell (World.block_lt_of_cell? w _ hw748_5)).trans hw748_5), ((HB.out.cell (World.block_lt_of_cell? w _ hw749_0)).trans hw749_0), ((HB.out.cell (World.block_lt_of_cell? w _ hw749_1)).trans hw749_1), ((HB.out.cell (World.block_lt_of_cell? w _ hw749_2)).trans hw749_2), ((HB.out.cell (World.block_lt_of_cell? w _ hw749_3)).trans hw749_3), ((HB.out.cell (World.block_lt_of_cell? w _ hw749_4)).trans hw749_4), ((HB.out.cell (World.block_lt_of_cell? w _ hw749_5)).trans hw749_5)⟩ (fun hHeld => ?_); refine with_tabW zqu.tab6 zqu.bits6 (fun HT_ HW_ => ?_)
    generalize wr.drew = w11 at HB HR748_4 HR748_5 HR749_4 HR749_5 hx748_0 hx748_1 hx748_2 hx748_3 hx748_4 hx748_5 hx749_0 hx749_1 hx749_2 hx749_3 hx749_4 hx749_5 hHeld ⊢
    refine pu_ 0 (some 17) (fl 10 1) rfl rfl HT_ ?_
    refine pu_ 1 (some 18) (fl 10 3) rfl rfl HT_ ?_
    refine pu_ 2 (some 19) (fl 10 7) rfl rfl HT_ ?_
    refine pu_ 4 (some 21) (fl 10 23) rfl rfl HT_ ?_
    refine pu_ 5 (some 22) (fl 10 55) rfl rfl HT_ ?_
    refine pu_ 6 (some 23) (fl 10 119) rfl rfl HT_ ?_
    refine ta_ 3 (some 20) (fl 10 127) rfl rfl HT_ HW_ hHeld ?_
    refine ta_ 7 (some 24) (fl 10 255) rfl rfl HT_ HW_ hHeld ?_
    refine one_ (i := 8) (N := some 25) (fl 10 511) rfl rfl (y0p HT_.out (by kernel_rfl)) (by decide) (fun K hK => ?_)
    refine goes_ Try.func83 (by kernel_rfl) rfl #[.agg #[.string ((y0q l0 x5_1).f0), .string ((y0q l0 x5_1).f1), .string ((y0q l0 x5_1).f2), .int .i64 ((y0q l0 x5_1).f3), .slice A748_4 ((y0q l0 x5_1).f4).length c748_4, .slice A748_5 ((y0q l0 x5_1).f5).length c748_5], .agg #[.string ((y0q l1 x5_1).f0), .string ((y0q l1 x5_1).f1), .string ((y0q l1 x5_1).f2), .int .i64 ((y0q l1 x5_1).f3), .slice A749_4 ((y0q l1 x5_1).f4).length c749_4, .slice A749_5 ((y0q l1 x5_1).f5).length c749_5]] (by rfl) rfl rfl ar_ ?_
    with_reducible refine (zq4.calls k1 ((y0q l0 x5_1).f0) ((y0q l0 x5_1).f1) ((y0q l0 x5_1).f2) ((y0q l0 x5_1).f3) _ _ ((y0q l0 x5_1).f4) _ _ ((y0q l0 x5_1).f5) ((y0q l1 x5_1).f0) ((y0q l1 x5_1).f1) ((y0q l1 x5_1).f2) ((y0q l1 x5_1).f3) _ _ ((y0q l1 x5_1).f4) _ _ ((y0q l1 x5_1).f5) false _ ?side1 ?side2 ?side3 ?side4 ?side5 ?side6 ?side7 ?side8 A7.out).mono ?_
    (case side1 => exact ck_ (Kd.C_below HR748_4.out HB.out))
    (case side2 => exact HC748_4.out)
    (case side3 => exact ck_ (Kd.C_below HR748_5.out HB.out))
    (case side4 => exact HC748_5.out)
    (case side5 => exact ck_ (Kd.C_below HR749_4.out HB.out))
    (case side6 => exact HC749_4.out)
    (case side7 => exact ck_ (Kd.C_below HR749_5.out HB.out))
    (case side8 => exact HC749_5.out)
    rintro e w12 ⟨rfl, hb⟩
    refine ⟨_, rfl, ?_⟩
    have n0_ := q_ (y05 hb_ hb)
    clear HB
    have HB := n0_
    clear n0_
    (try clear hb); (try clear hb2); (try clear hk); (try clear hi)
    refine hK.out _ _ ⟨((HB.out.cell (World.block_lt_of_cell? w _ hw748_0)).trans hw748_0), ((HB.out.cell (World.block_lt_of_cell? w _ hw748_1)).trans hw748_1), ((HB.out.cell (World.block_lt_of_cell? w _ hw748_2)).trans hw748_2), ((HB.out.cell (World.block_lt_of_cell? w _ hw748_3)).trans hw748_3), ((HB.out.cell (World.block_lt_of_cell? w _ hw748_4)).trans hw748_4), ((HB.out.cell (World.block_lt_of_cell? w _ hw748_5)).trans hw748_5), ((HB.out.cell (World.block_lt_of_cell? w _ hw749_0)).trans hw749_0), ((HB.out.cell (World.block_lt_of_cell? w _ hw749_1)).trans hw749_1), ((HB.out.cell (World.block_lt_of_cell? w _ hw749_2)).trans hw749_2), ((HB.out.cell (World.block_lt_of_cell? w _ hw749_3)).trans hw749_3), ((HB.out.cell (World.block_lt_of_cell? w _ hw749_4)).trans hw749_4), ((HB.out.cell (World.block_lt_of_cell? w _ hw749_5)).trans hw749_5)⟩ (fun hHeld => ?_)
    clear hK K
    refine no_ (N := some 25) ?_
    refine pu_ 9 (some 26) (fl 10 1023) rfl rfl HT_ ?_
    refine done_ (done_of HT_.out (by kernel_rfl)) ?_
    try go_wp2
    go_ret
    exact ⟨ew_, hb_⟩
   subst c8
   rw [if_pos rfl] at H
   have H' := q_ H
   clear H
   try go_wp2
   have n0_ := q_ (y02 HB.out)
   clear HB
   have HB := n0_
   clear n0_
   have p748 : 0 ≤ (x5_1 : Int) := oa_
   have q748 : x5_1 < (l0.length : Int) := oa_
   obtain ⟨ad748, A748_4, c748_4, A748_5, c748_5, e748, hx748_0, hx748_1, hx748_2, hx748_3, hx748_4, hx748_5, hl748_4, hi748_4, hl748_5, hi748_5⟩ := at_T25 HR0.out x5_1 p748 q748
   have hw748_5 := hx748_5
   have hw748_4 := hx748_4
   have hw748_3 := hx748_3
   have hw748_2 := hx748_2
   have hw748_1 := hx748_1
   have hw748_0 := hx748_0
   cases e748
   replace hx748_0 := cb_ HB.out hx748_0
   replace hx748_1 := cb_ HB.out hx748_1
   replace hx748_2 := cb_ HB.out hx748_2
   replace hx748_3 := cb_ HB.out hx748_3
   replace hx748_4 := cb_ HB.out hx748_4
   replace hx748_5 := cb_ HB.out hx748_5
   have HR748_4 := q_ hi748_4
   have HC748_4 := q_ hl748_4
   clear hi748_4 hl748_4
   have HR748_5 := q_ hi748_5
   have HC748_5 := q_ hl748_5
   clear hi748_5 hl748_5
   replace p748 := eq_true p748
   replace q748 := eq_true q748
   have p749 : 0 ≤ (x5_1 : Int) := oa_
   have q749 : x5_1 < (l1.length : Int) := oa_
   obtain ⟨ad749, A749_4, c749_4, A749_5, c749_5, e749, hx749_0, hx749_1, hx749_2, hx749_3, hx749_4, hx749_5, hl749_4, hi749_4, hl749_5, hi749_5⟩ := at_T25 HR1.out x5_1 p749 q749
   have hw749_5 := hx749_5
   have hw749_4 := hx749_4
   have hw749_3 := hx749_3
   have hw749_2 := hx749_2
   have hw749_1 := hx749_1
   have hw749_0 := hx749_0
   cases e749
   replace hx749_0 := cb_ HB.out hx749_0
   replace hx749_1 := cb_ HB.out hx749_1
   replace hx749_2 := cb_ HB.out hx749_2
   replace hx749_3 := cb_ HB.out hx749_3
   replace hx749_4 := cb_ HB.out hx749_4
   replace hx749_5 := cb_ HB.out hx749_5
   have HR749_4 := q_ hi749_4
   have HC749_4 := q_ hl749_4
   clear hi749_4 hl749_4
   have HR749_5 := q_ hi749_5
   have HC749_5 := q_ hl749_5
   clear hi749_5 hl749_5
   replace p749 := eq_true p749
   replace q749 := eq_true q749
   refine start_ (n := 10) (S := fun w' => w'.cell? (ad748.add ((x5_1).toNat * 6)) = some (.string ((y0q l0 x5_1).f0)) ∧ w'.cell? ⟨(ad748.add ((x5_1).toNat * 6)).block, (ad748.add ((x5_1).toNat * 6)).off + 1, none⟩ = some (.string ((y0q l0 x5_1).f1)) ∧ w'.cell? ⟨(ad748.add ((x5_1).toNat * 6)).block, (ad748.add ((x5_1).toNat * 6)).off + 2, none⟩ = some (.string ((y0q l0 x5_1).f2)) ∧ w'.cell? ⟨(ad748.add ((x5_1).toNat * 6)).block, (ad748.add ((x5_1).toNat * 6)).off + 3, none⟩ = some (.int .i64 ((y0q l0 x5_1).f3)) ∧ w'.cell? ⟨(ad748.add ((x5_1).toNat * 6)).block, (ad748.add ((x5_1).toNat * 6)).off + 4, none⟩ = some (.slice A748_4 ((y0q l0 x5_1).f4).length c748_4) ∧ w'.cell? ⟨(ad748.add ((x5_1).toNat * 6)).block, (ad748.add ((x5_1).toNat * 6)).off + 5, none⟩ = some (.slice A748_5 ((y0q l0 x5_1).f5).length c748_5) ∧ w'.cell? (ad749.add ((x5_1).toNat * 6)) = some (.string ((y0q l1 x5_1).f0)) ∧ w'.cell? ⟨(ad749.add ((x5_1).toNat * 6)).block, (ad749.add ((x5_1).toNat * 6)).off + 1, none⟩ = some (.string ((y0q l1 x5_1).f1)) ∧ w'.cell? ⟨(ad749.add ((x5_1).toNat * 6)).block, (ad749.add ((x5_1).toNat * 6)).off + 2, none⟩ = some (.string ((y0q l1 x5_1).f2)) ∧ w'.cell? ⟨(ad749.add ((x5_1).toNat * 6)).block, (ad749.add ((x5_1).toNat * 6)).off + 3, none⟩ = some (.int .i64 ((y0q l1 x5_1).f3)) ∧ w'.cell? ⟨(ad749.add ((x5_1).toNat * 6)).block, (ad749.add ((x5_1).toNat * 6)).off + 4, none⟩ = some (.slice A749_4 ((y0q l1 x5_1).f4).length c749_4) ∧ w'.cell? ⟨(ad749.add ((x5_1).toNat * 6)).block, (ad749.add ((x5_1).toNat * 6)).off + 5, none⟩ = some (.slice A749_5 ((y0q l1 x5_1).f5).length c749_5)) (ds := []) #[false, false, false, false, false, false, false, false, false, false] (by kernel_rfl) rfl rfl ⟨((HB.out.cell (World.block_lt_of_cell? w _ hw748_0)).trans hw748_0), ((HB.out.cell (World.block_lt_of_cell? w _ hw748_1)).trans hw748_1), ((HB.out.cell (World.block_lt_of_cell? w _ hw748_2)).trans hw748_2), ((HB.out.cell (World.block_lt_of_cell? w _ hw748_3)).trans hw748_3), ((HB.out.cell (World.block_lt_of_cell? w _ hw748_4)).trans hw748_4), ((HB.out.cell (World.block_lt_of_cell? w _ hw748_5)).trans hw748_5), ((HB.out.cell (World.block_lt_of_cell? w _ hw749_0)).trans hw749_0), ((HB.out.cell (World.block_lt_of_cell? w _ hw749_1)).trans hw749_1), ((HB.out.cell (World.block_lt_of_cell? w _ hw749_2)).trans hw749_2), ((HB.out.cell (World.block_lt_of_cell? w _ hw749_3)).trans hw749_3), ((HB.out.cell (World.block_lt_of_cell? w _ hw749_4)).trans hw749_4), ((HB.out.cell (World.block_lt_of_cell? w _ hw749_5)).trans hw749_5)⟩ (fun hHeld => ?_); refine with_tabW zqu.tab6 zqu.bits6 (fun HT_ HW_ => ?_)
   generalize wr.drew = w9 at HB HR748_4 HR748_5 HR749_4 HR749_5 hx748_0 hx748_1 hx748_2 hx748_3 hx748_4 hx748_5 hx749_0 hx749_1 hx749_2 hx749_3 hx749_4 hx749_5 hHeld ⊢
   refine pu_ 0 (some 17) (fl 10 1) rfl rfl HT_ ?_
   refine pu_ 1 (some 18) (fl 10 3) rfl rfl HT_ ?_
   refine pu_ 2 (some 19) (fl 10 7) rfl rfl HT_ ?_
   refine pu_ 4 (some 21) (fl 10 23) rfl rfl HT_ ?_
   refine pu_ 5 (some 22) (fl 10 55) rfl rfl HT_ ?_
   refine pu_ 6 (some 23) (fl 10 119) rfl rfl HT_ ?_
   refine ta_ 3 (some 20) (fl 10 127) rfl rfl HT_ HW_ hHeld ?_
   refine ta_ 7 (some 24) (fl 10 255) rfl rfl HT_ HW_ hHeld ?_
   refine one_ (i := 8) (N := some 25) (fl 10 511) rfl rfl (y0p HT_.out (by kernel_rfl)) (by decide) (fun K hK => ?_)
   refine goes_ Try.func83 (by kernel_rfl) rfl #[.agg #[.string ((y0q l0 x5_1).f0), .string ((y0q l0 x5_1).f1), .string ((y0q l0 x5_1).f2), .int .i64 ((y0q l0 x5_1).f3), .slice A748_4 ((y0q l0 x5_1).f4).length c748_4, .slice A748_5 ((y0q l0 x5_1).f5).length c748_5], .agg #[.string ((y0q l1 x5_1).f0), .string ((y0q l1 x5_1).f1), .string ((y0q l1 x5_1).f2), .int .i64 ((y0q l1 x5_1).f3), .slice A749_4 ((y0q l1 x5_1).f4).length c749_4, .slice A749_5 ((y0q l1 x5_1).f5).length c749_5]] (by rfl) rfl rfl ar_ ?_
   with_reducible refine (zq4.calls k1 ((y0q l0 x5_1).f0) ((y0q l0 x5_1).f1) ((y0q l0 x5_1).f2) ((y0q l0 x5_1).f3) _ _ ((y0q l0 x5_1).f4) _ _ ((y0q l0 x5_1).f5) ((y0q l1 x5_1).f0) ((y0q l1 x5_1).f1) ((y0q l1 x5_1).f2) ((y0q l1 x5_1).f3) _ _ ((y0q l1 x5_1).f4) _ _ ((y0q l1 x5_1).f5) true _ ?side1 ?side2 ?side3 ?side4 ?side5 ?side6 ?side7 ?side8 A7.out).mono ?_
   (case side1 => exact ck_ (Kd.C_below HR748_4.out HB.out))
   (case side2 => exact HC748_4.out)
   (case side3 => exact ck_ (Kd.C_below HR748_5.out HB.out))
   (case side4 => exact HC748_5.out)
   (case side5 => exact ck_ (Kd.C_below HR749_4.out HB.out))
   (case side6 => exact HC749_4.out)
   (case side7 => exact ck_ (Kd.C_below HR749_5.out HB.out))
   (case side8 => exact HC749_5.out)
   rintro e w10 ⟨rfl, hb⟩
   refine ⟨_, rfl, ?_⟩
   have n0_ := q_ (y05 hb_ hb)
   clear HB
   have HB := n0_
   clear n0_
   (try clear hb); (try clear hb2); (try clear hk); (try clear hi)
   refine hK.out _ _ ⟨((HB.out.cell (World.block_lt_of_cell? w _ hw748_0)).trans hw748_0), ((HB.out.cell (World.block_lt_of_cell? w _ hw748_1)).trans hw748_1), ((HB.out.cell (World.block_lt_of_cell? w _ hw748_2)).trans hw748_2), ((HB.out.cell (World.block_lt_of_cell? w _ hw748_3)).trans hw748_3), ((HB.out.cell (World.block_lt_of_cell? w _ hw748_4)).trans hw748_4), ((HB.out.cell (World.block_lt_of_cell? w _ hw748_5)).trans hw748_5), ((HB.out.cell (World.block_lt_of_cell? w _ hw749_0)).trans hw749_0), ((HB.out.cell (World.block_lt_of_cell? w _ hw749_1)).trans hw749_1), ((HB.out.cell (World.block_lt_of_cell? w _ hw749_2)).trans hw749_2), ((HB.out.cell (World.block_lt_of_cell? w _ hw749_3)).trans hw749_3), ((HB.out.cell (World.block_lt_of_cell? w _ hw749_4)).trans hw749_4), ((HB.out.cell (World.block_lt_of_cell? w _ hw749_5)).trans hw749_5)⟩ (fun hHeld => ?_)
   clear hK K
   refine no_ (N := some 25) ?_
   refine pu_ 9 (some 26) (fl 10 1023) rfl rfl HT_ ?_
   refine done_ (done_of HT_.out (by kernel_rfl)) ?_
   try go_wp2
   go_roundg k1
   case measure => have := HK1.out; omega
   case rel => exact ⟨(wrap64 (x5_1 + 1)), cl_, H', ⟨by have := HK1.out; omega⟩, ⟨hb_⟩⟩
end Go.Proofs.Ytenlmckahaniiaa.K
end
