/- Lemmas for several laws: what their proofs need of this seat's texts, in one place. -/
import Derived.Test.YtenlmckahaniiaaZcLc4
set_option linter.unusedVariables false
set_option linter.unusedSimpArgs false
set_option linter.unusedSectionVars false
set_option maxHeartbeats 8000000
set_option maxRecDepth 100000
section
namespace Go.Proofs.Ytenlmckahaniiaa.K
open Go.RowKit Go.Proofs.YtenlmckahaniiaaW.PrintWords Go.Proofs.YtenlmckahaniiaaW.PrintLast
mutual
def zq1i.j0 : Nat → Bool → ByteArray → ByteArray → ByteArray → Int → List (S62) → List (S43) → Option (Int)
  | 0, _, _, _, _, _, _, _ => none
  | k + 1, x13, x123000, x123001, x123002, x123003, x123004, x123005 => if x13 = true then (some 7) else (if ((x123001.size : Int) % 2) = 0 then (if x123003 < 0 then (some 1) else ((zqo.f k x123004).bind fun t124 => (if t124 = 0 then (zq1i.l0 k x123005 (x123005.length : Int) 0 x123000 x123001 x123002 x123003 x123004 x123005 (-1) 0 0 (⟨#[]⟩ : ByteArray) false) else (some t124)))) else (some 1))
def zq1i.l0 : Nat → List (S43) → Int → Int → ByteArray → ByteArray → ByteArray → Int → List (S62) → List (S43) → Int → Int → Int → ByteArray → Bool → Option (Int)
  | 0, _, _, _, _, _, _, _, _, _, _, _, _, _, _ => none
  | k + 1, x60, x61, x62, x123000, x123001, x123002, x123003, x123004, x123005, x126000, x126001, x126002, x126003, x126004 => if x62 < x61 then (if 0 ≤ x62 then (if x62 < (x60.length : Int) then ((zq10.f k x123000 x123001 x123002 x123003 x123004 x123005 ((y0r x60 x62).f0) ((y0r x60 x62).f1) ((y0r x60 x62).f2) ((y0r x60 x62).f3) ((y0r x60 x62).f4) x126000 x126001 x126002 x126003 x126004).bind fun t128 => (if t128 = 0 then (zq1i.l0 k x60 x61 (wrap64 (x62 + 1)) x123000 x123001 x123002 x123003 x123004 x123005 ((y0r x60 x62).f0) ((y0r x60 x62).f1) ((y0r x60 x62).f2) ((y0r x60 x62).f3) ((y0r x60 x62).f4)) else (some t128))) else (none)) else (none)) else (some 0)
end
def zq1i.f (k : Nat) (a0_0 : ByteArray) (a0_1 : ByteArray) (a0_2 : ByteArray) (a0_3 : Int) (l0_4 : List (S62)) (l0_5 : List (S43)) : Option (Int) := (zq1d.f k a0_0).bind fun t123 => (if t123 = true then (if (a0_1.size : Int) > 16384 then (zq1i.j0 k true a0_0 a0_1 a0_2 a0_3 l0_4 l0_5) else (if (a0_2.size : Int) > 16384 then (zq1i.j0 k true a0_0 a0_1 a0_2 a0_3 l0_4 l0_5) else (if a0_3 > 16384 then (zq1i.j0 k true a0_0 a0_1 a0_2 a0_3 l0_4 l0_5) else (if (l0_4.length : Int) > 256 then (zq1i.j0 k true a0_0 a0_1 a0_2 a0_3 l0_4 l0_5) else (zq1i.j0 k (decide ((l0_5.length : Int) > 2048)) a0_0 a0_1 a0_2 a0_3 l0_4 l0_5))))) else (some 4))
theorem zq1i.calls (k : Nat) (a0_0 : ByteArray) (a0_1 : ByteArray) (a0_2 : ByteArray) (a0_3 : Int) (A0_4 : Option Addr) (c0_4 : Nat) (l0_4 : List (S62)) (A0_5 : Option Addr) (c0_5 : Nat) (l0_5 : List (S43)) (r : Int) (w : World) (hr0_4 : Kd.C k62 w A0_4 l0_4.length l0_4) (hc0_4 : l0_4.length ≤ c0_4) (hr0_5 : Kd.C k43 w A0_5 l0_5.length l0_5) (hc0_5 : l0_5.length ≤ c0_5) (h : zq1i.f k a0_0 a0_1 a0_2 a0_3 l0_4 l0_5 = some r) :
  Calls Try.prog 18 #[.agg #[.string a0_0, .string a0_1, .string a0_2, .int .i64 a0_3, .slice A0_4 l0_4.length c0_4, .slice A0_5 l0_5.length c0_5]] w fun e w' => e = .returned (.int .i64 r) ∧ Below w.heap.size w w' := by
 have hu25 := Try.underlying25
 have hu43 := Try.underlying43
 have HR0_4 := q_ hr0_4
 have HC0_4 := q_ hc0_4
 clear hr0_4 hc0_4
 have HR0_5 := q_ hr0_5
 have HC0_5 := q_ hc0_5
 clear hr0_5 hc0_5
 have HB := q_ (Below.refl w.heap.size w)
 have H : ((zq1d.f k a0_0).bind fun t123 => (if t123 = true then (if (a0_1.size : Int) > 16384 then (zq1i.j0 k true a0_0 a0_1 a0_2 a0_3 l0_4 l0_5) else (if (a0_2.size : Int) > 16384 then (zq1i.j0 k true a0_0 a0_1 a0_2 a0_3 l0_4 l0_5) else (if a0_3 > 16384 then (zq1i.j0 k true a0_0 a0_1 a0_2 a0_3 l0_4 l0_5) else (if (l0_4.length : Int) > 256 then (zq1i.j0 k true a0_0 a0_1 a0_2 a0_3 l0_4 l0_5) else (zq1i.j0 k (decide ((l0_5.length : Int) > 2048)) a0_0 a0_1 a0_2 a0_3 l0_4 l0_5))))) else (some 4))) = some r := h
 clear h
 replace H := Option.bind_eq_some_iff.mp H
 obtain ⟨t123, A20, H⟩ := H
 (try dsimp only at H)
 have A2 := q_ A20
 clear A20
 by_cases c3 : t123 = true
 rotate_left
 ·replace c3 := Bool.eq_false_iff.mpr c3
  subst c3
  rw [if_neg (show ¬ (false = true) by decide)] at H
  obtain rfl := Option.some.inj H
  go_enter Try.func18, Try.ntmps18
  go_wp2_with (first | ((with_reducible refine y0k (N := 1) rfl ?_); (try (refine y0l (by rfl) ?_; dsimp only)); refine y0g ?hg (N := 1) ?hd (cs := #[.string a0_0, .string a0_1, .string a0_2, .int .i64 a0_3, .slice A0_4 l0_4.length c0_4, .slice A0_5 l0_5.length c0_5]) (t := 25) ?hr ?_; (case hd => rfl); (case hg => rfl); (case hr => first | (go_simp; done) | (go_simp; rfl)); intro gb122 hg w55 hbox hb; have n0_ := q_ (y05 hb_ hb); have n1_ := q_ (hbox); have n2_ := q_ ((by rw [hg]; exact (y04 hb_) : w.heap.size ≤ gb122)); have n3_ := q_ ((by rw [hg]; exact (y04 hb_) : w.heap.size ≤ gb122)); clear HB; have HB := n0_; have BK122 := n1_; have GW122 := n2_; have GE122 := n3_; clear n0_ n1_ n2_ n3_; clear hb hbox hg; obtain ⟨hcz56_0, hfz56_0, hcz56_1, hfz56_1, hcz56_2, hfz56_2, hcz56_3, hfz56_3, hcz56_4, hfz56_4, hcz56_5, hfz56_5⟩ := b6_ BK122.out) | ((with_reducible refine y0j (f := 48) rfl ?_); refine goesL_ (some 11) rfl rfl Try.func48 (by kernel_rfl) rfl #[.string a0_0] rfl ar_ ?_; (with_reducible refine (zq1d.calls k a0_0 false _ A2.out).mono ?_); rintro e w57 ⟨rfl, hb⟩; refine ⟨_, rfl, ?_⟩; have n0_ := q_ (y07 (bk_ BK122.out) hb); have n1_ := q_ (y05 hb_ hb); clear BK122 HB; have BK122 := n0_; have HB := n1_; clear n0_ n1_; clear hb))
  go_ret
  exact ⟨ew_, hb_⟩
 subst c3
 rw [if_pos rfl] at H
 have HC4 := q_ H
 clear H
 go_enter Try.func18, Try.ntmps18
 go_upto_region 3 with (first | ((with_reducible refine y0k (N := 1) rfl ?_); (try (refine y0l (by rfl) ?_; dsimp only)); refine y0g ?hg (N := 1) ?hd (cs := #[.string a0_0, .string a0_1, .string a0_2, .int .i64 a0_3, .slice A0_4 l0_4.length c0_4, .slice A0_5 l0_5.length c0_5]) (t := 25) ?hr ?_; (case hd => rfl); (case hg => rfl); (case hr => first | (go_simp; done) | (go_simp; rfl)); intro gb122 hg w5 hbox hb; have n0_ := q_ (y05 hb_ hb); have n1_ := q_ (hbox); have n2_ := q_ ((by rw [hg]; exact (y04 hb_) : w.heap.size ≤ gb122)); have n3_ := q_ ((by rw [hg]; exact (y04 hb_) : w.heap.size ≤ gb122)); clear HB; have HB := n0_; have BK122 := n1_; have GW122 := n2_; have GE122 := n3_; clear n0_ n1_ n2_ n3_; clear hb hbox hg; obtain ⟨hcz6_0, hfz6_0, hcz6_1, hfz6_1, hcz6_2, hfz6_2, hcz6_3, hfz6_3, hcz6_4, hfz6_4, hcz6_5, hfz6_5⟩ := b6_ BK122.out) | ((with_reducible refine y0j (f := 48) rfl ?_); refine goesL_ (some 11) rfl rfl Try.func48 (by kernel_rfl) rfl #[.string a0_0] rfl ar_ ?_; (with_reducible refine (zq1d.calls k a0_0 true _ A2.out).mono ?_); rintro e w7 ⟨rfl, hb⟩; refine ⟨_, rfl, ?_⟩; have n0_ := q_ (y07 (bk_ BK122.out) hb); have n1_ := q_ (y05 hb_ hb); clear BK122 HB; have BK122 := n0_; have HB := n1_; clear n0_ n1_; clear hb))
 (try simp only [Act.put, List.setIfInBounds_toArray, List.set_cons_zero, List.set_cons_succ])
 go_cut [13] (fun v13 wc => ∃ (kq : Nat) (x13_3 : Bool), v13 = .bool x13_3 ∧ Aside0 (zq1i.j0 kq x13_3 a0_0 a0_1 a0_2 a0_3 l0_4 l0_5 = some r) ∧ Aside0 (kq ≤ k) ∧ Aside0 (wc.heap[gb122]? = some (.cells #[.string a0_0, .string a0_1, .string a0_2, .int .i64 a0_3, (.slice A0_4 l0_4.length c0_4), (.slice A0_5 l0_5.length c0_5)] 25 (0, 0))) ∧ Aside0 (Below w.heap.size w wc))
 case first =>
  have H := HC4.out
  clear HC4
  by_cases c8 : (a0_1.size : Int) > 16384
  ·rw [if_pos c8] at H
   have c8b0 : decide (16384 < (a0_1.size : Int)) = true := decide_eq_true c8
   have c8b1 : decide (16384 < a0_1.size) = true := decide_eq_true (by omega)
   clear c8
   (first | rw [c8b0] | (simp only [i64_w, i32_w]; rw [c8b0]) | skip)
   have H' := q_ H
   clear H
   obtain ⟨hcz9_0, hfz9_0, hcz9_1, hfz9_1, hcz9_2, hfz9_2, hcz9_3, hfz9_3, hcz9_4, hfz9_4, hcz9_5, hfz9_5⟩ := b6_ BK122.out
   go_wp2
   go_meet
   case rel => exact ⟨_, (true), cl_, H', ⟨by first | omega | exact Nat.le_refl _⟩, ⟨bk_ BK122.out⟩, ⟨hb_⟩⟩
  rw [if_neg c8] at H
  have c8b0 : decide (16384 < (a0_1.size : Int)) = false := decide_eq_false c8
  have c8b1 : decide (16384 < a0_1.size) = false := decide_eq_false (by omega)
  clear c8
  (first | rw [c8b0] | (simp only [i64_w, i32_w]; rw [c8b0]) | skip)
  by_cases c10 : (a0_2.size : Int) > 16384
  ·rw [if_pos c10] at H
   have c10b0 : decide (16384 < (a0_2.size : Int)) = true := decide_eq_true c10
   have c10b1 : decide (16384 < a0_2.size) = true := decide_eq_true (by omega)
   clear c10
   have H' := q_ H
   clear H
   obtain ⟨hcz11_0, hfz11_0, hcz11_1, hfz11_1, hcz11_2, hfz11_2, hcz11_3, hfz11_3, hcz11_4, hfz11_4, hcz11_5, hfz11_5⟩ := b6_ BK122.out
   go_wp2
   go_meet
   case rel => exact ⟨_, (true), cl_, H', ⟨by first | omega | exact Nat.le_refl _⟩, ⟨bk_ BK122.out⟩, ⟨hb_⟩⟩
  rw [if_neg c10] at H
  have c10b0 : decide (16384 < (a0_2.size : Int)) = false := decide_eq_false c10
  have c10b1 : decide (16384 < a0_2.size) = false := decide_eq_false (by omega)
  clear c10
  by_cases c12 : a0_3 > 16384
  ·rw [if_pos c12] at H
   have c12b0 : decide (16384 < a0_3) = true := decide_eq_true c12
   clear c12
   have H' := q_ H
   clear H
   obtain ⟨hcz13_0, hfz13_0, hcz13_1, hfz13_1, hcz13_2, hfz13_2, hcz13_3, hfz13_3, hcz13_4, hfz13_4, hcz13_5, hfz13_5⟩ := b6_ BK122.out
   go_wp2
   go_meet
   case rel => exact ⟨_, (true), cl_, H', ⟨by first | omega | exact Nat.le_refl _⟩, ⟨bk_ BK122.out⟩, ⟨hb_⟩⟩
  rw [if_neg c12] at H
  have c12b0 : decide (16384 < a0_3) = false := decide_eq_false c12
  clear c12
  by_cases c14 : (l0_4.length : Int) > 256
  ·rw [if_pos c14] at H
   have c14b0 : decide (256 < (l0_4.length : Int)) = true := decide_eq_true c14
   have c14b1 : decide (256 < l0_4.length) = true := decide_eq_true (by omega)
   clear c14
   have H' := q_ H
   clear H
   obtain ⟨hcz15_0, hfz15_0, hcz15_1, hfz15_1, hcz15_2, hfz15_2, hcz15_3, hfz15_3, hcz15_4, hfz15_4, hcz15_5, hfz15_5⟩ := b6_ BK122.out
   go_wp2
   go_meet
   case rel => exact ⟨_, (true), cl_, H', ⟨by first | omega | exact Nat.le_refl _⟩, ⟨bk_ BK122.out⟩, ⟨hb_⟩⟩
  rw [if_neg c14] at H
  have c14b0 : decide (256 < (l0_4.length : Int)) = false := decide_eq_false c14
  have c14b1 : decide (256 < l0_4.length) = false := decide_eq_false (by omega)
  clear c14
  have H' := q_ H
  clear H
  obtain ⟨hcz16_0, hfz16_0, hcz16_1, hfz16_1, hcz16_2, hfz16_2, hcz16_3, hfz16_3, hcz16_4, hfz16_4, hcz16_5, hfz16_5⟩ := b6_ BK122.out
  go_wp2
  go_meet
  case rel => exact ⟨_, (decide ((l0_5.length : Int) > 2048)), cl_, H', ⟨by first | omega | exact Nat.le_refl _⟩, ⟨bk_ BK122.out⟩, ⟨hb_⟩⟩
 case rest =>
  clear HC4
  clear hcz6_0; clear hcz6_1; clear hcz6_2; clear hcz6_3; clear hcz6_4; clear hcz6_5; clear hfz6_0; clear hfz6_1; clear hfz6_2; clear hfz6_3; clear hfz6_4; clear hfz6_5
  obtain ⟨kq, x13_3, rfl, HA, HJ3, BK122, HB⟩ := hcut
  cases kq with
  | zero => exact absurd HA.out (by simp [zq1i.j0])
  | succ kj3 =>
   have H := HA.out
   clear HA
   simp only [zq1i.j0] at H
   by_cases c17 : x13_3 = true
   ·subst c17
    rw [if_pos rfl] at H
    obtain rfl := Option.some.inj H
    go_wp2
    go_ret
    exact ⟨ew_, hb_⟩
   replace c17 := Bool.eq_false_iff.mpr c17
   subst c17
   rw [if_neg (show ¬ (false = true) by decide)] at H
   by_cases c18 : ((a0_1.size : Int) % 2) = 0
   rotate_left
   ·rw [if_neg c18] at H
    have c18b0 : (((a0_1.size : Int) % 2) == 0) = false := beq_eq_false_iff_ne.mpr c18
    have c18b1 : (((a0_1.size : Int) % 2) != 0) = true := bne_iff_ne.mpr c18
    obtain rfl := Option.some.inj H
    obtain ⟨hcz54_0, hfz54_0, hcz54_1, hfz54_1, hcz54_2, hfz54_2, hcz54_3, hfz54_3, hcz54_4, hfz54_4, hcz54_5, hfz54_5⟩ := b6_ BK122.out
    go_wp2
    go_ret
    exact ⟨ew_, hb_⟩
   rw [if_pos c18] at H
   have c18b0 : (((a0_1.size : Int) % 2) == 0) = true := beq_iff_eq.mpr c18
   have c18b1 : (((a0_1.size : Int) % 2) != 0) = false := bne_eq_false_iff_eq.mpr c18
   clear c18
   by_cases c19 : a0_3 < 0
   ·rw [if_pos c19] at H
    have c19b0 : decide (a0_3 < 0) = true := decide_eq_true c19
    clear c19
    obtain rfl := Option.some.inj H
    obtain ⟨hcz20_0, hfz20_0, hcz20_1, hfz20_1, hcz20_2, hfz20_2, hcz20_3, hfz20_3, hcz20_4, hfz20_4, hcz20_5, hfz20_5⟩ := b6_ BK122.out
    go_wp2
    go_ret
    exact ⟨ew_, hb_⟩
   rw [if_neg c19] at H
   have c19b0 : decide (a0_3 < 0) = false := decide_eq_false c19
   clear c19
   replace H := Option.bind_eq_some_iff.mp H
   obtain ⟨t124, A210, H⟩ := H
   (try dsimp only at H)
   have A21 := q_ A210
   clear A210
   by_cases c22 : t124 = 0
   rotate_left
   ·rw [if_neg c22] at H
    have c22b0 : (t124 == 0) = false := beq_eq_false_iff_ne.mpr c22
    have c22b1 : (t124 != 0) = true := bne_iff_ne.mpr c22
    obtain rfl := Option.some.inj H
    obtain ⟨hcz52_0, hfz52_0, hcz52_1, hfz52_1, hcz52_2, hfz52_2, hcz52_3, hfz52_3, hcz52_4, hfz52_4, hcz52_5, hfz52_5⟩ := b6_ BK122.out
    go_wp2_with (first | ((with_reducible refine y0j (f := 49) rfl ?_); refine goesL_ (some 54) rfl rfl Try.func49 (by kernel_rfl) rfl #[.slice A0_4 l0_4.length c0_4] rfl ar_ ?_; (with_reducible refine (zqo.calls kj3 _ _ l0_4 t124 _ ?side1 ?side2 A21.out).mono ?_); (case side1 => exact ck_ (Kd.C_below HR0_4.out HB.out)); (case side2 => exact HC0_4.out); rintro e w53 ⟨rfl, hb⟩; refine ⟨_, rfl, ?_⟩; have n0_ := q_ (y07 (bk_ BK122.out) hb); have n1_ := q_ (y05 hb_ hb); clear BK122 HB; have BK122 := n0_; have HB := n1_; clear n0_ n1_; clear hb))
    go_ret
    exact ⟨ew_, hb_⟩
   rw [if_pos c22] at H
   have c22b0 : (t124 == 0) = true := beq_iff_eq.mpr c22
   have c22b1 : (t124 != 0) = false := bne_eq_false_iff_eq.mpr c22
   clear c22
   have H' := q_ H
   clear H
   obtain ⟨hcz23_0, hfz23_0, hcz23_1, hfz23_1, hcz23_2, hfz23_2, hcz23_3, hfz23_3, hcz23_4, hfz23_4, hcz23_5, hfz23_5⟩ := b6_ BK122.out
   go_wp2_with (first | ((with_reducible refine y0j (f := 49) rfl ?_); refine goesL_ (some 54) rfl rfl Try.func49 (by kernel_rfl) rfl #[.slice A0_4 l0_4.length c0_4] rfl ar_ ?_; (with_reducible refine (zqo.calls kj3 _ _ l0_4 t124 _ ?side1 ?side2 A21.out).mono ?_); (case side1 => exact ck_ (Kd.C_below HR0_4.out HB.out)); (case side2 => exact HC0_4.out); rintro e w24 ⟨rfl, hb⟩; refine ⟨_, rfl, ?_⟩; have n0_ := q_ (y07 (bk_ BK122.out) hb); have n1_ := q_ (y05 hb_ hb); clear BK122 HB; have BK122 := n0_; have HB := n1_; clear n0_ n1_; clear hb) | ((with_reducible refine y0k (N := 4) rfl ?_); (try (refine y0l (by rfl) ?_; dsimp only)); refine y0g ?hg (N := 4) ?hd (cs := #[.int .i64 0, .int .i64 0, .int .i64 0, .string (⟨#[]⟩ : ByteArray), .bool false]) (t := 43) ?hr ?_; (case hd => rfl); (case hg => rfl); (case hr => first | (go_simp; done) | (go_simp; rfl)); intro gb125 hg w25 hbox hb; have n0_ := q_ (y07 (bk_ BK122.out) hb); have n1_ := q_ (y05 hb_ hb); have n2_ := q_ (hbox); have n3_ := q_ ((by rw [hg]; exact (y04 hb_) : w.heap.size ≤ gb125)); have n4_ := q_ ((by rw [hg]; exact (y04 hb_) : w.heap.size ≤ gb125)); have n5_ := q_ ((by rw [hg]; exact Nat.ne_of_lt (y0e (bk_ BK122.out)) : gb122 ≠ gb125)); have n6_ := q_ ((by rw [hg]; exact Nat.ne_of_gt (y0e (bk_ BK122.out)) : gb125 ≠ gb122)); clear BK122 HB; have BK122 := n0_; have HB := n1_; have BK125 := n2_; have GW125 := n3_; have GE125 := n4_; have NB122_125 := n5_; have NB125_122 := n6_; clear n0_ n1_ n2_ n3_ n4_ n5_ n6_; clear hb hbox hg; have hnb26 := NB125_122.out; have hnc26 := NB122_125.out; obtain ⟨hcz27_0, hfz27_0, hcz27_1, hfz27_1, hcz27_2, hfz27_2, hcz27_3, hfz27_3, hcz27_4, hfz27_4⟩ := b5_ BK125.out; obtain ⟨hcz28_0, hfz28_0, hcz28_1, hfz28_1, hcz28_2, hfz28_2, hcz28_3, hfz28_3, hcz28_4, hfz28_4, hcz28_5, hfz28_5⟩ := b6_ BK122.out))
   go_loopg [62] kj3 (fun kq v62 w' => ∃ (x62_2 : Int) (x126000_2 : Int) (x126001_2 : Int) (x126002_2 : Int) (x126003_2 : ByteArray) (x126004_2 : Bool), v62 = .int .i64 x62_2 ∧ Aside0 (zq1i.l0 kq l0_5 (l0_5.length : Int) x62_2 a0_0 a0_1 a0_2 a0_3 l0_4 l0_5 x126000_2 x126001_2 x126002_2 x126003_2 x126004_2 = some r) ∧ Aside0 (kq ≤ kj3) ∧ Aside0 (w'.heap[gb122]? = some (.cells #[.string a0_0, .string a0_1, .string a0_2, .int .i64 a0_3, (.slice A0_4 l0_4.length c0_4), (.slice A0_5 l0_5.length c0_5)] 25 (0, 0))) ∧ Aside0 (w'.heap[gb125]? = some (.cells #[.int .i64 x126000_2, .int .i64 x126001_2, .int .i64 x126002_2, .string x126003_2, .bool x126004_2] 43 (0, 0))) ∧ Aside0 (Below w.heap.size w w'))
   case atStart => exact ⟨(0), ((-1)), (0), (0), ((⟨#[]⟩ : ByteArray)), (false), cl_, H', ⟨Nat.le_refl _⟩, ⟨by (with_reducible repeat (first | refine y0a ?_ _ | refine y09 ?_ | refine y06 ?_ _)); refine y0b ?_ NB122_125.out _; (with_reducible repeat (first | refine y0a ?_ _ | refine y09 ?_ | refine y06 ?_ _)); refine y0b ?_ NB122_125.out _; (with_reducible repeat (first | refine y0a ?_ _ | refine y09 ?_ | refine y06 ?_ _)); refine y0b ?_ NB122_125.out _; (with_reducible repeat (first | refine y0a ?_ _ | refine y09 ?_ | refine y06 ?_ _)); refine y0b ?_ NB122_125.out _; (with_reducible repeat (first | refine y0a ?_ _ | refine y09 ?_ | refine y06 ?_ _)); refine y0b ?_ NB122_125.out _; exact bk_ BK122.out⟩, ⟨by (with_reducible repeat (first | refine y0a ?_ _ | refine y09 ?_ | refine y06 ?_ _)); refine y0f (cs := #[.int .i64 (-1), .int .i64 0, .int .i64 0, .string (⟨#[]⟩ : ByteArray), .bool false]) ?_ 4 _ rfl; (with_reducible repeat (first | refine y0a ?_ _ | refine y09 ?_ | refine y06 ?_ _)); refine y0f (cs := #[.int .i64 (-1), .int .i64 0, .int .i64 0, .string (⟨#[]⟩ : ByteArray), .bool false]) ?_ 3 _ rfl; (with_reducible repeat (first | refine y0a ?_ _ | refine y09 ?_ | refine y06 ?_ _)); refine y0f (cs := #[.int .i64 (-1), .int .i64 0, .int .i64 0, .string (⟨#[]⟩ : ByteArray), .bool false]) ?_ 2 _ rfl; (with_reducible repeat (first | refine y0a ?_ _ | refine y09 ?_ | refine y06 ?_ _)); refine y0f (cs := #[.int .i64 (-1), .int .i64 0, .int .i64 0, .string (⟨#[]⟩ : ByteArray), .bool false]) ?_ 1 _ rfl; (with_reducible repeat (first | refine y0a ?_ _ | refine y09 ?_ | refine y06 ?_ _)); refine y0f (cs := #[.int .i64 0, .int .i64 0, .int .i64 0, .string (⟨#[]⟩ : ByteArray), .bool false]) ?_ 0 _ rfl; exact bk_ BK125.out⟩, ⟨hb_⟩⟩
   case round =>
    clear H'
    clear c18b0; clear c18b1; clear c19b0; clear c22b0; clear c22b1; clear hcz23_0; clear hcz23_1; clear hcz23_2; clear hcz23_3; clear hcz23_4; clear hcz23_5; clear hcz27_0; clear hcz27_1; clear hcz27_2; clear hcz27_3; clear hcz27_4; clear hcz28_0; clear hcz28_1; clear hcz28_2; clear hcz28_3; clear hcz28_4; clear hcz28_5; clear hfz23_0; clear hfz23_1; clear hfz23_2; clear hfz23_3; clear hfz23_4; clear hfz23_5; clear hfz27_0; clear hfz27_1; clear hfz27_2; clear hfz27_3; clear hfz27_4; clear hfz28_0; clear hfz28_1; clear hfz28_2; clear hfz28_3; clear hfz28_4; clear hfz28_5
    obtain ⟨x62_2, x126000_2, x126001_2, x126002_2, x126003_2, x126004_2, rfl, HA, HK2, BK122, BK125, HB⟩ := hrel
    cases gk with
    | zero => exact absurd HA.out (by simp [zq1i.l0])
    | succ k2 =>
     have H := HA.out
     clear HA
     simp only [zq1i.l0] at H
     by_cases c29 : x62_2 < (l0_5.length : Int)
     rotate_left
     ·rw [if_neg c29] at H
      have c29b0 : decide (x62_2 < (l0_5.length : Int)) = false := decide_eq_false c29
      clear c29
      obtain rfl := Option.some.inj H
      go_wp2
      go_ret
      exact ⟨ew_, hb_⟩
     rw [if_pos c29] at H
     have c29b0 : decide (x62_2 < (l0_5.length : Int)) = true := decide_eq_true c29
     clear c29
     by_cases c30 : 0 ≤ x62_2
     rotate_left
     ·rw [if_neg c30] at H
      exact absurd H (by simp)
     rw [if_pos c30] at H
     have c30b0 : decide (0 ≤ x62_2) = true := decide_eq_true c30
     clear c30
     by_cases c31 : x62_2 < (l0_5.length : Int)
     rotate_left
     ·rw [if_neg c31] at H
      exact absurd H (by simp)
     rw [if_pos c31] at H
     have c31b0 : decide (x62_2 < (l0_5.length : Int)) = true := decide_eq_true c31
     clear c31
     replace H := Option.bind_eq_some_iff.mp H
     obtain ⟨t128, A320, H⟩ := H
     (try dsimp only at H)
     have A32 := q_ A320
     clear A320
     by_cases c33 : t128 = 0
     rotate_left
     ·rw [if_neg c33] at H
      have c33b0 : (t128 == 0) = false := beq_eq_false_iff_ne.mpr c33
      have c33b1 : (t128 != 0) = true := bne_iff_ne.mpr c33
      obtain rfl := Option.some.inj H
      have p126 : 0 ≤ (x62_2 : Int) := oa_
      have q126 : x62_2 < (l0_5.length : Int) := oa_
      obtain ⟨ad126, e126, hx126_0, hx126_1, hx126_2, hx126_3, hx126_4⟩ := at_T43 HR0_5.out x62_2 p126 q126
      cases e126
      replace hx126_0 := cb_ HB.out hx126_0
      replace hx126_1 := cb_ HB.out hx126_1
      replace hx126_2 := cb_ HB.out hx126_2
      replace hx126_3 := cb_ HB.out hx126_3
      replace hx126_4 := cb_ HB.out hx126_4
      replace p126 := eq_true p126
      replace q126 := eq_true q126
      go_wp2_with (first | ((with_reducible refine y0k (N := 6) rfl ?_); (try (refine y0l (by rfl) ?_; dsimp only)); refine y0g ?hg (N := 6) ?hd (cs := #[.int .i64 0, .int .i64 0, .int .i64 0, .string (⟨#[]⟩ : ByteArray), .bool false]) (t := 43) ?hr ?_; (case hd => rfl); (case hg => rfl); (case hr => first | (go_simp; done) | (go_simp; rfl)); intro gb127 hg w44 hbox hb; have n0_ := q_ (y07 (bk_ BK122.out) hb); have n1_ := q_ (y07 (bk_ BK125.out) hb); have n2_ := q_ (y05 hb_ hb); have n3_ := q_ (hbox); have n4_ := q_ ((by rw [hg]; exact (y04 hb_) : w.heap.size ≤ gb127)); have n5_ := q_ ((by rw [hg]; exact (y04 hb_) : w.heap.size ≤ gb127)); have n6_ := q_ ((by rw [hg]; exact Nat.ne_of_lt (y0e (bk_ BK122.out)) : gb122 ≠ gb127)); have n7_ := q_ ((by rw [hg]; exact Nat.ne_of_gt (y0e (bk_ BK122.out)) : gb127 ≠ gb122)); have n8_ := q_ ((by rw [hg]; exact Nat.ne_of_lt (y0e (bk_ BK125.out)) : gb125 ≠ gb127)); have n9_ := q_ ((by rw [hg]; exact Nat.ne_of_gt (y0e (bk_ BK125.out)) : gb127 ≠ gb125)); clear BK122 BK125 HB; have BK122 := n0_; have BK125 := n1_; have HB := n2_; have BK127 := n3_; have GW127 := n4_; have GE127 := n5_; have NB122_127 := n6_; have NB127_122 := n7_; have NB125_127 := n8_; have NB127_125 := n9_; clear n0_ n1_ n2_ n3_ n4_ n5_ n6_ n7_ n8_ n9_; clear hb hbox hg; have hnb45 := NB127_122.out; have hnc45 := NB122_127.out; have hnb46 := NB127_125.out; have hnc46 := NB125_127.out; obtain ⟨hcz47_0, hfz47_0, hcz47_1, hfz47_1, hcz47_2, hfz47_2, hcz47_3, hfz47_3, hcz47_4, hfz47_4⟩ := b5_ BK127.out; have hnb48 := NB122_125.out; have hnc48 := NB125_122.out; obtain ⟨hcz49_0, hfz49_0, hcz49_1, hfz49_1, hcz49_2, hfz49_2, hcz49_3, hfz49_3, hcz49_4, hfz49_4, hcz49_5, hfz49_5⟩ := b6_ BK122.out; obtain ⟨hcz50_0, hfz50_0, hcz50_1, hfz50_1, hcz50_2, hfz50_2, hcz50_3, hfz50_3, hcz50_4, hfz50_4⟩ := b5_ BK125.out) | ((with_reducible refine y0j (f := 50) rfl ?_); refine goesL_ (some 69) rfl rfl Try.func50 (by kernel_rfl) rfl #[.agg #[.string a0_0, .string a0_1, .string a0_2, .int .i64 a0_3, .slice A0_4 l0_4.length c0_4, .slice (some ad126) l0_5.length c0_5], .agg #[.int .i64 ((y0r l0_5 x62_2).f0), .int .i64 ((y0r l0_5 x62_2).f1), .int .i64 ((y0r l0_5 x62_2).f2), .string ((y0r l0_5 x62_2).f3), .bool ((y0r l0_5 x62_2).f4)], .agg #[.int .i64 x126000_2, .int .i64 x126001_2, .int .i64 x126002_2, .string x126003_2, .bool x126004_2]] rfl ar_ ?_; (with_reducible refine (zq10.calls k2 a0_0 a0_1 a0_2 a0_3 _ _ l0_4 _ _ l0_5 ((y0r l0_5 x62_2).f0) ((y0r l0_5 x62_2).f1) ((y0r l0_5 x62_2).f2) ((y0r l0_5 x62_2).f3) ((y0r l0_5 x62_2).f4) x126000_2 x126001_2 x126002_2 x126003_2 x126004_2 t128 _ ?side1 ?side2 ?side3 ?side4 A32.out).mono ?_); (case side1 => exact Kd.C_below HR0_4.out hb_); (case side2 => exact HC0_4.out); (case side3 => exact Kd.C_below HR0_5.out hb_); (case side4 => exact HC0_5.out); rintro e w51 ⟨rfl, hb⟩; refine ⟨_, rfl, ?_⟩; have n0_ := q_ (y07 (g := gb122) (o := .cells #[.string a0_0, .string a0_1, .string a0_2, .int .i64 a0_3, .slice A0_4 l0_4.length c0_4, .slice (some ad126) l0_5.length c0_5] 25 (0, 0)) (by (with_reducible repeat (first | refine y0a ?_ _ | refine y09 ?_ | refine y06 ?_ _)); refine y0b ?_ NB122_127.out _; (with_reducible repeat (first | refine y0a ?_ _ | refine y09 ?_ | refine y06 ?_ _)); refine y0b ?_ NB122_127.out _; (with_reducible repeat (first | refine y0a ?_ _ | refine y09 ?_ | refine y06 ?_ _)); refine y0b ?_ NB122_127.out _; (with_reducible repeat (first | refine y0a ?_ _ | refine y09 ?_ | refine y06 ?_ _)); refine y0b ?_ NB122_127.out _; (with_reducible repeat (first | refine y0a ?_ _ | refine y09 ?_ | refine y06 ?_ _)); refine y0b ?_ NB122_127.out _; exact bk_ BK122.out) hb); have n1_ := q_ (y07 (g := gb125) (o := .cells #[.int .i64 x126000_2, .int .i64 x126001_2, .int .i64 x126002_2, .string x126003_2, .bool x126004_2] 43 (0, 0)) (by (with_reducible repeat (first | refine y0a ?_ _ | refine y09 ?_ | refine y06 ?_ _)); refine y0b ?_ NB125_127.out _; (with_reducible repeat (first | refine y0a ?_ _ | refine y09 ?_ | refine y06 ?_ _)); refine y0b ?_ NB125_127.out _; (with_reducible repeat (first | refine y0a ?_ _ | refine y09 ?_ | refine y06 ?_ _)); refine y0b ?_ NB125_127.out _; (with_reducible repeat (first | refine y0a ?_ _ | refine y09 ?_ | refine y06 ?_ _)); refine y0b ?_ NB125_127.out _; (with_reducible repeat (first | refine y0a ?_ _ | refine y09 ?_ | refine y06 ?_ _)); refine y0b ?_ NB125_127.out _; exact bk_ BK125.out) hb); have n2_ := q_ (y07 (g := gb127) (o := .cells #[.int .i64 ((y0r l0_5 x62_2).f0), .int .i64 ((y0r l0_5 x62_2).f1), .int .i64 ((y0r l0_5 x62_2).f2), .string ((y0r l0_5 x62_2).f3), .bool ((y0r l0_5 x62_2).f4)] 43 (0, 0)) (by (with_reducible repeat (first | refine y0a ?_ _ | refine y09 ?_ | refine y06 ?_ _)); refine y0f (cs := #[.int .i64 ((y0r l0_5 x62_2).f0), .int .i64 ((y0r l0_5 x62_2).f1), .int .i64 ((y0r l0_5 x62_2).f2), .string ((y0r l0_5 x62_2).f3), .bool false]) ?_ 4 _ rfl; (with_reducible repeat (first | refine y0a ?_ _ | refine y09 ?_ | refine y06 ?_ _)); refine y0f (cs := #[.int .i64 ((y0r l0_5 x62_2).f0), .int .i64 ((y0r l0_5 x62_2).f1), .int .i64 ((y0r l0_5 x62_2).f2), .string (⟨#[]⟩ : ByteArray), .bool false]) ?_ 3 _ rfl; (with_reducible repeat (first | refine y0a ?_ _ | refine y09 ?_ | refine y06 ?_ _)); refine y0f (cs := #[.int .i64 ((y0r l0_5 x62_2).f0), .int .i64 ((y0r l0_5 x62_2).f1), .int .i64 0, .string (⟨#[]⟩ : ByteArray), .bool false]) ?_ 2 _ rfl; (with_reducible repeat (first | refine y0a ?_ _ | refine y09 ?_ | refine y06 ?_ _)); refine y0f (cs := #[.int .i64 ((y0r l0_5 x62_2).f0), .int .i64 0, .int .i64 0, .string (⟨#[]⟩ : ByteArray), .bool false]) ?_ 1 _ rfl; (with_reducible repeat (first | refine y0a ?_ _ | refine y09 ?_ | refine y06 ?_ _)); refine y0f (cs := #[.int .i64 0, .int .i64 0, .int .i64 0, .string (⟨#[]⟩ : ByteArray), .bool false]) ?_ 0 _ rfl; exact bk_ BK127.out) hb); have n3_ := q_ (y05 hb_ hb); clear BK122 BK125 BK127 HB; have BK122 := n0_; have BK125 := n1_; have BK127 := n2_; have HB := n3_; clear n0_ n1_ n2_ n3_; clear hb))
      go_ret
      exact ⟨ew_, hb_⟩
     rw [if_pos c33] at H
     have c33b0 : (t128 == 0) = true := beq_iff_eq.mpr c33
     have c33b1 : (t128 != 0) = false := bne_eq_false_iff_eq.mpr c33
     clear c33
     have H' := q_ H
     clear H
     have p126 : 0 ≤ (x62_2 : Int) := oa_
     have q126 : x62_2 < (l0_5.length : Int) := oa_
     obtain ⟨ad126, e126, hx126_0, hx126_1, hx126_2, hx126_3, hx126_4⟩ := at_T43 HR0_5.out x62_2 p126 q126
     cases e126
     replace hx126_0 := cb_ HB.out hx126_0
     replace hx126_1 := cb_ HB.out hx126_1
     replace hx126_2 := cb_ HB.out hx126_2
     replace hx126_3 := cb_ HB.out hx126_3
     replace hx126_4 := cb_ HB.out hx126_4
     replace p126 := eq_true p126
     replace q126 := eq_true q126
     go_wp2_with (first | ((with_reducible refine y0k (N := 6) rfl ?_); (try (refine y0l (by rfl) ?_; dsimp only)); refine y0g ?hg (N := 6) ?hd (cs := #[.int .i64 0, .int .i64 0, .int .i64 0, .string (⟨#[]⟩ : ByteArray), .bool false]) (t := 43) ?hr ?_; (case hd => rfl); (case hg => rfl); (case hr => first | (go_simp; done) | (go_simp; rfl)); intro gb127 hg w34 hbox hb; have n0_ := q_ (y07 (bk_ BK122.out) hb); have n1_ := q_ (y07 (bk_ BK125.out) hb); have n2_ := q_ (y05 hb_ hb); have n3_ := q_ (hbox); have n4_ := q_ ((by rw [hg]; exact (y04 hb_) : w.heap.size ≤ gb127)); have n5_ := q_ ((by rw [hg]; exact (y04 hb_) : w.heap.size ≤ gb127)); have n6_ := q_ ((by rw [hg]; exact Nat.ne_of_lt (y0e (bk_ BK122.out)) : gb122 ≠ gb127)); have n7_ := q_ ((by rw [hg]; exact Nat.ne_of_gt (y0e (bk_ BK122.out)) : gb127 ≠ gb122)); have n8_ := q_ ((by rw [hg]; exact Nat.ne_of_lt (y0e (bk_ BK125.out)) : gb125 ≠ gb127)); have n9_ := q_ ((by rw [hg]; exact Nat.ne_of_gt (y0e (bk_ BK125.out)) : gb127 ≠ gb125)); clear BK122 BK125 HB; have BK122 := n0_; have BK125 := n1_; have HB := n2_; have BK127 := n3_; have GW127 := n4_; have GE127 := n5_; have NB122_127 := n6_; have NB127_122 := n7_; have NB125_127 := n8_; have NB127_125 := n9_; clear n0_ n1_ n2_ n3_ n4_ n5_ n6_ n7_ n8_ n9_; clear hb hbox hg; have hnb35 := NB127_122.out; have hnc35 := NB122_127.out; have hnb36 := NB127_125.out; have hnc36 := NB125_127.out; obtain ⟨hcz37_0, hfz37_0, hcz37_1, hfz37_1, hcz37_2, hfz37_2, hcz37_3, hfz37_3, hcz37_4, hfz37_4⟩ := b5_ BK127.out; have hnb38 := NB122_125.out; have hnc38 := NB125_122.out; obtain ⟨hcz39_0, hfz39_0, hcz39_1, hfz39_1, hcz39_2, hfz39_2, hcz39_3, hfz39_3, hcz39_4, hfz39_4, hcz39_5, hfz39_5⟩ := b6_ BK122.out; obtain ⟨hcz40_0, hfz40_0, hcz40_1, hfz40_1, hcz40_2, hfz40_2, hcz40_3, hfz40_3, hcz40_4, hfz40_4⟩ := b5_ BK125.out) | ((with_reducible refine y0j (f := 50) rfl ?_); refine goesL_ (some 69) rfl rfl Try.func50 (by kernel_rfl) rfl #[.agg #[.string a0_0, .string a0_1, .string a0_2, .int .i64 a0_3, .slice A0_4 l0_4.length c0_4, .slice (some ad126) l0_5.length c0_5], .agg #[.int .i64 ((y0r l0_5 x62_2).f0), .int .i64 ((y0r l0_5 x62_2).f1), .int .i64 ((y0r l0_5 x62_2).f2), .string ((y0r l0_5 x62_2).f3), .bool ((y0r l0_5 x62_2).f4)], .agg #[.int .i64 x126000_2, .int .i64 x126001_2, .int .i64 x126002_2, .string x126003_2, .bool x126004_2]] rfl ar_ ?_; (with_reducible refine (zq10.calls k2 a0_0 a0_1 a0_2 a0_3 _ _ l0_4 _ _ l0_5 ((y0r l0_5 x62_2).f0) ((y0r l0_5 x62_2).f1) ((y0r l0_5 x62_2).f2) ((y0r l0_5 x62_2).f3) ((y0r l0_5 x62_2).f4) x126000_2 x126001_2 x126002_2 x126003_2 x126004_2 t128 _ ?side1 ?side2 ?side3 ?side4 A32.out).mono ?_); (case side1 => exact Kd.C_below HR0_4.out hb_); (case side2 => exact HC0_4.out); (case side3 => exact Kd.C_below HR0_5.out hb_); (case side4 => exact HC0_5.out); rintro e w41 ⟨rfl, hb⟩; refine ⟨_, rfl, ?_⟩; have n0_ := q_ (y07 (g := gb122) (o := .cells #[.string a0_0, .string a0_1, .string a0_2, .int .i64 a0_3, .slice A0_4 l0_4.length c0_4, .slice (some ad126) l0_5.length c0_5] 25 (0, 0)) (by (with_reducible repeat (first | refine y0a ?_ _ | refine y09 ?_ | refine y06 ?_ _)); refine y0b ?_ NB122_127.out _; (with_reducible repeat (first | refine y0a ?_ _ | refine y09 ?_ | refine y06 ?_ _)); refine y0b ?_ NB122_127.out _; (with_reducible repeat (first | refine y0a ?_ _ | refine y09 ?_ | refine y06 ?_ _)); refine y0b ?_ NB122_127.out _; (with_reducible repeat (first | refine y0a ?_ _ | refine y09 ?_ | refine y06 ?_ _)); refine y0b ?_ NB122_127.out _; (with_reducible repeat (first | refine y0a ?_ _ | refine y09 ?_ | refine y06 ?_ _)); refine y0b ?_ NB122_127.out _; exact bk_ BK122.out) hb); have n1_ := q_ (y07 (g := gb125) (o := .cells #[.int .i64 x126000_2, .int .i64 x126001_2, .int .i64 x126002_2, .string x126003_2, .bool x126004_2] 43 (0, 0)) (by (with_reducible repeat (first | refine y0a ?_ _ | refine y09 ?_ | refine y06 ?_ _)); refine y0b ?_ NB125_127.out _; (with_reducible repeat (first | refine y0a ?_ _ | refine y09 ?_ | refine y06 ?_ _)); refine y0b ?_ NB125_127.out _; (with_reducible repeat (first | refine y0a ?_ _ | refine y09 ?_ | refine y06 ?_ _)); refine y0b ?_ NB125_127.out _; (with_reducible repeat (first | refine y0a ?_ _ | refine y09 ?_ | refine y06 ?_ _)); refine y0b ?_ NB125_127.out _; (with_reducible repeat (first | refine y0a ?_ _ | refine y09 ?_ | refine y06 ?_ _)); refine y0b ?_ NB125_127.out _; exact bk_ BK125.out) hb); have n2_ := q_ (y07 (g := gb127) (o := .cells #[.int .i64 ((y0r l0_5 x62_2).f0), .int .i64 ((y0r l0_5 x62_2).f1), .int .i64 ((y0r l0_5 x62_2).f2), .string ((y0r l0_5 x62_2).f3), .bool ((y0r l0_5 x62_2).f4)] 43 (0, 0)) (by (with_reducible repeat (first | refine y0a ?_ _ | refine y09 ?_ | refine y06 ?_ _)); refine y0f (cs := #[.int .i64 ((y0r l0_5 x62_2).f0), .int .i64 ((y0r l0_5 x62_2).f1), .int .i64 ((y0r l0_5 x62_2).f2), .string ((y0r l0_5 x62_2).f3), .bool false]) ?_ 4 _ rfl; (with_reducible repeat (first | refine y0a ?_ _ | refine y09 ?_ | refine y06 ?_ _)); refine y0f (cs := #[.int .i64 ((y0r l0_5 x62_2).f0), .int .i64 ((y0r l0_5 x62_2).f1), .int .i64 ((y0r l0_5 x62_2).f2), .string (⟨#[]⟩ : ByteArray), .bool false]) ?_ 3 _ rfl; (with_reducible repeat (first | refine y0a ?_ _ | refine y09 ?_ | refine y06 ?_ _)); refine y0f (cs := #[.int .i64 ((y0r l0_5 x62_2).f0), .int .i64 ((y0r l0_5 x62_2).f1), .int .i64 0, .string (⟨#[]⟩ : ByteArray), .bool false]) ?_ 2 _ rfl; (with_reducible repeat (first | refine y0a ?_ _ | refine y09 ?_ | refine y06 ?_ _)); refine y0f (cs := #[.int .i64 ((y0r l0_5 x62_2).f0), .int .i64 0, .int .i64 0, .string (⟨#[]⟩ : ByteArray), .bool false]) ?_ 1 _ rfl; (with_reducible repeat (first | refine y0a ?_ _ | refine y09 ?_ | refine y06 ?_ _)); refine y0f (cs := #[.int .i64 0, .int .i64 0, .int .i64 0, .string (⟨#[]⟩ : ByteArray), .bool false]) ?_ 0 _ rfl; exact bk_ BK127.out) hb); have n3_ := q_ (y05 hb_ hb); clear BK122 BK125 BK127 HB; have BK122 := n0_; have BK125 := n1_; have BK127 := n2_; have HB := n3_; clear n0_ n1_ n2_ n3_; clear hb; obtain ⟨hcz42_0, hfz42_0, hcz42_1, hfz42_1, hcz42_2, hfz42_2, hcz42_3, hfz42_3, hcz42_4, hfz42_4⟩ := b5_ BK127.out; obtain ⟨hcz43_0, hfz43_0, hcz43_1, hfz43_1, hcz43_2, hfz43_2, hcz43_3, hfz43_3, hcz43_4, hfz43_4⟩ := b5_ BK125.out))
     go_roundg k2
     case measure => have := HJ3.out; have := HK2.out; omega
     case rel => exact ⟨(wrap64 (x62_2 + 1)), ((y0r l0_5 x62_2).f0), ((y0r l0_5 x62_2).f1), ((y0r l0_5 x62_2).f2), ((y0r l0_5 x62_2).f3), ((y0r l0_5 x62_2).f4), cl_, H', ⟨by have := HJ3.out; have := HK2.out; omega⟩, ⟨by (with_reducible repeat (first | refine y0a ?_ _ | refine y09 ?_ | refine y06 ?_ _)); refine y0b ?_ NB122_125.out _; (with_reducible repeat (first | refine y0a ?_ _ | refine y09 ?_ | refine y06 ?_ _)); refine y0b ?_ NB122_125.out _; (with_reducible repeat (first | refine y0a ?_ _ | refine y09 ?_ | refine y06 ?_ _)); refine y0b ?_ NB122_125.out _; (with_reducible repeat (first | refine y0a ?_ _ | refine y09 ?_ | refine y06 ?_ _)); refine y0b ?_ NB122_125.out _; (with_reducible repeat (first | refine y0a ?_ _ | refine y09 ?_ | refine y06 ?_ _)); refine y0b ?_ NB122_125.out _; exact bk_ BK122.out⟩, ⟨by (with_reducible repeat (first | refine y0a ?_ _ | refine y09 ?_ | refine y06 ?_ _)); refine y0f (cs := #[.int .i64 ((y0r l0_5 x62_2).f0), .int .i64 ((y0r l0_5 x62_2).f1), .int .i64 ((y0r l0_5 x62_2).f2), .string ((y0r l0_5 x62_2).f3), .bool x126004_2]) ?_ 4 _ rfl; (with_reducible repeat (first | refine y0a ?_ _ | refine y09 ?_ | refine y06 ?_ _)); refine y0f (cs := #[.int .i64 ((y0r l0_5 x62_2).f0), .int .i64 ((y0r l0_5 x62_2).f1), .int .i64 ((y0r l0_5 x62_2).f2), .string x126003_2, .bool x126004_2]) ?_ 3 _ rfl; (with_reducible repeat (first | refine y0a ?_ _ | refine y09 ?_ | refine y06 ?_ _)); refine y0f (cs := #[.int .i64 ((y0r l0_5 x62_2).f0), .int .i64 ((y0r l0_5 x62_2).f1), .int .i64 x126002_2, .string x126003_2, .bool x126004_2]) ?_ 2 _ rfl; (with_reducible repeat (first | refine y0a ?_ _ | refine y09 ?_ | refine y06 ?_ _)); refine y0f (cs := #[.int .i64 ((y0r l0_5 x62_2).f0), .int .i64 x126001_2, .int .i64 x126002_2, .string x126003_2, .bool x126004_2]) ?_ 1 _ rfl; (with_reducible repeat (first | refine y0a ?_ _ | refine y09 ?_ | refine y06 ?_ _)); refine y0f (cs := #[.int .i64 x126000_2, .int .i64 x126001_2, .int .i64 x126002_2, .string x126003_2, .bool x126004_2]) ?_ 0 _ rfl; exact bk_ BK125.out⟩, ⟨hb_⟩⟩
end Go.Proofs.Ytenlmckahaniiaa.K
end
section
namespace Go.Proofs.Ytenlmckahaniiaa.K
open Go.RowKit Go.Proofs.YtenlmckahaniiaaW.PrintWords Go.Proofs.YtenlmckahaniiaaW.PrintLast
def zq1a.go (k : Nat) (l0 : List S25) : Nat → Nat → Option Int
  | 0, _ => some 0
  | n + 1, i => (zq1i.f k (y0q l0 i).f0 (y0q l0 i).f1 (y0q l0 i).f2 (y0q l0 i).f3 (y0q l0 i).f4 (y0q l0 i).f5).bind fun e => if e = 0 then (if 0 ≤ idxF (pNam (y0q l0 i).f0) (l0.take i) then some 6 else zq1a.go k l0 n (i + 1)) else some e
def zq1a.f (k : Nat) (l0 : List S25) : Option Int := if (l0.length : Int) > 32 then some 12 else zq1a.go k l0 l0.length 0
theorem zq1a.calls (k : Nat) (A0 : Option Addr) (c0 : Nat) (l0 : List S25) (r : Int) (w : World) (hr0 : Kd.C k25 w A0 l0.length l0) (hc0 : l0.length ≤ c0) (h : zq1a.f k l0 = some r) :
  Calls Try.prog 34 #[.slice A0 l0.length c0] w fun e w' => e = .returned (.int .i64 r) ∧ Below w.heap.size w w' := by
 have hu25 := Try.underlying25
 have HC := q_ hr0
 have HCC := q_ hc0
 have HL := q_ (show l0.length ≤ 9223372036854775807 from hr0.2.1)
 clear hr0 hc0
 unfold zq1a.f at h
 by_cases h32 : (l0.length : Int) > 32
 ·rw [if_pos h32] at h
  obtain rfl := Option.some.inj h
  clear h
  have c1 : decide ((32 : Int) < (l0.length : Int)) = true := decide_eq_true h32
  go_enter Try.func34, Try.ntmps34
  go_wp2
  go_ret
  exact ⟨rfl, Below.refl _ _⟩
 rw [if_neg h32] at h
 have c1 : decide ((32 : Int) < (l0.length : Int)) = false := decide_eq_false h32
 have HG0 := q_ h
 clear h h32
 go_enter Try.func34, Try.ntmps34
 go_wp2
 clear c1
 go_loopg [11] l0.length (fun gk v11 w' => ∃ i : Nat, v11 = .int .i64 i ∧ i ≤ l0.length ∧ l0.length - i ≤ gk ∧ Aside0 (zq1a.go k l0 (l0.length - i) i = some r) ∧ Aside0 (Below w.heap.size w w'))
 case atStart => exact ⟨0, rfl, by omega, by omega, ⟨HG0.out⟩, ⟨Below.refl _ _⟩⟩
 case round =>
  clear HG0
  obtain ⟨i, rfl, hi, hk, HG, HB⟩ := hrel
  by_cases h2 : i < l0.length
  rotate_left
  ·have c2 : decide ((i : Int) < (l0.length : Int)) = false := by simpa using h2
   have hG := HG.out
   clear HG
   rw [show l0.length - i = 0 by omega] at hG
   obtain rfl := Option.some.inj (show some (0 : Int) = some r from hG)
   clear hG
   go_wp2
   go_ret
   exact ⟨rfl, HB.out⟩
  have c2 : decide ((i : Int) < (l0.length : Int)) = true := by simpa using h2
  have c3 : (0 ≤ (i : Int)) = True := by simp
  have hG := HG.out
  clear HG
  rw [show l0.length - i = (l0.length - (i + 1)) + 1 by omega] at hG
  unfold zq1a.go at hG
  obtain ⟨e, hE, hG2⟩ := Option.bind_eq_some_iff.mp hG
  clear hG
  obtain ⟨ad, A4, c4, A5, c5, ead, hx_0, hx_1, hx_2, hx_3, hx_4, hx_5, hl4, hi4, hl5, hi5⟩ := at_T25 HC.out i (by omega) (by omega)
  cases ead
  replace hx_0 := cb_ HB.out hx_0
  replace hx_1 := cb_ HB.out hx_1
  replace hx_2 := cb_ HB.out hx_2
  replace hx_3 := cb_ HB.out hx_3
  replace hx_4 := cb_ HB.out hx_4
  replace hx_5 := cb_ HB.out hx_5
  generalize y0q l0 (i : Int) = sy at hx_0 hx_1 hx_2 hx_3 hx_4 hx_5 hl4 hi4 hl5 hi5 hE hG2
  simp only [Int.toNat_natCast] at hx_0 hx_1 hx_2 hx_3 hx_4 hx_5
  have HBA := q_ (y01 HB.out (.cells #[.string sy.f0, .string sy.f1, .string sy.f2, .int .i64 sy.f3, .slice A4 sy.f4.length c4, .slice A5 sy.f5.length c5] 25))
  have HQ := q_ (zq1i.calls k sy.f0 sy.f1 sy.f2 sy.f3 A4 c4 sy.f4 A5 c5 sy.f5 e _ (Kd.C_below hi4 HBA.out) hl4 (Kd.C_below hi5 HBA.out) hl5 hE)
  have HBK := q_ (blk_new wr (.cells #[.string sy.f0, .string sy.f1, .string sy.f2, .int .i64 sy.f3, .slice A4 sy.f4.length c4, .slice A5 sy.f5.length c5] 25))
  clear hi4 hi5 hl4 hl5 hE
  by_cases he : e = 0
  rotate_left
  ·rw [if_neg he] at hG2
   obtain rfl := Option.some.inj hG2
   clear hG2
   have c4b : (e != 0) = true := bne_iff_ne.mpr he
   go_wp2_with (go_at_call 18; (with_reducible refine HQ.out.mono ?_); rintro e w2 ⟨rfl, hb⟩; have HB2 := q_ (y05 HBA.out hb); clear hb)
   go_ret
   exact ⟨rfl, HB2.out⟩
  subst he
  rw [if_pos rfl] at hG2
  have hlen : (l0.take i).length = i := by rw [List.length_take]; omega
  have HT := q_ (Kd.C_take (m := i) HC.out hi)
  obtain ⟨q, hq⟩ : ∃ q, q = idxF (pNam sy.f0) (l0.take i) := ⟨_, rfl⟩
  have HX := q_ (fun w1 (hb1 : Below (wr.alloc (.cells #[.string sy.f0, .string sy.f1, .string sy.f2, .int .i64 sy.f3, .slice A4 sy.f4.length c4, .slice A5 sy.f5.length c5] 25)).heap.size (wr.alloc (.cells #[.string sy.f0, .string sy.f1, .string sy.f2, .int .i64 sy.f3, .slice A4 sy.f4.length c4, .slice A5 sy.f5.length c5] 25)) w1) => index_calls (pNam sy.f0) 76 wr.heap.size (fun args w => enters_ Try.func76 (by kernel_rfl) rfl args w) (some ad) c0 (l0.take i) w1 (Kd.C_below HT.out (y05 HBA.out hb1)) (fun x A4 c4 A5 c5 w2 hb2 _ _ _ _ => namedF_calls x A4 c4 A5 c5 _ sy.f0 w2 ((y08 (y07 (y07 HBK.out hb1) hb2) 0).trans rfl)))
  rw [← hq] at hG2 HX
  rw [hlen] at HX
  clear hq HT hlen
  have z1 : (i : Int) ≤ (c0 : Int) := by have := HCC.out; omega
  have z2 : ((i : Int) ≤ (c0 : Int)) = True := eq_true z1
  have z3 : i ≤ c0 := by have := HCC.out; omega
  by_cases h0 : 0 ≤ q
  ·rw [if_pos h0] at hG2
   obtain rfl := Option.some.inj hG2
   clear hG2
   have c4b : decide (0 ≤ q) = true := decide_eq_true h0
   go_wp2_with (first
    | (go_at_call 18; (with_reducible refine HQ.out.mono ?_); rintro e w2 ⟨rfl, hb⟩; have HB2 := q_ hb; clear hb)
    | (go_at_call 74; (with_reducible refine (HX.out _ HB2.out).mono ?_); rintro e w3 ⟨rfl, hb⟩; have HB3 := q_ (y05 (y05 HBA.out HB2.out) hb); clear hb))
   go_ret
   exact ⟨rfl, HB3.out⟩
  rw [if_neg h0] at hG2
  have HG2 := q_ hG2
  clear hG2
  have c4b : decide (0 ≤ q) = false := decide_eq_false h0
  have HLI := HL.out
  go_wp2_with (first
   | (go_at_call 18; (with_reducible refine HQ.out.mono ?_); rintro e w2 ⟨rfl, hb⟩; have HB2 := q_ hb; clear hb)
   | (go_at_call 74; (with_reducible refine (HX.out _ HB2.out).mono ?_); rintro e w3 ⟨rfl, hb⟩; have HB3 := q_ (y05 (y05 HBA.out HB2.out) hb); clear hb))
  go_roundg (l0.length - (i + 1))
  case measure => omega
  case rel => exact ⟨i + 1, by go_num, by omega, by omega, HG2, HB3⟩
end Go.Proofs.Ytenlmckahaniiaa.K
end
