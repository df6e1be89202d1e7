/- Lemmas for several laws: what their proofs need of this seat's texts, in one place. -/
import Derived.Test.YtenlmckahaniiaaZcLc5
import Derived.Test.YtenlmckahaniiaaZcLc7
set_option linter.unusedVariables false
set_option linter.unusedSimpArgs false
set_option linter.unusedSectionVars false
set_option maxHeartbeats 8000000
set_option maxRecDepth 100000
section
namespace Go.Proofs.Ytenlmckahaniiaa.K
open Go.RowKit Go.Proofs.YtenlmckahaniiaaW.PrintWords Go.Proofs.YtenlmckahaniiaaW.PrintLast
def zq1c.f (k : Nat) (a0_0 : ByteArray) (a0_1 : ByteArray) (a0_2 : ByteArray) (a0_3 : Int) (l0_4 : List (S62)) (l0_5 : List (S43)) : Option (ByteArray × Int) := (zq1i.f k a0_0 a0_1 a0_2 a0_3 l0_4 l0_5).bind fun t172 => (if t172 = 0 then ((zq1m.f k a0_0 a0_1 a0_2 a0_3 l0_4 l0_5).bind fun t173 => ((zq1o.f k t173).bind fun t174 => (some (t174, 0)))) else (some ((⟨#[]⟩ : ByteArray), t172)))
theorem zq1c.calls (k : Nat) (a0_0 : ByteArray) (a0_1 : ByteArray) (a0_2 : ByteArray) (a0_3 : Int) (A0_4 : Option Addr) (c0_4 : Nat) (l0_4 : List (S62)) (A0_5 : Option Addr) (c0_5 : Nat) (l0_5 : List (S43)) (r1 : ByteArray) (r2 : Int) (w : World) (hr0_4 : Kd.C k62 w A0_4 l0_4.length l0_4) (hc0_4 : l0_4.length ≤ c0_4) (hr0_5 : Kd.C k43 w A0_5 l0_5.length l0_5) (hc0_5 : l0_5.length ≤ c0_5) (h : zq1c.f k a0_0 a0_1 a0_2 a0_3 l0_4 l0_5 = some (r1, r2)) :
  Calls Try.prog 21 #[.agg #[.string a0_0, .string a0_1, .string a0_2, .int .i64 a0_3, .slice A0_4 l0_4.length c0_4, .slice A0_5 l0_5.length c0_5]] w fun e w' => e = .returned (.tuple #[.string r1, .int .i64 r2]) ∧ Below w.heap.size w w' := by
 have hu25 := Try.underlying25
 have HR0_4 := q_ hr0_4
 have HC0_4 := q_ hc0_4
 clear hr0_4 hc0_4
 have HR0_5 := q_ hr0_5
 have HC0_5 := q_ hc0_5
 clear hr0_5 hc0_5
 have HB := q_ (Below.refl w.heap.size w)
 have H : ((zq1i.f k a0_0 a0_1 a0_2 a0_3 l0_4 l0_5).bind fun t172 => (if t172 = 0 then ((zq1m.f k a0_0 a0_1 a0_2 a0_3 l0_4 l0_5).bind fun t173 => ((zq1o.f k t173).bind fun t174 => (some (t174, 0)))) else (some ((⟨#[]⟩ : ByteArray), t172)))) = some (r1, r2) := h
 clear h
 replace H := Option.bind_eq_some_iff.mp H
 obtain ⟨t172, A20, H⟩ := H
 (try dsimp only at H)
 have A2 := q_ A20
 clear A20
 by_cases c3 : t172 = 0
 rotate_left
 ·rw [if_neg c3] at H
  have c3b0 : (t172 == 0) = false := beq_eq_false_iff_ne.mpr c3
  have c3b1 : (t172 != 0) = true := bne_iff_ne.mpr c3
  simp only [Option.some.injEq, Prod.mk.injEq] at H
  obtain ⟨rfl, rfl⟩ := H
  go_enter Try.func21, Try.ntmps21
  go_wp2_with (first | ((with_reducible refine y0k (N := 1) rfl ?_); refine y0g ?hg (N := 1) ?hd (cs := #[.string a0_0, .string a0_1, .string a0_2, .int .i64 a0_3, .slice A0_4 l0_4.length c0_4, .slice A0_5 l0_5.length c0_5]) (t := 25) ?hr ?_; (case hd => rfl); (case hg => rfl); (case hr => first | (go_simp; done) | (go_simp; rfl)); intro gb171 hg w12 hbox hb; have n0_ := q_ (y05 hb_ hb); have n1_ := q_ (hbox); have n2_ := q_ ((by rw [hg]; exact (y04 hb_) : w.heap.size ≤ gb171)); have n3_ := q_ ((by rw [hg]; exact (y04 hb_) : w.heap.size ≤ gb171)); clear HB; have HB := n0_; have BK171 := n1_; have GW171 := n2_; have GE171 := n3_; clear n0_ n1_ n2_ n3_; clear hb hbox hg; obtain ⟨hcz13_0, hfz13_0, hcz13_1, hfz13_1, hcz13_2, hfz13_2, hcz13_3, hfz13_3, hcz13_4, hfz13_4, hcz13_5, hfz13_5⟩ := b6_ BK171.out) | ((with_reducible refine y0j (f := 18) rfl ?_); refine goesL_ (some 6) rfl rfl Try.func18 (by kernel_rfl) rfl #[.agg #[.string a0_0, .string a0_1, .string a0_2, .int .i64 a0_3, .slice A0_4 l0_4.length c0_4, .slice A0_5 l0_5.length c0_5]] rfl ar_ ?_; (with_reducible refine (zq1i.calls k a0_0 a0_1 a0_2 a0_3 _ _ l0_4 _ _ l0_5 t172 _ ?side1 ?side2 ?side3 ?side4 A2.out).mono ?_); (case side1 => exact ck_ (Kd.C_below HR0_4.out HB.out)); (case side2 => exact HC0_4.out); (case side3 => exact ck_ (Kd.C_below HR0_5.out HB.out)); (case side4 => exact HC0_5.out); rintro e w14 ⟨rfl, hb⟩; refine ⟨_, rfl, ?_⟩; have n0_ := q_ (y07 (bk_ BK171.out) hb); have n1_ := q_ (y05 hb_ hb); clear BK171 HB; have BK171 := n0_; have HB := n1_; clear n0_ n1_; (try clear hb); (try clear hb2); (try clear hk); (try clear hi)))
  go_ret2
  exact ⟨ew_, hb_⟩
 rw [if_pos c3] at H
 have c3b0 : (t172 == 0) = true := beq_iff_eq.mpr c3
 have c3b1 : (t172 != 0) = false := bne_eq_false_iff_eq.mpr c3
 clear c3
 replace H := Option.bind_eq_some_iff.mp H
 obtain ⟨t173, A40, H⟩ := H
 (try dsimp only at H)
 have A4 := q_ A40
 clear A40
 replace H := Option.bind_eq_some_iff.mp H
 obtain ⟨t174, A50, H⟩ := H
 (try dsimp only at H)
 have A5 := q_ A50
 clear A50
 simp only [Option.some.injEq, Prod.mk.injEq] at H
 obtain ⟨rfl, rfl⟩ := H
 go_enter Try.func21, Try.ntmps21
 go_wp2_with (first | ((with_reducible refine y0k (N := 1) rfl ?_); refine y0g ?hg (N := 1) ?hd (cs := #[.string a0_0, .string a0_1, .string a0_2, .int .i64 a0_3, .slice A0_4 l0_4.length c0_4, .slice A0_5 l0_5.length c0_5]) (t := 25) ?hr ?_; (case hd => rfl); (case hg => rfl); (case hr => first | (go_simp; done) | (go_simp; rfl)); intro gb171 hg w6 hbox hb; have n0_ := q_ (y05 hb_ hb); have n1_ := q_ (hbox); have n2_ := q_ ((by rw [hg]; exact (y04 hb_) : w.heap.size ≤ gb171)); have n3_ := q_ ((by rw [hg]; exact (y04 hb_) : w.heap.size ≤ gb171)); clear HB; have HB := n0_; have BK171 := n1_; have GW171 := n2_; have GE171 := n3_; clear n0_ n1_ n2_ n3_; clear hb hbox hg; obtain ⟨hcz7_0, hfz7_0, hcz7_1, hfz7_1, hcz7_2, hfz7_2, hcz7_3, hfz7_3, hcz7_4, hfz7_4, hcz7_5, hfz7_5⟩ := b6_ BK171.out) | ((with_reducible refine y0j (f := 18) rfl ?_); refine goesL_ (some 6) rfl rfl Try.func18 (by kernel_rfl) rfl #[.agg #[.string a0_0, .string a0_1, .string a0_2, .int .i64 a0_3, .slice A0_4 l0_4.length c0_4, .slice A0_5 l0_5.length c0_5]] rfl ar_ ?_; (with_reducible refine (zq1i.calls k a0_0 a0_1 a0_2 a0_3 _ _ l0_4 _ _ l0_5 t172 _ ?side1 ?side2 ?side3 ?side4 A2.out).mono ?_); (case side1 => exact ck_ (Kd.C_below HR0_4.out HB.out)); (case side2 => exact HC0_4.out); (case side3 => exact ck_ (Kd.C_below HR0_5.out HB.out)); (case side4 => exact HC0_5.out); rintro e w8 ⟨rfl, hb⟩; refine ⟨_, rfl, ?_⟩; have n0_ := q_ (y07 (bk_ BK171.out) hb); have n1_ := q_ (y05 hb_ hb); clear BK171 HB; have BK171 := n0_; have HB := n1_; clear n0_ n1_; (try clear hb); (try clear hb2); (try clear hk); (try clear hi); obtain ⟨hcz9_0, hfz9_0, hcz9_1, hfz9_1, hcz9_2, hfz9_2, hcz9_3, hfz9_3, hcz9_4, hfz9_4, hcz9_5, hfz9_5⟩ := b6_ BK171.out) | ((with_reducible refine y0j (f := 55) rfl ?_); refine goesL_ (some 11) rfl rfl Try.func55 (by kernel_rfl) rfl #[.agg #[.string a0_0, .string a0_1, .string a0_2, .int .i64 a0_3, .slice A0_4 l0_4.length c0_4, .slice A0_5 l0_5.length c0_5]] rfl ar_ ?_; (with_reducible refine (zq1m.calls k a0_0 a0_1 a0_2 a0_3 _ _ l0_4 _ _ l0_5 t173 _ ?side1 ?side2 ?side3 ?side4 A4.out).mono ?_); (case side1 => exact ck_ (Kd.C_below HR0_4.out HB.out)); (case side2 => exact HC0_4.out); (case side3 => exact ck_ (Kd.C_below HR0_5.out HB.out)); (case side4 => exact HC0_5.out); rintro e w10 ⟨rfl, hb⟩; refine ⟨_, rfl, ?_⟩; have n0_ := q_ (y07 (bk_ BK171.out) hb); have n1_ := q_ (y05 hb_ hb); clear BK171 HB; have BK171 := n0_; have HB := n1_; clear n0_ n1_; (try clear hb); (try clear hb2); (try clear hk); (try clear hi)) | ((with_reducible refine y0j (f := 54) rfl ?_); refine goesL_ (some 12) rfl rfl Try.func54 (by kernel_rfl) rfl #[.string t173] rfl ar_ ?_; (with_reducible refine (zq1o.calls k t173 t174 _ A5.out).mono ?_); rintro e w11 ⟨rfl, hb⟩; refine ⟨_, rfl, ?_⟩; have n0_ := q_ (y07 (bk_ BK171.out) hb); have n1_ := q_ (y05 hb_ hb); clear BK171 HB; have BK171 := n0_; have HB := n1_; clear n0_ n1_; (try clear hb); (try clear hb2); (try clear hk); (try clear hi)))
 go_ret2
 exact ⟨ew_, hb_⟩
end Go.Proofs.Ytenlmckahaniiaa.K
end
section
namespace Go.Proofs.Ytenlmckahaniiaa.K
open Go.RowKit Go.Proofs.YtenlmckahaniiaaW.PrintWords Go.Proofs.YtenlmckahaniiaaW.PrintLast
def zq17.l0 : Nat → ByteArray → List (S25) → Int → Int → Option (ByteArray × Int)
  | 0, _, _, _, _ => none
  | k + 1, x5, x19, x20, x21 => if x21 < x20 then (if 0 ≤ x21 then (if x21 < (x19.length : Int) then ((zq1c.f k ((y0q x19 x21).f0) ((y0q x19 x21).f1) ((y0q x19 x21).f2) ((y0q x19 x21).f3) ((y0q x19 x21).f4) ((y0q x19 x21).f5)).bind fun bt711 => (if bt711.2 = 0 then ((zq1q.f k (bt711.1.size : Int) 4).bind fun t713 => (if t713.size + bt711.1.size ≤ 9223372036854775807 then (if x5.size + (t713 ++ bt711.1).size ≤ 9223372036854775807 then (zq17.l0 k (x5 ++ (t713 ++ bt711.1)) x19 x20 (wrap64 (x21 + 1))) else (none)) else (none))) else (some ((⟨#[]⟩ : ByteArray), bt711.2)))) else (none)) else (none)) else ((zq1o.f k x5).bind fun t708 => (some (t708, 0)))
def zq17.f (k : Nat) (l0 : List (S25)) : Option (ByteArray × Int) := (zq1a.f k l0).bind fun t706 => (if t706 = 0 then ((zq1q.f k (l0.length : Int) 2).bind fun t707 => (if 4 + t707.size ≤ 9223372036854775807 then (zq17.l0 k ((⟨#[76, 73, 66, 49]⟩ : ByteArray) ++ t707) l0 (l0.length : Int) 0) else (none))) else (some ((⟨#[]⟩ : ByteArray), t706)))
theorem zq17.calls (k : Nat) (A0 : Option Addr) (c0 : Nat) (l0 : List (S25)) (r1 : ByteArray) (r2 : Int) (w : World) (hr0 : Kd.C k25 w A0 l0.length l0) (hc0 : l0.length ≤ c0) (h : zq17.f k l0 = some (r1, r2)) :
  Calls Try.prog 37 #[.slice A0 l0.length c0] w fun e w' => e = .returned (.tuple #[.string r1, .int .i64 r2]) ∧ Below w.heap.size w w' := by
 have hu25 := Try.underlying25
 have HR0 := q_ hr0
 have HC0 := q_ hc0
 clear hr0 hc0
 have HB := q_ (Below.refl w.heap.size w)
 have H : ((zq1a.f k l0).bind fun t706 => (if t706 = 0 then ((zq1q.f k (l0.length : Int) 2).bind fun t707 => (if 4 + t707.size ≤ 9223372036854775807 then (zq17.l0 k ((⟨#[76, 73, 66, 49]⟩ : ByteArray) ++ t707) l0 (l0.length : Int) 0) else (none))) else (some ((⟨#[]⟩ : ByteArray), t706)))) = some (r1, r2) := h
 clear h
 replace H := Option.bind_eq_some_iff.mp H
 obtain ⟨t706, A20, H⟩ := H
 (try dsimp only at H)
 have A2 := q_ A20
 clear A20
 by_cases c3 : t706 = 0
 rotate_left
 ·rw [if_neg c3] at H
  have c3b0 : (t706 == 0) = false := beq_eq_false_iff_ne.mpr c3
  have c3b1 : (t706 != 0) = true := bne_iff_ne.mpr c3
  simp only [Option.some.injEq, Prod.mk.injEq] at H
  obtain ⟨rfl, rfl⟩ := H
  go_enter Try.func37, Try.ntmps37
  go_wp2_with (first | ((with_reducible refine y0j (f := 34) rfl ?_); refine goesL_ (some 11) rfl rfl Try.func34 (by kernel_rfl) rfl #[.slice A0 l0.length c0] rfl ar_ ?_; (with_reducible refine (zq1a.calls k _ _ l0 t706 _ ?side1 ?side2 A2.out).mono ?_); (case side1 => exact ck_ HR0.out); (case side2 => exact HC0.out); rintro e w25 ⟨rfl, hb⟩; refine ⟨_, rfl, ?_⟩; have n0_ := q_ (y05 hb_ hb); clear HB; have HB := n0_; clear n0_; (try clear hb); (try clear hb2); (try clear hk); (try clear hi)))
  go_ret2
  exact ⟨ew_, hb_⟩
 rw [if_pos c3] at H
 have c3b0 : (t706 == 0) = true := beq_iff_eq.mpr c3
 have c3b1 : (t706 != 0) = false := bne_eq_false_iff_eq.mpr c3
 clear c3
 replace H := Option.bind_eq_some_iff.mp H
 obtain ⟨t707, A40, H⟩ := H
 (try dsimp only at H)
 have A4 := q_ A40
 clear A40
 by_cases c5 : 4 + t707.size ≤ 9223372036854775807
 rotate_left
 ·rw [if_neg c5] at H
  exact absurd H (by simp)
 rw [if_pos c5] at H
 have c5b0 := eq_true c5
 have c5b1 : decide (4 + t707.size ≤ 9223372036854775807) = true := decide_eq_true c5
 try have c5b2 : (9223372036854775807 < 4 + t707.size) = False := eq_false (Nat.not_lt.2 c5)
 have H' := q_ H
 clear H
 go_enter Try.func37, Try.ntmps37
 go_wp2_with (first | ((with_reducible refine y0j (f := 34) rfl ?_); refine goesL_ (some 11) rfl rfl Try.func34 (by kernel_rfl) rfl #[.slice A0 l0.length c0] rfl ar_ ?_; (with_reducible refine (zq1a.calls k _ _ l0 t706 _ ?side1 ?side2 A2.out).mono ?_); (case side1 => exact ck_ HR0.out); (case side2 => exact HC0.out); rintro e w6 ⟨rfl, hb⟩; refine ⟨_, rfl, ?_⟩; have n0_ := q_ (y05 hb_ hb); clear HB; have HB := n0_; clear n0_; (try clear hb); (try clear hb2); (try clear hk); (try clear hi)) | ((with_reducible refine y0j (f := 78) rfl ?_); refine goesL_ (some 17) rfl rfl Try.func78 (by kernel_rfl) rfl #[.int .i64 (l0.length : Int), .int .i64 2] rfl ar_ ?_; (with_reducible refine (zq1q.calls k (l0.length : Int) 2 t707 _ A4.out).mono ?_); rintro e w7 ⟨rfl, hb⟩; refine ⟨_, rfl, ?_⟩; have n0_ := q_ (y05 hb_ hb); clear HB; have HB := n0_; clear n0_; (try clear hb); (try clear hb2); (try clear hk); (try clear hi)))
 go_loopg [5, 21] k (fun kq v5 v21 w' => ∃ (x5_1 : ByteArray) (x21_1 : Int), v5 = .string x5_1 ∧ v21 = .int .i64 x21_1 ∧ Aside0 (zq17.l0 kq x5_1 l0 (l0.length : Int) x21_1 = some (r1, r2)) ∧ Aside0 (kq ≤ k) ∧ Aside0 (Below w.heap.size w w'))
 case atStart => exact ⟨((⟨#[76, 73, 66, 49]⟩ : ByteArray) ++ t707), (0), cl_, cl_, H', ⟨Nat.le_refl _⟩, ⟨hb_⟩⟩
 case round =>
  clear H'
  (try clear p2); (try clear c3); (try clear c3b0); (try clear c3b1); (try clear c5); (try clear c5b0); (try clear c5b1); (try clear c5b2); (try clear c7)
  obtain ⟨x5_1, x21_1, rfl, rfl, HA, HK1, HB⟩ := hrel
  cases gk with
  | zero => exact absurd HA.out (by simp [zq17.l0])
  | succ k1 =>
   have H := HA.out
   clear HA
   simp only [zq17.l0] at H
   by_cases c8 : x21_1 < (l0.length : Int)
   rotate_left
   ·rw [if_neg c8] at H
    have c8b0 : decide (x21_1 < (l0.length : Int)) = false := decide_eq_false c8
    clear c8
    replace H := Option.bind_eq_some_iff.mp H
    obtain ⟨t708, A230, H⟩ := H
    (try dsimp only at H)
    have A23 := q_ A230
    clear A230
    simp only [Option.some.injEq, Prod.mk.injEq] at H
    obtain ⟨rfl, rfl⟩ := H
    go_wp2_with (first | ((with_reducible refine y0j (f := 54) rfl ?_); refine goesL_ (some 42) rfl rfl Try.func54 (by kernel_rfl) rfl #[.string x5_1] rfl ar_ ?_; (with_reducible refine (zq1o.calls k1 x5_1 t708 _ A23.out).mono ?_); rintro e w24 ⟨rfl, hb⟩; refine ⟨_, rfl, ?_⟩; have n0_ := q_ (y05 hb_ hb); clear HB; have HB := n0_; clear n0_; (try clear hb); (try clear hb2); (try clear hk); (try clear hi)))
    go_ret2
    exact ⟨ew_, hb_⟩
   rw [if_pos c8] at H
   have c8b0 : decide (x21_1 < (l0.length : Int)) = true := decide_eq_true c8
   clear c8
   by_cases c9 : 0 ≤ x21_1
   rotate_left
   ·rw [if_neg c9] at H
    exact absurd H (by simp)
   rw [if_pos c9] at H
   have c9b0 : decide (0 ≤ x21_1) = true := decide_eq_true c9
   clear c9
   by_cases c10 : x21_1 < (l0.length : Int)
   rotate_left
   ·rw [if_neg c10] at H
    exact absurd H (by simp)
   rw [if_pos c10] at H
   have c10b0 : decide (x21_1 < (l0.length : Int)) = true := decide_eq_true c10
   clear c10
   replace H := Option.bind_eq_some_iff.mp H
   obtain ⟨⟨t711, t712⟩, A110, H⟩ := H
   (try dsimp only at H)
   have A11 := q_ A110
   clear A110
   by_cases c12 : t712 = 0
   rotate_left
   ·rw [if_neg c12] at H
    have c12b0 : (t712 == 0) = false := beq_eq_false_iff_ne.mpr c12
    have c12b1 : (t712 != 0) = true := bne_iff_ne.mpr c12
    simp only [Option.some.injEq, Prod.mk.injEq] at H
    obtain ⟨rfl, rfl⟩ := H
    have p709 : 0 ≤ (x21_1 : Int) := oa_
    have q709 : x21_1 < (l0.length : Int) := oa_
    obtain ⟨ad709, A709_4, c709_4, A709_5, c709_5, e709, hx709_0, hx709_1, hx709_2, hx709_3, hx709_4, hx709_5, hl709_4, hi709_4, hl709_5, hi709_5⟩ := at_T25 HR0.out x21_1 p709 q709
    cases e709
    replace hx709_0 := cb_ HB.out hx709_0
    replace hx709_1 := cb_ HB.out hx709_1
    replace hx709_2 := cb_ HB.out hx709_2
    replace hx709_3 := cb_ HB.out hx709_3
    replace hx709_4 := cb_ HB.out hx709_4
    replace hx709_5 := cb_ HB.out hx709_5
    have HR709_4 := q_ hi709_4
    have HC709_4 := q_ hl709_4
    clear hi709_4 hl709_4
    have HR709_5 := q_ hi709_5
    have HC709_5 := q_ hl709_5
    clear hi709_5 hl709_5
    replace p709 := eq_true p709
    replace q709 := eq_true q709
    go_wp2_with (first | ((with_reducible refine y0k (N := 7) rfl ?_); refine y0g ?hg (N := 7) ?hd (cs := #[.string (⟨#[]⟩ : ByteArray), .string (⟨#[]⟩ : ByteArray), .string (⟨#[]⟩ : ByteArray), .int .i64 0, .slice none 0 0, .slice none 0 0]) (t := 25) ?hr ?_; (case hd => rfl); (case hg => rfl); (case hr => first | (go_simp; done) | (go_simp; rfl)); intro gb710 hg w20 hbox hb; have n0_ := q_ (y05 hb_ hb); have n1_ := q_ (hbox); have n2_ := q_ ((by rw [hg]; exact (y04 hb_) : w.heap.size ≤ gb710)); have n3_ := q_ ((by rw [hg]; exact (y04 hb_) : w.heap.size ≤ gb710)); clear HB; have HB := n0_; have BK710 := n1_; have GW710 := n2_; have GE710 := n3_; clear n0_ n1_ n2_ n3_; clear hb hbox hg; obtain ⟨hcz21_0, hfz21_0, hcz21_1, hfz21_1, hcz21_2, hfz21_2, hcz21_3, hfz21_3, hcz21_4, hfz21_4, hcz21_5, hfz21_5⟩ := b6_ BK710.out) | ((with_reducible refine y0j (f := 21) rfl ?_); refine goesL_ (some 27) rfl rfl Try.func21 (by kernel_rfl) rfl #[.agg #[.string ((y0q l0 x21_1).f0), .string ((y0q l0 x21_1).f1), .string ((y0q l0 x21_1).f2), .int .i64 ((y0q l0 x21_1).f3), .slice A709_4 ((y0q l0 x21_1).f4).length c709_4, .slice A709_5 ((y0q l0 x21_1).f5).length c709_5]] rfl ar_ ?_; (with_reducible refine (zq1c.calls k1 ((y0q l0 x21_1).f0) ((y0q l0 x21_1).f1) ((y0q l0 x21_1).f2) ((y0q l0 x21_1).f3) _ _ ((y0q l0 x21_1).f4) _ _ ((y0q l0 x21_1).f5) t711 t712 _ ?side1 ?side2 ?side3 ?side4 A11.out).mono ?_); (case side1 => exact Kd.C_below HR709_4.out hb_); (case side2 => exact HC709_4.out); (case side3 => exact Kd.C_below HR709_5.out hb_); (case side4 => exact HC709_5.out); rintro e w22 ⟨rfl, hb⟩; refine ⟨_, rfl, ?_⟩; have n0_ := q_ (y07 (g := gb710) (o := .cells #[.string ((y0q l0 x21_1).f0), .string ((y0q l0 x21_1).f1), .string ((y0q l0 x21_1).f2), .int .i64 ((y0q l0 x21_1).f3), .slice A709_4 ((y0q l0 x21_1).f4).length c709_4, .slice A709_5 ((y0q l0 x21_1).f5).length c709_5] 25 (0, 0)) (by (with_reducible repeat (first | refine y0a ?_ _ | refine y09 ?_ | refine y06 ?_ _)); refine y0f (cs := #[.string ((y0q l0 x21_1).f0), .string ((y0q l0 x21_1).f1), .string ((y0q l0 x21_1).f2), .int .i64 ((y0q l0 x21_1).f3), .slice A709_4 ((y0q l0 x21_1).f4).length c709_4, .slice none 0 0]) ?_ 5 _ rfl; (with_reducible repeat (first | refine y0a ?_ _ | refine y09 ?_ | refine y06 ?_ _)); refine y0f (cs := #[.string ((y0q l0 x21_1).f0), .string ((y0q l0 x21_1).f1), .string ((y0q l0 x21_1).f2), .int .i64 ((y0q l0 x21_1).f3), .slice none 0 0, .slice none 0 0]) ?_ 4 _ rfl; (with_reducible repeat (first | refine y0a ?_ _ | refine y09 ?_ | refine y06 ?_ _)); refine y0f (cs := #[.string ((y0q l0 x21_1).f0), .string ((y0q l0 x21_1).f1), .string ((y0q l0 x21_1).f2), .int .i64 0, .slice none 0 0, .slice none 0 0]) ?_ 3 _ rfl; (with_reducible repeat (first | refine y0a ?_ _ | refine y09 ?_ | refine y06 ?_ _)); refine y0f (cs := #[.string ((y0q l0 x21_1).f0), .string ((y0q l0 x21_1).f1), .string (⟨#[]⟩ : ByteArray), .int .i64 0, .slice none 0 0, .slice none 0 0]) ?_ 2 _ rfl; (with_reducible repeat (first | refine y0a ?_ _ | refine y09 ?_ | refine y06 ?_ _)); refine y0f (cs := #[.string ((y0q l0 x21_1).f0), .string (⟨#[]⟩ : ByteArray), .string (⟨#[]⟩ : ByteArray), .int .i64 0, .slice none 0 0, .slice none 0 0]) ?_ 1 _ rfl; (with_reducible repeat (first | refine y0a ?_ _ | refine y09 ?_ | refine y06 ?_ _)); refine y0f (cs := #[.string (⟨#[]⟩ : ByteArray), .string (⟨#[]⟩ : ByteArray), .string (⟨#[]⟩ : ByteArray), .int .i64 0, .slice none 0 0, .slice none 0 0]) ?_ 0 _ rfl; exact bk_ BK710.out) hb); have n1_ := q_ (y05 hb_ hb); clear BK710 HB; have BK710 := n0_; have HB := n1_; clear n0_ n1_; (try clear hb); (try clear hb2); (try clear hk); (try clear hi)))
    go_ret2
    exact ⟨ew_, hb_⟩
   rw [if_pos c12] at H
   have c12b0 : (t712 == 0) = true := beq_iff_eq.mpr c12
   have c12b1 : (t712 != 0) = false := bne_eq_false_iff_eq.mpr c12
   clear c12
   replace H := Option.bind_eq_some_iff.mp H
   obtain ⟨t713, A130, H⟩ := H
   (try dsimp only at H)
   have A13 := q_ A130
   clear A130
   by_cases c14 : t713.size + t711.size ≤ 9223372036854775807
   rotate_left
   ·rw [if_neg c14] at H
    exact absurd H (by simp)
   rw [if_pos c14] at H
   have c14b0 := eq_true c14
   have c14b1 : decide (t713.size + t711.size ≤ 9223372036854775807) = true := decide_eq_true c14
   try have c14b2 : (9223372036854775807 < t713.size + t711.size) = False := eq_false (Nat.not_lt.2 c14)
   by_cases c15 : x5_1.size + (t713 ++ t711).size ≤ 9223372036854775807
   rotate_left
   ·rw [if_neg c15] at H
    exact absurd H (by simp)
   rw [if_pos c15] at H
   have c15b0 := eq_true c15
   have c15b1 : decide (x5_1.size + (t713 ++ t711).size ≤ 9223372036854775807) = true := decide_eq_true c15
   try have c15b2 : (9223372036854775807 < x5_1.size + (t713 ++ t711).size) = False := eq_false (Nat.not_lt.2 c15)
   have H' := q_ H
   clear H
   have p709 : 0 ≤ (x21_1 : Int) := oa_
   have q709 : x21_1 < (l0.length : Int) := oa_
   obtain ⟨ad709, A709_4, c709_4, A709_5, c709_5, e709, hx709_0, hx709_1, hx709_2, hx709_3, hx709_4, hx709_5, hl709_4, hi709_4, hl709_5, hi709_5⟩ := at_T25 HR0.out x21_1 p709 q709
   cases e709
   replace hx709_0 := cb_ HB.out hx709_0
   replace hx709_1 := cb_ HB.out hx709_1
   replace hx709_2 := cb_ HB.out hx709_2
   replace hx709_3 := cb_ HB.out hx709_3
   replace hx709_4 := cb_ HB.out hx709_4
   replace hx709_5 := cb_ HB.out hx709_5
   have HR709_4 := q_ hi709_4
   have HC709_4 := q_ hl709_4
   clear hi709_4 hl709_4
   have HR709_5 := q_ hi709_5
   have HC709_5 := q_ hl709_5
   clear hi709_5 hl709_5
   replace p709 := eq_true p709
   replace q709 := eq_true q709
   go_wp2_with (first | ((with_reducible refine y0k (N := 7) rfl ?_); refine y0g ?hg (N := 7) ?hd (cs := #[.string (⟨#[]⟩ : ByteArray), .string (⟨#[]⟩ : ByteArray), .string (⟨#[]⟩ : ByteArray), .int .i64 0, .slice none 0 0, .slice none 0 0]) (t := 25) ?hr ?_; (case hd => rfl); (case hg => rfl); (case hr => first | (go_simp; done) | (go_simp; rfl)); intro gb710 hg w16 hbox hb; have n0_ := q_ (y05 hb_ hb); have n1_ := q_ (hbox); have n2_ := q_ ((by rw [hg]; exact (y04 hb_) : w.heap.size ≤ gb710)); have n3_ := q_ ((by rw [hg]; exact (y04 hb_) : w.heap.size ≤ gb710)); clear HB; have HB := n0_; have BK710 := n1_; have GW710 := n2_; have GE710 := n3_; clear n0_ n1_ n2_ n3_; clear hb hbox hg; obtain ⟨hcz17_0, hfz17_0, hcz17_1, hfz17_1, hcz17_2, hfz17_2, hcz17_3, hfz17_3, hcz17_4, hfz17_4, hcz17_5, hfz17_5⟩ := b6_ BK710.out) | ((with_reducible refine y0j (f := 21) rfl ?_); refine goesL_ (some 27) rfl rfl Try.func21 (by kernel_rfl) rfl #[.agg #[.string ((y0q l0 x21_1).f0), .string ((y0q l0 x21_1).f1), .string ((y0q l0 x21_1).f2), .int .i64 ((y0q l0 x21_1).f3), .slice A709_4 ((y0q l0 x21_1).f4).length c709_4, .slice A709_5 ((y0q l0 x21_1).f5).length c709_5]] rfl ar_ ?_; (with_reducible refine (zq1c.calls k1 ((y0q l0 x21_1).f0) ((y0q l0 x21_1).f1) ((y0q l0 x21_1).f2) ((y0q l0 x21_1).f3) _ _ ((y0q l0 x21_1).f4) _ _ ((y0q l0 x21_1).f5) t711 t712 _ ?side1 ?side2 ?side3 ?side4 A11.out).mono ?_); (case side1 => exact Kd.C_below HR709_4.out hb_); (case side2 => exact HC709_4.out); (case side3 => exact Kd.C_below HR709_5.out hb_); (case side4 => exact HC709_5.out); rintro e w18 ⟨rfl, hb⟩; refine ⟨_, rfl, ?_⟩; have n0_ := q_ (y07 (g := gb710) (o := .cells #[.string ((y0q l0 x21_1).f0), .string ((y0q l0 x21_1).f1), .string ((y0q l0 x21_1).f2), .int .i64 ((y0q l0 x21_1).f3), .slice A709_4 ((y0q l0 x21_1).f4).length c709_4, .slice A709_5 ((y0q l0 x21_1).f5).length c709_5] 25 (0, 0)) (by (with_reducible repeat (first | refine y0a ?_ _ | refine y09 ?_ | refine y06 ?_ _)); refine y0f (cs := #[.string ((y0q l0 x21_1).f0), .string ((y0q l0 x21_1).f1), .string ((y0q l0 x21_1).f2), .int .i64 ((y0q l0 x21_1).f3), .slice A709_4 ((y0q l0 x21_1).f4).length c709_4, .slice none 0 0]) ?_ 5 _ rfl; (with_reducible repeat (first | refine y0a ?_ _ | refine y09 ?_ | refine y06 ?_ _)); refine y0f (cs := #[.string ((y0q l0 x21_1).f0), .string ((y0q l0 x21_1).f1), .string ((y0q l0 x21_1).f2), .int .i64 ((y0q l0 x21_1).f3), .slice none 0 0, .slice none 0 0]) ?_ 4 _ rfl; (with_reducible repeat (first | refine y0a ?_ _ | refine y09 ?_ | refine y06 ?_ _)); refine y0f (cs := #[.string ((y0q l0 x21_1).f0), .string ((y0q l0 x21_1).f1), .string ((y0q l0 x21_1).f2), .int .i64 0, .slice none 0 0, .slice none 0 0]) ?_ 3 _ rfl; (with_reducible repeat (first | refine y0a ?_ _ | refine y09 ?_ | refine y06 ?_ _)); refine y0f (cs := #[.string ((y0q l0 x21_1).f0), .string ((y0q l0 x21_1).f1), .string (⟨#[]⟩ : ByteArray), .int .i64 0, .slice none 0 0, .slice none 0 0]) ?_ 2 _ rfl; (with_reducible repeat (first | refine y0a ?_ _ | refine y09 ?_ | refine y06 ?_ _)); refine y0f (cs := #[.string ((y0q l0 x21_1).f0), .string (⟨#[]⟩ : ByteArray), .string (⟨#[]⟩ : ByteArray), .int .i64 0, .slice none 0 0, .slice none 0 0]) ?_ 1 _ rfl; (with_reducible repeat (first | refine y0a ?_ _ | refine y09 ?_ | refine y06 ?_ _)); refine y0f (cs := #[.string (⟨#[]⟩ : ByteArray), .string (⟨#[]⟩ : ByteArray), .string (⟨#[]⟩ : ByteArray), .int .i64 0, .slice none 0 0, .slice none 0 0]) ?_ 0 _ rfl; exact bk_ BK710.out) hb); have n1_ := q_ (y05 hb_ hb); clear BK710 HB; have BK710 := n0_; have HB := n1_; clear n0_ n1_; (try clear hb); (try clear hb2); (try clear hk); (try clear hi)) | ((with_reducible refine y0j (f := 78) rfl ?_); refine goesL_ (some 36) rfl rfl Try.func78 (by kernel_rfl) rfl #[.int .i64 (t711.size : Int), .int .i64 4] rfl ar_ ?_; (with_reducible refine (zq1q.calls k1 (t711.size : Int) 4 t713 _ A13.out).mono ?_); rintro e w19 ⟨rfl, hb⟩; refine ⟨_, rfl, ?_⟩; have n0_ := q_ (y07 (bk_ BK710.out) hb); have n1_ := q_ (y05 hb_ hb); clear BK710 HB; have BK710 := n0_; have HB := n1_; clear n0_ n1_; (try clear hb); (try clear hb2); (try clear hk); (try clear hi)))
   go_roundg k1
   case measure => have := HK1.out; omega
   case rel => exact ⟨(x5_1 ++ (t713 ++ t711)), (wrap64 (x21_1 + 1)), cl_, cl_, H', ⟨by have := HK1.out; omega⟩, ⟨hb_⟩⟩
end Go.Proofs.Ytenlmckahaniiaa.K
end
section
namespace Go.Proofs.Ytenlmckahaniiaa.K
open Go.RowKit Go.Proofs.YtenlmckahaniiaaW.PrintWords Go.Proofs.YtenlmckahaniiaaW.PrintLast
def zq1n.f (k : Nat) (a0 : ByteArray) : Option (ByteArray × Int) := if (wrap64 ((a0.size : Int) - 4)) < 0 then (some ((⟨#[]⟩ : ByteArray), 8)) else (if 0 ≤ (wrap64 ((a0.size : Int) - 4)) then (if (wrap64 ((a0.size : Int) - 4)) ≤ (a0.size : Int) then ((zq1r.f k (([a0.extract 0 ((wrap64 ((a0.size : Int) - 4)) : Int).toNat] : List ByteArray))).bind fun t178 => ((zq1q.f k t178 4).bind fun t179 => (if (a0.extract ((wrap64 ((a0.size : Int) - 4)) : Int).toNat a0.size).toList = t179.toList then (some (a0.extract 0 ((wrap64 ((a0.size : Int) - 4)) : Int).toNat, 0)) else (some ((⟨#[]⟩ : ByteArray), 10))))) else (none)) else (none))
def zq1n.T4 : Bool × List (List Nat × List Nat) := (true, [([], []), ([], []), ([0, 1], [0, 1]), ([], []), ([], []), ([3, 4], [3, 4]), ([5], [5]), ([6], [6]), ([7, 7], [7]), ([2, 8], [2, 8])])
def zq1n.B4 : List Nat := [0, 0, 3, 0, 0, 24, 56, 120, 248, 511]
theorem zq1n.tab4 : rtab .any (opsOf Try.f61 4) = zq1n.T4 := by kernel_rfl
theorem zq1n.bits4 : waitsOk zq1n.T4.2 zq1n.B4 = true := by kernel_rfl
theorem zq1n.calls (k : Nat) (a0 : ByteArray) (r1 : ByteArray) (r2 : Int) (w : World) (h : zq1n.f k a0 = some (r1, r2)) :
  Calls Try.prog 61 #[.string a0] w fun e w' => e = .returned (.tuple #[.string r1, .int .i64 r2]) ∧ Below w.heap.size w w' := by
 have HB := q_ (Below.refl w.heap.size w)
 have H : (if (wrap64 ((a0.size : Int) - 4)) < 0 then (some ((⟨#[]⟩ : ByteArray), 8)) else (if 0 ≤ (wrap64 ((a0.size : Int) - 4)) then (if (wrap64 ((a0.size : Int) - 4)) ≤ (a0.size : Int) then ((zq1r.f k (([a0.extract 0 ((wrap64 ((a0.size : Int) - 4)) : Int).toNat] : List ByteArray))).bind fun t178 => ((zq1q.f k t178 4).bind fun t179 => (if (a0.extract ((wrap64 ((a0.size : Int) - 4)) : Int).toNat a0.size).toList = t179.toList then (some (a0.extract 0 ((wrap64 ((a0.size : Int) - 4)) : Int).toNat, 0)) else (some ((⟨#[]⟩ : ByteArray), 10))))) else (none)) else (none))) = some (r1, r2) := h
 clear h
 by_cases c2 : (wrap64 ((a0.size : Int) - 4)) < 0
 ·rw [if_pos c2] at H
  have c2b0 : decide ((wrap64 ((a0.size : Int) - 4)) < 0) = true := decide_eq_true c2
  clear c2
  simp only [Option.some.injEq, Prod.mk.injEq] at H
  obtain ⟨rfl, rfl⟩ := H
  go_enter Try.func61, Try.ntmps61
  go_wp2
  go_ret2
  exact ⟨ew_, hb_⟩
 rw [if_neg c2] at H
 have c2b0 : decide ((wrap64 ((a0.size : Int) - 4)) < 0) = false := decide_eq_false c2
 clear c2
 obtain ⟨ji3, hji3⟩ : ∃ j_ : Int, (wrap64 ((a0.size : Int) - 4)) = j_ := ⟨_, rfl⟩
 replace H : (if 0 ≤ (ji3) then (if (ji3) ≤ (a0.size : Int) then ((zq1r.f k (([a0.extract 0 ((ji3) : Int).toNat] : List ByteArray))).bind fun t178 => ((zq1q.f k t178 4).bind fun t179 => (if (a0.extract ((ji3) : Int).toNat a0.size).toList = t179.toList then (some (a0.extract 0 ((ji3) : Int).toNat, 0)) else (some ((⟨#[]⟩ : ByteArray), 10))))) else (none)) else (none)) = some (r1, r2) := by first | (rw [hji3] at H; exact H) | (simp only [hji3] at H ⊢; exact H)
 (try rw [hji3] at c2b0)
 have hji3w : (IntKind.i64.wrap ((a0.size : Int) - 4)) = ji3 := (i64_w _).trans hji3
 by_cases c4 : 0 ≤ (ji3)
 rotate_left
 ·rw [if_neg c4] at H
  exact absurd H (by simp)
 rw [if_pos c4] at H
 have c4b0 := eq_true c4
 have c4b1 : decide (0 ≤ (ji3)) = true := decide_eq_true c4
 clear c4
 by_cases c5 : (ji3) ≤ (a0.size : Int)
 rotate_left
 ·rw [if_neg c5] at H
  exact absurd H (by simp)
 rw [if_pos c5] at H
 have c5b0 := eq_true c5
 have c5b1 : decide ((ji3) ≤ (a0.size : Int)) = true := decide_eq_true c5
 clear c5
 have c6b0 := eq_true (oa_ : 0 ≤ (ji3))
 have c7b0 := eq_true (oa_ : (ji3) ≤ (a0.size : Int))
 obtain ⟨y175, hy175⟩ : ∃ y_ : List ByteArray, y_ = (([a0.extract 0 ((ji3) : Int).toNat] : List ByteArray)) := ⟨_, rfl⟩
 replace H : ((zq1r.f k y175).bind fun t178 => ((zq1q.f k t178 4).bind fun t179 => (if (a0.extract ((ji3) : Int).toNat a0.size).toList = t179.toList then (some (a0.extract 0 ((ji3) : Int).toNat, 0)) else (some ((⟨#[]⟩ : ByteArray), 10))))) = some (r1, r2) := by first | (rw [hy175]; with_reducible exact H) | (have H2_ := (Option.bind_some _ _).symm.trans H; rw [hy175]; with_reducible exact H2_) | (have H2_ := (Option.bind_some _ _).symm.trans H; with_reducible exact H2_) | with_reducible exact H | (rw [hy175]; exact H) | exact H
 have Ny175 := q_ hy175
 clear hy175
 replace H := Option.bind_eq_some_iff.mp H
 obtain ⟨t178, A80, H⟩ := H
 (try dsimp only at H)
 have A8 := q_ A80
 clear A80
 replace H := Option.bind_eq_some_iff.mp H
 obtain ⟨t179, A90, H⟩ := H
 (try dsimp only at H)
 have A9 := q_ A90
 clear A90
 by_cases c10 : (a0.extract ((ji3) : Int).toNat a0.size).toList = t179.toList
 rotate_left
 ·rw [if_neg c10] at H
  have c10b0 : ((a0.extract ((ji3) : Int).toNat a0.size).toList == t179.toList) = false := beq_eq_false_iff_ne.mpr c10
  have c10b1 : ((a0.extract ((ji3) : Int).toNat a0.size).toList != t179.toList) = true := bne_iff_ne.mpr c10
  simp only [Option.some.injEq, Prod.mk.injEq] at H
  obtain ⟨rfl, rfl⟩ := H
  go_enter Try.func61, Try.ntmps61
  try go_wp2
  have n0_ := q_ (y02 HB.out)
  clear HB
  have HB := n0_
  clear n0_
  refine start_ (n := 10) (S := fun w' => True) (ds := []) #[false, false, false, false, false, false, false, false, false, false] (by kernel_rfl) rfl rfl trivial (fun hHeld => ?_); refine with_tabW zq1n.tab4 zq1n.bits4 (fun HT_ HW_ => ?_)
  generalize w.drew = w18 at HB hHeld ⊢
  refine pu_ 0 (some 10) (fl 10 1) rfl rfl HT_ ?_
  refine pu_ 1 (some 11) (fl 10 3) rfl rfl HT_ ?_
  refine pu_ 2 (some 12) (fl 10 7) rfl rfl HT_ ?_
  refine pu_ 3 (some 13) (fl 10 15) rfl rfl HT_ ?_
  refine pu_ 4 (some 14) (fl 10 31) rfl rfl HT_ ?_
  refine pu_ 5 (some 15) (fl 10 63) rfl rfl HT_ ?_
  refine one_ (i := 6) (N := some 16) (fl 10 127) rfl rfl (y0p HT_.out (by kernel_rfl)) (by decide) (fun K hK => ?_)
  refine Kd.R_lit_step Kd.string _ 9 ?hg (N := 16) ?hd (xs := ([a0.extract 0 ((ji3) : Int).toNat] : List ByteArray)) (inner := [.string (a0.extract 0 ((ji3) : Int).toNat)]) (ok := fun _ => True) (okp := fun _ => True) ?hr ?hp (fun _ hk => hk) trivial (Below.refl _ _) (Nat.le_refl _) (by simp) ?_; (case hd => rfl); (case hg => rfl); (case hr => first | (go_simp; done) | (go_simp; rfl)); (case hp => exact (Reps.one (show Kd.M Kd.string _ _ _ (a0.extract 0 ((ji3) : Int).toNat) [.string (a0.extract 0 ((ji3) : Int).toNat)] from rfl) (Reps.none _ _)))
  intro v176 w19 ho20 hb hg_ hnew_
  clear hg_ hnew_
  (first | rw [← Ny175.out] at ho20 | (simp only [Int.reduceToNat] at ho20; rw [← Ny175.out] at ho20))
  have n0_ := q_ (Kd.R_lower ho20 (y04 hb_))
  have n1_ := q_ (y05 hb_ hb)
  clear HB
  have HO177 := n0_; have HB := n1_
  clear n0_ n1_ hb ho20
  obtain ⟨Ao21, co21, eo21⟩ := Kd.R_slice HO177.out
  (first | subst eo21 | (injection eo21 with f1_ f2_ f3_; have f4_ := f1_.symm; have f5_ := f3_.symm; clear f1_ f2_ f3_; subst f4_; subst f5_))
  refine hK.out _ _ trivial (fun hHeld => ?_)
  clear hK K
  refine no_ (N := some 16) ?_
  refine one_ (i := 7) (N := some 17) (fl 10 255) rfl rfl (y0p HT_.out (by kernel_rfl)) (by decide) (fun K hK => ?_)
  refine goes_ Try.func90 (by kernel_rfl) rfl #[.slice Ao21 y175.length co21] (by rfl) rfl rfl ar_ ?_
  with_reducible refine (zq1r.calls k _ _ y175 t178 _ ?side1 ?side2 A8.out).mono ?_
  (case side1 => exact ck_ (Kd.R_reads' HO177.out).2.2)
  (case side2 => exact (Kd.R_reads' HO177.out).2.1)
  rintro e w' ⟨rfl, ⟨nd, rfl⟩⟩
  refine ⟨_, rfl, ?_⟩
  refine hK.out _ _ trivial (fun hHeld => ?_)
  clear hK K
  refine no_ (N := some 17) ?_
  refine one_ (i := 8) (N := some 18) (fl 10 511) rfl rfl (y0p HT_.out (by kernel_rfl)) (by decide) (fun K hK => ?_)
  refine goes_ Try.func78 (by kernel_rfl) rfl #[.int .i64 t178, .int .i64 4] (by rfl) rfl rfl ar_ ?_
  with_reducible refine (zq1q.calls k t178 4 t179 _ A9.out).mono ?_
  rintro e w22 ⟨rfl, hb⟩
  refine ⟨_, rfl, ?_⟩
  have n0_ := q_ (Kd.R_below (rk_ HO177.out) hb)
  have n1_ := q_ (y05 hb_ hb)
  clear HO177 HB
  have HO177 := n0_; have HB := n1_
  clear n0_ n1_
  (try clear hb); (try clear hb2); (try clear hk); (try clear hi)
  refine hK.out _ _ trivial (fun hHeld => ?_)
  clear hK K
  refine no_ (N := some 18) ?_
  refine pu_ 9 (some 19) (fl 10 1023) rfl rfl HT_ ?_
  refine done_ (done_of HT_.out (by kernel_rfl)) ?_
  try go_wp2
  go_ret2
  exact ⟨by first | rfl | (simp [errW_none, errW_some] <;> rfl) | (simp only [← hji3]; first | rfl | (simp [errW_none, errW_some] <;> rfl)) | (simp [*, errW_none, errW_some] <;> rfl), hb_⟩
 rw [if_pos c10] at H
 have c10b0 : ((a0.extract ((ji3) : Int).toNat a0.size).toList == t179.toList) = true := beq_iff_eq.mpr c10
 have c10b1 : ((a0.extract ((ji3) : Int).toNat a0.size).toList != t179.toList) = false := bne_eq_false_iff_eq.mpr c10
 clear c10
 have c11b0 := eq_true (oa_ : 0 ≤ (ji3))
 have c12b0 := eq_true (oa_ : (ji3) ≤ (a0.size : Int))
 simp only [Option.some.injEq, Prod.mk.injEq] at H
 obtain ⟨rfl, rfl⟩ := H
 go_enter Try.func61, Try.ntmps61
 try go_wp2
 have n0_ := q_ (y02 HB.out)
 clear HB
 have HB := n0_
 clear n0_
 refine start_ (n := 10) (S := fun w' => True) (ds := []) #[false, false, false, false, false, false, false, false, false, false] (by kernel_rfl) rfl rfl trivial (fun hHeld => ?_); refine with_tabW zq1n.tab4 zq1n.bits4 (fun HT_ HW_ => ?_)
 generalize w.drew = w13 at HB hHeld ⊢
 refine pu_ 0 (some 10) (fl 10 1) rfl rfl HT_ ?_
 refine pu_ 1 (some 11) (fl 10 3) rfl rfl HT_ ?_
 refine pu_ 2 (some 12) (fl 10 7) rfl rfl HT_ ?_
 refine pu_ 3 (some 13) (fl 10 15) rfl rfl HT_ ?_
 refine pu_ 4 (some 14) (fl 10 31) rfl rfl HT_ ?_
 refine pu_ 5 (some 15) (fl 10 63) rfl rfl HT_ ?_
 refine one_ (i := 6) (N := some 16) (fl 10 127) rfl rfl (y0p HT_.out (by kernel_rfl)) (by decide) (fun K hK => ?_)
 refine Kd.R_lit_step Kd.string _ 9 ?hg (N := 16) ?hd (xs := ([a0.extract 0 ((ji3) : Int).toNat] : List ByteArray)) (inner := [.string (a0.extract 0 ((ji3) : Int).toNat)]) (ok := fun _ => True) (okp := fun _ => True) ?hr ?hp (fun _ hk => hk) trivial (Below.refl _ _) (Nat.le_refl _) (by simp) ?_; (case hd => rfl); (case hg => rfl); (case hr => first | (go_simp; done) | (go_simp; rfl)); (case hp => exact (Reps.one (show Kd.M Kd.string _ _ _ (a0.extract 0 ((ji3) : Int).toNat) [.string (a0.extract 0 ((ji3) : Int).toNat)] from rfl) (Reps.none _ _)))
 intro v176 w14 ho15 hb hg_ hnew_
 clear hg_ hnew_
 (first | rw [← Ny175.out] at ho15 | (simp only [Int.reduceToNat] at ho15; rw [← Ny175.out] at ho15))
 have n0_ := q_ (Kd.R_lower ho15 (y04 hb_))
 have n1_ := q_ (y05 hb_ hb)
 clear HB
 have HO177 := n0_; have HB := n1_
 clear n0_ n1_ hb ho15
 obtain ⟨Ao16, co16, eo16⟩ := Kd.R_slice HO177.out
 (first | subst eo16 | (injection eo16 with f1_ f2_ f3_; have f4_ := f1_.symm; have f5_ := f3_.symm; clear f1_ f2_ f3_; subst f4_; subst f5_))
 refine hK.out _ _ trivial (fun hHeld => ?_)
 clear hK K
 refine no_ (N := some 16) ?_
 refine one_ (i := 7) (N := some 17) (fl 10 255) rfl rfl (y0p HT_.out (by kernel_rfl)) (by decide) (fun K hK => ?_)
 refine goes_ Try.func90 (by kernel_rfl) rfl #[.slice Ao16 y175.length co16] (by rfl) rfl rfl ar_ ?_
 with_reducible refine (zq1r.calls k _ _ y175 t178 _ ?side1 ?side2 A8.out).mono ?_
 (case side1 => exact ck_ (Kd.R_reads' HO177.out).2.2)
 (case side2 => exact (Kd.R_reads' HO177.out).2.1)
 rintro e w' ⟨rfl, ⟨nd, rfl⟩⟩
 refine ⟨_, rfl, ?_⟩
 refine hK.out _ _ trivial (fun hHeld => ?_)
 clear hK K
 refine no_ (N := some 17) ?_
 refine one_ (i := 8) (N := some 18) (fl 10 511) rfl rfl (y0p HT_.out (by kernel_rfl)) (by decide) (fun K hK => ?_)
 refine goes_ Try.func78 (by kernel_rfl) rfl #[.int .i64 t178, .int .i64 4] (by rfl) rfl rfl ar_ ?_
 with_reducible refine (zq1q.calls k t178 4 t179 _ A9.out).mono ?_
 rintro e w17 ⟨rfl, hb⟩
 refine ⟨_, rfl, ?_⟩
 have n0_ := q_ (Kd.R_below (rk_ HO177.out) hb)
 have n1_ := q_ (y05 hb_ hb)
 clear HO177 HB
 have HO177 := n0_; have HB := n1_
 clear n0_ n1_
 (try clear hb); (try clear hb2); (try clear hk); (try clear hi)
 refine hK.out _ _ trivial (fun hHeld => ?_)
 clear hK K
 refine no_ (N := some 18) ?_
 refine pu_ 9 (some 19) (fl 10 1023) rfl rfl HT_ ?_
 refine done_ (done_of HT_.out (by kernel_rfl)) ?_
 try go_wp2
 go_ret2
 exact ⟨by first | rfl | (simp [errW_none, errW_some] <;> rfl) | (simp only [← hji3]; first | rfl | (simp [errW_none, errW_some] <;> rfl)) | (simp [*, errW_none, errW_some] <;> rfl), hb_⟩
end Go.Proofs.Ytenlmckahaniiaa.K
end
section
namespace Go.Proofs.Ytenlmckahaniiaa.K
open Go.RowKit Go.Proofs.YtenlmckahaniiaaW.PrintWords Go.Proofs.YtenlmckahaniiaaW.PrintLast
def zq9.f (a0 : ByteArray) (a1 : ByteArray) : Option (Bool) := if (a0.size : Int) ≥ (a1.size : Int) then (if 0 ≤ (a1.size : Int) then (if (a1.size : Int) ≤ (a0.size : Int) then (some ((a0.extract 0 ((a1.size : Int) : Int).toNat).toList == a1.toList)) else (none)) else (none)) else (some false)
theorem zq9.calls (a0 : ByteArray) (a1 : ByteArray) (r : Bool) (w : World) (h : zq9.f a0 a1 = some r) :
  Calls Try.prog 95 #[.string a0, .string a1] w fun e w' => e = .returned (.bool r) ∧ Drawn0 w w' := by
 have H : (if (a0.size : Int) ≥ (a1.size : Int) then (if 0 ≤ (a1.size : Int) then (if (a1.size : Int) ≤ (a0.size : Int) then (some ((a0.extract 0 ((a1.size : Int) : Int).toNat).toList == a1.toList)) else (none)) else (none)) else (some false)) = some r := h
 clear h
 by_cases c3 : (a0.size : Int) ≥ (a1.size : Int)
 rotate_left
 ·rw [if_neg c3] at H
  have c3b0 : decide ((a1.size : Int) ≤ (a0.size : Int)) = false := decide_eq_false c3
  have c3b1 : decide (a1.size ≤ a0.size) = false := decide_eq_false (fun h => c3 (Int.ofNat_le.mpr h))
  clear c3
  obtain rfl := Option.some.inj H
  go_enter Try.func95, Try.ntmps95
  go_wp2
  go_ret
  exact ⟨by first | rfl | (simp; done) | (simp [y0m]; done) | (simp [*]; done), by repeat (first | exact Drawn0.refl _ | apply Drawn0.step)⟩
 rw [if_pos c3] at H
 have c3b0 : decide ((a1.size : Int) ≤ (a0.size : Int)) = true := decide_eq_true c3
 have c3b1 : decide (a1.size ≤ a0.size) = true := decide_eq_true (Int.ofNat_le.mp c3)
 clear c3
 by_cases c4 : 0 ≤ (a1.size : Int)
 rotate_left
 ·rw [if_neg c4] at H
  exact absurd H (by simp)
 rw [if_pos c4] at H
 have c4b0 := eq_true c4
 have c4b1 : decide (0 ≤ (a1.size : Int)) = true := decide_eq_true c4
 clear c4
 by_cases c5 : (a1.size : Int) ≤ (a0.size : Int)
 rotate_left
 ·rw [if_neg c5] at H
  exact absurd H (by simp)
 rw [if_pos c5] at H
 have c5b0 := eq_true c5
 have c5b1 : decide ((a1.size : Int) ≤ (a0.size : Int)) = true := decide_eq_true c5
 clear c5
 obtain rfl := Option.some.inj H
 go_enter Try.func95, Try.ntmps95
 go_wp2
 go_ret
 exact ⟨by first | rfl | (simp; done) | (simp [y0m]; done) | (simp [*]; done), by repeat (first | exact Drawn0.refl _ | apply Drawn0.step)⟩
def zq12.f (a0 : ByteArray) (a1 : ByteArray) : Option (Bool) := (zq9.f a0 a1).bind fun t180 => (some t180)
theorem zq12.calls (a0 : ByteArray) (a1 : ByteArray) (r : Bool) (w : World) (h : zq12.f a0 a1 = some r) :
  Calls Try.prog 62 #[.string a0, .string a1] w fun e w' => e = .returned (.bool r) ∧ Drawn0 w w' := by
 have H : ((zq9.f a0 a1).bind fun t180 => (some t180)) = some r := h
 clear h
 replace H := Option.bind_eq_some_iff.mp H
 obtain ⟨t180, A30, H⟩ := H
 (try dsimp only at H)
 have A3 := q_ A30
 clear A30
 obtain rfl := Option.some.inj H
 go_enter Try.func62, Try.ntmps62
 go_wp2_with (first | ((with_reducible refine y0j (f := 95) rfl ?_); refine goesL_ (some 7) rfl rfl Try.func95 (by kernel_rfl) rfl #[.string a0, .string a1] rfl ar_ ?_; (with_reducible refine (zq9.calls a0 a1 t180 _ A3.out).mono ?_); rintro e w' ⟨rfl, ⟨nd, rfl⟩⟩; refine ⟨_, rfl, ?_⟩))
 go_ret
 exact ⟨by first | rfl | (simp; done) | (simp [y0m]; done) | (simp [*]; done), by repeat (first | exact Drawn0.refl _ | apply Drawn0.step)⟩
mutual
def zq1p.j0 : Nat → ByteArray → Int → Int → Bool → Option (Int × Int × Int)
  | 0, _, _, _, _ => none
  | k + 1, x0, x1, x2, x26 => if x26 = true then (some (0, 0, 1)) else (if x2 > (wrap64 ((x0.size : Int) - x1)) then (some (0, 0, 8)) else (zq1p.l0 k x0 x1 x2 0 (wrap64 (x2 - 1))))
def zq1p.l0 : Nat → ByteArray → Int → Int → Int → Int → Option (Int × Int × Int)
  | 0, _, _, _, _, _ => none
  | k + 1, x0, x1, x2, x9, x10 => if x10 ≥ 0 then (if 0 ≤ (wrap64 (x1 + x10)) then (if (wrap64 (x1 + x10)) < (x0.size : Int) then (zq1p.l0 k x0 x1 x2 (Go.bits .or .i64 (wrap64 (x9 * 256)) (wrap64 (bt x0 (wrap64 (x1 + x10))))) (wrap64 (x10 - 1))) else (none)) else (none)) else (some (x9, wrap64 (x1 + x2), 0))
end
def zq1p.f (k : Nat) (a0 : ByteArray) (a1 : Int) (a2 : Int) : Option (Int × Int × Int) := if a2 < 1 then (zq1p.j0 k a0 a1 a2 true) else (if a2 > 7 then (zq1p.j0 k a0 a1 a2 true) else (if a1 < 0 then (zq1p.j0 k a0 a1 a2 true) else (zq1p.j0 k a0 a1 a2 (decide (a1 > (a0.size : Int))))))
theorem zq1p.calls (k : Nat) (a0 : ByteArray) (a1 : Int) (a2 : Int) (r1 : Int) (r2 : Int) (r3 : Int) (w : World) (h : zq1p.f k a0 a1 a2 = some (r1, r2, r3)) :
  Calls Try.prog 80 #[.string a0, .int .i64 a1, .int .i64 a2] w fun e w' => e = .returned (.tuple #[.int .i64 r1, .int .i64 r2, .int .i64 r3]) ∧ Drawn0 w w' := by
 have H : (if a2 < 1 then (zq1p.j0 k a0 a1 a2 true) else (if a2 > 7 then (zq1p.j0 k a0 a1 a2 true) else (if a1 < 0 then (zq1p.j0 k a0 a1 a2 true) else (zq1p.j0 k a0 a1 a2 (decide (a1 > (a0.size : Int))))))) = some (r1, r2, r3) := h
 clear h
 have HC4 := q_ H
 clear H
 go_enter Try.func80, Try.ntmps80
 go_upto_region 1 with (fail)
 go_cut [26] (fun v26 wc => ∃ (kq : Nat) (x26_3 : Bool), v26 = .bool x26_3 ∧ Aside0 (zq1p.j0 kq a0 a1 a2 x26_3 = some (r1, r2, r3)) ∧ Aside0 (kq ≤ k) ∧ Drawn0 w wc)
 case first =>
  have H := HC4.out
  clear HC4
  by_cases c5 : a2 < 1
  ·rw [if_pos c5] at H
   have c5b0 : decide (a2 < 1) = true := decide_eq_true c5
   clear c5
   (first | rw [c5b0] | (simp only [i64_w, i32_w]; rw [c5b0]) | skip)
   have H' := q_ H
   clear H
   go_wp2
   go_meet
   case rel => exact ⟨_, (true), cl_, H', ⟨by first | omega | exact Nat.le_refl _⟩, by repeat (first | exact Drawn0.refl _ | apply Drawn0.step)⟩
  rw [if_neg c5] at H
  have c5b0 : decide (a2 < 1) = false := decide_eq_false c5
  clear c5
  (first | rw [c5b0] | (simp only [i64_w, i32_w]; rw [c5b0]) | skip)
  by_cases c6 : a2 > 7
  ·rw [if_pos c6] at H
   have c6b0 : decide (7 < a2) = true := decide_eq_true c6
   clear c6
   have H' := q_ H
   clear H
   go_wp2
   go_meet
   case rel => exact ⟨_, (true), cl_, H', ⟨by first | omega | exact Nat.le_refl _⟩, by repeat (first | exact Drawn0.refl _ | apply Drawn0.step)⟩
  rw [if_neg c6] at H
  have c6b0 : decide (7 < a2) = false := decide_eq_false c6
  clear c6
  by_cases c7 : a1 < 0
  ·rw [if_pos c7] at H
   have c7b0 : decide (a1 < 0) = true := decide_eq_true c7
   clear c7
   have H' := q_ H
   clear H
   go_wp2
   go_meet
   case rel => exact ⟨_, (true), cl_, H', ⟨by first | omega | exact Nat.le_refl _⟩, by repeat (first | exact Drawn0.refl _ | apply Drawn0.step)⟩
  rw [if_neg c7] at H
  have c7b0 : decide (a1 < 0) = false := decide_eq_false c7
  clear c7
  have H' := q_ H
  clear H
  go_wp2
  go_meet
  case rel => exact ⟨_, (decide (a1 > (a0.size : Int))), cl_, H', ⟨by first | omega | exact Nat.le_refl _⟩, by repeat (first | exact Drawn0.refl _ | apply Drawn0.step)⟩
 case rest =>
  clear HC4
  (try clear p2); (try clear c5); (try clear c5b0); (try clear c6); (try clear c6b0); (try clear c7); (try clear c7b0)
  obtain ⟨kq, x26_3, rfl, HA, HJ3, ⟨mc3, rfl⟩⟩ := hcut
  cases kq with
  | zero => exact absurd HA.out (by simp [zq1p.j0])
  | succ kj3 =>
   have H := HA.out
   clear HA
   simp only [zq1p.j0] at H
   by_cases c8 : x26_3 = true
   ·subst c8
    rw [if_pos rfl] at H
    simp only [Option.some.injEq, Prod.mk.injEq] at H
    obtain ⟨rfl, rfl, rfl⟩ := H
    go_wp2
    go_ret3
    exact ⟨by first | rfl | (simp; done) | (simp [y0m]; done) | (simp [*]; done), by repeat (first | exact Drawn0.refl _ | apply Drawn0.step)⟩
   replace c8 := Bool.eq_false_iff.mpr c8
   subst c8
   rw [if_neg (show ¬ (false = true) by decide)] at H
   by_cases c9 : a2 > (wrap64 ((a0.size : Int) - a1))
   ·rw [if_pos c9] at H
    have c9b0 : decide ((wrap64 ((a0.size : Int) - a1)) < a2) = true := decide_eq_true c9
    clear c9
    simp only [Option.some.injEq, Prod.mk.injEq] at H
    obtain ⟨rfl, rfl, rfl⟩ := H
    go_wp2
    go_ret3
    exact ⟨by first | rfl | (simp; done) | (simp [y0m]; done) | (simp [*]; done), by repeat (first | exact Drawn0.refl _ | apply Drawn0.step)⟩
   rw [if_neg c9] at H
   have c9b0 : decide ((wrap64 ((a0.size : Int) - a1)) < a2) = false := decide_eq_false c9
   clear c9
   have H' := q_ H
   clear H
   go_wp2
   go_loopg [9, 10] kj3 (fun kq v9 v10 w' => ∃ (x9_2 : Int) (x10_2 : Int), v9 = .int .i64 x9_2 ∧ v10 = .int .i64 x10_2 ∧ Aside0 (zq1p.l0 kq a0 a1 a2 x9_2 x10_2 = some (r1, r2, r3)) ∧ Aside0 (kq ≤ kj3) ∧ Drawn0 w w')
   case atStart => exact ⟨(0), (wrap64 (a2 - 1)), cl_, cl_, H', ⟨Nat.le_refl _⟩, by repeat (first | exact Drawn0.refl _ | apply Drawn0.step)⟩
   case round =>
    clear H'
    (try clear p2); (try clear c3); (try clear c5); (try clear c5b0); (try clear c6); (try clear c6b0); (try clear p6); (try clear c7); (try clear c7b0); (try clear c8); (try clear c9); (try clear c9b0); (try clear p2)
    obtain ⟨x9_2, x10_2, rfl, rfl, HA, HK2, ⟨m2, rfl⟩⟩ := hrel
    cases gk with
    | zero => exact absurd HA.out (by simp [zq1p.l0])
    | succ k2 =>
     have H := HA.out
     clear HA
     simp only [zq1p.l0] at H
     by_cases c10 : x10_2 ≥ 0
     rotate_left
     ·rw [if_neg c10] at H
      have c10b0 : decide (0 ≤ x10_2) = false := decide_eq_false c10
      clear c10
      simp only [Option.some.injEq, Prod.mk.injEq] at H
      obtain ⟨rfl, rfl, rfl⟩ := H
      go_wp2
      go_ret3
      exact ⟨by first | rfl | (simp; done) | (simp [y0m]; done) | (simp [*]; done), by repeat (first | exact Drawn0.refl _ | apply Drawn0.step)⟩
     rw [if_pos c10] at H
     have c10b0 : decide (0 ≤ x10_2) = true := decide_eq_true c10
     clear c10
     obtain ⟨ji11, hji11⟩ : ∃ j_ : Int, (wrap64 (a1 + x10_2)) = j_ := ⟨_, rfl⟩
     replace H : (if 0 ≤ (ji11) then (if (ji11) < (a0.size : Int) then (zq1p.l0 k2 a0 a1 a2 (Go.bits .or .i64 (wrap64 (x9_2 * 256)) (wrap64 (bt a0 (ji11)))) (wrap64 (x10_2 - 1))) else (none)) else (none)) = some (r1, r2, r3) := by first | (rw [hji11] at H; exact H) | (simp only [hji11] at H ⊢; exact H)
     have hji11w : (IntKind.i64.wrap (a1 + x10_2)) = ji11 := (i64_w _).trans hji11
     by_cases c12 : 0 ≤ (ji11)
     rotate_left
     ·rw [if_neg c12] at H
      exact absurd H (by simp)
     rw [if_pos c12] at H
     have c12b0 : decide (0 ≤ (ji11)) = true := decide_eq_true c12
     clear c12
     by_cases c13 : (ji11) < (a0.size : Int)
     rotate_left
     ·rw [if_neg c13] at H
      exact absurd H (by simp)
     rw [if_pos c13] at H
     have c13b0 : decide ((ji11) < (a0.size : Int)) = true := decide_eq_true c13
     clear c13
     have H' := q_ H
     clear H
     have p14 : 0 ≤ ((ji11) : Int) := oa_
     have q14 : (ji11) < (a0.size : Int) := oa_
     have hx14 := bt_at a0 (ji11)
     replace p14 := eq_true p14
     replace q14 := eq_true q14
     go_wp2
     go_roundg k2
     case measure => have := HJ3.out; have := HK2.out; omega
     case rel => exact ⟨(Go.bits .or .i64 (wrap64 (x9_2 * 256)) (wrap64 (bt a0 (ji11)))), (wrap64 (x10_2 - 1)), (by first | rfl | (simp; done) | (simp only [← hji11] <;> (first | rfl | simp)) | (simp [y0m]; done) | (simp [*]; done)), cl_, H', ⟨by have := HJ3.out; have := HK2.out; omega⟩, by repeat (first | exact Drawn0.refl _ | apply Drawn0.step)⟩
end Go.Proofs.Ytenlmckahaniiaa.K
end
