/- Lemmas for the law LibraryChecks: what its proof needs beyond what it shares. -/
import Derived.Test.YtenlmckahaniiaaZLibraryChecks1
import Derived.Test.YtenlmckahaniiaaZcLc12
set_option linter.unusedVariables false
set_option linter.unusedSimpArgs false
set_option linter.unusedSectionVars false
set_option maxHeartbeats 8000000
set_option maxRecDepth 100000
section
namespace Go.Proofs.Ytenlmckahaniiaa.K
open Go.RowKit Go.Proofs.YtenlmckahaniiaaW.PrintWords Go.Proofs.YtenlmckahaniiaaW.PrintLast
mutual
def zqh.j0 : Nat → Bool → ByteArray → ByteArray → ByteArray → Int → List (S62) → List (S43) → Option (Int)
  | 0, _, _, _, _, _, _, _ => none
  | k + 1, x36, x142000, x142001, x142002, x142003, x142004, x142005 => if x36 = true then (some 7) else (if ((x142001.size : Int) % 2) = 0 then (zqh.j1 k (decide (x142003 < 0)) x142000 x142001 x142002 x142003 x142004 x142005) else (zqh.j1 k true x142000 x142001 x142002 x142003 x142004 x142005))
def zqh.j1 : Nat → Bool → ByteArray → ByteArray → ByteArray → Int → List (S62) → List (S43) → Option (Int)
  | 0, _, _, _, _, _, _, _ => none
  | k + 1, x46, x142000, x142001, x142002, x142003, x142004, x142005 => if x46 = true then (some 1) else ((zq8.f k x142004).bind fun t143 => (if t143 = 0 then (zqh.l0 k 0 x142000 x142001 x142002 x142003 x142004 x142005 (-1) 0 0 (⟨#[]⟩ : ByteArray) false) else (some t143)))
def zqh.l0 : Nat → Int → ByteArray → ByteArray → ByteArray → Int → List (S62) → List (S43) → Int → Int → Int → ByteArray → Bool → Option (Int)
  | 0, _, _, _, _, _, _, _, _, _, _, _, _ => none
  | k + 1, x5, x142000, x142001, x142002, x142003, x142004, x142005, x145000, x145001, x145002, x145003, x145004 => if x5 < (x142005.length : Int) then (if 0 ≤ x5 then ((zqj.f k x142000 x142001 x142002 x142003 x142004 x142005 ((y0r x142005 x5).f0) ((y0r x142005 x5).f1) ((y0r x142005 x5).f2) ((y0r x142005 x5).f3) ((y0r x142005 x5).f4) x145000 x145001 x145002 x145003 x145004).bind fun t146 => (if t146 = 0 then (zqh.l0 k (wrap64 (x5 + 1)) x142000 x142001 x142002 x142003 x142004 x142005 ((y0r x142005 x5).f0) ((y0r x142005 x5).f1) ((y0r x142005 x5).f2) ((y0r x142005 x5).f3) ((y0r x142005 x5).f4)) else (some t146))) else (none)) else (some 0)
end
def zqh.f (k : Nat) (a0_0 : ByteArray) (a0_1 : ByteArray) (a0_2 : ByteArray) (a0_3 : Int) (l0_4 : List (S62)) (l0_5 : List (S43)) : Option (Int) := (zqc.f k a0_0).bind fun t142 => (if t142 = true then (if (a0_1.size : Int) > 16384 then (zqh.j0 k true a0_0 a0_1 a0_2 a0_3 l0_4 l0_5) else (if (a0_2.size : Int) > 16384 then (zqh.j0 k true a0_0 a0_1 a0_2 a0_3 l0_4 l0_5) else (if a0_3 > 16384 then (zqh.j0 k true a0_0 a0_1 a0_2 a0_3 l0_4 l0_5) else (if (l0_4.length : Int) > 256 then (zqh.j0 k true a0_0 a0_1 a0_2 a0_3 l0_4 l0_5) else (zqh.j0 k (decide ((l0_5.length : Int) > 2048)) a0_0 a0_1 a0_2 a0_3 l0_4 l0_5))))) else (some 4))
def zqh.T14 : Bool × List (List Nat × List Nat) := (true, [([], []), ([], []), ([1], [1]), ([], []), ([2, 3], [2, 3]), ([4], [4]), ([], []), ([0, 5, 6], [0, 5, 6]), ([7, 7, 0, 1, 2, 3, 4, 5, 6, 7], [7])])
def zqh.B14 : List Nat := [0, 0, 2, 0, 14, 30, 0, 127, 255]
theorem zqh.tab14 : rtab .any (opsOf Try.f19 14) = zqh.T14 := by kernel_rfl
theorem zqh.bits14 : waitsOk zqh.T14.2 zqh.B14 = true := by kernel_rfl
theorem zqh.calls (k : Nat) (a0_0 : ByteArray) (a0_1 : ByteArray) (a0_2 : ByteArray) (a0_3 : Int) (A0_4 : Option Addr) (c0_4 : Nat) (l0_4 : List (S62)) (A0_5 : Option Addr) (c0_5 : Nat) (l0_5 : List (S43)) (r : Int) (w : World) (hr0_4 : Kd.C k62 w A0_4 l0_4.length l0_4) (hc0_4 : l0_4.length ≤ c0_4) (hr0_5 : Kd.C k43 w A0_5 l0_5.length l0_5) (hc0_5 : l0_5.length ≤ c0_5) (h : zqh.f k a0_0 a0_1 a0_2 a0_3 l0_4 l0_5 = some r) :
  Calls Try.prog 19 #[.agg #[.string a0_0, .string a0_1, .string a0_2, .int .i64 a0_3, .slice A0_4 l0_4.length c0_4, .slice A0_5 l0_5.length c0_5]] w fun e w' => e = .returned (.int .i64 r) ∧ Below w.heap.size w w' := by
 have hu25 := Try.underlying25
 have hu43 := Try.underlying43
 have HR0_4 := q_ hr0_4
 have HC0_4 := q_ hc0_4
 clear hr0_4 hc0_4
 have HR0_5 := q_ hr0_5
 have HC0_5 := q_ hc0_5
 clear hr0_5 hc0_5
 have HB := q_ (Below.refl w.heap.size w)
 have H : ((zqc.f k a0_0).bind fun t142 => (if t142 = true then (if (a0_1.size : Int) > 16384 then (zqh.j0 k true a0_0 a0_1 a0_2 a0_3 l0_4 l0_5) else (if (a0_2.size : Int) > 16384 then (zqh.j0 k true a0_0 a0_1 a0_2 a0_3 l0_4 l0_5) else (if a0_3 > 16384 then (zqh.j0 k true a0_0 a0_1 a0_2 a0_3 l0_4 l0_5) else (if (l0_4.length : Int) > 256 then (zqh.j0 k true a0_0 a0_1 a0_2 a0_3 l0_4 l0_5) else (zqh.j0 k (decide ((l0_5.length : Int) > 2048)) a0_0 a0_1 a0_2 a0_3 l0_4 l0_5))))) else (some 4))) = some r := h
 clear h
 replace H := Option.bind_eq_some_iff.mp H
 obtain ⟨t142, A20, H⟩ := H
 (try dsimp only at H)
 have A2 := q_ A20
 clear A20
 by_cases c3 : t142 = true
 rotate_left
 ·replace c3 := Bool.eq_false_iff.mpr c3
  subst c3
  rw [if_neg (show ¬ (false = true) by decide)] at H
  obtain rfl := Option.some.inj H
  go_enter Try.func19, Try.ntmps19
  go_wp2_with (first | ((with_reducible refine y0k (N := 1) rfl ?_); (try (refine y0l (by rfl) ?_; dsimp only)); refine y0g ?hg (N := 1) ?hd (cs := #[.string a0_0, .string a0_1, .string a0_2, .int .i64 a0_3, .slice A0_4 l0_4.length c0_4, .slice A0_5 l0_5.length c0_5]) (t := 25) ?hr ?_; (case hd => rfl); (case hg => rfl); (case hr => first | (go_simp; done) | (go_simp; rfl)); intro gb141 hg w45 hbox hb; have n0_ := q_ (y05 hb_ hb); have n1_ := q_ (hbox); have n2_ := q_ ((by rw [hg]; exact (y04 hb_) : w.heap.size ≤ gb141)); have n3_ := q_ ((by rw [hg]; exact (y04 hb_) : w.heap.size ≤ gb141)); clear HB; have HB := n0_; have BK141 := n1_; have GW141 := n2_; have GE141 := n3_; clear n0_ n1_ n2_ n3_; clear hb hbox hg; obtain ⟨hcz46_0, hfz46_0, hcz46_1, hfz46_1, hcz46_2, hfz46_2, hcz46_3, hfz46_3, hcz46_4, hfz46_4, hcz46_5, hfz46_5⟩ := b6_ BK141.out) | ((with_reducible refine y0j (f := 51) rfl ?_); refine goesL_ (some 8) rfl rfl Try.func51 (by kernel_rfl) rfl #[.string a0_0] rfl ar_ ?_; (with_reducible refine (zqc.calls k a0_0 false _ A2.out).mono ?_); rintro e w' ⟨rfl, ⟨nd, rfl⟩⟩; refine ⟨_, rfl, ?_⟩))
  go_ret
  exact ⟨ew_, hb_⟩
 subst c3
 rw [if_pos rfl] at H
 have HC4 := q_ H
 clear H
 go_enter Try.func19, Try.ntmps19
 go_upto_region 3 with (first | ((with_reducible refine y0k (N := 1) rfl ?_); (try (refine y0l (by rfl) ?_; dsimp only)); refine y0g ?hg (N := 1) ?hd (cs := #[.string a0_0, .string a0_1, .string a0_2, .int .i64 a0_3, .slice A0_4 l0_4.length c0_4, .slice A0_5 l0_5.length c0_5]) (t := 25) ?hr ?_; (case hd => rfl); (case hg => rfl); (case hr => first | (go_simp; done) | (go_simp; rfl)); intro gb141 hg w5 hbox hb; have n0_ := q_ (y05 hb_ hb); have n1_ := q_ (hbox); have n2_ := q_ ((by rw [hg]; exact (y04 hb_) : w.heap.size ≤ gb141)); have n3_ := q_ ((by rw [hg]; exact (y04 hb_) : w.heap.size ≤ gb141)); clear HB; have HB := n0_; have BK141 := n1_; have GW141 := n2_; have GE141 := n3_; clear n0_ n1_ n2_ n3_; clear hb hbox hg; obtain ⟨hcz6_0, hfz6_0, hcz6_1, hfz6_1, hcz6_2, hfz6_2, hcz6_3, hfz6_3, hcz6_4, hfz6_4, hcz6_5, hfz6_5⟩ := b6_ BK141.out) | ((with_reducible refine y0j (f := 51) rfl ?_); refine goesL_ (some 8) rfl rfl Try.func51 (by kernel_rfl) rfl #[.string a0_0] rfl ar_ ?_; (with_reducible refine (zqc.calls k a0_0 true _ A2.out).mono ?_); rintro e w' ⟨rfl, ⟨nd, rfl⟩⟩; refine ⟨_, rfl, ?_⟩))
 (try simp only [Act.put, List.setIfInBounds_toArray, List.set_cons_zero, List.set_cons_succ])
 go_cut [36] (fun v36 wc => ∃ (kq : Nat) (x36_3 : Bool), v36 = .bool x36_3 ∧ Aside0 (zqh.j0 kq x36_3 a0_0 a0_1 a0_2 a0_3 l0_4 l0_5 = some r) ∧ Aside0 (kq ≤ k) ∧ Aside0 (wc.heap[gb141]? = some (.cells #[.string a0_0, .string a0_1, .string a0_2, .int .i64 a0_3, (.slice A0_4 l0_4.length c0_4), (.slice A0_5 l0_5.length c0_5)] 25 (0, 0))) ∧ Aside0 (Below w.heap.size w wc))
 case first =>
  have H := HC4.out
  clear HC4
  by_cases c7 : (a0_1.size : Int) > 16384
  ·rw [if_pos c7] at H
   have c7b0 : decide (16384 < (a0_1.size : Int)) = true := decide_eq_true c7
   have c7b1 : decide (16384 < a0_1.size) = true := decide_eq_true (by omega)
   clear c7
   (first | rw [c7b0] | (simp only [i64_w, i32_w]; rw [c7b0]) | skip)
   have H' := q_ H
   clear H
   obtain ⟨hcz8_0, hfz8_0, hcz8_1, hfz8_1, hcz8_2, hfz8_2, hcz8_3, hfz8_3, hcz8_4, hfz8_4, hcz8_5, hfz8_5⟩ := b6_ BK141.out
   go_wp2
   go_meet
   case rel => exact ⟨_, (true), cl_, H', ⟨by first | omega | exact Nat.le_refl _⟩, ⟨bk_ BK141.out⟩, ⟨hb_⟩⟩
  rw [if_neg c7] at H
  have c7b0 : decide (16384 < (a0_1.size : Int)) = false := decide_eq_false c7
  have c7b1 : decide (16384 < a0_1.size) = false := decide_eq_false (by omega)
  clear c7
  (first | rw [c7b0] | (simp only [i64_w, i32_w]; rw [c7b0]) | skip)
  by_cases c9 : (a0_2.size : Int) > 16384
  ·rw [if_pos c9] at H
   have c9b0 : decide (16384 < (a0_2.size : Int)) = true := decide_eq_true c9
   have c9b1 : decide (16384 < a0_2.size) = true := decide_eq_true (by omega)
   clear c9
   have H' := q_ H
   clear H
   obtain ⟨hcz10_0, hfz10_0, hcz10_1, hfz10_1, hcz10_2, hfz10_2, hcz10_3, hfz10_3, hcz10_4, hfz10_4, hcz10_5, hfz10_5⟩ := b6_ BK141.out
   go_wp2
   go_meet
   case rel => exact ⟨_, (true), cl_, H', ⟨by first | omega | exact Nat.le_refl _⟩, ⟨bk_ BK141.out⟩, ⟨hb_⟩⟩
  rw [if_neg c9] at H
  have c9b0 : decide (16384 < (a0_2.size : Int)) = false := decide_eq_false c9
  have c9b1 : decide (16384 < a0_2.size) = false := decide_eq_false (by omega)
  clear c9
  by_cases c11 : a0_3 > 16384
  ·rw [if_pos c11] at H
   have c11b0 : decide (16384 < a0_3) = true := decide_eq_true c11
   clear c11
   have H' := q_ H
   clear H
   obtain ⟨hcz12_0, hfz12_0, hcz12_1, hfz12_1, hcz12_2, hfz12_2, hcz12_3, hfz12_3, hcz12_4, hfz12_4, hcz12_5, hfz12_5⟩ := b6_ BK141.out
   go_wp2
   go_meet
   case rel => exact ⟨_, (true), cl_, H', ⟨by first | omega | exact Nat.le_refl _⟩, ⟨bk_ BK141.out⟩, ⟨hb_⟩⟩
  rw [if_neg c11] at H
  have c11b0 : decide (16384 < a0_3) = false := decide_eq_false c11
  clear c11
  by_cases c13 : (l0_4.length : Int) > 256
  ·rw [if_pos c13] at H
   have c13b0 : decide (256 < (l0_4.length : Int)) = true := decide_eq_true c13
   have c13b1 : decide (256 < l0_4.length) = true := decide_eq_true (by omega)
   clear c13
   have H' := q_ H
   clear H
   obtain ⟨hcz14_0, hfz14_0, hcz14_1, hfz14_1, hcz14_2, hfz14_2, hcz14_3, hfz14_3, hcz14_4, hfz14_4, hcz14_5, hfz14_5⟩ := b6_ BK141.out
   go_wp2
   go_meet
   case rel => exact ⟨_, (true), cl_, H', ⟨by first | omega | exact Nat.le_refl _⟩, ⟨bk_ BK141.out⟩, ⟨hb_⟩⟩
  rw [if_neg c13] at H
  have c13b0 : decide (256 < (l0_4.length : Int)) = false := decide_eq_false c13
  have c13b1 : decide (256 < l0_4.length) = false := decide_eq_false (by omega)
  clear c13
  have H' := q_ H
  clear H
  obtain ⟨hcz15_0, hfz15_0, hcz15_1, hfz15_1, hcz15_2, hfz15_2, hcz15_3, hfz15_3, hcz15_4, hfz15_4, hcz15_5, hfz15_5⟩ := b6_ BK141.out
  go_wp2
  go_meet
  case rel => exact ⟨_, (decide ((l0_5.length : Int) > 2048)), cl_, H', ⟨by first | omega | exact Nat.le_refl _⟩, ⟨bk_ BK141.out⟩, ⟨hb_⟩⟩
 case rest =>
  clear HC4
  clear hcz6_0; clear hcz6_1; clear hcz6_2; clear hcz6_3; clear hcz6_4; clear hcz6_5; clear hfz6_0; clear hfz6_1; clear hfz6_2; clear hfz6_3; clear hfz6_4; clear hfz6_5
  obtain ⟨kq, x36_3, rfl, HA, HJ3, BK141, HB⟩ := hcut
  cases kq with
  | zero => exact absurd HA.out (by simp [zqh.j0])
  | succ kj3 =>
   have H := HA.out
   clear HA
   simp only [zqh.j0] at H
   by_cases c16 : x36_3 = true
   ·subst c16
    rw [if_pos rfl] at H
    obtain rfl := Option.some.inj H
    go_wp2
    go_ret
    exact ⟨ew_, hb_⟩
   replace c16 := Bool.eq_false_iff.mpr c16
   subst c16
   rw [if_neg (show ¬ (false = true) by decide)] at H
   have HC17 := q_ H
   clear H
   go_upto_region 5 with (fail)
   go_cut [46] (fun v46 wc => ∃ (kq : Nat) (x46_16 : Bool), v46 = .bool x46_16 ∧ Aside0 (zqh.j1 kq x46_16 a0_0 a0_1 a0_2 a0_3 l0_4 l0_5 = some r) ∧ Aside0 (kq ≤ kj3) ∧ Aside0 (wc.heap[gb141]? = some (.cells #[.string a0_0, .string a0_1, .string a0_2, .int .i64 a0_3, (.slice A0_4 l0_4.length c0_4), (.slice A0_5 l0_5.length c0_5)] 25 (0, 0))) ∧ Aside0 (Below w.heap.size w wc))
   case first =>
    have H := HC17.out
    clear HC17
    by_cases c18 : ((a0_1.size : Int) % 2) = 0
    rotate_left
    ·rw [if_neg c18] at H
     have c18b0 : (((a0_1.size : Int) % 2) == 0) = false := beq_eq_false_iff_ne.mpr c18
     have c18b1 : (((a0_1.size : Int) % 2) != 0) = true := bne_iff_ne.mpr c18
     (first | rw [c18b0] | (simp only [i64_w, i32_w]; rw [c18b0]) | skip)
     have H' := q_ H
     clear H
     obtain ⟨hcz20_0, hfz20_0, hcz20_1, hfz20_1, hcz20_2, hfz20_2, hcz20_3, hfz20_3, hcz20_4, hfz20_4, hcz20_5, hfz20_5⟩ := b6_ BK141.out
     go_wp2
     go_meet
     case rel => exact ⟨_, (true), cl_, H', ⟨by have := HJ3.out; first | omega | exact Nat.le_refl _⟩, ⟨bk_ BK141.out⟩, ⟨hb_⟩⟩
    rw [if_pos c18] at H
    have c18b0 : (((a0_1.size : Int) % 2) == 0) = true := beq_iff_eq.mpr c18
    have c18b1 : (((a0_1.size : Int) % 2) != 0) = false := bne_eq_false_iff_eq.mpr c18
    clear c18
    (first | rw [c18b0] | (simp only [i64_w, i32_w]; rw [c18b0]) | skip)
    have H' := q_ H
    clear H
    obtain ⟨hcz19_0, hfz19_0, hcz19_1, hfz19_1, hcz19_2, hfz19_2, hcz19_3, hfz19_3, hcz19_4, hfz19_4, hcz19_5, hfz19_5⟩ := b6_ BK141.out
    go_wp2
    go_meet
    case rel => exact ⟨_, (decide (a0_3 < 0)), cl_, H', ⟨by have := HJ3.out; first | omega | exact Nat.le_refl _⟩, ⟨bk_ BK141.out⟩, ⟨hb_⟩⟩
   case rest =>
    clear HC17
    obtain ⟨kq, x46_16, rfl, HA, HJ16, BK141, HB⟩ := hcut
    cases kq with
    | zero => exact absurd HA.out (by simp [zqh.j1])
    | succ kj16 =>
     have H := HA.out
     clear HA
     simp only [zqh.j1] at H
     by_cases c21 : x46_16 = true
     ·subst c21
      rw [if_pos rfl] at H
      obtain rfl := Option.some.inj H
      go_wp2
      go_ret
      exact ⟨ew_, hb_⟩
     replace c21 := Bool.eq_false_iff.mpr c21
     subst c21
     rw [if_neg (show ¬ (false = true) by decide)] at H
     replace H := Option.bind_eq_some_iff.mp H
     obtain ⟨t143, A220, H⟩ := H
     (try dsimp only at H)
     have A22 := q_ A220
     clear A220
     by_cases c23 : t143 = 0
     rotate_left
     ·rw [if_neg c23] at H
      have c23b0 : (t143 == 0) = false := beq_eq_false_iff_ne.mpr c23
      have c23b1 : (t143 != 0) = true := bne_iff_ne.mpr c23
      obtain rfl := Option.some.inj H
      obtain ⟨hcz44_0, hfz44_0, hcz44_1, hfz44_1, hcz44_2, hfz44_2, hcz44_3, hfz44_3, hcz44_4, hfz44_4, hcz44_5, hfz44_5⟩ := b6_ BK141.out
      go_wp2_with (first | ((with_reducible refine y0j (f := 52) rfl ?_); refine goesL_ (some 49) rfl rfl Try.func52 (by kernel_rfl) rfl #[.slice A0_4 l0_4.length c0_4] rfl ar_ ?_; (with_reducible refine (zq8.calls kj16 _ _ l0_4 t143 _ ?side1 ?side2 A22.out).mono ?_); (case side1 => exact ck_ (Kd.C_below HR0_4.out HB.out)); (case side2 => exact HC0_4.out); rintro e w' ⟨rfl, ⟨nd, rfl⟩⟩; refine ⟨_, rfl, ?_⟩))
      go_ret
      exact ⟨ew_, hb_⟩
     rw [if_pos c23] at H
     have c23b0 : (t143 == 0) = true := beq_iff_eq.mpr c23
     have c23b1 : (t143 != 0) = false := bne_eq_false_iff_eq.mpr c23
     clear c23
     have H' := q_ H
     clear H
     obtain ⟨hcz24_0, hfz24_0, hcz24_1, hfz24_1, hcz24_2, hfz24_2, hcz24_3, hfz24_3, hcz24_4, hfz24_4, hcz24_5, hfz24_5⟩ := b6_ BK141.out
     go_wp2_with (first | ((with_reducible refine y0j (f := 52) rfl ?_); refine goesL_ (some 49) rfl rfl Try.func52 (by kernel_rfl) rfl #[.slice A0_4 l0_4.length c0_4] rfl ar_ ?_; (with_reducible refine (zq8.calls kj16 _ _ l0_4 t143 _ ?side1 ?side2 A22.out).mono ?_); (case side1 => exact ck_ (Kd.C_below HR0_4.out HB.out)); (case side2 => exact HC0_4.out); rintro e w' ⟨rfl, ⟨nd, rfl⟩⟩; refine ⟨_, rfl, ?_⟩; (try (rw [drewN_self wc]; generalize hq_ : World.drewN wc _ = wc; have n0_ : Aside0 (wc.heap[gb141]? = some (.cells #[.string a0_0, .string a0_1, .string a0_2, .int .i64 a0_3, .slice A0_4 l0_4.length c0_4, .slice A0_5 l0_5.length c0_5] 25 (0, 0))) := ⟨by rw [← hq_]; exact (bk_ BK141.out)⟩; have n1_ : Aside0 (Below w.heap.size w wc) := ⟨by rw [← hq_]; exact hb_⟩; clear BK141 HB hq_; have BK141 := n0_; have HB := n1_; clear n0_ n1_))) | ((with_reducible refine y0k (N := 4) rfl ?_); (try (refine y0l (by rfl) ?_; dsimp only)); refine y0g ?hg (N := 4) ?hd (cs := #[.int .i64 0, .int .i64 0, .int .i64 0, .string (⟨#[]⟩ : ByteArray), .bool false]) (t := 43) ?hr ?_; (case hd => rfl); (case hg => rfl); (case hr => first | (go_simp; done) | (go_simp; rfl)); intro gb144 hg w25 hbox hb; have n0_ := q_ (y07 (bk_ BK141.out) hb); have n1_ := q_ (y05 hb_ hb); have n2_ := q_ (hbox); have n3_ := q_ ((by rw [hg]; exact (y04 hb_) : w.heap.size ≤ gb144)); have n4_ := q_ ((by rw [hg]; exact (y04 hb_) : w.heap.size ≤ gb144)); have n5_ := q_ ((by rw [hg]; exact Nat.ne_of_lt (y0e (bk_ BK141.out)) : gb141 ≠ gb144)); have n6_ := q_ ((by rw [hg]; exact Nat.ne_of_gt (y0e (bk_ BK141.out)) : gb144 ≠ gb141)); clear BK141 HB; have BK141 := n0_; have HB := n1_; have BK144 := n2_; have GW144 := n3_; have GE144 := n4_; have NB141_144 := n5_; have NB144_141 := n6_; clear n0_ n1_ n2_ n3_ n4_ n5_ n6_; clear hb hbox hg; have hnb26 := NB144_141.out; have hnc26 := NB141_144.out; obtain ⟨hcz27_0, hfz27_0, hcz27_1, hfz27_1, hcz27_2, hfz27_2, hcz27_3, hfz27_3, hcz27_4, hfz27_4⟩ := b5_ BK144.out))
     go_loopg [5] kj16 (fun kq v5 w' => ∃ (x5_3 : Int) (x145000_3 : Int) (x145001_3 : Int) (x145002_3 : Int) (x145003_3 : ByteArray) (x145004_3 : Bool), v5 = .int .i64 x5_3 ∧ Aside0 (zqh.l0 kq x5_3 a0_0 a0_1 a0_2 a0_3 l0_4 l0_5 x145000_3 x145001_3 x145002_3 x145003_3 x145004_3 = some r) ∧ Aside0 (kq ≤ kj16) ∧ Aside0 (w'.heap[gb141]? = some (.cells #[.string a0_0, .string a0_1, .string a0_2, .int .i64 a0_3, (.slice A0_4 l0_4.length c0_4), (.slice A0_5 l0_5.length c0_5)] 25 (0, 0))) ∧ Aside0 (w'.heap[gb144]? = some (.cells #[.int .i64 x145000_3, .int .i64 x145001_3, .int .i64 x145002_3, .string x145003_3, .bool x145004_3] 43 (0, 0))) ∧ Aside0 (Below w.heap.size w w'))
     case atStart => exact ⟨(0), ((-1)), (0), (0), ((⟨#[]⟩ : ByteArray)), (false), cl_, H', ⟨Nat.le_refl _⟩, ⟨by (with_reducible repeat (first | refine y0a ?_ _ | refine y09 ?_ | refine y06 ?_ _)); refine y0b ?_ NB141_144.out _; (with_reducible repeat (first | refine y0a ?_ _ | refine y09 ?_ | refine y06 ?_ _)); refine y0b ?_ NB141_144.out _; (with_reducible repeat (first | refine y0a ?_ _ | refine y09 ?_ | refine y06 ?_ _)); refine y0b ?_ NB141_144.out _; (with_reducible repeat (first | refine y0a ?_ _ | refine y09 ?_ | refine y06 ?_ _)); refine y0b ?_ NB141_144.out _; (with_reducible repeat (first | refine y0a ?_ _ | refine y09 ?_ | refine y06 ?_ _)); refine y0b ?_ NB141_144.out _; exact bk_ BK141.out⟩, ⟨by (with_reducible repeat (first | refine y0a ?_ _ | refine y09 ?_ | refine y06 ?_ _)); refine y0f (cs := #[.int .i64 (-1), .int .i64 0, .int .i64 0, .string (⟨#[]⟩ : ByteArray), .bool false]) ?_ 4 _ rfl; (with_reducible repeat (first | refine y0a ?_ _ | refine y09 ?_ | refine y06 ?_ _)); refine y0f (cs := #[.int .i64 (-1), .int .i64 0, .int .i64 0, .string (⟨#[]⟩ : ByteArray), .bool false]) ?_ 3 _ rfl; (with_reducible repeat (first | refine y0a ?_ _ | refine y09 ?_ | refine y06 ?_ _)); refine y0f (cs := #[.int .i64 (-1), .int .i64 0, .int .i64 0, .string (⟨#[]⟩ : ByteArray), .bool false]) ?_ 2 _ rfl; (with_reducible repeat (first | refine y0a ?_ _ | refine y09 ?_ | refine y06 ?_ _)); refine y0f (cs := #[.int .i64 (-1), .int .i64 0, .int .i64 0, .string (⟨#[]⟩ : ByteArray), .bool false]) ?_ 1 _ rfl; (with_reducible repeat (first | refine y0a ?_ _ | refine y09 ?_ | refine y06 ?_ _)); refine y0f (cs := #[.int .i64 0, .int .i64 0, .int .i64 0, .string (⟨#[]⟩ : ByteArray), .bool false]) ?_ 0 _ rfl; exact bk_ BK144.out⟩, ⟨hb_⟩⟩
     case round =>
      clear H'
      clear c23b0; clear c23b1; clear hcz24_0; clear hcz24_1; clear hcz24_2; clear hcz24_3; clear hcz24_4; clear hcz24_5; clear hcz27_0; clear hcz27_1; clear hcz27_2; clear hcz27_3; clear hcz27_4; clear hfz24_0; clear hfz24_1; clear hfz24_2; clear hfz24_3; clear hfz24_4; clear hfz24_5; clear hfz27_0; clear hfz27_1; clear hfz27_2; clear hfz27_3; clear hfz27_4
      obtain ⟨x5_3, x145000_3, x145001_3, x145002_3, x145003_3, x145004_3, rfl, HA, HK3, BK141, BK144, HB⟩ := hrel
      cases gk with
      | zero => exact absurd HA.out (by simp [zqh.l0])
      | succ k3 =>
       have H := HA.out
       clear HA
       simp only [zqh.l0] at H
       by_cases c28 : x5_3 < (l0_5.length : Int)
       rotate_left
       ·rw [if_neg c28] at H
        have c28b0 : decide (x5_3 < (l0_5.length : Int)) = false := decide_eq_false c28
        clear c28
        obtain rfl := Option.some.inj H
        have hnb42 := NB141_144.out
        have hnc42 := NB144_141.out
        obtain ⟨hcz43_0, hfz43_0, hcz43_1, hfz43_1, hcz43_2, hfz43_2, hcz43_3, hfz43_3, hcz43_4, hfz43_4, hcz43_5, hfz43_5⟩ := b6_ BK141.out
        go_wp2
        go_ret
        exact ⟨ew_, hb_⟩
       rw [if_pos c28] at H
       have c28b0 : decide (x5_3 < (l0_5.length : Int)) = true := decide_eq_true c28
       clear c28
       by_cases c29 : 0 ≤ x5_3
       rotate_left
       ·rw [if_neg c29] at H
        exact absurd H (by simp)
       rw [if_pos c29] at H
       have c29b0 : decide (0 ≤ x5_3) = true := decide_eq_true c29
       clear c29
       replace H := Option.bind_eq_some_iff.mp H
       obtain ⟨t146, A300, H⟩ := H
       (try dsimp only at H)
       have A30 := q_ A300
       clear A300
       by_cases c31 : t146 = 0
       rotate_left
       ·rw [if_neg c31] at H
        have c31b0 : (t146 == 0) = false := beq_eq_false_iff_ne.mpr c31
        have c31b1 : (t146 != 0) = true := bne_iff_ne.mpr c31
        obtain rfl := Option.some.inj H
        have hnb38 := NB141_144.out
        have hnc38 := NB144_141.out
        obtain ⟨hcz39_0, hfz39_0, hcz39_1, hfz39_1, hcz39_2, hfz39_2, hcz39_3, hfz39_3, hcz39_4, hfz39_4, hcz39_5, hfz39_5⟩ := b6_ BK141.out
        try go_wp2
        have n0_ := q_ (y09 BK141.out)
        have n1_ := q_ (y09 BK144.out)
        have n2_ := q_ (y02 HB.out)
        clear BK141 BK144 HB
        have BK141 := n0_; have BK144 := n1_; have HB := n2_
        clear n0_ n1_ n2_
        have p145 : 0 ≤ (x5_3 : Int) := oa_
        have q145 : x5_3 < (l0_5.length : Int) := oa_
        obtain ⟨ad145, e145, hx145_0, hx145_1, hx145_2, hx145_3, hx145_4⟩ := at_T43 HR0_5.out x5_3 p145 q145
        have hw145_4 := hx145_4
        have hw145_3 := hx145_3
        have hw145_2 := hx145_2
        have hw145_1 := hx145_1
        have hw145_0 := hx145_0
        cases e145
        replace hx145_0 := cb_ HB.out hx145_0
        replace hx145_1 := cb_ HB.out hx145_1
        replace hx145_2 := cb_ HB.out hx145_2
        replace hx145_3 := cb_ HB.out hx145_3
        replace hx145_4 := cb_ HB.out hx145_4
        replace p145 := eq_true p145
        replace q145 := eq_true q145
        refine start_ (n := 9) (S := fun w' => w'.cell? ⟨gb141, 0, none⟩ = some (.string a0_0) ∧ w'.cell? ⟨gb141, 1, none⟩ = some (.string a0_1) ∧ w'.cell? ⟨gb141, 2, none⟩ = some (.string a0_2) ∧ w'.cell? ⟨gb141, 3, none⟩ = some (.int .i64 a0_3) ∧ w'.cell? ⟨gb141, 4, none⟩ = some (.slice A0_4 l0_4.length c0_4) ∧ w'.cell? ⟨gb141, 5, none⟩ = some (.slice (some ad145) l0_5.length c0_5) ∧ w'.cell? ⟨gb144, 0, none⟩ = some (.int .i64 x145000_3) ∧ w'.cell? ⟨gb144, 1, none⟩ = some (.int .i64 x145001_3) ∧ w'.cell? ⟨gb144, 2, none⟩ = some (.int .i64 x145002_3) ∧ w'.cell? ⟨gb144, 3, none⟩ = some (.string x145003_3) ∧ w'.cell? ⟨gb144, 4, none⟩ = some (.bool x145004_3) ∧ w'.cell? (ad145.add ((x5_3).toNat * 5)) = some (.int .i64 ((y0r l0_5 x5_3).f0)) ∧ w'.cell? ⟨(ad145.add ((x5_3).toNat * 5)).block, (ad145.add ((x5_3).toNat * 5)).off + 1, none⟩ = some (.int .i64 ((y0r l0_5 x5_3).f1)) ∧ w'.cell? ⟨(ad145.add ((x5_3).toNat * 5)).block, (ad145.add ((x5_3).toNat * 5)).off + 2, none⟩ = some (.int .i64 ((y0r l0_5 x5_3).f2)) ∧ w'.cell? ⟨(ad145.add ((x5_3).toNat * 5)).block, (ad145.add ((x5_3).toNat * 5)).off + 3, none⟩ = some (.string ((y0r l0_5 x5_3).f3)) ∧ w'.cell? ⟨(ad145.add ((x5_3).toNat * 5)).block, (ad145.add ((x5_3).toNat * 5)).off + 4, none⟩ = some (.bool ((y0r l0_5 x5_3).f4))) (ds := []) #[false, false, false, false, false, false, false, false, false] (by kernel_rfl) rfl rfl ⟨(y08 BK141.out 0).trans rfl, (y08 BK141.out 1).trans rfl, (y08 BK141.out 2).trans rfl, (y08 BK141.out 3).trans rfl, (y08 BK141.out 4).trans rfl, (y08 BK141.out 5).trans rfl, (y08 BK144.out 0).trans rfl, (y08 BK144.out 1).trans rfl, (y08 BK144.out 2).trans rfl, (y08 BK144.out 3).trans rfl, (y08 BK144.out 4).trans rfl, ((HB.out.cell (World.block_lt_of_cell? w _ hw145_0)).trans hw145_0), ((HB.out.cell (World.block_lt_of_cell? w _ hw145_1)).trans hw145_1), ((HB.out.cell (World.block_lt_of_cell? w _ hw145_2)).trans hw145_2), ((HB.out.cell (World.block_lt_of_cell? w _ hw145_3)).trans hw145_3), ((HB.out.cell (World.block_lt_of_cell? w _ hw145_4)).trans hw145_4)⟩ (fun hHeld => ?_); refine with_tabW zqh.tab14 zqh.bits14 (fun HT_ HW_ => ?_)
        generalize wr.drew = w40 at BK141 BK144 HB hx145_0 hx145_1 hx145_2 hx145_3 hx145_4 hHeld ⊢
        refine pu_ 1 (some 62) (fl 9 2) rfl rfl HT_ ?_
        refine pu_ 3 (some 64) (fl 9 10) rfl rfl HT_ ?_
        refine ta_ 0 (some 61) (fl 9 11) rfl rfl HT_ HW_ hHeld ?_
        refine ta_ 2 (some 63) (fl 9 15) rfl rfl HT_ HW_ hHeld ?_
        refine pu_ 4 (some 65) (fl 9 31) rfl rfl HT_ ?_
        refine ta_ 5 (some 66) (fl 9 63) rfl rfl HT_ HW_ hHeld ?_
        refine ta_ 6 (some 67) (fl 9 127) rfl rfl HT_ HW_ hHeld ?_
        refine one_ (i := 7) (N := some 68) (fl 9 255) rfl rfl (y0p HT_.out (by kernel_rfl)) (by decide) (fun K hK => ?_)
        refine goes_ Try.func53 (by kernel_rfl) rfl #[.agg #[.string a0_0, .string a0_1, .string a0_2, .int .i64 a0_3, .slice A0_4 l0_4.length c0_4, .slice (some ad145) l0_5.length c0_5], .agg #[.int .i64 ((y0r l0_5 x5_3).f0), .int .i64 ((y0r l0_5 x5_3).f1), .int .i64 ((y0r l0_5 x5_3).f2), .string ((y0r l0_5 x5_3).f3), .bool ((y0r l0_5 x5_3).f4)], .agg #[.int .i64 x145000_3, .int .i64 x145001_3, .int .i64 x145002_3, .string x145003_3, .bool x145004_3]] (by rfl) rfl rfl ar_ ?_
        with_reducible refine (zqj.calls k3 a0_0 a0_1 a0_2 a0_3 _ _ l0_4 _ _ l0_5 ((y0r l0_5 x5_3).f0) ((y0r l0_5 x5_3).f1) ((y0r l0_5 x5_3).f2) ((y0r l0_5 x5_3).f3) ((y0r l0_5 x5_3).f4) x145000_3 x145001_3 x145002_3 x145003_3 x145004_3 t146 _ ?side1 ?side2 ?side3 ?side4 A30.out).mono ?_
        (case side1 => exact ck_ (Kd.C_below HR0_4.out HB.out))
        (case side2 => exact HC0_4.out)
        (case side3 => exact ck_ (Kd.C_below HR0_5.out HB.out))
        (case side4 => exact HC0_5.out)
        rintro e w41 ⟨rfl, hb⟩
        refine ⟨_, rfl, ?_⟩
        have n0_ := q_ (y07 (bk_ BK141.out) hb)
        have n1_ := q_ (y07 (bk_ BK144.out) hb)
        have n2_ := q_ (y05 hb_ hb)
        clear BK141 BK144 HB
        have BK141 := n0_; have BK144 := n1_; have HB := n2_
        clear n0_ n1_ n2_
        clear hb
        refine hK.out _ _ ⟨(y08 BK141.out 0).trans rfl, (y08 BK141.out 1).trans rfl, (y08 BK141.out 2).trans rfl, (y08 BK141.out 3).trans rfl, (y08 BK141.out 4).trans rfl, (y08 BK141.out 5).trans rfl, (y08 BK144.out 0).trans rfl, (y08 BK144.out 1).trans rfl, (y08 BK144.out 2).trans rfl, (y08 BK144.out 3).trans rfl, (y08 BK144.out 4).trans rfl, ((HB.out.cell (World.block_lt_of_cell? w _ hw145_0)).trans hw145_0), ((HB.out.cell (World.block_lt_of_cell? w _ hw145_1)).trans hw145_1), ((HB.out.cell (World.block_lt_of_cell? w _ hw145_2)).trans hw145_2), ((HB.out.cell (World.block_lt_of_cell? w _ hw145_3)).trans hw145_3), ((HB.out.cell (World.block_lt_of_cell? w _ hw145_4)).trans hw145_4)⟩ (fun hHeld => ?_)
        clear hK K
        refine no_ (N := some 68) ?_
        refine pu_ 8 (some 3) (fl 9 511) rfl rfl HT_ ?_
        refine done_ (done_of HT_.out (by kernel_rfl)) ?_
        try go_wp2
        go_ret
        exact ⟨ew_, hb_⟩
       rw [if_pos c31] at H
       have c31b0 : (t146 == 0) = true := beq_iff_eq.mpr c31
       have c31b1 : (t146 != 0) = false := bne_eq_false_iff_eq.mpr c31
       clear c31
       have H' := q_ H
       clear H
       have hnb32 := NB141_144.out
       have hnc32 := NB144_141.out
       obtain ⟨hcz33_0, hfz33_0, hcz33_1, hfz33_1, hcz33_2, hfz33_2, hcz33_3, hfz33_3, hcz33_4, hfz33_4, hcz33_5, hfz33_5⟩ := b6_ BK141.out
       try go_wp2
       have n0_ := q_ (y09 BK141.out)
       have n1_ := q_ (y09 BK144.out)
       have n2_ := q_ (y02 HB.out)
       clear BK141 BK144 HB
       have BK141 := n0_; have BK144 := n1_; have HB := n2_
       clear n0_ n1_ n2_
       have p145 : 0 ≤ (x5_3 : Int) := oa_
       have q145 : x5_3 < (l0_5.length : Int) := oa_
       obtain ⟨ad145, e145, hx145_0, hx145_1, hx145_2, hx145_3, hx145_4⟩ := at_T43 HR0_5.out x5_3 p145 q145
       have hw145_4 := hx145_4
       have hw145_3 := hx145_3
       have hw145_2 := hx145_2
       have hw145_1 := hx145_1
       have hw145_0 := hx145_0
       cases e145
       replace hx145_0 := cb_ HB.out hx145_0
       replace hx145_1 := cb_ HB.out hx145_1
       replace hx145_2 := cb_ HB.out hx145_2
       replace hx145_3 := cb_ HB.out hx145_3
       replace hx145_4 := cb_ HB.out hx145_4
       replace p145 := eq_true p145
       replace q145 := eq_true q145
       refine start_ (n := 9) (S := fun w' => w'.cell? ⟨gb141, 0, none⟩ = some (.string a0_0) ∧ w'.cell? ⟨gb141, 1, none⟩ = some (.string a0_1) ∧ w'.cell? ⟨gb141, 2, none⟩ = some (.string a0_2) ∧ w'.cell? ⟨gb141, 3, none⟩ = some (.int .i64 a0_3) ∧ w'.cell? ⟨gb141, 4, none⟩ = some (.slice A0_4 l0_4.length c0_4) ∧ w'.cell? ⟨gb141, 5, none⟩ = some (.slice (some ad145) l0_5.length c0_5) ∧ w'.cell? ⟨gb144, 0, none⟩ = some (.int .i64 x145000_3) ∧ w'.cell? ⟨gb144, 1, none⟩ = some (.int .i64 x145001_3) ∧ w'.cell? ⟨gb144, 2, none⟩ = some (.int .i64 x145002_3) ∧ w'.cell? ⟨gb144, 3, none⟩ = some (.string x145003_3) ∧ w'.cell? ⟨gb144, 4, none⟩ = some (.bool x145004_3) ∧ w'.cell? (ad145.add ((x5_3).toNat * 5)) = some (.int .i64 ((y0r l0_5 x5_3).f0)) ∧ w'.cell? ⟨(ad145.add ((x5_3).toNat * 5)).block, (ad145.add ((x5_3).toNat * 5)).off + 1, none⟩ = some (.int .i64 ((y0r l0_5 x5_3).f1)) ∧ w'.cell? ⟨(ad145.add ((x5_3).toNat * 5)).block, (ad145.add ((x5_3).toNat * 5)).off + 2, none⟩ = some (.int .i64 ((y0r l0_5 x5_3).f2)) ∧ w'.cell? ⟨(ad145.add ((x5_3).toNat * 5)).block, (ad145.add ((x5_3).toNat * 5)).off + 3, none⟩ = some (.string ((y0r l0_5 x5_3).f3)) ∧ w'.cell? ⟨(ad145.add ((x5_3).toNat * 5)).block, (ad145.add ((x5_3).toNat * 5)).off + 4, none⟩ = some (.bool ((y0r l0_5 x5_3).f4))) (ds := []) #[false, false, false, false, false, false, false, false, false] (by kernel_rfl) rfl rfl ⟨(y08 BK141.out 0).trans rfl, (y08 BK141.out 1).trans rfl, (y08 BK141.out 2).trans rfl, (y08 BK141.out 3).trans rfl, (y08 BK141.out 4).trans rfl, (y08 BK141.out 5).trans rfl, (y08 BK144.out 0).trans rfl, (y08 BK144.out 1).trans rfl, (y08 BK144.out 2).trans rfl, (y08 BK144.out 3).trans rfl, (y08 BK144.out 4).trans rfl, ((HB.out.cell (World.block_lt_of_cell? w _ hw145_0)).trans hw145_0), ((HB.out.cell (World.block_lt_of_cell? w _ hw145_1)).trans hw145_1), ((HB.out.cell (World.block_lt_of_cell? w _ hw145_2)).trans hw145_2), ((HB.out.cell (World.block_lt_of_cell? w _ hw145_3)).trans hw145_3), ((HB.out.cell (World.block_lt_of_cell? w _ hw145_4)).trans hw145_4)⟩ (fun hHeld => ?_); refine with_tabW zqh.tab14 zqh.bits14 (fun HT_ HW_ => ?_)
       generalize wr.drew = w34 at BK141 BK144 HB hx145_0 hx145_1 hx145_2 hx145_3 hx145_4 hHeld ⊢
       refine pu_ 1 (some 62) (fl 9 2) rfl rfl HT_ ?_
       refine pu_ 3 (some 64) (fl 9 10) rfl rfl HT_ ?_
       refine ta_ 0 (some 61) (fl 9 11) rfl rfl HT_ HW_ hHeld ?_
       refine ta_ 2 (some 63) (fl 9 15) rfl rfl HT_ HW_ hHeld ?_
       refine pu_ 4 (some 65) (fl 9 31) rfl rfl HT_ ?_
       refine ta_ 5 (some 66) (fl 9 63) rfl rfl HT_ HW_ hHeld ?_
       refine ta_ 6 (some 67) (fl 9 127) rfl rfl HT_ HW_ hHeld ?_
       refine one_ (i := 7) (N := some 68) (fl 9 255) rfl rfl (y0p HT_.out (by kernel_rfl)) (by decide) (fun K hK => ?_)
       refine goes_ Try.func53 (by kernel_rfl) rfl #[.agg #[.string a0_0, .string a0_1, .string a0_2, .int .i64 a0_3, .slice A0_4 l0_4.length c0_4, .slice (some ad145) l0_5.length c0_5], .agg #[.int .i64 ((y0r l0_5 x5_3).f0), .int .i64 ((y0r l0_5 x5_3).f1), .int .i64 ((y0r l0_5 x5_3).f2), .string ((y0r l0_5 x5_3).f3), .bool ((y0r l0_5 x5_3).f4)], .agg #[.int .i64 x145000_3, .int .i64 x145001_3, .int .i64 x145002_3, .string x145003_3, .bool x145004_3]] (by rfl) rfl rfl ar_ ?_
       with_reducible refine (zqj.calls k3 a0_0 a0_1 a0_2 a0_3 _ _ l0_4 _ _ l0_5 ((y0r l0_5 x5_3).f0) ((y0r l0_5 x5_3).f1) ((y0r l0_5 x5_3).f2) ((y0r l0_5 x5_3).f3) ((y0r l0_5 x5_3).f4) x145000_3 x145001_3 x145002_3 x145003_3 x145004_3 t146 _ ?side1 ?side2 ?side3 ?side4 A30.out).mono ?_
       (case side1 => exact ck_ (Kd.C_below HR0_4.out HB.out))
       (case side2 => exact HC0_4.out)
       (case side3 => exact ck_ (Kd.C_below HR0_5.out HB.out))
       (case side4 => exact HC0_5.out)
       rintro e w35 ⟨rfl, hb⟩
       refine ⟨_, rfl, ?_⟩
       have n0_ := q_ (y07 (bk_ BK141.out) hb)
       have n1_ := q_ (y07 (bk_ BK144.out) hb)
       have n2_ := q_ (y05 hb_ hb)
       clear BK141 BK144 HB
       have BK141 := n0_; have BK144 := n1_; have HB := n2_
       clear n0_ n1_ n2_
       clear hb
       refine hK.out _ _ ⟨(y08 BK141.out 0).trans rfl, (y08 BK141.out 1).trans rfl, (y08 BK141.out 2).trans rfl, (y08 BK141.out 3).trans rfl, (y08 BK141.out 4).trans rfl, (y08 BK141.out 5).trans rfl, (y08 BK144.out 0).trans rfl, (y08 BK144.out 1).trans rfl, (y08 BK144.out 2).trans rfl, (y08 BK144.out 3).trans rfl, (y08 BK144.out 4).trans rfl, ((HB.out.cell (World.block_lt_of_cell? w _ hw145_0)).trans hw145_0), ((HB.out.cell (World.block_lt_of_cell? w _ hw145_1)).trans hw145_1), ((HB.out.cell (World.block_lt_of_cell? w _ hw145_2)).trans hw145_2), ((HB.out.cell (World.block_lt_of_cell? w _ hw145_3)).trans hw145_3), ((HB.out.cell (World.block_lt_of_cell? w _ hw145_4)).trans hw145_4)⟩ (fun hHeld => ?_)
       clear hK K
       refine no_ (N := some 68) ?_
       refine pu_ 8 (some 3) (fl 9 511) rfl rfl HT_ ?_
       refine done_ (done_of HT_.out (by kernel_rfl)) ?_
       obtain ⟨hcz36_0, hfz36_0, hcz36_1, hfz36_1, hcz36_2, hfz36_2, hcz36_3, hfz36_3, hcz36_4, hfz36_4, hcz36_5, hfz36_5⟩ := b6_ BK141.out
       have p147 : 0 ≤ (x5_3 : Int) := oa_
       have q147 : x5_3 < (l0_5.length : Int) := oa_
       obtain ⟨ad147, e147, hx147_0, hx147_1, hx147_2, hx147_3, hx147_4⟩ := at_T43 HR0_5.out x5_3 p147 q147
       obtain rfl : ad145 = ad147 := (by injection e147)
       replace hx147_0 := cb_ HB.out hx147_0
       replace hx147_1 := cb_ HB.out hx147_1
       replace hx147_2 := cb_ HB.out hx147_2
       replace hx147_3 := cb_ HB.out hx147_3
       replace hx147_4 := cb_ HB.out hx147_4
       replace p147 := eq_true p147
       replace q147 := eq_true q147
       obtain ⟨hcz37_0, hfz37_0, hcz37_1, hfz37_1, hcz37_2, hfz37_2, hcz37_3, hfz37_3, hcz37_4, hfz37_4⟩ := b5_ BK144.out
       try go_wp2
       go_roundg k3
       case measure => have := HJ3.out; have := HJ16.out; have := HK3.out; omega
       case rel => exact ⟨(wrap64 (x5_3 + 1)), ((y0r l0_5 x5_3).f0), ((y0r l0_5 x5_3).f1), ((y0r l0_5 x5_3).f2), ((y0r l0_5 x5_3).f3), ((y0r l0_5 x5_3).f4), cl_, H', ⟨by have := HJ3.out; have := HJ16.out; have := HK3.out; omega⟩, ⟨by (with_reducible repeat (first | refine y0a ?_ _ | refine y09 ?_ | refine y06 ?_ _)); refine y0b ?_ NB141_144.out _; (with_reducible repeat (first | refine y0a ?_ _ | refine y09 ?_ | refine y06 ?_ _)); refine y0b ?_ NB141_144.out _; (with_reducible repeat (first | refine y0a ?_ _ | refine y09 ?_ | refine y06 ?_ _)); refine y0b ?_ NB141_144.out _; (with_reducible repeat (first | refine y0a ?_ _ | refine y09 ?_ | refine y06 ?_ _)); refine y0b ?_ NB141_144.out _; (with_reducible repeat (first | refine y0a ?_ _ | refine y09 ?_ | refine y06 ?_ _)); refine y0b ?_ NB141_144.out _; exact bk_ BK141.out⟩, ⟨by (with_reducible repeat (first | refine y0a ?_ _ | refine y09 ?_ | refine y06 ?_ _)); refine y0f (cs := #[.int .i64 ((y0r l0_5 x5_3).f0), .int .i64 ((y0r l0_5 x5_3).f1), .int .i64 ((y0r l0_5 x5_3).f2), .string ((y0r l0_5 x5_3).f3), .bool x145004_3]) ?_ 4 _ rfl; (with_reducible repeat (first | refine y0a ?_ _ | refine y09 ?_ | refine y06 ?_ _)); refine y0f (cs := #[.int .i64 ((y0r l0_5 x5_3).f0), .int .i64 ((y0r l0_5 x5_3).f1), .int .i64 ((y0r l0_5 x5_3).f2), .string x145003_3, .bool x145004_3]) ?_ 3 _ rfl; (with_reducible repeat (first | refine y0a ?_ _ | refine y09 ?_ | refine y06 ?_ _)); refine y0f (cs := #[.int .i64 ((y0r l0_5 x5_3).f0), .int .i64 ((y0r l0_5 x5_3).f1), .int .i64 x145002_3, .string x145003_3, .bool x145004_3]) ?_ 2 _ rfl; (with_reducible repeat (first | refine y0a ?_ _ | refine y09 ?_ | refine y06 ?_ _)); refine y0f (cs := #[.int .i64 ((y0r l0_5 x5_3).f0), .int .i64 x145001_3, .int .i64 x145002_3, .string x145003_3, .bool x145004_3]) ?_ 1 _ rfl; (with_reducible repeat (first | refine y0a ?_ _ | refine y09 ?_ | refine y06 ?_ _)); refine y0f (cs := #[.int .i64 x145000_3, .int .i64 x145001_3, .int .i64 x145002_3, .string x145003_3, .bool x145004_3]) ?_ 0 _ rfl; exact bk_ BK144.out⟩, ⟨hb_⟩⟩
end Go.Proofs.Ytenlmckahaniiaa.K
end
section
namespace Go.Proofs.Ytenlmckahaniiaa.K
open Go.RowKit Go.Proofs.YtenlmckahaniiaaW.PrintWords Go.Proofs.YtenlmckahaniiaaW.PrintLast
mutual
def zqk.l0 : Nat → List (S25) → Int → Option (Int)
  | 0, _, _ => none
  | k + 1, x0, x3 => if x3 < (x0.length : Int) then (if 0 ≤ x3 then ((zqh.f k ((y0q x0 x3).f0) ((y0q x0 x3).f1) ((y0q x0 x3).f2) ((y0q x0 x3).f3) ((y0q x0 x3).f4) ((y0q x0 x3).f5)).bind fun t703 => (if t703 = 0 then (zqk.l1 k x0 x3 0) else (some t703))) else (none)) else (some 0)
def zqk.l1 : Nat → List (S25) → Int → Int → Option (Int)
  | 0, _, _, _ => none
  | k + 1, x0, x3, x5 => if x5 < x3 then (if 0 ≤ x5 then (if x5 < (x0.length : Int) then (if 0 ≤ x3 then (if x3 < (x0.length : Int) then (if ((y0q x0 x5).f0).toList = ((y0q x0 x3).f0).toList then (some 6) else (zqk.l1 k x0 x3 (wrap64 (x5 + 1)))) else (none)) else (none)) else (none)) else (none)) else (zqk.l0 k x0 (wrap64 (x3 + 1)))
end
def zqk.f (k : Nat) (l0 : List (S25)) : Option (Int) := if (l0.length : Int) > 32 then (some 12) else (zqk.l0 k l0 0)
theorem zqk.calls (k : Nat) (A0 : Option Addr) (c0 : Nat) (l0 : List (S25)) (r : Int) (w : World) (hr0 : Kd.C k25 w A0 l0.length l0) (hc0 : l0.length ≤ c0) (h : zqk.f k l0 = some r) :
  Calls Try.prog 35 #[.slice A0 l0.length c0] w fun e w' => e = .returned (.int .i64 r) ∧ Below w.heap.size w w' := by
 have hu25 := Try.underlying25
 have HR0 := q_ hr0
 have HC0 := q_ hc0
 clear hr0 hc0
 have HB := q_ (Below.refl w.heap.size w)
 have H : (if (l0.length : Int) > 32 then (some 12) else (zqk.l0 k l0 0)) = some r := h
 clear h
 by_cases c2 : (l0.length : Int) > 32
 ·rw [if_pos c2] at H
  have c2b0 : decide (32 < (l0.length : Int)) = true := decide_eq_true c2
  have c2b1 : decide (32 < l0.length) = true := decide_eq_true (by omega)
  clear c2
  obtain rfl := Option.some.inj H
  go_enter Try.func35, Try.ntmps35
  go_wp2
  repeat (go_quiet (fail); try go_wp2)
  go_ret
  exact ⟨ew_, hb_⟩
 rw [if_neg c2] at H
 have c2b0 : decide (32 < (l0.length : Int)) = false := decide_eq_false c2
 have c2b1 : decide (32 < l0.length) = false := decide_eq_false (by omega)
 clear c2
 have H' := q_ H
 clear H
 go_enter Try.func35, Try.ntmps35
 go_wp2
 repeat (go_quiet (fail); try go_wp2)
 go_loopg [3] k (fun kq v3 w' => ∃ (x3_1 : Int), v3 = .int .i64 x3_1 ∧ Aside0 (zqk.l0 kq l0 x3_1 = some r) ∧ Aside0 (kq ≤ k) ∧ Aside0 (Below w.heap.size w w'))
 case atStart => exact ⟨(0), cl_, H', ⟨Nat.le_refl _⟩, ⟨hb_⟩⟩
 case round =>
  clear H'
  clear c2b0; clear c2b1
  obtain ⟨x3_1, rfl, HA, HK1, HB⟩ := hrel
  cases gk with
  | zero => exact absurd HA.out (by simp [zqk.l0])
  | succ k1 =>
   have H := HA.out
   clear HA
   simp only [zqk.l0] at H
   by_cases c3 : x3_1 < (l0.length : Int)
   rotate_left
   ·rw [if_neg c3] at H
    have c3b0 : decide (x3_1 < (l0.length : Int)) = false := decide_eq_false c3
    clear c3
    obtain rfl := Option.some.inj H
    go_wp2
    repeat (go_quiet (fail); try go_wp2)
    go_ret
    exact ⟨ew_, hb_⟩
   rw [if_pos c3] at H
   have c3b0 : decide (x3_1 < (l0.length : Int)) = true := decide_eq_true c3
   clear c3
   by_cases c4 : 0 ≤ x3_1
   rotate_left
   ·rw [if_neg c4] at H
    exact absurd H (by simp)
   rw [if_pos c4] at H
   have c4b0 : decide (0 ≤ x3_1) = true := decide_eq_true c4
   clear c4
   replace H := Option.bind_eq_some_iff.mp H
   obtain ⟨t703, A50, H⟩ := H
   (try dsimp only at H)
   have A5 := q_ A50
   clear A50
   by_cases c6 : t703 = 0
   rotate_left
   ·rw [if_neg c6] at H
    have c6b0 : (t703 == 0) = false := beq_eq_false_iff_ne.mpr c6
    have c6b1 : (t703 != 0) = true := bne_iff_ne.mpr c6
    obtain rfl := Option.some.inj H
    have p702 : 0 ≤ (x3_1 : Int) := oa_
    have q702 : x3_1 < (l0.length : Int) := oa_
    obtain ⟨ad702, A702_4, c702_4, A702_5, c702_5, e702, hx702_0, hx702_1, hx702_2, hx702_3, hx702_4, hx702_5, hl702_4, hi702_4, hl702_5, hi702_5⟩ := at_T25 HR0.out x3_1 p702 q702
    cases e702
    replace hx702_0 := cb_ HB.out hx702_0
    replace hx702_1 := cb_ HB.out hx702_1
    replace hx702_2 := cb_ HB.out hx702_2
    replace hx702_3 := cb_ HB.out hx702_3
    replace hx702_4 := cb_ HB.out hx702_4
    replace hx702_5 := cb_ HB.out hx702_5
    have HR702_4 := q_ hi702_4
    have HC702_4 := q_ hl702_4
    clear hi702_4 hl702_4
    have HR702_5 := q_ hi702_5
    have HC702_5 := q_ hl702_5
    clear hi702_5 hl702_5
    replace p702 := eq_true p702
    replace q702 := eq_true q702
    go_wp2_with (first | (go_at_call 19; (with_reducible refine (zqh.calls k1 ((y0q l0 x3_1).f0) ((y0q l0 x3_1).f1) ((y0q l0 x3_1).f2) ((y0q l0 x3_1).f3) _ _ ((y0q l0 x3_1).f4) _ _ ((y0q l0 x3_1).f5) t703 _ ?side1 ?side2 ?side3 ?side4 A5.out).mono ?_); (case side1 => exact ck_ (Kd.C_below HR702_4.out HB.out)); (case side2 => exact HC702_4.out); (case side3 => exact ck_ (Kd.C_below HR702_5.out HB.out)); (case side4 => exact HC702_5.out); rintro e w14 ⟨rfl, hb⟩; have n0_ := q_ (y05 hb_ hb); clear HB; have HB := n0_; clear n0_; clear hb))
    repeat (go_quiet (first | (go_at_call 19; (with_reducible refine (zqh.calls k1 ((y0q l0 x3_1).f0) ((y0q l0 x3_1).f1) ((y0q l0 x3_1).f2) ((y0q l0 x3_1).f3) _ _ ((y0q l0 x3_1).f4) _ _ ((y0q l0 x3_1).f5) t703 _ ?side1 ?side2 ?side3 ?side4 A5.out).mono ?_); (case side1 => exact ck_ (Kd.C_below HR702_4.out HB.out)); (case side2 => exact HC702_4.out); (case side3 => exact ck_ (Kd.C_below HR702_5.out HB.out)); (case side4 => exact HC702_5.out); rintro e w14 ⟨rfl, hb⟩; have n0_ := q_ (y05 hb_ hb); clear HB; have HB := n0_; clear n0_; (try clear hb); (try clear hb2); (try clear hk); (try clear hi))); try go_wp2_with (first | (go_at_call 19; (with_reducible refine (zqh.calls k1 ((y0q l0 x3_1).f0) ((y0q l0 x3_1).f1) ((y0q l0 x3_1).f2) ((y0q l0 x3_1).f3) _ _ ((y0q l0 x3_1).f4) _ _ ((y0q l0 x3_1).f5) t703 _ ?side1 ?side2 ?side3 ?side4 A5.out).mono ?_); (case side1 => exact ck_ (Kd.C_below HR702_4.out HB.out)); (case side2 => exact HC702_4.out); (case side3 => exact ck_ (Kd.C_below HR702_5.out HB.out)); (case side4 => exact HC702_5.out); rintro e w14 ⟨rfl, hb⟩; have n0_ := q_ (y05 hb_ hb); clear HB; have HB := n0_; clear n0_; (try clear hb); (try clear hb2); (try clear hk); (try clear hi))))
    go_ret
    exact ⟨ew_, hb_⟩
   rw [if_pos c6] at H
   have c6b0 : (t703 == 0) = true := beq_iff_eq.mpr c6
   have c6b1 : (t703 != 0) = false := bne_eq_false_iff_eq.mpr c6
   clear c6
   have H' := q_ H
   clear H
   have p702 : 0 ≤ (x3_1 : Int) := oa_
   have q702 : x3_1 < (l0.length : Int) := oa_
   obtain ⟨ad702, A702_4, c702_4, A702_5, c702_5, e702, hx702_0, hx702_1, hx702_2, hx702_3, hx702_4, hx702_5, hl702_4, hi702_4, hl702_5, hi702_5⟩ := at_T25 HR0.out x3_1 p702 q702
   cases e702
   replace hx702_0 := cb_ HB.out hx702_0
   replace hx702_1 := cb_ HB.out hx702_1
   replace hx702_2 := cb_ HB.out hx702_2
   replace hx702_3 := cb_ HB.out hx702_3
   replace hx702_4 := cb_ HB.out hx702_4
   replace hx702_5 := cb_ HB.out hx702_5
   have HR702_4 := q_ hi702_4
   have HC702_4 := q_ hl702_4
   clear hi702_4 hl702_4
   have HR702_5 := q_ hi702_5
   have HC702_5 := q_ hl702_5
   clear hi702_5 hl702_5
   replace p702 := eq_true p702
   replace q702 := eq_true q702
   go_wp2_with (first | (go_at_call 19; (with_reducible refine (zqh.calls k1 ((y0q l0 x3_1).f0) ((y0q l0 x3_1).f1) ((y0q l0 x3_1).f2) ((y0q l0 x3_1).f3) _ _ ((y0q l0 x3_1).f4) _ _ ((y0q l0 x3_1).f5) t703 _ ?side1 ?side2 ?side3 ?side4 A5.out).mono ?_); (case side1 => exact ck_ (Kd.C_below HR702_4.out HB.out)); (case side2 => exact HC702_4.out); (case side3 => exact ck_ (Kd.C_below HR702_5.out HB.out)); (case side4 => exact HC702_5.out); rintro e w7 ⟨rfl, hb⟩; have n0_ := q_ (y05 hb_ hb); clear HB; have HB := n0_; clear n0_; clear hb))
   repeat (go_quiet (first | (go_at_call 19; (with_reducible refine (zqh.calls k1 ((y0q l0 x3_1).f0) ((y0q l0 x3_1).f1) ((y0q l0 x3_1).f2) ((y0q l0 x3_1).f3) _ _ ((y0q l0 x3_1).f4) _ _ ((y0q l0 x3_1).f5) t703 _ ?side1 ?side2 ?side3 ?side4 A5.out).mono ?_); (case side1 => exact ck_ (Kd.C_below HR702_4.out HB.out)); (case side2 => exact HC702_4.out); (case side3 => exact ck_ (Kd.C_below HR702_5.out HB.out)); (case side4 => exact HC702_5.out); rintro e w7 ⟨rfl, hb⟩; have n0_ := q_ (y05 hb_ hb); clear HB; have HB := n0_; clear n0_; (try clear hb); (try clear hb2); (try clear hk); (try clear hi))); try go_wp2_with (first | (go_at_call 19; (with_reducible refine (zqh.calls k1 ((y0q l0 x3_1).f0) ((y0q l0 x3_1).f1) ((y0q l0 x3_1).f2) ((y0q l0 x3_1).f3) _ _ ((y0q l0 x3_1).f4) _ _ ((y0q l0 x3_1).f5) t703 _ ?side1 ?side2 ?side3 ?side4 A5.out).mono ?_); (case side1 => exact ck_ (Kd.C_below HR702_4.out HB.out)); (case side2 => exact HC702_4.out); (case side3 => exact ck_ (Kd.C_below HR702_5.out HB.out)); (case side4 => exact HC702_5.out); rintro e w7 ⟨rfl, hb⟩; have n0_ := q_ (y05 hb_ hb); clear HB; have HB := n0_; clear n0_; (try clear hb); (try clear hb2); (try clear hk); (try clear hi))))
   go_loopg [5] k1 (fun kq v5 w' => ∃ (x5_2 : Int), v5 = .int .i64 x5_2 ∧ Aside0 (zqk.l1 kq l0 x3_1 x5_2 = some r) ∧ Aside0 (kq ≤ k1) ∧ Aside0 (Below w.heap.size w w'))
   case atStart => exact ⟨(0), cl_, H', ⟨Nat.le_refl _⟩, ⟨hb_⟩⟩
   case round =>
    clear H'
    clear c3b0; clear c4b0; clear c6b0; clear c6b1; clear hx702_0; clear hx702_1; clear hx702_2; clear hx702_3; clear hx702_4; clear hx702_5; clear p702; clear q702
    obtain ⟨x5_2, rfl, HA, HK2, HB⟩ := hrel
    cases gk with
    | zero => exact absurd HA.out (by simp [zqk.l1])
    | succ k2 =>
     have H := HA.out
     clear HA
     simp only [zqk.l1] at H
     by_cases c8 : x5_2 < x3_1
     rotate_left
     ·rw [if_neg c8] at H
      have c8b0 : decide (x5_2 < x3_1) = false := decide_eq_false c8
      clear c8
      have H' := q_ H
      clear H
      go_wp2
      repeat (go_quiet (fail); try go_wp2)
      go_roundg k2
      case measure => have := HK1.out; have := HK2.out; omega
      case rel => exact ⟨(wrap64 (x3_1 + 1)), cl_, H', ⟨by have := HK1.out; have := HK2.out; omega⟩, ⟨hb_⟩⟩
     rw [if_pos c8] at H
     have c8b0 : decide (x5_2 < x3_1) = true := decide_eq_true c8
     clear c8
     by_cases c9 : 0 ≤ x5_2
     rotate_left
     ·rw [if_neg c9] at H
      exact absurd H (by simp)
     rw [if_pos c9] at H
     have c9b0 : decide (0 ≤ x5_2) = true := decide_eq_true c9
     clear c9
     by_cases c10 : x5_2 < (l0.length : Int)
     rotate_left
     ·rw [if_neg c10] at H
      exact absurd H (by simp)
     rw [if_pos c10] at H
     have c10b0 : decide (x5_2 < (l0.length : Int)) = true := decide_eq_true c10
     clear c10
     by_cases c11 : 0 ≤ x3_1
     rotate_left
     ·rw [if_neg c11] at H
      exact absurd H (by simp)
     rw [if_pos c11] at H
     have c11b0 : decide (0 ≤ x3_1) = true := decide_eq_true c11
     clear c11
     by_cases c12 : x3_1 < (l0.length : Int)
     rotate_left
     ·rw [if_neg c12] at H
      exact absurd H (by simp)
     rw [if_pos c12] at H
     have c12b0 : decide (x3_1 < (l0.length : Int)) = true := decide_eq_true c12
     clear c12
     by_cases c13 : ((y0q l0 x5_2).f0).toList = ((y0q l0 x3_1).f0).toList
     ·rw [if_pos c13] at H
      have c13b0 : (((y0q l0 x5_2).f0).toList == ((y0q l0 x3_1).f0).toList) = true := beq_iff_eq.mpr c13
      have c13b1 : (((y0q l0 x5_2).f0).toList != ((y0q l0 x3_1).f0).toList) = false := bne_eq_false_iff_eq.mpr c13
      clear c13
      obtain rfl := Option.some.inj H
      have p704 : 0 ≤ (x5_2 : Int) := oa_
      have q704 : x5_2 < (l0.length : Int) := oa_
      obtain ⟨ad704, A704_4, c704_4, A704_5, c704_5, e704, hx704_0, hx704_1, hx704_2, hx704_3, hx704_4, hx704_5, hl704_4, hi704_4, hl704_5, hi704_5⟩ := at_T25 HR0.out x5_2 p704 q704
      obtain rfl : ad702 = ad704 := (by injection e704)
      replace hx704_0 := cb_ HB.out hx704_0
      replace hx704_1 := cb_ HB.out hx704_1
      replace hx704_2 := cb_ HB.out hx704_2
      replace hx704_3 := cb_ HB.out hx704_3
      replace hx704_4 := cb_ HB.out hx704_4
      replace hx704_5 := cb_ HB.out hx704_5
      have HR704_4 := q_ hi704_4
      have HC704_4 := q_ hl704_4
      clear hi704_4 hl704_4
      have HR704_5 := q_ hi704_5
      have HC704_5 := q_ hl704_5
      clear hi704_5 hl704_5
      replace p704 := eq_true p704
      replace q704 := eq_true q704
      have p705 : 0 ≤ (x3_1 : Int) := oa_
      have q705 : x3_1 < (l0.length : Int) := oa_
      obtain ⟨ad705, A705_4, c705_4, A705_5, c705_5, e705, hx705_0, hx705_1, hx705_2, hx705_3, hx705_4, hx705_5, hl705_4, hi705_4, hl705_5, hi705_5⟩ := at_T25 HR0.out x3_1 p705 q705
      obtain rfl : ad702 = ad705 := (by injection e705)
      replace hx705_0 := cb_ HB.out hx705_0
      replace hx705_1 := cb_ HB.out hx705_1
      replace hx705_2 := cb_ HB.out hx705_2
      replace hx705_3 := cb_ HB.out hx705_3
      replace hx705_4 := cb_ HB.out hx705_4
      replace hx705_5 := cb_ HB.out hx705_5
      have HR705_4 := q_ hi705_4
      have HC705_4 := q_ hl705_4
      clear hi705_4 hl705_4
      have HR705_5 := q_ hi705_5
      have HC705_5 := q_ hl705_5
      clear hi705_5 hl705_5
      replace p705 := eq_true p705
      replace q705 := eq_true q705
      go_wp2
      repeat (go_quiet (fail); try go_wp2)
      go_ret
      exact ⟨ew_, hb_⟩
     rw [if_neg c13] at H
     have c13b0 : (((y0q l0 x5_2).f0).toList == ((y0q l0 x3_1).f0).toList) = false := beq_eq_false_iff_ne.mpr c13
     have c13b1 : (((y0q l0 x5_2).f0).toList != ((y0q l0 x3_1).f0).toList) = true := bne_iff_ne.mpr c13
     have H' := q_ H
     clear H
     have p704 : 0 ≤ (x5_2 : Int) := oa_
     have q704 : x5_2 < (l0.length : Int) := oa_
     obtain ⟨ad704, A704_4, c704_4, A704_5, c704_5, e704, hx704_0, hx704_1, hx704_2, hx704_3, hx704_4, hx704_5, hl704_4, hi704_4, hl704_5, hi704_5⟩ := at_T25 HR0.out x5_2 p704 q704
     obtain rfl : ad702 = ad704 := (by injection e704)
     replace hx704_0 := cb_ HB.out hx704_0
     replace hx704_1 := cb_ HB.out hx704_1
     replace hx704_2 := cb_ HB.out hx704_2
     replace hx704_3 := cb_ HB.out hx704_3
     replace hx704_4 := cb_ HB.out hx704_4
     replace hx704_5 := cb_ HB.out hx704_5
     have HR704_4 := q_ hi704_4
     have HC704_4 := q_ hl704_4
     clear hi704_4 hl704_4
     have HR704_5 := q_ hi704_5
     have HC704_5 := q_ hl704_5
     clear hi704_5 hl704_5
     replace p704 := eq_true p704
     replace q704 := eq_true q704
     have p705 : 0 ≤ (x3_1 : Int) := oa_
     have q705 : x3_1 < (l0.length : Int) := oa_
     obtain ⟨ad705, A705_4, c705_4, A705_5, c705_5, e705, hx705_0, hx705_1, hx705_2, hx705_3, hx705_4, hx705_5, hl705_4, hi705_4, hl705_5, hi705_5⟩ := at_T25 HR0.out x3_1 p705 q705
     obtain rfl : ad702 = ad705 := (by injection e705)
     replace hx705_0 := cb_ HB.out hx705_0
     replace hx705_1 := cb_ HB.out hx705_1
     replace hx705_2 := cb_ HB.out hx705_2
     replace hx705_3 := cb_ HB.out hx705_3
     replace hx705_4 := cb_ HB.out hx705_4
     replace hx705_5 := cb_ HB.out hx705_5
     have HR705_4 := q_ hi705_4
     have HC705_4 := q_ hl705_4
     clear hi705_4 hl705_4
     have HR705_5 := q_ hi705_5
     have HC705_5 := q_ hl705_5
     clear hi705_5 hl705_5
     replace p705 := eq_true p705
     replace q705 := eq_true q705
     go_wp2
     repeat (go_quiet (fail); try go_wp2)
     go_roundg k2
     case measure => have := HK1.out; have := HK2.out; omega
     case rel => exact ⟨(wrap64 (x5_2 + 1)), cl_, H', ⟨by have := HK1.out; have := HK2.out; omega⟩, ⟨hb_⟩⟩
end Go.Proofs.Ytenlmckahaniiaa.K
end
section
namespace Go.Proofs.Ytenlmckahaniiaa.K
open Go.RowKit Go.Proofs.YtenlmckahaniiaaW.PrintWords Go.Proofs.YtenlmckahaniiaaW.PrintLast
attribute [local go_sem high] eqA43 eqA62
end Go.Proofs.Ytenlmckahaniiaa.K
end
