/- Lemmas for several laws: what their proofs need of this seat's texts, in one place. -/
import Derived.Shelf.Slices.CompactS
import Derived.Shelf.Slices.In.SortNone
import Derived.Shelf.Small.Strs
import Derived.Shelf.Sort.Plain
import Derived.Shelf.Strings.Builder1
import Derived.Shelf.Strings.Search1
import Derived.Test.YtenlmckahaniiaaZcLess3
set_option linter.unusedVariables false
set_option linter.unusedSimpArgs false
set_option linter.unusedSectionVars false
set_option maxHeartbeats 8000000
set_option maxRecDepth 100000
section
namespace Go.Proofs.Ytenlmckahaniiaa.K
open Go.RowKit Go.Proofs.YtenlmckahaniiaaW.PrintWords Go.Proofs.YtenlmckahaniiaaW.PrintLast
mutual
def zqo.j0 : Nat → Bool → ByteArray → ByteArray → ByteArray → Int → List (S62) → List (S43) → Option (Int)
  | 0, _, _, _, _, _, _, _ => none
  | k + 1, x13, x123000, x123001, x123002, x123003, x123004, x123005 => if x13 = true then (some 7) else (if ((x123001.size : Int) % 2) = 0 then (if x123003 < 0 then (some 1) else ((zq8.f k x123004).bind fun t124 => (if t124 = 0 then (zqo.l0 k x123005 (x123005.length : Int) 0 x123000 x123001 x123002 x123003 x123004 x123005 (-1) 0 0 (⟨#[]⟩ : ByteArray) false) else (some t124)))) else (some 1))
def zqo.l0 : Nat → List (S43) → Int → Int → ByteArray → ByteArray → ByteArray → Int → List (S62) → List (S43) → Int → Int → Int → ByteArray → Bool → Option (Int)
  | 0, _, _, _, _, _, _, _, _, _, _, _, _, _, _ => none
  | k + 1, x60, x61, x62, x123000, x123001, x123002, x123003, x123004, x123005, x126000, x126001, x126002, x126003, x126004 => if x62 < x61 then (if 0 ≤ x62 then (if x62 < (x60.length : Int) then ((zqf.f k x123000 x123001 x123002 x123003 x123004 x123005 ((y0l x60 x62).f0) ((y0l x60 x62).f1) ((y0l x60 x62).f2) ((y0l x60 x62).f3) ((y0l x60 x62).f4) x126000 x126001 x126002 x126003 x126004).bind fun t128 => (if t128 = 0 then (zqo.l0 k x60 x61 (wrap64 (x62 + 1)) x123000 x123001 x123002 x123003 x123004 x123005 ((y0l x60 x62).f0) ((y0l x60 x62).f1) ((y0l x60 x62).f2) ((y0l x60 x62).f3) ((y0l x60 x62).f4)) else (some t128))) else (none)) else (none)) else (some 0)
end
def zqo.f (k : Nat) (a0_0 : ByteArray) (a0_1 : ByteArray) (a0_2 : ByteArray) (a0_3 : Int) (l0_4 : List (S62)) (l0_5 : List (S43)) : Option (Int) := (zql.f k a0_0).bind fun t123 => (if t123 = true then (if (a0_1.size : Int) > 16384 then (zqo.j0 k true a0_0 a0_1 a0_2 a0_3 l0_4 l0_5) else (if (a0_2.size : Int) > 16384 then (zqo.j0 k true a0_0 a0_1 a0_2 a0_3 l0_4 l0_5) else (if a0_3 > 16384 then (zqo.j0 k true a0_0 a0_1 a0_2 a0_3 l0_4 l0_5) else (if (l0_4.length : Int) > 256 then (zqo.j0 k true a0_0 a0_1 a0_2 a0_3 l0_4 l0_5) else (zqo.j0 k (decide ((l0_5.length : Int) > 2048)) a0_0 a0_1 a0_2 a0_3 l0_4 l0_5))))) else (some 4))
theorem zqo.mono_l : ∀ k, (∀ y0 y1 y2 y3 y4 y5 y6, LeO (zqo.j0 k y0 y1 y2 y3 y4 y5 y6) (zqo.j0 (k + 1) y0 y1 y2 y3 y4 y5 y6)) ∧ (∀ y0 y1 y2 y3 y4 y5 y6 y7 y8 y9 y10 y11 y12 y13, LeO (zqo.l0 k y0 y1 y2 y3 y4 y5 y6 y7 y8 y9 y10 y11 y12 y13) (zqo.l0 (k + 1) y0 y1 y2 y3 y4 y5 y6 y7 y8 y9 y10 y11 y12 y13))
 | 0 => ⟨fun _ _ _ _ _ _ _ r h => by simp [zqo.j0] at h, fun _ _ _ _ _ _ _ _ _ _ _ _ _ _ r h => by simp [zqo.l0] at h⟩
 | k + 1 => by
  obtain ⟨ih0, ih1⟩ := zqo.mono_l k
  refine ⟨?_, ?_⟩
  ·intro y0 y1 y2 y3 y4 y5 y6
   unfold zqo.j0
   repeat' first
   | (with_reducible exact ih0 _ _ _ _ _ _ _)
   | (with_reducible exact ih1 _ _ _ _ _ _ _ _ _ _ _ _ _ _)
   | (with_reducible exact zqf.mono _ _ _ _ _ _ _ _ _ _ _ _ _ _ _ _ _)
   | (with_reducible exact zq8.mono _ _)
   | (with_reducible exact zql.mono _ _)
   | (with_reducible exact LeO.refl _)
   | (with_reducible exact LeO.none _)
   | (with_reducible refine LeO.ite ?_ ?_)
   | (with_reducible refine LeO.bind ?_ (fun _ => ?_))
   | exact ih0 _ _ _ _ _ _ _
   | exact ih1 _ _ _ _ _ _ _ _ _ _ _ _ _ _
   | exact zqf.mono _ _ _ _ _ _ _ _ _ _ _ _ _ _ _ _ _
   | exact zq8.mono _ _
   | exact zql.mono _ _
   | exact LeO.none _
   | refine LeO.ite ?_ ?_
   | refine LeO.bind ?_ (fun _ => ?_)
  ·intro y0 y1 y2 y3 y4 y5 y6 y7 y8 y9 y10 y11 y12 y13
   unfold zqo.l0
   repeat' first
   | (with_reducible exact ih0 _ _ _ _ _ _ _)
   | (with_reducible exact ih1 _ _ _ _ _ _ _ _ _ _ _ _ _ _)
   | (with_reducible exact zqf.mono _ _ _ _ _ _ _ _ _ _ _ _ _ _ _ _ _)
   | (with_reducible exact zq8.mono _ _)
   | (with_reducible exact zql.mono _ _)
   | (with_reducible exact LeO.refl _)
   | (with_reducible exact LeO.none _)
   | (with_reducible refine LeO.ite ?_ ?_)
   | (with_reducible refine LeO.bind ?_ (fun _ => ?_))
   | exact ih0 _ _ _ _ _ _ _
   | exact ih1 _ _ _ _ _ _ _ _ _ _ _ _ _ _
   | exact zqf.mono _ _ _ _ _ _ _ _ _ _ _ _ _ _ _ _ _
   | exact zq8.mono _ _
   | exact zql.mono _ _
   | exact LeO.none _
   | refine LeO.ite ?_ ?_
   | refine LeO.bind ?_ (fun _ => ?_)
theorem zqo.mono : ∀ a0 a1 a2 a3 a4 a5 k, LeO (zqo.f k a0 a1 a2 a3 a4 a5) (zqo.f (k + 1) a0 a1 a2 a3 a4 a5) := by
 intro a0 a1 a2 a3 a4 a5 k
 obtain ⟨ih0, ih1⟩ := zqo.mono_l k
 unfold zqo.f
 repeat' first
   | (with_reducible exact ih0 _ _ _ _ _ _ _)
   | (with_reducible exact ih1 _ _ _ _ _ _ _ _ _ _ _ _ _ _)
   | (with_reducible exact zqf.mono _ _ _ _ _ _ _ _ _ _ _ _ _ _ _ _ _)
   | (with_reducible exact zq8.mono _ _)
   | (with_reducible exact zql.mono _ _)
   | (with_reducible exact LeO.refl _)
   | (with_reducible exact LeO.none _)
   | (with_reducible refine LeO.ite ?_ ?_)
   | (with_reducible refine LeO.bind ?_ (fun _ => ?_))
   | exact ih0 _ _ _ _ _ _ _
   | exact ih1 _ _ _ _ _ _ _ _ _ _ _ _ _ _
   | exact zqf.mono _ _ _ _ _ _ _ _ _ _ _ _ _ _ _ _ _
   | exact zq8.mono _ _
   | exact zql.mono _ _
   | exact LeO.none _
   | refine LeO.ite ?_ ?_
   | refine LeO.bind ?_ (fun _ => ?_)
theorem zqo.calls (k : Nat) (a0_0 : ByteArray) (a0_1 : ByteArray) (a0_2 : ByteArray) (a0_3 : Int) (A0_4 : Option Addr) (c0_4 : Nat) (l0_4 : List (S62)) (A0_5 : Option Addr) (c0_5 : Nat) (l0_5 : List (S43)) (r : Int) (w : World) (hr0_4 : Kd.C k62 w A0_4 l0_4.length l0_4) (hc0_4 : l0_4.length ≤ c0_4) (hr0_5 : Kd.C k43 w A0_5 l0_5.length l0_5) (hc0_5 : l0_5.length ≤ c0_5) (h : zqo.f k a0_0 a0_1 a0_2 a0_3 l0_4 l0_5 = some r) :
  Calls Try.prog 18 #[.agg #[.string a0_0, .string a0_1, .string a0_2, .int .i64 a0_3, .slice A0_4 l0_4.length c0_4, .slice A0_5 l0_5.length c0_5]] w fun e w' => e = .returned (.int .i64 r) ∧ Below w.heap.size w w' := by
 have hu25 := Try.underlying25
 have hu43 := Try.underlying43
 have HR0_4 := Aside0.mk hr0_4
 have HC0_4 := Aside0.mk hc0_4
 clear hr0_4 hc0_4
 have HR0_5 := Aside0.mk hr0_5
 have HC0_5 := Aside0.mk hc0_5
 clear hr0_5 hc0_5
 have HB := Aside0.mk (Below.refl w.heap.size w)
 have H : ((zql.f k a0_0).bind fun t123 => (if t123 = true then (if (a0_1.size : Int) > 16384 then (zqo.j0 k true a0_0 a0_1 a0_2 a0_3 l0_4 l0_5) else (if (a0_2.size : Int) > 16384 then (zqo.j0 k true a0_0 a0_1 a0_2 a0_3 l0_4 l0_5) else (if a0_3 > 16384 then (zqo.j0 k true a0_0 a0_1 a0_2 a0_3 l0_4 l0_5) else (if (l0_4.length : Int) > 256 then (zqo.j0 k true a0_0 a0_1 a0_2 a0_3 l0_4 l0_5) else (zqo.j0 k (decide ((l0_5.length : Int) > 2048)) a0_0 a0_1 a0_2 a0_3 l0_4 l0_5))))) else (some 4))) = some r := h
 clear h
 replace H := Option.bind_eq_some_iff.mp H
 obtain ⟨t123, A20, H⟩ := H
 (try dsimp only at H)
 have A2 := Aside0.mk A20
 clear A20
 by_cases c3 : t123 = true
 ·subst c3
  have H1 : (if (a0_1.size : Int) > 16384 then (zqo.j0 k true a0_0 a0_1 a0_2 a0_3 l0_4 l0_5) else (if (a0_2.size : Int) > 16384 then (zqo.j0 k true a0_0 a0_1 a0_2 a0_3 l0_4 l0_5) else (if a0_3 > 16384 then (zqo.j0 k true a0_0 a0_1 a0_2 a0_3 l0_4 l0_5) else (if (l0_4.length : Int) > 256 then (zqo.j0 k true a0_0 a0_1 a0_2 a0_3 l0_4 l0_5) else (zqo.j0 k (decide ((l0_5.length : Int) > 2048)) a0_0 a0_1 a0_2 a0_3 l0_4 l0_5))))) = some r := by rw [if_pos rfl] at H; exact H
  clear H
  have H := H1
  clear H1
  have HC4 := Aside0.mk H
  clear H
  go_enter Try.func18, Try.ntmps18
  go_upto_region 3 with (first | ((with_reducible refine y0j (N := 1) rfl ?_); (try (refine gate_guard (by rfl) ?_; dsimp only)); refine y0e ?hg (N := 1) ?hd (cs := #[.string a0_0, .string a0_1, .string a0_2, .int .i64 a0_3, .slice A0_4 l0_4.length c0_4, .slice A0_5 l0_5.length c0_5]) (t := 25) ?hr ?_; (case hd => rfl); (case hg => rfl); (case hr => first | (go_simp; done) | (go_simp; rfl)); intro gb122 hg w5 hbox hb; have n0_ := Aside0.mk (y04 hb_ hb); have n1_ := Aside0.mk (hbox); have n2_ := Aside0.mk ((by rw [hg]; exact (y03 hb_) : w.heap.size ≤ gb122)); have n3_ := Aside0.mk ((by rw [hg]; exact (y03 hb_) : w.heap.size ≤ gb122)); clear HB; have HB := n0_; have BK122 := n1_; have GW122 := n2_; have GE122 := n3_; clear n0_ n1_ n2_ n3_; clear hb hbox hg; obtain ⟨hcz6_0, hfz6_0⟩ := bc_ BK122.out 0 rfl; obtain ⟨hcz6_1, hfz6_1⟩ := bc_ BK122.out 1 rfl; obtain ⟨hcz6_2, hfz6_2⟩ := bc_ BK122.out 2 rfl; obtain ⟨hcz6_3, hfz6_3⟩ := bc_ BK122.out 3 rfl; obtain ⟨hcz6_4, hfz6_4⟩ := bc_ BK122.out 4 rfl; obtain ⟨hcz6_5, hfz6_5⟩ := bc_ BK122.out 5 rfl) | ((with_reducible refine y0i (f := 48) rfl ?_); refine goesL_ (some 11) rfl rfl Try.func48 (by kernel_rfl) rfl #[.string a0_0] rfl ar_ ?_; (with_reducible refine (zql.calls k a0_0 true _ A2.out).mono ?_); rintro e w7 ⟨rfl, hb⟩; refine ⟨_, rfl, ?_⟩; have n0_ := Aside0.mk (y06 (bk_ BK122.out) hb); have n1_ := Aside0.mk (y04 hb_ hb); clear BK122 HB; have BK122 := n0_; have HB := n1_; clear n0_ n1_; clear hb))
  (try simp only [Act.put, List.setIfInBounds_toArray, List.set_cons_zero, List.set_cons_succ])
  go_cut [13] (fun v13 wc => ∃ (kq : Nat) (x13_3 : Bool), v13 = .bool x13_3 ∧ Aside0 (zqo.j0 kq x13_3 a0_0 a0_1 a0_2 a0_3 l0_4 l0_5 = some r) ∧ Aside0 (kq ≤ k) ∧ Aside0 (wc.heap[gb122]? = some (.cells #[.string a0_0, .string a0_1, .string a0_2, .int .i64 a0_3, (.slice A0_4 l0_4.length c0_4), (.slice A0_5 l0_5.length c0_5)] 25 (0, 0))) ∧ Aside0 (Below w.heap.size w wc))
  case first =>
   have H := HC4.out
   clear HC4
   by_cases c8 : (a0_1.size : Int) > 16384
   ·rw [if_pos c8] at H
    have c8b0 : decide (16384 < (a0_1.size : Int)) = true := decide_eq_true c8
    have c8b1 : decide (16384 < a0_1.size) = true := decide_eq_true (by omega)
    clear c8
    (first | rw [c8b0] | (simp only [i64_w, i32_w]; rw [c8b0]) | skip)
    have H' := Aside0.mk H
    clear H
    obtain ⟨hcz9_0, hfz9_0⟩ := bc_ BK122.out 0 rfl
    obtain ⟨hcz9_1, hfz9_1⟩ := bc_ BK122.out 1 rfl
    obtain ⟨hcz9_2, hfz9_2⟩ := bc_ BK122.out 2 rfl
    obtain ⟨hcz9_3, hfz9_3⟩ := bc_ BK122.out 3 rfl
    obtain ⟨hcz9_4, hfz9_4⟩ := bc_ BK122.out 4 rfl
    obtain ⟨hcz9_5, hfz9_5⟩ := bc_ BK122.out 5 rfl
    go_wp2
    go_meet
    case rel => exact ⟨_, (true), cl_, H', ⟨by first | omega | exact Nat.le_refl _⟩, ⟨bk_ BK122.out⟩, ⟨hb_⟩⟩
   ·rw [if_neg c8] at H
    have c8b0 : decide (16384 < (a0_1.size : Int)) = false := decide_eq_false c8
    have c8b1 : decide (16384 < a0_1.size) = false := decide_eq_false (by omega)
    clear c8
    (first | rw [c8b0] | (simp only [i64_w, i32_w]; rw [c8b0]) | skip)
    by_cases c10 : (a0_2.size : Int) > 16384
    ·rw [if_pos c10] at H
     have c10b0 : decide (16384 < (a0_2.size : Int)) = true := decide_eq_true c10
     have c10b1 : decide (16384 < a0_2.size) = true := decide_eq_true (by omega)
     clear c10
     have H' := Aside0.mk H
     clear H
     obtain ⟨hcz11_0, hfz11_0⟩ := bc_ BK122.out 0 rfl
     obtain ⟨hcz11_1, hfz11_1⟩ := bc_ BK122.out 1 rfl
     obtain ⟨hcz11_2, hfz11_2⟩ := bc_ BK122.out 2 rfl
     obtain ⟨hcz11_3, hfz11_3⟩ := bc_ BK122.out 3 rfl
     obtain ⟨hcz11_4, hfz11_4⟩ := bc_ BK122.out 4 rfl
     obtain ⟨hcz11_5, hfz11_5⟩ := bc_ BK122.out 5 rfl
     go_wp2
     go_meet
     case rel => exact ⟨_, (true), cl_, H', ⟨by first | omega | exact Nat.le_refl _⟩, ⟨bk_ BK122.out⟩, ⟨hb_⟩⟩
    ·rw [if_neg c10] at H
     have c10b0 : decide (16384 < (a0_2.size : Int)) = false := decide_eq_false c10
     have c10b1 : decide (16384 < a0_2.size) = false := decide_eq_false (by omega)
     clear c10
     by_cases c12 : a0_3 > 16384
     ·rw [if_pos c12] at H
      have c12b0 : decide (16384 < a0_3) = true := decide_eq_true c12
      clear c12
      have H' := Aside0.mk H
      clear H
      obtain ⟨hcz13_0, hfz13_0⟩ := bc_ BK122.out 0 rfl
      obtain ⟨hcz13_1, hfz13_1⟩ := bc_ BK122.out 1 rfl
      obtain ⟨hcz13_2, hfz13_2⟩ := bc_ BK122.out 2 rfl
      obtain ⟨hcz13_3, hfz13_3⟩ := bc_ BK122.out 3 rfl
      obtain ⟨hcz13_4, hfz13_4⟩ := bc_ BK122.out 4 rfl
      obtain ⟨hcz13_5, hfz13_5⟩ := bc_ BK122.out 5 rfl
      go_wp2
      go_meet
      case rel => exact ⟨_, (true), cl_, H', ⟨by first | omega | exact Nat.le_refl _⟩, ⟨bk_ BK122.out⟩, ⟨hb_⟩⟩
     ·rw [if_neg c12] at H
      have c12b0 : decide (16384 < a0_3) = false := decide_eq_false c12
      clear c12
      by_cases c14 : (l0_4.length : Int) > 256
      ·rw [if_pos c14] at H
       have c14b0 : decide (256 < (l0_4.length : Int)) = true := decide_eq_true c14
       have c14b1 : decide (256 < l0_4.length) = true := decide_eq_true (by omega)
       clear c14
       have H' := Aside0.mk H
       clear H
       obtain ⟨hcz15_0, hfz15_0⟩ := bc_ BK122.out 0 rfl
       obtain ⟨hcz15_1, hfz15_1⟩ := bc_ BK122.out 1 rfl
       obtain ⟨hcz15_2, hfz15_2⟩ := bc_ BK122.out 2 rfl
       obtain ⟨hcz15_3, hfz15_3⟩ := bc_ BK122.out 3 rfl
       obtain ⟨hcz15_4, hfz15_4⟩ := bc_ BK122.out 4 rfl
       obtain ⟨hcz15_5, hfz15_5⟩ := bc_ BK122.out 5 rfl
       go_wp2
       go_meet
       case rel => exact ⟨_, (true), cl_, H', ⟨by first | omega | exact Nat.le_refl _⟩, ⟨bk_ BK122.out⟩, ⟨hb_⟩⟩
      ·rw [if_neg c14] at H
       have c14b0 : decide (256 < (l0_4.length : Int)) = false := decide_eq_false c14
       have c14b1 : decide (256 < l0_4.length) = false := decide_eq_false (by omega)
       clear c14
       have H' := Aside0.mk H
       clear H
       obtain ⟨hcz16_0, hfz16_0⟩ := bc_ BK122.out 0 rfl
       obtain ⟨hcz16_1, hfz16_1⟩ := bc_ BK122.out 1 rfl
       obtain ⟨hcz16_2, hfz16_2⟩ := bc_ BK122.out 2 rfl
       obtain ⟨hcz16_3, hfz16_3⟩ := bc_ BK122.out 3 rfl
       obtain ⟨hcz16_4, hfz16_4⟩ := bc_ BK122.out 4 rfl
       obtain ⟨hcz16_5, hfz16_5⟩ := bc_ BK122.out 5 rfl
       go_wp2
       go_meet
       case rel => exact ⟨_, (decide ((l0_5.length : Int) > 2048)), cl_, H', ⟨by first | omega | exact Nat.le_refl _⟩, ⟨bk_ BK122.out⟩, ⟨hb_⟩⟩
  case rest =>
   clear HC4
   clear hcz6_0; clear hcz6_1; clear hcz6_2; clear hcz6_3; clear hcz6_4; clear hcz6_5; clear hfz6_0; clear hfz6_1; clear hfz6_2; clear hfz6_3; clear hfz6_4; clear hfz6_5
   obtain ⟨kq, x13_3, rfl, HA, HJ3, BK122, HB⟩ := hcut
   cases kq with
   | zero => exact absurd HA.out (by simp [zqo.j0])
   | succ kj3 =>
    have H := HA.out
    clear HA
    simp only [zqo.j0] at H
    by_cases c17 : x13_3 = true
    ·subst c17
     have H1 : (some 7) = some r := by rw [if_pos rfl] at H; exact H
     clear H
     have H := H1
     clear H1
     obtain rfl := Option.some.inj H
     go_wp2
     go_ret
     exact ⟨ew_, hb_⟩
    ·replace c17 := Bool.eq_false_iff.mpr c17
     subst c17
     have H1 : (if ((a0_1.size : Int) % 2) = 0 then (if a0_3 < 0 then (some 1) else ((zq8.f kj3 l0_4).bind fun t124 => (if t124 = 0 then (zqo.l0 kj3 l0_5 (l0_5.length : Int) 0 a0_0 a0_1 a0_2 a0_3 l0_4 l0_5 (-1) 0 0 (⟨#[]⟩ : ByteArray) false) else (some t124)))) else (some 1)) = some r := by rw [if_neg (show ¬ (false = true) by decide)] at H; exact H
     clear H
     have H := H1
     clear H1
     by_cases c18 : ((a0_1.size : Int) % 2) = 0
     ·rw [if_pos c18] at H
      have c18b0 : (((a0_1.size : Int) % 2) == 0) = true := beq_iff_eq.mpr c18
      have c18b1 : (((a0_1.size : Int) % 2) != 0) = false := bne_eq_false_iff_eq.mpr c18
      clear c18
      by_cases c19 : a0_3 < 0
      ·rw [if_pos c19] at H
       have c19b0 : decide (a0_3 < 0) = true := decide_eq_true c19
       clear c19
       obtain rfl := Option.some.inj H
       obtain ⟨hcz20_0, hfz20_0⟩ := bc_ BK122.out 0 rfl
       obtain ⟨hcz20_1, hfz20_1⟩ := bc_ BK122.out 1 rfl
       obtain ⟨hcz20_2, hfz20_2⟩ := bc_ BK122.out 2 rfl
       obtain ⟨hcz20_3, hfz20_3⟩ := bc_ BK122.out 3 rfl
       obtain ⟨hcz20_4, hfz20_4⟩ := bc_ BK122.out 4 rfl
       obtain ⟨hcz20_5, hfz20_5⟩ := bc_ BK122.out 5 rfl
       go_wp2
       go_ret
       exact ⟨ew_, hb_⟩
      ·rw [if_neg c19] at H
       have c19b0 : decide (a0_3 < 0) = false := decide_eq_false c19
       clear c19
       replace H := Option.bind_eq_some_iff.mp H
       obtain ⟨t124, A210, H⟩ := H
       (try dsimp only at H)
       have A21 := Aside0.mk A210
       clear A210
       by_cases c22 : t124 = 0
       ·rw [if_pos c22] at H
        have c22b0 : (t124 == 0) = true := beq_iff_eq.mpr c22
        have c22b1 : (t124 != 0) = false := bne_eq_false_iff_eq.mpr c22
        clear c22
        have H' := Aside0.mk H
        clear H
        obtain ⟨hcz23_0, hfz23_0⟩ := bc_ BK122.out 0 rfl
        obtain ⟨hcz23_1, hfz23_1⟩ := bc_ BK122.out 1 rfl
        obtain ⟨hcz23_2, hfz23_2⟩ := bc_ BK122.out 2 rfl
        obtain ⟨hcz23_3, hfz23_3⟩ := bc_ BK122.out 3 rfl
        obtain ⟨hcz23_4, hfz23_4⟩ := bc_ BK122.out 4 rfl
        obtain ⟨hcz23_5, hfz23_5⟩ := bc_ BK122.out 5 rfl
        go_wp2_with (first | ((with_reducible refine y0i (f := 49) rfl ?_); refine goesL_ (some 54) rfl rfl Try.func49 (by kernel_rfl) rfl #[.slice A0_4 l0_4.length c0_4] rfl ar_ ?_; (with_reducible refine (zq8.calls kj3 _ _ l0_4 t124 _ ?side1 ?side2 A21.out).mono ?_); (case side1 => repeat (first | exact (Kd.C_below HR0_4.out HB.out) | (with_reducible refine Kd.C_alloc ?_ _) | (with_reducible refine Kd.C_drewN ?_ _) | (with_reducible refine Kd.C_drew ?_))); (case side2 => exact HC0_4.out); rintro e w24 ⟨rfl, hb⟩; refine ⟨_, rfl, ?_⟩; have n0_ := Aside0.mk (y06 (bk_ BK122.out) hb); have n1_ := Aside0.mk (y04 hb_ hb); clear BK122 HB; have BK122 := n0_; have HB := n1_; clear n0_ n1_; clear hb) | ((with_reducible refine y0j (N := 4) rfl ?_); (try (refine gate_guard (by rfl) ?_; dsimp only)); refine y0e ?hg (N := 4) ?hd (cs := #[.int .i64 0, .int .i64 0, .int .i64 0, .string (⟨#[]⟩ : ByteArray), .bool false]) (t := 43) ?hr ?_; (case hd => rfl); (case hg => rfl); (case hr => first | (go_simp; done) | (go_simp; rfl)); intro gb125 hg w25 hbox hb; have n0_ := Aside0.mk (y06 (bk_ BK122.out) hb); have n1_ := Aside0.mk (y04 hb_ hb); have n2_ := Aside0.mk (hbox); have n3_ := Aside0.mk ((by rw [hg]; exact (y03 hb_) : w.heap.size ≤ gb125)); have n4_ := Aside0.mk ((by rw [hg]; exact (y03 hb_) : w.heap.size ≤ gb125)); have n5_ := Aside0.mk ((by rw [hg]; exact Nat.ne_of_lt (y0c (bk_ BK122.out)) : gb122 ≠ gb125)); have n6_ := Aside0.mk ((by rw [hg]; exact Nat.ne_of_gt (y0c (bk_ BK122.out)) : gb125 ≠ gb122)); clear BK122 HB; have BK122 := n0_; have HB := n1_; have BK125 := n2_; have GW125 := n3_; have GE125 := n4_; have NB122_125 := n5_; have NB125_122 := n6_; clear n0_ n1_ n2_ n3_ n4_ n5_ n6_; clear hb hbox hg; have hnb26 := NB125_122.out; have hnc26 := NB122_125.out; obtain ⟨hcz27_0, hfz27_0⟩ := bc_ BK125.out 0 rfl; obtain ⟨hcz27_1, hfz27_1⟩ := bc_ BK125.out 1 rfl; obtain ⟨hcz27_2, hfz27_2⟩ := bc_ BK125.out 2 rfl; obtain ⟨hcz27_3, hfz27_3⟩ := bc_ BK125.out 3 rfl; obtain ⟨hcz27_4, hfz27_4⟩ := bc_ BK125.out 4 rfl; obtain ⟨hcz28_0, hfz28_0⟩ := bc_ BK122.out 0 rfl; obtain ⟨hcz28_1, hfz28_1⟩ := bc_ BK122.out 1 rfl; obtain ⟨hcz28_2, hfz28_2⟩ := bc_ BK122.out 2 rfl; obtain ⟨hcz28_3, hfz28_3⟩ := bc_ BK122.out 3 rfl; obtain ⟨hcz28_4, hfz28_4⟩ := bc_ BK122.out 4 rfl; obtain ⟨hcz28_5, hfz28_5⟩ := bc_ BK122.out 5 rfl))
        go_loopg [62] kj3 (fun kq v62 w' => ∃ (x62_2 : Int) (x126000_2 : Int) (x126001_2 : Int) (x126002_2 : Int) (x126003_2 : ByteArray) (x126004_2 : Bool), v62 = .int .i64 x62_2 ∧ Aside0 (zqo.l0 kq l0_5 (l0_5.length : Int) x62_2 a0_0 a0_1 a0_2 a0_3 l0_4 l0_5 x126000_2 x126001_2 x126002_2 x126003_2 x126004_2 = some r) ∧ Aside0 (kq ≤ kj3) ∧ Aside0 (w'.heap[gb122]? = some (.cells #[.string a0_0, .string a0_1, .string a0_2, .int .i64 a0_3, (.slice A0_4 l0_4.length c0_4), (.slice A0_5 l0_5.length c0_5)] 25 (0, 0))) ∧ Aside0 (w'.heap[gb125]? = some (.cells #[.int .i64 x126000_2, .int .i64 x126001_2, .int .i64 x126002_2, .string x126003_2, .bool x126004_2] 43 (0, 0))) ∧ Aside0 (Below w.heap.size w w'))
        case atStart => exact ⟨(0), ((-1)), (0), (0), ((⟨#[]⟩ : ByteArray)), (false), cl_, H', ⟨Nat.le_refl _⟩, ⟨by (with_reducible repeat (first | refine y09 ?_ _ | refine y08 ?_ | refine y05 ?_ _)); refine y0a ?_ NB122_125.out _; (with_reducible repeat (first | refine y09 ?_ _ | refine y08 ?_ | refine y05 ?_ _)); refine y0a ?_ NB122_125.out _; (with_reducible repeat (first | refine y09 ?_ _ | refine y08 ?_ | refine y05 ?_ _)); refine y0a ?_ NB122_125.out _; (with_reducible repeat (first | refine y09 ?_ _ | refine y08 ?_ | refine y05 ?_ _)); refine y0a ?_ NB122_125.out _; (with_reducible repeat (first | refine y09 ?_ _ | refine y08 ?_ | refine y05 ?_ _)); refine y0a ?_ NB122_125.out _; (with_reducible repeat (first | refine y09 ?_ _ | refine y08 ?_ | refine y05 ?_ _)); exact BK122.out⟩, ⟨by (with_reducible repeat (first | refine y09 ?_ _ | refine y08 ?_ | refine y05 ?_ _)); refine y0d (cs := #[.int .i64 (-1), .int .i64 0, .int .i64 0, .string (⟨#[]⟩ : ByteArray), .bool false]) ?_ 4 _ rfl; (with_reducible repeat (first | refine y09 ?_ _ | refine y08 ?_ | refine y05 ?_ _)); refine y0d (cs := #[.int .i64 (-1), .int .i64 0, .int .i64 0, .string (⟨#[]⟩ : ByteArray), .bool false]) ?_ 3 _ rfl; (with_reducible repeat (first | refine y09 ?_ _ | refine y08 ?_ | refine y05 ?_ _)); refine y0d (cs := #[.int .i64 (-1), .int .i64 0, .int .i64 0, .string (⟨#[]⟩ : ByteArray), .bool false]) ?_ 2 _ rfl; (with_reducible repeat (first | refine y09 ?_ _ | refine y08 ?_ | refine y05 ?_ _)); refine y0d (cs := #[.int .i64 (-1), .int .i64 0, .int .i64 0, .string (⟨#[]⟩ : ByteArray), .bool false]) ?_ 1 _ rfl; (with_reducible repeat (first | refine y09 ?_ _ | refine y08 ?_ | refine y05 ?_ _)); refine y0d (cs := #[.int .i64 0, .int .i64 0, .int .i64 0, .string (⟨#[]⟩ : ByteArray), .bool false]) ?_ 0 _ rfl; (with_reducible repeat (first | refine y09 ?_ _ | refine y08 ?_ | refine y05 ?_ _)); exact BK125.out⟩, ⟨hb_⟩⟩
        case round =>
         clear H'
         clear c18b0; clear c18b1; clear c19b0; clear c22b0; clear c22b1; clear hcz23_0; clear hcz23_1; clear hcz23_2; clear hcz23_3; clear hcz23_4; clear hcz23_5; clear hcz27_0; clear hcz27_1; clear hcz27_2; clear hcz27_3; clear hcz27_4; clear hcz28_0; clear hcz28_1; clear hcz28_2; clear hcz28_3; clear hcz28_4; clear hcz28_5; clear hfz23_0; clear hfz23_1; clear hfz23_2; clear hfz23_3; clear hfz23_4; clear hfz23_5; clear hfz27_0; clear hfz27_1; clear hfz27_2; clear hfz27_3; clear hfz27_4; clear hfz28_0; clear hfz28_1; clear hfz28_2; clear hfz28_3; clear hfz28_4; clear hfz28_5
         obtain ⟨x62_2, x126000_2, x126001_2, x126002_2, x126003_2, x126004_2, rfl, HA, HK2, BK122, BK125, HB⟩ := hrel
         cases gk with
         | zero => exact absurd HA.out (by simp [zqo.l0])
         | succ k2 =>
          have H := HA.out
          clear HA
          simp only [zqo.l0] at H
          by_cases c29 : x62_2 < (l0_5.length : Int)
          ·rw [if_pos c29] at H
           have c29b0 : decide (x62_2 < (l0_5.length : Int)) = true := decide_eq_true c29
           clear c29
           by_cases c30 : 0 ≤ x62_2
           ·rw [if_pos c30] at H
            have c30b0 : decide (0 ≤ x62_2) = true := decide_eq_true c30
            clear c30
            by_cases c31 : x62_2 < (l0_5.length : Int)
            ·rw [if_pos c31] at H
             have c31b0 : decide (x62_2 < (l0_5.length : Int)) = true := decide_eq_true c31
             clear c31
             replace H := Option.bind_eq_some_iff.mp H
             obtain ⟨t128, A320, H⟩ := H
             (try dsimp only at H)
             have A32 := Aside0.mk A320
             clear A320
             by_cases c33 : t128 = 0
             ·rw [if_pos c33] at H
              have c33b0 : (t128 == 0) = true := beq_iff_eq.mpr c33
              have c33b1 : (t128 != 0) = false := bne_eq_false_iff_eq.mpr c33
              clear c33
              have H' := Aside0.mk H
              clear H
              have p126 : 0 ≤ (x62_2 : Int) := oa_
              have q126 : x62_2 < (l0_5.length : Int) := oa_
              obtain ⟨ad126, e126, hx126_0, hx126_1, hx126_2, hx126_3, hx126_4⟩ := at_T43 HR0_5.out x62_2 p126 q126
              cases e126
              replace hx126_0 := (HB.out.cell (World.block_lt_of_cell? w _ hx126_0)).trans hx126_0
              replace hx126_1 := (HB.out.cell (World.block_lt_of_cell? w _ hx126_1)).trans hx126_1
              replace hx126_2 := (HB.out.cell (World.block_lt_of_cell? w _ hx126_2)).trans hx126_2
              replace hx126_3 := (HB.out.cell (World.block_lt_of_cell? w _ hx126_3)).trans hx126_3
              replace hx126_4 := (HB.out.cell (World.block_lt_of_cell? w _ hx126_4)).trans hx126_4
              replace p126 := eq_true p126
              replace q126 := eq_true q126
              go_wp2_with (first | ((with_reducible refine y0j (N := 6) rfl ?_); (try (refine gate_guard (by rfl) ?_; dsimp only)); refine y0e ?hg (N := 6) ?hd (cs := #[.int .i64 0, .int .i64 0, .int .i64 0, .string (⟨#[]⟩ : ByteArray), .bool false]) (t := 43) ?hr ?_; (case hd => rfl); (case hg => rfl); (case hr => first | (go_simp; done) | (go_simp; rfl)); intro gb127 hg w34 hbox hb; have n0_ := Aside0.mk (y06 (bk_ BK122.out) hb); have n1_ := Aside0.mk (y06 (bk_ BK125.out) hb); have n2_ := Aside0.mk (y04 hb_ hb); have n3_ := Aside0.mk (hbox); have n4_ := Aside0.mk ((by rw [hg]; exact (y03 hb_) : w.heap.size ≤ gb127)); have n5_ := Aside0.mk ((by rw [hg]; exact (y03 hb_) : w.heap.size ≤ gb127)); have n6_ := Aside0.mk ((by rw [hg]; exact Nat.ne_of_lt (y0c (bk_ BK122.out)) : gb122 ≠ gb127)); have n7_ := Aside0.mk ((by rw [hg]; exact Nat.ne_of_gt (y0c (bk_ BK122.out)) : gb127 ≠ gb122)); have n8_ := Aside0.mk ((by rw [hg]; exact Nat.ne_of_lt (y0c (bk_ BK125.out)) : gb125 ≠ gb127)); have n9_ := Aside0.mk ((by rw [hg]; exact Nat.ne_of_gt (y0c (bk_ BK125.out)) : gb127 ≠ gb125)); clear BK122 BK125 HB; have BK122 := n0_; have BK125 := n1_; have HB := n2_; have BK127 := n3_; have GW127 := n4_; have GE127 := n5_; have NB122_127 := n6_; have NB127_122 := n7_; have NB125_127 := n8_; have NB127_125 := n9_; clear n0_ n1_ n2_ n3_ n4_ n5_ n6_ n7_ n8_ n9_; clear hb hbox hg; have hnb35 := NB127_122.out; have hnc35 := NB122_127.out; have hnb36 := NB127_125.out; have hnc36 := NB125_127.out; obtain ⟨hcz37_0, hfz37_0⟩ := bc_ BK127.out 0 rfl; obtain ⟨hcz37_1, hfz37_1⟩ := bc_ BK127.out 1 rfl; obtain ⟨hcz37_2, hfz37_2⟩ := bc_ BK127.out 2 rfl; obtain ⟨hcz37_3, hfz37_3⟩ := bc_ BK127.out 3 rfl; obtain ⟨hcz37_4, hfz37_4⟩ := bc_ BK127.out 4 rfl; have hnb38 := NB122_125.out; have hnc38 := NB125_122.out; obtain ⟨hcz39_0, hfz39_0⟩ := bc_ BK122.out 0 rfl; obtain ⟨hcz39_1, hfz39_1⟩ := bc_ BK122.out 1 rfl; obtain ⟨hcz39_2, hfz39_2⟩ := bc_ BK122.out 2 rfl; obtain ⟨hcz39_3, hfz39_3⟩ := bc_ BK122.out 3 rfl; obtain ⟨hcz39_4, hfz39_4⟩ := bc_ BK122.out 4 rfl; obtain ⟨hcz39_5, hfz39_5⟩ := bc_ BK122.out 5 rfl; obtain ⟨hcz40_0, hfz40_0⟩ := bc_ BK125.out 0 rfl; obtain ⟨hcz40_1, hfz40_1⟩ := bc_ BK125.out 1 rfl; obtain ⟨hcz40_2, hfz40_2⟩ := bc_ BK125.out 2 rfl; obtain ⟨hcz40_3, hfz40_3⟩ := bc_ BK125.out 3 rfl; obtain ⟨hcz40_4, hfz40_4⟩ := bc_ BK125.out 4 rfl) | ((with_reducible refine y0i (f := 50) rfl ?_); refine goesL_ (some 69) rfl rfl Try.func50 (by kernel_rfl) rfl #[.agg #[.string a0_0, .string a0_1, .string a0_2, .int .i64 a0_3, .slice A0_4 l0_4.length c0_4, .slice (some ad126) l0_5.length c0_5], .agg #[.int .i64 ((y0l l0_5 x62_2).f0), .int .i64 ((y0l l0_5 x62_2).f1), .int .i64 ((y0l l0_5 x62_2).f2), .string ((y0l l0_5 x62_2).f3), .bool ((y0l l0_5 x62_2).f4)], .agg #[.int .i64 x126000_2, .int .i64 x126001_2, .int .i64 x126002_2, .string x126003_2, .bool x126004_2]] rfl ar_ ?_; (with_reducible refine (zqf.calls k2 a0_0 a0_1 a0_2 a0_3 _ _ l0_4 _ _ l0_5 ((y0l l0_5 x62_2).f0) ((y0l l0_5 x62_2).f1) ((y0l l0_5 x62_2).f2) ((y0l l0_5 x62_2).f3) ((y0l l0_5 x62_2).f4) x126000_2 x126001_2 x126002_2 x126003_2 x126004_2 t128 _ ?side1 ?side2 ?side3 ?side4 A32.out).mono ?_); (case side1 => exact Kd.C_below HR0_4.out hb_); (case side2 => exact HC0_4.out); (case side3 => exact Kd.C_below HR0_5.out hb_); (case side4 => exact HC0_5.out); rintro e w41 ⟨rfl, hb⟩; refine ⟨_, rfl, ?_⟩; have n0_ := Aside0.mk (y06 (g := gb122) (o := .cells #[.string a0_0, .string a0_1, .string a0_2, .int .i64 a0_3, .slice A0_4 l0_4.length c0_4, .slice (some ad126) l0_5.length c0_5] 25 (0, 0)) (by (with_reducible repeat (first | refine y09 ?_ _ | refine y08 ?_ | refine y05 ?_ _)); refine y0a ?_ NB122_127.out _; (with_reducible repeat (first | refine y09 ?_ _ | refine y08 ?_ | refine y05 ?_ _)); refine y0a ?_ NB122_127.out _; (with_reducible repeat (first | refine y09 ?_ _ | refine y08 ?_ | refine y05 ?_ _)); refine y0a ?_ NB122_127.out _; (with_reducible repeat (first | refine y09 ?_ _ | refine y08 ?_ | refine y05 ?_ _)); refine y0a ?_ NB122_127.out _; (with_reducible repeat (first | refine y09 ?_ _ | refine y08 ?_ | refine y05 ?_ _)); refine y0a ?_ NB122_127.out _; (with_reducible repeat (first | refine y09 ?_ _ | refine y08 ?_ | refine y05 ?_ _)); exact BK122.out) hb); have n1_ := Aside0.mk (y06 (g := gb125) (o := .cells #[.int .i64 x126000_2, .int .i64 x126001_2, .int .i64 x126002_2, .string x126003_2, .bool x126004_2] 43 (0, 0)) (by (with_reducible repeat (first | refine y09 ?_ _ | refine y08 ?_ | refine y05 ?_ _)); refine y0a ?_ NB125_127.out _; (with_reducible repeat (first | refine y09 ?_ _ | refine y08 ?_ | refine y05 ?_ _)); refine y0a ?_ NB125_127.out _; (with_reducible repeat (first | refine y09 ?_ _ | refine y08 ?_ | refine y05 ?_ _)); refine y0a ?_ NB125_127.out _; (with_reducible repeat (first | refine y09 ?_ _ | refine y08 ?_ | refine y05 ?_ _)); refine y0a ?_ NB125_127.out _; (with_reducible repeat (first | refine y09 ?_ _ | refine y08 ?_ | refine y05 ?_ _)); refine y0a ?_ NB125_127.out _; (with_reducible repeat (first | refine y09 ?_ _ | refine y08 ?_ | refine y05 ?_ _)); exact BK125.out) hb); have n2_ := Aside0.mk (y06 (g := gb127) (o := .cells #[.int .i64 ((y0l l0_5 x62_2).f0), .int .i64 ((y0l l0_5 x62_2).f1), .int .i64 ((y0l l0_5 x62_2).f2), .string ((y0l l0_5 x62_2).f3), .bool ((y0l l0_5 x62_2).f4)] 43 (0, 0)) (by (with_reducible repeat (first | refine y09 ?_ _ | refine y08 ?_ | refine y05 ?_ _)); refine y0d (cs := #[.int .i64 ((y0l l0_5 x62_2).f0), .int .i64 ((y0l l0_5 x62_2).f1), .int .i64 ((y0l l0_5 x62_2).f2), .string ((y0l l0_5 x62_2).f3), .bool false]) ?_ 4 _ rfl; (with_reducible repeat (first | refine y09 ?_ _ | refine y08 ?_ | refine y05 ?_ _)); refine y0d (cs := #[.int .i64 ((y0l l0_5 x62_2).f0), .int .i64 ((y0l l0_5 x62_2).f1), .int .i64 ((y0l l0_5 x62_2).f2), .string (⟨#[]⟩ : ByteArray), .bool false]) ?_ 3 _ rfl; (with_reducible repeat (first | refine y09 ?_ _ | refine y08 ?_ | refine y05 ?_ _)); refine y0d (cs := #[.int .i64 ((y0l l0_5 x62_2).f0), .int .i64 ((y0l l0_5 x62_2).f1), .int .i64 0, .string (⟨#[]⟩ : ByteArray), .bool false]) ?_ 2 _ rfl; (with_reducible repeat (first | refine y09 ?_ _ | refine y08 ?_ | refine y05 ?_ _)); refine y0d (cs := #[.int .i64 ((y0l l0_5 x62_2).f0), .int .i64 0, .int .i64 0, .string (⟨#[]⟩ : ByteArray), .bool false]) ?_ 1 _ rfl; (with_reducible repeat (first | refine y09 ?_ _ | refine y08 ?_ | refine y05 ?_ _)); refine y0d (cs := #[.int .i64 0, .int .i64 0, .int .i64 0, .string (⟨#[]⟩ : ByteArray), .bool false]) ?_ 0 _ rfl; (with_reducible repeat (first | refine y09 ?_ _ | refine y08 ?_ | refine y05 ?_ _)); exact BK127.out) hb); have n3_ := Aside0.mk (y04 hb_ hb); clear BK122 BK125 BK127 HB; have BK122 := n0_; have BK125 := n1_; have BK127 := n2_; have HB := n3_; clear n0_ n1_ n2_ n3_; clear hb; obtain ⟨hcz42_0, hfz42_0⟩ := bc_ BK127.out 0 rfl; obtain ⟨hcz42_1, hfz42_1⟩ := bc_ BK127.out 1 rfl; obtain ⟨hcz42_2, hfz42_2⟩ := bc_ BK127.out 2 rfl; obtain ⟨hcz42_3, hfz42_3⟩ := bc_ BK127.out 3 rfl; obtain ⟨hcz42_4, hfz42_4⟩ := bc_ BK127.out 4 rfl; obtain ⟨hcz43_0, hfz43_0⟩ := bc_ BK125.out 0 rfl; obtain ⟨hcz43_1, hfz43_1⟩ := bc_ BK125.out 1 rfl; obtain ⟨hcz43_2, hfz43_2⟩ := bc_ BK125.out 2 rfl; obtain ⟨hcz43_3, hfz43_3⟩ := bc_ BK125.out 3 rfl; obtain ⟨hcz43_4, hfz43_4⟩ := bc_ BK125.out 4 rfl))
              go_roundg k2
              case measure => have := HJ3.out; have := HK2.out; omega
              case rel => exact ⟨(wrap64 (x62_2 + 1)), ((y0l l0_5 x62_2).f0), ((y0l l0_5 x62_2).f1), ((y0l l0_5 x62_2).f2), ((y0l l0_5 x62_2).f3), ((y0l l0_5 x62_2).f4), cl_, H', ⟨by have := HJ3.out; have := HK2.out; omega⟩, ⟨by (with_reducible repeat (first | refine y09 ?_ _ | refine y08 ?_ | refine y05 ?_ _)); refine y0a ?_ NB122_125.out _; (with_reducible repeat (first | refine y09 ?_ _ | refine y08 ?_ | refine y05 ?_ _)); refine y0a ?_ NB122_125.out _; (with_reducible repeat (first | refine y09 ?_ _ | refine y08 ?_ | refine y05 ?_ _)); refine y0a ?_ NB122_125.out _; (with_reducible repeat (first | refine y09 ?_ _ | refine y08 ?_ | refine y05 ?_ _)); refine y0a ?_ NB122_125.out _; (with_reducible repeat (first | refine y09 ?_ _ | refine y08 ?_ | refine y05 ?_ _)); refine y0a ?_ NB122_125.out _; (with_reducible repeat (first | refine y09 ?_ _ | refine y08 ?_ | refine y05 ?_ _)); exact BK122.out⟩, ⟨by (with_reducible repeat (first | refine y09 ?_ _ | refine y08 ?_ | refine y05 ?_ _)); refine y0d (cs := #[.int .i64 ((y0l l0_5 x62_2).f0), .int .i64 ((y0l l0_5 x62_2).f1), .int .i64 ((y0l l0_5 x62_2).f2), .string ((y0l l0_5 x62_2).f3), .bool x126004_2]) ?_ 4 _ rfl; (with_reducible repeat (first | refine y09 ?_ _ | refine y08 ?_ | refine y05 ?_ _)); refine y0d (cs := #[.int .i64 ((y0l l0_5 x62_2).f0), .int .i64 ((y0l l0_5 x62_2).f1), .int .i64 ((y0l l0_5 x62_2).f2), .string x126003_2, .bool x126004_2]) ?_ 3 _ rfl; (with_reducible repeat (first | refine y09 ?_ _ | refine y08 ?_ | refine y05 ?_ _)); refine y0d (cs := #[.int .i64 ((y0l l0_5 x62_2).f0), .int .i64 ((y0l l0_5 x62_2).f1), .int .i64 x126002_2, .string x126003_2, .bool x126004_2]) ?_ 2 _ rfl; (with_reducible repeat (first | refine y09 ?_ _ | refine y08 ?_ | refine y05 ?_ _)); refine y0d (cs := #[.int .i64 ((y0l l0_5 x62_2).f0), .int .i64 x126001_2, .int .i64 x126002_2, .string x126003_2, .bool x126004_2]) ?_ 1 _ rfl; (with_reducible repeat (first | refine y09 ?_ _ | refine y08 ?_ | refine y05 ?_ _)); refine y0d (cs := #[.int .i64 x126000_2, .int .i64 x126001_2, .int .i64 x126002_2, .string x126003_2, .bool x126004_2]) ?_ 0 _ rfl; (with_reducible repeat (first | refine y09 ?_ _ | refine y08 ?_ | refine y05 ?_ _)); exact BK125.out⟩, ⟨hb_⟩⟩
             ·rw [if_neg c33] at H
              have c33b0 : (t128 == 0) = false := beq_eq_false_iff_ne.mpr c33
              have c33b1 : (t128 != 0) = true := bne_iff_ne.mpr c33
              obtain rfl := Option.some.inj H
              have p126 : 0 ≤ (x62_2 : Int) := oa_
              have q126 : x62_2 < (l0_5.length : Int) := oa_
              obtain ⟨ad126, e126, hx126_0, hx126_1, hx126_2, hx126_3, hx126_4⟩ := at_T43 HR0_5.out x62_2 p126 q126
              cases e126
              replace hx126_0 := (HB.out.cell (World.block_lt_of_cell? w _ hx126_0)).trans hx126_0
              replace hx126_1 := (HB.out.cell (World.block_lt_of_cell? w _ hx126_1)).trans hx126_1
              replace hx126_2 := (HB.out.cell (World.block_lt_of_cell? w _ hx126_2)).trans hx126_2
              replace hx126_3 := (HB.out.cell (World.block_lt_of_cell? w _ hx126_3)).trans hx126_3
              replace hx126_4 := (HB.out.cell (World.block_lt_of_cell? w _ hx126_4)).trans hx126_4
              replace p126 := eq_true p126
              replace q126 := eq_true q126
              go_wp2_with (first | ((with_reducible refine y0j (N := 6) rfl ?_); (try (refine gate_guard (by rfl) ?_; dsimp only)); refine y0e ?hg (N := 6) ?hd (cs := #[.int .i64 0, .int .i64 0, .int .i64 0, .string (⟨#[]⟩ : ByteArray), .bool false]) (t := 43) ?hr ?_; (case hd => rfl); (case hg => rfl); (case hr => first | (go_simp; done) | (go_simp; rfl)); intro gb127 hg w44 hbox hb; have n0_ := Aside0.mk (y06 (bk_ BK122.out) hb); have n1_ := Aside0.mk (y06 (bk_ BK125.out) hb); have n2_ := Aside0.mk (y04 hb_ hb); have n3_ := Aside0.mk (hbox); have n4_ := Aside0.mk ((by rw [hg]; exact (y03 hb_) : w.heap.size ≤ gb127)); have n5_ := Aside0.mk ((by rw [hg]; exact (y03 hb_) : w.heap.size ≤ gb127)); have n6_ := Aside0.mk ((by rw [hg]; exact Nat.ne_of_lt (y0c (bk_ BK122.out)) : gb122 ≠ gb127)); have n7_ := Aside0.mk ((by rw [hg]; exact Nat.ne_of_gt (y0c (bk_ BK122.out)) : gb127 ≠ gb122)); have n8_ := Aside0.mk ((by rw [hg]; exact Nat.ne_of_lt (y0c (bk_ BK125.out)) : gb125 ≠ gb127)); have n9_ := Aside0.mk ((by rw [hg]; exact Nat.ne_of_gt (y0c (bk_ BK125.out)) : gb127 ≠ gb125)); clear BK122 BK125 HB; have BK122 := n0_; have BK125 := n1_; have HB := n2_; have BK127 := n3_; have GW127 := n4_; have GE127 := n5_; have NB122_127 := n6_; have NB127_122 := n7_; have NB125_127 := n8_; have NB127_125 := n9_; clear n0_ n1_ n2_ n3_ n4_ n5_ n6_ n7_ n8_ n9_; clear hb hbox hg; have hnb45 := NB127_122.out; have hnc45 := NB122_127.out; have hnb46 := NB127_125.out; have hnc46 := NB125_127.out; obtain ⟨hcz47_0, hfz47_0⟩ := bc_ BK127.out 0 rfl; obtain ⟨hcz47_1, hfz47_1⟩ := bc_ BK127.out 1 rfl; obtain ⟨hcz47_2, hfz47_2⟩ := bc_ BK127.out 2 rfl; obtain ⟨hcz47_3, hfz47_3⟩ := bc_ BK127.out 3 rfl; obtain ⟨hcz47_4, hfz47_4⟩ := bc_ BK127.out 4 rfl; have hnb48 := NB122_125.out; have hnc48 := NB125_122.out; obtain ⟨hcz49_0, hfz49_0⟩ := bc_ BK122.out 0 rfl; obtain ⟨hcz49_1, hfz49_1⟩ := bc_ BK122.out 1 rfl; obtain ⟨hcz49_2, hfz49_2⟩ := bc_ BK122.out 2 rfl; obtain ⟨hcz49_3, hfz49_3⟩ := bc_ BK122.out 3 rfl; obtain ⟨hcz49_4, hfz49_4⟩ := bc_ BK122.out 4 rfl; obtain ⟨hcz49_5, hfz49_5⟩ := bc_ BK122.out 5 rfl; obtain ⟨hcz50_0, hfz50_0⟩ := bc_ BK125.out 0 rfl; obtain ⟨hcz50_1, hfz50_1⟩ := bc_ BK125.out 1 rfl; obtain ⟨hcz50_2, hfz50_2⟩ := bc_ BK125.out 2 rfl; obtain ⟨hcz50_3, hfz50_3⟩ := bc_ BK125.out 3 rfl; obtain ⟨hcz50_4, hfz50_4⟩ := bc_ BK125.out 4 rfl) | ((with_reducible refine y0i (f := 50) rfl ?_); refine goesL_ (some 69) rfl rfl Try.func50 (by kernel_rfl) rfl #[.agg #[.string a0_0, .string a0_1, .string a0_2, .int .i64 a0_3, .slice A0_4 l0_4.length c0_4, .slice (some ad126) l0_5.length c0_5], .agg #[.int .i64 ((y0l l0_5 x62_2).f0), .int .i64 ((y0l l0_5 x62_2).f1), .int .i64 ((y0l l0_5 x62_2).f2), .string ((y0l l0_5 x62_2).f3), .bool ((y0l l0_5 x62_2).f4)], .agg #[.int .i64 x126000_2, .int .i64 x126001_2, .int .i64 x126002_2, .string x126003_2, .bool x126004_2]] rfl ar_ ?_; (with_reducible refine (zqf.calls k2 a0_0 a0_1 a0_2 a0_3 _ _ l0_4 _ _ l0_5 ((y0l l0_5 x62_2).f0) ((y0l l0_5 x62_2).f1) ((y0l l0_5 x62_2).f2) ((y0l l0_5 x62_2).f3) ((y0l l0_5 x62_2).f4) x126000_2 x126001_2 x126002_2 x126003_2 x126004_2 t128 _ ?side1 ?side2 ?side3 ?side4 A32.out).mono ?_); (case side1 => exact Kd.C_below HR0_4.out hb_); (case side2 => exact HC0_4.out); (case side3 => exact Kd.C_below HR0_5.out hb_); (case side4 => exact HC0_5.out); rintro e w51 ⟨rfl, hb⟩; refine ⟨_, rfl, ?_⟩; have n0_ := Aside0.mk (y06 (g := gb122) (o := .cells #[.string a0_0, .string a0_1, .string a0_2, .int .i64 a0_3, .slice A0_4 l0_4.length c0_4, .slice (some ad126) l0_5.length c0_5] 25 (0, 0)) (by (with_reducible repeat (first | refine y09 ?_ _ | refine y08 ?_ | refine y05 ?_ _)); refine y0a ?_ NB122_127.out _; (with_reducible repeat (first | refine y09 ?_ _ | refine y08 ?_ | refine y05 ?_ _)); refine y0a ?_ NB122_127.out _; (with_reducible repeat (first | refine y09 ?_ _ | refine y08 ?_ | refine y05 ?_ _)); refine y0a ?_ NB122_127.out _; (with_reducible repeat (first | refine y09 ?_ _ | refine y08 ?_ | refine y05 ?_ _)); refine y0a ?_ NB122_127.out _; (with_reducible repeat (first | refine y09 ?_ _ | refine y08 ?_ | refine y05 ?_ _)); refine y0a ?_ NB122_127.out _; (with_reducible repeat (first | refine y09 ?_ _ | refine y08 ?_ | refine y05 ?_ _)); exact BK122.out) hb); have n1_ := Aside0.mk (y06 (g := gb125) (o := .cells #[.int .i64 x126000_2, .int .i64 x126001_2, .int .i64 x126002_2, .string x126003_2, .bool x126004_2] 43 (0, 0)) (by (with_reducible repeat (first | refine y09 ?_ _ | refine y08 ?_ | refine y05 ?_ _)); refine y0a ?_ NB125_127.out _; (with_reducible repeat (first | refine y09 ?_ _ | refine y08 ?_ | refine y05 ?_ _)); refine y0a ?_ NB125_127.out _; (with_reducible repeat (first | refine y09 ?_ _ | refine y08 ?_ | refine y05 ?_ _)); refine y0a ?_ NB125_127.out _; (with_reducible repeat (first | refine y09 ?_ _ | refine y08 ?_ | refine y05 ?_ _)); refine y0a ?_ NB125_127.out _; (with_reducible repeat (first | refine y09 ?_ _ | refine y08 ?_ | refine y05 ?_ _)); refine y0a ?_ NB125_127.out _; (with_reducible repeat (first | refine y09 ?_ _ | refine y08 ?_ | refine y05 ?_ _)); exact BK125.out) hb); have n2_ := Aside0.mk (y06 (g := gb127) (o := .cells #[.int .i64 ((y0l l0_5 x62_2).f0), .int .i64 ((y0l l0_5 x62_2).f1), .int .i64 ((y0l l0_5 x62_2).f2), .string ((y0l l0_5 x62_2).f3), .bool ((y0l l0_5 x62_2).f4)] 43 (0, 0)) (by (with_reducible repeat (first | refine y09 ?_ _ | refine y08 ?_ | refine y05 ?_ _)); refine y0d (cs := #[.int .i64 ((y0l l0_5 x62_2).f0), .int .i64 ((y0l l0_5 x62_2).f1), .int .i64 ((y0l l0_5 x62_2).f2), .string ((y0l l0_5 x62_2).f3), .bool false]) ?_ 4 _ rfl; (with_reducible repeat (first | refine y09 ?_ _ | refine y08 ?_ | refine y05 ?_ _)); refine y0d (cs := #[.int .i64 ((y0l l0_5 x62_2).f0), .int .i64 ((y0l l0_5 x62_2).f1), .int .i64 ((y0l l0_5 x62_2).f2), .string (⟨#[]⟩ : ByteArray), .bool false]) ?_ 3 _ rfl; (with_reducible repeat (first | refine y09 ?_ _ | refine y08 ?_ | refine y05 ?_ _)); refine y0d (cs := #[.int .i64 ((y0l l0_5 x62_2).f0), .int .i64 ((y0l l0_5 x62_2).f1), .int .i64 0, .string (⟨#[]⟩ : ByteArray), .bool false]) ?_ 2 _ rfl; (with_reducible repeat (first | refine y09 ?_ _ | refine y08 ?_ | refine y05 ?_ _)); refine y0d (cs := #[.int .i64 ((y0l l0_5 x62_2).f0), .int .i64 0, .int .i64 0, .string (⟨#[]⟩ : ByteArray), .bool false]) ?_ 1 _ rfl; (with_reducible repeat (first | refine y09 ?_ _ | refine y08 ?_ | refine y05 ?_ _)); refine y0d (cs := #[.int .i64 0, .int .i64 0, .int .i64 0, .string (⟨#[]⟩ : ByteArray), .bool false]) ?_ 0 _ rfl; (with_reducible repeat (first | refine y09 ?_ _ | refine y08 ?_ | refine y05 ?_ _)); exact BK127.out) hb); have n3_ := Aside0.mk (y04 hb_ hb); clear BK122 BK125 BK127 HB; have BK122 := n0_; have BK125 := n1_; have BK127 := n2_; have HB := n3_; clear n0_ n1_ n2_ n3_; clear hb))
              go_ret
              exact ⟨ew_, hb_⟩
            ·rw [if_neg c31] at H
             exact absurd H (by simp)
           ·rw [if_neg c30] at H
            exact absurd H (by simp)
          ·rw [if_neg c29] at H
           have c29b0 : decide (x62_2 < (l0_5.length : Int)) = false := decide_eq_false c29
           clear c29
           obtain rfl := Option.some.inj H
           go_wp2
           go_ret
           exact ⟨ew_, hb_⟩
       ·rw [if_neg c22] at H
        have c22b0 : (t124 == 0) = false := beq_eq_false_iff_ne.mpr c22
        have c22b1 : (t124 != 0) = true := bne_iff_ne.mpr c22
        obtain rfl := Option.some.inj H
        obtain ⟨hcz52_0, hfz52_0⟩ := bc_ BK122.out 0 rfl
        obtain ⟨hcz52_1, hfz52_1⟩ := bc_ BK122.out 1 rfl
        obtain ⟨hcz52_2, hfz52_2⟩ := bc_ BK122.out 2 rfl
        obtain ⟨hcz52_3, hfz52_3⟩ := bc_ BK122.out 3 rfl
        obtain ⟨hcz52_4, hfz52_4⟩ := bc_ BK122.out 4 rfl
        obtain ⟨hcz52_5, hfz52_5⟩ := bc_ BK122.out 5 rfl
        go_wp2_with (first | ((with_reducible refine y0i (f := 49) rfl ?_); refine goesL_ (some 54) rfl rfl Try.func49 (by kernel_rfl) rfl #[.slice A0_4 l0_4.length c0_4] rfl ar_ ?_; (with_reducible refine (zq8.calls kj3 _ _ l0_4 t124 _ ?side1 ?side2 A21.out).mono ?_); (case side1 => repeat (first | exact (Kd.C_below HR0_4.out HB.out) | (with_reducible refine Kd.C_alloc ?_ _) | (with_reducible refine Kd.C_drewN ?_ _) | (with_reducible refine Kd.C_drew ?_))); (case side2 => exact HC0_4.out); rintro e w53 ⟨rfl, hb⟩; refine ⟨_, rfl, ?_⟩; have n0_ := Aside0.mk (y06 (bk_ BK122.out) hb); have n1_ := Aside0.mk (y04 hb_ hb); clear BK122 HB; have BK122 := n0_; have HB := n1_; clear n0_ n1_; clear hb))
        go_ret
        exact ⟨ew_, hb_⟩
     ·rw [if_neg c18] at H
      have c18b0 : (((a0_1.size : Int) % 2) == 0) = false := beq_eq_false_iff_ne.mpr c18
      have c18b1 : (((a0_1.size : Int) % 2) != 0) = true := bne_iff_ne.mpr c18
      obtain rfl := Option.some.inj H
      obtain ⟨hcz54_0, hfz54_0⟩ := bc_ BK122.out 0 rfl
      obtain ⟨hcz54_1, hfz54_1⟩ := bc_ BK122.out 1 rfl
      obtain ⟨hcz54_2, hfz54_2⟩ := bc_ BK122.out 2 rfl
      obtain ⟨hcz54_3, hfz54_3⟩ := bc_ BK122.out 3 rfl
      obtain ⟨hcz54_4, hfz54_4⟩ := bc_ BK122.out 4 rfl
      obtain ⟨hcz54_5, hfz54_5⟩ := bc_ BK122.out 5 rfl
      go_wp2
      go_ret
      exact ⟨ew_, hb_⟩
 ·replace c3 := Bool.eq_false_iff.mpr c3
  subst c3
  have H1 : (some 4) = some r := by rw [if_neg (show ¬ (false = true) by decide)] at H; exact H
  clear H
  have H := H1
  clear H1
  obtain rfl := Option.some.inj H
  go_enter Try.func18, Try.ntmps18
  go_wp2_with (first | ((with_reducible refine y0j (N := 1) rfl ?_); (try (refine gate_guard (by rfl) ?_; dsimp only)); refine y0e ?hg (N := 1) ?hd (cs := #[.string a0_0, .string a0_1, .string a0_2, .int .i64 a0_3, .slice A0_4 l0_4.length c0_4, .slice A0_5 l0_5.length c0_5]) (t := 25) ?hr ?_; (case hd => rfl); (case hg => rfl); (case hr => first | (go_simp; done) | (go_simp; rfl)); intro gb122 hg w55 hbox hb; have n0_ := Aside0.mk (y04 hb_ hb); have n1_ := Aside0.mk (hbox); have n2_ := Aside0.mk ((by rw [hg]; exact (y03 hb_) : w.heap.size ≤ gb122)); have n3_ := Aside0.mk ((by rw [hg]; exact (y03 hb_) : w.heap.size ≤ gb122)); clear HB; have HB := n0_; have BK122 := n1_; have GW122 := n2_; have GE122 := n3_; clear n0_ n1_ n2_ n3_; clear hb hbox hg; obtain ⟨hcz56_0, hfz56_0⟩ := bc_ BK122.out 0 rfl; obtain ⟨hcz56_1, hfz56_1⟩ := bc_ BK122.out 1 rfl; obtain ⟨hcz56_2, hfz56_2⟩ := bc_ BK122.out 2 rfl; obtain ⟨hcz56_3, hfz56_3⟩ := bc_ BK122.out 3 rfl; obtain ⟨hcz56_4, hfz56_4⟩ := bc_ BK122.out 4 rfl; obtain ⟨hcz56_5, hfz56_5⟩ := bc_ BK122.out 5 rfl) | ((with_reducible refine y0i (f := 48) rfl ?_); refine goesL_ (some 11) rfl rfl Try.func48 (by kernel_rfl) rfl #[.string a0_0] rfl ar_ ?_; (with_reducible refine (zql.calls k a0_0 false _ A2.out).mono ?_); rintro e w57 ⟨rfl, hb⟩; refine ⟨_, rfl, ?_⟩; have n0_ := Aside0.mk (y06 (bk_ BK122.out) hb); have n1_ := Aside0.mk (y04 hb_ hb); clear BK122 HB; have BK122 := n0_; have HB := n1_; clear n0_ n1_; clear hb))
  go_ret
  exact ⟨ew_, hb_⟩
end Go.Proofs.Ytenlmckahaniiaa.K
end
section
namespace Go.Proofs
open Go.Shelf
def Try.lays169_ren : Go.Shelf.Ren := ⟨fun | 169 => 94 | n => n, fun | 70 => 102 | 9 => 9 | 0 => 0 | 72 => 104 | 37 => 39 | 127 => 116 | 3 => 3 | 5 => 5 | n => n, fun | n => n⟩
theorem Try.lays169 : Go.Proofs.Lays.n169 Try.prog Try.lays169_ren := {
  mixed := by kernel_rfl
  f169 := Try.func94.trans (congrArg some (by kernel_rfl))
  t0 := Try.underlying0
  a0 := Try.isAgg0
  z0 := Try.sizeOf0
  v0 := Try.zeroValue0
  t3 := Try.underlying3
  a3 := Try.isAgg3
  z3 := Try.sizeOf3
  v3 := Try.zeroValue3
  t9 := Try.underlying9
  a9 := Try.isAgg9
  z9 := Try.sizeOf9
  v9 := Try.zeroValue9
  t37 := Try.underlying39
  a37 := Try.isAgg39
  z37 := Try.sizeOf39
  v37 := Try.zeroValue39
  t70 := Try.underlying102
  a70 := Try.isAgg102
  z70 := Try.sizeOf102
  v70 := Try.zeroValue102
  t72 := Try.underlying104
  a72 := Try.isAgg104
  z72 := Try.sizeOf104
  v72 := Try.zeroValue104
  t127 := Try.underlying116
  a127 := Try.isAgg116
  z127 := Try.sizeOf116
  v127 := Try.zeroValue116 }
theorem Try.Builder_Extra_169 : Builder.Extra Try.prog Try.lays169_ren := {
  sizeBuilder := by kernel_rfl
  liesBuilder := by kernel_rfl
  t5 := Try.underlying5
  a5 := Try.isAgg5
  z5 := Try.sizeOf5
  v5 := Try.zeroValue5
  infoByte := by kernel_rfl
  cellsByte := by kernel_rfl
  sizeByte := by kernel_rfl
  neB5 := by decide }
open Go.RowKit in
theorem Try.Builder_String_any (B b : Nat) (l : List UInt8) (w : World) (h : Lib.IsBuilder 104 5 B b (Lib.byteCells l) w) (hBw : B ≤ w.heap.size) :
    Calls Try.prog 94 #[.pointer (some ⟨b, 0, none⟩)] w fun e w' => e = .returned (.string ⟨l.toArray⟩) ∧ Below B w w' := Any.Builder_String_any Try.lays169 Try.Builder_Extra_169 B b l w h hBw
def Try.lays190_ren : Go.Shelf.Ren := ⟨fun | 190 => 70 | 125 => 100 | 258 => 99 | 128 => 113 | 129 => 114 | 302 => 104 | 303 => 105 | 304 => 106 | 305 => 107 | 306 => 108 | 307 => 109 | 308 => 110 | 309 => 111 | 310 => 112 | 333 => 117 | 329 => 118 | 330 => 119 | 334 => 120 | 335 => 121 | 336 => 122 | 344 => 123 | n => n, fun | 31 => 33 | 9 => 9 | 3 => 3 | 46 => 110 | 0 => 0 | 51 => 109 | 53 => 126 | 4 => 4 | 183 => 119 | 182 => 118 | 131 => 48 | 5 => 5 | 218 => 129 | 222 => 133 | 228 => 135 | 229 => 136 | n => n, fun | n => n⟩
theorem Try.lays190 : Go.Proofs.Lays.n190 Try.prog Try.lays190_ren := {
  mixed := by kernel_rfl
  f125 := Try.func100.trans (congrArg some (by kernel_rfl))
  f128 := Try.func113.trans (congrArg some (by kernel_rfl))
  f129 := Try.func114.trans (congrArg some (by kernel_rfl))
  f190 := Try.func70.trans (congrArg some (by kernel_rfl))
  f258 := Try.func99.trans (congrArg some (by kernel_rfl))
  f302 := Try.func104.trans (congrArg some (by kernel_rfl))
  f303 := Try.func105.trans (congrArg some (by kernel_rfl))
  f304 := Try.func106.trans (congrArg some (by kernel_rfl))
  f305 := Try.func107.trans (congrArg some (by kernel_rfl))
  f306 := Try.func108.trans (congrArg some (by kernel_rfl))
  f307 := Try.func109.trans (congrArg some (by kernel_rfl))
  f308 := Try.func110.trans (congrArg some (by kernel_rfl))
  f309 := Try.func111.trans (congrArg some (by kernel_rfl))
  f310 := Try.func112.trans (congrArg some (by kernel_rfl))
  f329 := Try.func118.trans (congrArg some (by kernel_rfl))
  f330 := Try.func119.trans (congrArg some (by kernel_rfl))
  f333 := Try.func117.trans (congrArg some (by kernel_rfl))
  f334 := Try.func120.trans (congrArg some (by kernel_rfl))
  f335 := Try.func121.trans (congrArg some (by kernel_rfl))
  f336 := Try.func122.trans (congrArg some (by kernel_rfl))
  f344 := Try.func123.trans (congrArg some (by kernel_rfl))
  t0 := Try.underlying0
  a0 := Try.isAgg0
  z0 := Try.sizeOf0
  v0 := Try.zeroValue0
  t3 := Try.underlying3
  a3 := Try.isAgg3
  z3 := Try.sizeOf3
  v3 := Try.zeroValue3
  t4 := Try.underlying4
  a4 := Try.isAgg4
  z4 := Try.sizeOf4
  v4 := Try.zeroValue4
  t5 := Try.underlying5
  a5 := Try.isAgg5
  z5 := Try.sizeOf5
  v5 := Try.zeroValue5
  t9 := Try.underlying9
  a9 := Try.isAgg9
  z9 := Try.sizeOf9
  v9 := Try.zeroValue9
  t31 := Try.underlying33
  a31 := Try.isAgg33
  z31 := Try.sizeOf33
  v31 := Try.zeroValue33
  t46 := Try.underlying110
  a46 := Try.isAgg110
  z46 := Try.sizeOf110
  v46 := Try.zeroValue110
  t51 := Try.underlying109
  a51 := Try.isAgg109
  z51 := Try.sizeOf109
  v51 := Try.zeroValue109
  t53 := Try.underlying126
  a53 := Try.isAgg126
  z53 := Try.sizeOf126
  v53 := Try.zeroValue126
  t131 := Try.underlying48
  a131 := Try.isAgg48
  z131 := Try.sizeOf48
  v131 := Try.zeroValue48
  t182 := Try.underlying118
  a182 := Try.isAgg118
  z182 := Try.sizeOf118
  v182 := Try.zeroValue118
  t183 := Try.underlying119
  a183 := Try.isAgg119
  z183 := Try.sizeOf119
  v183 := Try.zeroValue119
  t218 := Try.underlying129
  a218 := Try.isAgg129
  z218 := Try.sizeOf129
  v218 := Try.zeroValue129
  t222 := Try.underlying133
  a222 := Try.isAgg133
  z222 := Try.sizeOf133
  v222 := Try.zeroValue133
  t228 := Try.underlying135
  a228 := Try.isAgg135
  z228 := Try.sizeOf135
  v228 := Try.zeroValue135
  t229 := Try.underlying136
  a229 := Try.isAgg136
  z229 := Try.sizeOf136
  v229 := Try.zeroValue136 }
open Go.Sort Go.RowKit in
theorem Try.slices_Sort_string (blk off cap : Nat) (ss : List (List UInt8)) (w : World) (hH : Holds encStr w blk off ss.toArray) (hblk : blk < w.heap.size) (hsz : ss.length < 4611686018427387904) :
    Calls Try.prog 70 #[.slice (some ⟨blk, off, none⟩) ss.length cap] w fun e w' =>
      e = .returned (.tuple #[]) ∧ ∃ n os, w' = grow (putRow encStr (Sort.ahead w n) blk off (ss.mergeSort fun x y => decide (x ≤ y)).toArray) os := Any.slices_Sort_string Try.lays190 blk off cap ss w hH hblk hsz
def Try.lays194_ren : Go.Shelf.Ren := ⟨fun | 194 => 71 | n => n, fun | 31 => 33 | 9 => 9 | 3 => 3 | 4 => 4 | 0 => 0 | n => n, fun | n => n⟩
theorem Try.lays194 : Go.Proofs.Lays.n194 Try.prog Try.lays194_ren := {
  mixed := by kernel_rfl
  f194 := Try.func71.trans (congrArg some (by kernel_rfl))
  t0 := Try.underlying0
  a0 := Try.isAgg0
  z0 := Try.sizeOf0
  v0 := Try.zeroValue0
  t3 := Try.underlying3
  a3 := Try.isAgg3
  z3 := Try.sizeOf3
  v3 := Try.zeroValue3
  t4 := Try.underlying4
  a4 := Try.isAgg4
  z4 := Try.sizeOf4
  v4 := Try.zeroValue4
  t9 := Try.underlying9
  a9 := Try.isAgg9
  z9 := Try.sizeOf9
  v9 := Try.zeroValue9
  t31 := Try.underlying33
  a31 := Try.isAgg33
  z31 := Try.sizeOf33
  v31 := Try.zeroValue33 }
open Go.RowKit Go.Lib Go.Sort in
theorem Try.slices_Compact_string (blk off cap : Nat) (zs : List (List UInt8)) (w : World) (hH : Holds encStr w blk off zs.toArray) (hsz : zs.length ≤ 9223372036854775807) (hcap : zs.length ≤ cap) :
    Calls Try.prog 71 #[.slice (some ⟨blk, off, none⟩) zs.length cap] w fun e w' => e = .returned (.slice (some ⟨blk, off, none⟩) (Lib.compact zs).length cap) ∧ ∃ q, w' = putRow encStr (Sort.ahead w q) blk off (Lib.compact zs ++ List.replicate (zs.length - (Lib.compact zs).length) []).toArray := Any.slices_Compact_string Try.lays194 blk off cap zs w hH hsz hcap
open Go.RowKit Go.Lib Go.Sort in
theorem Try.slices_Compact_string_empty (a : Option Addr) (cap : Nat) (w : World) :
    Calls Try.prog 71 #[.slice a 0 cap] w fun e w' => e = .returned (.slice a 0 cap) ∧ w' = w := Any.slices_Compact_string_empty Try.lays194 a cap w
open Go.RowKit Go.Sort in
theorem Try.slices_Sort_string_none (p : Option Addr) (cap : Nat) (w : World) :
    Calls Try.prog 70 #[.slice p 0 cap] w fun e w' => e = .returned (.tuple #[]) ∧ w' = w := Any.slices_Sort_string_none Try.lays190 p cap w
def Try.lays166_ren : Go.Shelf.Ren := ⟨fun | 166 => 91 | 240 => 103 | 276 => 116 | n => n, fun | 0 => 0 | 3 => 3 | 4 => 4 | 9 => 9 | 20 => 20 | 37 => 39 | 70 => 102 | 72 => 104 | 75 => 106 | 164 => 127 | 5 => 5 | 80 => 75 | n => n, fun | n => n⟩
theorem Try.lays166 : Go.Proofs.Lays.n166 Try.prog Try.lays166_ren := {
  mixed := by kernel_rfl
  f166 := Try.func91.trans (congrArg some (by kernel_rfl))
  f240 := Try.func103.trans (congrArg some (by kernel_rfl))
  f276 := Try.func116.trans (congrArg some (by kernel_rfl))
  t0 := Try.underlying0
  a0 := Try.isAgg0
  z0 := Try.sizeOf0
  v0 := Try.zeroValue0
  t3 := Try.underlying3
  a3 := Try.isAgg3
  z3 := Try.sizeOf3
  v3 := Try.zeroValue3
  t4 := Try.underlying4
  a4 := Try.isAgg4
  z4 := Try.sizeOf4
  v4 := Try.zeroValue4
  t9 := Try.underlying9
  a9 := Try.isAgg9
  z9 := Try.sizeOf9
  v9 := Try.zeroValue9
  t20 := Try.underlying20
  a20 := Try.isAgg20
  z20 := Try.sizeOf20
  v20 := Try.zeroValue20
  t37 := Try.underlying39
  a37 := Try.isAgg39
  z37 := Try.sizeOf39
  v37 := Try.zeroValue39
  t70 := Try.underlying102
  a70 := Try.isAgg102
  z70 := Try.sizeOf102
  v70 := Try.zeroValue102
  t72 := Try.underlying104
  a72 := Try.isAgg104
  z72 := Try.sizeOf104
  v72 := Try.zeroValue104
  t75 := Try.underlying106
  a75 := Try.isAgg106
  z75 := Try.sizeOf106
  v75 := Try.zeroValue106
  t164 := Try.underlying127
  a164 := Try.isAgg127
  z164 := Try.sizeOf127
  v164 := Try.zeroValue127 }
theorem Try.Builder_Extra_166 : Builder.Extra Try.prog Try.lays166_ren := {
  sizeBuilder := by kernel_rfl
  liesBuilder := by kernel_rfl
  t5 := Try.underlying5
  a5 := Try.isAgg5
  z5 := Try.sizeOf5
  v5 := Try.zeroValue5
  infoByte := by kernel_rfl
  cellsByte := by kernel_rfl
  sizeByte := by kernel_rfl
  neB5 := by decide }
open Go.RowKit in
theorem Try.Builder_WriteString (B b : Nat) (bs : List Value) (s : ByteArray) (w : World) (h : Lib.IsBuilder 104 5 B b bs w) (hlen : bs.length + s.size ≤ 140737488355328) (hBw : B ≤ w.heap.size) :
    Calls Try.prog 91 #[.pointer (some ⟨b, 0, none⟩), .string s] w fun e w' => e = .returned (.tuple #[.int .i64 s.size, .nilIface]) ∧ (Lib.BuilderAt 104 5 B b (.pointer (some ⟨b, 0, none⟩)) (bs ++ Lib.strCells s) w' ∧ Below B w w') := Any.Builder_WriteString Try.lays166 Try.Builder_Extra_166 B b bs s w h hlen hBw
end Go.Proofs
end
