/- Lemmas for the law LibrarySelects: what its proof needs beyond what it shares. -/
import Derived.Test.YtenlmckahaniiaaZLibrarySelects0
set_option linter.unusedVariables false
set_option linter.unusedSimpArgs false
set_option linter.unusedSectionVars false
set_option maxHeartbeats 8000000
set_option maxRecDepth 100000
section
namespace Go.Proofs.Ytenlmckahaniiaa.K
open Go.RowKit Go.Proofs.YtenlmckahaniiaaW.PrintWords Go.Proofs.YtenlmckahaniiaaW.PrintLast
mutual
def zqi.l0 : Nat → List ByteArray → Int → ByteArray → ByteArray → ByteArray → Int → List (S62) → List (S43) → Option (List ByteArray)
  | 0, _, _, _, _, _, _, _, _ => none
  | k + 1, x3, x4, x623000, x623001, x623002, x623003, x623004, x623005 => if x4 < (x623005.length : Int) then (if 0 ≤ x4 then (if ((y0r x623005 x4).f2) = 4 then (zqi.l1 k x3 x4 ((y0r x623005 x4).f3) 0 x623000 x623001 x623002 x623003 x623004 x623005) else (zqi.l0 k x3 (wrap64 (x4 + 1)) x623000 x623001 x623002 x623003 x623004 x623005)) else (none)) else (some x3)
def zqi.l1 : Nat → List ByteArray → Int → ByteArray → Int → ByteArray → ByteArray → ByteArray → Int → List (S62) → List (S43) → Option (List ByteArray)
  | 0, _, _, _, _, _, _, _, _, _, _ => none
  | k + 1, x3, x4, x5, x6, x623000, x623001, x623002, x623003, x623004, x623005 => if x6 < (x3.length : Int) then (if 0 ≤ x6 then (if (Op.bytesLess ((rdOf ByteArray.empty x3 x6).toList) x5.toList) = true then (zqi.l1 k x3 x4 x5 (wrap64 (x6 + 1)) x623000 x623001 x623002 x623003 x623004 x623005) else (if x6 = (x3.length : Int) then (if x6 ≤ (x3.length : Int) then ((some (x3.take (x6 : Int).toNat : List ByteArray)).bind fun y626 => (if ([] : List ByteArray).length + y626.length < 8796093022208 then ((some (([] : List ByteArray) ++ y626 : List ByteArray)).bind fun y630 => (if y630.length < 8796093022208 then ((some (y630 ++ [x5] : List ByteArray)).bind fun y633 => ((some (x3.drop (x6 : Int).toNat : List ByteArray)).bind fun y636 => (if y633.length + y636.length < 8796093022208 then (zqi.l0 k (y633 ++ y636) (wrap64 (x4 + 1)) x623000 x623001 x623002 x623003 x623004 x623005) else (none)))) else (none))) else (none))) else (none)) else (if (rdOf ByteArray.empty x3 x6).toList = x5.toList then (zqi.l0 k x3 (wrap64 (x4 + 1)) x623000 x623001 x623002 x623003 x623004 x623005) else (if x6 ≤ (x3.length : Int) then ((some (x3.take (x6 : Int).toNat : List ByteArray)).bind fun y644 => (if ([] : List ByteArray).length + y644.length < 8796093022208 then ((some (([] : List ByteArray) ++ y644 : List ByteArray)).bind fun y648 => (if y648.length < 8796093022208 then ((some (y648 ++ [x5] : List ByteArray)).bind fun y651 => ((some (x3.drop (x6 : Int).toNat : List ByteArray)).bind fun y654 => (if y651.length + y654.length < 8796093022208 then (zqi.l0 k (y651 ++ y654) (wrap64 (x4 + 1)) x623000 x623001 x623002 x623003 x623004 x623005) else (none)))) else (none))) else (none))) else (none))))) else (none)) else (if x6 = (x3.length : Int) then (if 0 ≤ x6 then (if x6 ≤ (x3.length : Int) then ((some (x3.take (x6 : Int).toNat : List ByteArray)).bind fun y661 => (if ([] : List ByteArray).length + y661.length < 8796093022208 then ((some (([] : List ByteArray) ++ y661 : List ByteArray)).bind fun y665 => (if y665.length < 8796093022208 then ((some (y665 ++ [x5] : List ByteArray)).bind fun y668 => ((some (x3.drop (x6 : Int).toNat : List ByteArray)).bind fun y671 => (if y668.length + y671.length < 8796093022208 then (zqi.l0 k (y668 ++ y671) (wrap64 (x4 + 1)) x623000 x623001 x623002 x623003 x623004 x623005) else (none)))) else (none))) else (none))) else (none)) else (none)) else (if 0 ≤ x6 then (none) else (none)))
end
def zqi.f (k : Nat) (a0_0 : ByteArray) (a0_1 : ByteArray) (a0_2 : ByteArray) (a0_3 : Int) (l0_4 : List (S62)) (l0_5 : List (S43)) : Option (List ByteArray) := zqi.l0 k ([] : List ByteArray) 0 a0_0 a0_1 a0_2 a0_3 l0_4 l0_5
theorem zqi.calls (k : Nat) (a0_0 : ByteArray) (a0_1 : ByteArray) (a0_2 : ByteArray) (a0_3 : Int) (A0_4 : Option Addr) (c0_4 : Nat) (l0_4 : List (S62)) (A0_5 : Option Addr) (c0_5 : Nat) (l0_5 : List (S43)) (r : List ByteArray) (w : World) (hr0_4 : Kd.C k62 w A0_4 l0_4.length l0_4) (hc0_4 : l0_4.length ≤ c0_4) (hr0_5 : Kd.C k43 w A0_5 l0_5.length l0_5) (hc0_5 : l0_5.length ≤ c0_5) (h : zqi.f k a0_0 a0_1 a0_2 a0_3 l0_4 l0_5 = some r) :
  Calls Try.prog 28 #[.agg #[.string a0_0, .string a0_1, .string a0_2, .int .i64 a0_3, .slice A0_4 l0_4.length c0_4, .slice A0_5 l0_5.length c0_5]] w fun e w' => ∃ v0_ : Value, e = .returned (v0_) ∧ Kd.R Kd.string 9 w' w.heap.size (fun _ => True) v0_ r ∧ Below w.heap.size w w' := by
 have hu25 := Try.underlying25
 have HR0_4 := q_ hr0_4
 have HC0_4 := q_ hc0_4
 clear hr0_4 hc0_4
 have HR0_5 := q_ hr0_5
 have HC0_5 := q_ hc0_5
 clear hr0_5 hc0_5
 have HB := q_ (Below.refl w.heap.size w)
 have H : (zqi.l0 k ([] : List ByteArray) 0 a0_0 a0_1 a0_2 a0_3 l0_4 l0_5) = some r := h
 clear h
 have H' := q_ H
 clear H
 go_enter Try.func28, Try.ntmps28
 go_wp2_with (first | ((with_reducible refine y0k (N := 1) rfl ?_); refine y0g ?hg (N := 1) ?hd (cs := #[.string a0_0, .string a0_1, .string a0_2, .int .i64 a0_3, .slice A0_4 l0_4.length c0_4, .slice A0_5 l0_5.length c0_5]) (t := 25) ?hr ?_; (case hd => rfl); (case hg => rfl); (case hr => first | (go_simp; done) | (go_simp; rfl)); intro gb622 hg w2 hbox hb; have n0_ := q_ (y05 hb_ hb); have n1_ := q_ (hbox); have n2_ := q_ ((by rw [hg]; exact (y04 hb_) : w.heap.size ≤ gb622)); have n3_ := q_ ((by rw [hg]; exact (y04 hb_) : w.heap.size ≤ gb622)); clear HB; have HB := n0_; have BK622 := n1_; have GW622 := n2_; have GE622 := n3_; clear n0_ n1_ n2_ n3_; clear hb hbox hg))
 go_loopg [3, 4] k (fun kq v3 v4 w' => ∃ (x3_1 : List ByteArray) (x4_1 : Int), v4 = .int .i64 x4_1 ∧ Aside0 (zqi.l0 kq x3_1 x4_1 a0_0 a0_1 a0_2 a0_3 l0_4 l0_5 = some r) ∧ Aside0 (kq ≤ k) ∧ Aside0 (Kd.R Kd.string 9 w' w.heap.size (fun _ => True) v3 x3_1) ∧ Aside0 (w'.heap[gb622]? = some (.cells #[.string a0_0, .string a0_1, .string a0_2, .int .i64 a0_3, (.slice A0_4 l0_4.length c0_4), (.slice A0_5 l0_5.length c0_5)] 25 (0, 0))) ∧ Aside0 (Below w.heap.size w w'))
 case atStart => exact ⟨(([] : List ByteArray)), (0), cl_, H', ⟨Nat.le_refl _⟩, ⟨by first | exact Kd.R_nil _ _ _ _ _ | exact Kd.N_nil _ _ _ _ _ | exact Kd.V_nil _ _ _ _ _ | exact Kd.Q_nil _ _ _ _ _ | exact Kd.S_nil _ _ _ _ _⟩, ⟨bk_ BK622.out⟩, ⟨hb_⟩⟩
 case round =>
  clear H'
  (try clear c2); (try clear p2)
  obtain ⟨x3_1, x4_1, rfl, HA, HK1, HO_3, BK622, HB⟩ := hrel
  cases gk with
  | zero => exact absurd HA.out (by simp [zqi.l0])
  | succ k1 =>
   have H := HA.out
   clear HA
   simp only [zqi.l0] at H
   by_cases c3 : x4_1 < (l0_5.length : Int)
   rotate_left
   ·rw [if_neg c3] at H
    have c3b0 : decide (x4_1 < (l0_5.length : Int)) = false := decide_eq_false c3
    clear c3
    obtain rfl := Option.some.inj H
    obtain ⟨hcz56_0, hfz56_0, hcz56_1, hfz56_1, hcz56_2, hfz56_2, hcz56_3, hfz56_3, hcz56_4, hfz56_4, hcz56_5, hfz56_5⟩ := b6_ BK622.out
    go_wp2
    go_ret
    exact ⟨_, ew_, rk_ HO_3.out, hb_⟩
   rw [if_pos c3] at H
   have c3b0 : decide (x4_1 < (l0_5.length : Int)) = true := decide_eq_true c3
   clear c3
   by_cases c4 : 0 ≤ x4_1
   rotate_left
   ·rw [if_neg c4] at H
    exact absurd H (by simp)
   rw [if_pos c4] at H
   have c4b0 : decide (0 ≤ x4_1) = true := decide_eq_true c4
   clear c4
   by_cases c5 : ((y0r l0_5 x4_1).f2) = 4
   rotate_left
   ·rw [if_neg c5] at H
    have c5b0 : (((y0r l0_5 x4_1).f2) == 4) = false := beq_eq_false_iff_ne.mpr c5
    have c5b1 : (((y0r l0_5 x4_1).f2) != 4) = true := bne_iff_ne.mpr c5
    have H' := q_ H
    clear H
    obtain ⟨hcz55_0, hfz55_0, hcz55_1, hfz55_1, hcz55_2, hfz55_2, hcz55_3, hfz55_3, hcz55_4, hfz55_4, hcz55_5, hfz55_5⟩ := b6_ BK622.out
    have p623 : 0 ≤ (x4_1 : Int) := oa_
    have q623 : x4_1 < (l0_5.length : Int) := oa_
    obtain ⟨ad623, e623, hx623_0, hx623_1, hx623_2, hx623_3, hx623_4⟩ := at_T43 HR0_5.out x4_1 p623 q623
    cases e623
    replace hx623_0 := cb_ HB.out hx623_0
    replace hx623_1 := cb_ HB.out hx623_1
    replace hx623_2 := cb_ HB.out hx623_2
    replace hx623_3 := cb_ HB.out hx623_3
    replace hx623_4 := cb_ HB.out hx623_4
    replace p623 := eq_true p623
    replace q623 := eq_true q623
    go_wp2
    go_roundg k1
    case measure => have := HK1.out; omega
    case rel => exact ⟨(x3_1), (wrap64 (x4_1 + 1)), cl_, H', ⟨by have := HK1.out; omega⟩, ⟨rk_ HO_3.out⟩, ⟨bk_ BK622.out⟩, ⟨hb_⟩⟩
   rw [if_pos c5] at H
   have c5b0 : (((y0r l0_5 x4_1).f2) == 4) = true := beq_iff_eq.mpr c5
   have c5b1 : (((y0r l0_5 x4_1).f2) != 4) = false := bne_eq_false_iff_eq.mpr c5
   clear c5
   have H' := q_ H
   clear H
   obtain ⟨hcz6_0, hfz6_0, hcz6_1, hfz6_1, hcz6_2, hfz6_2, hcz6_3, hfz6_3, hcz6_4, hfz6_4, hcz6_5, hfz6_5⟩ := b6_ BK622.out
   have p623 : 0 ≤ (x4_1 : Int) := oa_
   have q623 : x4_1 < (l0_5.length : Int) := oa_
   obtain ⟨ad623, e623, hx623_0, hx623_1, hx623_2, hx623_3, hx623_4⟩ := at_T43 HR0_5.out x4_1 p623 q623
   cases e623
   replace hx623_0 := cb_ HB.out hx623_0
   replace hx623_1 := cb_ HB.out hx623_1
   replace hx623_2 := cb_ HB.out hx623_2
   replace hx623_3 := cb_ HB.out hx623_3
   replace hx623_4 := cb_ HB.out hx623_4
   replace p623 := eq_true p623
   replace q623 := eq_true q623
   have p624 : 0 ≤ (x4_1 : Int) := oa_
   have q624 : x4_1 < (l0_5.length : Int) := oa_
   obtain ⟨ad624, e624, hx624_0, hx624_1, hx624_2, hx624_3, hx624_4⟩ := at_T43 HR0_5.out x4_1 p624 q624
   obtain rfl : ad623 = ad624 := (by injection e624)
   replace hx624_0 := cb_ HB.out hx624_0
   replace hx624_1 := cb_ HB.out hx624_1
   replace hx624_2 := cb_ HB.out hx624_2
   replace hx624_3 := cb_ HB.out hx624_3
   replace hx624_4 := cb_ HB.out hx624_4
   replace p624 := eq_true p624
   replace q624 := eq_true q624
   go_wp2
   go_loopg [6] k1 (fun kq v6 w' => ∃ (x6_2 : Int), v6 = .int .i64 x6_2 ∧ Aside0 (zqi.l1 kq x3_1 x4_1 ((y0r l0_5 x4_1).f3) x6_2 a0_0 a0_1 a0_2 a0_3 l0_4 l0_5 = some r) ∧ Aside0 (kq ≤ k1) ∧ Aside0 (Kd.R Kd.string 9 w' w.heap.size (fun _ => True) u3 x3_1) ∧ Aside0 (w'.heap[gb622]? = some (.cells #[.string a0_0, .string a0_1, .string a0_2, .int .i64 a0_3, (.slice A0_4 l0_4.length c0_4), (.slice (some ad623) l0_5.length c0_5)] 25 (0, 0))) ∧ Aside0 (Below w.heap.size w w'))
   case atStart => exact ⟨(0), cl_, H', ⟨Nat.le_refl _⟩, ⟨rk_ HO_3.out⟩, ⟨bk_ BK622.out⟩, ⟨hb_⟩⟩
   case round =>
    clear H'
    (try clear c2); (try clear p2); (try clear c3); (try clear c3b0); (try clear c4); (try clear c4b0); (try clear c5); (try clear c5b0); (try clear c5b1); (try clear p6); (try clear q6); (try clear hx6); (try clear hcz6_0); (try clear hcz6_1); (try clear hcz6_2); (try clear hcz6_3); (try clear hcz6_4); (try clear hcz6_5); (try clear hfz6_0); (try clear hfz6_1); (try clear hfz6_2); (try clear hfz6_3); (try clear hfz6_4); (try clear hfz6_5); (try clear hx623_0); (try clear hx623_1); (try clear hx623_2); (try clear hx623_3); (try clear hx623_4); (try clear hx624_0); (try clear hx624_1); (try clear hx624_2); (try clear hx624_3); (try clear hx624_4); (try clear p2); (try clear p623); (try clear p624); (try clear q623); (try clear q624)
    obtain ⟨x6_2, rfl, HA, HK2, HO_3, BK622, HB⟩ := hrel
    cases gk with
    | zero => exact absurd HA.out (by simp [zqi.l1])
    | succ k2 =>
     have H := HA.out
     clear HA
     simp only [zqi.l1] at H
     by_cases c7 : x6_2 < (x3_1.length : Int)
     rotate_left
     ·rw [if_neg c7] at H
      have c7b0 : decide (x6_2 < (x3_1.length : Int)) = false := decide_eq_false c7
      clear c7
      by_cases c40 : x6_2 = (x3_1.length : Int)
      rotate_left
      ·rw [if_neg c40] at H
       have c40b0 : (x6_2 == (x3_1.length : Int)) = false := beq_eq_false_iff_ne.mpr c40
       have c40b1 : (x6_2 != (x3_1.length : Int)) = true := bne_iff_ne.mpr c40
       by_cases c54 : 0 ≤ x6_2
       ·rw [if_pos c54] at H
        exact absurd H (by simp)
       ·rw [if_neg c54] at H
        exact absurd H (by simp)
      rw [if_pos c40] at H
      have c40b0 : (x6_2 == (x3_1.length : Int)) = true := beq_iff_eq.mpr c40
      have c40b1 : (x6_2 != (x3_1.length : Int)) = false := bne_eq_false_iff_eq.mpr c40
      clear c40
      by_cases c41 : 0 ≤ x6_2
      rotate_left
      ·rw [if_neg c41] at H
       exact absurd H (by simp)
      rw [if_pos c41] at H
      have c41b0 := eq_true c41
      have c41b1 : decide (0 ≤ x6_2) = true := decide_eq_true c41
      clear c41
      by_cases c42 : x6_2 ≤ (x3_1.length : Int)
      rotate_left
      ·rw [if_neg c42] at H
       exact absurd H (by simp)
      rw [if_pos c42] at H
      have c42b0 := eq_true c42
      have c42b1 : decide (x6_2 ≤ (x3_1.length : Int)) = true := decide_eq_true c42
      clear c42
      obtain ⟨y661, hy661⟩ : ∃ y_ : List ByteArray, y_ = (x3_1.take (x6_2 : Int).toNat) := ⟨_, rfl⟩
      replace H : (if ([] : List ByteArray).length + y661.length < 8796093022208 then ((some (([] : List ByteArray) ++ y661 : List ByteArray)).bind fun y665 => (if y665.length < 8796093022208 then ((some (y665 ++ [((y0r l0_5 x4_1).f3)] : List ByteArray)).bind fun y668 => ((some (x3_1.drop (x6_2 : Int).toNat : List ByteArray)).bind fun y671 => (if y668.length + y671.length < 8796093022208 then (zqi.l0 k2 (y668 ++ y671) (wrap64 (x4_1 + 1)) a0_0 a0_1 a0_2 a0_3 l0_4 l0_5) else (none)))) else (none))) else (none)) = some r := by first | (rw [hy661]; with_reducible exact H) | (have H2_ := (Option.bind_some _ _).symm.trans H; rw [hy661]; with_reducible exact H2_) | (have H2_ := (Option.bind_some _ _).symm.trans H; with_reducible exact H2_) | with_reducible exact H | (rw [hy661]; exact H) | exact H
      have Ny661 := q_ hy661
      clear hy661
      by_cases c43 : ([] : List ByteArray).length + y661.length < 8796093022208
      rotate_left
      ·rw [if_neg c43] at H
       exact absurd H (by simp)
      rw [if_pos c43] at H
      have LMc43 := q_ c43
      clear c43
      obtain ⟨y665, hy665⟩ : ∃ y_ : List ByteArray, y_ = (([] : List ByteArray) ++ y661) := ⟨_, rfl⟩
      replace H : (if y665.length < 8796093022208 then ((some (y665 ++ [((y0r l0_5 x4_1).f3)] : List ByteArray)).bind fun y668 => ((some (x3_1.drop (x6_2 : Int).toNat : List ByteArray)).bind fun y671 => (if y668.length + y671.length < 8796093022208 then (zqi.l0 k2 (y668 ++ y671) (wrap64 (x4_1 + 1)) a0_0 a0_1 a0_2 a0_3 l0_4 l0_5) else (none)))) else (none)) = some r := by first | (rw [hy665]; with_reducible exact H) | (have H2_ := (Option.bind_some _ _).symm.trans H; rw [hy665]; with_reducible exact H2_) | (have H2_ := (Option.bind_some _ _).symm.trans H; with_reducible exact H2_) | with_reducible exact H | (rw [hy665]; exact H) | exact H
      have Ny665 := q_ hy665
      clear hy665
      by_cases c44 : y665.length < 8796093022208
      rotate_left
      ·rw [if_neg c44] at H
       exact absurd H (by simp)
      rw [if_pos c44] at H
      have LMc44 := q_ c44
      clear c44
      obtain ⟨y668, hy668⟩ : ∃ y_ : List ByteArray, y_ = (y665 ++ [((y0r l0_5 x4_1).f3)]) := ⟨_, rfl⟩
      replace H : ((some (x3_1.drop (x6_2 : Int).toNat : List ByteArray)).bind fun y671 => (if y668.length + y671.length < 8796093022208 then (zqi.l0 k2 (y668 ++ y671) (wrap64 (x4_1 + 1)) a0_0 a0_1 a0_2 a0_3 l0_4 l0_5) else (none))) = some r := by first | (rw [hy668]; with_reducible exact H) | (have H2_ := (Option.bind_some _ _).symm.trans H; rw [hy668]; with_reducible exact H2_) | (have H2_ := (Option.bind_some _ _).symm.trans H; with_reducible exact H2_) | with_reducible exact H | (rw [hy668]; exact H) | exact H
      have Ny668 := q_ hy668
      clear hy668
      have c45b0 := eq_true (oa_ : 0 ≤ x6_2)
      have c46b0 := eq_true (oa_ : x6_2 ≤ (x3_1.length : Int))
      obtain ⟨y671, hy671⟩ : ∃ y_ : List ByteArray, y_ = (x3_1.drop (x6_2 : Int).toNat) := ⟨_, rfl⟩
      replace H : (if y668.length + y671.length < 8796093022208 then (zqi.l0 k2 (y668 ++ y671) (wrap64 (x4_1 + 1)) a0_0 a0_1 a0_2 a0_3 l0_4 l0_5) else (none)) = some r := by first | (rw [hy671]; with_reducible exact H) | (have H2_ := (Option.bind_some _ _).symm.trans H; rw [hy671]; with_reducible exact H2_) | (have H2_ := (Option.bind_some _ _).symm.trans H; with_reducible exact H2_) | with_reducible exact H | (rw [hy671]; exact H) | exact H
      have Ny671 := q_ hy671
      clear hy671
      by_cases c47 : y668.length + y671.length < 8796093022208
      rotate_left
      ·rw [if_neg c47] at H
       exact absurd H (by simp)
      rw [if_pos c47] at H
      have LMc47 := q_ c47
      clear c47
      obtain ⟨y675, hy675⟩ : ∃ y_ : List ByteArray, y_ = (y668 ++ y671) := ⟨_, rfl⟩
      replace H : (zqi.l0 k2 y675 (wrap64 (x4_1 + 1)) a0_0 a0_1 a0_2 a0_3 l0_4 l0_5) = some r := by first | (rw [hy675]; with_reducible exact H) | (have H2_ := (Option.bind_some _ _).symm.trans H; rw [hy675]; with_reducible exact H2_) | (have H2_ := (Option.bind_some _ _).symm.trans H; with_reducible exact H2_) | with_reducible exact H | (rw [hy675]; exact H) | exact H
      have Ny675 := q_ hy675
      clear hy675
      have H' := q_ H
      clear H
      obtain ⟨Ao48, co48, eo48⟩ := Kd.R_slice HO_3.out
      subst eo48
      have q49 : (x6_2 : Int) ≤ ((x3_1.length : Int) : Int) := oa_
      obtain ⟨i049, hi049, _, hsz49, _⟩ := info_parts info9
      have hroom49 : x3_1.length ≤ co48 := (Kd.R_reads' HO_3.out).2.1
      have hC49 : Kd.C Kd.string _ Ao48 x3_1.length x3_1 := (Kd.R_reads' HO_3.out).2.2
      have hcut49 := cut_to (P := Try.prog) 33 9 .i64 Try.underlying33 hi049 Ao48 x3_1.length co48 x6_2 (oa_) q49 hroom49
      have hr49 := Kd.C_take (m := (x6_2 : Int).toNat) hC49 (by omega)
      have hy49 : y661.length = (x6_2 : Int).toNat := (by rw [Ny661.out, List.length_take]; omega)
      rw [← Ny661.out] at hr49
      rw [← hy49] at hcut49
      have HR664 := q_ hr49
      have HC664 := q_ (show y661.length ≤ co48 from by omega)
      clear hr49 hC49 hroom49 hi049 hsz49
      have KY49 := q_ hy49
      clear hy49
      have KL49 := q_ (show (x6_2 : Int).toNat ≤ x3_1.length from by omega)
      replace q49 := eq_true q49
      go_wp2_with (first | ((with_reducible refine y0i (b := .append) (xs := #[.tmp 54, .tmp 57]) rfl ?_); at_builtin; refine Kd.R_append_rows Kd.string (w0 := w) w.heap.size rfl (.tmp 54) (.tmp 57) 33 9 (.string ⟨#[]⟩) 16 rfl Try.underlying33 info9 rfl (by decide) (by omega) (.slice none 0 0) ([] : List ByteArray) y661 _ _ _ (fun k_ => some k_ ≠ (.slice Ao48 x3_1.length co48 : Value).ownBlock) (fun _ => False) rfl rfl ?aO ?aR (fun _ _ h => h) (fun _ h => h.elim) ?aF ?aB ?aS ?aL ?_; (case aR => repeat (first | exact (ck_ HR664.out) | (with_reducible refine Kd.C_alloc ?_ _) | (with_reducible refine Kd.C_drewN ?_ _) | (with_reducible refine Kd.C_drew ?_))); (case aB => exact hb_); (case aF => exact (fun k_ hk => Kd.fresh' (Kd.R_lt (rk_ HO_3.out)) k_ hk)); (case aO => exact ((Kd.R_nil _ _ _ _ (fun k_ => some k_ ≠ (.slice Ao48 x3_1.length co48 : Value).ownBlock)))); (case aS => exact (y04 hb_)); (case aL => have := LMc43.out; omega); intro v666 w50 ho hb hg hat; rw [← Ny665.out] at ho; have n0_ := q_ (Kd.R_after (Kd.R_apart_nil (rk_ HO_3.out)) hg hat); have n1_ := q_ (y0d (bk_ BK622.out) hg (by simp [Value.ownBlock])); have n2_ := q_ (hb); have n3_ := q_ ((show Kd.C Kd.string w50 Ao48 y661.length y661 from by rw [Ny661.out]; exact Kd.C_take (m := (x6_2 : Int).toNat) ((Kd.R_reads' (Kd.R_after (Kd.R_apart_nil (rk_ HO_3.out)) hg hat)).2.2) KL49.out)); have n4_ := q_ (ho); clear HO_3 BK622 HB HR664; have HO_3 := n0_; have BK622 := n1_; have HB := n2_; have HR664 := n3_; have HO667 := n4_; clear n0_ n1_ n2_ n3_ n4_; clear ho hb hg hat) | ((with_reducible refine y0i (b := .append) (xs := #[.tmp 59, .tmp 61]) rfl ?_); at_builtin; refine Kd.R_append Kd.string (w0 := w) w.heap.size rfl (.tmp 59) (.tmp 61) 33 9 (.string ⟨#[]⟩) 16 rfl Try.underlying33 info9 rfl (by decide) (by omega) v666 y665 ((y0r l0_5 x4_1).f3) [.string ((y0r l0_5 x4_1).f3)] (fun k_ => some k_ ≠ (.slice Ao48 x3_1.length co48 : Value).ownBlock) (fun _ => False) rfl rfl ?aP (fun _ hk => hk.elim) ?aF ?aO ?aB ?aS ?aL ?_; (case aP => exact rfl); (case aB => exact hb_); (case aF => exact (fun k_ hk => Kd.fresh' (Kd.R_lt (rk_ HO_3.out)) k_ hk)); (case aO => exact (rk_ HO667.out)); (case aS => exact (y04 hb_)); (case aL => have := LMc44.out; omega); intro v669 w51 ho hb hg hat; rw [← Ny668.out] at ho; have n0_ := q_ (Kd.R_after (ok := (fun _ => True)) (rk_ HO_3.out) hg hat); have n1_ := q_ (y0d (bk_ BK622.out) hg (Kd.R_ne HO667.out BK622.out (by decide))); have n2_ := q_ (hb); have n3_ := q_ ((show Kd.C Kd.string w51 Ao48 y661.length y661 from by rw [Ny661.out]; exact Kd.C_take (m := (x6_2 : Int).toNat) ((Kd.R_reads' (Kd.R_after (ok := (fun _ => True)) (rk_ HO_3.out) hg hat)).2.2) KL49.out)); have n4_ := q_ (ho); clear HO_3 BK622 HB HR664 HO667; have HO_3 := n0_; have BK622 := n1_; have HB := n2_; have HR664 := n3_; have HO670 := n4_; clear n0_ n1_ n2_ n3_ n4_; clear ho hb hg hat; have q52 : (x6_2 : Int) ≤ ((x3_1.length : Int) : Int) := oa_; obtain ⟨i052, hi052, _, hsz52, _⟩ := info_parts info9; have hroom52 : x3_1.length ≤ co48 := (Kd.R_reads' HO_3.out).2.1; have hC52 : Kd.C Kd.string _ Ao48 x3_1.length x3_1 := (Kd.R_reads' HO_3.out).2.2; have q052 : (0 : Int) ≤ (x6_2 : Int) := oa_; have hcut52 := cut_from (P := Try.prog) 33 9 .i64 Try.underlying33 hi052 1 hsz52 Ao48 x3_1.length co48 x6_2 q052 q52; have hr52 := Kd.C_drop (m := (x6_2 : Int).toNat) (c := co48) hC52 (by omega) hroom52; obtain ⟨A52, hA52⟩ : ∃ A1, A1 = (if co48 = (x6_2 : Int).toNat then Ao48 else (Ao48 : Option Addr).map (·.add ((x6_2 : Int).toNat * 1))) := ⟨_, rfl⟩; obtain ⟨c52, hc52⟩ : ∃ c1, c1 = co48 - (x6_2 : Int).toNat := ⟨_, rfl⟩; have hy52 : y671.length = x3_1.length - (x6_2 : Int).toNat := (by rw [Ny671.out, List.length_drop] <;> omega); rw [show (x3_1).drop (x6_2 : Int).toNat = y671 from Ny671.out.symm] at hr52; replace hr52 : Kd.C Kd.string _ A52 y671.length y671 := (by rw [hA52]; exact hr52); rw [← hy52, ← hA52, ← hc52] at hcut52; have HR674 := q_ hr52; have HC674 := q_ (show y671.length ≤ c52 from by rw [hy52, hc52]; exact Nat.sub_le_sub_right hroom52 _); clear hr52 hC52 hroom52 hi052 hsz52 hc52; have KY52 := q_ hy52; have KA52 := q_ hA52; clear hy52 hA52; have KL52 := q_ (show (x6_2 : Int).toNat ≤ x3_1.length from by omega); replace q52 := eq_true q52) | ((with_reducible refine y0i (b := .append) (xs := #[.tmp 63, .tmp 66]) rfl ?_); at_builtin; refine Kd.R_append_rows Kd.string (w0 := w) w.heap.size rfl (.tmp 63) (.tmp 66) 33 9 (.string ⟨#[]⟩) 16 rfl Try.underlying33 info9 rfl (by decide) (by omega) v669 y668 y671 _ _ _ (fun k_ => some k_ ≠ (.slice Ao48 x3_1.length co48 : Value).ownBlock) (fun _ => False) rfl rfl ?aO ?aR (fun _ _ h => h) (fun _ h => h.elim) ?aF ?aB ?aS ?aL ?_; (case aR => repeat (first | exact (ck_ HR674.out) | (with_reducible refine Kd.C_alloc ?_ _) | (with_reducible refine Kd.C_drewN ?_ _) | (with_reducible refine Kd.C_drew ?_))); (case aB => exact hb_); (case aF => exact (fun k_ hk => Kd.fresh' (Kd.R_lt (rk_ HO_3.out)) k_ hk)); (case aO => exact (rk_ HO670.out)); (case aS => exact (y04 hb_)); (case aL => have := LMc47.out; omega); intro v676 w53 ho hb hg hat; rw [← Ny675.out] at ho; have n0_ := q_ (Kd.R_after (ok := (fun _ => True)) (rk_ HO_3.out) hg hat); have n1_ := q_ (y0d (bk_ BK622.out) hg (Kd.R_ne HO670.out BK622.out (by decide))); have n2_ := q_ (hb); have n3_ := q_ ((show Kd.C Kd.string w53 Ao48 y661.length y661 from by rw [Ny661.out]; exact Kd.C_take (m := (x6_2 : Int).toNat) ((Kd.R_reads' (Kd.R_after (ok := (fun _ => True)) (rk_ HO_3.out) hg hat)).2.2) KL49.out)); have n4_ := q_ ((show Kd.C Kd.string w53 A52 y671.length y671 from by rw [Ny671.out, KA52.out]; exact Kd.C_drop (m := (x6_2 : Int).toNat) (c := co48) ((Kd.R_reads' (Kd.R_after (ok := (fun _ => True)) (rk_ HO_3.out) hg hat)).2.2) KL52.out ((Kd.R_reads' (Kd.R_after (ok := (fun _ => True)) (rk_ HO_3.out) hg hat)).2.1))); have n5_ := q_ (ho); clear HO_3 BK622 HB HR664 HR674 HO670; have HO_3 := n0_; have BK622 := n1_; have HB := n2_; have HR664 := n3_; have HR674 := n4_; have HO677 := n5_; clear n0_ n1_ n2_ n3_ n4_ n5_; clear ho hb hg hat))
      go_roundg k2
      case measure => have := HK1.out; have := HK2.out; omega
      case rel => exact ⟨(y675), (wrap64 (x4_1 + 1)), cl_, H', ⟨by have := HK1.out; have := HK2.out; omega⟩, ⟨by (with_reducible repeat (first | apply Kd.R_alloc | apply Kd.R_drewN | apply Kd.R_drew)); exact Kd.R_mono HO677.out (fun _ hk => trivial)⟩, ⟨bk_ BK622.out⟩, ⟨hb_⟩⟩
     rw [if_pos c7] at H
     have c7b0 : decide (x6_2 < (x3_1.length : Int)) = true := decide_eq_true c7
     clear c7
     by_cases c8 : 0 ≤ x6_2
     rotate_left
     ·rw [if_neg c8] at H
      exact absurd H (by simp)
     rw [if_pos c8] at H
     have c8b0 : decide (0 ≤ x6_2) = true := decide_eq_true c8
     clear c8
     by_cases c9 : (Op.bytesLess ((rdOf ByteArray.empty x3_1 x6_2).toList) ((y0r l0_5 x4_1).f3).toList) = true
     ·rw [if_pos c9] at H
      have c9b0 : (Op.bytesLess ((rdOf ByteArray.empty x3_1 x6_2).toList) ((y0r l0_5 x4_1).f3).toList) = true := c9
      clear c9
      have H' := q_ H
      clear H
      obtain ⟨Ao10, co10, eo10⟩ := Kd.R_slice HO_3.out
      subst eo10
      have p625 : 0 ≤ (x6_2 : Int) := oa_
      have q625 : x6_2 < (x3_1.length : Int) := oa_
      obtain ⟨ad625, e625, hx625_0⟩ := Kd.at_string (Kd.R_reads' HO_3.out).2.2 x6_2 p625 q625
      cases e625
      replace p625 := eq_true p625
      replace q625 := eq_true q625
      go_wp2
      go_roundg k2
      case measure => have := HK1.out; have := HK2.out; omega
      case rel => exact ⟨(wrap64 (x6_2 + 1)), cl_, H', ⟨by have := HK1.out; have := HK2.out; omega⟩, ⟨rk_ HO_3.out⟩, ⟨bk_ BK622.out⟩, ⟨hb_⟩⟩
     rw [if_neg c9] at H
     have c9b0 : (Op.bytesLess ((rdOf ByteArray.empty x3_1 x6_2).toList) ((y0r l0_5 x4_1).f3).toList) = false := by simpa using c9
     clear c9
     by_cases c11 : x6_2 = (x3_1.length : Int)
     ·rw [if_pos c11] at H
      have c11b0 : (x6_2 == (x3_1.length : Int)) = true := beq_iff_eq.mpr c11
      have c11b1 : (x6_2 != (x3_1.length : Int)) = false := bne_eq_false_iff_eq.mpr c11
      clear c11
      have c12b0 := eq_true (oa_ : 0 ≤ x6_2)
      by_cases c13 : x6_2 ≤ (x3_1.length : Int)
      rotate_left
      ·rw [if_neg c13] at H
       exact absurd H (by simp)
      rw [if_pos c13] at H
      have c13b0 := eq_true c13
      have c13b1 : decide (x6_2 ≤ (x3_1.length : Int)) = true := decide_eq_true c13
      clear c13
      obtain ⟨y626, hy626⟩ : ∃ y_ : List ByteArray, y_ = (x3_1.take (x6_2 : Int).toNat) := ⟨_, rfl⟩
      replace H : (if ([] : List ByteArray).length + y626.length < 8796093022208 then ((some (([] : List ByteArray) ++ y626 : List ByteArray)).bind fun y630 => (if y630.length < 8796093022208 then ((some (y630 ++ [((y0r l0_5 x4_1).f3)] : List ByteArray)).bind fun y633 => ((some (x3_1.drop (x6_2 : Int).toNat : List ByteArray)).bind fun y636 => (if y633.length + y636.length < 8796093022208 then (zqi.l0 k2 (y633 ++ y636) (wrap64 (x4_1 + 1)) a0_0 a0_1 a0_2 a0_3 l0_4 l0_5) else (none)))) else (none))) else (none)) = some r := by first | (rw [hy626]; with_reducible exact H) | (have H2_ := (Option.bind_some _ _).symm.trans H; rw [hy626]; with_reducible exact H2_) | (have H2_ := (Option.bind_some _ _).symm.trans H; with_reducible exact H2_) | with_reducible exact H | (rw [hy626]; exact H) | exact H
      have Ny626 := q_ hy626
      clear hy626
      by_cases c14 : ([] : List ByteArray).length + y626.length < 8796093022208
      rotate_left
      ·rw [if_neg c14] at H
       exact absurd H (by simp)
      rw [if_pos c14] at H
      have LMc14 := q_ c14
      clear c14
      obtain ⟨y630, hy630⟩ : ∃ y_ : List ByteArray, y_ = (([] : List ByteArray) ++ y626) := ⟨_, rfl⟩
      replace H : (if y630.length < 8796093022208 then ((some (y630 ++ [((y0r l0_5 x4_1).f3)] : List ByteArray)).bind fun y633 => ((some (x3_1.drop (x6_2 : Int).toNat : List ByteArray)).bind fun y636 => (if y633.length + y636.length < 8796093022208 then (zqi.l0 k2 (y633 ++ y636) (wrap64 (x4_1 + 1)) a0_0 a0_1 a0_2 a0_3 l0_4 l0_5) else (none)))) else (none)) = some r := by first | (rw [hy630]; with_reducible exact H) | (have H2_ := (Option.bind_some _ _).symm.trans H; rw [hy630]; with_reducible exact H2_) | (have H2_ := (Option.bind_some _ _).symm.trans H; with_reducible exact H2_) | with_reducible exact H | (rw [hy630]; exact H) | exact H
      have Ny630 := q_ hy630
      clear hy630
      by_cases c15 : y630.length < 8796093022208
      rotate_left
      ·rw [if_neg c15] at H
       exact absurd H (by simp)
      rw [if_pos c15] at H
      have LMc15 := q_ c15
      clear c15
      obtain ⟨y633, hy633⟩ : ∃ y_ : List ByteArray, y_ = (y630 ++ [((y0r l0_5 x4_1).f3)]) := ⟨_, rfl⟩
      replace H : ((some (x3_1.drop (x6_2 : Int).toNat : List ByteArray)).bind fun y636 => (if y633.length + y636.length < 8796093022208 then (zqi.l0 k2 (y633 ++ y636) (wrap64 (x4_1 + 1)) a0_0 a0_1 a0_2 a0_3 l0_4 l0_5) else (none))) = some r := by first | (rw [hy633]; with_reducible exact H) | (have H2_ := (Option.bind_some _ _).symm.trans H; rw [hy633]; with_reducible exact H2_) | (have H2_ := (Option.bind_some _ _).symm.trans H; with_reducible exact H2_) | with_reducible exact H | (rw [hy633]; exact H) | exact H
      have Ny633 := q_ hy633
      clear hy633
      have c16b0 := eq_true (oa_ : 0 ≤ x6_2)
      have c17b0 := eq_true (oa_ : x6_2 ≤ (x3_1.length : Int))
      obtain ⟨y636, hy636⟩ : ∃ y_ : List ByteArray, y_ = (x3_1.drop (x6_2 : Int).toNat) := ⟨_, rfl⟩
      replace H : (if y633.length + y636.length < 8796093022208 then (zqi.l0 k2 (y633 ++ y636) (wrap64 (x4_1 + 1)) a0_0 a0_1 a0_2 a0_3 l0_4 l0_5) else (none)) = some r := by first | (rw [hy636]; with_reducible exact H) | (have H2_ := (Option.bind_some _ _).symm.trans H; rw [hy636]; with_reducible exact H2_) | (have H2_ := (Option.bind_some _ _).symm.trans H; with_reducible exact H2_) | with_reducible exact H | (rw [hy636]; exact H) | exact H
      have Ny636 := q_ hy636
      clear hy636
      by_cases c18 : y633.length + y636.length < 8796093022208
      rotate_left
      ·rw [if_neg c18] at H
       exact absurd H (by simp)
      rw [if_pos c18] at H
      have LMc18 := q_ c18
      clear c18
      obtain ⟨y640, hy640⟩ : ∃ y_ : List ByteArray, y_ = (y633 ++ y636) := ⟨_, rfl⟩
      replace H : (zqi.l0 k2 y640 (wrap64 (x4_1 + 1)) a0_0 a0_1 a0_2 a0_3 l0_4 l0_5) = some r := by first | (rw [hy640]; with_reducible exact H) | (have H2_ := (Option.bind_some _ _).symm.trans H; rw [hy640]; with_reducible exact H2_) | (have H2_ := (Option.bind_some _ _).symm.trans H; with_reducible exact H2_) | with_reducible exact H | (rw [hy640]; exact H) | exact H
      have Ny640 := q_ hy640
      clear hy640
      have H' := q_ H
      clear H
      obtain ⟨Ao19, co19, eo19⟩ := Kd.R_slice HO_3.out
      subst eo19
      have p625 : 0 ≤ (x6_2 : Int) := oa_
      have q625 : x6_2 < (x3_1.length : Int) := oa_
      obtain ⟨ad625, e625, hx625_0⟩ := Kd.at_string (Kd.R_reads' HO_3.out).2.2 x6_2 p625 q625
      cases e625
      replace p625 := eq_true p625
      replace q625 := eq_true q625
      have q20 : (x6_2 : Int) ≤ ((x3_1.length : Int) : Int) := oa_
      obtain ⟨i020, hi020, _, hsz20, _⟩ := info_parts info9
      have hroom20 : x3_1.length ≤ co19 := (Kd.R_reads' HO_3.out).2.1
      have hC20 : Kd.C Kd.string _ (some ad625) x3_1.length x3_1 := (Kd.R_reads' HO_3.out).2.2
      have hcut20 := cut_to (P := Try.prog) 33 9 .i64 Try.underlying33 hi020 (some ad625) x3_1.length co19 x6_2 (oa_) q20 hroom20
      have hr20 := Kd.C_take (m := (x6_2 : Int).toNat) hC20 (by omega)
      have hy20 : y626.length = (x6_2 : Int).toNat := (by rw [Ny626.out, List.length_take]; omega)
      rw [← Ny626.out] at hr20
      rw [← hy20] at hcut20
      have HR629 := q_ hr20
      have HC629 := q_ (show y626.length ≤ co19 from by omega)
      clear hr20 hC20 hroom20 hi020 hsz20
      have KY20 := q_ hy20
      clear hy20
      have KL20 := q_ (show (x6_2 : Int).toNat ≤ x3_1.length from by omega)
      replace q20 := eq_true q20
      go_wp2_with (first | ((with_reducible refine y0i (b := .append) (xs := #[.tmp 54, .tmp 57]) rfl ?_); at_builtin; refine Kd.R_append_rows Kd.string (w0 := w) w.heap.size rfl (.tmp 54) (.tmp 57) 33 9 (.string ⟨#[]⟩) 16 rfl Try.underlying33 info9 rfl (by decide) (by omega) (.slice none 0 0) ([] : List ByteArray) y626 _ _ _ (fun k_ => some k_ ≠ (.slice (some ad625) x3_1.length co19 : Value).ownBlock) (fun _ => False) rfl rfl ?aO ?aR (fun _ _ h => h) (fun _ h => h.elim) ?aF ?aB ?aS ?aL ?_; (case aR => repeat (first | exact (ck_ HR629.out) | (with_reducible refine Kd.C_alloc ?_ _) | (with_reducible refine Kd.C_drewN ?_ _) | (with_reducible refine Kd.C_drew ?_))); (case aB => exact hb_); (case aF => exact (fun k_ hk => Kd.fresh' (Kd.R_lt (rk_ HO_3.out)) k_ hk)); (case aO => exact ((Kd.R_nil _ _ _ _ (fun k_ => some k_ ≠ (.slice (some ad625) x3_1.length co19 : Value).ownBlock)))); (case aS => exact (y04 hb_)); (case aL => have := LMc14.out; omega); intro v631 w21 ho hb hg hat; rw [← Ny630.out] at ho; have n0_ := q_ (Kd.R_after (Kd.R_apart_nil (rk_ HO_3.out)) hg hat); have n1_ := q_ (y0d (bk_ BK622.out) hg (by simp [Value.ownBlock])); have n2_ := q_ (hb); have n3_ := q_ ((show Kd.C Kd.string w21 (some ad625) y626.length y626 from by rw [Ny626.out]; exact Kd.C_take (m := (x6_2 : Int).toNat) ((Kd.R_reads' (Kd.R_after (Kd.R_apart_nil (rk_ HO_3.out)) hg hat)).2.2) KL20.out)); have n4_ := q_ (ho); clear HO_3 BK622 HB HR629; have HO_3 := n0_; have BK622 := n1_; have HB := n2_; have HR629 := n3_; have HO632 := n4_; clear n0_ n1_ n2_ n3_ n4_; clear ho hb hg hat) | ((with_reducible refine y0i (b := .append) (xs := #[.tmp 59, .tmp 61]) rfl ?_); at_builtin; refine Kd.R_append Kd.string (w0 := w) w.heap.size rfl (.tmp 59) (.tmp 61) 33 9 (.string ⟨#[]⟩) 16 rfl Try.underlying33 info9 rfl (by decide) (by omega) v631 y630 ((y0r l0_5 x4_1).f3) [.string ((y0r l0_5 x4_1).f3)] (fun k_ => some k_ ≠ (.slice (some ad625) x3_1.length co19 : Value).ownBlock) (fun _ => False) rfl rfl ?aP (fun _ hk => hk.elim) ?aF ?aO ?aB ?aS ?aL ?_; (case aP => exact rfl); (case aB => exact hb_); (case aF => exact (fun k_ hk => Kd.fresh' (Kd.R_lt (rk_ HO_3.out)) k_ hk)); (case aO => exact (rk_ HO632.out)); (case aS => exact (y04 hb_)); (case aL => have := LMc15.out; omega); intro v634 w22 ho hb hg hat; rw [← Ny633.out] at ho; have n0_ := q_ (Kd.R_after (ok := (fun _ => True)) (rk_ HO_3.out) hg hat); have n1_ := q_ (y0d (bk_ BK622.out) hg (Kd.R_ne HO632.out BK622.out (by decide))); have n2_ := q_ (hb); have n3_ := q_ ((show Kd.C Kd.string w22 (some ad625) y626.length y626 from by rw [Ny626.out]; exact Kd.C_take (m := (x6_2 : Int).toNat) ((Kd.R_reads' (Kd.R_after (ok := (fun _ => True)) (rk_ HO_3.out) hg hat)).2.2) KL20.out)); have n4_ := q_ (ho); clear HO_3 BK622 HB HR629 HO632; have HO_3 := n0_; have BK622 := n1_; have HB := n2_; have HR629 := n3_; have HO635 := n4_; clear n0_ n1_ n2_ n3_ n4_; clear ho hb hg hat; have q23 : (x6_2 : Int) ≤ ((x3_1.length : Int) : Int) := oa_; obtain ⟨i023, hi023, _, hsz23, _⟩ := info_parts info9; have hroom23 : x3_1.length ≤ co19 := (Kd.R_reads' HO_3.out).2.1; have hC23 : Kd.C Kd.string _ (some ad625) x3_1.length x3_1 := (Kd.R_reads' HO_3.out).2.2; have q023 : (0 : Int) ≤ (x6_2 : Int) := oa_; have hcut23 := cut_from (P := Try.prog) 33 9 .i64 Try.underlying33 hi023 1 hsz23 (some ad625) x3_1.length co19 x6_2 q023 q23; have hr23 := Kd.C_drop (m := (x6_2 : Int).toNat) (c := co19) hC23 (by omega) hroom23; obtain ⟨A23, hA23⟩ : ∃ A1, A1 = (if co19 = (x6_2 : Int).toNat then (some ad625) else ((some ad625) : Option Addr).map (·.add ((x6_2 : Int).toNat * 1))) := ⟨_, rfl⟩; obtain ⟨c23, hc23⟩ : ∃ c1, c1 = co19 - (x6_2 : Int).toNat := ⟨_, rfl⟩; have hy23 : y636.length = x3_1.length - (x6_2 : Int).toNat := (by rw [Ny636.out, List.length_drop] <;> omega); rw [show (x3_1).drop (x6_2 : Int).toNat = y636 from Ny636.out.symm] at hr23; replace hr23 : Kd.C Kd.string _ A23 y636.length y636 := (by rw [hA23]; exact hr23); rw [← hy23, ← hA23, ← hc23] at hcut23; have HR639 := q_ hr23; have HC639 := q_ (show y636.length ≤ c23 from by rw [hy23, hc23]; exact Nat.sub_le_sub_right hroom23 _); clear hr23 hC23 hroom23 hi023 hsz23 hc23; have KY23 := q_ hy23; have KA23 := q_ hA23; clear hy23 hA23; have KL23 := q_ (show (x6_2 : Int).toNat ≤ x3_1.length from by omega); replace q23 := eq_true q23) | ((with_reducible refine y0i (b := .append) (xs := #[.tmp 63, .tmp 66]) rfl ?_); at_builtin; refine Kd.R_append_rows Kd.string (w0 := w) w.heap.size rfl (.tmp 63) (.tmp 66) 33 9 (.string ⟨#[]⟩) 16 rfl Try.underlying33 info9 rfl (by decide) (by omega) v634 y633 y636 _ _ _ (fun k_ => some k_ ≠ (.slice (some ad625) x3_1.length co19 : Value).ownBlock) (fun _ => False) rfl rfl ?aO ?aR (fun _ _ h => h) (fun _ h => h.elim) ?aF ?aB ?aS ?aL ?_; (case aR => repeat (first | exact (ck_ HR639.out) | (with_reducible refine Kd.C_alloc ?_ _) | (with_reducible refine Kd.C_drewN ?_ _) | (with_reducible refine Kd.C_drew ?_))); (case aB => exact hb_); (case aF => exact (fun k_ hk => Kd.fresh' (Kd.R_lt (rk_ HO_3.out)) k_ hk)); (case aO => exact (rk_ HO635.out)); (case aS => exact (y04 hb_)); (case aL => have := LMc18.out; omega); intro v641 w24 ho hb hg hat; rw [← Ny640.out] at ho; have n0_ := q_ (Kd.R_after (ok := (fun _ => True)) (rk_ HO_3.out) hg hat); have n1_ := q_ (y0d (bk_ BK622.out) hg (Kd.R_ne HO635.out BK622.out (by decide))); have n2_ := q_ (hb); have n3_ := q_ ((show Kd.C Kd.string w24 (some ad625) y626.length y626 from by rw [Ny626.out]; exact Kd.C_take (m := (x6_2 : Int).toNat) ((Kd.R_reads' (Kd.R_after (ok := (fun _ => True)) (rk_ HO_3.out) hg hat)).2.2) KL20.out)); have n4_ := q_ ((show Kd.C Kd.string w24 A23 y636.length y636 from by rw [Ny636.out, KA23.out]; exact Kd.C_drop (m := (x6_2 : Int).toNat) (c := co19) ((Kd.R_reads' (Kd.R_after (ok := (fun _ => True)) (rk_ HO_3.out) hg hat)).2.2) KL23.out ((Kd.R_reads' (Kd.R_after (ok := (fun _ => True)) (rk_ HO_3.out) hg hat)).2.1))); have n5_ := q_ (ho); clear HO_3 BK622 HB HR629 HR639 HO635; have HO_3 := n0_; have BK622 := n1_; have HB := n2_; have HR629 := n3_; have HR639 := n4_; have HO642 := n5_; clear n0_ n1_ n2_ n3_ n4_ n5_; clear ho hb hg hat))
      go_roundg k2
      case measure => have := HK1.out; have := HK2.out; omega
      case rel => exact ⟨(y640), (wrap64 (x4_1 + 1)), cl_, H', ⟨by have := HK1.out; have := HK2.out; omega⟩, ⟨by (with_reducible repeat (first | apply Kd.R_alloc | apply Kd.R_drewN | apply Kd.R_drew)); exact Kd.R_mono HO642.out (fun _ hk => trivial)⟩, ⟨bk_ BK622.out⟩, ⟨hb_⟩⟩
     rw [if_neg c11] at H
     have c11b0 : (x6_2 == (x3_1.length : Int)) = false := beq_eq_false_iff_ne.mpr c11
     have c11b1 : (x6_2 != (x3_1.length : Int)) = true := bne_iff_ne.mpr c11
     by_cases c25 : (rdOf ByteArray.empty x3_1 x6_2).toList = ((y0r l0_5 x4_1).f3).toList
     ·rw [if_pos c25] at H
      have c25b0 : ((rdOf ByteArray.empty x3_1 x6_2).toList == ((y0r l0_5 x4_1).f3).toList) = true := beq_iff_eq.mpr c25
      have c25b1 : ((rdOf ByteArray.empty x3_1 x6_2).toList != ((y0r l0_5 x4_1).f3).toList) = false := bne_eq_false_iff_eq.mpr c25
      clear c25
      have H' := q_ H
      clear H
      obtain ⟨Ao26, co26, eo26⟩ := Kd.R_slice HO_3.out
      subst eo26
      have p625 : 0 ≤ (x6_2 : Int) := oa_
      have q625 : x6_2 < (x3_1.length : Int) := oa_
      obtain ⟨ad625, e625, hx625_0⟩ := Kd.at_string (Kd.R_reads' HO_3.out).2.2 x6_2 p625 q625
      cases e625
      replace p625 := eq_true p625
      replace q625 := eq_true q625
      have p643 : 0 ≤ (x6_2 : Int) := oa_
      have q643 : x6_2 < (x3_1.length : Int) := oa_
      obtain ⟨ad643, e643, hx643_0⟩ := Kd.at_string (Kd.R_reads' HO_3.out).2.2 x6_2 p643 q643
      obtain rfl : ad625 = ad643 := (by injection e643)
      replace p643 := eq_true p643
      replace q643 := eq_true q643
      go_wp2
      go_roundg k2
      case measure => have := HK1.out; have := HK2.out; omega
      case rel => exact ⟨(x3_1), (wrap64 (x4_1 + 1)), cl_, H', ⟨by have := HK1.out; have := HK2.out; omega⟩, ⟨rk_ HO_3.out⟩, ⟨bk_ BK622.out⟩, ⟨hb_⟩⟩
     rw [if_neg c25] at H
     have c25b0 : ((rdOf ByteArray.empty x3_1 x6_2).toList == ((y0r l0_5 x4_1).f3).toList) = false := beq_eq_false_iff_ne.mpr c25
     have c25b1 : ((rdOf ByteArray.empty x3_1 x6_2).toList != ((y0r l0_5 x4_1).f3).toList) = true := bne_iff_ne.mpr c25
     have c27b0 := eq_true (oa_ : 0 ≤ x6_2)
     by_cases c28 : x6_2 ≤ (x3_1.length : Int)
     rotate_left
     ·rw [if_neg c28] at H
      exact absurd H (by simp)
     rw [if_pos c28] at H
     have c28b0 := eq_true c28
     have c28b1 : decide (x6_2 ≤ (x3_1.length : Int)) = true := decide_eq_true c28
     clear c28
     obtain ⟨y644, hy644⟩ : ∃ y_ : List ByteArray, y_ = (x3_1.take (x6_2 : Int).toNat) := ⟨_, rfl⟩
     replace H : (if ([] : List ByteArray).length + y644.length < 8796093022208 then ((some (([] : List ByteArray) ++ y644 : List ByteArray)).bind fun y648 => (if y648.length < 8796093022208 then ((some (y648 ++ [((y0r l0_5 x4_1).f3)] : List ByteArray)).bind fun y651 => ((some (x3_1.drop (x6_2 : Int).toNat : List ByteArray)).bind fun y654 => (if y651.length + y654.length < 8796093022208 then (zqi.l0 k2 (y651 ++ y654) (wrap64 (x4_1 + 1)) a0_0 a0_1 a0_2 a0_3 l0_4 l0_5) else (none)))) else (none))) else (none)) = some r := by first | (rw [hy644]; with_reducible exact H) | (have H2_ := (Option.bind_some _ _).symm.trans H; rw [hy644]; with_reducible exact H2_) | (have H2_ := (Option.bind_some _ _).symm.trans H; with_reducible exact H2_) | with_reducible exact H | (rw [hy644]; exact H) | exact H
     have Ny644 := q_ hy644
     clear hy644
     by_cases c29 : ([] : List ByteArray).length + y644.length < 8796093022208
     rotate_left
     ·rw [if_neg c29] at H
      exact absurd H (by simp)
     rw [if_pos c29] at H
     have LMc29 := q_ c29
     clear c29
     obtain ⟨y648, hy648⟩ : ∃ y_ : List ByteArray, y_ = (([] : List ByteArray) ++ y644) := ⟨_, rfl⟩
     replace H : (if y648.length < 8796093022208 then ((some (y648 ++ [((y0r l0_5 x4_1).f3)] : List ByteArray)).bind fun y651 => ((some (x3_1.drop (x6_2 : Int).toNat : List ByteArray)).bind fun y654 => (if y651.length + y654.length < 8796093022208 then (zqi.l0 k2 (y651 ++ y654) (wrap64 (x4_1 + 1)) a0_0 a0_1 a0_2 a0_3 l0_4 l0_5) else (none)))) else (none)) = some r := by first | (rw [hy648]; with_reducible exact H) | (have H2_ := (Option.bind_some _ _).symm.trans H; rw [hy648]; with_reducible exact H2_) | (have H2_ := (Option.bind_some _ _).symm.trans H; with_reducible exact H2_) | with_reducible exact H | (rw [hy648]; exact H) | exact H
     have Ny648 := q_ hy648
     clear hy648
     by_cases c30 : y648.length < 8796093022208
     rotate_left
     ·rw [if_neg c30] at H
      exact absurd H (by simp)
     rw [if_pos c30] at H
     have LMc30 := q_ c30
     clear c30
     obtain ⟨y651, hy651⟩ : ∃ y_ : List ByteArray, y_ = (y648 ++ [((y0r l0_5 x4_1).f3)]) := ⟨_, rfl⟩
     replace H : ((some (x3_1.drop (x6_2 : Int).toNat : List ByteArray)).bind fun y654 => (if y651.length + y654.length < 8796093022208 then (zqi.l0 k2 (y651 ++ y654) (wrap64 (x4_1 + 1)) a0_0 a0_1 a0_2 a0_3 l0_4 l0_5) else (none))) = some r := by first | (rw [hy651]; with_reducible exact H) | (have H2_ := (Option.bind_some _ _).symm.trans H; rw [hy651]; with_reducible exact H2_) | (have H2_ := (Option.bind_some _ _).symm.trans H; with_reducible exact H2_) | with_reducible exact H | (rw [hy651]; exact H) | exact H
     have Ny651 := q_ hy651
     clear hy651
     have c31b0 := eq_true (oa_ : 0 ≤ x6_2)
     have c32b0 := eq_true (oa_ : x6_2 ≤ (x3_1.length : Int))
     obtain ⟨y654, hy654⟩ : ∃ y_ : List ByteArray, y_ = (x3_1.drop (x6_2 : Int).toNat) := ⟨_, rfl⟩
     replace H : (if y651.length + y654.length < 8796093022208 then (zqi.l0 k2 (y651 ++ y654) (wrap64 (x4_1 + 1)) a0_0 a0_1 a0_2 a0_3 l0_4 l0_5) else (none)) = some r := by first | (rw [hy654]; with_reducible exact H) | (have H2_ := (Option.bind_some _ _).symm.trans H; rw [hy654]; with_reducible exact H2_) | (have H2_ := (Option.bind_some _ _).symm.trans H; with_reducible exact H2_) | with_reducible exact H | (rw [hy654]; exact H) | exact H
     have Ny654 := q_ hy654
     clear hy654
     by_cases c33 : y651.length + y654.length < 8796093022208
     rotate_left
     ·rw [if_neg c33] at H
      exact absurd H (by simp)
     rw [if_pos c33] at H
     have LMc33 := q_ c33
     clear c33
     obtain ⟨y658, hy658⟩ : ∃ y_ : List ByteArray, y_ = (y651 ++ y654) := ⟨_, rfl⟩
     replace H : (zqi.l0 k2 y658 (wrap64 (x4_1 + 1)) a0_0 a0_1 a0_2 a0_3 l0_4 l0_5) = some r := by first | (rw [hy658]; with_reducible exact H) | (have H2_ := (Option.bind_some _ _).symm.trans H; rw [hy658]; with_reducible exact H2_) | (have H2_ := (Option.bind_some _ _).symm.trans H; with_reducible exact H2_) | with_reducible exact H | (rw [hy658]; exact H) | exact H
     have Ny658 := q_ hy658
     clear hy658
     have H' := q_ H
     clear H
     obtain ⟨Ao34, co34, eo34⟩ := Kd.R_slice HO_3.out
     subst eo34
     have p625 : 0 ≤ (x6_2 : Int) := oa_
     have q625 : x6_2 < (x3_1.length : Int) := oa_
     obtain ⟨ad625, e625, hx625_0⟩ := Kd.at_string (Kd.R_reads' HO_3.out).2.2 x6_2 p625 q625
     cases e625
     replace p625 := eq_true p625
     replace q625 := eq_true q625
     have p643 : 0 ≤ (x6_2 : Int) := oa_
     have q643 : x6_2 < (x3_1.length : Int) := oa_
     obtain ⟨ad643, e643, hx643_0⟩ := Kd.at_string (Kd.R_reads' HO_3.out).2.2 x6_2 p643 q643
     obtain rfl : ad625 = ad643 := (by injection e643)
     replace p643 := eq_true p643
     replace q643 := eq_true q643
     have q35 : (x6_2 : Int) ≤ ((x3_1.length : Int) : Int) := oa_
     obtain ⟨i035, hi035, _, hsz35, _⟩ := info_parts info9
     have hroom35 : x3_1.length ≤ co34 := (Kd.R_reads' HO_3.out).2.1
     have hC35 : Kd.C Kd.string _ (some ad625) x3_1.length x3_1 := (Kd.R_reads' HO_3.out).2.2
     have hcut35 := cut_to (P := Try.prog) 33 9 .i64 Try.underlying33 hi035 (some ad625) x3_1.length co34 x6_2 (oa_) q35 hroom35
     have hr35 := Kd.C_take (m := (x6_2 : Int).toNat) hC35 (by omega)
     have hy35 : y644.length = (x6_2 : Int).toNat := (by rw [Ny644.out, List.length_take]; omega)
     rw [← Ny644.out] at hr35
     rw [← hy35] at hcut35
     have HR647 := q_ hr35
     have HC647 := q_ (show y644.length ≤ co34 from by omega)
     clear hr35 hC35 hroom35 hi035 hsz35
     have KY35 := q_ hy35
     clear hy35
     have KL35 := q_ (show (x6_2 : Int).toNat ≤ x3_1.length from by omega)
     replace q35 := eq_true q35
     go_wp2_with (first | ((with_reducible refine y0i (b := .append) (xs := #[.tmp 54, .tmp 57]) rfl ?_); at_builtin; refine Kd.R_append_rows Kd.string (w0 := w) w.heap.size rfl (.tmp 54) (.tmp 57) 33 9 (.string ⟨#[]⟩) 16 rfl Try.underlying33 info9 rfl (by decide) (by omega) (.slice none 0 0) ([] : List ByteArray) y644 _ _ _ (fun k_ => some k_ ≠ (.slice (some ad625) x3_1.length co34 : Value).ownBlock) (fun _ => False) rfl rfl ?aO ?aR (fun _ _ h => h) (fun _ h => h.elim) ?aF ?aB ?aS ?aL ?_; (case aR => repeat (first | exact (ck_ HR647.out) | (with_reducible refine Kd.C_alloc ?_ _) | (with_reducible refine Kd.C_drewN ?_ _) | (with_reducible refine Kd.C_drew ?_))); (case aB => exact hb_); (case aF => exact (fun k_ hk => Kd.fresh' (Kd.R_lt (rk_ HO_3.out)) k_ hk)); (case aO => exact ((Kd.R_nil _ _ _ _ (fun k_ => some k_ ≠ (.slice (some ad625) x3_1.length co34 : Value).ownBlock)))); (case aS => exact (y04 hb_)); (case aL => have := LMc29.out; omega); intro v649 w36 ho hb hg hat; rw [← Ny648.out] at ho; have n0_ := q_ (Kd.R_after (Kd.R_apart_nil (rk_ HO_3.out)) hg hat); have n1_ := q_ (y0d (bk_ BK622.out) hg (by simp [Value.ownBlock])); have n2_ := q_ (hb); have n3_ := q_ ((show Kd.C Kd.string w36 (some ad625) y644.length y644 from by rw [Ny644.out]; exact Kd.C_take (m := (x6_2 : Int).toNat) ((Kd.R_reads' (Kd.R_after (Kd.R_apart_nil (rk_ HO_3.out)) hg hat)).2.2) KL35.out)); have n4_ := q_ (ho); clear HO_3 BK622 HB HR647; have HO_3 := n0_; have BK622 := n1_; have HB := n2_; have HR647 := n3_; have HO650 := n4_; clear n0_ n1_ n2_ n3_ n4_; clear ho hb hg hat) | ((with_reducible refine y0i (b := .append) (xs := #[.tmp 59, .tmp 61]) rfl ?_); at_builtin; refine Kd.R_append Kd.string (w0 := w) w.heap.size rfl (.tmp 59) (.tmp 61) 33 9 (.string ⟨#[]⟩) 16 rfl Try.underlying33 info9 rfl (by decide) (by omega) v649 y648 ((y0r l0_5 x4_1).f3) [.string ((y0r l0_5 x4_1).f3)] (fun k_ => some k_ ≠ (.slice (some ad625) x3_1.length co34 : Value).ownBlock) (fun _ => False) rfl rfl ?aP (fun _ hk => hk.elim) ?aF ?aO ?aB ?aS ?aL ?_; (case aP => exact rfl); (case aB => exact hb_); (case aF => exact (fun k_ hk => Kd.fresh' (Kd.R_lt (rk_ HO_3.out)) k_ hk)); (case aO => exact (rk_ HO650.out)); (case aS => exact (y04 hb_)); (case aL => have := LMc30.out; omega); intro v652 w37 ho hb hg hat; rw [← Ny651.out] at ho; have n0_ := q_ (Kd.R_after (ok := (fun _ => True)) (rk_ HO_3.out) hg hat); have n1_ := q_ (y0d (bk_ BK622.out) hg (Kd.R_ne HO650.out BK622.out (by decide))); have n2_ := q_ (hb); have n3_ := q_ ((show Kd.C Kd.string w37 (some ad625) y644.length y644 from by rw [Ny644.out]; exact Kd.C_take (m := (x6_2 : Int).toNat) ((Kd.R_reads' (Kd.R_after (ok := (fun _ => True)) (rk_ HO_3.out) hg hat)).2.2) KL35.out)); have n4_ := q_ (ho); clear HO_3 BK622 HB HR647 HO650; have HO_3 := n0_; have BK622 := n1_; have HB := n2_; have HR647 := n3_; have HO653 := n4_; clear n0_ n1_ n2_ n3_ n4_; clear ho hb hg hat; have q38 : (x6_2 : Int) ≤ ((x3_1.length : Int) : Int) := oa_; obtain ⟨i038, hi038, _, hsz38, _⟩ := info_parts info9; have hroom38 : x3_1.length ≤ co34 := (Kd.R_reads' HO_3.out).2.1; have hC38 : Kd.C Kd.string _ (some ad625) x3_1.length x3_1 := (Kd.R_reads' HO_3.out).2.2; have q038 : (0 : Int) ≤ (x6_2 : Int) := oa_; have hcut38 := cut_from (P := Try.prog) 33 9 .i64 Try.underlying33 hi038 1 hsz38 (some ad625) x3_1.length co34 x6_2 q038 q38; have hr38 := Kd.C_drop (m := (x6_2 : Int).toNat) (c := co34) hC38 (by omega) hroom38; obtain ⟨A38, hA38⟩ : ∃ A1, A1 = (if co34 = (x6_2 : Int).toNat then (some ad625) else ((some ad625) : Option Addr).map (·.add ((x6_2 : Int).toNat * 1))) := ⟨_, rfl⟩; obtain ⟨c38, hc38⟩ : ∃ c1, c1 = co34 - (x6_2 : Int).toNat := ⟨_, rfl⟩; have hy38 : y654.length = x3_1.length - (x6_2 : Int).toNat := (by rw [Ny654.out, List.length_drop] <;> omega); rw [show (x3_1).drop (x6_2 : Int).toNat = y654 from Ny654.out.symm] at hr38; replace hr38 : Kd.C Kd.string _ A38 y654.length y654 := (by rw [hA38]; exact hr38); rw [← hy38, ← hA38, ← hc38] at hcut38; have HR657 := q_ hr38; have HC657 := q_ (show y654.length ≤ c38 from by rw [hy38, hc38]; exact Nat.sub_le_sub_right hroom38 _); clear hr38 hC38 hroom38 hi038 hsz38 hc38; have KY38 := q_ hy38; have KA38 := q_ hA38; clear hy38 hA38; have KL38 := q_ (show (x6_2 : Int).toNat ≤ x3_1.length from by omega); replace q38 := eq_true q38) | ((with_reducible refine y0i (b := .append) (xs := #[.tmp 63, .tmp 66]) rfl ?_); at_builtin; refine Kd.R_append_rows Kd.string (w0 := w) w.heap.size rfl (.tmp 63) (.tmp 66) 33 9 (.string ⟨#[]⟩) 16 rfl Try.underlying33 info9 rfl (by decide) (by omega) v652 y651 y654 _ _ _ (fun k_ => some k_ ≠ (.slice (some ad625) x3_1.length co34 : Value).ownBlock) (fun _ => False) rfl rfl ?aO ?aR (fun _ _ h => h) (fun _ h => h.elim) ?aF ?aB ?aS ?aL ?_; (case aR => repeat (first | exact (ck_ HR657.out) | (with_reducible refine Kd.C_alloc ?_ _) | (with_reducible refine Kd.C_drewN ?_ _) | (with_reducible refine Kd.C_drew ?_))); (case aB => exact hb_); (case aF => exact (fun k_ hk => Kd.fresh' (Kd.R_lt (rk_ HO_3.out)) k_ hk)); (case aO => exact (rk_ HO653.out)); (case aS => exact (y04 hb_)); (case aL => have := LMc33.out; omega); intro v659 w39 ho hb hg hat; rw [← Ny658.out] at ho; have n0_ := q_ (Kd.R_after (ok := (fun _ => True)) (rk_ HO_3.out) hg hat); have n1_ := q_ (y0d (bk_ BK622.out) hg (Kd.R_ne HO653.out BK622.out (by decide))); have n2_ := q_ (hb); have n3_ := q_ ((show Kd.C Kd.string w39 (some ad625) y644.length y644 from by rw [Ny644.out]; exact Kd.C_take (m := (x6_2 : Int).toNat) ((Kd.R_reads' (Kd.R_after (ok := (fun _ => True)) (rk_ HO_3.out) hg hat)).2.2) KL35.out)); have n4_ := q_ ((show Kd.C Kd.string w39 A38 y654.length y654 from by rw [Ny654.out, KA38.out]; exact Kd.C_drop (m := (x6_2 : Int).toNat) (c := co34) ((Kd.R_reads' (Kd.R_after (ok := (fun _ => True)) (rk_ HO_3.out) hg hat)).2.2) KL38.out ((Kd.R_reads' (Kd.R_after (ok := (fun _ => True)) (rk_ HO_3.out) hg hat)).2.1))); have n5_ := q_ (ho); clear HO_3 BK622 HB HR647 HR657 HO653; have HO_3 := n0_; have BK622 := n1_; have HB := n2_; have HR647 := n3_; have HR657 := n4_; have HO660 := n5_; clear n0_ n1_ n2_ n3_ n4_ n5_; clear ho hb hg hat))
     go_roundg k2
     case measure => have := HK1.out; have := HK2.out; omega
     case rel => exact ⟨(y658), (wrap64 (x4_1 + 1)), cl_, H', ⟨by have := HK1.out; have := HK2.out; omega⟩, ⟨by (with_reducible repeat (first | apply Kd.R_alloc | apply Kd.R_drewN | apply Kd.R_drew)); exact Kd.R_mono HO660.out (fun _ hk => trivial)⟩, ⟨bk_ BK622.out⟩, ⟨hb_⟩⟩
end Go.Proofs.Ytenlmckahaniiaa.K
end
