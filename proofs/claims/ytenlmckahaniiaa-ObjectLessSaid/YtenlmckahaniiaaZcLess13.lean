/- Lemmas for several laws: what their proofs need of this seat's texts, in one place. -/
import Derived.Test.YtenlmckahaniiaaZcLess11
set_option linter.unusedVariables false
set_option linter.unusedSimpArgs false
set_option linter.unusedSectionVars false
set_option maxHeartbeats 8000000
set_option maxRecDepth 100000
section
namespace Go.Proofs.Ytenlmckahaniiaa.K
open Go.RowKit Go.Proofs.YtenlmckahaniiaaW.PrintWords Go.Proofs.YtenlmckahaniiaaW.PrintLast
def zq2.fnp (k : Nat) (a0_0 : ByteArray) (a0_1 : ByteArray) (a0_2 : ByteArray) (a0_3 : Int) (l0_4 : List (S62)) (l0_5 : List (S43)) (a1 : Int) : Option (Bool) := (zq7.f k a0_0 a0_1 a0_2 a0_3 l0_4 l0_5).bind fun t407 => (if t407 = true then ((zqo.f k a0_0 a0_1 a0_2 a0_3 l0_4 l0_5).bind fun t408 => (if t408 = 0 then (if (l0_5.length : Int) = 0 then (none) else ((some (([] : List (S43)) : List (S43))).bind fun y410 => (if 0 ≤ (Int.tmod (wrap64 (a1)) (l0_5.length : Int)) then (if (Int.tmod (wrap64 (a1)) (l0_5.length : Int)) ≤ (l0_5.length : Int) then ((some (l0_5.take ((Int.tmod (wrap64 (a1)) (l0_5.length : Int)) : Int).toNat : List (S43))).bind fun y413 => (if y410.length + y413.length < 2932031007402 then ((some (y410 ++ y413 : List (S43))).bind fun y417 => (if 0 ≤ (wrap64 ((Int.tmod (wrap64 (a1)) (l0_5.length : Int)) + 1)) then (if (wrap64 ((Int.tmod (wrap64 (a1)) (l0_5.length : Int)) + 1)) ≤ (l0_5.length : Int) then ((some (l0_5.drop ((wrap64 ((Int.tmod (wrap64 (a1)) (l0_5.length : Int)) + 1)) : Int).toNat : List (S43))).bind fun y420 => (if y417.length + y420.length < 2932031007402 then ((zqo.f k a0_0 a0_1 a0_2 a0_3 l0_4 (y417 ++ y420)).bind fun t427 => (if t427 = 0 then ((zqp.f k a0_0 a0_1 a0_2 a0_3 l0_4 l0_5).bind fun t428 => (zq2.l0 k t428 1 a0_0 a0_1 a0_2 a0_3 l0_4 l0_5)) else (none))) else (none))) else (none)) else (none))) else (none))) else (none)) else (none)))) else ((zq6.f k).bind fun t437 => (some t437)))) else ((zq6.f k).bind fun t438 => (some t438)))
theorem zq2.callsnp (k : Nat) (a0_0 : ByteArray) (a0_1 : ByteArray) (a0_2 : ByteArray) (a0_3 : Int) (A0_4 : Option Addr) (c0_4 : Nat) (l0_4 : List (S62)) (A0_5 : Option Addr) (c0_5 : Nat) (l0_5 : List (S43)) (a1 : Int) (r : Bool) (w : World) (h4 : ¬ (0 : Int) < (l0_4.length : Int)) (h5 : (0 : Int) < (l0_5.length : Int)) (hr0_4 : Kd.C k62 w A0_4 l0_4.length l0_4) (hc0_4 : l0_4.length ≤ c0_4) (hr0_5 : Kd.C k43 w A0_5 l0_5.length l0_5) (hc0_5 : l0_5.length ≤ c0_5) (h : zq2.fnp k a0_0 a0_1 a0_2 a0_3 l0_4 l0_5 a1 = some r) :
  Calls Try.prog 8 #[.agg #[.string a0_0, .string a0_1, .string a0_2, .int .i64 a0_3, .slice A0_4 l0_4.length c0_4, .slice A0_5 l0_5.length c0_5], .int .u16 a1] w fun e w' => e = .returned (.bool r) ∧ Below w.heap.size w w' := by
 have hu25 := Try.underlying25
 have hu43 := Try.underlying43
 have HR0_4 := Aside0.mk hr0_4
 have HC0_4 := Aside0.mk hc0_4
 clear hr0_4 hc0_4
 have HR0_5 := Aside0.mk hr0_5
 have HC0_5 := Aside0.mk hc0_5
 clear hr0_5 hc0_5
 have HB := Aside0.mk (Below.refl w.heap.size w)
 have H : ((zq7.f k a0_0 a0_1 a0_2 a0_3 l0_4 l0_5).bind fun t407 => (if t407 = true then ((zqo.f k a0_0 a0_1 a0_2 a0_3 l0_4 l0_5).bind fun t408 => (if t408 = 0 then (if (l0_5.length : Int) = 0 then (none) else ((some (([] : List (S43)) : List (S43))).bind fun y410 => (if 0 ≤ (Int.tmod (wrap64 (a1)) (l0_5.length : Int)) then (if (Int.tmod (wrap64 (a1)) (l0_5.length : Int)) ≤ (l0_5.length : Int) then ((some (l0_5.take ((Int.tmod (wrap64 (a1)) (l0_5.length : Int)) : Int).toNat : List (S43))).bind fun y413 => (if y410.length + y413.length < 2932031007402 then ((some (y410 ++ y413 : List (S43))).bind fun y417 => (if 0 ≤ (wrap64 ((Int.tmod (wrap64 (a1)) (l0_5.length : Int)) + 1)) then (if (wrap64 ((Int.tmod (wrap64 (a1)) (l0_5.length : Int)) + 1)) ≤ (l0_5.length : Int) then ((some (l0_5.drop ((wrap64 ((Int.tmod (wrap64 (a1)) (l0_5.length : Int)) + 1)) : Int).toNat : List (S43))).bind fun y420 => (if y417.length + y420.length < 2932031007402 then ((zqo.f k a0_0 a0_1 a0_2 a0_3 l0_4 (y417 ++ y420)).bind fun t427 => (if t427 = 0 then ((zqp.f k a0_0 a0_1 a0_2 a0_3 l0_4 l0_5).bind fun t428 => (zq2.l0 k t428 1 a0_0 a0_1 a0_2 a0_3 l0_4 l0_5)) else (none))) else (none))) else (none)) else (none))) else (none))) else (none)) else (none)))) else ((zq6.f k).bind fun t437 => (some t437)))) else ((zq6.f k).bind fun t438 => (some t438)))) = some r := h
 clear h
 replace H := Option.bind_eq_some_iff.mp H
 obtain ⟨t407, A30, H⟩ := H
 (try dsimp only at H)
 have A3 := Aside0.mk A30
 clear A30
 by_cases c4 : t407 = true
 ·subst c4
  have H1 : ((zqo.f k a0_0 a0_1 a0_2 a0_3 l0_4 l0_5).bind fun t408 => (if t408 = 0 then (if (l0_5.length : Int) = 0 then (none) else ((some (([] : List (S43)) : List (S43))).bind fun y410 => (if 0 ≤ (Int.tmod (wrap64 (a1)) (l0_5.length : Int)) then (if (Int.tmod (wrap64 (a1)) (l0_5.length : Int)) ≤ (l0_5.length : Int) then ((some (l0_5.take ((Int.tmod (wrap64 (a1)) (l0_5.length : Int)) : Int).toNat : List (S43))).bind fun y413 => (if y410.length + y413.length < 2932031007402 then ((some (y410 ++ y413 : List (S43))).bind fun y417 => (if 0 ≤ (wrap64 ((Int.tmod (wrap64 (a1)) (l0_5.length : Int)) + 1)) then (if (wrap64 ((Int.tmod (wrap64 (a1)) (l0_5.length : Int)) + 1)) ≤ (l0_5.length : Int) then ((some (l0_5.drop ((wrap64 ((Int.tmod (wrap64 (a1)) (l0_5.length : Int)) + 1)) : Int).toNat : List (S43))).bind fun y420 => (if y417.length + y420.length < 2932031007402 then ((zqo.f k a0_0 a0_1 a0_2 a0_3 l0_4 (y417 ++ y420)).bind fun t427 => (if t427 = 0 then ((zqp.f k a0_0 a0_1 a0_2 a0_3 l0_4 l0_5).bind fun t428 => (zq2.l0 k t428 1 a0_0 a0_1 a0_2 a0_3 l0_4 l0_5)) else (none))) else (none))) else (none)) else (none))) else (none))) else (none)) else (none)))) else ((zq6.f k).bind fun t437 => (some t437)))) = some r := by rw [if_pos rfl] at H; exact H
  clear H
  have H := H1
  clear H1
  replace H := Option.bind_eq_some_iff.mp H
  obtain ⟨t408, A50, H⟩ := H
  (try dsimp only at H)
  have A5 := Aside0.mk A50
  clear A50
  by_cases c6 : t408 = 0
  ·rw [if_pos c6] at H
   have c6b0 : (t408 == 0) = true := beq_iff_eq.mpr c6
   have c6b1 : (t408 != 0) = false := bne_eq_false_iff_eq.mpr c6
   clear c6
   by_cases c7 : (l0_5.length : Int) = 0
   ·rw [if_pos c7] at H
    exact absurd H (by simp)
   ·rw [if_neg c7] at H
    have c7b0 : ((l0_5.length : Int) == 0) = false := beq_eq_false_iff_ne.mpr c7
    have c7b1 : ((l0_5.length : Int) != 0) = true := bne_iff_ne.mpr c7
    have c7b2 : ¬ (l0_5 = []) := fun h_ => c7 (by rw [h_]; rfl)
    obtain ⟨y410, hy410⟩ : ∃ y_ : List (S43), y_ = (([] : List (S43))) := ⟨_, rfl⟩
    replace H : (if 0 ≤ (Int.tmod (wrap64 (a1)) (l0_5.length : Int)) then (if (Int.tmod (wrap64 (a1)) (l0_5.length : Int)) ≤ (l0_5.length : Int) then ((some (l0_5.take ((Int.tmod (wrap64 (a1)) (l0_5.length : Int)) : Int).toNat : List (S43))).bind fun y413 => (if y410.length + y413.length < 2932031007402 then ((some (y410 ++ y413 : List (S43))).bind fun y417 => (if 0 ≤ (wrap64 ((Int.tmod (wrap64 (a1)) (l0_5.length : Int)) + 1)) then (if (wrap64 ((Int.tmod (wrap64 (a1)) (l0_5.length : Int)) + 1)) ≤ (l0_5.length : Int) then ((some (l0_5.drop ((wrap64 ((Int.tmod (wrap64 (a1)) (l0_5.length : Int)) + 1)) : Int).toNat : List (S43))).bind fun y420 => (if y417.length + y420.length < 2932031007402 then ((zqo.f k a0_0 a0_1 a0_2 a0_3 l0_4 (y417 ++ y420)).bind fun t427 => (if t427 = 0 then ((zqp.f k a0_0 a0_1 a0_2 a0_3 l0_4 l0_5).bind fun t428 => (zq2.l0 k t428 1 a0_0 a0_1 a0_2 a0_3 l0_4 l0_5)) else (none))) else (none))) else (none)) else (none))) else (none))) else (none)) else (none)) = some r := by first | (rw [hy410]; with_reducible exact H) | (have H2_ := (Option.bind_some _ _).symm.trans H; rw [hy410]; with_reducible exact H2_) | (have H2_ := (Option.bind_some _ _).symm.trans H; with_reducible exact H2_) | with_reducible exact H | (rw [hy410]; exact H) | exact H
    have Ny410 := Aside0.mk hy410
    clear hy410
    obtain ⟨ji8, hji8⟩ : ∃ j_ : Int, (Int.tmod (wrap64 (a1)) (l0_5.length : Int)) = j_ := ⟨_, rfl⟩
    replace H : (if 0 ≤ (ji8) then (if (ji8) ≤ (l0_5.length : Int) then ((some (l0_5.take ((ji8) : Int).toNat : List (S43))).bind fun y413 => (if y410.length + y413.length < 2932031007402 then ((some (y410 ++ y413 : List (S43))).bind fun y417 => (if 0 ≤ (wrap64 ((ji8) + 1)) then (if (wrap64 ((ji8) + 1)) ≤ (l0_5.length : Int) then ((some (l0_5.drop ((wrap64 ((ji8) + 1)) : Int).toNat : List (S43))).bind fun y420 => (if y417.length + y420.length < 2932031007402 then ((zqo.f k a0_0 a0_1 a0_2 a0_3 l0_4 (y417 ++ y420)).bind fun t427 => (if t427 = 0 then ((zqp.f k a0_0 a0_1 a0_2 a0_3 l0_4 l0_5).bind fun t428 => (zq2.l0 k t428 1 a0_0 a0_1 a0_2 a0_3 l0_4 l0_5)) else (none))) else (none))) else (none)) else (none))) else (none))) else (none)) else (none)) = some r := by first | (rw [hji8] at H; exact H) | (simp only [hji8] at H ⊢; exact H)
    (try rw [hji8] at A3)
    (try rw [hji8] at A5)
    by_cases c9 : 0 ≤ (ji8)
    ·rw [if_pos c9] at H
     have c9b0 := eq_true c9
     have c9b1 : decide (0 ≤ (ji8)) = true := decide_eq_true c9
     clear c9
     by_cases c10 : (ji8) ≤ (l0_5.length : Int)
     ·rw [if_pos c10] at H
      have c10b0 := eq_true c10
      have c10b1 : decide ((ji8) ≤ (l0_5.length : Int)) = true := decide_eq_true c10
      clear c10
      obtain ⟨y413, hy413⟩ : ∃ y_ : List (S43), y_ = (l0_5.take ((ji8) : Int).toNat) := ⟨_, rfl⟩
      replace H : (if y410.length + y413.length < 2932031007402 then ((some (y410 ++ y413 : List (S43))).bind fun y417 => (if 0 ≤ (wrap64 ((ji8) + 1)) then (if (wrap64 ((ji8) + 1)) ≤ (l0_5.length : Int) then ((some (l0_5.drop ((wrap64 ((ji8) + 1)) : Int).toNat : List (S43))).bind fun y420 => (if y417.length + y420.length < 2932031007402 then ((zqo.f k a0_0 a0_1 a0_2 a0_3 l0_4 (y417 ++ y420)).bind fun t427 => (if t427 = 0 then ((zqp.f k a0_0 a0_1 a0_2 a0_3 l0_4 l0_5).bind fun t428 => (zq2.l0 k t428 1 a0_0 a0_1 a0_2 a0_3 l0_4 l0_5)) else (none))) else (none))) else (none)) else (none))) else (none)) = some r := by first | (rw [hy413]; with_reducible exact H) | (have H2_ := (Option.bind_some _ _).symm.trans H; rw [hy413]; with_reducible exact H2_) | (have H2_ := (Option.bind_some _ _).symm.trans H; with_reducible exact H2_) | with_reducible exact H | (rw [hy413]; exact H) | exact H
      have Ny413 := Aside0.mk hy413
      clear hy413
      by_cases c11 : y410.length + y413.length < 2932031007402
      ·rw [if_pos c11] at H
       have LMc11 := Aside0.mk c11
       clear c11
       obtain ⟨y417, hy417⟩ : ∃ y_ : List (S43), y_ = (y410 ++ y413) := ⟨_, rfl⟩
       replace H : (if 0 ≤ (wrap64 ((ji8) + 1)) then (if (wrap64 ((ji8) + 1)) ≤ (l0_5.length : Int) then ((some (l0_5.drop ((wrap64 ((ji8) + 1)) : Int).toNat : List (S43))).bind fun y420 => (if y417.length + y420.length < 2932031007402 then ((zqo.f k a0_0 a0_1 a0_2 a0_3 l0_4 (y417 ++ y420)).bind fun t427 => (if t427 = 0 then ((zqp.f k a0_0 a0_1 a0_2 a0_3 l0_4 l0_5).bind fun t428 => (zq2.l0 k t428 1 a0_0 a0_1 a0_2 a0_3 l0_4 l0_5)) else (none))) else (none))) else (none)) else (none)) = some r := by first | (rw [hy417]; with_reducible exact H) | (have H2_ := (Option.bind_some _ _).symm.trans H; rw [hy417]; with_reducible exact H2_) | (have H2_ := (Option.bind_some _ _).symm.trans H; with_reducible exact H2_) | with_reducible exact H | (rw [hy417]; exact H) | exact H
       have Ny417 := Aside0.mk hy417
       clear hy417
       obtain ⟨ji12, hji12⟩ : ∃ j_ : Int, (wrap64 ((ji8) + 1)) = j_ := ⟨_, rfl⟩
       replace H : (if 0 ≤ (ji12) then (if (ji12) ≤ (l0_5.length : Int) then ((some (l0_5.drop ((ji12) : Int).toNat : List (S43))).bind fun y420 => (if y417.length + y420.length < 2932031007402 then ((zqo.f k a0_0 a0_1 a0_2 a0_3 l0_4 (y417 ++ y420)).bind fun t427 => (if t427 = 0 then ((zqp.f k a0_0 a0_1 a0_2 a0_3 l0_4 l0_5).bind fun t428 => (zq2.l0 k t428 1 a0_0 a0_1 a0_2 a0_3 l0_4 l0_5)) else (none))) else (none))) else (none)) else (none)) = some r := by first | (rw [hji12] at H; exact H) | (simp only [hji12] at H ⊢; exact H)
       (try rw [hji12] at A3)
       (try rw [hji12] at A5)
       have hji12w : (IntKind.i64.wrap ((ji8) + 1)) = ji12 := (i64_w _).trans hji12
       by_cases c13 : 0 ≤ (ji12)
       ·rw [if_pos c13] at H
        have c13b0 := eq_true c13
        have c13b1 : decide (0 ≤ (ji12)) = true := decide_eq_true c13
        clear c13
        by_cases c14 : (ji12) ≤ (l0_5.length : Int)
        ·rw [if_pos c14] at H
         have c14b0 := eq_true c14
         have c14b1 : decide ((ji12) ≤ (l0_5.length : Int)) = true := decide_eq_true c14
         clear c14
         obtain ⟨y420, hy420⟩ : ∃ y_ : List (S43), y_ = (l0_5.drop ((ji12) : Int).toNat) := ⟨_, rfl⟩
         replace H : (if y417.length + y420.length < 2932031007402 then ((zqo.f k a0_0 a0_1 a0_2 a0_3 l0_4 (y417 ++ y420)).bind fun t427 => (if t427 = 0 then ((zqp.f k a0_0 a0_1 a0_2 a0_3 l0_4 l0_5).bind fun t428 => (zq2.l0 k t428 1 a0_0 a0_1 a0_2 a0_3 l0_4 l0_5)) else (none))) else (none)) = some r := by first | (rw [hy420]; with_reducible exact H) | (have H2_ := (Option.bind_some _ _).symm.trans H; rw [hy420]; with_reducible exact H2_) | (have H2_ := (Option.bind_some _ _).symm.trans H; with_reducible exact H2_) | with_reducible exact H | (rw [hy420]; exact H) | exact H
         have Ny420 := Aside0.mk hy420
         clear hy420
         by_cases c15 : y417.length + y420.length < 2932031007402
         ·rw [if_pos c15] at H
          have LMc15 := Aside0.mk c15
          clear c15
          obtain ⟨y424, hy424⟩ : ∃ y_ : List (S43), y_ = (y417 ++ y420) := ⟨_, rfl⟩
          replace H : ((zqo.f k a0_0 a0_1 a0_2 a0_3 l0_4 y424).bind fun t427 => (if t427 = 0 then ((zqp.f k a0_0 a0_1 a0_2 a0_3 l0_4 l0_5).bind fun t428 => (zq2.l0 k t428 1 a0_0 a0_1 a0_2 a0_3 l0_4 l0_5)) else (none))) = some r := by first | (rw [hy424]; with_reducible exact H) | (have H2_ := (Option.bind_some _ _).symm.trans H; rw [hy424]; with_reducible exact H2_) | (have H2_ := (Option.bind_some _ _).symm.trans H; with_reducible exact H2_) | with_reducible exact H | (rw [hy424]; exact H) | exact H
          have Ny424 := Aside0.mk hy424
          clear hy424
          replace H := Option.bind_eq_some_iff.mp H
          obtain ⟨t427, A160, H⟩ := H
          (try dsimp only at H)
          have A16 := Aside0.mk A160
          clear A160
          by_cases c17 : t427 = 0
          ·rw [if_pos c17] at H
           have c17b0 : (t427 == 0) = true := beq_iff_eq.mpr c17
           have c17b1 : (t427 != 0) = false := bne_eq_false_iff_eq.mpr c17
           clear c17
           replace H := Option.bind_eq_some_iff.mp H
           obtain ⟨t428, A180, H⟩ := H
           (try dsimp only at H)
           have A18 := Aside0.mk A180
           clear A180
           have H' := Aside0.mk H
           clear H
           go_enter Try.func8, Try.ntmps8
           try go_wp2_with (first | ((with_reducible refine y0j (N := 2) rfl ?_); refine y0e ?hg (N := 2) ?hd (cs := #[.string a0_0, .string a0_1, .string a0_2, .int .i64 a0_3, .slice A0_4 l0_4.length c0_4, .slice A0_5 l0_5.length c0_5]) (t := 25) ?hr ?_; (case hd => rfl); (case hg => rfl); (case hr => first | (go_simp; done) | (go_simp; rfl)); intro gb406 hg w19 hbox hb; have n0_ := Aside0.mk (y04 hb_ hb); have n1_ := Aside0.mk (hbox); have n2_ := Aside0.mk ((by rw [hg]; exact (y03 hb_) : w.heap.size ≤ gb406)); have n3_ := Aside0.mk ((by rw [hg]; exact (y03 hb_) : w.heap.size ≤ gb406)); clear HB; have HB := n0_; have BK406 := n1_; have GW406 := n2_; have GE406 := n3_; clear n0_ n1_ n2_ n3_; clear hb hbox hg; obtain ⟨hcz20_0, hfz20_0⟩ := bc_ BK406.out 0 rfl; obtain ⟨hcz20_1, hfz20_1⟩ := bc_ BK406.out 1 rfl; obtain ⟨hcz20_2, hfz20_2⟩ := bc_ BK406.out 2 rfl; obtain ⟨hcz20_3, hfz20_3⟩ := bc_ BK406.out 3 rfl; obtain ⟨hcz20_4, hfz20_4⟩ := bc_ BK406.out 4 rfl; obtain ⟨hcz20_5, hfz20_5⟩ := bc_ BK406.out 5 rfl) | ((with_reducible refine y0i (f := 17) rfl ?_); refine goesL_ (some 15) rfl rfl Try.func17 (by kernel_rfl) rfl #[.agg #[.string a0_0, .string a0_1, .string a0_2, .int .i64 a0_3, .slice A0_4 l0_4.length c0_4, .slice A0_5 l0_5.length c0_5]] rfl ar_ ?_; (with_reducible refine (zq7.calls k a0_0 a0_1 a0_2 a0_3 _ _ l0_4 _ _ l0_5 true _ ?side1 ?side2 ?side3 ?side4 A3.out).mono ?_); (case side1 => repeat (first | exact (Kd.C_below HR0_4.out HB.out) | (with_reducible refine Kd.C_alloc ?_ _) | (with_reducible refine Kd.C_drewN ?_ _) | (with_reducible refine Kd.C_drew ?_))); (case side2 => exact HC0_4.out); (case side3 => repeat (first | exact (Kd.C_below HR0_5.out HB.out) | (with_reducible refine Kd.C_alloc ?_ _) | (with_reducible refine Kd.C_drewN ?_ _) | (with_reducible refine Kd.C_drew ?_))); (case side4 => exact HC0_5.out); rintro e w21 ⟨rfl, hb⟩; refine ⟨_, rfl, ?_⟩; have n0_ := Aside0.mk (y06 (bk_ BK406.out) hb); have n1_ := Aside0.mk (y04 hb_ hb); clear BK406 HB; have BK406 := n0_; have HB := n1_; clear n0_ n1_; (try clear hb); (try clear hb2); (try clear hk); (try clear hi); obtain ⟨hcz22_0, hfz22_0⟩ := bc_ BK406.out 0 rfl; obtain ⟨hcz22_1, hfz22_1⟩ := bc_ BK406.out 1 rfl; obtain ⟨hcz22_2, hfz22_2⟩ := bc_ BK406.out 2 rfl; obtain ⟨hcz22_3, hfz22_3⟩ := bc_ BK406.out 3 rfl; obtain ⟨hcz22_4, hfz22_4⟩ := bc_ BK406.out 4 rfl; obtain ⟨hcz22_5, hfz22_5⟩ := bc_ BK406.out 5 rfl) | (go_at_call 18; (with_reducible refine (zqo.calls k a0_0 a0_1 a0_2 a0_3 _ _ l0_4 _ _ l0_5 t408 _ ?side1 ?side2 ?side3 ?side4 A5.out).mono ?_); (case side1 => repeat (first | exact (Kd.C_below HR0_4.out HB.out) | (with_reducible refine Kd.C_alloc ?_ _) | (with_reducible refine Kd.C_drewN ?_ _) | (with_reducible refine Kd.C_drew ?_))); (case side2 => exact HC0_4.out); (case side3 => repeat (first | exact (Kd.C_below HR0_5.out HB.out) | (with_reducible refine Kd.C_alloc ?_ _) | (with_reducible refine Kd.C_drewN ?_ _) | (with_reducible refine Kd.C_drew ?_))); (case side4 => exact HC0_5.out); rintro e w23 ⟨rfl, hb⟩; have n0_ := Aside0.mk (y06 (bk_ BK406.out) hb); have n1_ := Aside0.mk (y04 hb_ hb); clear BK406 HB; have BK406 := n0_; have HB := n1_; clear n0_ n1_; (try clear hb); (try clear hb2); (try clear hk); (try clear hi); obtain ⟨hcz24_0, hfz24_0⟩ := bc_ BK406.out 0 rfl; obtain ⟨hcz24_1, hfz24_1⟩ := bc_ BK406.out 1 rfl; obtain ⟨hcz24_2, hfz24_2⟩ := bc_ BK406.out 2 rfl; obtain ⟨hcz24_3, hfz24_3⟩ := bc_ BK406.out 3 rfl; obtain ⟨hcz24_4, hfz24_4⟩ := bc_ BK406.out 4 rfl; obtain ⟨hcz24_5, hfz24_5⟩ := bc_ BK406.out 5 rfl) | ((with_reducible refine y0j (N := 5) rfl ?_); refine y0e ?hg (N := 5) ?hd (cs := #[.string (⟨#[]⟩ : ByteArray), .string (⟨#[]⟩ : ByteArray), .string (⟨#[]⟩ : ByteArray), .int .i64 0, .slice none 0 0, .slice none 0 0]) (t := 25) ?hr ?_; (case hd => rfl); (case hg => rfl); (case hr => first | (go_simp; done) | (go_simp; rfl)); intro gb409 hg w25 hbox hb; have n0_ := Aside0.mk (y06 (bk_ BK406.out) hb); have n1_ := Aside0.mk (y04 hb_ hb); have n2_ := Aside0.mk (hbox); have n3_ := Aside0.mk ((by rw [hg]; exact (y03 hb_) : w.heap.size ≤ gb409)); have n4_ := Aside0.mk ((by rw [hg]; exact (y03 hb_) : w.heap.size ≤ gb409)); have n5_ := Aside0.mk ((by rw [hg]; exact Nat.ne_of_lt (y0c (bk_ BK406.out)) : gb406 ≠ gb409)); have n6_ := Aside0.mk ((by rw [hg]; exact Nat.ne_of_gt (y0c (bk_ BK406.out)) : gb409 ≠ gb406)); clear BK406 HB; have BK406 := n0_; have HB := n1_; have BK409 := n2_; have GW409 := n3_; have GE409 := n4_; have NB406_409 := n5_; have NB409_406 := n6_; clear n0_ n1_ n2_ n3_ n4_ n5_ n6_; clear hb hbox hg; have hnb26 := NB409_406.out; have hnc26 := NB406_409.out; obtain ⟨hcz27_0, hfz27_0⟩ := bc_ BK409.out 0 rfl; obtain ⟨hcz27_1, hfz27_1⟩ := bc_ BK409.out 1 rfl; obtain ⟨hcz27_2, hfz27_2⟩ := bc_ BK409.out 2 rfl; obtain ⟨hcz27_3, hfz27_3⟩ := bc_ BK409.out 3 rfl; obtain ⟨hcz27_4, hfz27_4⟩ := bc_ BK409.out 4 rfl; obtain ⟨hcz27_5, hfz27_5⟩ := bc_ BK409.out 5 rfl))
           have n0_ : Aside0 (((((((w25.setCell ⟨gb409, 0, none⟩ (.string a0_0)).setCell ⟨gb409, 1, none⟩ (.string a0_1)).setCell ⟨gb409, 2, none⟩ (.string a0_2)).setCell ⟨gb409, 3, none⟩ (.int .i64 a0_3)).setCell ⟨gb409, 4, none⟩ (.slice A0_4 l0_4.length c0_4)).setCell ⟨gb409, 5, none⟩ (.slice A0_5 l0_5.length c0_5)).heap[gb406]? = some (.cells #[.string a0_0, .string a0_1, .string a0_2, .int .i64 a0_3, .slice A0_4 l0_4.length c0_4, .slice A0_5 l0_5.length c0_5] 25 (0, 0))) := ⟨by (with_reducible repeat (first | refine y09 ?_ _ | refine y08 ?_ | refine y05 ?_ _)); refine y0a ?_ NB406_409.out _; (with_reducible repeat (first | refine y09 ?_ _ | refine y08 ?_ | refine y05 ?_ _)); refine y0a ?_ NB406_409.out _; (with_reducible repeat (first | refine y09 ?_ _ | refine y08 ?_ | refine y05 ?_ _)); refine y0a ?_ NB406_409.out _; (with_reducible repeat (first | refine y09 ?_ _ | refine y08 ?_ | refine y05 ?_ _)); refine y0a ?_ NB406_409.out _; (with_reducible repeat (first | refine y09 ?_ _ | refine y08 ?_ | refine y05 ?_ _)); refine y0a ?_ NB406_409.out _; (with_reducible repeat (first | refine y09 ?_ _ | refine y08 ?_ | refine y05 ?_ _)); refine y0a ?_ NB406_409.out _; (with_reducible repeat (first | refine y09 ?_ _ | refine y08 ?_ | refine y05 ?_ _)); exact BK406.out⟩
           have n1_ : Aside0 (((((((w25.setCell ⟨gb409, 0, none⟩ (.string a0_0)).setCell ⟨gb409, 1, none⟩ (.string a0_1)).setCell ⟨gb409, 2, none⟩ (.string a0_2)).setCell ⟨gb409, 3, none⟩ (.int .i64 a0_3)).setCell ⟨gb409, 4, none⟩ (.slice A0_4 l0_4.length c0_4)).setCell ⟨gb409, 5, none⟩ (.slice A0_5 l0_5.length c0_5)).heap[gb409]? = some (.cells #[.string a0_0, .string a0_1, .string a0_2, .int .i64 a0_3, .slice A0_4 l0_4.length c0_4, .slice A0_5 l0_5.length c0_5] 25 (0, 0))) := ⟨by (with_reducible repeat (first | refine y09 ?_ _ | refine y08 ?_ | refine y05 ?_ _)); refine y0d (cs := #[.string a0_0, .string a0_1, .string a0_2, .int .i64 a0_3, .slice A0_4 l0_4.length c0_4, .slice none 0 0]) ?_ 5 _ rfl; (with_reducible repeat (first | refine y09 ?_ _ | refine y08 ?_ | refine y05 ?_ _)); refine y0d (cs := #[.string a0_0, .string a0_1, .string a0_2, .int .i64 a0_3, .slice none 0 0, .slice none 0 0]) ?_ 4 _ rfl; (with_reducible repeat (first | refine y09 ?_ _ | refine y08 ?_ | refine y05 ?_ _)); refine y0d (cs := #[.string a0_0, .string a0_1, .string a0_2, .int .i64 0, .slice none 0 0, .slice none 0 0]) ?_ 3 _ rfl; (with_reducible repeat (first | refine y09 ?_ _ | refine y08 ?_ | refine y05 ?_ _)); refine y0d (cs := #[.string a0_0, .string a0_1, .string (⟨#[]⟩ : ByteArray), .int .i64 0, .slice none 0 0, .slice none 0 0]) ?_ 2 _ rfl; (with_reducible repeat (first | refine y09 ?_ _ | refine y08 ?_ | refine y05 ?_ _)); refine y0d (cs := #[.string a0_0, .string (⟨#[]⟩ : ByteArray), .string (⟨#[]⟩ : ByteArray), .int .i64 0, .slice none 0 0, .slice none 0 0]) ?_ 1 _ rfl; (with_reducible repeat (first | refine y09 ?_ _ | refine y08 ?_ | refine y05 ?_ _)); refine y0d (cs := #[.string (⟨#[]⟩ : ByteArray), .string (⟨#[]⟩ : ByteArray), .string (⟨#[]⟩ : ByteArray), .int .i64 0, .slice none 0 0, .slice none 0 0]) ?_ 0 _ rfl; (with_reducible repeat (first | refine y09 ?_ _ | refine y08 ?_ | refine y05 ?_ _)); exact BK409.out⟩
           have n2_ : Aside0 (Below w.heap.size w ((((((w25.setCell ⟨gb409, 0, none⟩ (.string a0_0)).setCell ⟨gb409, 1, none⟩ (.string a0_1)).setCell ⟨gb409, 2, none⟩ (.string a0_2)).setCell ⟨gb409, 3, none⟩ (.int .i64 a0_3)).setCell ⟨gb409, 4, none⟩ (.slice A0_4 l0_4.length c0_4)).setCell ⟨gb409, 5, none⟩ (.slice A0_5 l0_5.length c0_5))) := ⟨hb_⟩
           (try clear BK406); (try clear BK409); (try clear HB)
           (try (have hck_w28 : (((((((w25.setCell ⟨gb409, 0, none⟩ (.string a0_0)).setCell ⟨gb409, 1, none⟩ (.string a0_1)).setCell ⟨gb409, 2, none⟩ (.string a0_2)).setCell ⟨gb409, 3, none⟩ (.int .i64 a0_3)).setCell ⟨gb409, 4, none⟩ (.slice A0_4 l0_4.length c0_4)).setCell ⟨gb409, 5, none⟩ (.slice A0_5 l0_5.length c0_5))).cell? ⟨gb409, 5, none⟩ = some (.slice A0_5 l0_5.length c0_5) := World.cell?_setCell_same _ _ _ (by with_reducible assumption)))
           (first | generalize ((((((w25.setCell ⟨gb409, 0, none⟩ (.string a0_0)).setCell ⟨gb409, 1, none⟩ (.string a0_1)).setCell ⟨gb409, 2, none⟩ (.string a0_2)).setCell ⟨gb409, 3, none⟩ (.int .i64 a0_3)).setCell ⟨gb409, 4, none⟩ (.slice A0_4 l0_4.length c0_4)).setCell ⟨gb409, 5, none⟩ (.slice A0_5 l0_5.length c0_5)) = w28 at n0_ n1_ n2_ hck_w28 ⊢ | generalize ((((((w25.setCell ⟨gb409, 0, none⟩ (.string a0_0)).setCell ⟨gb409, 1, none⟩ (.string a0_1)).setCell ⟨gb409, 2, none⟩ (.string a0_2)).setCell ⟨gb409, 3, none⟩ (.int .i64 a0_3)).setCell ⟨gb409, 4, none⟩ (.slice A0_4 l0_4.length c0_4)).setCell ⟨gb409, 5, none⟩ (.slice A0_5 l0_5.length c0_5)) = w28 at n0_ n1_ n2_ ⊢)
           have BK406 := n0_; have BK409 := n1_; have HB := n2_
           clear n0_ n1_ n2_
           have n0_ := Aside0.mk (y08 BK406.out)
           have n1_ := Aside0.mk (y08 BK409.out)
           have n2_ := Aside0.mk (y01 HB.out)
           clear BK406 BK409 HB
           have BK406 := n0_; have BK409 := n1_; have HB := n2_
           clear n0_ n1_ n2_
           have q30 : ((ji8) : Int) ≤ ((l0_5.length : Int) : Int) := oa_
           obtain ⟨i030, hi030, _, hsz30, _⟩ := info_parts info43
           have hroom30 : l0_5.length ≤ c0_5 := HC0_5.out
           have hC30 : Kd.C k43 _ A0_5 l0_5.length l0_5 := HR0_5.out
           have hcut30 := cut_to (P := Try.prog) 23 43 .i64 Try.underlying23 hi030 A0_5 l0_5.length c0_5 (ji8) (oa_) q30 hroom30
           have hr30 := Kd.C_take (m := ((ji8) : Int).toNat) hC30 (by omega)
           have hy30 : y413.length = ((ji8) : Int).toNat := (by rw [Ny413.out, List.length_take]; omega)
           rw [← Ny413.out] at hr30
           rw [← hy30] at hcut30
           have HR416 := Aside0.mk hr30
           have HC416 := Aside0.mk (show y413.length ≤ c0_5 from by omega)
           clear hr30 hC30 hroom30 hi030 hsz30
           have KY30 := Aside0.mk hy30
           clear hy30
           replace q30 := eq_true q30
           have q31 : ((ji12) : Int) ≤ ((l0_5.length : Int) : Int) := oa_
           obtain ⟨i031, hi031, _, hsz31, _⟩ := info_parts info43
           have hroom31 : l0_5.length ≤ c0_5 := HC0_5.out
           have hC31 : Kd.C k43 _ A0_5 l0_5.length l0_5 := HR0_5.out
           have q031 : (0 : Int) ≤ ((ji12) : Int) := oa_
           have hcut31 := cut_from (P := Try.prog) 23 43 .i64 Try.underlying23 hi031 5 hsz31 A0_5 l0_5.length c0_5 (ji12) q031 q31
           have hr31 := Kd.C_drop (m := ((ji12) : Int).toNat) (c := c0_5) hC31 (by omega) hroom31
           obtain ⟨A31, hA31⟩ : ∃ A1, A1 = (if c0_5 = ((ji12) : Int).toNat then A0_5 else (A0_5 : Option Addr).map (·.add (((ji12) : Int).toNat * 5))) := ⟨_, rfl⟩
           obtain ⟨c31, hc31⟩ : ∃ c1, c1 = c0_5 - ((ji12) : Int).toNat := ⟨_, rfl⟩
           have hy31 : y420.length = l0_5.length - ((ji12) : Int).toNat := (by rw [Ny420.out, List.length_drop] <;> omega)
           rw [show (l0_5).drop ((ji12) : Int).toNat = y420 from Ny420.out.symm] at hr31
           replace hr31 : Kd.C k43 _ A31 y420.length y420 := (by rw [hA31]; exact hr31)
           rw [← hy31, ← hA31, ← hc31] at hcut31
           have HR423 := Aside0.mk hr31
           have HC423 := Aside0.mk (show y420.length ≤ c31 from by rw [hy31, hc31]; exact Nat.sub_le_sub_right hroom31 _)
           clear hr31 hC31 hroom31 hi031 hsz31 hc31
           have KY31 := Aside0.mk hy31
           have KA31 := Aside0.mk hA31
           clear hy31 hA31
           replace q31 := eq_true q31
           refine start_ (n := 14) (S := fun w' => w'.cell? ⟨gb409, 0, none⟩ = some (.string a0_0) ∧ w'.cell? ⟨gb409, 1, none⟩ = some (.string a0_1) ∧ w'.cell? ⟨gb409, 2, none⟩ = some (.string a0_2) ∧ w'.cell? ⟨gb409, 3, none⟩ = some (.int .i64 a0_3) ∧ w'.cell? ⟨gb409, 4, none⟩ = some (.slice A0_4 l0_4.length c0_4) ∧ w'.cell? ⟨gb409, 5, none⟩ = some (.slice A0_5 l0_5.length c0_5)) (ds := [13]) #[false, false, false, false, false, false, false, false, false, false, false, false, false, false] (by kernel_rfl) rfl rfl ⟨(y07 BK409.out 0).trans rfl, (y07 BK409.out 1).trans rfl, (y07 BK409.out 2).trans rfl, (y07 BK409.out 3).trans rfl, (y07 BK409.out 4).trans rfl, (y07 BK409.out 5).trans rfl⟩ (fun hHeld => ?_); refine with_tabW zq2.tab8 zq2.bits8 (fun HT_ HW_ => ?_)
           generalize w28.drew = w29 at BK406 BK409 HB HR416 HR423 hHeld ⊢
           refine pu_ 1 (some 47) (fl 14 2) rfl rfl HT_ ?_
           refine pu_ 3 (some 49) (fl 14 10) rfl rfl HT_ ?_
           refine pu_ 6 (some 52) (fl 14 74) rfl rfl HT_ ?_
           refine pu_ 8 (some 54) (fl 14 330) rfl rfl HT_ ?_
           refine pu_ 9 (some 55) (fl 14 842) rfl rfl HT_ ?_
           refine ta_ 2 (some 48) (fl 14 846) rfl rfl HT_ HW_ hHeld ?_
           refine pu_ 4 (some 50) (fl 14 862) rfl rfl HT_ ?_
           refine ta_ 7 (some 53) (fl 14 990) rfl rfl HT_ HW_ hHeld ?_
           refine pu_ 10 (some 56) (fl 14 2014) rfl rfl HT_ ?_
           refine one_ (i := 0) (N := some 46) (fl 14 2015) rfl rfl (one_of HT_.out (by kernel_rfl)) (by decide) (fun K hK => ?_)
           refine Kd.R_lit_step k43 _ 43 ?hg (N := 46) ?hd (xs := ([] : List (S43))) (inner := []) (ok := fun _ => True) (okp := fun _ => True) ?hr ?hp (fun _ hk => hk) trivial (Below.refl _ _) (Nat.le_refl _) (by simp) ?_; (case hd => rfl); (case hg => rfl); (case hr => first | (go_simp; done) | (go_simp; rfl)); (case hp => exact (Reps.none _ _))
           intro v411 w32 ho33 hb hg_ hnew_
           clear hg_ hnew_
           (first | rw [← Ny410.out] at ho33 | (simp only [Int.reduceToNat] at ho33; rw [← Ny410.out] at ho33))
           have n0_ := Aside0.mk (Kd.R_lower ho33 (y03 hb_))
           have n1_ := Aside0.mk (y06 (bk_ BK406.out) hb)
           have n2_ := Aside0.mk (y06 (bk_ BK409.out) hb)
           have n3_ := Aside0.mk (y04 hb_ hb)
           clear BK406 BK409 HB
           have HO412 := n0_; have BK406 := n1_; have BK409 := n2_; have HB := n3_
           clear n0_ n1_ n2_ n3_ hb ho33
           refine hK.out _ _ ⟨(y07 BK409.out 0).trans rfl, (y07 BK409.out 1).trans rfl, (y07 BK409.out 2).trans rfl, (y07 BK409.out 3).trans rfl, (y07 BK409.out 4).trans rfl, (y07 BK409.out 5).trans rfl⟩ (fun hHeld => ?_)
           clear hK K
           refine no_ (N := some 46) ?_
           refine one_ (i := 5) (N := some 51) (fl 14 2047) rfl rfl (one_of HT_.out (by kernel_rfl)) (by decide) (fun K hK => ?_)
           refine Kd.R_append_rows_step k43 (w0 := w) w.heap.size (by rfl) (.tmp 46) (.tmp 50) 23 43 (.agg #[(.int .i64 0), (.int .i64 0), (.int .i64 0), (.string ⟨#[]⟩), (.bool false)]) 48 rfl Try.underlying23 info43 rfl (by decide) (by omega) v411 y410 y413 _ _ _ (fun _ => True) (fun _ => False) rfl rfl ?aO ?aR (fun _ _ h => h) (fun _ h => h.elim) ?aF ?aB ?aS ?aL ?_
           (case aR => repeat (first | exact (Kd.C_below HR416.out HB.out) | (with_reducible refine Kd.C_alloc ?_ _) | (with_reducible refine Kd.C_drewN ?_ _) | (with_reducible refine Kd.C_drew ?_)))
           (case aB => exact hb_)
           (case aF => exact (fun _ _ => trivial))
           (case aO => exact (rk_ HO412.out))
           (case aS => exact (y03 hb_))
           (case aL => have := LMc11.out; omega)
           intro v418 w34 ho hb hg hat
           rw [← Ny417.out] at ho
           have n0_ := Aside0.mk (blk_grown (bk_ BK406.out) hg (Kd.R_ne HO412.out BK406.out (by decide)))
           have n1_ := Aside0.mk (blk_grown (bk_ BK409.out) hg (Kd.R_ne HO412.out BK409.out (by decide)))
           have n2_ := Aside0.mk (hb)
           have n3_ := Aside0.mk (ho)
           clear BK406 BK409 HB HO412
           have BK406 := n0_; have BK409 := n1_; have HB := n2_; have HO419 := n3_
           clear n0_ n1_ n2_ n3_ ho hb hg hat
           refine hK.out _ _ ⟨(y07 BK409.out 0).trans rfl, (y07 BK409.out 1).trans rfl, (y07 BK409.out 2).trans rfl, (y07 BK409.out 3).trans rfl, (y07 BK409.out 4).trans rfl, (y07 BK409.out 5).trans rfl⟩ (fun hHeld => ?_)
           clear hK K
           refine no_ (N := some 51) ?_
           refine one_ (i := 11) (N := some 57) (fl 14 4095) rfl rfl (one_of HT_.out (by kernel_rfl)) (by decide) (fun K hK => ?_)
           refine Kd.R_append_rows_step k43 (w0 := w) w.heap.size (by rfl) (.tmp 51) (.tmp 56) 23 43 (.agg #[(.int .i64 0), (.int .i64 0), (.int .i64 0), (.string ⟨#[]⟩), (.bool false)]) 48 rfl Try.underlying23 info43 rfl (by decide) (by omega) v418 y417 y420 _ _ _ (fun _ => True) (fun _ => False) rfl rfl ?aO ?aR (fun _ _ h => h) (fun _ h => h.elim) ?aF ?aB ?aS ?aL ?_
           (case aR => repeat (first | exact (Kd.C_below HR423.out HB.out) | (with_reducible refine Kd.C_alloc ?_ _) | (with_reducible refine Kd.C_drewN ?_ _) | (with_reducible refine Kd.C_drew ?_)))
           (case aB => exact hb_)
           (case aF => exact (fun _ _ => trivial))
           (case aO => exact (rk_ HO419.out))
           (case aS => exact (y03 hb_))
           (case aL => have := LMc15.out; omega)
           intro v425 w35 ho hb hg hat
           rw [← Ny424.out] at ho
           have n0_ := Aside0.mk (blk_grown (bk_ BK406.out) hg (Kd.R_ne HO419.out BK406.out (by decide)))
           have n1_ := Aside0.mk (blk_grown (bk_ BK409.out) hg (Kd.R_ne HO419.out BK409.out (by decide)))
           have n2_ := Aside0.mk (hb)
           have n3_ := Aside0.mk (ho)
           clear BK406 BK409 HB HO419
           have BK406 := n0_; have BK409 := n1_; have HB := n2_; have HO426 := n3_
           clear n0_ n1_ n2_ n3_ ho hb hg hat
           obtain ⟨Ao36, co36, eo36⟩ := Kd.R_slice HO426.out
           (first | subst eo36 | (injection eo36 with f1_ f2_ f3_; have f4_ := f1_.symm; have f5_ := f3_.symm; clear f1_ f2_ f3_; subst f4_; subst f5_))
           refine hK.out _ _ ⟨(y07 BK409.out 0).trans rfl, (y07 BK409.out 1).trans rfl, (y07 BK409.out 2).trans rfl, (y07 BK409.out 3).trans rfl, (y07 BK409.out 4).trans rfl, (y07 BK409.out 5).trans rfl⟩ (fun hHeld => ?_)
           clear hK K
           refine no_ (N := some 57) ?_
           refine pu_ 12 (some 58) (fl 14 8191) rfl rfl HT_ ?_
           refine last_ (i := 13) (N := none) (fl 14 16383) rfl rfl (one_of HT_.out (by kernel_rfl)) (by decide) (fun K hK => ?_)
           have hs37 : w35.cell? ⟨gb409, 5, none⟩ = some (.slice A0_5 l0_5.length c0_5) := (y07 BK409.out 5).trans rfl
           have hfs37 := y0b BK409.out 5
           have hns37_0 := NB406_409.out
           have hms37_0 := NB409_406.out
           refine skip_ (w1 := ?_) (by rfl) rfl ?_ ?_
           rotate_left
           ·go_simp
            rfl
           refine hK.out _ _ ?_
           clear hK K
           refine done_ (done_of HT_.out (by kernel_rfl)) ?_
           obtain ⟨hcz38_0, hfz38_0⟩ := bc_ BK409.out 0 rfl
           obtain ⟨hcz38_1, hfz38_1⟩ := bc_ BK409.out 1 rfl
           obtain ⟨hcz38_2, hfz38_2⟩ := bc_ BK409.out 2 rfl
           obtain ⟨hcz38_3, hfz38_3⟩ := bc_ BK409.out 3 rfl
           obtain ⟨hcz38_4, hfz38_4⟩ := bc_ BK409.out 4 rfl
           obtain ⟨hcz38_5, hfz38_5⟩ := bc_ BK409.out 5 rfl
           try go_wp2_with (first | ((with_reducible refine y0i (f := 18) rfl ?_); refine goesL_ (some 60) rfl rfl Try.func18 (by kernel_rfl) rfl #[.agg #[.string a0_0, .string a0_1, .string a0_2, .int .i64 a0_3, .slice A0_4 l0_4.length c0_4, .slice Ao36 y424.length co36]] rfl ar_ ?_; (with_reducible refine (zqo.calls k a0_0 a0_1 a0_2 a0_3 _ _ l0_4 _ _ y424 t427 _ ?side1 ?side2 ?side3 ?side4 A16.out).mono ?_); (case side1 => exact Kd.C_below HR0_4.out hb_); (case side2 => exact HC0_4.out); (case side3 => refine (Kd.R_reads' (e := 43) (base := w.heap.size) (ok := fun k_ => True) (n := y424.length) (c := co36) ?_).2.2; exact (by (with_reducible repeat (first | apply Kd.R_alloc | apply Kd.R_drewN | apply Kd.R_drew)); exact (Kd.R_mono (Kd.R_far (p := ⟨gb409, 5, none⟩) (Kd.R_types HO426.out BK409.out (by decide)) (fun _ hk => hk.2) (.slice Ao36 y424.length co36)) (fun _ h_ => h_.1)))); (case side4 => exact (Kd.R_reads' HO426.out).2.1); rintro e w39 ⟨rfl, hb⟩; refine ⟨_, rfl, ?_⟩; have n0_ := Aside0.mk (Kd.R_below (by (with_reducible repeat (first | apply Kd.R_alloc | apply Kd.R_drewN | apply Kd.R_drew)); exact (Kd.R_mono (Kd.R_far (p := ⟨gb409, 5, none⟩) (Kd.R_types HO426.out BK409.out (by decide)) (fun _ hk => hk.2) (.slice Ao36 y424.length co36)) (fun _ h_ => h_.1))) hb); have n1_ := Aside0.mk (y06 (g := gb406) (o := .cells #[.string a0_0, .string a0_1, .string a0_2, .int .i64 a0_3, .slice A0_4 l0_4.length c0_4, .slice A0_5 l0_5.length c0_5] 25 (0, 0)) (by (with_reducible repeat (first | refine y09 ?_ _ | refine y08 ?_ | refine y05 ?_ _)); refine y0a ?_ NB406_409.out _; (with_reducible repeat (first | refine y09 ?_ _ | refine y08 ?_ | refine y05 ?_ _)); exact BK406.out) hb); have n2_ := Aside0.mk (y06 (g := gb409) (o := .cells #[.string a0_0, .string a0_1, .string a0_2, .int .i64 a0_3, .slice A0_4 l0_4.length c0_4, .slice Ao36 y424.length co36] 25 (0, 0)) (by (with_reducible repeat (first | refine y09 ?_ _ | refine y08 ?_ | refine y05 ?_ _)); refine y0d (cs := #[.string a0_0, .string a0_1, .string a0_2, .int .i64 a0_3, .slice A0_4 l0_4.length c0_4, .slice A0_5 l0_5.length c0_5]) ?_ 5 _ rfl; (with_reducible repeat (first | refine y09 ?_ _ | refine y08 ?_ | refine y05 ?_ _)); exact BK409.out) hb); have n3_ := Aside0.mk (y04 hb_ hb); clear HO426 BK406 BK409 HB; have HO426 := n0_; have BK406 := n1_; have BK409 := n2_; have HB := n3_; clear n0_ n1_ n2_ n3_; (try clear hb); (try clear hb2); (try clear hk); (try clear hi); obtain ⟨hcz40_0, hfz40_0⟩ := bc_ BK406.out 0 rfl; obtain ⟨hcz40_1, hfz40_1⟩ := bc_ BK406.out 1 rfl; obtain ⟨hcz40_2, hfz40_2⟩ := bc_ BK406.out 2 rfl; obtain ⟨hcz40_3, hfz40_3⟩ := bc_ BK406.out 3 rfl; obtain ⟨hcz40_4, hfz40_4⟩ := bc_ BK406.out 4 rfl; obtain ⟨hcz40_5, hfz40_5⟩ := bc_ BK406.out 5 rfl) | ((with_reducible refine y0i (f := 27) rfl ?_); refine goesL_ (some 63) rfl rfl Try.func27 (by kernel_rfl) rfl #[.agg #[.string a0_0, .string a0_1, .string a0_2, .int .i64 a0_3, .slice A0_4 l0_4.length c0_4, .slice A0_5 l0_5.length c0_5]] rfl ar_ ?_; (with_reducible refine (zqp.calls k a0_0 a0_1 a0_2 a0_3 _ _ l0_4 _ _ l0_5 t428 _ ?side1 ?side2 ?side3 ?side4 A18.out).mono ?_); (case side1 => repeat (first | exact (Kd.C_below HR0_4.out HB.out) | (with_reducible refine Kd.C_alloc ?_ _) | (with_reducible refine Kd.C_drewN ?_ _) | (with_reducible refine Kd.C_drew ?_))); (case side2 => exact HC0_4.out); (case side3 => repeat (first | exact (Kd.C_below HR0_5.out HB.out) | (with_reducible refine Kd.C_alloc ?_ _) | (with_reducible refine Kd.C_drewN ?_ _) | (with_reducible refine Kd.C_drew ?_))); (case side4 => exact HC0_5.out); rintro e w41 ⟨v429, rfl, ho0, hb⟩; refine ⟨_, rfl, ?_⟩; have n0_ := Aside0.mk (Kd.R_below (rk_ HO426.out) hb); have n1_ := Aside0.mk (Kd.R_lower ho0 (y03 hb_)); have n2_ := Aside0.mk (y06 (bk_ BK406.out) hb); have n3_ := Aside0.mk (y06 (bk_ BK409.out) hb); have n4_ := Aside0.mk (y04 hb_ hb); clear HO426 BK406 BK409 HB; have HO426 := n0_; have HO430 := n1_; have BK406 := n2_; have BK409 := n3_; have HB := n4_; clear n0_ n1_ n2_ n3_ n4_; (try clear hb); (try clear hb2); (try clear hk); (try clear hi); (try clear ho0)))
           go_loopg [8] k (fun kq v8 w' => ∃ (x8_1 : Int), v8 = .int .i64 x8_1 ∧ Aside0 (zq2.l0 kq t428 x8_1 a0_0 a0_1 a0_2 a0_3 l0_4 l0_5 = some r) ∧ Aside0 (kq ≤ k) ∧ Aside0 (Kd.R Kd.string 9 w' w.heap.size (fun _ => True) v429 t428) ∧ Aside0 (Kd.R k43 43 w' w.heap.size (fun _ => True) (.slice Ao36 y424.length co36) y424) ∧ Aside0 (w'.heap[gb406]? = some (.cells #[.string a0_0, .string a0_1, .string a0_2, .int .i64 a0_3, (.slice A0_4 l0_4.length c0_4), (.slice A0_5 l0_5.length c0_5)] 25 (0, 0))) ∧ Aside0 (w'.heap[gb409]? = some (.cells #[.string a0_0, .string a0_1, .string a0_2, .int .i64 a0_3, (.slice A0_4 l0_4.length c0_4), (.slice Ao36 y424.length co36)] 25 (0, 0))) ∧ Aside0 (Below w.heap.size w w'))
           case atStart => exact ⟨(1), cl_, H', ⟨Nat.le_refl _⟩, ⟨rk_ HO430.out⟩, ⟨rk_ HO426.out⟩, ⟨bk_ BK406.out⟩, ⟨bk_ BK409.out⟩, ⟨hb_⟩⟩
           case round =>
            clear H'
            (try clear c1); (try clear c2); (try clear p2); (try clear c3); (try clear q3); (try clear c4); (try clear c6); (try clear c6b0); (try clear c6b1); (try clear p6); (try clear c7); (try clear c7b0); (try clear c7b1); (try clear c7b2); (try clear c8); (try clear c9); (try clear c9b0); (try clear c9b1); (try clear c10); (try clear c10b0); (try clear c10b1); (try clear c11); (try clear c13); (try clear c13b0); (try clear c13b1); (try clear c14); (try clear c14b0); (try clear c14b1); (try clear c15); (try clear c17); (try clear c17b0); (try clear c17b1); (try clear c18); (try clear c26); (try clear c27); (try clear q30); (try clear c31); (try clear q31); (try clear hcz20_0); (try clear hcz20_1); (try clear hcz20_2); (try clear hcz20_3); (try clear hcz20_4); (try clear hcz20_5); (try clear hcz22_0); (try clear hcz22_1); (try clear hcz22_2); (try clear hcz22_3); (try clear hcz22_4); (try clear hcz22_5); (try clear hcz24_0); (try clear hcz24_1); (try clear hcz24_2); (try clear hcz24_3); (try clear hcz24_4); (try clear hcz24_5); (try clear hcz27_0); (try clear hcz27_1); (try clear hcz27_2); (try clear hcz27_3); (try clear hcz27_4); (try clear hcz27_5); (try clear hcz38_0); (try clear hcz38_1); (try clear hcz38_2); (try clear hcz38_3); (try clear hcz38_4); (try clear hcz38_5); (try clear hcz40_0); (try clear hcz40_1); (try clear hcz40_2); (try clear hcz40_3); (try clear hcz40_4); (try clear hcz40_5); (try clear hfz20_0); (try clear hfz20_1); (try clear hfz20_2); (try clear hfz20_3); (try clear hfz20_4); (try clear hfz20_5); (try clear hfz22_0); (try clear hfz22_1); (try clear hfz22_2); (try clear hfz22_3); (try clear hfz22_4); (try clear hfz22_5); (try clear hfz24_0); (try clear hfz24_1); (try clear hfz24_2); (try clear hfz24_3); (try clear hfz24_4); (try clear hfz24_5); (try clear hfz27_0); (try clear hfz27_1); (try clear hfz27_2); (try clear hfz27_3); (try clear hfz27_4); (try clear hfz27_5); (try clear hfz38_0); (try clear hfz38_1); (try clear hfz38_2); (try clear hfz38_3); (try clear hfz38_4); (try clear hfz38_5); (try clear hfz40_0); (try clear hfz40_1); (try clear hfz40_2); (try clear hfz40_3); (try clear hfz40_4); (try clear hfz40_5); (try clear q031); (try clear q30); (try clear q31)
            obtain ⟨x8_1, rfl, HA, HK1, HO_7, HO_410005, BK406, BK409, HB⟩ := hrel
            cases gk with
            | zero => exact absurd HA.out (by simp [zq2.l0])
            | succ k1 =>
             have H := HA.out
             clear HA
             simp only [zq2.l0] at H
             by_cases c42 : x8_1 < (t428.length : Int)
             ·rw [if_pos c42] at H
              have c42b0 : decide (x8_1 < (t428.length : Int)) = true := decide_eq_true c42
              clear c42
              obtain ⟨ji43, hji43⟩ : ∃ j_ : Int, (wrap64 (x8_1 - 1)) = j_ := ⟨_, rfl⟩
              replace H : (if 0 ≤ (ji43) then (if (ji43) < (t428.length : Int) then (if 0 ≤ x8_1 then (if ((Op.bytesLess ((rdOf ByteArray.empty t428 (ji43)).toList) ((rdOf ByteArray.empty t428 x8_1).toList)) = true) then (zq2.l0 k1 t428 (wrap64 (x8_1 + 1)) a0_0 a0_1 a0_2 a0_3 l0_4 l0_5) else (none)) else (none)) else (none)) else (none)) = some r := by first | (rw [hji43] at H; exact H) | (simp only [hji43] at H ⊢; exact H)
              have hji43w : (IntKind.i64.wrap (x8_1 - 1)) = ji43 := (i64_w _).trans hji43
              by_cases c44 : 0 ≤ (ji43)
              ·rw [if_pos c44] at H
               have c44b0 : decide (0 ≤ (ji43)) = true := decide_eq_true c44
               clear c44
               by_cases c45 : (ji43) < (t428.length : Int)
               ·rw [if_pos c45] at H
                have c45b0 : decide ((ji43) < (t428.length : Int)) = true := decide_eq_true c45
                clear c45
                by_cases c46 : 0 ≤ x8_1
                ·rw [if_pos c46] at H
                 have c46b0 : decide (0 ≤ x8_1) = true := decide_eq_true c46
                 clear c46
                 by_cases c47 : ((Op.bytesLess ((rdOf ByteArray.empty t428 (ji43)).toList) ((rdOf ByteArray.empty t428 x8_1).toList)) = true)
                 ·rw [if_pos c47] at H
                  have c47b0 : (Op.bytesLess ((rdOf ByteArray.empty t428 (ji43)).toList) ((rdOf ByteArray.empty t428 x8_1).toList)) = true := c47
                  clear c47
                  have H' := Aside0.mk H
                  clear H
                  obtain ⟨Ao48, co48, eo48⟩ := Kd.R_slice HO_7.out
                  subst eo48
                  try go_wp2
                  have n0_ := Aside0.mk (Kd.R_drew HO_7.out)
                  have n1_ := Aside0.mk (Kd.R_drew HO_410005.out)
                  have n2_ := Aside0.mk (y08 BK406.out)
                  have n3_ := Aside0.mk (y08 BK409.out)
                  have n4_ := Aside0.mk (y01 HB.out)
                  clear HO_7 HO_410005 BK406 BK409 HB
                  have HO_7 := n0_; have HO_410005 := n1_; have BK406 := n2_; have BK409 := n3_; have HB := n4_
                  clear n0_ n1_ n2_ n3_ n4_
                  have p431 : 0 ≤ ((ji43) : Int) := oa_
                  have q431 : (ji43) < (t428.length : Int) := oa_
                  obtain ⟨ad431, e431, hx431_0⟩ := Kd.at_string (Kd.R_reads' HO_7.out).2.2 (ji43) p431 q431
                  cases e431
                  replace p431 := eq_true p431
                  replace q431 := eq_true q431
                  have p432 : 0 ≤ (x8_1 : Int) := oa_
                  have q432 : x8_1 < (t428.length : Int) := oa_
                  obtain ⟨ad432, e432, hx432_0⟩ := Kd.at_string (Kd.R_reads' HO_7.out).2.2 x8_1 p432 q432
                  obtain rfl : ad431 = ad432 := (by injection e432)
                  replace p432 := eq_true p432
                  replace q432 := eq_true q432
                  refine start_ (n := 10) (S := fun w' => w'.cell? (ad431.add ((ji43)).toNat) = some (.string (rdOf ByteArray.empty t428 (ji43))) ∧ w'.cell? (ad431.add (x8_1).toNat) = some (.string (rdOf ByteArray.empty t428 x8_1))) (ds := []) #[false, false, false, false, false, false, false, false, false, false] (by kernel_rfl) rfl rfl ⟨hx431_0, hx432_0⟩ (fun hHeld => ?_); refine with_tabW zq2.tab15 zq2.bits15 (fun HT_ HW_ => ?_)
                  generalize wr.drew = w49 at HO_7 HO_410005 BK406 BK409 HB hx431_0 hx432_0 hHeld ⊢
                  refine pu_ 0 (some 70) (fl 10 1) rfl rfl HT_ ?_
                  refine pu_ 1 (some 71) (fl 10 3) rfl rfl HT_ ?_
                  refine pu_ 2 (some 72) (fl 10 7) rfl rfl HT_ ?_
                  refine pu_ 3 (some 73) (fl 10 15) rfl rfl HT_ ?_
                  refine pu_ 5 (some 75) (fl 10 47) rfl rfl HT_ ?_
                  refine pu_ 6 (some 76) (fl 10 111) rfl rfl HT_ ?_
                  refine pu_ 7 (some 77) (fl 10 239) rfl rfl HT_ ?_
                  refine ta_ 4 (some 74) (fl 10 255) rfl rfl HT_ HW_ hHeld ?_
                  refine ta_ 8 (some 78) (fl 10 511) rfl rfl HT_ HW_ hHeld ?_
                  refine pu_ 9 (some 79) (fl 10 1023) rfl rfl HT_ ?_
                  refine done_ (done_of HT_.out (by kernel_rfl)) ?_
                  try go_wp2
                  go_roundg k1
                  case measure => have := HK1.out; omega
                  case rel => exact ⟨(wrap64 (x8_1 + 1)), cl_, H', ⟨by have := HK1.out; omega⟩, ⟨rk_ HO_7.out⟩, ⟨rk_ HO_410005.out⟩, ⟨bk_ BK406.out⟩, ⟨bk_ BK409.out⟩, ⟨hb_⟩⟩
                 ·rw [if_neg c47] at H
                  exact absurd H (by simp)
                ·rw [if_neg c46] at H
                 exact absurd H (by simp)
               ·rw [if_neg c45] at H
                exact absurd H (by simp)
              ·rw [if_neg c44] at H
               exact absurd H (by simp)
             ·rw [if_neg c42] at H
              have c42b0 : decide (x8_1 < (t428.length : Int)) = false := decide_eq_false c42
              clear c42
              have H' := Aside0.mk H
              clear H
              obtain ⟨Ao50, co50, eo50⟩ := Kd.R_slice HO_7.out
              subst eo50
              have hnb51 := NB406_409.out
              have hnc51 := NB409_406.out
              obtain ⟨hcz52_0, hfz52_0⟩ := bc_ BK406.out 0 rfl
              obtain ⟨hcz52_1, hfz52_1⟩ := bc_ BK406.out 1 rfl
              obtain ⟨hcz52_2, hfz52_2⟩ := bc_ BK406.out 2 rfl
              obtain ⟨hcz52_3, hfz52_3⟩ := bc_ BK406.out 3 rfl
              obtain ⟨hcz52_4, hfz52_4⟩ := bc_ BK406.out 4 rfl
              obtain ⟨hcz52_5, hfz52_5⟩ := bc_ BK406.out 5 rfl
              go_wp2
              go_loopg [83] k1 (fun kq v83 w' => ∃ (x83_2 : Int), v83 = .int .i64 x83_2 ∧ Aside0 (zq2.l1 kq t428 l0_5 (l0_5.length : Int) x83_2 = some r) ∧ Aside0 (kq ≤ k1) ∧ Aside0 (Kd.R Kd.string 9 w' w.heap.size (fun _ => True) (.slice Ao50 t428.length co50) t428) ∧ Aside0 (Kd.R k43 43 w' w.heap.size (fun _ => True) (.slice Ao36 y424.length co36) y424) ∧ Aside0 (w'.heap[gb406]? = some (.cells #[.string a0_0, .string a0_1, .string a0_2, .int .i64 a0_3, (.slice A0_4 l0_4.length c0_4), (.slice A0_5 l0_5.length c0_5)] 25 (0, 0))) ∧ Aside0 (w'.heap[gb409]? = some (.cells #[.string a0_0, .string a0_1, .string a0_2, .int .i64 a0_3, (.slice A0_4 l0_4.length c0_4), (.slice Ao36 y424.length co36)] 25 (0, 0))) ∧ Aside0 (Below w.heap.size w w'))
              case atStart => exact ⟨(0), cl_, H', ⟨Nat.le_refl _⟩, ⟨rk_ HO_7.out⟩, ⟨rk_ HO_410005.out⟩, ⟨bk_ BK406.out⟩, ⟨bk_ BK409.out⟩, ⟨hb_⟩⟩
              case round =>
               clear H'
               (try clear c1); (try clear c2); (try clear p2); (try clear c3); (try clear q3); (try clear c4); (try clear p4); (try clear q4); (try clear hx4); (try clear c5); (try clear c6); (try clear c6b0); (try clear c6b1); (try clear p6); (try clear c7); (try clear c7b0); (try clear c7b1); (try clear c7b2); (try clear c8); (try clear c9); (try clear c9b0); (try clear c9b1); (try clear c10); (try clear c10b0); (try clear c10b1); (try clear c11); (try clear c13); (try clear c13b0); (try clear c13b1); (try clear c14); (try clear c14b0); (try clear c14b1); (try clear c15); (try clear c17); (try clear c17b0); (try clear c17b1); (try clear c18); (try clear c26); (try clear c27); (try clear q30); (try clear c31); (try clear q31); (try clear c42); (try clear c42b0); (try clear p43); (try clear q43); (try clear hx43); (try clear c44); (try clear c44b0); (try clear c45); (try clear c45b0); (try clear c46); (try clear c46b0); (try clear c47); (try clear c47b0); (try clear c51); (try clear hcz20_0); (try clear hcz20_1); (try clear hcz20_2); (try clear hcz20_3); (try clear hcz20_4); (try clear hcz20_5); (try clear hcz22_0); (try clear hcz22_1); (try clear hcz22_2); (try clear hcz22_3); (try clear hcz22_4); (try clear hcz22_5); (try clear hcz24_0); (try clear hcz24_1); (try clear hcz24_2); (try clear hcz24_3); (try clear hcz24_4); (try clear hcz24_5); (try clear hcz27_0); (try clear hcz27_1); (try clear hcz27_2); (try clear hcz27_3); (try clear hcz27_4); (try clear hcz27_5); (try clear hcz38_0); (try clear hcz38_1); (try clear hcz38_2); (try clear hcz38_3); (try clear hcz38_4); (try clear hcz38_5); (try clear hcz40_0); (try clear hcz40_1); (try clear hcz40_2); (try clear hcz40_3); (try clear hcz40_4); (try clear hcz40_5); (try clear hcz52_0); (try clear hcz52_1); (try clear hcz52_2); (try clear hcz52_3); (try clear hcz52_4); (try clear hcz52_5); (try clear hfz20_0); (try clear hfz20_1); (try clear hfz20_2); (try clear hfz20_3); (try clear hfz20_4); (try clear hfz20_5); (try clear hfz22_0); (try clear hfz22_1); (try clear hfz22_2); (try clear hfz22_3); (try clear hfz22_4); (try clear hfz22_5); (try clear hfz24_0); (try clear hfz24_1); (try clear hfz24_2); (try clear hfz24_3); (try clear hfz24_4); (try clear hfz24_5); (try clear hfz27_0); (try clear hfz27_1); (try clear hfz27_2); (try clear hfz27_3); (try clear hfz27_4); (try clear hfz27_5); (try clear hfz38_0); (try clear hfz38_1); (try clear hfz38_2); (try clear hfz38_3); (try clear hfz38_4); (try clear hfz38_5); (try clear hfz40_0); (try clear hfz40_1); (try clear hfz40_2); (try clear hfz40_3); (try clear hfz40_4); (try clear hfz40_5); (try clear hfz52_0); (try clear hfz52_1); (try clear hfz52_2); (try clear hfz52_3); (try clear hfz52_4); (try clear hfz52_5); (try clear hx431_0); (try clear hx432_0); (try clear p2); (try clear p431); (try clear p432); (try clear p6); (try clear q031); (try clear q3); (try clear q30); (try clear q31); (try clear q431); (try clear q432)
               obtain ⟨x83_2, rfl, HA, HK2, HO_7, HO_410005, BK406, BK409, HB⟩ := hrel
               cases gk with
               | zero => exact absurd HA.out (by simp [zq2.l1])
               | succ k2 =>
                have H := HA.out
                clear HA
                simp only [zq2.l1] at H
                by_cases c53 : x83_2 < (l0_5.length : Int)
                ·rw [if_pos c53] at H
                 have c53b0 : decide (x83_2 < (l0_5.length : Int)) = true := decide_eq_true c53
                 clear c53
                 by_cases c54 : 0 ≤ x83_2
                 ·rw [if_pos c54] at H
                  have c54b0 : decide (0 ≤ x83_2) = true := decide_eq_true c54
                  clear c54
                  by_cases c55 : x83_2 < (l0_5.length : Int)
                  ·rw [if_pos c55] at H
                   have c55b0 : decide (x83_2 < (l0_5.length : Int)) = true := decide_eq_true c55
                   clear c55
                   have H' := Aside0.mk H
                   clear H
                   have p433 : 0 ≤ (x83_2 : Int) := oa_
                   have q433 : x83_2 < (l0_5.length : Int) := oa_
                   obtain ⟨ad433, e433, hx433_0, hx433_1, hx433_2, hx433_3, hx433_4⟩ := at_T43 HR0_5.out x83_2 p433 q433
                   cases e433
                   replace hx433_0 := (HB.out.cell (World.block_lt_of_cell? w _ hx433_0)).trans hx433_0
                   replace hx433_1 := (HB.out.cell (World.block_lt_of_cell? w _ hx433_1)).trans hx433_1
                   replace hx433_2 := (HB.out.cell (World.block_lt_of_cell? w _ hx433_2)).trans hx433_2
                   replace hx433_3 := (HB.out.cell (World.block_lt_of_cell? w _ hx433_3)).trans hx433_3
                   replace hx433_4 := (HB.out.cell (World.block_lt_of_cell? w _ hx433_4)).trans hx433_4
                   replace p433 := eq_true p433
                   replace q433 := eq_true q433
                   go_wp2_with (first | ((with_reducible refine y0j (N := 10) rfl ?_); refine y0e ?hg (N := 10) ?hd (cs := #[.int .i64 0, .int .i64 0, .int .i64 0, .string (⟨#[]⟩ : ByteArray), .bool false]) (t := 43) ?hr ?_; (case hd => rfl); (case hg => rfl); (case hr => first | (go_simp; done) | (go_simp; rfl)); intro gb434 hg w56 hbox hb; have n0_ := Aside0.mk (Kd.R_below (rk_ HO_7.out) hb); have n1_ := Aside0.mk (Kd.R_below (Kd.R_elderB (rk_ HO_410005.out) gb434 (Nat.le_of_eq hg.symm)) hb); have n2_ := Aside0.mk (y06 (bk_ BK406.out) hb); have n3_ := Aside0.mk (y06 (bk_ BK409.out) hb); have n4_ := Aside0.mk (y04 hb_ hb); have n5_ := Aside0.mk (hbox); have n6_ := Aside0.mk ((by rw [hg]; exact (y03 hb_) : w.heap.size ≤ gb434)); have n7_ := Aside0.mk ((by rw [hg]; exact (y03 hb_) : w.heap.size ≤ gb434)); have n8_ := Aside0.mk ((by rw [hg]; exact Nat.ne_of_lt (y0c (bk_ BK406.out)) : gb406 ≠ gb434)); have n9_ := Aside0.mk ((by rw [hg]; exact Nat.ne_of_gt (y0c (bk_ BK406.out)) : gb434 ≠ gb406)); have n10_ := Aside0.mk ((by rw [hg]; exact Nat.ne_of_lt (y0c (bk_ BK409.out)) : gb409 ≠ gb434)); have n11_ := Aside0.mk ((by rw [hg]; exact Nat.ne_of_gt (y0c (bk_ BK409.out)) : gb434 ≠ gb409)); clear HO_7 HO_410005 BK406 BK409 HB; have HO_7 := n0_; have HO_410005 := n1_; have BK406 := n2_; have BK409 := n3_; have HB := n4_; have BK434 := n5_; have GW434 := n6_; have GE434 := n7_; have NB406_434 := n8_; have NB434_406 := n9_; have NB409_434 := n10_; have NB434_409 := n11_; clear n0_ n1_ n2_ n3_ n4_ n5_ n6_ n7_ n8_ n9_ n10_ n11_; clear hb hbox hg; have hnb57 := NB434_406.out; have hnc57 := NB406_434.out; have hnb58 := NB434_409.out; have hnc58 := NB409_434.out; obtain ⟨hcz59_0, hfz59_0⟩ := bc_ BK434.out 0 rfl; obtain ⟨hcz59_1, hfz59_1⟩ := bc_ BK434.out 1 rfl; obtain ⟨hcz59_2, hfz59_2⟩ := bc_ BK434.out 2 rfl; obtain ⟨hcz59_3, hfz59_3⟩ := bc_ BK434.out 3 rfl; obtain ⟨hcz59_4, hfz59_4⟩ := bc_ BK434.out 4 rfl))
                   go_loopg [11, 89] k2 (fun kq v11 v89 w' => ∃ (x11_3 : Bool) (x89_3 : Int), v11 = .bool x11_3 ∧ v89 = .int .i64 x89_3 ∧ Aside0 (zq2.l2 kq t428 x11_3 l0_5 (l0_5.length : Int) x83_2 t428 (t428.length : Int) x89_3 ((y0l l0_5 x83_2).f0) ((y0l l0_5 x83_2).f1) ((y0l l0_5 x83_2).f2) ((y0l l0_5 x83_2).f3) ((y0l l0_5 x83_2).f4) = some r) ∧ Aside0 (kq ≤ k2) ∧ Aside0 (Kd.R Kd.string 9 w' w.heap.size (fun _ => True) (.slice Ao50 t428.length co50) t428) ∧ Aside0 (Kd.R Kd.string 9 w' w.heap.size (fun _ => True) (.slice Ao50 t428.length co50) t428) ∧ Aside0 (Kd.R k43 43 w' w.heap.size (fun k_ => k_ ≠ gb434) (.slice Ao36 y424.length co36) y424) ∧ Aside0 (w'.heap[gb406]? = some (.cells #[.string a0_0, .string a0_1, .string a0_2, .int .i64 a0_3, (.slice A0_4 l0_4.length c0_4), (.slice (some ad433) l0_5.length c0_5)] 25 (0, 0))) ∧ Aside0 (w'.heap[gb409]? = some (.cells #[.string a0_0, .string a0_1, .string a0_2, .int .i64 a0_3, (.slice A0_4 l0_4.length c0_4), (.slice Ao36 y424.length co36)] 25 (0, 0))) ∧ Aside0 (w'.heap[gb434]? = some (.cells #[.int .i64 ((y0l l0_5 x83_2).f0), .int .i64 ((y0l l0_5 x83_2).f1), .int .i64 ((y0l l0_5 x83_2).f2), .string ((y0l l0_5 x83_2).f3), .bool ((y0l l0_5 x83_2).f4)] 43 (0, 0))) ∧ Aside0 (Below w.heap.size w w'))
                   case atStart => exact ⟨(false), (0), cl_, cl_, H', ⟨Nat.le_refl _⟩, ⟨by (with_reducible repeat (first | apply Kd.R_alloc | apply Kd.R_drewN | apply Kd.R_drew)); exact Kd.R_mono (Kd.R_far (p := ⟨gb434, 4, none⟩) (Kd.R_far (p := ⟨gb434, 3, none⟩) (Kd.R_far (p := ⟨gb434, 2, none⟩) (Kd.R_far (p := ⟨gb434, 1, none⟩) (Kd.R_far (p := ⟨gb434, 0, none⟩) (Kd.R_types HO_7.out BK434.out (by decide)) (fun _ hk => hk.2) (.int .i64 ((y0l l0_5 x83_2).f0))) (fun _ hk => hk.2) (.int .i64 ((y0l l0_5 x83_2).f1))) (fun _ hk => hk.2) (.int .i64 ((y0l l0_5 x83_2).f2))) (fun _ hk => hk.2) (.string ((y0l l0_5 x83_2).f3))) (fun _ hk => hk.2) (.bool ((y0l l0_5 x83_2).f4))) (fun _ hk => trivial)⟩, ⟨by (with_reducible repeat (first | apply Kd.R_alloc | apply Kd.R_drewN | apply Kd.R_drew)); exact Kd.R_mono (Kd.R_far (p := ⟨gb434, 4, none⟩) (Kd.R_far (p := ⟨gb434, 3, none⟩) (Kd.R_far (p := ⟨gb434, 2, none⟩) (Kd.R_far (p := ⟨gb434, 1, none⟩) (Kd.R_far (p := ⟨gb434, 0, none⟩) (Kd.R_types HO_7.out BK434.out (by decide)) (fun _ hk => hk.2) (.int .i64 ((y0l l0_5 x83_2).f0))) (fun _ hk => hk.2) (.int .i64 ((y0l l0_5 x83_2).f1))) (fun _ hk => hk.2) (.int .i64 ((y0l l0_5 x83_2).f2))) (fun _ hk => hk.2) (.string ((y0l l0_5 x83_2).f3))) (fun _ hk => hk.2) (.bool ((y0l l0_5 x83_2).f4))) (fun _ hk => trivial)⟩, ⟨by (with_reducible repeat (first | apply Kd.R_alloc | apply Kd.R_drewN | apply Kd.R_drew)); exact Kd.R_mono (Kd.R_far (p := ⟨gb434, 4, none⟩) (Kd.R_far (p := ⟨gb434, 3, none⟩) (Kd.R_far (p := ⟨gb434, 2, none⟩) (Kd.R_far (p := ⟨gb434, 1, none⟩) (Kd.R_far (p := ⟨gb434, 0, none⟩) (Kd.R_mono HO_410005.out (fun k_ hk => (⟨hk, hk.2⟩ : _ ∧ k_ ≠ gb434))) (fun _ hk => hk.2) (.int .i64 ((y0l l0_5 x83_2).f0))) (fun _ hk => hk.2) (.int .i64 ((y0l l0_5 x83_2).f1))) (fun _ hk => hk.2) (.int .i64 ((y0l l0_5 x83_2).f2))) (fun _ hk => hk.2) (.string ((y0l l0_5 x83_2).f3))) (fun _ hk => hk.2) (.bool ((y0l l0_5 x83_2).f4))) (fun _ hk => hk.1.2)⟩, ⟨by (with_reducible repeat (first | refine y09 ?_ _ | refine y08 ?_ | refine y05 ?_ _)); refine y0a ?_ NB406_434.out _; (with_reducible repeat (first | refine y09 ?_ _ | refine y08 ?_ | refine y05 ?_ _)); refine y0a ?_ NB406_434.out _; (with_reducible repeat (first | refine y09 ?_ _ | refine y08 ?_ | refine y05 ?_ _)); refine y0a ?_ NB406_434.out _; (with_reducible repeat (first | refine y09 ?_ _ | refine y08 ?_ | refine y05 ?_ _)); refine y0a ?_ NB406_434.out _; (with_reducible repeat (first | refine y09 ?_ _ | refine y08 ?_ | refine y05 ?_ _)); refine y0a ?_ NB406_434.out _; (with_reducible repeat (first | refine y09 ?_ _ | refine y08 ?_ | refine y05 ?_ _)); exact BK406.out⟩, ⟨by (with_reducible repeat (first | refine y09 ?_ _ | refine y08 ?_ | refine y05 ?_ _)); refine y0a ?_ NB409_434.out _; (with_reducible repeat (first | refine y09 ?_ _ | refine y08 ?_ | refine y05 ?_ _)); refine y0a ?_ NB409_434.out _; (with_reducible repeat (first | refine y09 ?_ _ | refine y08 ?_ | refine y05 ?_ _)); refine y0a ?_ NB409_434.out _; (with_reducible repeat (first | refine y09 ?_ _ | refine y08 ?_ | refine y05 ?_ _)); refine y0a ?_ NB409_434.out _; (with_reducible repeat (first | refine y09 ?_ _ | refine y08 ?_ | refine y05 ?_ _)); refine y0a ?_ NB409_434.out _; (with_reducible repeat (first | refine y09 ?_ _ | refine y08 ?_ | refine y05 ?_ _)); exact BK409.out⟩, ⟨by (with_reducible repeat (first | refine y09 ?_ _ | refine y08 ?_ | refine y05 ?_ _)); refine y0d (cs := #[.int .i64 ((y0l l0_5 x83_2).f0), .int .i64 ((y0l l0_5 x83_2).f1), .int .i64 ((y0l l0_5 x83_2).f2), .string ((y0l l0_5 x83_2).f3), .bool false]) ?_ 4 _ rfl; (with_reducible repeat (first | refine y09 ?_ _ | refine y08 ?_ | refine y05 ?_ _)); refine y0d (cs := #[.int .i64 ((y0l l0_5 x83_2).f0), .int .i64 ((y0l l0_5 x83_2).f1), .int .i64 ((y0l l0_5 x83_2).f2), .string (⟨#[]⟩ : ByteArray), .bool false]) ?_ 3 _ rfl; (with_reducible repeat (first | refine y09 ?_ _ | refine y08 ?_ | refine y05 ?_ _)); refine y0d (cs := #[.int .i64 ((y0l l0_5 x83_2).f0), .int .i64 ((y0l l0_5 x83_2).f1), .int .i64 0, .string (⟨#[]⟩ : ByteArray), .bool false]) ?_ 2 _ rfl; (with_reducible repeat (first | refine y09 ?_ _ | refine y08 ?_ | refine y05 ?_ _)); refine y0d (cs := #[.int .i64 ((y0l l0_5 x83_2).f0), .int .i64 0, .int .i64 0, .string (⟨#[]⟩ : ByteArray), .bool false]) ?_ 1 _ rfl; (with_reducible repeat (first | refine y09 ?_ _ | refine y08 ?_ | refine y05 ?_ _)); refine y0d (cs := #[.int .i64 0, .int .i64 0, .int .i64 0, .string (⟨#[]⟩ : ByteArray), .bool false]) ?_ 0 _ rfl; (with_reducible repeat (first | refine y09 ?_ _ | refine y08 ?_ | refine y05 ?_ _)); exact BK434.out⟩, ⟨hb_⟩⟩
                   case round =>
                    clear H'
                    (try clear c1); (try clear c2); (try clear p2); (try clear c3); (try clear q3); (try clear c4); (try clear p4); (try clear q4); (try clear hx4); (try clear c5); (try clear c6); (try clear c6b0); (try clear c6b1); (try clear p6); (try clear c7); (try clear c7b0); (try clear c7b1); (try clear c7b2); (try clear c8); (try clear c9); (try clear c9b0); (try clear c9b1); (try clear c10); (try clear c10b0); (try clear c10b1); (try clear c11); (try clear c13); (try clear c13b0); (try clear c13b1); (try clear c14); (try clear c14b0); (try clear c14b1); (try clear c15); (try clear c17); (try clear c17b0); (try clear c17b1); (try clear c18); (try clear c26); (try clear c27); (try clear q30); (try clear c31); (try clear q31); (try clear c42); (try clear c42b0); (try clear p43); (try clear q43); (try clear hx43); (try clear c44); (try clear c44b0); (try clear c45); (try clear c45b0); (try clear c46); (try clear c46b0); (try clear c47); (try clear c47b0); (try clear c51); (try clear c53); (try clear c53b0); (try clear c54); (try clear c54b0); (try clear c55); (try clear c55b0); (try clear c57); (try clear c58); (try clear hcz20_0); (try clear hcz20_1); (try clear hcz20_2); (try clear hcz20_3); (try clear hcz20_4); (try clear hcz20_5); (try clear hcz22_0); (try clear hcz22_1); (try clear hcz22_2); (try clear hcz22_3); (try clear hcz22_4); (try clear hcz22_5); (try clear hcz24_0); (try clear hcz24_1); (try clear hcz24_2); (try clear hcz24_3); (try clear hcz24_4); (try clear hcz24_5); (try clear hcz27_0); (try clear hcz27_1); (try clear hcz27_2); (try clear hcz27_3); (try clear hcz27_4); (try clear hcz27_5); (try clear hcz38_0); (try clear hcz38_1); (try clear hcz38_2); (try clear hcz38_3); (try clear hcz38_4); (try clear hcz38_5); (try clear hcz40_0); (try clear hcz40_1); (try clear hcz40_2); (try clear hcz40_3); (try clear hcz40_4); (try clear hcz40_5); (try clear hcz52_0); (try clear hcz52_1); (try clear hcz52_2); (try clear hcz52_3); (try clear hcz52_4); (try clear hcz52_5); (try clear hcz59_0); (try clear hcz59_1); (try clear hcz59_2); (try clear hcz59_3); (try clear hcz59_4); (try clear hfz20_0); (try clear hfz20_1); (try clear hfz20_2); (try clear hfz20_3); (try clear hfz20_4); (try clear hfz20_5); (try clear hfz22_0); (try clear hfz22_1); (try clear hfz22_2); (try clear hfz22_3); (try clear hfz22_4); (try clear hfz22_5); (try clear hfz24_0); (try clear hfz24_1); (try clear hfz24_2); (try clear hfz24_3); (try clear hfz24_4); (try clear hfz24_5); (try clear hfz27_0); (try clear hfz27_1); (try clear hfz27_2); (try clear hfz27_3); (try clear hfz27_4); (try clear hfz27_5); (try clear hfz38_0); (try clear hfz38_1); (try clear hfz38_2); (try clear hfz38_3); (try clear hfz38_4); (try clear hfz38_5); (try clear hfz40_0); (try clear hfz40_1); (try clear hfz40_2); (try clear hfz40_3); (try clear hfz40_4); (try clear hfz40_5); (try clear hfz52_0); (try clear hfz52_1); (try clear hfz52_2); (try clear hfz52_3); (try clear hfz52_4); (try clear hfz52_5); (try clear hfz59_0); (try clear hfz59_1); (try clear hfz59_2); (try clear hfz59_3); (try clear hfz59_4); (try clear hx431_0); (try clear hx432_0); (try clear hx433_0); (try clear hx433_1); (try clear hx433_2); (try clear hx433_3); (try clear hx433_4); (try clear p2); (try clear p4); (try clear p43); (try clear p431); (try clear p432); (try clear p433); (try clear p6); (try clear q031); (try clear q3); (try clear q30); (try clear q31); (try clear q4); (try clear q43); (try clear q431); (try clear q432); (try clear q433)
                    obtain ⟨x11_3, x89_3, rfl, rfl, HA, HK3, HO_7, HO_87, HO_410005, BK406, BK409, BK434, HB⟩ := hrel
                    cases gk with
                    | zero => exact absurd HA.out (by simp [zq2.l2])
                    | succ k3 =>
                     have H := HA.out
                     clear HA
                     simp only [zq2.l2] at H
                     by_cases c60 : x89_3 < (t428.length : Int)
                     ·rw [if_pos c60] at H
                      have c60b0 : decide (x89_3 < (t428.length : Int)) = true := decide_eq_true c60
                      clear c60
                      by_cases c61 : 0 ≤ x89_3
                      ·rw [if_pos c61] at H
                       have c61b0 : decide (0 ≤ x89_3) = true := decide_eq_true c61
                       clear c61
                       by_cases c62 : x89_3 < (t428.length : Int)
                       ·rw [if_pos c62] at H
                        have c62b0 : decide (x89_3 < (t428.length : Int)) = true := decide_eq_true c62
                        clear c62
                        by_cases c63 : x11_3 = true
                        ·subst c63
                         have H1 : (zq2.l2 k3 t428 true l0_5 (l0_5.length : Int) x83_2 t428 (t428.length : Int) (wrap64 (x89_3 + 1)) ((y0l l0_5 x83_2).f0) ((y0l l0_5 x83_2).f1) ((y0l l0_5 x83_2).f2) ((y0l l0_5 x83_2).f3) ((y0l l0_5 x83_2).f4)) = some r := by rw [if_pos rfl] at H; exact H
                         clear H
                         have H := H1
                         clear H1
                         have H' := Aside0.mk H
                         clear H
                         have p435 : 0 ≤ (x89_3 : Int) := oa_
                         have q435 : x89_3 < (t428.length : Int) := oa_
                         obtain ⟨ad435, e435, hx435_0⟩ := Kd.at_string (Kd.R_reads' HO_87.out).2.2 x89_3 p435 q435
                         cases e435
                         replace p435 := eq_true p435
                         replace q435 := eq_true q435
                         go_wp2
                         go_roundg k3
                         case measure => have := HK1.out; have := HK2.out; have := HK3.out; omega
                         case rel => exact ⟨(true), (wrap64 (x89_3 + 1)), cl_, cl_, H', ⟨by have := HK1.out; have := HK2.out; have := HK3.out; omega⟩, ⟨rk_ HO_7.out⟩, ⟨rk_ HO_87.out⟩, ⟨rk_ HO_410005.out⟩, ⟨bk_ BK406.out⟩, ⟨bk_ BK409.out⟩, ⟨bk_ BK434.out⟩, ⟨hb_⟩⟩
                        ·replace c63 := Bool.eq_false_iff.mpr c63
                         subst c63
                         have H1 : (zq2.l2 k3 t428 ((rdOf ByteArray.empty t428 x89_3).toList == ((y0l l0_5 x83_2).f3).toList) l0_5 (l0_5.length : Int) x83_2 t428 (t428.length : Int) (wrap64 (x89_3 + 1)) ((y0l l0_5 x83_2).f0) ((y0l l0_5 x83_2).f1) ((y0l l0_5 x83_2).f2) ((y0l l0_5 x83_2).f3) ((y0l l0_5 x83_2).f4)) = some r := by rw [if_neg (show ¬ (false = true) by decide)] at H; exact H
                         clear H
                         have H := H1
                         clear H1
                         have H' := Aside0.mk H
                         clear H
                         have p435 : 0 ≤ (x89_3 : Int) := oa_
                         have q435 : x89_3 < (t428.length : Int) := oa_
                         obtain ⟨ad435, e435, hx435_0⟩ := Kd.at_string (Kd.R_reads' HO_87.out).2.2 x89_3 p435 q435
                         cases e435
                         replace p435 := eq_true p435
                         replace q435 := eq_true q435
                         have hnb64 := NB434_406.out
                         have hnc64 := NB406_434.out
                         have hnb65 := NB434_409.out
                         have hnc65 := NB409_434.out
                         obtain ⟨hcz66_0, hfz66_0⟩ := bc_ BK434.out 0 rfl
                         obtain ⟨hcz66_1, hfz66_1⟩ := bc_ BK434.out 1 rfl
                         obtain ⟨hcz66_2, hfz66_2⟩ := bc_ BK434.out 2 rfl
                         obtain ⟨hcz66_3, hfz66_3⟩ := bc_ BK434.out 3 rfl
                         obtain ⟨hcz66_4, hfz66_4⟩ := bc_ BK434.out 4 rfl
                         go_wp2
                         go_roundg k3
                         case measure => have := HK1.out; have := HK2.out; have := HK3.out; omega
                         case rel => exact ⟨(((rdOf ByteArray.empty t428 x89_3).toList == ((y0l l0_5 x83_2).f3).toList)), (wrap64 (x89_3 + 1)), cl_, cl_, H', ⟨by have := HK1.out; have := HK2.out; have := HK3.out; omega⟩, ⟨rk_ HO_7.out⟩, ⟨rk_ HO_87.out⟩, ⟨rk_ HO_410005.out⟩, ⟨bk_ BK406.out⟩, ⟨bk_ BK409.out⟩, ⟨bk_ BK434.out⟩, ⟨hb_⟩⟩
                       ·rw [if_neg c62] at H
                        exact absurd H (by simp)
                      ·rw [if_neg c61] at H
                       exact absurd H (by simp)
                     ·rw [if_neg c60] at H
                      have c60b0 : decide (x89_3 < (t428.length : Int)) = false := decide_eq_false c60
                      clear c60
                      by_cases c67 : (x11_3 != (((y0l l0_5 x83_2).f2) == 4)) = true
                      ·rw [if_pos c67] at H
                       exact absurd H (by simp)
                      ·rw [if_neg c67] at H
                       have c67b0 : (x11_3 != (((y0l l0_5 x83_2).f2) == 4)) = false := by simpa using c67
                       (try (have c67b1 : decide (x11_3 = (((y0l l0_5 x83_2).f2) == 4)) = true := by simpa using c67))
                       (try (have c67b2 : (x11_3 == (((y0l l0_5 x83_2).f2) == 4)) = true := by simpa using c67))
                       clear c67
                       have H' := Aside0.mk H
                       clear H
                       have hnb68 := NB434_406.out
                       have hnc68 := NB406_434.out
                       have hnb69 := NB434_409.out
                       have hnc69 := NB409_434.out
                       obtain ⟨hcz70_0, hfz70_0⟩ := bc_ BK434.out 0 rfl
                       obtain ⟨hcz70_1, hfz70_1⟩ := bc_ BK434.out 1 rfl
                       obtain ⟨hcz70_2, hfz70_2⟩ := bc_ BK434.out 2 rfl
                       obtain ⟨hcz70_3, hfz70_3⟩ := bc_ BK434.out 3 rfl
                       obtain ⟨hcz70_4, hfz70_4⟩ := bc_ BK434.out 4 rfl
                       go_wp2
                       go_roundg k3
                       case measure => have := HK1.out; have := HK2.out; have := HK3.out; omega
                       case rel => exact ⟨(wrap64 (x83_2 + 1)), cl_, H', ⟨by have := HK1.out; have := HK2.out; have := HK3.out; omega⟩, ⟨rk_ HO_7.out⟩, ⟨by (with_reducible repeat (first | apply Kd.R_alloc | apply Kd.R_drewN | apply Kd.R_drew)); exact Kd.R_mono HO_410005.out (fun _ hk => trivial)⟩, ⟨bk_ BK406.out⟩, ⟨bk_ BK409.out⟩, ⟨hb_⟩⟩
                  ·rw [if_neg c55] at H
                   exact absurd H (by simp)
                 ·rw [if_neg c54] at H
                  exact absurd H (by simp)
                ·rw [if_neg c53] at H
                 have c53b0 : decide (x83_2 < (l0_5.length : Int)) = false := decide_eq_false c53
                 clear c53
                 replace H := Option.bind_eq_some_iff.mp H
                 obtain ⟨t436, A710, H⟩ := H
                 (try dsimp only at H)
                 have A71 := Aside0.mk A710
                 clear A710
                 obtain rfl := Option.some.inj H
                 go_wp2_with (first | ((with_reducible refine y0i (f := 20) rfl ?_); refine goesL_ (some 107) rfl rfl Try.func20 (by kernel_rfl) rfl #[] rfl ar_ ?_; (with_reducible refine (zq6.calls k2  t436 _ A71.out).mono ?_); rintro e w72 ⟨rfl, hb⟩; refine ⟨_, rfl, ?_⟩; have n0_ := Aside0.mk (Kd.R_below (rk_ HO_7.out) hb); have n1_ := Aside0.mk (Kd.R_below (rk_ HO_410005.out) hb); have n2_ := Aside0.mk (y06 (bk_ BK406.out) hb); have n3_ := Aside0.mk (y06 (bk_ BK409.out) hb); have n4_ := Aside0.mk (y04 hb_ hb); clear HO_7 HO_410005 BK406 BK409 HB; have HO_7 := n0_; have HO_410005 := n1_; have BK406 := n2_; have BK409 := n3_; have HB := n4_; clear n0_ n1_ n2_ n3_ n4_; (try clear hb); (try clear hb2); (try clear hk); (try clear hi)))
                 go_ret
                 exact ⟨by first | rfl | (simp [y0g, y0h] <;> rfl) | (simp only [← hji8, ← hji12]; first | rfl | (simp [y0g, y0h] <;> rfl)) | (simp [*, y0g, y0h] <;> rfl), hb_⟩
          ·rw [if_neg c17] at H
           exact absurd H (by simp)
         ·rw [if_neg c15] at H
          exact absurd H (by simp)
        ·rw [if_neg c14] at H
         exact absurd H (by simp)
       ·rw [if_neg c13] at H
        exact absurd H (by simp)
      ·rw [if_neg c11] at H
       exact absurd H (by simp)
     ·rw [if_neg c10] at H
      exact absurd H (by simp)
    ·rw [if_neg c9] at H
     exact absurd H (by simp)
  ·rw [if_neg c6] at H
   have c6b0 : (t408 == 0) = false := beq_eq_false_iff_ne.mpr c6
   have c6b1 : (t408 != 0) = true := bne_iff_ne.mpr c6
   replace H := Option.bind_eq_some_iff.mp H
   obtain ⟨t437, A730, H⟩ := H
   (try dsimp only at H)
   have A73 := Aside0.mk A730
   clear A730
   obtain rfl := Option.some.inj H
   go_enter Try.func8, Try.ntmps8
   go_wp2_with (first | ((with_reducible refine y0j (N := 2) rfl ?_); refine y0e ?hg (N := 2) ?hd (cs := #[.string a0_0, .string a0_1, .string a0_2, .int .i64 a0_3, .slice A0_4 l0_4.length c0_4, .slice A0_5 l0_5.length c0_5]) (t := 25) ?hr ?_; (case hd => rfl); (case hg => rfl); (case hr => first | (go_simp; done) | (go_simp; rfl)); intro gb406 hg w74 hbox hb; have n0_ := Aside0.mk (y04 hb_ hb); have n1_ := Aside0.mk (hbox); have n2_ := Aside0.mk ((by rw [hg]; exact (y03 hb_) : w.heap.size ≤ gb406)); have n3_ := Aside0.mk ((by rw [hg]; exact (y03 hb_) : w.heap.size ≤ gb406)); clear HB; have HB := n0_; have BK406 := n1_; have GW406 := n2_; have GE406 := n3_; clear n0_ n1_ n2_ n3_; clear hb hbox hg; obtain ⟨hcz75_0, hfz75_0⟩ := bc_ BK406.out 0 rfl; obtain ⟨hcz75_1, hfz75_1⟩ := bc_ BK406.out 1 rfl; obtain ⟨hcz75_2, hfz75_2⟩ := bc_ BK406.out 2 rfl; obtain ⟨hcz75_3, hfz75_3⟩ := bc_ BK406.out 3 rfl; obtain ⟨hcz75_4, hfz75_4⟩ := bc_ BK406.out 4 rfl; obtain ⟨hcz75_5, hfz75_5⟩ := bc_ BK406.out 5 rfl) | ((with_reducible refine y0i (f := 17) rfl ?_); refine goesL_ (some 15) rfl rfl Try.func17 (by kernel_rfl) rfl #[.agg #[.string a0_0, .string a0_1, .string a0_2, .int .i64 a0_3, .slice A0_4 l0_4.length c0_4, .slice A0_5 l0_5.length c0_5]] rfl ar_ ?_; (with_reducible refine (zq7.calls k a0_0 a0_1 a0_2 a0_3 _ _ l0_4 _ _ l0_5 true _ ?side1 ?side2 ?side3 ?side4 A3.out).mono ?_); (case side1 => repeat (first | exact (Kd.C_below HR0_4.out HB.out) | (with_reducible refine Kd.C_alloc ?_ _) | (with_reducible refine Kd.C_drewN ?_ _) | (with_reducible refine Kd.C_drew ?_))); (case side2 => exact HC0_4.out); (case side3 => repeat (first | exact (Kd.C_below HR0_5.out HB.out) | (with_reducible refine Kd.C_alloc ?_ _) | (with_reducible refine Kd.C_drewN ?_ _) | (with_reducible refine Kd.C_drew ?_))); (case side4 => exact HC0_5.out); rintro e w76 ⟨rfl, hb⟩; refine ⟨_, rfl, ?_⟩; have n0_ := Aside0.mk (y06 (bk_ BK406.out) hb); have n1_ := Aside0.mk (y04 hb_ hb); clear BK406 HB; have BK406 := n0_; have HB := n1_; clear n0_ n1_; (try clear hb); (try clear hb2); (try clear hk); (try clear hi); obtain ⟨hcz77_0, hfz77_0⟩ := bc_ BK406.out 0 rfl; obtain ⟨hcz77_1, hfz77_1⟩ := bc_ BK406.out 1 rfl; obtain ⟨hcz77_2, hfz77_2⟩ := bc_ BK406.out 2 rfl; obtain ⟨hcz77_3, hfz77_3⟩ := bc_ BK406.out 3 rfl; obtain ⟨hcz77_4, hfz77_4⟩ := bc_ BK406.out 4 rfl; obtain ⟨hcz77_5, hfz77_5⟩ := bc_ BK406.out 5 rfl) | (go_at_call 18; (with_reducible refine (zqo.calls k a0_0 a0_1 a0_2 a0_3 _ _ l0_4 _ _ l0_5 t408 _ ?side1 ?side2 ?side3 ?side4 A5.out).mono ?_); (case side1 => repeat (first | exact (Kd.C_below HR0_4.out HB.out) | (with_reducible refine Kd.C_alloc ?_ _) | (with_reducible refine Kd.C_drewN ?_ _) | (with_reducible refine Kd.C_drew ?_))); (case side2 => exact HC0_4.out); (case side3 => repeat (first | exact (Kd.C_below HR0_5.out HB.out) | (with_reducible refine Kd.C_alloc ?_ _) | (with_reducible refine Kd.C_drewN ?_ _) | (with_reducible refine Kd.C_drew ?_))); (case side4 => exact HC0_5.out); rintro e w78 ⟨rfl, hb⟩; have n0_ := Aside0.mk (y06 (bk_ BK406.out) hb); have n1_ := Aside0.mk (y04 hb_ hb); clear BK406 HB; have BK406 := n0_; have HB := n1_; clear n0_ n1_; (try clear hb); (try clear hb2); (try clear hk); (try clear hi)) | ((with_reducible refine y0i (f := 20) rfl ?_); refine goesL_ (some 22) rfl rfl Try.func20 (by kernel_rfl) rfl #[] rfl ar_ ?_; (with_reducible refine (zq6.calls k  t437 _ A73.out).mono ?_); rintro e w79 ⟨rfl, hb⟩; refine ⟨_, rfl, ?_⟩; have n0_ := Aside0.mk (y06 (bk_ BK406.out) hb); have n1_ := Aside0.mk (y04 hb_ hb); clear BK406 HB; have BK406 := n0_; have HB := n1_; clear n0_ n1_; (try clear hb); (try clear hb2); (try clear hk); (try clear hi)))
   go_ret
   exact ⟨ew_, hb_⟩
 ·replace c4 := Bool.eq_false_iff.mpr c4
  subst c4
  have H1 : ((zq6.f k).bind fun t438 => (some t438)) = some r := by rw [if_neg (show ¬ (false = true) by decide)] at H; exact H
  clear H
  have H := H1
  clear H1
  replace H := Option.bind_eq_some_iff.mp H
  obtain ⟨t438, A800, H⟩ := H
  (try dsimp only at H)
  have A80 := Aside0.mk A800
  clear A800
  obtain rfl := Option.some.inj H
  go_enter Try.func8, Try.ntmps8
  go_wp2_with (first | ((with_reducible refine y0j (N := 2) rfl ?_); refine y0e ?hg (N := 2) ?hd (cs := #[.string a0_0, .string a0_1, .string a0_2, .int .i64 a0_3, .slice A0_4 l0_4.length c0_4, .slice A0_5 l0_5.length c0_5]) (t := 25) ?hr ?_; (case hd => rfl); (case hg => rfl); (case hr => first | (go_simp; done) | (go_simp; rfl)); intro gb406 hg w81 hbox hb; have n0_ := Aside0.mk (y04 hb_ hb); have n1_ := Aside0.mk (hbox); have n2_ := Aside0.mk ((by rw [hg]; exact (y03 hb_) : w.heap.size ≤ gb406)); have n3_ := Aside0.mk ((by rw [hg]; exact (y03 hb_) : w.heap.size ≤ gb406)); clear HB; have HB := n0_; have BK406 := n1_; have GW406 := n2_; have GE406 := n3_; clear n0_ n1_ n2_ n3_; clear hb hbox hg; obtain ⟨hcz82_0, hfz82_0⟩ := bc_ BK406.out 0 rfl; obtain ⟨hcz82_1, hfz82_1⟩ := bc_ BK406.out 1 rfl; obtain ⟨hcz82_2, hfz82_2⟩ := bc_ BK406.out 2 rfl; obtain ⟨hcz82_3, hfz82_3⟩ := bc_ BK406.out 3 rfl; obtain ⟨hcz82_4, hfz82_4⟩ := bc_ BK406.out 4 rfl; obtain ⟨hcz82_5, hfz82_5⟩ := bc_ BK406.out 5 rfl) | ((with_reducible refine y0i (f := 17) rfl ?_); refine goesL_ (some 15) rfl rfl Try.func17 (by kernel_rfl) rfl #[.agg #[.string a0_0, .string a0_1, .string a0_2, .int .i64 a0_3, .slice A0_4 l0_4.length c0_4, .slice A0_5 l0_5.length c0_5]] rfl ar_ ?_; (with_reducible refine (zq7.calls k a0_0 a0_1 a0_2 a0_3 _ _ l0_4 _ _ l0_5 false _ ?side1 ?side2 ?side3 ?side4 A3.out).mono ?_); (case side1 => repeat (first | exact (Kd.C_below HR0_4.out HB.out) | (with_reducible refine Kd.C_alloc ?_ _) | (with_reducible refine Kd.C_drewN ?_ _) | (with_reducible refine Kd.C_drew ?_))); (case side2 => exact HC0_4.out); (case side3 => repeat (first | exact (Kd.C_below HR0_5.out HB.out) | (with_reducible refine Kd.C_alloc ?_ _) | (with_reducible refine Kd.C_drewN ?_ _) | (with_reducible refine Kd.C_drew ?_))); (case side4 => exact HC0_5.out); rintro e w83 ⟨rfl, hb⟩; refine ⟨_, rfl, ?_⟩; have n0_ := Aside0.mk (y06 (bk_ BK406.out) hb); have n1_ := Aside0.mk (y04 hb_ hb); clear BK406 HB; have BK406 := n0_; have HB := n1_; clear n0_ n1_; (try clear hb); (try clear hb2); (try clear hk); (try clear hi)) | ((with_reducible refine y0i (f := 20) rfl ?_); refine goesL_ (some 22) rfl rfl Try.func20 (by kernel_rfl) rfl #[] rfl ar_ ?_; (with_reducible refine (zq6.calls k  t438 _ A80.out).mono ?_); rintro e w84 ⟨rfl, hb⟩; refine ⟨_, rfl, ?_⟩; have n0_ := Aside0.mk (y06 (bk_ BK406.out) hb); have n1_ := Aside0.mk (y04 hb_ hb); clear BK406 HB; have BK406 := n0_; have HB := n1_; clear n0_ n1_; (try clear hb); (try clear hb2); (try clear hk); (try clear hi)))
  go_ret
  exact ⟨ew_, hb_⟩
end Go.Proofs.Ytenlmckahaniiaa.K
end
