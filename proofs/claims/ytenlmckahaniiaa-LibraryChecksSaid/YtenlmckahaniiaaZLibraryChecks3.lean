/- Lemmas for the law LibraryChecks: what its proof needs beyond what it shares. -/
import Derived.Test.YtenlmckahaniiaaZLibraryChecks2
import Derived.Test.YtenlmckahaniiaaZcLc20
set_option linter.unusedVariables false
set_option linter.unusedSimpArgs false
set_option linter.unusedSectionVars false
set_option maxHeartbeats 8000000
set_option maxRecDepth 100000
section
namespace Go.Proofs.Ytenlmckahaniiaa.K
open Go.RowKit Go.Proofs.YtenlmckahaniiaaW.PrintWords Go.Proofs.YtenlmckahaniiaaW.PrintLast
def zq1.f (k : Nat) (l0 : List (S25)) (a1 : ByteArray) : Option (Bool) := (zql.f k l0).bind fun t901 => (if t901 = true then (some true) else (if (a1.size : Int) > 100 then (some true) else ((zq1g.f l0 a1).bind fun bt902 => ((zqt.f k l0 a1).bind fun bt904 => ((zq1a.f k l0).bind fun t906 => ((zqk.f k l0).bind fun t907 => (if t906 = t907 then (if bt902.1 = bt904.1 then (if (bt902.2 == bt904.2) = true then ((zqg.f k).bind fun t908 => (some t908)) else (none)) else (none)) else (none))))))))
theorem zq1.calls (k : Nat) (A0 : Option Addr) (c0 : Nat) (l0 : List (S25)) (a1 : ByteArray) (r : Bool) (w : World) (hr0 : Kd.C k25 w A0 l0.length l0) (hc0 : l0.length ≤ c0) (h : zq1.f k l0 a1 = some r) :
  Calls Try.prog 10 #[.slice A0 l0.length c0, .string a1] w fun e w' => e = .returned (.bool r) ∧ Below w.heap.size w w' := by
 have HR0 := q_ hr0
 have HC0 := q_ hc0
 clear hr0 hc0
 have HB := q_ (Below.refl w.heap.size w)
 have H : ((zql.f k l0).bind fun t901 => (if t901 = true then (some true) else (if (a1.size : Int) > 100 then (some true) else ((zq1g.f l0 a1).bind fun bt902 => ((zqt.f k l0 a1).bind fun bt904 => ((zq1a.f k l0).bind fun t906 => ((zqk.f k l0).bind fun t907 => (if t906 = t907 then (if bt902.1 = bt904.1 then (if (bt902.2 == bt904.2) = true then ((zqg.f k).bind fun t908 => (some t908)) else (none)) else (none)) else (none))))))))) = some r := h
 clear h
 replace H := Option.bind_eq_some_iff.mp H
 obtain ⟨t901, A30, H⟩ := H
 (try dsimp only at H)
 have A3 := q_ A30
 clear A30
 by_cases c4 : t901 = true
 ·subst c4
  rw [if_pos rfl] at H
  obtain rfl := Option.some.inj H
  go_enter Try.func10, Try.ntmps10
  go_wp2_with (first | ((with_reducible refine y0j (f := 31) rfl ?_); refine goesL_ (some 10) rfl rfl Try.func31 (by kernel_rfl) rfl #[.slice A0 l0.length c0] rfl ar_ ?_; (with_reducible refine (zql.calls k _ _ l0 true _ ?side1 ?side2 A3.out).mono ?_); (case side1 => exact ck_ HR0.out); (case side2 => exact HC0.out); rintro e w5 ⟨rfl, hb⟩; refine ⟨_, rfl, ?_⟩; have n0_ := q_ (y05 hb_ hb); clear HB; have HB := n0_; clear n0_; clear hb))
  go_ret
  exact ⟨ew_, hb_⟩
 replace c4 := Bool.eq_false_iff.mpr c4
 subst c4
 rw [if_neg (show ¬ (false = true) by decide)] at H
 by_cases c6 : (a1.size : Int) > 100
 ·rw [if_pos c6] at H
  have c6b0 : decide (100 < (a1.size : Int)) = true := decide_eq_true c6
  have c6b1 : decide (100 < a1.size) = true := decide_eq_true (by omega)
  clear c6
  obtain rfl := Option.some.inj H
  go_enter Try.func10, Try.ntmps10
  go_wp2_with (first | ((with_reducible refine y0j (f := 31) rfl ?_); refine goesL_ (some 10) rfl rfl Try.func31 (by kernel_rfl) rfl #[.slice A0 l0.length c0] rfl ar_ ?_; (with_reducible refine (zql.calls k _ _ l0 false _ ?side1 ?side2 A3.out).mono ?_); (case side1 => exact ck_ HR0.out); (case side2 => exact HC0.out); rintro e w7 ⟨rfl, hb⟩; refine ⟨_, rfl, ?_⟩; have n0_ := q_ (y05 hb_ hb); clear HB; have HB := n0_; clear n0_; clear hb))
  go_ret
  exact ⟨ew_, hb_⟩
 rw [if_neg c6] at H
 have c6b0 : decide (100 < (a1.size : Int)) = false := decide_eq_false c6
 have c6b1 : decide (100 < a1.size) = false := decide_eq_false (by omega)
 clear c6
 replace H := Option.bind_eq_some_iff.mp H
 obtain ⟨⟨t902, t903⟩, A80, H⟩ := H
 (try dsimp only at H)
 have A8 := q_ A80
 clear A80
 replace H := Option.bind_eq_some_iff.mp H
 obtain ⟨⟨t904, t905⟩, A90, H⟩ := H
 (try dsimp only at H)
 have A9 := q_ A90
 clear A90
 replace H := Option.bind_eq_some_iff.mp H
 obtain ⟨t906, A100, H⟩ := H
 (try dsimp only at H)
 have A10 := q_ A100
 clear A100
 replace H := Option.bind_eq_some_iff.mp H
 obtain ⟨t907, A110, H⟩ := H
 (try dsimp only at H)
 have A11 := q_ A110
 clear A110
 by_cases c12 : t906 = t907
 rotate_left
 ·rw [if_neg c12] at H
  exact absurd H (by simp)
 rw [if_pos c12] at H
 have c12b0 : (t906 == t907) = true := beq_iff_eq.mpr c12
 have c12b1 : (t906 != t907) = false := bne_eq_false_iff_eq.mpr c12
 clear c12
 by_cases c13 : t902 = t904
 rotate_left
 ·rw [if_neg c13] at H
  exact absurd H (by simp)
 rw [if_pos c13] at H
 have c13b0 : (t902 == t904) = true := beq_iff_eq.mpr c13
 have c13b1 : (t902 != t904) = false := bne_eq_false_iff_eq.mpr c13
 clear c13
 by_cases c14 : (t903 == t905) = true
 rotate_left
 ·rw [if_neg c14] at H
  exact absurd H (by simp)
 rw [if_pos c14] at H
 have c14b0 : (t903 == t905) = true := c14
 (try (have c14b1 : decide (t903 = t905) = true := by simpa using c14))
 (try (have c14b2 : (t903 == t905) = true := by simpa using c14))
 clear c14
 replace H := Option.bind_eq_some_iff.mp H
 obtain ⟨t908, A150, H⟩ := H
 (try dsimp only at H)
 have A15 := q_ A150
 clear A150
 obtain rfl := Option.some.inj H
 go_enter Try.func10, Try.ntmps10
 go_wp2_with (first | ((with_reducible refine y0j (f := 31) rfl ?_); refine goesL_ (some 10) rfl rfl Try.func31 (by kernel_rfl) rfl #[.slice A0 l0.length c0] rfl ar_ ?_; (with_reducible refine (zql.calls k _ _ l0 false _ ?side1 ?side2 A3.out).mono ?_); (case side1 => exact ck_ HR0.out); (case side2 => exact HC0.out); rintro e w16 ⟨rfl, hb⟩; refine ⟨_, rfl, ?_⟩; have n0_ := q_ (y05 hb_ hb); clear HB; have HB := n0_; clear n0_; clear hb) | ((with_reducible refine y0j (f := 32) rfl ?_); refine goesL_ (some 19) rfl rfl Try.func32 (by kernel_rfl) rfl #[.slice A0 l0.length c0, .string a1] rfl ar_ ?_; (with_reducible refine (zq1g.calls _ _ l0 a1 t902 t903 _ ?side1 ?side2 A8.out).mono ?_); (case side1 => exact ck_ (Kd.C_below HR0.out HB.out)); (case side2 => exact HC0.out); rintro e w17 ⟨rfl, hb⟩; refine ⟨_, rfl, ?_⟩; have n0_ := q_ (y05 hb_ hb); clear HB; have HB := n0_; clear n0_; clear hb) | ((with_reducible refine y0j (f := 33) rfl ?_); refine goesL_ (some 25) rfl rfl Try.func33 (by kernel_rfl) rfl #[.slice A0 l0.length c0, .string a1] rfl ar_ ?_; (with_reducible refine (zqt.calls k _ _ l0 a1 t904 t905 _ ?side1 ?side2 A9.out).mono ?_); (case side1 => exact ck_ (Kd.C_below HR0.out HB.out)); (case side2 => exact HC0.out); rintro e w18 ⟨rfl, hb⟩; refine ⟨_, rfl, ?_⟩; have n0_ := q_ (y05 hb_ hb); clear HB; have HB := n0_; clear n0_; clear hb) | ((with_reducible refine y0j (f := 34) rfl ?_); refine goesL_ (some 29) rfl rfl Try.func34 (by kernel_rfl) rfl #[.slice A0 l0.length c0] rfl ar_ ?_; (with_reducible refine (zq1a.calls k _ _ l0 t906 _ ?side1 ?side2 A10.out).mono ?_); (case side1 => exact ck_ (Kd.C_below HR0.out HB.out)); (case side2 => exact HC0.out); rintro e w19 ⟨rfl, hb⟩; refine ⟨_, rfl, ?_⟩; have n0_ := q_ (y05 hb_ hb); clear HB; have HB := n0_; clear n0_; clear hb) | ((with_reducible refine y0j (f := 35) rfl ?_); refine goesL_ (some 31) rfl rfl Try.func35 (by kernel_rfl) rfl #[.slice A0 l0.length c0] rfl ar_ ?_; (with_reducible refine (zqk.calls k _ _ l0 t907 _ ?side1 ?side2 A11.out).mono ?_); (case side1 => exact ck_ (Kd.C_below HR0.out HB.out)); (case side2 => exact HC0.out); rintro e w20 ⟨rfl, hb⟩; refine ⟨_, rfl, ?_⟩; have n0_ := q_ (y05 hb_ hb); clear HB; have HB := n0_; clear n0_; clear hb) | (go_at_call 36; (with_reducible refine (zqg.calls k  t908 _ A15.out).mono ?_); rintro e w21 ⟨rfl, hb⟩; have n0_ := q_ (y05 hb_ hb); clear HB; have HB := n0_; clear n0_; clear hb))
 go_ret
 exact ⟨ew_, hb_⟩
end Go.Proofs.Ytenlmckahaniiaa.K
end
section
namespace Go.Proofs.Ytenlmckahaniiaa.K
open Go.RowKit Go.Proofs.YtenlmckahaniiaaW.PrintWords Go.Proofs.YtenlmckahaniiaaW.PrintLast
def zq1.Pure : Prop := ∀ (l0 : List (S25)) (a1 : ByteArray), (WfL wf25) l0 → a1.size ≤ 140737488351232 → ∃ k, zq1.f k l0 a1 = some true
end Go.Proofs.Ytenlmckahaniiaa.K
end
section
namespace Go.Proofs.Ytenlmckahaniiaa.Obj
open Go Go.RowKit Go.Proofs.Ytenlmckahaniiaa.K Go.Proofs.YtenlmckahaniiaaW.PrintWords Go.Proofs.YtenlmckahaniiaaW.PrintMore Go.Proofs.Ytenlmckahaniiaa.MyBits Go.Proofs.Ytenlmckahaniiaa.MyStr Go.Proofs.Ytenlmckahaniiaa.Oct
def namesOf (l : List S62) : List (List UInt8) := l.map fun s => bs s.f0
end Go.Proofs.Ytenlmckahaniiaa.Obj
end
section
namespace Go.Proofs.Ytenlmckahaniiaa.Obj
open Go Go.RowKit Go.Proofs.Ytenlmckahaniiaa.K Go.Proofs.YtenlmckahaniiaaW.PrintWords Go.Proofs.YtenlmckahaniiaaW.PrintMore Go.Proofs.Ytenlmckahaniiaa.MyBits Go.Proofs.Ytenlmckahaniiaa.MyStr Go.Proofs.Ytenlmckahaniiaa.Oct
theorem rname_step (k : Nat) (s : ByteArray) (i : Int) (h0 : 0 ≤ i) (h1 : i < (s.size : Int)) :
    zqc.l0 (k + 1) s i = if okc (bt s i) = true then zqc.l0 k s (wrap64 (i + 1)) else some false := by
  rw [zqc.l0, if_pos h1, if_pos h0]
  generalize bt s i = c at *
  unfold okc
  simp only [Bool.or_eq_true, Bool.and_eq_true, decide_eq_true_eq]
  repeat' split
  all_goals first
    | rfl
    | (exfalso; omega)
theorem rname_loop (s : ByteArray) (hl : s.size < 9223372036854775807) (d : Nat) : ∀ i : Nat, i + d = s.size → Ev (fun k => zqc.l0 k s (i : Int)) (((ints (bs s)).drop i).all okc) := by
  induction d with
  | zero =>
    intro i hi
    refine Ev.step (f := fun _ => some true) (fun k => by rw [zqc.l0, if_neg (by omega)]) ?_
    rw [List.drop_eq_nil_of_le (by rw [ints_length, y0h]; omega)]
    exact Ev.now _
  | succ d ih =>
    intro i hi
    have hb : i < (bs s).length := by rw [y0h]; omega
    obtain ⟨e, r0, r1⟩ := rd_ints (bs s) i hb
    have e2 : bt s (i : Int) = rd (ints (bs s)) (i : Int) := by rw [bt_bs, e]; simp
    refine Ev.step (f := fun k => if okc (rd (ints (bs s)) (i : Int)) = true then zqc.l0 k s ((i + 1 : Nat) : Int) else some false) (fun k => by rw [rname_step k _ _ (by omega) (by omega), i64_nat i (by omega), e2]) ?_
    rw [drop_all _ _ _ (by rw [ints_length]; exact hb)]
    refine Ev.ite (fun h => ?_) (fun h => ?_)
    · rw [h, Bool.true_and]
      exact ih (i + 1) (by omega)
    · rw [Bool.not_eq_true] at h
      rw [h, Bool.false_and]
      exact Ev.now _
theorem rname_is (s : ByteArray) (hs : s.size ≤ 9223372036854775806) : Ev (fun k => zqc.f k s) (isNm s) := by
  have hall : Ev (fun k => zqc.j0 k s false) ((ints (bs s)).all okc) :=
    Ev.step (f := fun k => zqc.l0 k s 0) (fun k => by rw [zqc.j0, if_neg (by decide)]) (by have := rname_loop s (by omega) s.size 0 (by omega); simpa using this)
  have hno : Ev (fun k => zqc.j0 k s true) false := Ev.step (f := fun _ => some false) (fun k => by rw [zqc.j0, if_pos rfl]) (Ev.now _)
  unfold zqc.f isNm nameL
  refine Ev.ite (fun h => ?_) (fun h => ?_)
  · rw [toList_nil] at h
    rw [h]; exact hno
  · rw [toList_nil] at h
    have hp : 0 < s.size := by rw [← y0h]; exact List.length_pos_iff.2 h
    rw [decide_eq_true h, Bool.true_and, y0h]
    refine Ev.ite (fun h1 => ?_) (fun h1 => ?_)
    · rw [decide_eq_false (show ¬ s.size ≤ 14 by omega)]; exact hno
    · rw [decide_eq_true (show s.size ≤ 14 by omega), Bool.true_and, ← show bt s 0 = byteAt (bs s) 0 from bt_bs s 0]
      refine Ev.congr (fun k => if_pos (by omega)) ?_
      refine Ev.ite (fun h2 => ?_) (fun h2 => ?_)
      · rw [decide_eq_true (show 48 ≤ bt s 0 from h2), Bool.true_and]
        by_cases h3 : bt s 0 ≤ 57
        · rw [decide_eq_true h3]; exact hno
        · rw [decide_eq_false h3]; exact hall
      · rw [decide_eq_false (show ¬ 48 ≤ bt s 0 from h2), Bool.false_and]; exact hall
theorem word_is (n : Int) : zqs.f n = some (decide (0 ≤ n) && decide (n ≤ 65535)) := by
  unfold zqs.f
  by_cases h : n ≥ 0
  · rw [if_pos h, decide_eq_true (show 0 ≤ n from h)]; rfl
  · rw [if_neg h, decide_eq_false (show ¬ 0 ≤ n from h)]; rfl
theorem rsyms_tail (l : List S62) (hn : l.length ≤ 1000000) (i : Nat) (h : i < l.length) (r : Int) (hr : Ev (fun k => zq8.l0 k l ((i + 1 : Nat) : Int)) r) (d : Nat) : ∀ j : Nat, j + d = i →
    Ev (fun k => zq8.l1 k l (i : Int) (j : Int)) (if bs l[i].f0 ∈ namesOf ((l.take i).drop j) then 6 else if symOk l[i] = true then r else 2) := by
  induction d with
  | zero =>
    intro j hj
    obtain rfl : j = i := by omega
    rw [List.drop_eq_nil_of_le (by rw [List.length_take]; omega)]
    rw [if_neg (by simp [namesOf])]
    refine Ev.step (f := fun k => if l[j].f1 < 0 then some 2 else if l[j].f1 > 3 then some 2 else if (decide (0 ≤ l[j].f2) && decide (l[j].f2 ≤ 65535)) = true then zq8.l0 k l ((j + 1 : Nat) : Int) else some 2) (fun k => ?_) ?_
    · rw [zq8.l1, if_neg (by omega), if_pos (by omega), if_pos (by omega), rd62 l j h, word_is, Option.bind_some, i64_nat j (by omega)]
    · have e := symOk_iff l[j]
      refine Ev.ite (fun h1 => ?_) (fun h1 => Ev.ite (fun h2 => ?_) (fun h2 => Ev.ite (fun h3 => ?_) (fun h3 => ?_)))
      · rw [if_neg (by rw [e]; omega)]; exact Ev.now _
      · rw [if_neg (by rw [e]; omega)]; exact Ev.now _
      · simp only [Bool.and_eq_true, decide_eq_true_eq] at h3
        rw [if_pos (by rw [e]; omega)]; exact hr
      · simp only [Bool.and_eq_true, decide_eq_true_eq] at h3
        rw [if_neg (by rw [e]; omega)]; exact Ev.now _
  | succ d ih =>
    intro j hj
    have hjl : j < l.length := by omega
    have hc : (l.take i).drop j = l[j] :: (l.take i).drop (j + 1) := by
      rw [List.drop_eq_getElem_cons (by rw [List.length_take]; omega), List.getElem_take]
    refine Ev.step (f := fun k => if bs l[j].f0 = bs l[i].f0 then some 6 else zq8.l1 k l (i : Int) ((j + 1 : Nat) : Int)) (fun k => ?_) ?_
    · rw [zq8.l1, if_pos (by omega), if_pos (by omega), if_pos (by omega), if_pos (by omega), if_pos (by omega), rd62 l j hjl, rd62 l i h, y0u, y0u, i64_nat j (by omega)]
    · rw [hc]
      refine Ev.ite (fun h1 => ?_) (fun h1 => ?_)
      · rw [if_pos (by simp [namesOf, h1])]; exact Ev.now _
      · have := ih (j + 1) (by omega)
        have e : (bs l[i].f0 ∈ namesOf (l[j] :: (l.take i).drop (j + 1))) = (bs l[i].f0 ∈ namesOf ((l.take i).drop (j + 1))) := by
          unfold namesOf
          rw [List.map_cons, List.mem_cons]
          simp [show ¬ bs l[i].f0 = bs l[j].f0 from fun e => h1 e.symm]
        simp only [e]
        exact this
theorem rsyms_loop (l : List S62) (hn : l.length ≤ 1000000) (hf : Fine62 l) (d : Nat) : ∀ (i : Nat), i + d = l.length → Ev (fun k => zq8.l0 k l (i : Int)) (symsR (namesOf (l.take i)) (l.drop i)) := by
  induction d with
  | zero =>
    intro i hi
    rw [List.drop_eq_nil_of_le (by omega)]
    exact Ev.step (f := fun _ => some 0) (fun k => by rw [zq8.l0, if_neg (by omega)]) (Ev.now _)
  | succ d ih =>
    intro i hi
    have hlt : i < l.length := by omega
    have h1 := ih (i + 1) (by omega)
    have h2 := rsyms_tail l hn i hlt _ h1 i 0 (by omega)
    rw [List.drop_zero] at h2
    rw [List.drop_eq_getElem_cons hlt]
    unfold symsR
    refine Ev.step (f := fun k => (zqc.f k l[i].f0).bind fun t => (if t = true then zq8.l1 k l (i : Int) 0 else some 4)) (fun k => ?_) ?_
    · rw [zq8.l0, if_pos (by omega), if_pos (by omega), rd62 l i hlt]
    · refine Ev.bind (rname_is _ (hf _ (List.getElem_mem hlt))) ?_
      refine Ev.ite (fun h => ?_) (fun h => ?_)
      · rw [if_pos h]
        have e : namesOf (l.take (i + 1)) = namesOf (l.take i) ++ [bs l[i].f0] := by
          unfold namesOf; rw [List.take_succ_eq_append_getElem hlt, List.map_append]; rfl
        rw [e] at h2
        exact h2
      · rw [if_neg h]; exact Ev.now _
theorem rsyms_is (l : List S62) (hn : l.length ≤ 1000000) (hf : Fine62 l) : Ev (fun k => zq8.f k l) (symsR [] l) := by
  have := rsyms_loop l hn hf l.length 0 (by omega)
  rw [List.drop_zero] at this
  exact this
theorem rrel_j3 (x : S43) (hs : x.f3.size ≤ 9223372036854775806) (b : Bool) : Ev (fun k => zqj.j3 k b x.f0 x.f1 x.f2 x.f3 x.f4) (if b = true then 2 else if x.f2 = 4 then (if isNm x.f3 = true then 0 else 4) else (if bs x.f3 = [] then 0 else 4)) := by
  refine Ev.step (f := fun k => if b = true then some 2 else (if x.f2 = 4 then ((zqc.f k x.f3).bind fun t => (if t = true then some 0 else some 4)) else (if bs x.f3 = [] then some 0 else some 4))) (fun k => by rw [zqj.j3, y0u]) ?_
  refine Ev.ite (fun h => ?_) (fun h => ?_)
  · rw [if_pos h]; exact Ev.now _
  · rw [if_neg h]
    refine Ev.ite (fun h => ?_) (fun h => ?_)
    · rw [if_pos h]
      refine Ev.bind (rname_is _ hs) ?_
      refine Ev.ite (fun h => ?_) (fun h => ?_)
      · rw [if_pos h]; exact Ev.now _
      · rw [if_neg h]; exact Ev.now _
    · rw [if_neg h]
      refine Ev.ite (fun h => ?_) (fun h => ?_)
      · rw [if_pos h]; exact Ev.now _
      · rw [if_neg h]; exact Ev.now _
theorem rrel_j2 (x : S43) (hs : x.f3.size ≤ 9223372036854775806) (b : Bool) : Ev (fun k => zqj.j2 k b x.f0 x.f1 x.f2 x.f3 x.f4) (if b = true then 2 else if x.f2 < 0 ∨ x.f2 > 4 ∨ (x.f2 = 0 ∧ x.f4 = false) then 2 else if x.f2 = 4 then (if isNm x.f3 = true then 0 else 4) else (if bs x.f3 = [] then 0 else 4)) := by
  have e := fun b' => rrel_j3 x hs b'
  refine Ev.step (fun k => by rw [zqj.j2]) ?_
  refine Ev.ite (fun h => ?_) (fun h => ?_)
  · rw [if_pos h]; exact Ev.now _
  · rw [if_neg h]
    refine Ev.ite (fun h => ?_) (fun h => Ev.ite (fun h2 => ?_) (fun h2 => Ev.ite (fun h3 => ?_) (fun h3 => ?_)))
    · rw [if_pos (by omega)]; exact e true
    · rw [if_pos (by omega)]; exact e true
    · cases h4 : x.f4 with
      | true => rw [if_neg (by simp; omega)]; simpa [h4] using e false
      | false => rw [if_pos (by simp [h3])]; simpa [h4] using e true
    · rw [if_neg (by omega)]; exact e false
theorem rrel_j1 (x y : S43) (hs : x.f3.size ≤ 9223372036854775806) (b : Bool) : Ev (fun k => zqj.j1 k b x.f0 x.f1 x.f2 x.f3 x.f4 y.f0 y.f1 y.f2 y.f3 y.f4) (if b = true then 2 else if x.f0 < y.f0 ∨ (x.f0 = y.f0 ∧ x.f1 ≤ y.f1) then 2 else if x.f2 < 0 ∨ x.f2 > 4 ∨ (x.f2 = 0 ∧ x.f4 = false) then 2 else if x.f2 = 4 then (if isNm x.f3 = true then 0 else 4) else (if bs x.f3 = [] then 0 else 4)) := by
  have e := fun b' => rrel_j2 x hs b'
  refine Ev.step (fun k => by rw [zqj.j1]) ?_
  refine Ev.ite (fun h => ?_) (fun h => ?_)
  · rw [if_pos h]; exact Ev.now _
  · rw [if_neg h]
    refine Ev.ite (fun h => ?_) (fun h => Ev.ite (fun h2 => ?_) (fun h2 => ?_))
    · rw [if_pos (by omega)]; exact e true
    · by_cases h3 : x.f1 ≤ y.f1
      · rw [if_pos (by omega), decide_eq_true (show y.f1 ≥ x.f1 from h3)]; exact e true
      · rw [if_neg (by omega), decide_eq_false (show ¬ y.f1 ≥ x.f1 from h3)]; exact e false
    · rw [if_neg (by omega)]; exact e false
theorem rrel_j0 (sz : Int) (x y : S43) (hs : x.f3.size ≤ 9223372036854775806) : Ev (fun k => zqj.j0 k sz x.f0 x.f1 x.f2 x.f3 x.f4 y.f0 y.f1 y.f2 y.f3 y.f4) (if x.f0 ≠ 1 ∧ x.f0 ≠ 2 then 2 else relT sz x y) := by
  have e := fun b' => rrel_j1 x y hs b'
  unfold relT
  refine Ev.step (fun k => by rw [zqj.j0]) ?_
  have key : ∀ (q : Prop) [Decidable q], ¬ (x.f0 ≠ 1 ∧ x.f0 ≠ 2) → Ev (fun k => if x.f1 < 0 then zqj.j1 k true x.f0 x.f1 x.f2 x.f3 x.f4 y.f0 y.f1 y.f2 y.f3 y.f4 else (if (Int.tmod x.f1 2) = 0 then zqj.j1 k (decide (x.f1 > (wrap64 (sz - 2)))) x.f0 x.f1 x.f2 x.f3 x.f4 y.f0 y.f1 y.f2 y.f3 y.f4 else zqj.j1 k true x.f0 x.f1 x.f2 x.f3 x.f4 y.f0 y.f1 y.f2 y.f3 y.f4))
      (if x.f0 ≠ 1 ∧ x.f0 ≠ 2 then 2 else if x.f1 < 0 ∨ Int.tmod x.f1 2 ≠ 0 ∨ x.f1 > wrap64 (sz - 2) then 2 else if x.f0 < y.f0 ∨ (x.f0 = y.f0 ∧ x.f1 ≤ y.f1) then 2 else if x.f2 < 0 ∨ x.f2 > 4 ∨ (x.f2 = 0 ∧ x.f4 = false) then 2 else if x.f2 = 4 then (if isNm x.f3 = true then 0 else 4) else (if bs x.f3 = [] then 0 else 4)) := by
    intro q _ hq
    rw [if_neg hq]
    refine Ev.ite (fun h => ?_) (fun h => Ev.ite (fun h2 => ?_) (fun h2 => ?_))
    · rw [if_pos (by omega)]; exact e true
    · by_cases h3 : x.f1 > wrap64 (sz - 2)
      · rw [if_pos (by omega), decide_eq_true h3]; exact e true
      · rw [if_neg (by omega), decide_eq_false h3]; exact e false
    · rw [if_pos (by omega)]; exact e true
  refine Ev.ite (fun h => key True (by omega)) (fun h => Ev.ite (fun h2 => key True (by omega)) (fun h2 => ?_))
  rw [if_pos (by omega)]; exact e true
theorem rrel_is (a0 a1 a2 : ByteArray) (a3 : Int) (l4 : List S62) (l5 : List S43) (x y : S43) (hs : x.f3.size ≤ 9223372036854775806) :
    Ev (fun k => zqj.f k a0 a1 a2 a3 l4 l5 x.f0 x.f1 x.f2 x.f3 x.f4 y.f0 y.f1 y.f2 y.f3 y.f4) (relR (a1.size : Int) (a2.size : Int) x y) := by
  unfold zqj.f relR
  refine Ev.ite (fun h => ?_) (fun h => ?_)
  · rw [if_pos h]; exact rrel_j0 _ x y hs
  · rw [if_neg h]; exact rrel_j0 _ x y hs
theorem rcheck_l0 (a0 a1 a2 : ByteArray) (a3 : Int) (l4 : List S62) (l5 : List S43) (hn : l5.length ≤ 1000000) (hf : Fine43 l5) (d : Nat) : ∀ (i : Nat) (b : S43), i + d = l5.length →
    Ev (fun k => zqh.l0 k (i : Int) a0 a1 a2 a3 l4 l5 b.f0 b.f1 b.f2 b.f3 b.f4) (relsR (a1.size : Int) (a2.size : Int) b (l5.drop i)) := by
  induction d with
  | zero =>
    intro i b hi
    rw [List.drop_eq_nil_of_le (by omega)]
    exact Ev.step (f := fun _ => some 0) (fun k => by rw [zqh.l0, if_neg (by omega)]) (Ev.now _)
  | succ d ih =>
    intro i b hi
    have hlt : i < l5.length := by omega
    rw [List.drop_eq_getElem_cons hlt]
    unfold relsR
    refine Ev.step (fun k => by rw [zqh.l0, if_pos (by omega), if_pos (by omega), rd43 l5 i hlt, i64_nat i (by omega)]) ?_
    refine Ev.bind (rrel_is a0 a1 a2 a3 l4 l5 l5[i] b (hf _ (List.getElem_mem hlt))) ?_
    refine Ev.ite (fun h => ?_) (fun h => ?_)
    · rw [if_pos h]; exact ih (i + 1) l5[i] (by omega)
    · rw [if_neg h]; exact Ev.now _
theorem rcheck_j1 (a0 a1 a2 : ByteArray) (a3 : Int) (l4 : List S62) (l5 : List S43) (hf : Fine a0 l4 l5) (b : Bool) (h4 : l4.length ≤ 1000000) (h5 : l5.length ≤ 1000000) :
    Ev (fun k => zqh.j1 k b a0 a1 a2 a3 l4 l5) (if b = true then 1 else if symsR [] l4 = 0 then relsR (a1.size : Int) (a2.size : Int) b0 l5 else symsR [] l4) := by
  refine Ev.step (fun k => by rw [zqh.j1]) ?_
  refine Ev.ite (fun h => ?_) (fun h => ?_)
  · rw [if_pos h]; exact Ev.now _
  · rw [if_neg h]
    refine Ev.bind (rsyms_is l4 h4 hf.h4) ?_
    refine Ev.ite (fun h => ?_) (fun h => ?_)
    · rw [if_pos h]
      have := rcheck_l0 a0 a1 a2 a3 l4 l5 h5 hf.h5 l5.length 0 b0 (by omega)
      rw [List.drop_zero] at this
      exact this
    · rw [if_neg h]; exact Ev.now _
theorem rcheck_j0 (a0 a1 a2 : ByteArray) (a3 : Int) (l4 : List S62) (l5 : List S43) (hf : Fine a0 l4 l5) (b : Bool) (h4 : l4.length ≤ 1000000) (h5 : l5.length ≤ 1000000) :
    Ev (fun k => zqh.j0 k b a0 a1 a2 a3 l4 l5) (if b = true then 7 else if a1.size % 2 ≠ 0 ∨ a3 < 0 then 1 else if symsR [] l4 = 0 then relsR (a1.size : Int) (a2.size : Int) b0 l5 else symsR [] l4) := by
  have e := fun b => rcheck_j1 a0 a1 a2 a3 l4 l5 hf b h4 h5
  refine Ev.step (fun k => by rw [zqh.j0]) ?_
  refine Ev.ite (fun h => ?_) (fun h => ?_)
  · rw [if_pos h]; exact Ev.now _
  · rw [if_neg h]
    refine Ev.ite (fun h => ?_) (fun h => ?_)
    · by_cases h2 : a3 < 0
      · rw [if_pos (by omega), decide_eq_true h2]; exact e true
      · rw [if_neg (by omega), decide_eq_false h2]; exact e false
    · rw [if_pos (by omega)]; exact e true
theorem rcheck_is (a0 a1 a2 : ByteArray) (a3 : Int) (l4 : List S62) (l5 : List S43) (hf : Fine a0 l4 l5) (h4 : l4.length ≤ 1000000) (h5 : l5.length ≤ 1000000) :
    Ev (fun k => zqh.f k a0 a1 a2 a3 l4 l5) (checkR a0 a1 a2 a3 l4 l5) := by
  have e := fun b => rcheck_j0 a0 a1 a2 a3 l4 l5 hf b h4 h5
  unfold zqh.f checkR
  refine Ev.bind (rname_is a0 hf.h0) ?_
  refine Ev.ite (fun h => ?_) (fun h => ?_)
  · rw [if_pos h]
    refine Ev.ite (fun h => ?_) (fun h1 => Ev.ite (fun h => ?_) (fun h2 => Ev.ite (fun h => ?_) (fun h3 => Ev.ite (fun h => ?_) (fun h6 => ?_))))
    · rw [if_pos (by omega)]; exact e true
    · rw [if_pos (by omega)]; exact e true
    · rw [if_pos (by omega)]; exact e true
    · rw [if_pos (by omega)]; exact e true
    · by_cases h7 : (l5.length : Int) > 2048
      · rw [if_pos (by omega), decide_eq_true h7]; exact e true
      · rw [if_neg (by omega), decide_eq_false h7]; exact e false
  · rw [if_neg h]; exact Ev.now _
end Go.Proofs.Ytenlmckahaniiaa.Obj
end
section
namespace Go.Proofs.Ytenlmckahaniiaa.Lb
open Go Go.RowKit Go.Proofs.Ytenlmckahaniiaa.K Go.Proofs.YtenlmckahaniiaaW.PrintWords Go.Proofs.YtenlmckahaniiaaW.PrintMore Go.Proofs.Ytenlmckahaniiaa.MyBits Go.Proofs.Ytenlmckahaniiaa.MyStr Go.Proofs.Ytenlmckahaniiaa.Oct Go.Proofs.Ytenlmckahaniiaa.Obj
theorem rchk_is {x : S25} (h : OkM x) : Ev (fun k => zqh.f k x.f0 x.f1 x.f2 x.f3 x.f4 x.f5) (chk x) := rcheck_is x.f0 x.f1 x.f2 x.f3 x.f4 x.f5 h.fine h.n4 h.n5
theorem rlib_l1 (l : List S25) (hl : l.length ≤ 1000000) (i : Nat) (hlt : i < l.length) (r : Int) (hr : Ev (fun k => zqk.l0 k l ((i + 1 : Nat) : Int)) r) (d : Nat) : ∀ j : Nat, j + d = i → Ev (fun k => zqk.l1 k l (i : Int) (j : Int)) (if (nms ((l.take i).drop j)).any (fun n => n == bs l[i].f0) = true then 6 else r) := by
  induction d with
  | zero =>
    intro j hj
    rw [List.drop_eq_nil_of_le (by rw [List.length_take]; omega)]
    rw [if_neg (by simp [nms])]
    exact Ev.step (f := fun k => zqk.l0 k l ((i + 1 : Nat) : Int)) (fun k => by rw [zqk.l1, if_neg (by omega), Obj.i64_nat i (by omega)]) hr
  | succ d ih =>
    intro j hj
    have h := ih (j + 1) (by omega)
    have hjl : j < (l.take i).length := by rw [List.length_take]; omega
    have hj2 : j < l.length := by omega
    rw [List.drop_eq_getElem_cons hjl, List.getElem_take]
    unfold nms at h ⊢
    rw [List.map_cons, List.any_cons]
    refine Ev.step (f := fun k => if l[j].f0.toList = l[i].f0.toList then some 6 else zqk.l1 k l (i : Int) ((j + 1 : Nat) : Int)) (fun k => by rw [zqk.l1, if_pos (by omega), if_pos (by omega), if_pos (by omega), if_pos (by omega), if_pos (by omega), rd25 l j hj2, rd25 l i hlt, Obj.i64_nat j (by omega)]) ?_
    rw [y0u, y0u]
    by_cases h1 : bs l[j].f0 = bs l[i].f0
    · refine Ev.congr (fun k => if_pos h1) ?_
      rw [h1, beq_self_eq_true, Bool.true_or, if_pos rfl]; exact Ev.now _
    · refine Ev.congr (fun k => if_neg h1) ?_
      rw [beq_eq_false_iff_ne.2 h1, Bool.false_or]; exact h
theorem rlib_l0 (l : List S25) (hl : l.length ≤ 1000000) (hs : ∀ x ∈ l, OkM x) (d : Nat) : ∀ i : Nat, i + d = l.length → Ev (fun k => zqk.l0 k l (i : Int)) (libR (nms (l.take i)) (l.drop i)) := by
  induction d with
  | zero =>
    intro i hi
    rw [List.drop_eq_nil_of_le (by omega)]
    exact Ev.step (f := fun _ => some 0) (fun k => by rw [zqk.l0, if_neg (by omega)]) (Ev.now _)
  | succ d ih =>
    intro i hi
    have hlt : i < l.length := by omega
    have h := ih (i + 1) (by omega)
    rw [List.drop_eq_getElem_cons hlt]
    rw [show nms (l.take (i + 1)) = nms (l.take i) ++ [bs l[i].f0] by unfold nms; rw [List.take_succ_eq_append_getElem hlt, List.map_append]; rfl] at h
    unfold libR
    refine Ev.step (f := fun k => (zqh.f k l[i].f0 l[i].f1 l[i].f2 l[i].f3 l[i].f4 l[i].f5).bind fun t => if t = 0 then zqk.l1 k l (i : Int) 0 else some t) (fun k => by rw [zqk.l0, if_pos (by omega), if_pos (by omega), rd25 l i hlt]) ?_
    refine Ev.bind (rchk_is (hs l[i] (List.getElem_mem hlt))) ?_
    by_cases h0 : chk l[i] = 0
    · refine Ev.congr (fun k => if_pos h0) ?_
      rw [if_pos h0]
      have := rlib_l1 l hl i hlt _ h i 0 (by omega)
      rw [List.drop_zero] at this
      exact this
    · refine Ev.congr (fun k => if_neg h0) ?_
      rw [if_neg h0]; exact Ev.now _
theorem rlibC_ok_is (l : List S25) (hl : l.length ≤ 1000000) (hs : ∀ x ∈ l, OkM x) : Ev (fun k => zqk.f k l) (libC l) := by
  unfold zqk.f libC
  by_cases h : (l.length : Int) > 32
  · refine Ev.congr (fun k => if_pos h) ?_
    rw [if_pos (by omega)]; exact Ev.now _
  · refine Ev.congr (fun k => if_neg h) ?_
    rw [if_neg (by omega)]
    exact rlib_l0 l hl hs l.length 0 (by omega)
theorem rlibC_is (l : List S25) (hl : l.length ≤ 1000000) (hs : ∀ x ∈ l, SmM x) : Ev (fun k => zqk.f k l) (libC l) := rlibC_ok_is l hl fun x hx => (hs x hx).ok
end Go.Proofs.Ytenlmckahaniiaa.Lb
end
section
namespace Go.Proofs.Ytenlmckahaniiaa.Pure
open Go Go.RowKit Go.Proofs.Ytenlmckahaniiaa.K Go.Proofs.YtenlmckahaniiaaW.PrintWords Go.Proofs.YtenlmckahaniiaaW.PrintMore Go.Proofs.Ytenlmckahaniiaa.MyBits Go.Proofs.Ytenlmckahaniiaa.MyStr Go.Proofs.Ytenlmckahaniiaa.Oct Go.Proofs.Ytenlmckahaniiaa.Obj Go.Proofs.Ytenlmckahaniiaa.Lb
theorem LibraryChecks : zq1.Pure := by
  intro l0 a1 _ _
  refine Ev.rounds ?_
  unfold zq1.f
  obtain ⟨b, hb, hs⟩ := great_is l0
  refine Ev.bind hb ?_
  refine Ev.ite (fun h => Ev.now _) (fun h => ?_)
  have hS := hs (Bool.eq_false_iff.mpr h)
  refine Ev.ite (fun _ => Ev.now _) (fun _ => ?_)
  refine Ev.bind (Ev.is (find_is l0 a1)) ?_
  refine Ev.bind (rfind_is l0 (by have := hS.n; omega) (fun x hx => by have := (hS.m x hx).n4; omega) a1) ?_
  refine Ev.bind (libC_is l0 hS.m) ?_
  refine Ev.bind (rlibC_is l0 (by have := hS.n; omega) hS.m) ?_
  exact Ev.congr (fun k => by rw [if_pos rfl, if_pos rfl, if_pos (beq_self_eq_true _)]) Lb.alive_end
end Go.Proofs.Ytenlmckahaniiaa.Pure
end
