/- Lemmas for the law ObjectDecodes: what its proof needs of this seat's texts, in one place. -/
import Derived.Test.YtenlmckahaniiaaZObjectDecodes12
import Derived.Test.YtenlmckahaniiaaZObjectDecodes28
section
set_option linter.unusedVariables false
set_option linter.unusedSimpArgs false
namespace Go.Proofs.Ytenlmckahaniiaa.Obj
open Go Go.RowKit Go.Proofs.Ytenlmckahaniiaa.K Go.Proofs.YtenlmckahaniiaaW.PrintWords Go.Proofs.YtenlmckahaniiaaW.PrintMore Go.Proofs.Ytenlmckahaniiaa.MyBits Go.Proofs.Ytenlmckahaniiaa.MyStr Go.Proofs.Ytenlmckahaniiaa.Oct
theorem rname_step (k : Nat) (s : ByteArray) (i : Int) (h0 : 0 ≤ i) (h1 : i < (s.size : Int)) :
    emulatorref28_IsName.l0 (k + 1) s i = if okc (bt s i) = true then emulatorref28_IsName.l0 k s (wrap64 (i + 1)) else some false := by
  rw [emulatorref28_IsName.l0, if_pos h1, if_pos h0]
  generalize bt s i = c at *
  unfold okc
  simp only [Bool.or_eq_true, Bool.and_eq_true, decide_eq_true_eq]
  repeat' split
  all_goals first
    | rfl
    | (exfalso; omega)
theorem rname_loop (s : ByteArray) (hl : s.size < 9223372036854775807) (d : Nat) : ∀ i : Nat, i + d = s.size → Ev (fun k => emulatorref28_IsName.l0 k s (i : Int)) (((ints (bs s)).drop i).all okc) := by
  induction d with
  | zero =>
    intro i hi
    refine Ev.step (f := fun _ => some true) (fun k => by rw [emulatorref28_IsName.l0, if_neg (by omega)]) ?_
    rw [List.drop_eq_nil_of_le (by rw [ints_length, bs_length]; omega)]
    exact Ev.now _
  | succ d ih =>
    intro i hi
    have hb : i < (bs s).length := by rw [bs_length]; omega
    obtain ⟨e, r0, r1⟩ := rd_ints (bs s) i hb
    have e2 : bt s (i : Int) = rd (ints (bs s)) (i : Int) := by rw [bt_bs, e]; simp
    refine Ev.step (f := fun k => if okc (rd (ints (bs s)) (i : Int)) = true then emulatorref28_IsName.l0 k s ((i + 1 : Nat) : Int) else some false) (fun k => by rw [rname_step k _ _ (by omega) (by omega), i64_nat i (by omega), e2]) ?_
    rw [drop_all _ _ _ (by rw [ints_length]; exact hb)]
    refine Ev.ite (fun h => ?_) (fun h => ?_)
    · rw [h, Bool.true_and]
      exact ih (i + 1) (by omega)
    · rw [Bool.not_eq_true] at h
      rw [h, Bool.false_and]
      exact Ev.now _
theorem rname_is (s : ByteArray) (hs : s.size ≤ 9223372036854775806) : Ev (fun k => emulatorref28_IsName.f k s) (isNm s) := by
  have hall : Ev (fun k => emulatorref28_IsName.j0 k s false) ((ints (bs s)).all okc) :=
    Ev.step (f := fun k => emulatorref28_IsName.l0 k s 0) (fun k => by rw [emulatorref28_IsName.j0, if_neg (by decide)]) (by have := rname_loop s (by omega) s.size 0 (by omega); simpa using this)
  have hno : Ev (fun k => emulatorref28_IsName.j0 k s true) false := Ev.step (f := fun _ => some false) (fun k => by rw [emulatorref28_IsName.j0, if_pos rfl]) (Ev.now _)
  unfold emulatorref28_IsName.f isNm nameL
  refine Ev.ite (fun h => ?_) (fun h => ?_)
  · rw [toList_nil] at h
    rw [h]; exact hno
  · rw [toList_nil] at h
    have hp : 0 < s.size := by rw [← bs_length]; exact List.length_pos_iff.2 h
    rw [decide_eq_true h, Bool.true_and, bs_length]
    refine Ev.ite (fun h1 => ?_) (fun h1 => ?_)
    · rw [decide_eq_false (show ¬ s.size ≤ 14 by omega)]; exact hno
    · rw [decide_eq_true (show s.size ≤ 14 by omega), Bool.true_and, ← show bt s 0 = byteAt (bs s) 0 from bt_bs s 0]
      refine Ev.congr (fun k => if_pos (by omega)) ?_
      refine Ev.ite (fun h2 => ?_) (fun h2 => ?_)
      · rw [decide_eq_true (show 48 ≤ bt s 0 from h2), Bool.true_and]
        by_cases h3 : bt s 0 ≤ 57
        · rw [decide_eq_true h3]; exact hno
        · rw [decide_eq_false h3]; exact hall
      · rw [decide_eq_false (show ¬ 48 ≤ bt s 0 from h2), Bool.false_and]; exact hall
theorem word_is (n : Int) : emulatorref28_word.f n = some (decide (0 ≤ n) && decide (n ≤ 65535)) := by
  unfold emulatorref28_word.f
  by_cases h : n ≥ 0
  · rw [if_pos h, decide_eq_true (show 0 ≤ n from h)]; rfl
  · rw [if_neg h, decide_eq_false (show ¬ 0 ≤ n from h)]; rfl
theorem rsyms_tail (l : List S62) (hn : l.length ≤ 1000000) (i : Nat) (h : i < l.length) (r : Int) (hr : Ev (fun k => emulatorref28_symbols.l0 k l ((i + 1 : Nat) : Int)) r) (d : Nat) : ∀ j : Nat, j + d = i →
    Ev (fun k => emulatorref28_symbols.l1 k l (i : Int) (j : Int)) (if bs l[i].f0 ∈ namesOf ((l.take i).drop j) then 6 else if symOk l[i] = true then r else 2) := by
  induction d with
  | zero =>
    intro j hj
    obtain rfl : j = i := by omega
    rw [List.drop_eq_nil_of_le (by rw [List.length_take]; omega)]
    rw [if_neg (by simp [namesOf])]
    refine Ev.step (f := fun k => if l[j].f1 < 0 then some 2 else if l[j].f1 > 3 then some 2 else if (decide (0 ≤ l[j].f2) && decide (l[j].f2 ≤ 65535)) = true then emulatorref28_symbols.l0 k l ((j + 1 : Nat) : Int) else some 2) (fun k => ?_) ?_
    · rw [emulatorref28_symbols.l1, if_neg (by omega), if_pos (by omega), if_pos (by omega), rd62 l j h, word_is, Option.bind_some, i64_nat j (by omega)]
    · have e := symOk_iff l[j]
      refine Ev.ite (fun h1 => ?_) (fun h1 => Ev.ite (fun h2 => ?_) (fun h2 => Ev.ite (fun h3 => ?_) (fun h3 => ?_)))
      · rw [if_neg (by rw [e]; omega)]; exact Ev.now _
      · rw [if_neg (by rw [e]; omega)]; exact Ev.now _
      · simp only [Bool.and_eq_true, decide_eq_true_eq] at h3
        rw [if_pos (by rw [e]; omega)]; exact hr
      · simp only [Bool.and_eq_true, decide_eq_true_eq] at h3
        rw [if_neg (by rw [e]; omega)]; exact Ev.now _
  | succ d ih =>
    intro j hj
    have hjl : j < l.length := by omega
    have hc : (l.take i).drop j = l[j] :: (l.take i).drop (j + 1) := by
      rw [List.drop_eq_getElem_cons (by rw [List.length_take]; omega), List.getElem_take]
    refine Ev.step (f := fun k => if bs l[j].f0 = bs l[i].f0 then some 6 else emulatorref28_symbols.l1 k l (i : Int) ((j + 1 : Nat) : Int)) (fun k => ?_) ?_
    · rw [emulatorref28_symbols.l1, if_pos (by omega), if_pos (by omega), if_pos (by omega), if_pos (by omega), if_pos (by omega), rd62 l j hjl, rd62 l i h, toList_bs, toList_bs, i64_nat j (by omega)]
    · rw [hc]
      refine Ev.ite (fun h1 => ?_) (fun h1 => ?_)
      · rw [if_pos (by simp [namesOf, h1])]; exact Ev.now _
      · have := ih (j + 1) (by omega)
        have e : (bs l[i].f0 ∈ namesOf (l[j] :: (l.take i).drop (j + 1))) = (bs l[i].f0 ∈ namesOf ((l.take i).drop (j + 1))) := by
          unfold namesOf
          rw [List.map_cons, List.mem_cons]
          simp [show ¬ bs l[i].f0 = bs l[j].f0 from fun e => h1 e.symm]
        simp only [e]
        exact this
theorem rsyms_loop (l : List S62) (hn : l.length ≤ 1000000) (hf : Fine62 l) (d : Nat) : ∀ (i : Nat), i + d = l.length → Ev (fun k => emulatorref28_symbols.l0 k l (i : Int)) (symsR (namesOf (l.take i)) (l.drop i)) := by
  induction d with
  | zero =>
    intro i hi
    rw [List.drop_eq_nil_of_le (by omega)]
    exact Ev.step (f := fun _ => some 0) (fun k => by rw [emulatorref28_symbols.l0, if_neg (by omega)]) (Ev.now _)
  | succ d ih =>
    intro i hi
    have hlt : i < l.length := by omega
    have h1 := ih (i + 1) (by omega)
    have h2 := rsyms_tail l hn i hlt _ h1 i 0 (by omega)
    rw [List.drop_zero] at h2
    rw [List.drop_eq_getElem_cons hlt]
    unfold symsR
    refine Ev.step (f := fun k => (emulatorref28_IsName.f k l[i].f0).bind fun t => (if t = true then emulatorref28_symbols.l1 k l (i : Int) 0 else some 4)) (fun k => ?_) ?_
    · rw [emulatorref28_symbols.l0, if_pos (by omega), if_pos (by omega), rd62 l i hlt]
    · refine Ev.bind (rname_is _ (hf _ (List.getElem_mem hlt))) ?_
      refine Ev.ite (fun h => ?_) (fun h => ?_)
      · rw [if_pos h]
        have e : namesOf (l.take (i + 1)) = namesOf (l.take i) ++ [bs l[i].f0] := by
          unfold namesOf; rw [List.take_succ_eq_append_getElem hlt, List.map_append]; rfl
        rw [e] at h2
        exact h2
      · rw [if_neg h]; exact Ev.now _
theorem rsyms_is (l : List S62) (hn : l.length ≤ 1000000) (hf : Fine62 l) : Ev (fun k => emulatorref28_symbols.f k l) (symsR [] l) := by
  have := rsyms_loop l hn hf l.length 0 (by omega)
  rw [List.drop_zero] at this
  exact this
theorem rrel_j3 (x : S43) (hs : x.f3.size ≤ 9223372036854775806) (b : Bool) : Ev (fun k => emulatorref28_reloc.j3 k b x.f0 x.f1 x.f2 x.f3 x.f4) (if b = true then 2 else if x.f2 = 4 then (if isNm x.f3 = true then 0 else 4) else (if bs x.f3 = [] then 0 else 4)) := by
  refine Ev.step (f := fun k => if b = true then some 2 else (if x.f2 = 4 then ((emulatorref28_IsName.f k x.f3).bind fun t => (if t = true then some 0 else some 4)) else (if bs x.f3 = [] then some 0 else some 4))) (fun k => by rw [emulatorref28_reloc.j3, toList_bs]) ?_
  refine Ev.ite (fun h => ?_) (fun h => ?_)
  · rw [if_pos h]; exact Ev.now _
  · rw [if_neg h]
    refine Ev.ite (fun h => ?_) (fun h => ?_)
    · rw [if_pos h]
      refine Ev.bind (rname_is _ hs) ?_
      refine Ev.ite (fun h => ?_) (fun h => ?_)
      · rw [if_pos h]; exact Ev.now _
      · rw [if_neg h]; exact Ev.now _
    · rw [if_neg h]
      refine Ev.ite (fun h => ?_) (fun h => ?_)
      · rw [if_pos h]; exact Ev.now _
      · rw [if_neg h]; exact Ev.now _
theorem rrel_j2 (x : S43) (hs : x.f3.size ≤ 9223372036854775806) (b : Bool) : Ev (fun k => emulatorref28_reloc.j2 k b x.f0 x.f1 x.f2 x.f3 x.f4) (if b = true then 2 else if x.f2 < 0 ∨ x.f2 > 4 ∨ (x.f2 = 0 ∧ x.f4 = false) then 2 else if x.f2 = 4 then (if isNm x.f3 = true then 0 else 4) else (if bs x.f3 = [] then 0 else 4)) := by
  have e := fun b' => rrel_j3 x hs b'
  refine Ev.step (fun k => by rw [emulatorref28_reloc.j2]) ?_
  refine Ev.ite (fun h => ?_) (fun h => ?_)
  · rw [if_pos h]; exact Ev.now _
  · rw [if_neg h]
    refine Ev.ite (fun h => ?_) (fun h => Ev.ite (fun h2 => ?_) (fun h2 => Ev.ite (fun h3 => ?_) (fun h3 => ?_)))
    · rw [if_pos (by omega)]; exact e true
    · rw [if_pos (by omega)]; exact e true
    · cases h4 : x.f4 with
      | true => rw [if_neg (by simp; omega)]; simpa [h4] using e false
      | false => rw [if_pos (by simp [h3])]; simpa [h4] using e true
    · rw [if_neg (by omega)]; exact e false
theorem rrel_j1 (x y : S43) (hs : x.f3.size ≤ 9223372036854775806) (b : Bool) : Ev (fun k => emulatorref28_reloc.j1 k b x.f0 x.f1 x.f2 x.f3 x.f4 y.f0 y.f1 y.f2 y.f3 y.f4) (if b = true then 2 else if x.f0 < y.f0 ∨ (x.f0 = y.f0 ∧ x.f1 ≤ y.f1) then 2 else if x.f2 < 0 ∨ x.f2 > 4 ∨ (x.f2 = 0 ∧ x.f4 = false) then 2 else if x.f2 = 4 then (if isNm x.f3 = true then 0 else 4) else (if bs x.f3 = [] then 0 else 4)) := by
  have e := fun b' => rrel_j2 x hs b'
  refine Ev.step (fun k => by rw [emulatorref28_reloc.j1]) ?_
  refine Ev.ite (fun h => ?_) (fun h => ?_)
  · rw [if_pos h]; exact Ev.now _
  · rw [if_neg h]
    refine Ev.ite (fun h => ?_) (fun h => Ev.ite (fun h2 => ?_) (fun h2 => ?_))
    · rw [if_pos (by omega)]; exact e true
    · by_cases h3 : x.f1 ≤ y.f1
      · rw [if_pos (by omega), decide_eq_true (show y.f1 ≥ x.f1 from h3)]; exact e true
      · rw [if_neg (by omega), decide_eq_false (show ¬ y.f1 ≥ x.f1 from h3)]; exact e false
    · rw [if_neg (by omega)]; exact e false
theorem rrel_j0 (sz : Int) (x y : S43) (hs : x.f3.size ≤ 9223372036854775806) : Ev (fun k => emulatorref28_reloc.j0 k sz x.f0 x.f1 x.f2 x.f3 x.f4 y.f0 y.f1 y.f2 y.f3 y.f4) (if x.f0 ≠ 1 ∧ x.f0 ≠ 2 then 2 else relT sz x y) := by
  have e := fun b' => rrel_j1 x y hs b'
  unfold relT
  refine Ev.step (fun k => by rw [emulatorref28_reloc.j0]) ?_
  have key : ∀ (q : Prop) [Decidable q], ¬ (x.f0 ≠ 1 ∧ x.f0 ≠ 2) → Ev (fun k => if x.f1 < 0 then emulatorref28_reloc.j1 k true x.f0 x.f1 x.f2 x.f3 x.f4 y.f0 y.f1 y.f2 y.f3 y.f4 else (if (Int.tmod x.f1 2) = 0 then emulatorref28_reloc.j1 k (decide (x.f1 > (wrap64 (sz - 2)))) x.f0 x.f1 x.f2 x.f3 x.f4 y.f0 y.f1 y.f2 y.f3 y.f4 else emulatorref28_reloc.j1 k true x.f0 x.f1 x.f2 x.f3 x.f4 y.f0 y.f1 y.f2 y.f3 y.f4))
      (if x.f0 ≠ 1 ∧ x.f0 ≠ 2 then 2 else if x.f1 < 0 ∨ Int.tmod x.f1 2 ≠ 0 ∨ x.f1 > wrap64 (sz - 2) then 2 else if x.f0 < y.f0 ∨ (x.f0 = y.f0 ∧ x.f1 ≤ y.f1) then 2 else if x.f2 < 0 ∨ x.f2 > 4 ∨ (x.f2 = 0 ∧ x.f4 = false) then 2 else if x.f2 = 4 then (if isNm x.f3 = true then 0 else 4) else (if bs x.f3 = [] then 0 else 4)) := by
    intro q _ hq
    rw [if_neg hq]
    refine Ev.ite (fun h => ?_) (fun h => Ev.ite (fun h2 => ?_) (fun h2 => ?_))
    · rw [if_pos (by omega)]; exact e true
    · by_cases h3 : x.f1 > wrap64 (sz - 2)
      · rw [if_pos (by omega), decide_eq_true h3]; exact e true
      · rw [if_neg (by omega), decide_eq_false h3]; exact e false
    · rw [if_pos (by omega)]; exact e true
  refine Ev.ite (fun h => key True (by omega)) (fun h => Ev.ite (fun h2 => key True (by omega)) (fun h2 => ?_))
  rw [if_pos (by omega)]; exact e true
theorem rrel_is (a0 a1 a2 : ByteArray) (a3 : Int) (l4 : List S62) (l5 : List S43) (x y : S43) (hs : x.f3.size ≤ 9223372036854775806) :
    Ev (fun k => emulatorref28_reloc.f k a0 a1 a2 a3 l4 l5 x.f0 x.f1 x.f2 x.f3 x.f4 y.f0 y.f1 y.f2 y.f3 y.f4) (relR (a1.size : Int) (a2.size : Int) x y) := by
  unfold emulatorref28_reloc.f relR
  refine Ev.ite (fun h => ?_) (fun h => ?_)
  · rw [if_pos h]; exact rrel_j0 _ x y hs
  · rw [if_neg h]; exact rrel_j0 _ x y hs
theorem rcheck_l0 (a0 a1 a2 : ByteArray) (a3 : Int) (l4 : List S62) (l5 : List S43) (hn : l5.length ≤ 1000000) (hf : Fine43 l5) (d : Nat) : ∀ (i : Nat) (b : S43), i + d = l5.length →
    Ev (fun k => emulatorref28_Check.l0 k (i : Int) a0 a1 a2 a3 l4 l5 b.f0 b.f1 b.f2 b.f3 b.f4) (relsR (a1.size : Int) (a2.size : Int) b (l5.drop i)) := by
  induction d with
  | zero =>
    intro i b hi
    rw [List.drop_eq_nil_of_le (by omega)]
    exact Ev.step (f := fun _ => some 0) (fun k => by rw [emulatorref28_Check.l0, if_neg (by omega)]) (Ev.now _)
  | succ d ih =>
    intro i b hi
    have hlt : i < l5.length := by omega
    rw [List.drop_eq_getElem_cons hlt]
    unfold relsR
    refine Ev.step (fun k => by rw [emulatorref28_Check.l0, if_pos (by omega), if_pos (by omega), rd43 l5 i hlt, i64_nat i (by omega)]) ?_
    refine Ev.bind (rrel_is a0 a1 a2 a3 l4 l5 l5[i] b (hf _ (List.getElem_mem hlt))) ?_
    refine Ev.ite (fun h => ?_) (fun h => ?_)
    · rw [if_pos h]; exact ih (i + 1) l5[i] (by omega)
    · rw [if_neg h]; exact Ev.now _
theorem rcheck_j1 (a0 a1 a2 : ByteArray) (a3 : Int) (l4 : List S62) (l5 : List S43) (hf : Fine a0 l4 l5) (b : Bool) (h4 : l4.length ≤ 1000000) (h5 : l5.length ≤ 1000000) :
    Ev (fun k => emulatorref28_Check.j1 k b a0 a1 a2 a3 l4 l5) (if b = true then 1 else if symsR [] l4 = 0 then relsR (a1.size : Int) (a2.size : Int) b0 l5 else symsR [] l4) := by
  refine Ev.step (fun k => by rw [emulatorref28_Check.j1]) ?_
  refine Ev.ite (fun h => ?_) (fun h => ?_)
  · rw [if_pos h]; exact Ev.now _
  · rw [if_neg h]
    refine Ev.bind (rsyms_is l4 h4 hf.h4) ?_
    refine Ev.ite (fun h => ?_) (fun h => ?_)
    · rw [if_pos h]
      have := rcheck_l0 a0 a1 a2 a3 l4 l5 h5 hf.h5 l5.length 0 b0 (by omega)
      rw [List.drop_zero] at this
      exact this
    · rw [if_neg h]; exact Ev.now _
theorem rcheck_j0 (a0 a1 a2 : ByteArray) (a3 : Int) (l4 : List S62) (l5 : List S43) (hf : Fine a0 l4 l5) (b : Bool) (h4 : l4.length ≤ 1000000) (h5 : l5.length ≤ 1000000) :
    Ev (fun k => emulatorref28_Check.j0 k b a0 a1 a2 a3 l4 l5) (if b = true then 7 else if a1.size % 2 ≠ 0 ∨ a3 < 0 then 1 else if symsR [] l4 = 0 then relsR (a1.size : Int) (a2.size : Int) b0 l5 else symsR [] l4) := by
  have e := fun b => rcheck_j1 a0 a1 a2 a3 l4 l5 hf b h4 h5
  refine Ev.step (fun k => by rw [emulatorref28_Check.j0]) ?_
  refine Ev.ite (fun h => ?_) (fun h => ?_)
  · rw [if_pos h]; exact Ev.now _
  · rw [if_neg h]
    refine Ev.ite (fun h => ?_) (fun h => ?_)
    · by_cases h2 : a3 < 0
      · rw [if_pos (by omega), decide_eq_true h2]; exact e true
      · rw [if_neg (by omega), decide_eq_false h2]; exact e false
    · rw [if_pos (by omega)]; exact e true
theorem rcheck_is (a0 a1 a2 : ByteArray) (a3 : Int) (l4 : List S62) (l5 : List S43) (hf : Fine a0 l4 l5) (h4 : l4.length ≤ 1000000) (h5 : l5.length ≤ 1000000) :
    Ev (fun k => emulatorref28_Check.f k a0 a1 a2 a3 l4 l5) (checkR a0 a1 a2 a3 l4 l5) := by
  have e := fun b => rcheck_j0 a0 a1 a2 a3 l4 l5 hf b h4 h5
  unfold emulatorref28_Check.f checkR
  refine Ev.bind (rname_is a0 hf.h0) ?_
  refine Ev.ite (fun h => ?_) (fun h => ?_)
  · rw [if_pos h]
    refine Ev.ite (fun h => ?_) (fun h1 => Ev.ite (fun h => ?_) (fun h2 => Ev.ite (fun h => ?_) (fun h3 => Ev.ite (fun h => ?_) (fun h6 => ?_))))
    · rw [if_pos (by omega)]; exact e true
    · rw [if_pos (by omega)]; exact e true
    · rw [if_pos (by omega)]; exact e true
    · rw [if_pos (by omega)]; exact e true
    · by_cases h7 : (l5.length : Int) > 2048
      · rw [if_pos (by omega), decide_eq_true h7]; exact e true
      · rw [if_neg (by omega), decide_eq_false h7]; exact e false
  · rw [if_neg h]; exact Ev.now _
end Go.Proofs.Ytenlmckahaniiaa.Obj
end
section
set_option linter.unusedVariables false
set_option linter.unusedSimpArgs false
namespace Go.Proofs.Ytenlmckahaniiaa.Obj
open Go Go.RowKit Go.Proofs.Ytenlmckahaniiaa.K Go.Proofs.YtenlmckahaniiaaW.PrintWords Go.Proofs.YtenlmckahaniiaaW.PrintMore Go.Proofs.Ytenlmckahaniiaa.MyBits Go.Proofs.Ytenlmckahaniiaa.MyStr Go.Proofs.Ytenlmckahaniiaa.Oct
theorem rput1_is (n : Int) (h : 0 ≤ n) (h1 : n ≤ 9223372036854775807) : Ev (fun k => emulatorref03_Put.f k n 1) (mkS (le n 1)) := by
  have := rput_is n 1 h1
  rwa [mx_id h] at this
theorem rput2_is (n : Int) (h : 0 ≤ n) (h1 : n ≤ 9223372036854775807) : Ev (fun k => emulatorref03_Put.f k n 2) (mkS (le n 2)) := by
  have := rput_is n 2 h1
  rwa [mx_id h] at this
theorem rbit_is (b : Bool) : Ev (fun k => emulatorref28_bit.f k b) (mkS (bitB b)) := by
  unfold emulatorref28_bit.f
  cases b with
  | true => exact Ev.congr (fun k => if_pos rfl) (Ev.bind (rput1_is 1 (by decide) (by decide)) (Ev.now _))
  | false => exact Ev.congr (fun k => if_neg (by decide)) (Ev.bind (rput1_is 0 (by decide) (by decide)) (Ev.now _))
theorem rsyms_l0 (l : List S62) (hV : ∀ s ∈ l, SymV s) (hn : l.length ≤ 256) (P : List UInt8) (hP : P.length ≤ 1000000) (d : Nat) : ∀ i : Nat, i + d = l.length →
    Ev (fun k => emulatorref28_PutSymbols.l0 k l (mkS (P ++ symsB (l.take i))) (i : Int)) (mkS (P ++ symsB l)) := by
  induction d with
  | zero =>
    intro i hi
    rw [List.take_of_length_le (by omega)]
    exact Ev.step (f := fun _ => some _) (fun k => by rw [emulatorref28_PutSymbols.l0, if_neg (by omega)]) (Ev.now _)
  | succ d ih =>
    intro i hi
    have hlt : i < l.length := by omega
    have hs := hV _ (List.getElem_mem hlt)
    have h1 := symsB_length (l.take i)
    have h2 := symB_length l[i]
    have h3 := putT_length (bs l[i].f0)
    have v1 := hs.h1
    have v2 := hs.h2
    rw [List.length_take] at h1
    have hI := ih (i + 1) (by omega)
    rw [symsB_take l i hlt, ← List.append_assoc] at hI
    refine Ev.step (fun k => by rw [emulatorref28_PutSymbols.l0, if_pos (by omega), if_pos (by omega), rd62 l i hlt, i64_nat i (by omega)]) ?_
    refine Ev.bind (rputText_is _ (by have := hs.len; omega)) (Ev.bind (rput1_is _ hs.h1.1 (by omega)) ?_)
    refine Ev.congr (fun k => if_pos (by rw [mkS_size, mkS_size, le_length]; omega)) ?_
    refine Ev.bind (rput2_is _ hs.h2.1 (by omega)) ?_
    rw [mkS_append]
    refine Ev.congr (fun k => if_pos (by rw [mkS_size, mkS_size, List.length_append, le_length, le_length]; omega)) ?_
    refine Ev.bind (rbit_is _) ?_
    rw [mkS_append, mkS_append, mkS_append]
    refine Ev.congr (fun k => if_pos (by rw [mkS_size, mkS_size, List.length_append, List.length_append, le_length, le_length, show (bitB l[i].f3).length = 1 from rfl]; omega)) ?_
    refine Ev.congr (fun k => if_pos ?_) hI
    rw [mkS_size, mkS_size, List.length_append]
    unfold symB at h2
    omega
theorem rrels_l0 (m : Md) (hV : ∀ s ∈ m.l5, RelV s) (hn : m.l5.length ≤ 2048) (P : List UInt8) (hP : P.length ≤ 100000000) (d : Nat) : ∀ i : Nat, i + d = m.l5.length →
    Ev (fun k => emulatorref28_Encode.l0 k (mkS (P ++ relsB (m.l5.take i))) (i : Int) m.a0 m.a1 m.a2 m.a3 m.l4 m.l5) (mkS (seal_ (P ++ relsB m.l5)), 0) := by
  have hL := relsB_length m.l5
  induction d with
  | zero =>
    intro i hi
    rw [List.take_of_length_le (by omega)]
    refine Ev.step (fun k => by rw [emulatorref28_Encode.l0, if_neg (by omega)]) ?_
    refine Ev.bind (rseal_is _ (by rw [mkS_size, List.length_append]; omega)) ?_
    rw [bs_mkS]
    exact Ev.now _
  | succ d ih =>
    intro i hi
    have hlt : i < m.l5.length := by omega
    have hs := hV _ (List.getElem_mem hlt)
    have h1 := relsB_length (m.l5.take i)
    have h2 := relB_length m.l5[i]
    have h3 := putT_length (bs m.l5[i].f3)
    have hs0 := hs.h0
    have hs1 := hs.h1
    have hs2 := hs.h2
    rw [List.length_take] at h1
    have hI := ih (i + 1) (by omega)
    rw [relsB_take m.l5 i hlt, ← List.append_assoc] at hI
    refine Ev.step (fun k => by rw [emulatorref28_Encode.l0, if_pos (by omega), if_pos (by omega), rd43 m.l5 i hlt, i64_nat i (by omega)]) ?_
    refine Ev.bind (rput1_is _ (by omega) (by omega)) (Ev.bind (rput2_is _ hs.h1.1 (by omega)) ?_)
    refine Ev.congr (fun k => if_pos (by rw [mkS_size, mkS_size, le_length, le_length]; omega)) ?_
    refine Ev.bind (rput1_is _ hs.h2.1 (by omega)) ?_
    rw [mkS_append]
    refine Ev.congr (fun k => if_pos (by rw [mkS_size, mkS_size, List.length_append, le_length, le_length, le_length]; omega)) ?_
    refine Ev.bind (rputText_is _ (by have := hs.len; omega)) ?_
    rw [mkS_append]
    refine Ev.congr (fun k => if_pos (by rw [mkS_size, mkS_size, List.length_append, List.length_append, le_length, le_length, le_length]; omega)) ?_
    refine Ev.bind (rbit_is _) ?_
    rw [mkS_append, mkS_append, mkS_append]
    refine Ev.congr (fun k => if_pos (by rw [mkS_size, mkS_size, List.length_append, List.length_append, List.length_append, le_length, le_length, le_length, show (bitB m.l5[i].f4).length = 1 from rfl]; omega)) ?_
    refine Ev.congr (fun k => if_pos ?_) hI
    rw [mkS_size, mkS_size, List.length_append]
    unfold relB at h2
    omega
theorem rcheck_m {m : Md} (hf : Fine m.a0 m.l4 m.l5) (h4 : m.l4.length ≤ 1000000) (h5 : m.l5.length ≤ 1000000) : Ev (fun k => emulatorref28_Check.f k m.a0 m.a1 m.a2 m.a3 m.l4 m.l5) m.check := rcheck_is _ _ _ _ _ _ hf h4 h5
theorem rencode_is {m : Md} (hf : Fine m.a0 m.l4 m.l5) (h4 : m.l4.length ≤ 1000000) (h5 : m.l5.length ≤ 1000000) : Ev (fun k => emulatorref28_Encode.f k m.a0 m.a1 m.a2 m.a3 m.l4 m.l5) (mkS (encR m).1, (encR m).2) := by
  unfold emulatorref28_Encode.f encR
  refine Ev.bind (rcheck_m hf h4 h5) ?_
  by_cases h : m.check = 0
  · have hV := valid_of h
    have hh := headB_length m
    have n4 := hV.n4
    have n5 := hV.n5
    have hsl := symsB_length m.l4
    have l0 := putT_length (bs m.a0)
    have l1 := putT_length (bs m.a1)
    have l2 := putT_length (bs m.a2)
    have v3 := hV.h3
    rw [if_pos h]
    refine Ev.congr (fun k => if_pos h) ?_
    have hO : (⟨#[79, 66, 74, 49]⟩ : ByteArray) = mkS [79, 66, 74, 49] := rfl
    have hO4 : (([79, 66, 74, 49] : List UInt8)).length = 4 := rfl
    refine Ev.bind (rputText_is _ (by have := (nm_len hV.h0).2; omega)) ?_
    refine Ev.congr (fun k => if_pos (by rw [mkS_size]; omega)) ?_
    refine Ev.bind (rputText_is _ (by have := hV.h1.1; omega)) ?_
    rw [hO, mkS_append]
    refine Ev.congr (fun k => if_pos (by rw [mkS_size, mkS_size, List.length_append, hO4]; omega)) ?_
    refine Ev.bind (rputText_is _ (by have := hV.h2; omega)) ?_
    rw [mkS_append]
    refine Ev.congr (fun k => if_pos (by rw [mkS_size, mkS_size, List.length_append, List.length_append, hO4]; omega)) ?_
    refine Ev.bind (rput2_is _ v3.1 (by omega)) ?_
    rw [mkS_append]
    refine Ev.congr (fun k => if_pos (by rw [mkS_size, mkS_size, List.length_append, List.length_append, List.length_append, hO4, le_length]; omega)) ?_
    have hs0 : Ev (fun k => emulatorref28_PutSymbols.f k m.l4) (mkS (le (m.l4.length : Int) 2 ++ symsB m.l4)) := by
      unfold emulatorref28_PutSymbols.f
      refine Ev.bind (rput2_is _ (by omega) (by omega)) ?_
      have h0 := rsyms_l0 m.l4 hV.h4 n4 (le (m.l4.length : Int) 2) (by rw [le_length]; omega) m.l4.length 0 (by omega)
      rw [List.take_zero, show symsB [] = [] from rfl, List.append_nil] at h0
      exact h0
    refine Ev.bind hs0 ?_
    rw [mkS_append]
    have e1 : [79, 66, 74, 49] ++ putT (bs m.a0) ++ putT (bs m.a1) ++ putT (bs m.a2) ++ le m.a3 2 = headB m := rfl
    rw [e1]
    refine Ev.congr (fun k => if_pos (by rw [mkS_size, mkS_size, List.length_append, le_length]; omega)) ?_
    refine Ev.bind (rput2_is _ (by omega) (by omega)) ?_
    rw [mkS_append, mkS_append, ← List.append_assoc]
    refine Ev.congr (fun k => if_pos (by rw [mkS_size, mkS_size, List.length_append, List.length_append, le_length, le_length]; omega)) ?_
    have h1 := rrels_l0 m hV.h5 n5 (headB m ++ le (m.l4.length : Int) 2 ++ symsB m.l4 ++ le (m.l5.length : Int) 2) (by rw [List.length_append, List.length_append, List.length_append, le_length, le_length]; omega) m.l5.length 0 (by omega)
    rw [List.take_zero, show relsB [] = [] from rfl, List.append_nil] at h1
    exact h1
  · rw [if_neg h]
    exact Ev.congr (fun k => if_neg h) (Ev.now _)
end Go.Proofs.Ytenlmckahaniiaa.Obj
end
