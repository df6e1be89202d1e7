/- object: the program's Check answers so. -/
import Derived.Test.YtenlmckahaniiaaMyObS
import Derived.Test.YtenlmckahaniiaaKx4
import Derived.Test.YtenlmckahaniiaaKx5
import Derived.Test.YtenlmckahaniiaaKx6
import Derived.Test.YtenlmckahaniiaaKx7
import Derived.Test.YtenlmckahaniiaaKx8
set_option linter.unusedVariables false
set_option linter.unusedSimpArgs false
namespace Go.Proofs.Ytenlmckahaniiaa.Obj
open Go Go.RowKit Go.Proofs.Ytenlmckahaniiaa.K Go.Proofs.YtenlmckahaniiaaW.PrintWords Go.Proofs.YtenlmckahaniiaaW.PrintMore Go.Proofs.Ytenlmckahaniiaa.MyBits Go.Proofs.Ytenlmckahaniiaa.MyStr Go.Proofs.Ytenlmckahaniiaa.Oct

theorem idx3 : ∀ c : Fin 256, decide (idxB (⟨#[95, 46, 36]⟩ : ByteArray) (c.val : Int) ≥ 0) = (decide ((c.val : Int) = 95) || decide ((c.val : Int) = 46) || decide ((c.val : Int) = 36)) := by decide +kernel
theorem idx3i (c : Int) (h0 : 0 ≤ c) (h1 : c < 256) : (idxB (⟨#[95, 46, 36]⟩ : ByteArray) c ≥ 0) ↔ (c = 95 ∨ c = 46 ∨ c = 36) := by
  have := idx3 ⟨c.toNat, by omega⟩
  simp only at this
  rw [show ((c.toNat : Nat) : Int) = c by omega] at this
  have h2 := Bool.eq_iff_iff.1 this
  simp only [decide_eq_true_eq, Bool.or_eq_true] at h2
  rw [h2, or_assoc]
theorem isName_step (k : Nat) (y : List Int) (n i : Int) (h0 : 0 ≤ i) (h1 : i < n) (h2 : i < (y.length : Int)) (r0 : 0 ≤ rd y i) (r1 : rd y i < 256) :
    object_isName.l0 (k + 1) y n i = if okc (rd y i) = true then object_isName.l0 k y n (wrap64 (i + 1)) else some false := by
  rw [object_isName.l0, if_pos h1, if_pos h0, if_pos h2]
  have e := idx3i (rd y i) r0 r1
  unfold strings_IndexByte.f
  simp only [Option.bind_some]
  generalize rd y i = c at *
  unfold okc
  simp only [Bool.or_eq_true, Bool.and_eq_true, decide_eq_true_eq]
  repeat' split
  all_goals first
    | rfl
    | (exfalso; omega)
theorem isName_loop (l : List UInt8) (hl : l.length < 9223372036854775807) (d : Nat) : ∀ i : Nat, i + d = l.length → Ev (fun k => object_isName.l0 k (ints l) (l.length : Int) (i : Int)) (((ints l).drop i).all okc) := by
  induction d with
  | zero =>
    intro i hi
    refine Ev.step (f := fun _ => some true) (fun k => by rw [object_isName.l0, if_neg (by omega)]) ?_
    rw [List.drop_eq_nil_of_le (by rw [ints_length]; omega)]
    exact Ev.now _
  | succ d ih =>
    intro i hi
    obtain ⟨e, r0, r1⟩ := rd_ints l i (by omega)
    refine Ev.step (f := fun k => if okc (rd (ints l) (i : Int)) = true then object_isName.l0 k (ints l) (l.length : Int) ((i + 1 : Nat) : Int) else some false) (fun k => by rw [isName_step k _ _ _ (by omega) (by omega) (by rw [ints_length]; omega) r0 r1, i64_nat i (by omega)]) ?_
    rw [drop_all _ _ _ (by rw [ints_length]; omega)]
    refine Ev.ite (fun h => ?_) (fun h => ?_)
    · rw [h, Bool.true_and]
      exact ih (i + 1) (by omega)
    · rw [Bool.not_eq_true] at h
      rw [h, Bool.false_and]
      exact Ev.now _
theorem isName_is (s : ByteArray) (hs : s.size ≤ 9223372036854775806) : Ev (fun k => object_isName.f k s) (isNm s) := by
  have hall : Ev (fun k => object_isName.j0 k s false) ((ints (bs s)).all okc) := by
    refine Ev.step (f := fun k => object_isName.l0 k (ints (bs s)) ((bs s).length : Int) 0) (fun k => ?_) (by have := isName_loop (bs s) (by rw [bs_length]; omega) (bs s).length 0 (by omega); simpa using this)
    rw [object_isName.j0, if_neg (by decide), if_pos (by omega)]
    simp only [Option.bind_some]
    rw [show bytesOf s = ints (bs s) from rfl, ints_length]
  have hno : Ev (fun k => object_isName.j0 k s true) false := Ev.step (f := fun _ => some false) (fun k => by rw [object_isName.j0, if_pos rfl]) (Ev.now _)
  unfold object_isName.f isNm nameL
  refine Ev.ite (fun h => ?_) (fun h => ?_)
  · rw [toList_nil] at h
    rw [h]; exact hno
  · rw [toList_nil] at h
    have hp : 0 < s.size := by rw [← bs_length]; exact List.length_pos_iff.2 h
    rw [decide_eq_true h, Bool.true_and, bs_length]
    refine Ev.ite (fun h1 => ?_) (fun h1 => ?_)
    · rw [decide_eq_false (show ¬ s.size ≤ 14 by omega)]; exact hno
    · rw [decide_eq_true (show s.size ≤ 14 by omega), Bool.true_and, ← show bt s 0 = byteAt (bs s) 0 from bt_bs s 0]
      refine Ev.congr (fun k => if_pos (by omega)) ?_
      refine Ev.ite (fun h2 => ?_) (fun h2 => ?_)
      · rw [decide_eq_true (show 48 ≤ bt s 0 from h2), Bool.true_and]
        by_cases h3 : bt s 0 ≤ 57
        · rw [decide_eq_true h3]; exact hno
        · rw [decide_eq_false h3]; exact hall
      · rw [decide_eq_false (show ¬ 48 ≤ bt s 0 from h2), Bool.false_and]; exact hall
theorem syms_loop (l : List S62) (hn : l.length ≤ 1000000) (hf : Fine62 l) (d : Nat) : ∀ (i : Nat) (m : List (List UInt8)), i + d = l.length → m.length ≤ i → Ev (fun k => object_checkSymbols.l0 k l m (i : Int)) (symsR m (l.drop i)) := by
  induction d with
  | zero =>
    intro i m hi _
    rw [List.drop_eq_nil_of_le (by omega)]
    exact Ev.step (f := fun _ => some 0) (fun k => by rw [object_checkSymbols.l0, if_neg (by omega)]) (Ev.now _)
  | succ d ih =>
    intro i m hi hm
    have hlt : i < l.length := by omega
    rw [List.drop_eq_getElem_cons hlt]
    unfold symsR
    refine Ev.step (f := fun k => (object_isName.f k l[i].f0).bind fun t => (if t = true then (if bs l[i].f0 ∈ m then some 6 else (if symOk l[i] = true then object_checkSymbols.l0 k l (m ++ [bs l[i].f0]) ((i + 1 : Nat) : Int) else some 2)) else some 4)) (fun k => ?_) ?_
    · rw [object_checkSymbols.l0, if_pos (by omega), if_pos (by omega), rd62 l i hlt, if_pos (show m.length < 1000000 by omega), i64_nat i (by omega)]
      rfl
    · refine Ev.bind (isName_is _ (hf _ (List.getElem_mem hlt))) ?_
      refine Ev.eq (Ev.ite (r := if isNm l[i].f0 = true then (if bs l[i].f0 ∈ m then 6 else if symOk l[i] = true then symsR (m ++ [bs l[i].f0]) (l.drop (i + 1)) else 2) else 4) (fun h => ?_) (fun h => ?_)) rfl
      · rw [if_pos h]
        refine Ev.ite (fun h2 => ?_) (fun h2 => ?_)
        · rw [if_pos h2]; exact Ev.now _
        · rw [if_neg h2]
          refine Ev.ite (fun h3 => ?_) (fun h3 => ?_)
          · rw [if_pos h3]
            exact ih (i + 1) _ (by omega) (by simp; omega)
          · rw [if_neg h3]; exact Ev.now _
      · rw [if_neg h]; exact Ev.now _
theorem syms_is (l : List S62) (hn : l.length ≤ 1000000) (hf : Fine62 l) : Ev (fun k => object_checkSymbols.f k l) (symsR [] l) := by
  have := syms_loop l hn hf l.length 0 [] (by omega) (Nat.le_refl _)
  rw [List.drop_zero] at this
  exact this
theorem rel_j3 (x : S43) (hs : x.f3.size ≤ 9223372036854775806) (b : Bool) : Ev (fun k => object_checkReloc.j3 k b x.f0 x.f1 x.f2 x.f3 x.f4) (if b = true then 2 else if x.f2 = 4 then (if isNm x.f3 = true then 0 else 4) else (if bs x.f3 = [] then 0 else 4)) := by
  refine Ev.step (f := fun k => if b = true then some 2 else (if x.f2 = 4 then ((object_isName.f k x.f3).bind fun t => (if t = true then some 0 else some 4)) else (if bs x.f3 = [] then some 0 else some 4))) (fun k => by rw [object_checkReloc.j3, toList_bs]) ?_
  refine Ev.ite (fun h => ?_) (fun h => ?_)
  · rw [if_pos h]; exact Ev.now _
  · rw [if_neg h]
    refine Ev.ite (fun h => ?_) (fun h => ?_)
    · rw [if_pos h]
      refine Ev.bind (isName_is _ hs) ?_
      refine Ev.ite (fun h => ?_) (fun h => ?_)
      · rw [if_pos h]; exact Ev.now _
      · rw [if_neg h]; exact Ev.now _
    · rw [if_neg h]
      refine Ev.ite (fun h => ?_) (fun h => ?_)
      · rw [if_pos h]; exact Ev.now _
      · rw [if_neg h]; exact Ev.now _
theorem rel_j2 (x : S43) (hs : x.f3.size ≤ 9223372036854775806) (b : Bool) : Ev (fun k => object_checkReloc.j2 k b x.f0 x.f1 x.f2 x.f3 x.f4) (if b = true then 2 else if x.f2 < 0 ∨ x.f2 > 4 ∨ (x.f2 = 0 ∧ x.f4 = false) then 2 else if x.f2 = 4 then (if isNm x.f3 = true then 0 else 4) else (if bs x.f3 = [] then 0 else 4)) := by
  have e := fun b' => rel_j3 x hs b'
  refine Ev.step (fun k => by rw [object_checkReloc.j2]) ?_
  refine Ev.ite (fun h => ?_) (fun h => ?_)
  · rw [if_pos h]; exact Ev.now _
  · rw [if_neg h]
    refine Ev.ite (fun h => ?_) (fun h => Ev.ite (fun h2 => ?_) (fun h2 => Ev.ite (fun h3 => ?_) (fun h3 => ?_)))
    · rw [if_pos (by omega)]; exact e true
    · rw [if_pos (by omega)]; exact e true
    · cases h4 : x.f4 with
      | true => rw [if_neg (by simp; omega)]; simpa [h4] using e false
      | false => rw [if_pos (by simp [h3])]; simpa [h4] using e true
    · rw [if_neg (by omega)]; exact e false
theorem rel_j1 (x y : S43) (hs : x.f3.size ≤ 9223372036854775806) (b : Bool) : Ev (fun k => object_checkReloc.j1 k b x.f0 x.f1 x.f2 x.f3 x.f4 y.f0 y.f1 y.f2 y.f3 y.f4) (if b = true then 2 else if x.f0 < y.f0 ∨ (x.f0 = y.f0 ∧ x.f1 ≤ y.f1) then 2 else if x.f2 < 0 ∨ x.f2 > 4 ∨ (x.f2 = 0 ∧ x.f4 = false) then 2 else if x.f2 = 4 then (if isNm x.f3 = true then 0 else 4) else (if bs x.f3 = [] then 0 else 4)) := by
  have e := fun b' => rel_j2 x hs b'
  refine Ev.step (fun k => by rw [object_checkReloc.j1]) ?_
  refine Ev.ite (fun h => ?_) (fun h => ?_)
  · rw [if_pos h]; exact Ev.now _
  · rw [if_neg h]
    refine Ev.ite (fun h => ?_) (fun h => Ev.ite (fun h2 => ?_) (fun h2 => ?_))
    · rw [if_pos (by omega)]; exact e true
    · by_cases h3 : x.f1 ≤ y.f1
      · rw [if_pos (by omega), decide_eq_true h3]; exact e true
      · rw [if_neg (by omega), decide_eq_false h3]; exact e false
    · rw [if_neg (by omega)]; exact e false
theorem rel_j0 (sz : Int) (x y : S43) (hs : x.f3.size ≤ 9223372036854775806) : Ev (fun k => object_checkReloc.j0 k sz x.f0 x.f1 x.f2 x.f3 x.f4 y.f0 y.f1 y.f2 y.f3 y.f4) (relT sz x y) := by
  have e := fun b' => rel_j1 x y hs b'
  unfold relT
  refine Ev.step (fun k => by rw [object_checkReloc.j0]) ?_
  refine Ev.ite (fun h => ?_) (fun h => Ev.ite (fun h2 => ?_) (fun h2 => ?_))
  · rw [if_pos (by omega)]; exact e true
  · by_cases h3 : x.f1 > wrap64 (sz - 2)
    · rw [if_pos (by omega), decide_eq_true h3]; exact e true
    · rw [if_neg (by omega), decide_eq_false h3]; exact e false
  · rw [if_pos (by omega)]; exact e true
theorem rel_is (a0 a1 a2 : ByteArray) (a3 : Int) (l4 : List S62) (l5 : List S43) (x y : S43) (hs : x.f3.size ≤ 9223372036854775806) :
    Ev (fun k => object_checkReloc.f k a0 a1 a2 a3 l4 l5 x.f0 x.f1 x.f2 x.f3 x.f4 y.f0 y.f1 y.f2 y.f3 y.f4) (relR (a1.size : Int) (a2.size : Int) x y) := by
  unfold object_checkReloc.f relR
  refine Ev.ite (fun h => ?_) (fun h => Ev.ite (fun h2 => ?_) (fun h2 => ?_))
  · rw [if_neg (by omega), if_neg (show ¬ x.f0 = 2 by omega)]; exact rel_j0 _ x y hs
  · rw [if_neg (by omega), if_pos h2]; exact rel_j0 _ x y hs
  · rw [if_pos (by omega)]; exact Ev.now _
theorem check_l0 (a0 a1 a2 : ByteArray) (a3 : Int) (l4 : List S62) (l5 : List S43) (hn : l5.length ≤ 1000000) (hf : Fine43 l5) (d : Nat) : ∀ (i : Nat) (b : S43), i + d = l5.length →
    Ev (fun k => object_Check.l0 k l5 (l5.length : Int) (i : Int) a0 a1 a2 a3 l4 l5 b.f0 b.f1 b.f2 b.f3 b.f4) (relsR (a1.size : Int) (a2.size : Int) b (l5.drop i)) := by
  induction d with
  | zero =>
    intro i b hi
    rw [List.drop_eq_nil_of_le (by omega)]
    exact Ev.step (f := fun _ => some 0) (fun k => by rw [object_Check.l0, if_neg (by omega)]) (Ev.now _)
  | succ d ih =>
    intro i b hi
    have hlt : i < l5.length := by omega
    rw [List.drop_eq_getElem_cons hlt]
    unfold relsR
    refine Ev.step (fun k => by rw [object_Check.l0, if_pos (by omega), if_pos (by omega), if_pos (by omega), rd43 l5 i hlt, i64_nat i (by omega)]) ?_
    refine Ev.bind (rel_is a0 a1 a2 a3 l4 l5 l5[i] b (hf _ (List.getElem_mem hlt))) ?_
    refine Ev.ite (fun h => ?_) (fun h => ?_)
    · rw [if_pos h]; exact ih (i + 1) l5[i] (by omega)
    · rw [if_neg h]; exact Ev.now _
theorem check_j0 (a0 a1 a2 : ByteArray) (a3 : Int) (l4 : List S62) (l5 : List S43) (hf : Fine a0 l4 l5) (b : Bool) (h4 : l4.length ≤ 1000000) (h5 : l5.length ≤ 1000000) :
    Ev (fun k => object_Check.j0 k b a0 a1 a2 a3 l4 l5) (if b = true then 7 else if a1.size % 2 ≠ 0 ∨ a3 < 0 then 1 else if symsR [] l4 = 0 then relsR (a1.size : Int) (a2.size : Int) b0 l5 else symsR [] l4) := by
  refine Ev.step (fun k => by rw [object_Check.j0]) ?_
  refine Ev.ite (fun h => ?_) (fun h => ?_)
  · rw [if_pos h]; exact Ev.now _
  · rw [if_neg h]
    refine Ev.ite (fun h => Ev.ite (fun h2 => ?_) (fun h2 => ?_)) (fun h => ?_)
    · rw [if_pos (by omega)]; exact Ev.now _
    · rw [if_neg (by omega)]
      refine Ev.bind (syms_is l4 h4 hf.h4) ?_
      refine Ev.ite (fun h => ?_) (fun h => ?_)
      · rw [if_pos h]
        have := check_l0 a0 a1 a2 a3 l4 l5 h5 hf.h5 l5.length 0 b0 (by omega)
        rw [List.drop_zero] at this
        exact this
      · rw [if_neg h]; exact Ev.now _
    · rw [if_pos (by omega)]; exact Ev.now _
theorem check_is (a0 a1 a2 : ByteArray) (a3 : Int) (l4 : List S62) (l5 : List S43) (hf : Fine a0 l4 l5) (h4 : l4.length ≤ 1000000) (h5 : l5.length ≤ 1000000) :
    Ev (fun k => object_Check.f k a0 a1 a2 a3 l4 l5) (checkR a0 a1 a2 a3 l4 l5) := by
  have e := fun b => check_j0 a0 a1 a2 a3 l4 l5 hf b h4 h5
  unfold object_Check.f checkR
  refine Ev.bind (isName_is a0 hf.h0) ?_
  refine Ev.ite (fun h => ?_) (fun h => ?_)
  · rw [if_pos h]
    refine Ev.ite (fun h => ?_) (fun h1 => Ev.ite (fun h => ?_) (fun h2 => Ev.ite (fun h => ?_) (fun h3 => Ev.ite (fun h => ?_) (fun h6 => ?_))))
    · rw [if_pos (by omega)]; exact e true
    · rw [if_pos (by omega)]; exact e true
    · rw [if_pos (by omega)]; exact e true
    · rw [if_pos (by omega)]; exact e true
    · by_cases h7 : (l5.length : Int) > 2048
      · rw [if_pos (by omega), decide_eq_true h7]; exact e true
      · rw [if_neg (by omega), decide_eq_false h7]; exact e false
  · rw [if_neg h]; exact Ev.now _
end Go.Proofs.Ytenlmckahaniiaa.Obj
