/- Lemmas for the law ObjectDecodes: what its proof needs of this seat's texts, in one place. -/
import Derived.Test.YtenlmckahaniiaaZObjectDecodes12
import Derived.Test.YtenlmckahaniiaaZObjectDecodes20
import Derived.Test.YtenlmckahaniiaaZObjectDecodes22
section
set_option linter.unusedVariables false
set_option linter.unusedSimpArgs false
namespace Go.Proofs.Ytenlmckahaniiaa.Obj
open Go Go.RowKit Go.Proofs.Ytenlmckahaniiaa.K Go.Proofs.YtenlmckahaniiaaW.PrintWords Go.Proofs.YtenlmckahaniiaaW.PrintMore Go.Proofs.Ytenlmckahaniiaa.MyStr Go.Proofs.Ytenlmckahaniiaa.Oct
theorem lt_of_le_ne {a b : List UInt8} (h : a ≤ b) (hn : a ≠ b) : a < b := by
  rcases List.le_total b a with h2 | h2
  · exact absurd (List.le_antisymm h h2) hn
  · by_cases h3 : a < b
    · exact h3
    · exact absurd (List.le_antisymm h (List.not_lt.1 h3)) hn
theorem lt_of_le_lt {a b c : List UInt8} (h : a ≤ b) (h2 : b < c) : a < c := by
  refine lt_of_le_ne (List.le_trans h (List.le_of_lt h2)) (fun e => ?_)
  subst e
  have := List.le_antisymm h (List.le_of_lt h2)
  subst this
  exact List.lt_irrefl _ h2
def Asc (l : List (List UInt8)) : Prop := l.Pairwise (· < ·)
theorem Asc.unique {a b : List (List UInt8)} (ha : Asc a) (hb : Asc b) (h : ∀ x, x ∈ a ↔ x ∈ b) : a = b := by
  induction a generalizing b with
  | nil =>
    cases b with
    | nil => rfl
    | cons y b => exact absurd ((h y).2 List.mem_cons_self) (by simp)
  | cons x a ih =>
    cases b with
    | nil => exact absurd ((h x).1 List.mem_cons_self) (by simp)
    | cons y b =>
      obtain ⟨ha1, ha2⟩ := List.pairwise_cons.1 ha
      obtain ⟨hb1, hb2⟩ := List.pairwise_cons.1 hb
      have hxy : x = y := by
        rcases List.mem_cons.1 ((h x).1 List.mem_cons_self) with e | hx
        · exact e
        · rcases List.mem_cons.1 ((h y).2 List.mem_cons_self) with e | hy
          · exact e.symm
          · exact absurd (List.lt_trans (ha1 y hy) (hb1 x hx)) (List.lt_irrefl _)
      subst hxy
      rw [ih ha2 hb2 (fun z => ?_)]
      constructor
      · intro hz
        rcases List.mem_cons.1 ((h z).1 (List.mem_cons_of_mem _ hz)) with e | h'
        · subst e; exact absurd (ha1 z hz) (List.lt_irrefl _)
        · exact h'
      · intro hz
        rcases List.mem_cons.1 ((h z).2 (List.mem_cons_of_mem _ hz)) with e | h'
        · subst e; exact absurd (hb1 z hz) (List.lt_irrefl _)
        · exact h'
theorem get_bang (l : List (List UInt8)) (i : Nat) (h : i < l.length) : l.toArray[i]! = l[i] := by simp [h]
theorem le_get {l : List (List UInt8)} (h : l.Pairwise (· ≤ ·)) (i j : Nat) (hij : i ≤ j) (hj : j < l.length) : l[i] ≤ l[j] := by
  rcases Nat.lt_or_eq_of_le hij with h1 | rfl
  · exact List.pairwise_iff_getElem.1 h i j (by omega) hj h1
  · rcases List.le_total l[i] l[i] with h | h <;> exact h
theorem compact_asc {l : List (List UInt8)} (h : l.Pairwise (· ≤ ·)) : Asc (Lib.compact l) := by
  unfold Asc Lib.compact Lib.compactUpTo
  rw [List.pairwise_map]
  refine List.Pairwise.imp_of_mem (R := fun i j => i < j) ?_ (List.Pairwise.filter _ List.pairwise_lt_range)
  intro i j hi hj hij
  obtain ⟨hj1, hj2⟩ := List.mem_filter.1 hj
  have hj1 := List.mem_range.1 hj1
  unfold Lib.keeps at hj2
  simp only [decide_eq_true_eq] at hj2
  have hne : l.toArray[j]! ≠ l.toArray[j - 1]! := hj2.resolve_left (by omega)
  rw [get_bang l j hj1, get_bang l (j - 1) (by omega)] at hne
  rw [get_bang l i (by omega), get_bang l j hj1]
  exact lt_of_le_lt (le_get h i (j - 1) (by omega) (by omega)) (lt_of_le_ne (le_get h (j - 1) j (by omega) hj1) (fun e => hne e.symm))
theorem first_at (l : List (List UInt8)) (x : List UInt8) (i : Nat) (hi : i < l.length) (hx : l[i] = x) : ∃ j, ∃ hj : j < l.length, l[j] = x ∧ ∀ q (hq : q < j), l[q] ≠ x := by
  induction i using Nat.strongRecOn with
  | _ i ih =>
    by_cases h : ∃ q, ∃ hq : q < i, l[q]'(by omega) = x
    · obtain ⟨q, hq, e⟩ := h
      exact ih q hq (by omega) e
    · exact ⟨i, hi, hx, fun q hq e => h ⟨q, hq, e⟩⟩
theorem compact_mem (l : List (List UInt8)) (x : List UInt8) : x ∈ Lib.compact l ↔ x ∈ l := by
  unfold Lib.compact Lib.compactUpTo
  rw [List.mem_map]
  constructor
  · rintro ⟨i, hi, rfl⟩
    have h1 := List.mem_range.1 (List.mem_filter.1 hi).1
    rw [get_bang l i h1]
    exact List.getElem_mem h1
  · intro h
    obtain ⟨i, hi, e⟩ := List.getElem_of_mem h
    obtain ⟨j, hj, e2, h3⟩ := first_at l x i hi e
    refine ⟨j, List.mem_filter.2 ⟨List.mem_range.2 hj, ?_⟩, by rw [get_bang l j hj, e2]⟩
    unfold Lib.keeps
    simp only [decide_eq_true_eq]
    rcases Nat.eq_zero_or_pos j with h0 | h0
    · exact .inl h0
    · refine .inr ?_
      rw [get_bang l j hj, get_bang l (j - 1) (by omega), e2]
      exact fun e => h3 (j - 1) (by omega) e.symm
theorem sortL_sorted (l : List (List UInt8)) : (sortL l).Pairwise (· ≤ ·) := by
  have h := List.pairwise_mergeSort (le := fun x y : List UInt8 => decide (x ≤ y)) (fun a b c h1 h2 => by simp only [decide_eq_true_eq] at *; exact List.le_trans h1 h2) (fun a b => by
    rcases List.le_total a b with h | h
    · rw [decide_eq_true h]; rfl
    · rw [decide_eq_true h, Bool.or_true]) l
  exact h.imp (fun h => of_decide_eq_true h)
theorem sortL_mem (l : List (List UInt8)) (x : List UInt8) : x ∈ sortL l ↔ x ∈ l := (List.mergeSort_perm l _).mem_iff
def extL (l : List S43) : List (List UInt8) := (l.filter fun x => decide (x.f2 = 4)).map fun x => bs x.f3
def needsL (l : List S43) : List (List UInt8) := Lib.compact (sortL (extL l))
theorem needsL_asc (l : List S43) : Asc (needsL l) := compact_asc (sortL_sorted _)
theorem needsL_mem (l : List S43) (x : List UInt8) : x ∈ needsL l ↔ x ∈ extL l := by unfold needsL; rw [compact_mem, sortL_mem]
theorem extL_length (l : List S43) : (extL l).length ≤ l.length := by unfold extL; rw [List.length_map]; exact List.length_filter_le _ _
theorem extL_take (l : List S43) (i : Nat) (h : i < l.length) : extL (l.take (i + 1)) = extL (l.take i) ++ (if l[i].f2 = 4 then [bs l[i].f3] else []) := by
  unfold extL
  rw [List.take_succ_eq_append_getElem h, List.filter_append, List.map_append]
  congr 1
  by_cases h4 : l[i].f2 = 4 <;> simp [h4]
theorem lofs_bs (xs : List ByteArray) : lofs xs = xs.map bs := rfl
theorem needs_loop (l : List S43) (hn : l.length ≤ 1000000) (d : Nat) : ∀ (i : Nat) (xs : List ByteArray), i + d = l.length → lofs xs = extL (l.take i) → Ev (fun k => object_Needs.l0 k xs l (l.length : Int) (i : Int)) (sofl (extL l)) := by
  induction d with
  | zero =>
    intro i xs hi hx
    refine Ev.step (f := fun _ => some xs) (fun k => by rw [object_Needs.l0, if_neg (by omega)]) ?_
    rw [List.take_of_length_le (by omega)] at hx
    rw [← hx, sofl_lofs]
    exact Ev.now _
  | succ d ih =>
    intro i xs hi hx
    have hlt : i < l.length := by omega
    have he := extL_take l i hlt
    by_cases h4 : l[i].f2 = 4
    · refine Ev.step (fun k => ?_) (ih (i + 1) (xs ++ [l[i].f3]) (by omega) ?_)
      · have hlen : xs.length ≤ 1000000 := by
          have h1 := extL_length (l.take i)
          rw [← hx, lofs_length, List.length_take] at h1
          omega
        rw [object_Needs.l0, if_pos (by omega), if_pos (by omega), if_pos (by omega), rd43 l i hlt, if_pos h4, if_pos (by omega), i64_nat i (by omega)]
      · rw [he, if_pos h4, ← hx, lofs_bs, lofs_bs, List.map_append]; rfl
    · refine Ev.step (fun k => ?_) (ih (i + 1) xs (by omega) ?_)
      · rw [object_Needs.l0, if_pos (by omega), if_pos (by omega), if_pos (by omega), rd43 l i hlt, if_neg h4, i64_nat i (by omega)]
      · rw [he, if_neg h4, List.append_nil, hx]
theorem needs_is (a0 a1 a2 : ByteArray) (a3 : Int) (l4 : List S62) (l5 : List S43) (hn : l5.length ≤ 1000000) : Ev (fun k => object_Needs.f k a0 a1 a2 a3 l4 l5) (sofl (needsL l5)) := by
  have h := needs_loop l5 hn l5.length 0 [] (by omega) (by simp [extL, lofs])
  unfold object_Needs.f
  refine Ev.bind h ?_
  refine Ev.eq (Ev.congr (fun k => if_pos ?_) (Ev.now _)) ?_
  · rw [sofl_length]; have := extL_length l5; omega
  · unfold compS sortS needsL
    rw [lofs_sofl, lofs_sofl]
end Go.Proofs.Ytenlmckahaniiaa.Obj
end
section
set_option linter.unusedVariables false
set_option linter.unusedSimpArgs false
namespace Go.Proofs.Ytenlmckahaniiaa.Obj
open Go Go.RowKit Go.Proofs.Ytenlmckahaniiaa.K Go.Proofs.YtenlmckahaniiaaW.PrintWords Go.Proofs.YtenlmckahaniiaaW.PrintMore Go.Proofs.Ytenlmckahaniiaa.MyStr Go.Proofs.Ytenlmckahaniiaa.Oct
theorem alive_enc : object_Encode.f 300 (⟨#[109]⟩ : ByteArray) (⟨#[]⟩ : ByteArray) (⟨#[]⟩ : ByteArray) 0 ([] : List (S62)) ([] : List (S43)) = some ((⟨#[79, 66, 74, 49, 1, 0, 109, 0, 0, 0, 0, 0, 0, 0, 0, 0, 0, 22, 213, 14, 38]⟩ : ByteArray), 0) := by decide +kernel
theorem alive_dec : (object_Decode.f 300 (⟨#[79, 66, 74, 49, 1, 0, 109, 0, 0, 0, 0, 0, 0, 0, 0, 0, 0, 22, 213, 14, 38]⟩ : ByteArray)).map (fun bt => (bt.1, bt.2.2.2.2.2.2)) = some ((⟨#[109]⟩ : ByteArray), 0) := by decide +kernel
theorem alive_c1 : object_Check.f 300 (⟨#[109]⟩ : ByteArray) (⟨#[120]⟩ : ByteArray) (⟨#[]⟩ : ByteArray) 0 ([] : List (S62)) ([] : List (S43)) = some 1 := by decide +kernel
theorem alive_c2 : object_Check.f 300 (⟨#[109]⟩ : ByteArray) (⟨#[120, 120]⟩ : ByteArray) (⟨#[]⟩ : ByteArray) 0 ([] : List (S62)) (([(⟨1, 2, 1, (⟨#[]⟩ : ByteArray), false⟩ : S43)] : List (S43))) = some 2 := by decide +kernel
def aliveR : List S43 := [(⟨0, 0, 4, (⟨#[98]⟩ : ByteArray), false⟩ : S43), (⟨0, 0, 4, (⟨#[97]⟩ : ByteArray), false⟩ : S43), (⟨0, 0, 4, (⟨#[98]⟩ : ByteArray), false⟩ : S43)]
theorem alive_needs : needsL aliveR = [[97], [98]] := by
  refine Asc.unique (needsL_asc _) (by unfold Asc; simp only [List.pairwise_cons]; exact ⟨by simp; decide, by simp, List.Pairwise.nil⟩) (fun x => ?_)
  rw [needsL_mem, show extL aliveR = [[98], [97], [98]] by decide]
  simp only [List.mem_cons, List.not_mem_nil, or_false]
  constructor
  · rintro (h | h | h) <;> simp [h]
  · rintro (h | h) <;> simp [h]
theorem alive_is : Ev (fun k => emulatorlaw28_alive.f k) true := by
  unfold emulatorlaw28_alive.f
  refine Ev.bind (Ev.of (fun k => object_Encode.mono _ _ _ _ _ _ k) alive_enc) ?_
  obtain ⟨bt, hbt, he⟩ := Option.map_eq_some_iff.1 alive_dec
  refine Ev.bind (Ev.of (fun k => object_Decode.mono _ k) hbt) ?_
  have e1 : bt.1 = ⟨#[109]⟩ := congrArg Prod.fst he
  have e2 : bt.2.2.2.2.2.2 = 0 := congrArg Prod.snd he
  refine Ev.bind (needs_is _ _ _ _ [] aliveR (by decide)) ?_
  rw [alive_needs]
  refine Ev.congr (fun k => by rw [if_pos (by decide), if_pos (by decide), if_pos (by rw [e1, toList_bs]; rfl), if_pos e2, if_pos (by decide), if_pos (by decide), if_pos (by rw [toList_bs]; rfl), if_pos (by decide), if_pos (by rw [toList_bs]; rfl)]) ?_
  refine Ev.bind (Ev.of (fun k => object_Check.mono _ _ _ _ _ _ k) alive_c1) ?_
  refine Ev.congr (fun k => if_pos rfl) ?_
  refine Ev.bind (Ev.of (fun k => object_Check.mono _ _ _ _ _ _ k) alive_c2) ?_
  exact Ev.now _
theorem alive_end : Ev (fun k => (emulatorlaw28_alive.f k).bind fun t => some t) true := Ev.bind alive_is (Ev.now true)
end Go.Proofs.Ytenlmckahaniiaa.Obj
end
section
set_option linter.unusedVariables false
set_option linter.unusedSimpArgs false
namespace Go.Proofs.Ytenlmckahaniiaa.Obj
open Go Go.RowKit Go.Proofs.Ytenlmckahaniiaa.K Go.Proofs.YtenlmckahaniiaaW.PrintWords Go.Proofs.YtenlmckahaniiaaW.PrintMore Go.Proofs.Ytenlmckahaniiaa.MyStr Go.Proofs.Ytenlmckahaniiaa.Oct
theorem sameSyms_loop (l : List S62) (hn : l.length ≤ 1000000) (d : Nat) : ∀ i : Nat, i + d = l.length → Ev (fun k => emulatorref28_SameSymbols.l0 k l l (i : Int)) true := by
  induction d with
  | zero => exact fun i hi => Ev.step (f := fun _ => some true) (fun k => by rw [emulatorref28_SameSymbols.l0, if_neg (by omega)]) (Ev.now _)
  | succ d ih =>
    intro i hi
    refine Ev.step (fun k => ?_) (ih (i + 1) (by omega))
    rw [emulatorref28_SameSymbols.l0, if_pos (by omega), if_pos (by omega), if_pos (by omega), if_neg (by simp), i64_nat i (by omega)]
theorem sameRels_loop (m : Md) (hn : m.l5.length ≤ 1000000) (d : Nat) : ∀ i : Nat, i + d = m.l5.length → Ev (fun k => emulatorref28_SameModule.l0 k (i : Int) m.a0 m.a1 m.a2 m.a3 m.l4 m.l5 m.a0 m.a1 m.a2 m.a3 m.l4 m.l5) true := by
  induction d with
  | zero => exact fun i hi => Ev.step (f := fun _ => some true) (fun k => by rw [emulatorref28_SameModule.l0, if_neg (by omega)]) (Ev.now _)
  | succ d ih =>
    intro i hi
    refine Ev.step (fun k => ?_) (ih (i + 1) (by omega))
    rw [emulatorref28_SameModule.l0, if_pos (by omega), if_pos (by omega), if_pos (by omega), if_neg (by simp), i64_nat i (by omega)]
theorem same_is (m : Md) (h4 : m.l4.length ≤ 1000000) (h5 : m.l5.length ≤ 1000000) : Ev (fun k => emulatorref28_SameModule.f k m.a0 m.a1 m.a2 m.a3 m.l4 m.l5 m.a0 m.a1 m.a2 m.a3 m.l4 m.l5) true := by
  unfold emulatorref28_SameModule.f
  refine Ev.congr (fun k => by rw [if_pos rfl, if_pos rfl, if_pos rfl, if_pos rfl]) ?_
  have hs : Ev (fun k => emulatorref28_SameSymbols.f k m.l4 m.l4) true := by
    unfold emulatorref28_SameSymbols.f
    exact Ev.congr (fun k => if_pos rfl) (sameSyms_loop m.l4 h4 m.l4.length 0 (by omega))
  refine Ev.bind hs ?_
  refine Ev.congr (fun k => if_pos rfl) ?_
  refine Ev.step (fun k => by rw [emulatorref28_SameModule.j0, if_neg (by simp)]; rfl) (sameRels_loop m h5 m.l5.length 0 (by omega))
end Go.Proofs.Ytenlmckahaniiaa.Obj
end
section
set_option linter.unusedVariables false
set_option linter.unusedSimpArgs false
namespace Go.Proofs.Ytenlmckahaniiaa.Obj
open Go Go.RowKit Go.Proofs.Ytenlmckahaniiaa.K Go.Proofs.YtenlmckahaniiaaW.PrintWords Go.Proofs.YtenlmckahaniiaaW.PrintMore Go.Proofs.Ytenlmckahaniiaa.MyBits Go.Proofs.Ytenlmckahaniiaa.MyStr Go.Proofs.Ytenlmckahaniiaa.Oct
theorem idx3 : ∀ c : Fin 256, decide (idxB (⟨#[95, 46, 36]⟩ : ByteArray) (c.val : Int) ≥ 0) = (decide ((c.val : Int) = 95) || decide ((c.val : Int) = 46) || decide ((c.val : Int) = 36)) := by decide +kernel
theorem idx3i (c : Int) (h0 : 0 ≤ c) (h1 : c < 256) : (idxB (⟨#[95, 46, 36]⟩ : ByteArray) c ≥ 0) ↔ (c = 95 ∨ c = 46 ∨ c = 36) := by
  have := idx3 ⟨c.toNat, by omega⟩
  simp only at this
  rw [show ((c.toNat : Nat) : Int) = c by omega] at this
  have h2 := Bool.eq_iff_iff.1 this
  simp only [decide_eq_true_eq, Bool.or_eq_true] at h2
  rw [h2, or_assoc]
theorem isName_step (k : Nat) (y : List Int) (n i : Int) (h0 : 0 ≤ i) (h1 : i < n) (h2 : i < (y.length : Int)) (r0 : 0 ≤ rd y i) (r1 : rd y i < 256) :
    object_isName.l0 (k + 1) y n i = if okc (rd y i) = true then object_isName.l0 k y n (wrap64 (i + 1)) else some false := by
  rw [object_isName.l0, if_pos h1, if_pos h0, if_pos h2]
  have e := idx3i (rd y i) r0 r1
  unfold strings_IndexByte.f
  simp only [Option.bind_some]
  generalize rd y i = c at *
  unfold okc
  simp only [Bool.or_eq_true, Bool.and_eq_true, decide_eq_true_eq]
  repeat' split
  all_goals first
    | rfl
    | (exfalso; omega)
theorem isName_loop (l : List UInt8) (hl : l.length < 9223372036854775807) (d : Nat) : ∀ i : Nat, i + d = l.length → Ev (fun k => object_isName.l0 k (ints l) (l.length : Int) (i : Int)) (((ints l).drop i).all okc) := by
  induction d with
  | zero =>
    intro i hi
    refine Ev.step (f := fun _ => some true) (fun k => by rw [object_isName.l0, if_neg (by omega)]) ?_
    rw [List.drop_eq_nil_of_le (by rw [ints_length]; omega)]
    exact Ev.now _
  | succ d ih =>
    intro i hi
    obtain ⟨e, r0, r1⟩ := rd_ints l i (by omega)
    refine Ev.step (f := fun k => if okc (rd (ints l) (i : Int)) = true then object_isName.l0 k (ints l) (l.length : Int) ((i + 1 : Nat) : Int) else some false) (fun k => by rw [isName_step k _ _ _ (by omega) (by omega) (by rw [ints_length]; omega) r0 r1, i64_nat i (by omega)]) ?_
    rw [drop_all _ _ _ (by rw [ints_length]; omega)]
    refine Ev.ite (fun h => ?_) (fun h => ?_)
    · rw [h, Bool.true_and]
      exact ih (i + 1) (by omega)
    · rw [Bool.not_eq_true] at h
      rw [h, Bool.false_and]
      exact Ev.now _
theorem isName_is (s : ByteArray) (hs : s.size ≤ 9223372036854775806) : Ev (fun k => object_isName.f k s) (isNm s) := by
  have hall : Ev (fun k => object_isName.j0 k s false) ((ints (bs s)).all okc) := by
    refine Ev.step (f := fun k => object_isName.l0 k (ints (bs s)) ((bs s).length : Int) 0) (fun k => ?_) (by have := isName_loop (bs s) (by rw [bs_length]; omega) (bs s).length 0 (by omega); simpa using this)
    rw [object_isName.j0, if_neg (by decide), if_pos (by omega)]
    simp only [Option.bind_some]
    rw [show bytesOf s = ints (bs s) from rfl, ints_length]
  have hno : Ev (fun k => object_isName.j0 k s true) false := Ev.step (f := fun _ => some false) (fun k => by rw [object_isName.j0, if_pos rfl]) (Ev.now _)
  unfold object_isName.f isNm nameL
  refine Ev.ite (fun h => ?_) (fun h => ?_)
  · rw [toList_nil] at h
    rw [h]; exact hno
  · rw [toList_nil] at h
    have hp : 0 < s.size := by rw [← bs_length]; exact List.length_pos_iff.2 h
    rw [decide_eq_true h, Bool.true_and, bs_length]
    refine Ev.ite (fun h1 => ?_) (fun h1 => ?_)
    · rw [decide_eq_false (show ¬ s.size ≤ 14 by omega)]; exact hno
    · rw [decide_eq_true (show s.size ≤ 14 by omega), Bool.true_and, ← show bt s 0 = byteAt (bs s) 0 from bt_bs s 0]
      refine Ev.congr (fun k => if_pos (by omega)) ?_
      refine Ev.ite (fun h2 => ?_) (fun h2 => ?_)
      · rw [decide_eq_true (show 48 ≤ bt s 0 from h2), Bool.true_and]
        by_cases h3 : bt s 0 ≤ 57
        · rw [decide_eq_true h3]; exact hno
        · rw [decide_eq_false h3]; exact hall
      · rw [decide_eq_false (show ¬ 48 ≤ bt s 0 from h2), Bool.false_and]; exact hall
theorem syms_loop (l : List S62) (hn : l.length ≤ 1000000) (hf : Fine62 l) (d : Nat) : ∀ (i : Nat) (m : List (List UInt8)), i + d = l.length → m.length ≤ i → Ev (fun k => object_checkSymbols.l0 k l m (i : Int)) (symsR m (l.drop i)) := by
  induction d with
  | zero =>
    intro i m hi _
    rw [List.drop_eq_nil_of_le (by omega)]
    exact Ev.step (f := fun _ => some 0) (fun k => by rw [object_checkSymbols.l0, if_neg (by omega)]) (Ev.now _)
  | succ d ih =>
    intro i m hi hm
    have hlt : i < l.length := by omega
    rw [List.drop_eq_getElem_cons hlt]
    unfold symsR
    refine Ev.step (f := fun k => (object_isName.f k l[i].f0).bind fun t => (if t = true then (if bs l[i].f0 ∈ m then some 6 else (if symOk l[i] = true then object_checkSymbols.l0 k l (m ++ [bs l[i].f0]) ((i + 1 : Nat) : Int) else some 2)) else some 4)) (fun k => ?_) ?_
    · rw [object_checkSymbols.l0, if_pos (by omega), if_pos (by omega), rd62 l i hlt, if_pos (show m.length < 1000000 by omega), i64_nat i (by omega)]
      rfl
    · refine Ev.bind (isName_is _ (hf _ (List.getElem_mem hlt))) ?_
      refine Ev.eq (Ev.ite (r := if isNm l[i].f0 = true then (if bs l[i].f0 ∈ m then 6 else if symOk l[i] = true then symsR (m ++ [bs l[i].f0]) (l.drop (i + 1)) else 2) else 4) (fun h => ?_) (fun h => ?_)) rfl
      · rw [if_pos h]
        refine Ev.ite (fun h2 => ?_) (fun h2 => ?_)
        · rw [if_pos h2]; exact Ev.now _
        · rw [if_neg h2]
          refine Ev.ite (fun h3 => ?_) (fun h3 => ?_)
          · rw [if_pos h3]
            exact ih (i + 1) _ (by omega) (by simp; omega)
          · rw [if_neg h3]; exact Ev.now _
      · rw [if_neg h]; exact Ev.now _
theorem syms_is (l : List S62) (hn : l.length ≤ 1000000) (hf : Fine62 l) : Ev (fun k => object_checkSymbols.f k l) (symsR [] l) := by
  have := syms_loop l hn hf l.length 0 [] (by omega) (Nat.le_refl _)
  rw [List.drop_zero] at this
  exact this
theorem rel_j3 (x : S43) (hs : x.f3.size ≤ 9223372036854775806) (b : Bool) : Ev (fun k => object_checkReloc.j3 k b x.f0 x.f1 x.f2 x.f3 x.f4) (if b = true then 2 else if x.f2 = 4 then (if isNm x.f3 = true then 0 else 4) else (if bs x.f3 = [] then 0 else 4)) := by
  refine Ev.step (f := fun k => if b = true then some 2 else (if x.f2 = 4 then ((object_isName.f k x.f3).bind fun t => (if t = true then some 0 else some 4)) else (if bs x.f3 = [] then some 0 else some 4))) (fun k => by rw [object_checkReloc.j3, toList_bs]) ?_
  refine Ev.ite (fun h => ?_) (fun h => ?_)
  · rw [if_pos h]; exact Ev.now _
  · rw [if_neg h]
    refine Ev.ite (fun h => ?_) (fun h => ?_)
    · rw [if_pos h]
      refine Ev.bind (isName_is _ hs) ?_
      refine Ev.ite (fun h => ?_) (fun h => ?_)
      · rw [if_pos h]; exact Ev.now _
      · rw [if_neg h]; exact Ev.now _
    · rw [if_neg h]
      refine Ev.ite (fun h => ?_) (fun h => ?_)
      · rw [if_pos h]; exact Ev.now _
      · rw [if_neg h]; exact Ev.now _
theorem rel_j2 (x : S43) (hs : x.f3.size ≤ 9223372036854775806) (b : Bool) : Ev (fun k => object_checkReloc.j2 k b x.f0 x.f1 x.f2 x.f3 x.f4) (if b = true then 2 else if x.f2 < 0 ∨ x.f2 > 4 ∨ (x.f2 = 0 ∧ x.f4 = false) then 2 else if x.f2 = 4 then (if isNm x.f3 = true then 0 else 4) else (if bs x.f3 = [] then 0 else 4)) := by
  have e := fun b' => rel_j3 x hs b'
  refine Ev.step (fun k => by rw [object_checkReloc.j2]) ?_
  refine Ev.ite (fun h => ?_) (fun h => ?_)
  · rw [if_pos h]; exact Ev.now _
  · rw [if_neg h]
    refine Ev.ite (fun h => ?_) (fun h => Ev.ite (fun h2 => ?_) (fun h2 => Ev.ite (fun h3 => ?_) (fun h3 => ?_)))
    · rw [if_pos (by omega)]; exact e true
    · rw [if_pos (by omega)]; exact e true
    · cases h4 : x.f4 with
      | true => rw [if_neg (by simp; omega)]; simpa [h4] using e false
      | false => rw [if_pos (by simp [h3])]; simpa [h4] using e true
    · rw [if_neg (by omega)]; exact e false
theorem rel_j1 (x y : S43) (hs : x.f3.size ≤ 9223372036854775806) (b : Bool) : Ev (fun k => object_checkReloc.j1 k b x.f0 x.f1 x.f2 x.f3 x.f4 y.f0 y.f1 y.f2 y.f3 y.f4) (if b = true then 2 else if x.f0 < y.f0 ∨ (x.f0 = y.f0 ∧ x.f1 ≤ y.f1) then 2 else if x.f2 < 0 ∨ x.f2 > 4 ∨ (x.f2 = 0 ∧ x.f4 = false) then 2 else if x.f2 = 4 then (if isNm x.f3 = true then 0 else 4) else (if bs x.f3 = [] then 0 else 4)) := by
  have e := fun b' => rel_j2 x hs b'
  refine Ev.step (fun k => by rw [object_checkReloc.j1]) ?_
  refine Ev.ite (fun h => ?_) (fun h => ?_)
  · rw [if_pos h]; exact Ev.now _
  · rw [if_neg h]
    refine Ev.ite (fun h => ?_) (fun h => Ev.ite (fun h2 => ?_) (fun h2 => ?_))
    · rw [if_pos (by omega)]; exact e true
    · by_cases h3 : x.f1 ≤ y.f1
      · rw [if_pos (by omega), decide_eq_true h3]; exact e true
      · rw [if_neg (by omega), decide_eq_false h3]; exact e false
    · rw [if_neg (by omega)]; exact e false
theorem rel_j0 (sz : Int) (x y : S43) (hs : x.f3.size ≤ 9223372036854775806) : Ev (fun k => object_checkReloc.j0 k sz x.f0 x.f1 x.f2 x.f3 x.f4 y.f0 y.f1 y.f2 y.f3 y.f4) (relT sz x y) := by
  have e := fun b' => rel_j1 x y hs b'
  unfold relT
  refine Ev.step (fun k => by rw [object_checkReloc.j0]) ?_
  refine Ev.ite (fun h => ?_) (fun h => Ev.ite (fun h2 => ?_) (fun h2 => ?_))
  · rw [if_pos (by omega)]; exact e true
  · by_cases h3 : x.f1 > wrap64 (sz - 2)
    · rw [if_pos (by omega), decide_eq_true h3]; exact e true
    · rw [if_neg (by omega), decide_eq_false h3]; exact e false
  · rw [if_pos (by omega)]; exact e true
theorem rel_is (a0 a1 a2 : ByteArray) (a3 : Int) (l4 : List S62) (l5 : List S43) (x y : S43) (hs : x.f3.size ≤ 9223372036854775806) :
    Ev (fun k => object_checkReloc.f k a0 a1 a2 a3 l4 l5 x.f0 x.f1 x.f2 x.f3 x.f4 y.f0 y.f1 y.f2 y.f3 y.f4) (relR (a1.size : Int) (a2.size : Int) x y) := by
  unfold object_checkReloc.f relR
  refine Ev.ite (fun h => ?_) (fun h => Ev.ite (fun h2 => ?_) (fun h2 => ?_))
  · rw [if_neg (by omega), if_neg (show ¬ x.f0 = 2 by omega)]; exact rel_j0 _ x y hs
  · rw [if_neg (by omega), if_pos h2]; exact rel_j0 _ x y hs
  · rw [if_pos (by omega)]; exact Ev.now _
theorem check_l0 (a0 a1 a2 : ByteArray) (a3 : Int) (l4 : List S62) (l5 : List S43) (hn : l5.length ≤ 1000000) (hf : Fine43 l5) (d : Nat) : ∀ (i : Nat) (b : S43), i + d = l5.length →
    Ev (fun k => object_Check.l0 k l5 (l5.length : Int) (i : Int) a0 a1 a2 a3 l4 l5 b.f0 b.f1 b.f2 b.f3 b.f4) (relsR (a1.size : Int) (a2.size : Int) b (l5.drop i)) := by
  induction d with
  | zero =>
    intro i b hi
    rw [List.drop_eq_nil_of_le (by omega)]
    exact Ev.step (f := fun _ => some 0) (fun k => by rw [object_Check.l0, if_neg (by omega)]) (Ev.now _)
  | succ d ih =>
    intro i b hi
    have hlt : i < l5.length := by omega
    rw [List.drop_eq_getElem_cons hlt]
    unfold relsR
    refine Ev.step (fun k => by rw [object_Check.l0, if_pos (by omega), if_pos (by omega), if_pos (by omega), rd43 l5 i hlt, i64_nat i (by omega)]) ?_
    refine Ev.bind (rel_is a0 a1 a2 a3 l4 l5 l5[i] b (hf _ (List.getElem_mem hlt))) ?_
    refine Ev.ite (fun h => ?_) (fun h => ?_)
    · rw [if_pos h]; exact ih (i + 1) l5[i] (by omega)
    · rw [if_neg h]; exact Ev.now _
theorem check_j0 (a0 a1 a2 : ByteArray) (a3 : Int) (l4 : List S62) (l5 : List S43) (hf : Fine a0 l4 l5) (b : Bool) (h4 : l4.length ≤ 1000000) (h5 : l5.length ≤ 1000000) :
    Ev (fun k => object_Check.j0 k b a0 a1 a2 a3 l4 l5) (if b = true then 7 else if a1.size % 2 ≠ 0 ∨ a3 < 0 then 1 else if symsR [] l4 = 0 then relsR (a1.size : Int) (a2.size : Int) b0 l5 else symsR [] l4) := by
  refine Ev.step (fun k => by rw [object_Check.j0]) ?_
  refine Ev.ite (fun h => ?_) (fun h => ?_)
  · rw [if_pos h]; exact Ev.now _
  · rw [if_neg h]
    refine Ev.ite (fun h => Ev.ite (fun h2 => ?_) (fun h2 => ?_)) (fun h => ?_)
    · rw [if_pos (by omega)]; exact Ev.now _
    · rw [if_neg (by omega)]
      refine Ev.bind (syms_is l4 h4 hf.h4) ?_
      refine Ev.ite (fun h => ?_) (fun h => ?_)
      · rw [if_pos h]
        have := check_l0 a0 a1 a2 a3 l4 l5 h5 hf.h5 l5.length 0 b0 (by omega)
        rw [List.drop_zero] at this
        exact this
      · rw [if_neg h]; exact Ev.now _
    · rw [if_pos (by omega)]; exact Ev.now _
theorem check_is (a0 a1 a2 : ByteArray) (a3 : Int) (l4 : List S62) (l5 : List S43) (hf : Fine a0 l4 l5) (h4 : l4.length ≤ 1000000) (h5 : l5.length ≤ 1000000) :
    Ev (fun k => object_Check.f k a0 a1 a2 a3 l4 l5) (checkR a0 a1 a2 a3 l4 l5) := by
  have e := fun b => check_j0 a0 a1 a2 a3 l4 l5 hf b h4 h5
  unfold object_Check.f checkR
  refine Ev.bind (isName_is a0 hf.h0) ?_
  refine Ev.ite (fun h => ?_) (fun h => ?_)
  · rw [if_pos h]
    refine Ev.ite (fun h => ?_) (fun h1 => Ev.ite (fun h => ?_) (fun h2 => Ev.ite (fun h => ?_) (fun h3 => Ev.ite (fun h => ?_) (fun h6 => ?_))))
    · rw [if_pos (by omega)]; exact e true
    · rw [if_pos (by omega)]; exact e true
    · rw [if_pos (by omega)]; exact e true
    · rw [if_pos (by omega)]; exact e true
    · by_cases h7 : (l5.length : Int) > 2048
      · rw [if_pos (by omega), decide_eq_true h7]; exact e true
      · rw [if_neg (by omega), decide_eq_false h7]; exact e false
  · rw [if_neg h]; exact Ev.now _
end Go.Proofs.Ytenlmckahaniiaa.Obj
end
