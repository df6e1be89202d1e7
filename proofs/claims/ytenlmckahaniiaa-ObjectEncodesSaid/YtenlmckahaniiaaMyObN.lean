/- object: the names that a module needs: the program's sorted list without repetitions and the reference's are one. -/
import Derived.Test.YtenlmckahaniiaaMyObS
import Derived.Test.YtenlmckahaniiaaMyOlC
import Derived.Test.YtenlmckahaniiaaKx32
set_option linter.unusedVariables false
set_option linter.unusedSimpArgs false
namespace Go.Proofs.Ytenlmckahaniiaa.Obj
open Go Go.RowKit Go.Proofs.Ytenlmckahaniiaa.K Go.Proofs.YtenlmckahaniiaaW.PrintWords Go.Proofs.YtenlmckahaniiaaW.PrintMore Go.Proofs.Ytenlmckahaniiaa.MyStr Go.Proofs.Ytenlmckahaniiaa.Oct

theorem bytesLess_lt : ∀ (x y : List UInt8), Op.bytesLess x y = decide (x < y)
  | [], [] => by simp [Op.bytesLess]
  | _ :: _, [] => by simp [Op.bytesLess]
  | [], _ :: _ => by simp [Op.bytesLess]
  | a :: x, b :: y => by
    rw [Op.bytesLess, bytesLess_lt x y]
    simp only [List.cons_lt_cons_iff]
    by_cases h1 : a < b <;> by_cases h2 : a = b <;> by_cases h3 : x < y <;> simp [h1, h2, h3]
theorem lt_of_le_ne {a b : List UInt8} (h : a ≤ b) (hn : a ≠ b) : a < b := by
  rcases List.le_total b a with h2 | h2
  · exact absurd (List.le_antisymm h h2) hn
  · by_cases h3 : a < b
    · exact h3
    · exact absurd (List.le_antisymm h (List.not_lt.1 h3)) hn
theorem lt_of_le_lt {a b c : List UInt8} (h : a ≤ b) (h2 : b < c) : a < c := by
  refine lt_of_le_ne (List.le_trans h (List.le_of_lt h2)) (fun e => ?_)
  subst e
  have := List.le_antisymm h (List.le_of_lt h2)
  subst this
  exact List.lt_irrefl _ h2
/-- Ascending, without repetitions. -/
def Asc (l : List (List UInt8)) : Prop := l.Pairwise (· < ·)
theorem Asc.unique {a b : List (List UInt8)} (ha : Asc a) (hb : Asc b) (h : ∀ x, x ∈ a ↔ x ∈ b) : a = b := by
  induction a generalizing b with
  | nil =>
    cases b with
    | nil => rfl
    | cons y b => exact absurd ((h y).2 List.mem_cons_self) (by simp)
  | cons x a ih =>
    cases b with
    | nil => exact absurd ((h x).1 List.mem_cons_self) (by simp)
    | cons y b =>
      obtain ⟨ha1, ha2⟩ := List.pairwise_cons.1 ha
      obtain ⟨hb1, hb2⟩ := List.pairwise_cons.1 hb
      have hxy : x = y := by
        rcases List.mem_cons.1 ((h x).1 List.mem_cons_self) with e | hx
        · exact e
        · rcases List.mem_cons.1 ((h y).2 List.mem_cons_self) with e | hy
          · exact e.symm
          · exact absurd (List.lt_trans (ha1 y hy) (hb1 x hx)) (List.lt_irrefl _)
      subst hxy
      rw [ih ha2 hb2 (fun z => ?_)]
      constructor
      · intro hz
        rcases List.mem_cons.1 ((h z).1 (List.mem_cons_of_mem _ hz)) with e | h'
        · subst e; exact absurd (ha1 z hz) (List.lt_irrefl _)
        · exact h'
      · intro hz
        rcases List.mem_cons.1 ((h z).2 (List.mem_cons_of_mem _ hz)) with e | h'
        · subst e; exact absurd (hb1 z hz) (List.lt_irrefl _)
        · exact h'
theorem get_bang (l : List (List UInt8)) (i : Nat) (h : i < l.length) : l.toArray[i]! = l[i] := by simp [h]
theorem le_get {l : List (List UInt8)} (h : l.Pairwise (· ≤ ·)) (i j : Nat) (hij : i ≤ j) (hj : j < l.length) : l[i] ≤ l[j] := by
  rcases Nat.lt_or_eq_of_le hij with h1 | rfl
  · exact List.pairwise_iff_getElem.1 h i j (by omega) hj h1
  · rcases List.le_total l[i] l[i] with h | h <;> exact h
theorem compact_asc {l : List (List UInt8)} (h : l.Pairwise (· ≤ ·)) : Asc (Lib.compact l) := by
  unfold Asc Lib.compact Lib.compactUpTo
  rw [List.pairwise_map]
  refine List.Pairwise.imp_of_mem (R := fun i j => i < j) ?_ (List.Pairwise.filter _ List.pairwise_lt_range)
  intro i j hi hj hij
  obtain ⟨hj1, hj2⟩ := List.mem_filter.1 hj
  have hj1 := List.mem_range.1 hj1
  unfold Lib.keeps at hj2
  simp only [decide_eq_true_eq] at hj2
  have hne : l.toArray[j]! ≠ l.toArray[j - 1]! := hj2.resolve_left (by omega)
  rw [get_bang l j hj1, get_bang l (j - 1) (by omega)] at hne
  rw [get_bang l i (by omega), get_bang l j hj1]
  exact lt_of_le_lt (le_get h i (j - 1) (by omega) (by omega)) (lt_of_le_ne (le_get h (j - 1) j (by omega) hj1) (fun e => hne e.symm))
theorem first_at (l : List (List UInt8)) (x : List UInt8) (i : Nat) (hi : i < l.length) (hx : l[i] = x) : ∃ j, ∃ hj : j < l.length, l[j] = x ∧ ∀ q (hq : q < j), l[q] ≠ x := by
  induction i using Nat.strongRecOn with
  | _ i ih =>
    by_cases h : ∃ q, ∃ hq : q < i, l[q]'(by omega) = x
    · obtain ⟨q, hq, e⟩ := h
      exact ih q hq (by omega) e
    · exact ⟨i, hi, hx, fun q hq e => h ⟨q, hq, e⟩⟩
theorem compact_mem (l : List (List UInt8)) (x : List UInt8) : x ∈ Lib.compact l ↔ x ∈ l := by
  unfold Lib.compact Lib.compactUpTo
  rw [List.mem_map]
  constructor
  · rintro ⟨i, hi, rfl⟩
    have h1 := List.mem_range.1 (List.mem_filter.1 hi).1
    rw [get_bang l i h1]
    exact List.getElem_mem h1
  · intro h
    obtain ⟨i, hi, e⟩ := List.getElem_of_mem h
    obtain ⟨j, hj, e2, h3⟩ := first_at l x i hi e
    refine ⟨j, List.mem_filter.2 ⟨List.mem_range.2 hj, ?_⟩, by rw [get_bang l j hj, e2]⟩
    unfold Lib.keeps
    simp only [decide_eq_true_eq]
    rcases Nat.eq_zero_or_pos j with h0 | h0
    · exact .inl h0
    · refine .inr ?_
      rw [get_bang l j hj, get_bang l (j - 1) (by omega), e2]
      exact fun e => h3 (j - 1) (by omega) e.symm
theorem sortL_sorted (l : List (List UInt8)) : (sortL l).Pairwise (· ≤ ·) := by
  have h := List.pairwise_mergeSort (le := fun x y : List UInt8 => decide (x ≤ y)) (fun a b c h1 h2 => by simp only [decide_eq_true_eq] at *; exact List.le_trans h1 h2) (fun a b => by
    rcases List.le_total a b with h | h
    · rw [decide_eq_true h]; rfl
    · rw [decide_eq_true h, Bool.or_true]) l
  exact h.imp (fun h => of_decide_eq_true h)
theorem sortL_mem (l : List (List UInt8)) (x : List UInt8) : x ∈ sortL l ↔ x ∈ l := (List.mergeSort_perm l _).mem_iff
/-- The names that external relocations name. -/
def extL (l : List S43) : List (List UInt8) := (l.filter fun x => decide (x.f2 = 4)).map fun x => bs x.f3
/-- .. in ascending order, each once. -/
def needsL (l : List S43) : List (List UInt8) := Lib.compact (sortL (extL l))
theorem needsL_asc (l : List S43) : Asc (needsL l) := compact_asc (sortL_sorted _)
theorem needsL_mem (l : List S43) (x : List UInt8) : x ∈ needsL l ↔ x ∈ extL l := by unfold needsL; rw [compact_mem, sortL_mem]
theorem extL_length (l : List S43) : (extL l).length ≤ l.length := by unfold extL; rw [List.length_map]; exact List.length_filter_le _ _
theorem needsL_length (l : List S43) : (needsL l).length ≤ l.length := by
  have h1 := compact_length_le (sortL (extL l))
  rw [sortL_length] at h1
  exact Nat.le_trans h1 (extL_length l)
theorem extL_take (l : List S43) (i : Nat) (h : i < l.length) : extL (l.take (i + 1)) = extL (l.take i) ++ (if l[i].f2 = 4 then [bs l[i].f3] else []) := by
  unfold extL
  rw [List.take_succ_eq_append_getElem h, List.filter_append, List.map_append]
  congr 1
  by_cases h4 : l[i].f2 = 4 <;> simp [h4]
theorem lofs_bs (xs : List ByteArray) : lofs xs = xs.map bs := rfl
theorem needs_loop (l : List S43) (hn : l.length ≤ 1000000) (d : Nat) : ∀ (i : Nat) (xs : List ByteArray), i + d = l.length → lofs xs = extL (l.take i) → Ev (fun k => object_Needs.l0 k xs l (l.length : Int) (i : Int)) (sofl (extL l)) := by
  induction d with
  | zero =>
    intro i xs hi hx
    refine Ev.step (f := fun _ => some xs) (fun k => by rw [object_Needs.l0, if_neg (by omega)]) ?_
    rw [List.take_of_length_le (by omega)] at hx
    rw [← hx, sofl_lofs]
    exact Ev.now _
  | succ d ih =>
    intro i xs hi hx
    have hlt : i < l.length := by omega
    have he := extL_take l i hlt
    by_cases h4 : l[i].f2 = 4
    · refine Ev.step (fun k => ?_) (ih (i + 1) (xs ++ [l[i].f3]) (by omega) ?_)
      · have hlen : xs.length ≤ 1000000 := by
          have h1 := extL_length (l.take i)
          rw [← hx, lofs_length, List.length_take] at h1
          omega
        rw [object_Needs.l0, if_pos (by omega), if_pos (by omega), if_pos (by omega), rd43 l i hlt, if_pos h4, if_pos (by omega), i64_nat i (by omega)]
      · rw [he, if_pos h4, ← hx, lofs_bs, lofs_bs, List.map_append]; rfl
    · refine Ev.step (fun k => ?_) (ih (i + 1) xs (by omega) ?_)
      · rw [object_Needs.l0, if_pos (by omega), if_pos (by omega), if_pos (by omega), rd43 l i hlt, if_neg h4, i64_nat i (by omega)]
      · rw [he, if_neg h4, List.append_nil, hx]
theorem needs_is (a0 a1 a2 : ByteArray) (a3 : Int) (l4 : List S62) (l5 : List S43) (hn : l5.length ≤ 1000000) : Ev (fun k => object_Needs.f k a0 a1 a2 a3 l4 l5) (sofl (needsL l5)) := by
  have h := needs_loop l5 hn l5.length 0 [] (by omega) (by simp [extL, lofs])
  unfold object_Needs.f
  refine Ev.bind h ?_
  refine Ev.eq (Ev.congr (fun k => if_pos ?_) (Ev.now _)) ?_
  · rw [sofl_length]; have := extL_length l5; omega
  · unfold compS sortS needsL
    rw [lofs_sofl, lofs_sofl]
end Go.Proofs.Ytenlmckahaniiaa.Obj
