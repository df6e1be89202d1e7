/- object: the reference's Needs and Defines. -/
import Derived.Test.YtenlmckahaniiaaMyObN
import Derived.Test.YtenlmckahaniiaaKx49
import Derived.Test.YtenlmckahaniiaaKx50
set_option linter.unusedVariables false
set_option linter.unusedSimpArgs false
namespace Go.Proofs.Ytenlmckahaniiaa.Obj
open Go Go.RowKit Go.Proofs.Ytenlmckahaniiaa.K Go.Proofs.YtenlmckahaniiaaW.PrintWords Go.Proofs.YtenlmckahaniiaaW.PrintMore Go.Proofs.Ytenlmckahaniiaa.MyStr Go.Proofs.Ytenlmckahaniiaa.Oct

theorem sofl_get (l : List (List UInt8)) (i : Nat) (h : i < l.length) : bs (rdOf ByteArray.empty (sofl l) (i : Int)) = l[i] := by
  unfold rdOf sofl
  rw [Int.toNat_natCast, List.getD_eq_getElem?_getD, List.getElem?_map, List.getElem?_eq_getElem h]
  rfl
theorem sofl_append (a b : List (List UInt8)) : sofl (a ++ b) = sofl a ++ sofl b := List.map_append
theorem sofl_one (s : ByteArray) : sofl [bs s] = [s] := by
  show [(⟨(bs s).toArray⟩ : ByteArray)] = [s]
  unfold bs
  simp
theorem Asc.insert {a b : List (List UInt8)} {x : List UInt8} (h : Asc (a ++ b)) (h1 : ∀ y ∈ a, y < x) (h2 : ∀ y ∈ b, x < y) : Asc (a ++ [x] ++ b) := by
  unfold Asc at *
  rw [List.pairwise_append] at h
  rw [List.append_assoc, List.pairwise_append]
  refine ⟨h.1, List.pairwise_cons.2 ⟨h2, h.2.1⟩, fun y hy z hz => ?_⟩
  rcases List.mem_append.1 hz with hz | hz
  · rw [List.mem_singleton.1 hz]; exact h1 y hy
  · exact h.2.2 y hy z hz
theorem rneeds_insert (a0 a1 a2 : ByteArray) (a3 : Int) (l4 : List S62) (l5 : List S43) (x4 : Int) (s : ByteArray) (L : List (List UInt8)) (hL : L.length ≤ 1000000) (hA : Asc L) (r : List ByteArray)
    (hr : ∀ M, Asc M → (∀ y, y ∈ M ↔ y ∈ L ∨ y = bs s) → M.length ≤ L.length + 1 → Ev (fun k => emulatorref28_Needs.l0 k (sofl M) (wrap64 (x4 + 1)) a0 a1 a2 a3 l4 l5) r) (d : Nat) :
    ∀ j : Nat, j + d = L.length → (∀ q (hq : q < L.length), q < j → L[q] < bs s) → Ev (fun k => emulatorref28_Needs.l1 k (sofl L) x4 s (j : Int) a0 a1 a2 a3 l4 l5) r := by
  have hlow : ∀ j : Nat, (∀ q (hq : q < L.length), q < j → L[q] < bs s) → ∀ y ∈ L.take j, y < bs s := by
    intro j hq y hy
    obtain ⟨q, hq2, rfl⟩ := List.getElem_of_mem hy
    rw [List.getElem_take]
    rw [List.length_take] at hq2
    exact hq q (by omega) (by omega)
  induction d with
  | zero =>
    intro j hj hq
    have hM := hr (L ++ [bs s]) (by
        have := Asc.insert (a := L) (b := []) (by rw [List.append_nil]; exact hA) (fun y hy => hlow j hq y (by rw [List.take_of_length_le (by omega)]; exact hy)) (by simp)
        rwa [List.append_nil] at this) (fun y => by simp) (by simp)
    refine Ev.step (fun k => ?_) hM
    rw [emulatorref28_Needs.l1, sofl_length, if_neg (by omega), if_pos (by omega), if_pos (by omega), if_pos (by omega), show ((j : Int)).toNat = j by omega, List.take_of_length_le (by rw [sofl_length]; omega), List.drop_eq_nil_of_le (by rw [sofl_length]; omega)]
    simp only [Option.bind_some, List.length_append, List.length_nil, List.nil_append, sofl_length, List.length_cons, List.append_nil]
    rw [if_pos (by omega), if_pos (by omega), if_pos (by omega), sofl_append, sofl_one]
  | succ d ih =>
    intro j hj hq
    have hlt : j < L.length := by omega
    have hg : (rdOf ByteArray.empty (sofl L) (j : Int)).toList = L[j] := by rw [toList_bs, sofl_get L j hlt]
    by_cases h1 : L[j] < bs s
    · refine Ev.step (fun k => ?_) (ih (j + 1) (by omega) (fun q hq2 hqj => ?_))
      · rw [emulatorref28_Needs.l1, sofl_length, if_pos (by omega), if_pos (by omega), hg, toList_bs, bytesLess_lt, decide_eq_true h1, if_pos rfl, i64_nat j (by omega)]
      · by_cases e : q = j
        · subst e; exact h1
        · exact hq q hq2 (by omega)
    · by_cases h2 : L[j] = bs s
      · have hM := hr L hA (fun y => ⟨fun h => .inl h, fun h => h.elim id (fun e => by rw [e, ← h2]; exact List.getElem_mem hlt)⟩) (by omega)
        refine Ev.step (fun k => ?_) hM
        rw [emulatorref28_Needs.l1, sofl_length, if_pos (by omega), if_pos (by omega), hg, toList_bs, bytesLess_lt, decide_eq_false h1, if_neg (by decide), if_neg (by omega), if_pos h2]
      · have hgt : bs s < L[j] := lt_of_le_ne (List.not_lt.1 h1) (fun e => h2 e.symm)
        have hM := hr (L.take j ++ [bs s] ++ L.drop j) (Asc.insert (by rw [List.take_append_drop]; exact hA) (hlow j hq) (fun y hy => by
            obtain ⟨q, hq2, rfl⟩ := List.getElem_of_mem hy
            rw [List.getElem_drop]
            rcases Nat.eq_zero_or_pos q with h0 | h0
            · subst h0; exact hgt
            · exact List.lt_trans hgt (List.pairwise_iff_getElem.1 hA j (j + q) hlt (by rw [List.length_drop] at hq2; omega) (by omega)))) (fun y => by
            have : y ∈ L ↔ y ∈ L.take j ∨ y ∈ L.drop j := by rw [← List.mem_append, List.take_append_drop]
            rw [this]
            simp only [List.mem_append, List.mem_singleton]
            constructor <;> (intro h; rcases h with (h | h) | h <;> simp [h])) (by rw [List.length_append, List.length_append, List.length_take, List.length_drop, List.length_singleton]; omega)
        refine Ev.step (fun k => ?_) hM
        rw [emulatorref28_Needs.l1, sofl_length, if_pos (by omega), if_pos (by omega), hg, toList_bs, bytesLess_lt, decide_eq_false h1, if_neg (by decide), if_neg (by omega), if_neg h2, if_pos (by omega), show ((j : Int)).toNat = j by omega]
        simp only [Option.bind_some, List.nil_append, List.length_nil]
        rw [if_pos (by rw [List.length_take, sofl_length]; omega), if_pos (by rw [List.length_take, sofl_length]; omega), if_pos (by rw [List.length_append, List.length_take, List.length_drop, sofl_length, List.length_singleton]; omega), sofl_append, sofl_append, sofl_one]
        congr 2
        · unfold sofl; rw [List.map_take]
        · unfold sofl; rw [List.map_drop]
theorem rneeds_loop (a0 a1 a2 : ByteArray) (a3 : Int) (l4 : List S62) (l : List S43) (hn : l.length ≤ 900000) (d : Nat) : ∀ (i : Nat) (L : List (List UInt8)), i + d = l.length → Asc L → (∀ y, y ∈ L ↔ y ∈ extL (l.take i)) → L.length ≤ i → Ev (fun k => emulatorref28_Needs.l0 k (sofl L) (i : Int) a0 a1 a2 a3 l4 l) (sofl (needsL l)) := by
  induction d with
  | zero =>
    intro i L hi hA hm _
    refine Ev.step (f := fun _ => some (sofl L)) (fun k => by rw [emulatorref28_Needs.l0, if_neg (by omega)]) ?_
    rw [List.take_of_length_le (by omega)] at hm
    rw [hA.unique (needsL_asc l) (fun x => by rw [hm, needsL_mem])]
    exact Ev.now _
  | succ d ih =>
    intro i L hi hA hm hl
    have hlt : i < l.length := by omega
    have he := extL_take l i hlt
    by_cases h4 : l[i].f2 = 4
    · rw [if_pos h4] at he
      have := rneeds_insert a0 a1 a2 a3 l4 l (i : Int) l[i].f3 L (by omega) hA (sofl (needsL l)) (fun M hM hmem hlen => by
        rw [i64_nat i (by omega)]
        exact ih (i + 1) M (by omega) hM (fun y => by rw [hmem, hm, he, List.mem_append, List.mem_singleton]) (by omega)) L.length 0 (by omega) (fun q _ h => by omega)
      refine Ev.step (fun k => ?_) this
      rw [emulatorref28_Needs.l0, if_pos (by omega), if_pos (by omega), rd43 l i hlt, if_pos h4]
      rfl
    · rw [if_neg h4, List.append_nil] at he
      refine Ev.step (fun k => ?_) (ih (i + 1) L (by omega) hA (fun y => by rw [hm, he]) (by omega))
      rw [emulatorref28_Needs.l0, if_pos (by omega), if_pos (by omega), rd43 l i hlt, if_neg h4, i64_nat i (by omega)]
theorem rneeds_is (a0 a1 a2 : ByteArray) (a3 : Int) (l4 : List S62) (l5 : List S43) (hn : l5.length ≤ 900000) : Ev (fun k => emulatorref28_Needs.f k a0 a1 a2 a3 l4 l5) (sofl (needsL l5)) :=
  rneeds_loop a0 a1 a2 a3 l4 l5 hn l5.length 0 [] (by omega) List.Pairwise.nil (fun y => by simp [extL]) (Nat.zero_le _)
/-- Defines. -/
def definesB (l : List S62) (name : ByteArray) : Bool := l.any (pSym name)
theorem rdefines_loop (a0 a1 a2 : ByteArray) (a3 : Int) (l : List S62) (l5 : List S43) (name : ByteArray) (hn : l.length ≤ 1000000) (d : Nat) : ∀ i : Nat, i + d = l.length → Ev (fun k => emulatorref28_Defines.l0 k name (i : Int) a0 a1 a2 a3 l l5) ((l.drop i).any (pSym name)) := by
  induction d with
  | zero =>
    intro i hi
    rw [List.drop_eq_nil_of_le (by omega)]
    exact Ev.step (f := fun _ => some false) (fun k => by rw [emulatorref28_Defines.l0, if_neg (by omega)]) (Ev.now _)
  | succ d ih =>
    intro i hi
    have hlt : i < l.length := by omega
    have h := ih (i + 1) (by omega)
    rw [List.drop_eq_getElem_cons hlt, List.any_cons]
    refine Ev.step (f := fun k => if l[i].f0.toList = name.toList then (if l[i].f3 = true then some true else emulatorref28_Defines.l0 k name ((i + 1 : Nat) : Int) a0 a1 a2 a3 l l5) else emulatorref28_Defines.l0 k name ((i + 1 : Nat) : Int) a0 a1 a2 a3 l l5) (fun k => by rw [emulatorref28_Defines.l0, if_pos (by omega), if_pos (by omega), rd62 l i hlt, i64_nat i (by omega)]) ?_
    have hp : pSym name l[i] = (l[i].f3 && (l[i].f0.toList == name.toList)) := rfl
    refine Ev.ite (fun h1 => Ev.ite (fun h2 => ?_) (fun h2 => ?_)) (fun h1 => ?_)
    · rw [hp, h2, h1]; simp only [beq_self_eq_true, Bool.and_self, Bool.true_or]; exact Ev.now _
    · rw [hp, Bool.not_eq_true _ |>.mp h2, Bool.false_and, Bool.false_or]; exact h
    · rw [hp, beq_eq_false_iff_ne.2 h1, Bool.and_false, Bool.false_or]; exact h
theorem rdefines_is (a0 a1 a2 : ByteArray) (a3 : Int) (l : List S62) (l5 : List S43) (name : ByteArray) (hn : l.length ≤ 1000000) : Ev (fun k => emulatorref28_Defines.f k a0 a1 a2 a3 l l5 name) (definesB l name) := by
  have := rdefines_loop a0 a1 a2 a3 l l5 name hn l.length 0 (by omega)
  rw [List.drop_zero] at this
  exact this
theorem defines_is (a0 a1 a2 : ByteArray) (a3 : Int) (l : List S62) (l5 : List S43) (name : ByteArray) : object_Defines.f a0 a1 a2 a3 l l5 name = some (definesB l name) := rfl
end Go.Proofs.Ytenlmckahaniiaa.Obj
