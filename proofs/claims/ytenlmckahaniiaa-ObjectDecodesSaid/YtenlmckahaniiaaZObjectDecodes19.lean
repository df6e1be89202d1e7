/- Lemmas for the law ObjectDecodes: what its proof needs of this seat's texts, in one place. -/
import Derived.Sort.OwnSorted
import Derived.Test.YtenlmckahaniiaaZObjectDecodes15
section
set_option linter.unusedVariables false
set_option linter.unusedSimpArgs false
namespace Go.Proofs.Ytenlmckahaniiaa.K
open Go Go.Proofs Go.Shelf Go.RowKit Go.Lib Go.Sort Go.Proofs.YtenlmckahaniiaaW.PrintWords Go.Proofs.YtenlmckahaniiaaW.PrintLast
def lofs (xs : List ByteArray) : List (List UInt8) := xs.map fun s => s.data.toList
def sofl (l : List (List UInt8)) : List ByteArray := l.map fun s => ⟨s.toArray⟩
theorem encs_lofs (xs : List ByteArray) : encs Value.string xs = (lofs xs).map encStr := by
  unfold encs lofs
  rw [List.map_map]
  apply List.map_congr_left
  intro s _
  simp
theorem encs_sofl (l : List (List UInt8)) : encs Value.string (sofl l) = l.map encStr := by
  unfold encs sofl
  rw [List.map_map]
  rfl
theorem lofs_length (xs : List ByteArray) : (lofs xs).length = xs.length := List.length_map _
theorem sofl_length (l : List (List UInt8)) : (sofl l).length = l.length := List.length_map _
theorem sofl_lofs (xs : List ByteArray) : sofl (lofs xs) = xs := by
  unfold sofl lofs
  rw [List.map_map]
  conv => rhs; rw [← List.map_id xs]
  apply List.map_congr_left
  intro s _
  simp
theorem lofs_sofl (l : List (List UInt8)) : lofs (sofl l) = l := by
  unfold sofl lofs
  rw [List.map_map]
  conv => rhs; rw [← List.map_id l]
  apply List.map_congr_left
  intro s _
  simp
def sortL (l : List (List UInt8)) : List (List UInt8) := l.mergeSort fun x y => decide (x ≤ y)
def sortS (xs : List ByteArray) : List ByteArray := sofl (sortL (lofs xs))
def compS (xs : List ByteArray) : List ByteArray := sofl (Lib.compact (lofs xs))
theorem sortL_length (l : List (List UInt8)) : (sortL l).length = l.length := List.length_mergeSort l
theorem sortS_length (xs : List ByteArray) : (sortS xs).length = xs.length := by unfold sortS; rw [sofl_length, sortL_length, lofs_length]
theorem compact_length_le (l : List (List UInt8)) : (Lib.compact l).length ≤ l.length := by
  unfold Lib.compact Lib.compactUpTo
  rw [List.length_map]
  exact Nat.le_trans (List.length_filter_le _ _) (by simp)
theorem below_row {w0 w : World} {g n : Nat} {os : Array Obj} (d : Array (List UInt8)) (h : Below w0.heap.size w0 w) (hg : w0.heap.size ≤ g) : Below w0.heap.size w0 (grow (putRow encStr (Sort.ahead w n) g 0 d) os) := by
  have hgr := grownBy_sorted (w := w) (g := g) (n := n) (os := os) d
  exact h.grown hgr h.size (fun j hj => by cases hj; exact hg)
theorem sort_step {v : Value} {xs : List ByteArray} {w wc : World} (hR : Kd.R Kd.string 9 wc w.heap.size (fun _ => True) v xs) (hB : Below w.heap.size w wc) (hlen : xs.length ≤ 8796093022208) :
    Calls Try.prog 70 #[v] wc fun e w' => e = .returned (.tuple #[]) ∧ Kd.R Kd.string 9 w' w.heap.size (fun _ => True) v (sortS xs) ∧ Below w.heap.size w w' := by
  have ho := Kd.own_of_R hR
  rw [encs_lofs] at ho
  obtain ⟨hl, ho⟩ := ho
  rcases ho with ⟨rfl, h0⟩ | ⟨g, cap, cur, rfl, hbase, hg, h1, h2, h3, h4⟩
  · obtain rfl : xs = [] := List.eq_nil_of_length_eq_zero h0
    refine (Try.slices_Sort_string_none none 0 wc).mono ?_
    rintro e w' ⟨rfl, rfl⟩
    exact ⟨rfl, by rw [show sortS [] = [] by simp [sortS, sortL, lofs, sofl]]; exact Kd.R_nil _ _ _ _ _, hB⟩
  · have hgs : g < wc.heap.size := (Array.getElem?_eq_some_iff.1 hg).1
    have hH : Holds encStr wc g 0 (lofs xs).toArray := holds_of_block hg (by rw [lofs_length, ← Nat.mul_one xs.length]; exact h4)
    have hc := Try.slices_Sort_string g 0 cap (lofs xs) wc hH hgs (by rw [lofs_length]; omega)
    rw [lofs_length] at hc
    refine hc.mono ?_
    rintro e w' ⟨rfl, n, os, rfl⟩
    refine ⟨rfl, ?_, below_row _ hB hbase⟩
    have hls : (sortL (lofs xs)).length = (lofs xs).length := sortL_length _
    have hown := ownsRow_sorted (n := n) (os := os) hls hbase hg (by rw [lofs_length]; exact h1) h2 h3
    rw [lofs_length, ← encs_sofl] at hown
    have hsl : (sortS xs).length = xs.length := by unfold sortS; rw [sofl_length, sortL_length, lofs_length]
    have := Kd.R_of_own (enc := Value.string) (h1 := fun _ => rfl) (xs := sortS xs) (ok := fun _ => True) (by rw [hsl]; exact hown) (fun _ _ => trivial)
    exact this
theorem take_put2 (cur : Array Value) (ts us : List (List UInt8)) (h : ts.length + us.length ≤ cur.size) : (putCells encStr 0 (ts ++ us).toArray cur).toList.take ts.length = ts.map encStr := by
  have h2 := take_putCells cur (ts ++ us) (by rw [List.length_append]; exact h)
  have h3 := congrArg (List.take ts.length) h2
  rw [List.take_take, List.length_append, Nat.min_eq_left (Nat.le_add_right _ _)] at h3
  rw [h3, List.map_append, List.take_left' (List.length_map _)]
theorem compact_step {v : Value} {xs : List ByteArray} {w wc : World} (hR : Kd.R Kd.string 9 wc w.heap.size (fun _ => True) v xs) (hB : Below w.heap.size w wc) (hlen : xs.length ≤ 8796093022208) :
    Calls Try.prog 71 #[v] wc fun e w' => ∃ v' : Value, e = .returned v' ∧ Kd.R Kd.string 9 w' w.heap.size (fun _ => True) v' (compS xs) ∧ Below w.heap.size w w' := by
  have ho := Kd.own_of_R hR
  rw [encs_lofs] at ho
  obtain ⟨hl, ho⟩ := ho
  rcases ho with ⟨rfl, h0⟩ | ⟨g, cap, cur, rfl, hbase, hg, h1, h2, h3, h4⟩
  · obtain rfl : xs = [] := List.eq_nil_of_length_eq_zero h0
    refine (Try.slices_Compact_string_empty none 0 wc).mono ?_
    rintro e w' ⟨rfl, rfl⟩
    exact ⟨_, rfl, by rw [show compS [] = [] by simp [compS, Lib.compact, Lib.compactUpTo, lofs, sofl]]; exact Kd.R_nil _ _ _ _ _, hB⟩
  · have hH : Holds encStr wc g 0 (lofs xs).toArray := holds_of_block hg (by rw [lofs_length, ← Nat.mul_one xs.length]; exact h4)
    have hc := Try.slices_Compact_string g 0 cap (lofs xs) wc hH (by rw [lofs_length]; omega) (by rw [lofs_length]; exact h1)
    rw [lofs_length] at hc
    refine hc.mono ?_
    rintro e w' ⟨rfl, q, rfl⟩
    have hle := compact_length_le (lofs xs)
    rw [lofs_length] at hle
    have hB2 := below_row (n := q) (os := #[]) (Lib.compact (lofs xs) ++ List.replicate (xs.length - (Lib.compact (lofs xs)).length) []).toArray hB hbase
    rw [grow_empty] at hB2
    refine ⟨_, rfl, ?_, hB2⟩
    have hsl : (compS xs).length = (Lib.compact (lofs xs)).length := by unfold compS; rw [sofl_length]
    have hh := heap_sorted (n := q) (os := #[]) (Lib.compact (lofs xs) ++ List.replicate (xs.length - (Lib.compact (lofs xs)).length) []).toArray hg
    rw [grow_empty] at hh
    have := Kd.R_of_own (enc := Value.string) (h1 := fun _ => rfl) (xs := compS xs) (ok := fun _ => True) (e := 9) (base := w.heap.size) (v := .slice (some ⟨g, 0, none⟩) (Lib.compact (lofs xs)).length cap) (w := putRow encStr (Sort.ahead wc q) g 0 (Lib.compact (lofs xs) ++ List.replicate (xs.length - (Lib.compact (lofs xs)).length) []).toArray)
      (by
        rw [hsl]
        refine ⟨by rw [encs_length, hsl, Nat.mul_one], .inr ⟨g, cap, _, rfl, hbase, hh, by omega, h2, by simp [putCells, h3], ?_⟩⟩
        unfold compS
        rw [encs_sofl, Nat.mul_one]
        refine take_put2 cur _ _ ?_
        rw [List.length_replicate]
        omega)
      (fun _ _ => trivial)
    exact this
end Go.Proofs.Ytenlmckahaniiaa.K
end
