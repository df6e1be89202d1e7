/- Lemmas for several laws: what their proofs need of this seat's texts, in one place. -/
import Derived.Laws.Cover1
import Derived.Sort.OwnSorted
import Derived.Test.YtenlmckahaniiaaZcLc10
set_option linter.unusedVariables false
set_option linter.unusedSimpArgs false
set_option linter.unusedSectionVars false
set_option maxHeartbeats 8000000
set_option maxRecDepth 100000
section
namespace Go.Proofs.Ytenlmckahaniiaa.K
open Go.RowKit Go.Proofs.YtenlmckahaniiaaW.PrintWords Go.Proofs.YtenlmckahaniiaaW.PrintLast
def zqr.l0 : Nat → List Int → List Int → Int → Option (Bool)
  | 0, _, _, _ => none
  | k + 1, x0, x1, x5 => if x5 < (x0.length : Int) then (if 0 ≤ x5 then (if x5 < (x1.length : Int) then (if (rd x0 x5) = (rd x1 x5) then (zqr.l0 k x0 x1 (wrap64 (x5 + 1))) else (some false)) else (none)) else (none)) else (some true)
def zqr.f (k : Nat) (l0 : List Int) (l1 : List Int) : Option (Bool) := if (l0.length : Int) = (l1.length : Int) then (zqr.l0 k l0 l1 0) else (some false)
theorem zqr.calls (k : Nat) (A0 : Option Addr) (c0 : Nat) (l0 : List Int) (A1 : Option Addr) (c1 : Nat) (l1 : List Int) (r : Bool) (w : World) (hr0 : Kd.C (Kd.int .i64) w A0 l0.length l0) (hc0 : l0.length ≤ c0) (hr1 : Kd.C (Kd.int .i64) w A1 l1.length l1) (hc1 : l1.length ≤ c1) (h : zqr.f k l0 l1 = some r) :
  Calls Try.prog 42 #[.slice A0 l0.length c0, .slice A1 l1.length c1] w fun e w' => e = .returned (.bool r) ∧ Drawn0 w w' := by
 have HR0 := q_ hr0
 have HC0 := q_ hc0
 clear hr0 hc0
 have HR1 := q_ hr1
 have HC1 := q_ hc1
 clear hr1 hc1
 have H : (if (l0.length : Int) = (l1.length : Int) then (zqr.l0 k l0 l1 0) else (some false)) = some r := h
 clear h
 by_cases c3 : (l0.length : Int) = (l1.length : Int)
 rotate_left
 ·rw [if_neg c3] at H
  have c3b0 : ((l0.length : Int) == (l1.length : Int)) = false := beq_eq_false_iff_ne.mpr c3
  have c3b1 : ((l0.length : Int) != (l1.length : Int)) = true := bne_iff_ne.mpr c3
  have c3b2 : (l0.length == l1.length) = false := by first | simpa using c3 | (simp at c3 ⊢; omega)
  obtain rfl := Option.some.inj H
  go_enter Try.func42, Try.ntmps42
  go_wp2
  repeat (go_quiet (fail); try go_wp2)
  go_ret
  exact ⟨by first | rfl | (simp; done) | (simp [y0m]; done) | (simp [*]; done), by repeat (first | exact Drawn0.refl _ | apply Drawn0.step)⟩
 rw [if_pos c3] at H
 have c3b0 : ((l0.length : Int) == (l1.length : Int)) = true := beq_iff_eq.mpr c3
 have c3b1 : ((l0.length : Int) != (l1.length : Int)) = false := bne_eq_false_iff_eq.mpr c3
 have c3b2 : (l0.length == l1.length) = true := by first | simpa using c3 | (simp at c3 ⊢; omega)
 clear c3
 have H' := q_ H
 clear H
 go_enter Try.func42, Try.ntmps42
 go_wp2
 repeat (go_quiet (fail); try go_wp2)
 go_loopg [5] k (fun kq v5 w' => ∃ (x5_1 : Int), v5 = .int .i64 x5_1 ∧ Aside0 (zqr.l0 kq l0 l1 x5_1 = some r) ∧ Aside0 (kq ≤ k) ∧ Drawn0 w w')
 case atStart => exact ⟨(0), cl_, H', ⟨Nat.le_refl _⟩, by repeat (first | exact Drawn0.refl _ | apply Drawn0.step)⟩
 case round =>
  clear H'
  (try clear c1); (try clear p2); (try clear c3); (try clear c3b0); (try clear c3b1); (try clear c3b2)
  obtain ⟨x5_1, rfl, HA, HK1, ⟨m1, rfl⟩⟩ := hrel
  cases gk with
  | zero => exact absurd HA.out (by simp [zqr.l0])
  | succ k1 =>
   have H := HA.out
   clear HA
   simp only [zqr.l0] at H
   by_cases c4 : x5_1 < (l0.length : Int)
   rotate_left
   ·rw [if_neg c4] at H
    have c4b0 : decide (x5_1 < (l0.length : Int)) = false := decide_eq_false c4
    clear c4
    obtain rfl := Option.some.inj H
    go_wp2
    repeat (go_quiet (fail); try go_wp2)
    go_ret
    exact ⟨by first | rfl | (simp; done) | (simp [y0m]; done) | (simp [*]; done), by repeat (first | exact Drawn0.refl _ | apply Drawn0.step)⟩
   rw [if_pos c4] at H
   have c4b0 : decide (x5_1 < (l0.length : Int)) = true := decide_eq_true c4
   clear c4
   by_cases c5 : 0 ≤ x5_1
   rotate_left
   ·rw [if_neg c5] at H
    exact absurd H (by simp)
   rw [if_pos c5] at H
   have c5b0 : decide (0 ≤ x5_1) = true := decide_eq_true c5
   clear c5
   by_cases c6 : x5_1 < (l1.length : Int)
   rotate_left
   ·rw [if_neg c6] at H
    exact absurd H (by simp)
   rw [if_pos c6] at H
   have c6b0 : decide (x5_1 < (l1.length : Int)) = true := decide_eq_true c6
   clear c6
   by_cases c7 : (rd l0 x5_1) = (rd l1 x5_1)
   rotate_left
   ·rw [if_neg c7] at H
    have c7b0 : ((rd l0 x5_1) == (rd l1 x5_1)) = false := beq_eq_false_iff_ne.mpr c7
    have c7b1 : ((rd l0 x5_1) != (rd l1 x5_1)) = true := bne_iff_ne.mpr c7
    obtain rfl := Option.some.inj H
    have p751 : 0 ≤ (x5_1 : Int) := oa_
    have q751 : x5_1 < (l0.length : Int) := oa_
    obtain ⟨ad751, e751, hx751_0⟩ := Kd.at_int HR0.out x5_1 p751 q751
    cases e751
    replace p751 := eq_true p751
    replace q751 := eq_true q751
    have p752 : 0 ≤ (x5_1 : Int) := oa_
    have q752 : x5_1 < (l1.length : Int) := oa_
    obtain ⟨ad752, e752, hx752_0⟩ := Kd.at_int HR1.out x5_1 p752 q752
    cases e752
    replace p752 := eq_true p752
    replace q752 := eq_true q752
    go_wp2
    repeat (go_quiet (fail); try go_wp2)
    go_ret
    exact ⟨by first | rfl | (simp; done) | (simp [y0m]; done) | (simp [*]; done), by repeat (first | exact Drawn0.refl _ | apply Drawn0.step)⟩
   rw [if_pos c7] at H
   have c7b0 : ((rd l0 x5_1) == (rd l1 x5_1)) = true := beq_iff_eq.mpr c7
   have c7b1 : ((rd l0 x5_1) != (rd l1 x5_1)) = false := bne_eq_false_iff_eq.mpr c7
   clear c7
   have H' := q_ H
   clear H
   have p751 : 0 ≤ (x5_1 : Int) := oa_
   have q751 : x5_1 < (l0.length : Int) := oa_
   obtain ⟨ad751, e751, hx751_0⟩ := Kd.at_int HR0.out x5_1 p751 q751
   cases e751
   replace p751 := eq_true p751
   replace q751 := eq_true q751
   have p752 : 0 ≤ (x5_1 : Int) := oa_
   have q752 : x5_1 < (l1.length : Int) := oa_
   obtain ⟨ad752, e752, hx752_0⟩ := Kd.at_int HR1.out x5_1 p752 q752
   cases e752
   replace p752 := eq_true p752
   replace q752 := eq_true q752
   go_wp2
   repeat (go_quiet (fail); try go_wp2)
   go_roundg k1
   case measure => have := HK1.out; omega
   case rel => exact ⟨(wrap64 (x5_1 + 1)), cl_, H', ⟨by have := HK1.out; omega⟩, by repeat (first | exact Drawn0.refl _ | apply Drawn0.step)⟩
end Go.Proofs.Ytenlmckahaniiaa.K
end
section
namespace Go.Proofs.Ytenlmckahaniiaa.K
open Go Go.Proofs Go.Shelf Go.RowKit Go.Lib Go.Sort Go.Proofs.YtenlmckahaniiaaW.PrintWords Go.Proofs.YtenlmckahaniiaaW.PrintLast
def lofs (xs : List ByteArray) : List (List UInt8) := xs.map fun s => s.data.toList
def sofl (l : List (List UInt8)) : List ByteArray := l.map fun s => ⟨s.toArray⟩
theorem encs_lofs (xs : List ByteArray) : encs Value.string xs = (lofs xs).map encStr := by
  unfold encs lofs
  rw [List.map_map]
  apply List.map_congr_left
  intro s _
  simp
theorem encs_sofl (l : List (List UInt8)) : encs Value.string (sofl l) = l.map encStr := by
  unfold encs sofl
  rw [List.map_map]
  rfl
theorem lofs_length (xs : List ByteArray) : (lofs xs).length = xs.length := List.length_map _
theorem y0t (l : List (List UInt8)) : (sofl l).length = l.length := List.length_map _
theorem sofl_lofs (xs : List ByteArray) : sofl (lofs xs) = xs := by
  unfold sofl lofs
  rw [List.map_map]
  conv => rhs; rw [← List.map_id xs]
  apply List.map_congr_left
  intro s _
  simp
theorem lofs_sofl (l : List (List UInt8)) : lofs (sofl l) = l := by
  unfold sofl lofs
  rw [List.map_map]
  conv => rhs; rw [← List.map_id l]
  apply List.map_congr_left
  intro s _
  simp
def sortL (l : List (List UInt8)) : List (List UInt8) := l.mergeSort fun x y => decide (x ≤ y)
def sortS (xs : List ByteArray) : List ByteArray := sofl (sortL (lofs xs))
def compS (xs : List ByteArray) : List ByteArray := sofl (Lib.compact (lofs xs))
theorem sortL_length (l : List (List UInt8)) : (sortL l).length = l.length := List.length_mergeSort l
theorem sortS_length (xs : List ByteArray) : (sortS xs).length = xs.length := by unfold sortS; rw [y0t, sortL_length, lofs_length]
theorem compact_length_le (l : List (List UInt8)) : (Lib.compact l).length ≤ l.length := by
  unfold Lib.compact Lib.compactUpTo
  rw [List.length_map]
  exact Nat.le_trans (List.length_filter_le _ _) (by simp)
theorem below_row {w0 w : World} {g n : Nat} {os : Array Obj} (d : Array (List UInt8)) (h : Below w0.heap.size w0 w) (hg : w0.heap.size ≤ g) : Below w0.heap.size w0 (grow (putRow encStr (Sort.ahead w n) g 0 d) os) := by
  have hgr := grownBy_sorted (w := w) (g := g) (n := n) (os := os) d
  exact h.grown hgr h.size (fun j hj => by cases hj; exact hg)
theorem sort_step {v : Value} {xs : List ByteArray} {w wc : World} (hR : Kd.R Kd.string 9 wc w.heap.size (fun _ => True) v xs) (hB : Below w.heap.size w wc) (hlen : xs.length ≤ 8796093022208) :
    Calls Try.prog 70 #[v] wc fun e w' => e = .returned (.tuple #[]) ∧ Kd.R Kd.string 9 w' w.heap.size (fun _ => True) v (sortS xs) ∧ Below w.heap.size w w' := by
  have ho := Kd.own_of_R hR
  rw [encs_lofs] at ho
  obtain ⟨hl, ho⟩ := ho
  rcases ho with ⟨rfl, h0⟩ | ⟨g, cap, cur, rfl, hbase, hg, h1, h2, h3, h4⟩
  · obtain rfl : xs = [] := List.eq_nil_of_length_eq_zero h0
    refine (Try.slices_Sort_string_none none 0 wc).mono ?_
    rintro e w' ⟨rfl, rfl⟩
    exact ⟨rfl, by rw [show sortS [] = [] by simp [sortS, sortL, lofs, sofl]]; exact Kd.R_nil _ _ _ _ _, hB⟩
  · have hgs : g < wc.heap.size := (Array.getElem?_eq_some_iff.1 hg).1
    have hH : Holds encStr wc g 0 (lofs xs).toArray := holds_of_block hg (by rw [lofs_length, ← Nat.mul_one xs.length]; exact h4)
    have hc := Try.slices_Sort_string g 0 cap (lofs xs) wc hH hgs (by rw [lofs_length]; omega)
    rw [lofs_length] at hc
    refine hc.mono ?_
    rintro e w' ⟨rfl, n, os, rfl⟩
    refine ⟨rfl, ?_, below_row _ hB hbase⟩
    have hls : (sortL (lofs xs)).length = (lofs xs).length := sortL_length _
    have hown := ownsRow_sorted (n := n) (os := os) hls hbase hg (by rw [lofs_length]; exact h1) h2 h3
    rw [lofs_length, ← encs_sofl] at hown
    have hsl : (sortS xs).length = xs.length := by unfold sortS; rw [y0t, sortL_length, lofs_length]
    have := Kd.R_of_own (enc := Value.string) (h1 := fun _ => rfl) (xs := sortS xs) (ok := fun _ => True) (by rw [hsl]; exact hown) (fun _ _ => trivial)
    exact this
theorem take_put2 (cur : Array Value) (ts us : List (List UInt8)) (h : ts.length + us.length ≤ cur.size) : (putCells encStr 0 (ts ++ us).toArray cur).toList.take ts.length = ts.map encStr := by
  have h2 := take_putCells cur (ts ++ us) (by rw [List.length_append]; exact h)
  have h3 := congrArg (List.take ts.length) h2
  rw [List.take_take, List.length_append, Nat.min_eq_left (Nat.le_add_right _ _)] at h3
  rw [h3, List.map_append, List.take_left' (List.length_map _)]
theorem compact_step {v : Value} {xs : List ByteArray} {w wc : World} (hR : Kd.R Kd.string 9 wc w.heap.size (fun _ => True) v xs) (hB : Below w.heap.size w wc) (hlen : xs.length ≤ 8796093022208) :
    Calls Try.prog 71 #[v] wc fun e w' => ∃ v' : Value, e = .returned v' ∧ Kd.R Kd.string 9 w' w.heap.size (fun _ => True) v' (compS xs) ∧ Below w.heap.size w w' := by
  have ho := Kd.own_of_R hR
  rw [encs_lofs] at ho
  obtain ⟨hl, ho⟩ := ho
  rcases ho with ⟨rfl, h0⟩ | ⟨g, cap, cur, rfl, hbase, hg, h1, h2, h3, h4⟩
  · obtain rfl : xs = [] := List.eq_nil_of_length_eq_zero h0
    refine (Try.slices_Compact_string_empty none 0 wc).mono ?_
    rintro e w' ⟨rfl, rfl⟩
    exact ⟨_, rfl, by rw [show compS [] = [] by simp [compS, Lib.compact, Lib.compactUpTo, lofs, sofl]]; exact Kd.R_nil _ _ _ _ _, hB⟩
  · have hH : Holds encStr wc g 0 (lofs xs).toArray := holds_of_block hg (by rw [lofs_length, ← Nat.mul_one xs.length]; exact h4)
    have hc := Try.slices_Compact_string g 0 cap (lofs xs) wc hH (by rw [lofs_length]; omega) (by rw [lofs_length]; exact h1)
    rw [lofs_length] at hc
    refine hc.mono ?_
    rintro e w' ⟨rfl, q, rfl⟩
    have hle := compact_length_le (lofs xs)
    rw [lofs_length] at hle
    have hB2 := below_row (n := q) (os := #[]) (Lib.compact (lofs xs) ++ List.replicate (xs.length - (Lib.compact (lofs xs)).length) []).toArray hB hbase
    rw [grow_empty] at hB2
    refine ⟨_, rfl, ?_, hB2⟩
    have hsl : (compS xs).length = (Lib.compact (lofs xs)).length := by unfold compS; rw [y0t]
    have hh := heap_sorted (n := q) (os := #[]) (Lib.compact (lofs xs) ++ List.replicate (xs.length - (Lib.compact (lofs xs)).length) []).toArray hg
    rw [grow_empty] at hh
    have := Kd.R_of_own (enc := Value.string) (h1 := fun _ => rfl) (xs := compS xs) (ok := fun _ => True) (e := 9) (base := w.heap.size) (v := .slice (some ⟨g, 0, none⟩) (Lib.compact (lofs xs)).length cap) (w := putRow encStr (Sort.ahead wc q) g 0 (Lib.compact (lofs xs) ++ List.replicate (xs.length - (Lib.compact (lofs xs)).length) []).toArray)
      (by
        rw [hsl]
        refine ⟨by rw [encs_length, hsl, Nat.mul_one], .inr ⟨g, cap, _, rfl, hbase, hh, by omega, h2, by simp [putCells, h3], ?_⟩⟩
        unfold compS
        rw [encs_sofl, Nat.mul_one]
        refine take_put2 cur _ _ ?_
        rw [List.length_replicate]
        omega)
      (fun _ _ => trivial)
    exact this
end Go.Proofs.Ytenlmckahaniiaa.K
end
section
namespace Go.Proofs.Ytenlmckahaniiaa.K
open Go.RowKit Go.Proofs.YtenlmckahaniiaaW.PrintWords Go.Proofs.YtenlmckahaniiaaW.PrintLast
def zq1j.l0 : Nat → List ByteArray → List (S43) → Int → Int → Option (List ByteArray)
  | 0, _, _, _, _ => none
  | k + 1, x3, x7, x8, x9 => if x9 < x8 then (if 0 ≤ x9 then (if x9 < (x7.length : Int) then (if ((y0r x7 x9).f2) = 4 then (if x3.length < 8796093022208 then (zq1j.l0 k (x3 ++ [(y0r x7 x9).f3]) x7 x8 (wrap64 (x9 + 1))) else (none)) else (zq1j.l0 k x3 x7 x8 (wrap64 (x9 + 1)))) else (none)) else (none)) else (some x3)
def zq1j.f (k : Nat) (a0_0 : ByteArray) (a0_1 : ByteArray) (a0_2 : ByteArray) (a0_3 : Int) (l0_4 : List (S62)) (l0_5 : List (S43)) : Option (List ByteArray) := (zq1j.l0 k ([] : List ByteArray) l0_5 (l0_5.length : Int) 0).bind fun t_ => (if t_.length ≤ 8796093022208 then (some (compS (sortS t_))) else none)
theorem zq1j.calls (k : Nat) (a0_0 : ByteArray) (a0_1 : ByteArray) (a0_2 : ByteArray) (a0_3 : Int) (A0_4 : Option Addr) (c0_4 : Nat) (l0_4 : List (S62)) (A0_5 : Option Addr) (c0_5 : Nat) (l0_5 : List (S43)) (r : List ByteArray) (w : World) (hr0_4 : Kd.C k62 w A0_4 l0_4.length l0_4) (hc0_4 : l0_4.length ≤ c0_4) (hr0_5 : Kd.C k43 w A0_5 l0_5.length l0_5) (hc0_5 : l0_5.length ≤ c0_5) (h : zq1j.f k a0_0 a0_1 a0_2 a0_3 l0_4 l0_5 = some r) :
  Calls Try.prog 27 #[.agg #[.string a0_0, .string a0_1, .string a0_2, .int .i64 a0_3, .slice A0_4 l0_4.length c0_4, .slice A0_5 l0_5.length c0_5]] w fun e w' => ∃ v0_ : Value, e = .returned (v0_) ∧ Kd.R Kd.string 9 w' w.heap.size (fun _ => True) v0_ r ∧ Below w.heap.size w w' := by
 have hu25 := Try.underlying25
 have hu43 := Try.underlying43
 have HR0_4 := q_ hr0_4
 have HC0_4 := q_ hc0_4
 clear hr0_4 hc0_4
 have HR0_5 := q_ hr0_5
 have HC0_5 := q_ hc0_5
 clear hr0_5 hc0_5
 have HB := q_ (Below.refl w.heap.size w)
 obtain ⟨t_, H, h⟩ := Option.bind_eq_some_iff.mp h
 obtain ⟨hlen_, h⟩ := ite_some h
 obtain rfl := Option.some.inj h
 clear h
 have HL_ := q_ hlen_
 clear hlen_
 have H' := q_ H
 clear H
 go_enter Try.func27, Try.ntmps27
 go_wp2_with (first | ((with_reducible refine y0k (N := 1) rfl ?_); refine y0g ?hg (N := 1) ?hd (cs := #[.string a0_0, .string a0_1, .string a0_2, .int .i64 a0_3, .slice A0_4 l0_4.length c0_4, .slice A0_5 l0_5.length c0_5]) (t := 25) ?hr ?_; (case hd => rfl); (case hg => rfl); (case hr => first | (go_simp; done) | (go_simp; rfl)); intro gb379 hg w2 hbox hb; have n0_ := q_ (y05 hb_ hb); have n1_ := q_ (hbox); have n2_ := q_ ((by rw [hg]; exact (y04 hb_) : w.heap.size ≤ gb379)); have n3_ := q_ ((by rw [hg]; exact (y04 hb_) : w.heap.size ≤ gb379)); clear HB; have HB := n0_; have BK379 := n1_; have GW379 := n2_; have GE379 := n3_; clear n0_ n1_ n2_ n3_; clear hb hbox hg; obtain ⟨hcz3_0, hfz3_0, hcz3_1, hfz3_1, hcz3_2, hfz3_2, hcz3_3, hfz3_3, hcz3_4, hfz3_4, hcz3_5, hfz3_5⟩ := b6_ BK379.out))
 go_loopg [3, 9] k (fun kq v3 v9 w' => ∃ (x3_1 : List ByteArray) (x9_1 : Int), v9 = .int .i64 x9_1 ∧ Aside0 (zq1j.l0 kq x3_1 l0_5 (l0_5.length : Int) x9_1 = some t_) ∧ Aside0 (kq ≤ k) ∧ Aside0 (Kd.R Kd.string 9 w' w.heap.size (fun _ => True) v3 x3_1) ∧ Aside0 (w'.heap[gb379]? = some (.cells #[.string a0_0, .string a0_1, .string a0_2, .int .i64 a0_3, (.slice A0_4 l0_4.length c0_4), (.slice A0_5 l0_5.length c0_5)] 25 (0, 0))) ∧ Aside0 (Below w.heap.size w w'))
 case atStart => exact ⟨(([] : List ByteArray)), (0), cl_, H', ⟨Nat.le_refl _⟩, ⟨by first | exact Kd.R_nil _ _ _ _ _ | exact Kd.N_nil _ _ _ _ _ | exact Kd.V_nil _ _ _ _ _ | exact Kd.Q_nil _ _ _ _ _ | exact Kd.S_nil _ _ _ _ _⟩, ⟨bk_ BK379.out⟩, ⟨hb_⟩⟩
 case round =>
  clear H'
  (try clear c2); (try clear p2); (try clear hcz3_0); (try clear hcz3_1); (try clear hcz3_2); (try clear hcz3_3); (try clear hcz3_4); (try clear hcz3_5); (try clear hfz3_0); (try clear hfz3_1); (try clear hfz3_2); (try clear hfz3_3); (try clear hfz3_4); (try clear hfz3_5)
  obtain ⟨x3_1, x9_1, rfl, HA, HK1, HO_3, BK379, HB⟩ := hrel
  cases gk with
  | zero => exact absurd HA.out (by simp [zq1j.l0])
  | succ k1 =>
   have H := HA.out
   clear HA
   simp only [zq1j.l0] at H
   by_cases c4 : x9_1 < (l0_5.length : Int)
   rotate_left
   ·rw [if_neg c4] at H
    have c4b0 : decide (x9_1 < (l0_5.length : Int)) = false := decide_eq_false c4
    clear c4
    obtain rfl := Option.some.inj H
    go_wp2_with (first | (go_at_call 70; (with_reducible refine (sort_step HO_3.out HB.out HL_.out).mono ?_); rintro e ws_ ⟨rfl, ho1, hb1⟩; have HO1 := q_ ho1; have HB1 := q_ hb1; have HL1 := q_ (show (sortS _).length ≤ 8796093022208 from (sortS_length _).symm ▸ HL_.out); clear ho1 hb1) | (go_at_call 71; (with_reducible refine (compact_step HO1.out HB1.out HL1.out).mono ?_); rintro e wc_ ⟨v2_, rfl, ho2, hb2⟩; have HO2 := q_ ho2; have HB2 := q_ hb2; clear ho2 hb2))
    go_ret
    exact ⟨_, rfl, HO2.out, HB2.out⟩
   rw [if_pos c4] at H
   have c4b0 : decide (x9_1 < (l0_5.length : Int)) = true := decide_eq_true c4
   clear c4
   by_cases c5 : 0 ≤ x9_1
   rotate_left
   ·rw [if_neg c5] at H
    exact absurd H (by simp)
   rw [if_pos c5] at H
   have c5b0 : decide (0 ≤ x9_1) = true := decide_eq_true c5
   clear c5
   by_cases c6 : x9_1 < (l0_5.length : Int)
   rotate_left
   ·rw [if_neg c6] at H
    exact absurd H (by simp)
   rw [if_pos c6] at H
   have c6b0 : decide (x9_1 < (l0_5.length : Int)) = true := decide_eq_true c6
   clear c6
   by_cases c7 : ((y0r l0_5 x9_1).f2) = 4
   rotate_left
   ·rw [if_neg c7] at H
    have c7b0 : (((y0r l0_5 x9_1).f2) == 4) = false := beq_eq_false_iff_ne.mpr c7
    have c7b1 : (((y0r l0_5 x9_1).f2) != 4) = true := bne_iff_ne.mpr c7
    have H' := q_ H
    clear H
    have p380 : 0 ≤ (x9_1 : Int) := oa_
    have q380 : x9_1 < (l0_5.length : Int) := oa_
    obtain ⟨ad380, e380, hx380_0, hx380_1, hx380_2, hx380_3, hx380_4⟩ := at_T43 HR0_5.out x9_1 p380 q380
    cases e380
    replace hx380_0 := cb_ HB.out hx380_0
    replace hx380_1 := cb_ HB.out hx380_1
    replace hx380_2 := cb_ HB.out hx380_2
    replace hx380_3 := cb_ HB.out hx380_3
    replace hx380_4 := cb_ HB.out hx380_4
    replace p380 := eq_true p380
    replace q380 := eq_true q380
    go_wp2_with (first | ((with_reducible refine y0k (N := 5) rfl ?_); refine y0g ?hg (N := 5) ?hd (cs := #[.int .i64 0, .int .i64 0, .int .i64 0, .string (⟨#[]⟩ : ByteArray), .bool false]) (t := 43) ?hr ?_; (case hd => rfl); (case hg => rfl); (case hr => first | (go_simp; done) | (go_simp; rfl)); intro gb381 hg w13 hbox hb; have n0_ := q_ (Kd.R_below (rk_ HO_3.out) hb); have n1_ := q_ (y07 (bk_ BK379.out) hb); have n2_ := q_ (y05 hb_ hb); have n3_ := q_ (hbox); have n4_ := q_ ((by rw [hg]; exact (y04 hb_) : w.heap.size ≤ gb381)); have n5_ := q_ ((by rw [hg]; exact (y04 hb_) : w.heap.size ≤ gb381)); have n6_ := q_ ((by rw [hg]; exact Nat.ne_of_lt (y0e (bk_ BK379.out)) : gb379 ≠ gb381)); have n7_ := q_ ((by rw [hg]; exact Nat.ne_of_gt (y0e (bk_ BK379.out)) : gb381 ≠ gb379)); clear HO_3 BK379 HB; have HO_3 := n0_; have BK379 := n1_; have HB := n2_; have BK381 := n3_; have GW381 := n4_; have GE381 := n5_; have NB379_381 := n6_; have NB381_379 := n7_; clear n0_ n1_ n2_ n3_ n4_ n5_ n6_ n7_; clear hb hbox hg; have hnb14 := NB381_379.out; have hnc14 := NB379_381.out; obtain ⟨hcz15_0, hfz15_0, hcz15_1, hfz15_1, hcz15_2, hfz15_2, hcz15_3, hfz15_3, hcz15_4, hfz15_4⟩ := b5_ BK381.out))
    go_roundg k1
    case measure => have := HK1.out; omega
    case rel => exact ⟨(x3_1), (wrap64 (x9_1 + 1)), cl_, H', ⟨by have := HK1.out; omega⟩, ⟨by (with_reducible repeat (first | apply Kd.R_alloc | apply Kd.R_drewN | apply Kd.R_drew)); exact Kd.R_mono (Kd.R_far (p := ⟨gb381, 4, none⟩) (Kd.R_far (p := ⟨gb381, 3, none⟩) (Kd.R_far (p := ⟨gb381, 2, none⟩) (Kd.R_far (p := ⟨gb381, 1, none⟩) (Kd.R_far (p := ⟨gb381, 0, none⟩) (Kd.R_types HO_3.out BK381.out (by decide)) (fun _ hk => hk.2) (.int .i64 ((y0r l0_5 x9_1).f0))) (fun _ hk => hk.2) (.int .i64 ((y0r l0_5 x9_1).f1))) (fun _ hk => hk.2) (.int .i64 ((y0r l0_5 x9_1).f2))) (fun _ hk => hk.2) (.string ((y0r l0_5 x9_1).f3))) (fun _ hk => hk.2) (.bool ((y0r l0_5 x9_1).f4))) (fun _ hk => trivial)⟩, ⟨by (with_reducible repeat (first | refine y0a ?_ _ | refine y09 ?_ | refine y06 ?_ _)); refine y0b ?_ NB379_381.out _; (with_reducible repeat (first | refine y0a ?_ _ | refine y09 ?_ | refine y06 ?_ _)); refine y0b ?_ NB379_381.out _; (with_reducible repeat (first | refine y0a ?_ _ | refine y09 ?_ | refine y06 ?_ _)); refine y0b ?_ NB379_381.out _; (with_reducible repeat (first | refine y0a ?_ _ | refine y09 ?_ | refine y06 ?_ _)); refine y0b ?_ NB379_381.out _; (with_reducible repeat (first | refine y0a ?_ _ | refine y09 ?_ | refine y06 ?_ _)); refine y0b ?_ NB379_381.out _; exact bk_ BK379.out⟩, ⟨hb_⟩⟩
   rw [if_pos c7] at H
   have c7b0 : (((y0r l0_5 x9_1).f2) == 4) = true := beq_iff_eq.mpr c7
   have c7b1 : (((y0r l0_5 x9_1).f2) != 4) = false := bne_eq_false_iff_eq.mpr c7
   clear c7
   by_cases c8 : x3_1.length < 8796093022208
   rotate_left
   ·rw [if_neg c8] at H
    exact absurd H (by simp)
   rw [if_pos c8] at H
   have LMc8 := q_ c8
   clear c8
   obtain ⟨y382, hy382⟩ : ∃ y_ : List ByteArray, y_ = (x3_1 ++ [(y0r l0_5 x9_1).f3]) := ⟨_, rfl⟩
   replace H : (zq1j.l0 k1 y382 l0_5 (l0_5.length : Int) (wrap64 (x9_1 + 1))) = some t_ := by first | (rw [hy382]; with_reducible exact H) | (have H2_ := (Option.bind_some _ _).symm.trans H; rw [hy382]; with_reducible exact H2_) | (have H2_ := (Option.bind_some _ _).symm.trans H; with_reducible exact H2_) | with_reducible exact H | (rw [hy382]; exact H) | exact H
   have Ny382 := q_ hy382
   clear hy382
   have H' := q_ H
   clear H
   have p380 : 0 ≤ (x9_1 : Int) := oa_
   have q380 : x9_1 < (l0_5.length : Int) := oa_
   obtain ⟨ad380, e380, hx380_0, hx380_1, hx380_2, hx380_3, hx380_4⟩ := at_T43 HR0_5.out x9_1 p380 q380
   cases e380
   replace hx380_0 := cb_ HB.out hx380_0
   replace hx380_1 := cb_ HB.out hx380_1
   replace hx380_2 := cb_ HB.out hx380_2
   replace hx380_3 := cb_ HB.out hx380_3
   replace hx380_4 := cb_ HB.out hx380_4
   replace p380 := eq_true p380
   replace q380 := eq_true q380
   go_wp2_with (first | ((with_reducible refine y0k (N := 5) rfl ?_); refine y0g ?hg (N := 5) ?hd (cs := #[.int .i64 0, .int .i64 0, .int .i64 0, .string (⟨#[]⟩ : ByteArray), .bool false]) (t := 43) ?hr ?_; (case hd => rfl); (case hg => rfl); (case hr => first | (go_simp; done) | (go_simp; rfl)); intro gb381 hg w9 hbox hb; have n0_ := q_ (Kd.R_below (rk_ HO_3.out) hb); have n1_ := q_ (y07 (bk_ BK379.out) hb); have n2_ := q_ (y05 hb_ hb); have n3_ := q_ (hbox); have n4_ := q_ ((by rw [hg]; exact (y04 hb_) : w.heap.size ≤ gb381)); have n5_ := q_ ((by rw [hg]; exact (y04 hb_) : w.heap.size ≤ gb381)); have n6_ := q_ ((by rw [hg]; exact Nat.ne_of_lt (y0e (bk_ BK379.out)) : gb379 ≠ gb381)); have n7_ := q_ ((by rw [hg]; exact Nat.ne_of_gt (y0e (bk_ BK379.out)) : gb381 ≠ gb379)); clear HO_3 BK379 HB; have HO_3 := n0_; have BK379 := n1_; have HB := n2_; have BK381 := n3_; have GW381 := n4_; have GE381 := n5_; have NB379_381 := n6_; have NB381_379 := n7_; clear n0_ n1_ n2_ n3_ n4_ n5_ n6_ n7_; clear hb hbox hg; have hnb10 := NB381_379.out; have hnc10 := NB379_381.out; obtain ⟨hcz11_0, hfz11_0, hcz11_1, hfz11_1, hcz11_2, hfz11_2, hcz11_3, hfz11_3, hcz11_4, hfz11_4⟩ := b5_ BK381.out) | ((with_reducible refine y0i (b := .append) (xs := #[.tmp 16, .tmp 19]) rfl ?_); at_builtin; refine Kd.R_append Kd.string (w0 := w) w.heap.size rfl (.tmp 16) (.tmp 19) 33 9 (.string ⟨#[]⟩) 16 rfl Try.underlying33 info9 rfl (by decide) (by omega) u3 x3_1 ((y0r l0_5 x9_1).f3) [.string ((y0r l0_5 x9_1).f3)] (fun _ => True) (fun _ => False) rfl (by first | (go_simp; done) | (go_simp; rfl)) ?aP (fun _ hk => hk.elim) ?aF ?aO ?aB ?aS ?aL ?_; (case aP => exact rfl); (case aB => exact hb_); (case aF => exact (fun _ _ => trivial)); (case aO => exact (by (with_reducible repeat (first | apply Kd.R_alloc | apply Kd.R_drewN | apply Kd.R_drew)); exact Kd.R_mono (Kd.R_far (p := ⟨gb381, 4, none⟩) (Kd.R_far (p := ⟨gb381, 3, none⟩) (Kd.R_far (p := ⟨gb381, 2, none⟩) (Kd.R_far (p := ⟨gb381, 1, none⟩) (Kd.R_far (p := ⟨gb381, 0, none⟩) (Kd.R_types HO_3.out BK381.out (by decide)) (fun _ hk => hk.2) (.int .i64 ((y0r l0_5 x9_1).f0))) (fun _ hk => hk.2) (.int .i64 ((y0r l0_5 x9_1).f1))) (fun _ hk => hk.2) (.int .i64 ((y0r l0_5 x9_1).f2))) (fun _ hk => hk.2) (.string ((y0r l0_5 x9_1).f3))) (fun _ hk => hk.2) (.bool ((y0r l0_5 x9_1).f4))) (fun _ hk => trivial))); (case aS => exact (y04 hb_)); (case aL => have := LMc8.out; omega); intro v383 w12 ho hb hg hat; rw [← Ny382.out] at ho; have n0_ := q_ (y0d (g := gb379) (o := .cells #[.string a0_0, .string a0_1, .string a0_2, .int .i64 a0_3, .slice A0_4 l0_4.length c0_4, .slice (some ad380) l0_5.length c0_5] 25 (0, 0)) (by (with_reducible repeat (first | refine y0a ?_ _ | refine y09 ?_ | refine y06 ?_ _)); refine y0b ?_ NB379_381.out _; (with_reducible repeat (first | refine y0a ?_ _ | refine y09 ?_ | refine y06 ?_ _)); refine y0b ?_ NB379_381.out _; (with_reducible repeat (first | refine y0a ?_ _ | refine y09 ?_ | refine y06 ?_ _)); refine y0b ?_ NB379_381.out _; (with_reducible repeat (first | refine y0a ?_ _ | refine y09 ?_ | refine y06 ?_ _)); refine y0b ?_ NB379_381.out _; (with_reducible repeat (first | refine y0a ?_ _ | refine y09 ?_ | refine y06 ?_ _)); refine y0b ?_ NB379_381.out _; exact bk_ BK379.out) hg (Kd.R_ne HO_3.out BK379.out (by decide))); have n1_ := q_ (y0d (g := gb381) (o := .cells #[.int .i64 ((y0r l0_5 x9_1).f0), .int .i64 ((y0r l0_5 x9_1).f1), .int .i64 ((y0r l0_5 x9_1).f2), .string ((y0r l0_5 x9_1).f3), .bool ((y0r l0_5 x9_1).f4)] 43 (0, 0)) (by (with_reducible repeat (first | refine y0a ?_ _ | refine y09 ?_ | refine y06 ?_ _)); refine y0f (cs := #[.int .i64 ((y0r l0_5 x9_1).f0), .int .i64 ((y0r l0_5 x9_1).f1), .int .i64 ((y0r l0_5 x9_1).f2), .string ((y0r l0_5 x9_1).f3), .bool false]) ?_ 4 _ rfl; (with_reducible repeat (first | refine y0a ?_ _ | refine y09 ?_ | refine y06 ?_ _)); refine y0f (cs := #[.int .i64 ((y0r l0_5 x9_1).f0), .int .i64 ((y0r l0_5 x9_1).f1), .int .i64 ((y0r l0_5 x9_1).f2), .string (⟨#[]⟩ : ByteArray), .bool false]) ?_ 3 _ rfl; (with_reducible repeat (first | refine y0a ?_ _ | refine y09 ?_ | refine y06 ?_ _)); refine y0f (cs := #[.int .i64 ((y0r l0_5 x9_1).f0), .int .i64 ((y0r l0_5 x9_1).f1), .int .i64 0, .string (⟨#[]⟩ : ByteArray), .bool false]) ?_ 2 _ rfl; (with_reducible repeat (first | refine y0a ?_ _ | refine y09 ?_ | refine y06 ?_ _)); refine y0f (cs := #[.int .i64 ((y0r l0_5 x9_1).f0), .int .i64 0, .int .i64 0, .string (⟨#[]⟩ : ByteArray), .bool false]) ?_ 1 _ rfl; (with_reducible repeat (first | refine y0a ?_ _ | refine y09 ?_ | refine y06 ?_ _)); refine y0f (cs := #[.int .i64 0, .int .i64 0, .int .i64 0, .string (⟨#[]⟩ : ByteArray), .bool false]) ?_ 0 _ rfl; exact bk_ BK381.out) hg (Kd.R_ne HO_3.out BK381.out (by decide))); have n2_ := q_ (hb); have n3_ := q_ (ho); clear BK379 BK381 HB HO_3; have BK379 := n0_; have BK381 := n1_; have HB := n2_; have HO384 := n3_; clear n0_ n1_ n2_ n3_; clear ho hb hg hat))
   go_roundg k1
   case measure => have := HK1.out; omega
   case rel => exact ⟨(y382), (wrap64 (x9_1 + 1)), cl_, H', ⟨by have := HK1.out; omega⟩, ⟨rk_ HO384.out⟩, ⟨bk_ BK379.out⟩, ⟨hb_⟩⟩
end Go.Proofs.Ytenlmckahaniiaa.K
end
section
namespace Go.Proofs.Ytenlmckahaniiaa.K
open Go.RowKit Go.Proofs.YtenlmckahaniiaaW.PrintWords Go.Proofs.YtenlmckahaniiaaW.PrintLast
mutual
def zq1h.l0 : Nat → List (S25) → List (S25) → Int → ByteArray → List (S25) → Int → Int → Option (Int)
  | 0, _, _, _, _, _, _, _ => none
  | k + 1, x0, x1, x5, x6, x15, x16, x17 => if x17 < x16 then (if 0 ≤ x17 then (if x17 < (x15.length : Int) then ((zq1j.f k ((y0q x15 x17).f0) ((y0q x15 x17).f1) ((y0q x15 x17).f2) ((y0q x15 x17).f3) ((y0q x15 x17).f4) ((y0q x15 x17).f5)).bind fun t755 => (zq1h.l1 k x0 x1 x5 x6 x15 x16 x17 t755 (t755.length : Int) 0)) else (none)) else (none)) else (some x5)
def zq1h.l1 : Nat → List (S25) → List (S25) → Int → ByteArray → List (S25) → Int → Int → List ByteArray → Int → Int → Option (Int)
  | 0, _, _, _, _, _, _, _, _, _, _ => none
  | k + 1, x0, x1, x5, x6, x15, x16, x17, x22, x23, x24 => if x24 < x23 then (if 0 ≤ x24 then (if x24 < (x22.length : Int) then (if x5 ≥ 0 then (zq1h.j2 k x0 x1 x5 x6 (rdOf ByteArray.empty x22 x24) x15 x16 x17 x22 x23 x24 (!(Op.bytesLess ((rdOf ByteArray.empty x22 x24).toList) x6.toList))) else (zq1h.j2 k x0 x1 x5 x6 (rdOf ByteArray.empty x22 x24) x15 x16 x17 x22 x23 x24 false)) else (none)) else (none)) else (zq1h.l0 k x0 x1 x5 x6 x15 x16 (wrap64 (x17 + 1)))
def zq1h.j2 : Nat → List (S25) → List (S25) → Int → ByteArray → ByteArray → List (S25) → Int → Int → List ByteArray → Int → Int → Bool → Option (Int)
  | 0, _, _, _, _, _, _, _, _, _, _, _, _ => none
  | k + 1, x0, x1, x5, x6, x10, x15, x16, x17, x22, x23, x24, x34 => if x34 = true then (zq1h.l1 k x0 x1 x5 x6 x15 x16 x17 x22 x23 (wrap64 (x24 + 1))) else ((zq1g.f x1 x10).bind fun bt759 => (if bt759.2 = true then (zq1h.l1 k x0 x1 x5 x6 x15 x16 x17 x22 x23 (wrap64 (x24 + 1))) else ((zq1g.f x0 x10).bind fun bt761 => (if bt761.2 = true then (zq1h.l1 k x0 x1 bt761.1 x10 x15 x16 x17 x22 x23 (wrap64 (x24 + 1))) else (zq1h.l1 k x0 x1 x5 x6 x15 x16 x17 x22 x23 (wrap64 (x24 + 1)))))))
end
def zq1h.f (k : Nat) (l0 : List (S25)) (l1 : List (S25)) : Option (Int) := zq1h.l0 k l0 l1 (-1) (⟨#[]⟩ : ByteArray) l1 (l1.length : Int) 0
theorem zq1h.calls (k : Nat) (A0 : Option Addr) (c0 : Nat) (l0 : List (S25)) (A1 : Option Addr) (c1 : Nat) (l1 : List (S25)) (r : Int) (w : World) (hr0 : Kd.C k25 w A0 l0.length l0) (hc0 : l0.length ≤ c0) (hr1 : Kd.C k25 w A1 l1.length l1) (hc1 : l1.length ≤ c1) (h : zq1h.f k l0 l1 = some r) :
  Calls Try.prog 84 #[.slice A0 l0.length c0, .slice A1 l1.length c1] w fun e w' => e = .returned (.int .i64 r) ∧ Below w.heap.size w w' := by
 have hu25 := Try.underlying25
 have HR0 := q_ hr0
 have HC0 := q_ hc0
 clear hr0 hc0
 have HR1 := q_ hr1
 have HC1 := q_ hc1
 clear hr1 hc1
 have HB := q_ (Below.refl w.heap.size w)
 have H : (zq1h.l0 k l0 l1 (-1) (⟨#[]⟩ : ByteArray) l1 (l1.length : Int) 0) = some r := h
 clear h
 have H' := q_ H
 clear H
 go_enter Try.func84, Try.ntmps84
 go_wp2
 go_loopg [5, 6, 17] k (fun kq v5 v6 v17 w' => ∃ (x5_1 : Int) (x6_1 : ByteArray) (x17_1 : Int), v5 = .int .i64 x5_1 ∧ v6 = .string x6_1 ∧ v17 = .int .i64 x17_1 ∧ Aside0 (zq1h.l0 kq l0 l1 x5_1 x6_1 l1 (l1.length : Int) x17_1 = some r) ∧ Aside0 (kq ≤ k) ∧ Aside0 (Below w.heap.size w w'))
 case atStart => exact ⟨((-1)), ((⟨#[]⟩ : ByteArray)), (0), cl_, cl_, cl_, H', ⟨Nat.le_refl _⟩, ⟨hb_⟩⟩
 case round =>
  clear H'
  obtain ⟨x5_1, x6_1, x17_1, rfl, rfl, rfl, HA, HK1, HB⟩ := hrel
  cases gk with
  | zero => exact absurd HA.out (by simp [zq1h.l0])
  | succ k1 =>
   have H := HA.out
   clear HA
   simp only [zq1h.l0] at H
   by_cases c3 : x17_1 < (l1.length : Int)
   rotate_left
   ·rw [if_neg c3] at H
    have c3b0 : decide (x17_1 < (l1.length : Int)) = false := decide_eq_false c3
    clear c3
    obtain rfl := Option.some.inj H
    go_wp2
    go_ret
    exact ⟨ew_, hb_⟩
   rw [if_pos c3] at H
   have c3b0 : decide (x17_1 < (l1.length : Int)) = true := decide_eq_true c3
   clear c3
   by_cases c4 : 0 ≤ x17_1
   rotate_left
   ·rw [if_neg c4] at H
    exact absurd H (by simp)
   rw [if_pos c4] at H
   have c4b0 : decide (0 ≤ x17_1) = true := decide_eq_true c4
   clear c4
   by_cases c5 : x17_1 < (l1.length : Int)
   rotate_left
   ·rw [if_neg c5] at H
    exact absurd H (by simp)
   rw [if_pos c5] at H
   have c5b0 : decide (x17_1 < (l1.length : Int)) = true := decide_eq_true c5
   clear c5
   replace H := Option.bind_eq_some_iff.mp H
   obtain ⟨t755, A60, H⟩ := H
   (try dsimp only at H)
   have A6 := q_ A60
   clear A60
   have H' := q_ H
   clear H
   have p753 : 0 ≤ (x17_1 : Int) := oa_
   have q753 : x17_1 < (l1.length : Int) := oa_
   obtain ⟨ad753, A753_4, c753_4, A753_5, c753_5, e753, hx753_0, hx753_1, hx753_2, hx753_3, hx753_4, hx753_5, hl753_4, hi753_4, hl753_5, hi753_5⟩ := at_T25 HR1.out x17_1 p753 q753
   cases e753
   replace hx753_0 := cb_ HB.out hx753_0
   replace hx753_1 := cb_ HB.out hx753_1
   replace hx753_2 := cb_ HB.out hx753_2
   replace hx753_3 := cb_ HB.out hx753_3
   replace hx753_4 := cb_ HB.out hx753_4
   replace hx753_5 := cb_ HB.out hx753_5
   have HR753_4 := q_ hi753_4
   have HC753_4 := q_ hl753_4
   clear hi753_4 hl753_4
   have HR753_5 := q_ hi753_5
   have HC753_5 := q_ hl753_5
   clear hi753_5 hl753_5
   replace p753 := eq_true p753
   replace q753 := eq_true q753
   go_wp2_with (first | ((with_reducible refine y0k (N := 8) rfl ?_); refine y0g ?hg (N := 8) ?hd (cs := #[.string (⟨#[]⟩ : ByteArray), .string (⟨#[]⟩ : ByteArray), .string (⟨#[]⟩ : ByteArray), .int .i64 0, .slice none 0 0, .slice none 0 0]) (t := 25) ?hr ?_; (case hd => rfl); (case hg => rfl); (case hr => first | (go_simp; done) | (go_simp; rfl)); intro gb754 hg w7 hbox hb; have n0_ := q_ (y05 hb_ hb); have n1_ := q_ (hbox); have n2_ := q_ ((by rw [hg]; exact (y04 hb_) : w.heap.size ≤ gb754)); have n3_ := q_ ((by rw [hg]; exact (y04 hb_) : w.heap.size ≤ gb754)); clear HB; have HB := n0_; have BK754 := n1_; have GW754 := n2_; have GE754 := n3_; clear n0_ n1_ n2_ n3_; clear hb hbox hg; obtain ⟨hcz8_0, hfz8_0, hcz8_1, hfz8_1, hcz8_2, hfz8_2, hcz8_3, hfz8_3, hcz8_4, hfz8_4, hcz8_5, hfz8_5⟩ := b6_ BK754.out) | ((with_reducible refine y0j (f := 27) rfl ?_); refine goesL_ (some 22) rfl rfl Try.func27 (by kernel_rfl) rfl #[.agg #[.string ((y0q l1 x17_1).f0), .string ((y0q l1 x17_1).f1), .string ((y0q l1 x17_1).f2), .int .i64 ((y0q l1 x17_1).f3), .slice A753_4 ((y0q l1 x17_1).f4).length c753_4, .slice A753_5 ((y0q l1 x17_1).f5).length c753_5]] rfl ar_ ?_; (with_reducible refine (zq1j.calls k1 ((y0q l1 x17_1).f0) ((y0q l1 x17_1).f1) ((y0q l1 x17_1).f2) ((y0q l1 x17_1).f3) _ _ ((y0q l1 x17_1).f4) _ _ ((y0q l1 x17_1).f5) t755 _ ?side1 ?side2 ?side3 ?side4 A6.out).mono ?_); (case side1 => exact Kd.C_below HR753_4.out hb_); (case side2 => exact HC753_4.out); (case side3 => exact Kd.C_below HR753_5.out hb_); (case side4 => exact HC753_5.out); rintro e w9 ⟨v756, rfl, ho0, hb⟩; refine ⟨_, rfl, ?_⟩; have n0_ := q_ (Kd.R_lower ho0 (y04 hb_)); have n1_ := q_ (y07 (g := gb754) (o := .cells #[.string ((y0q l1 x17_1).f0), .string ((y0q l1 x17_1).f1), .string ((y0q l1 x17_1).f2), .int .i64 ((y0q l1 x17_1).f3), .slice A753_4 ((y0q l1 x17_1).f4).length c753_4, .slice A753_5 ((y0q l1 x17_1).f5).length c753_5] 25 (0, 0)) (by (with_reducible repeat (first | refine y0a ?_ _ | refine y09 ?_ | refine y06 ?_ _)); refine y0f (cs := #[.string ((y0q l1 x17_1).f0), .string ((y0q l1 x17_1).f1), .string ((y0q l1 x17_1).f2), .int .i64 ((y0q l1 x17_1).f3), .slice A753_4 ((y0q l1 x17_1).f4).length c753_4, .slice none 0 0]) ?_ 5 _ rfl; (with_reducible repeat (first | refine y0a ?_ _ | refine y09 ?_ | refine y06 ?_ _)); refine y0f (cs := #[.string ((y0q l1 x17_1).f0), .string ((y0q l1 x17_1).f1), .string ((y0q l1 x17_1).f2), .int .i64 ((y0q l1 x17_1).f3), .slice none 0 0, .slice none 0 0]) ?_ 4 _ rfl; (with_reducible repeat (first | refine y0a ?_ _ | refine y09 ?_ | refine y06 ?_ _)); refine y0f (cs := #[.string ((y0q l1 x17_1).f0), .string ((y0q l1 x17_1).f1), .string ((y0q l1 x17_1).f2), .int .i64 0, .slice none 0 0, .slice none 0 0]) ?_ 3 _ rfl; (with_reducible repeat (first | refine y0a ?_ _ | refine y09 ?_ | refine y06 ?_ _)); refine y0f (cs := #[.string ((y0q l1 x17_1).f0), .string ((y0q l1 x17_1).f1), .string (⟨#[]⟩ : ByteArray), .int .i64 0, .slice none 0 0, .slice none 0 0]) ?_ 2 _ rfl; (with_reducible repeat (first | refine y0a ?_ _ | refine y09 ?_ | refine y06 ?_ _)); refine y0f (cs := #[.string ((y0q l1 x17_1).f0), .string (⟨#[]⟩ : ByteArray), .string (⟨#[]⟩ : ByteArray), .int .i64 0, .slice none 0 0, .slice none 0 0]) ?_ 1 _ rfl; (with_reducible repeat (first | refine y0a ?_ _ | refine y09 ?_ | refine y06 ?_ _)); refine y0f (cs := #[.string (⟨#[]⟩ : ByteArray), .string (⟨#[]⟩ : ByteArray), .string (⟨#[]⟩ : ByteArray), .int .i64 0, .slice none 0 0, .slice none 0 0]) ?_ 0 _ rfl; exact bk_ BK754.out) hb); have n2_ := q_ (y05 hb_ hb); clear BK754 HB; have HO757 := n0_; have BK754 := n1_; have HB := n2_; clear n0_ n1_ n2_; clear hb; clear ho0; obtain ⟨Ao10, co10, eo10⟩ := Kd.R_slice HO757.out; subst eo10))
   go_loopg [5, 6, 24] k1 (fun kq v5 v6 v24 w' => ∃ (x5_2 : Int) (x6_2 : ByteArray) (x24_2 : Int), v5 = .int .i64 x5_2 ∧ v6 = .string x6_2 ∧ v24 = .int .i64 x24_2 ∧ Aside0 (zq1h.l1 kq l0 l1 x5_2 x6_2 l1 (l1.length : Int) x17_1 t755 (t755.length : Int) x24_2 = some r) ∧ Aside0 (kq ≤ k1) ∧ Aside0 (Kd.R Kd.string 9 w' w.heap.size (fun _ => True) (.slice Ao10 t755.length co10) t755) ∧ Aside0 (w'.heap[gb754]? = some (.cells #[.string ((y0q l1 x17_1).f0), .string ((y0q l1 x17_1).f1), .string ((y0q l1 x17_1).f2), .int .i64 ((y0q l1 x17_1).f3), (.slice A753_4 ((y0q l1 x17_1).f4).length c753_4), (.slice A753_5 ((y0q l1 x17_1).f5).length c753_5)] 25 (0, 0))) ∧ Aside0 (Below w.heap.size w w'))
   case atStart => exact ⟨(x5_1), (x6_1), (0), cl_, cl_, cl_, H', ⟨Nat.le_refl _⟩, ⟨rk_ HO757.out⟩, ⟨bk_ BK754.out⟩, ⟨hb_⟩⟩
   case round =>
    clear H'
    clear c3b0; clear c4b0; clear c5b0; clear hcz8_0; clear hcz8_1; clear hcz8_2; clear hcz8_3; clear hcz8_4; clear hcz8_5; clear hfz8_0; clear hfz8_1; clear hfz8_2; clear hfz8_3; clear hfz8_4; clear hfz8_5; clear hx753_0; clear hx753_1; clear hx753_2; clear hx753_3; clear hx753_4; clear hx753_5; clear p753; clear q753
    obtain ⟨x5_2, x6_2, x24_2, rfl, rfl, rfl, HA, HK2, HO_22, BK754, HB⟩ := hrel
    cases gk with
    | zero => exact absurd HA.out (by simp [zq1h.l1])
    | succ k2 =>
     have H := HA.out
     clear HA
     simp only [zq1h.l1] at H
     by_cases c11 : x24_2 < (t755.length : Int)
     rotate_left
     ·rw [if_neg c11] at H
      have c11b0 : decide (x24_2 < (t755.length : Int)) = false := decide_eq_false c11
      clear c11
      have H' := q_ H
      clear H
      go_wp2
      go_roundg k2
      case measure => have := HK1.out; have := HK2.out; omega
      case rel => exact ⟨(x5_2), (x6_2), (wrap64 (x17_1 + 1)), cl_, cl_, cl_, H', ⟨by have := HK1.out; have := HK2.out; omega⟩, ⟨hb_⟩⟩
     rw [if_pos c11] at H
     have c11b0 : decide (x24_2 < (t755.length : Int)) = true := decide_eq_true c11
     clear c11
     by_cases c12 : 0 ≤ x24_2
     rotate_left
     ·rw [if_neg c12] at H
      exact absurd H (by simp)
     rw [if_pos c12] at H
     have c12b0 : decide (0 ≤ x24_2) = true := decide_eq_true c12
     clear c12
     by_cases c13 : x24_2 < (t755.length : Int)
     rotate_left
     ·rw [if_neg c13] at H
      exact absurd H (by simp)
     rw [if_pos c13] at H
     have c13b0 : decide (x24_2 < (t755.length : Int)) = true := decide_eq_true c13
     clear c13
     have HC14 := q_ H
     clear H
     have p758 : 0 ≤ (x24_2 : Int) := oa_
     have q758 : x24_2 < (t755.length : Int) := oa_
     obtain ⟨ad758, e758, hx758_0⟩ := Kd.at_string (Kd.R_reads' HO_22.out).2.2 x24_2 p758 q758
     cases e758
     replace p758 := eq_true p758
     replace q758 := eq_true q758
     go_upto_region 8 with (fail)
     go_cut [34] (fun v34 wc => ∃ (kq : Nat) (x34_13 : Bool), v34 = .bool x34_13 ∧ Aside0 (zq1h.j2 kq l0 l1 x5_2 x6_2 (rdOf ByteArray.empty t755 x24_2) l1 (l1.length : Int) x17_1 t755 (t755.length : Int) x24_2 x34_13 = some r) ∧ Aside0 (kq ≤ k2) ∧ Aside0 (Kd.R Kd.string 9 wc w.heap.size (fun _ => True) (.slice (some ad758) t755.length co10) t755) ∧ Aside0 (wc.heap[gb754]? = some (.cells #[.string ((y0q l1 x17_1).f0), .string ((y0q l1 x17_1).f1), .string ((y0q l1 x17_1).f2), .int .i64 ((y0q l1 x17_1).f3), (.slice A753_4 ((y0q l1 x17_1).f4).length c753_4), (.slice A753_5 ((y0q l1 x17_1).f5).length c753_5)] 25 (0, 0))) ∧ Aside0 (Below w.heap.size w wc))
     case first =>
      have H := HC14.out
      clear HC14
      by_cases c15 : x5_2 ≥ 0
      rotate_left
      ·rw [if_neg c15] at H
       have c15b0 : decide (0 ≤ x5_2) = false := decide_eq_false c15
       clear c15
       (first | rw [c15b0] | (simp only [i64_w, i32_w]; rw [c15b0]) | skip)
       have H' := q_ H
       clear H
       go_wp2
       go_meet
       case rel => exact ⟨_, (false), cl_, H', ⟨by have := HK1.out; have := HK2.out; first | omega | exact Nat.le_refl _⟩, ⟨rk_ HO_22.out⟩, ⟨bk_ BK754.out⟩, ⟨hb_⟩⟩
      rw [if_pos c15] at H
      have c15b0 : decide (0 ≤ x5_2) = true := decide_eq_true c15
      clear c15
      (first | rw [c15b0] | (simp only [i64_w, i32_w]; rw [c15b0]) | skip)
      cases hbl_ : Op.bytesLess ((rdOf ByteArray.empty t755 x24_2).toList) x6_2.toList with
      | true =>
       rw [hbl_] at H
       have H' := q_ H
       clear H
       go_wp2
       go_meet
       case rel => exact ⟨_, (!true), cl_, H', ⟨by have := HK1.out; have := HK2.out; first | omega | exact Nat.le_refl _⟩, ⟨rk_ HO_22.out⟩, ⟨bk_ BK754.out⟩, ⟨hb_⟩⟩
      | false =>
       rw [hbl_] at H
       have H' := q_ H
       clear H
       go_wp2
       go_meet
       case rel => exact ⟨_, (!false), cl_, H', ⟨by have := HK1.out; have := HK2.out; first | omega | exact Nat.le_refl _⟩, ⟨rk_ HO_22.out⟩, ⟨bk_ BK754.out⟩, ⟨hb_⟩⟩
     case rest =>
      clear HC14
      clear c11b0; clear c12b0; clear c13b0; clear hx758_0; clear p758; clear q758
      obtain ⟨kq, x34_13, rfl, HA, HJ13, HO_22, BK754, HB⟩ := hcut
      cases kq with
      | zero => exact absurd HA.out (by simp [zq1h.j2])
      | succ kj13 =>
       have H := HA.out
       clear HA
       simp only [zq1h.j2] at H
       by_cases c16 : x34_13 = true
       ·subst c16
        rw [if_pos rfl] at H
        have H' := q_ H
        clear H
        go_wp2
        go_roundg kj13
        case measure => have := HK1.out; have := HK2.out; have := HJ13.out; omega
        case rel => exact ⟨(x5_2), (x6_2), (wrap64 (x24_2 + 1)), cl_, cl_, cl_, H', ⟨by have := HK1.out; have := HK2.out; have := HJ13.out; omega⟩, ⟨rk_ HO_22.out⟩, ⟨bk_ BK754.out⟩, ⟨hb_⟩⟩
       replace c16 := Bool.eq_false_iff.mpr c16
       subst c16
       rw [if_neg (show ¬ (false = true) by decide)] at H
       replace H := Option.bind_eq_some_iff.mp H
       obtain ⟨⟨t759, t760⟩, A170, H⟩ := H
       (try dsimp only at H)
       have A17 := q_ A170
       clear A170
       by_cases c18 : t760 = true
       ·subst c18
        rw [if_pos rfl] at H
        have H' := q_ H
        clear H
        go_wp2_with (first | ((with_reducible refine y0j (f := 32) rfl ?_); refine goesL_ (some 38) rfl rfl Try.func32 (by kernel_rfl) rfl #[.slice (some ad753) l1.length c1, .string (rdOf ByteArray.empty t755 x24_2)] rfl ar_ ?_; (with_reducible refine (zq1g.calls _ _ l1 (rdOf ByteArray.empty t755 x24_2) t759 true _ ?side1 ?side2 A17.out).mono ?_); (case side1 => exact ck_ (Kd.C_below HR1.out HB.out)); (case side2 => exact HC1.out); rintro e w19 ⟨rfl, hb⟩; refine ⟨_, rfl, ?_⟩; have n0_ := q_ (Kd.R_below (rk_ HO_22.out) hb); have n1_ := q_ (y07 (bk_ BK754.out) hb); have n2_ := q_ (y05 hb_ hb); clear HO_22 BK754 HB; have HO_22 := n0_; have BK754 := n1_; have HB := n2_; clear n0_ n1_ n2_; clear hb))
        go_roundg kj13
        case measure => have := HK1.out; have := HK2.out; have := HJ13.out; omega
        case rel => exact ⟨(x5_2), (x6_2), (wrap64 (x24_2 + 1)), cl_, cl_, cl_, H', ⟨by have := HK1.out; have := HK2.out; have := HJ13.out; omega⟩, ⟨rk_ HO_22.out⟩, ⟨bk_ BK754.out⟩, ⟨hb_⟩⟩
       replace c18 := Bool.eq_false_iff.mpr c18
       subst c18
       rw [if_neg (show ¬ (false = true) by decide)] at H
       replace H := Option.bind_eq_some_iff.mp H
       obtain ⟨⟨t761, t762⟩, A200, H⟩ := H
       (try dsimp only at H)
       have A20 := q_ A200
       clear A200
       by_cases c21 : t762 = true
       ·subst c21
        rw [if_pos rfl] at H
        have H' := q_ H
        clear H
        go_wp2_with (first | ((with_reducible refine y0j (f := 32) rfl ?_); refine goesL_ (some 38) rfl rfl Try.func32 (by kernel_rfl) rfl #[.slice (some ad753) l1.length c1, .string (rdOf ByteArray.empty t755 x24_2)] rfl ar_ ?_; (with_reducible refine (zq1g.calls _ _ l1 (rdOf ByteArray.empty t755 x24_2) t759 false _ ?side1 ?side2 A17.out).mono ?_); (case side1 => exact ck_ (Kd.C_below HR1.out HB.out)); (case side2 => exact HC1.out); rintro e w22 ⟨rfl, hb⟩; refine ⟨_, rfl, ?_⟩; have n0_ := q_ (Kd.R_below (rk_ HO_22.out) hb); have n1_ := q_ (y07 (bk_ BK754.out) hb); have n2_ := q_ (y05 hb_ hb); clear HO_22 BK754 HB; have HO_22 := n0_; have BK754 := n1_; have HB := n2_; clear n0_ n1_ n2_; clear hb) | ((with_reducible refine y0j (f := 32) rfl ?_); refine goesL_ (some 45) rfl rfl Try.func32 (by kernel_rfl) rfl #[.slice A0 l0.length c0, .string (rdOf ByteArray.empty t755 x24_2)] rfl ar_ ?_; (with_reducible refine (zq1g.calls _ _ l0 (rdOf ByteArray.empty t755 x24_2) t761 true _ ?side1 ?side2 A20.out).mono ?_); (case side1 => exact ck_ (Kd.C_below HR0.out HB.out)); (case side2 => exact HC0.out); rintro e w23 ⟨rfl, hb⟩; refine ⟨_, rfl, ?_⟩; have n0_ := q_ (Kd.R_below (rk_ HO_22.out) hb); have n1_ := q_ (y07 (bk_ BK754.out) hb); have n2_ := q_ (y05 hb_ hb); clear HO_22 BK754 HB; have HO_22 := n0_; have BK754 := n1_; have HB := n2_; clear n0_ n1_ n2_; clear hb))
        go_roundg kj13
        case measure => have := HK1.out; have := HK2.out; have := HJ13.out; omega
        case rel => exact ⟨(t761), ((rdOf ByteArray.empty t755 x24_2)), (wrap64 (x24_2 + 1)), cl_, cl_, cl_, H', ⟨by have := HK1.out; have := HK2.out; have := HJ13.out; omega⟩, ⟨rk_ HO_22.out⟩, ⟨bk_ BK754.out⟩, ⟨hb_⟩⟩
       replace c21 := Bool.eq_false_iff.mpr c21
       subst c21
       rw [if_neg (show ¬ (false = true) by decide)] at H
       have H' := q_ H
       clear H
       go_wp2_with (first | ((with_reducible refine y0j (f := 32) rfl ?_); refine goesL_ (some 38) rfl rfl Try.func32 (by kernel_rfl) rfl #[.slice (some ad753) l1.length c1, .string (rdOf ByteArray.empty t755 x24_2)] rfl ar_ ?_; (with_reducible refine (zq1g.calls _ _ l1 (rdOf ByteArray.empty t755 x24_2) t759 false _ ?side1 ?side2 A17.out).mono ?_); (case side1 => exact ck_ (Kd.C_below HR1.out HB.out)); (case side2 => exact HC1.out); rintro e w24 ⟨rfl, hb⟩; refine ⟨_, rfl, ?_⟩; have n0_ := q_ (Kd.R_below (rk_ HO_22.out) hb); have n1_ := q_ (y07 (bk_ BK754.out) hb); have n2_ := q_ (y05 hb_ hb); clear HO_22 BK754 HB; have HO_22 := n0_; have BK754 := n1_; have HB := n2_; clear n0_ n1_ n2_; clear hb) | ((with_reducible refine y0j (f := 32) rfl ?_); refine goesL_ (some 45) rfl rfl Try.func32 (by kernel_rfl) rfl #[.slice A0 l0.length c0, .string (rdOf ByteArray.empty t755 x24_2)] rfl ar_ ?_; (with_reducible refine (zq1g.calls _ _ l0 (rdOf ByteArray.empty t755 x24_2) t761 false _ ?side1 ?side2 A20.out).mono ?_); (case side1 => exact ck_ (Kd.C_below HR0.out HB.out)); (case side2 => exact HC0.out); rintro e w25 ⟨rfl, hb⟩; refine ⟨_, rfl, ?_⟩; have n0_ := q_ (Kd.R_below (rk_ HO_22.out) hb); have n1_ := q_ (y07 (bk_ BK754.out) hb); have n2_ := q_ (y05 hb_ hb); clear HO_22 BK754 HB; have HO_22 := n0_; have BK754 := n1_; have HB := n2_; clear n0_ n1_ n2_; clear hb))
       go_roundg kj13
       case measure => have := HK1.out; have := HK2.out; have := HJ13.out; omega
       case rel => exact ⟨(x5_2), (x6_2), (wrap64 (x24_2 + 1)), cl_, cl_, cl_, H', ⟨by have := HK1.out; have := HK2.out; have := HJ13.out; omega⟩, ⟨rk_ HO_22.out⟩, ⟨bk_ BK754.out⟩, ⟨hb_⟩⟩
end Go.Proofs.Ytenlmckahaniiaa.K
end
