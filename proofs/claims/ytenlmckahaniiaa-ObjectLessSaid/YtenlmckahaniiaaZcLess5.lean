/- Lemmas for several laws: what their proofs need of this seat's texts, in one place. -/
import Derived.Sort.OwnSorted
import Derived.Test.YtenlmckahaniiaaZcLess4
set_option linter.unusedVariables false
set_option linter.unusedSimpArgs false
set_option linter.unusedSectionVars false
set_option maxHeartbeats 8000000
set_option maxRecDepth 100000
section
namespace Go.Proofs.Ytenlmckahaniiaa.K
open Go Go.Proofs Go.Shelf Go.RowKit Go.Lib Go.Sort Go.Proofs.YtenlmckahaniiaaW.PrintWords Go.Proofs.YtenlmckahaniiaaW.PrintLast
def lofs (xs : List ByteArray) : List (List UInt8) := xs.map fun s => s.data.toList
def sofl (l : List (List UInt8)) : List ByteArray := l.map fun s => ⟨s.toArray⟩
theorem encs_lofs (xs : List ByteArray) : encs Value.string xs = (lofs xs).map encStr := by
  unfold encs lofs
  rw [List.map_map]
  apply List.map_congr_left
  intro s _
  simp
theorem encs_sofl (l : List (List UInt8)) : encs Value.string (sofl l) = l.map encStr := by
  unfold encs sofl
  rw [List.map_map]
  rfl
theorem lofs_length (xs : List ByteArray) : (lofs xs).length = xs.length := List.length_map _
theorem sofl_length (l : List (List UInt8)) : (sofl l).length = l.length := List.length_map _
theorem sofl_lofs (xs : List ByteArray) : sofl (lofs xs) = xs := by
  unfold sofl lofs
  rw [List.map_map]
  conv => rhs; rw [← List.map_id xs]
  apply List.map_congr_left
  intro s _
  simp
theorem lofs_sofl (l : List (List UInt8)) : lofs (sofl l) = l := by
  unfold sofl lofs
  rw [List.map_map]
  conv => rhs; rw [← List.map_id l]
  apply List.map_congr_left
  intro s _
  simp
def sortL (l : List (List UInt8)) : List (List UInt8) := l.mergeSort fun x y => decide (x ≤ y)
def sortS (xs : List ByteArray) : List ByteArray := sofl (sortL (lofs xs))
def compS (xs : List ByteArray) : List ByteArray := sofl (Lib.compact (lofs xs))
theorem sortL_length (l : List (List UInt8)) : (sortL l).length = l.length := List.length_mergeSort l
theorem sortS_length (xs : List ByteArray) : (sortS xs).length = xs.length := by unfold sortS; rw [sofl_length, sortL_length, lofs_length]
theorem compact_length_le (l : List (List UInt8)) : (Lib.compact l).length ≤ l.length := by
  unfold Lib.compact Lib.compactUpTo
  rw [List.length_map]
  exact Nat.le_trans (List.length_filter_le _ _) (by simp)
theorem below_row {w0 w : World} {g n : Nat} {os : Array Obj} (d : Array (List UInt8)) (h : Below w0.heap.size w0 w) (hg : w0.heap.size ≤ g) : Below w0.heap.size w0 (grow (putRow encStr (Sort.ahead w n) g 0 d) os) := by
  have hgr := grownBy_sorted (w := w) (g := g) (n := n) (os := os) d
  exact h.grown hgr h.size (fun j hj => by cases hj; exact hg)
theorem sort_step {v : Value} {xs : List ByteArray} {w wc : World} (hR : Kd.R Kd.string 9 wc w.heap.size (fun _ => True) v xs) (hB : Below w.heap.size w wc) (hlen : xs.length ≤ 8796093022208) :
    Calls Try.prog 70 #[v] wc fun e w' => e = .returned (.tuple #[]) ∧ Kd.R Kd.string 9 w' w.heap.size (fun _ => True) v (sortS xs) ∧ Below w.heap.size w w' := by
  have ho := Kd.own_of_R hR
  rw [encs_lofs] at ho
  obtain ⟨hl, ho⟩ := ho
  rcases ho with ⟨rfl, h0⟩ | ⟨g, cap, cur, rfl, hbase, hg, h1, h2, h3, h4⟩
  · obtain rfl : xs = [] := List.eq_nil_of_length_eq_zero h0
    refine (Try.slices_Sort_string_none none 0 wc).mono ?_
    rintro e w' ⟨rfl, rfl⟩
    exact ⟨rfl, by rw [show sortS [] = [] by simp [sortS, sortL, lofs, sofl]]; exact Kd.R_nil _ _ _ _ _, hB⟩
  · have hgs : g < wc.heap.size := (Array.getElem?_eq_some_iff.1 hg).1
    have hH : Holds encStr wc g 0 (lofs xs).toArray := holds_of_block hg (by rw [lofs_length, ← Nat.mul_one xs.length]; exact h4)
    have hc := Try.slices_Sort_string g 0 cap (lofs xs) wc hH hgs (by rw [lofs_length]; omega)
    rw [lofs_length] at hc
    refine hc.mono ?_
    rintro e w' ⟨rfl, n, os, rfl⟩
    refine ⟨rfl, ?_, below_row _ hB hbase⟩
    have hls : (sortL (lofs xs)).length = (lofs xs).length := sortL_length _
    have hown := ownsRow_sorted (n := n) (os := os) hls hbase hg (by rw [lofs_length]; exact h1) h2 h3
    rw [lofs_length, ← encs_sofl] at hown
    have hsl : (sortS xs).length = xs.length := by unfold sortS; rw [sofl_length, sortL_length, lofs_length]
    have := Kd.R_of_own (enc := Value.string) (h1 := fun _ => rfl) (xs := sortS xs) (ok := fun _ => True) (by rw [hsl]; exact hown) (fun _ _ => trivial)
    exact this
theorem take_put2 (cur : Array Value) (ts us : List (List UInt8)) (h : ts.length + us.length ≤ cur.size) : (putCells encStr 0 (ts ++ us).toArray cur).toList.take ts.length = ts.map encStr := by
  have h2 := take_putCells cur (ts ++ us) (by rw [List.length_append]; exact h)
  have h3 := congrArg (List.take ts.length) h2
  rw [List.take_take, List.length_append, Nat.min_eq_left (Nat.le_add_right _ _)] at h3
  rw [h3, List.map_append, List.take_left' (List.length_map _)]
theorem compact_step {v : Value} {xs : List ByteArray} {w wc : World} (hR : Kd.R Kd.string 9 wc w.heap.size (fun _ => True) v xs) (hB : Below w.heap.size w wc) (hlen : xs.length ≤ 8796093022208) :
    Calls Try.prog 71 #[v] wc fun e w' => ∃ v' : Value, e = .returned v' ∧ Kd.R Kd.string 9 w' w.heap.size (fun _ => True) v' (compS xs) ∧ Below w.heap.size w w' := by
  have ho := Kd.own_of_R hR
  rw [encs_lofs] at ho
  obtain ⟨hl, ho⟩ := ho
  rcases ho with ⟨rfl, h0⟩ | ⟨g, cap, cur, rfl, hbase, hg, h1, h2, h3, h4⟩
  · obtain rfl : xs = [] := List.eq_nil_of_length_eq_zero h0
    refine (Try.slices_Compact_string_empty none 0 wc).mono ?_
    rintro e w' ⟨rfl, rfl⟩
    exact ⟨_, rfl, by rw [show compS [] = [] by simp [compS, Lib.compact, Lib.compactUpTo, lofs, sofl]]; exact Kd.R_nil _ _ _ _ _, hB⟩
  · have hH : Holds encStr wc g 0 (lofs xs).toArray := holds_of_block hg (by rw [lofs_length, ← Nat.mul_one xs.length]; exact h4)
    have hc := Try.slices_Compact_string g 0 cap (lofs xs) wc hH (by rw [lofs_length]; omega) (by rw [lofs_length]; exact h1)
    rw [lofs_length] at hc
    refine hc.mono ?_
    rintro e w' ⟨rfl, q, rfl⟩
    have hle := compact_length_le (lofs xs)
    rw [lofs_length] at hle
    have hB2 := below_row (n := q) (os := #[]) (Lib.compact (lofs xs) ++ List.replicate (xs.length - (Lib.compact (lofs xs)).length) []).toArray hB hbase
    rw [grow_empty] at hB2
    refine ⟨_, rfl, ?_, hB2⟩
    have hsl : (compS xs).length = (Lib.compact (lofs xs)).length := by unfold compS; rw [sofl_length]
    have hh := heap_sorted (n := q) (os := #[]) (Lib.compact (lofs xs) ++ List.replicate (xs.length - (Lib.compact (lofs xs)).length) []).toArray hg
    rw [grow_empty] at hh
    have := Kd.R_of_own (enc := Value.string) (h1 := fun _ => rfl) (xs := compS xs) (ok := fun _ => True) (e := 9) (base := w.heap.size) (v := .slice (some ⟨g, 0, none⟩) (Lib.compact (lofs xs)).length cap) (w := putRow encStr (Sort.ahead wc q) g 0 (Lib.compact (lofs xs) ++ List.replicate (xs.length - (Lib.compact (lofs xs)).length) []).toArray)
      (by
        rw [hsl]
        refine ⟨by rw [encs_length, hsl, Nat.mul_one], .inr ⟨g, cap, _, rfl, hbase, hh, by omega, h2, by simp [putCells, h3], ?_⟩⟩
        unfold compS
        rw [encs_sofl, Nat.mul_one]
        refine take_put2 cur _ _ ?_
        rw [List.length_replicate]
        omega)
      (fun _ _ => trivial)
    exact this
end Go.Proofs.Ytenlmckahaniiaa.K
end
section
namespace Go.Proofs.Ytenlmckahaniiaa.K
open Go.RowKit Go.Proofs.YtenlmckahaniiaaW.PrintWords Go.Proofs.YtenlmckahaniiaaW.PrintLast
def zqw.l0 : Nat → Int → List Int → Int → Int → Option (ByteArray)
  | 0, _, _, _, _ => none
  | k + 1, x0, x5, x12, x13 => if x13 < x12 then (if 0 ≤ (wrap64 (8 * x13)) then (if 0 ≤ x13 then (if x13 < (x5.length : Int) then (zqw.l0 k x0 (x5.set (x13 : Int).toNat ((shr .i64 (mx x0 0) (wrap64 (8 * x13))) % 256)) x12 (wrap64 (x13 + 1))) else (none)) else (none)) else (none)) else (some (strOfNums x5))
def zqw.f (k : Nat) (a0 : Int) (a1 : Int) : Option (ByteArray) := if 0 ≤ (mx 0 (mn a1 8)) then (if (mx 0 (mn a1 8) : Int).toNat ≤ 281474976710656 then ((some (List.replicate (mx 0 (mn a1 8) : Int).toNat 0 : List Int)).bind fun y148 => (zqw.l0 k a0 y148 (y148.length : Int) 0)) else (none)) else (none)
theorem zqw.mono_l : ∀ k, (∀ y0 y1 y2 y3, LeO (zqw.l0 k y0 y1 y2 y3) (zqw.l0 (k + 1) y0 y1 y2 y3))
 | 0 => fun _ _ _ _ r h => by simp [zqw.l0] at h
 | k + 1 => by
  have ih0 := zqw.mono_l k
  ·intro y0 y1 y2 y3
   unfold zqw.l0
   repeat' first
   | (with_reducible exact ih0 _ _ _ _)
   | (with_reducible exact LeO.refl _)
   | (with_reducible exact LeO.none _)
   | (with_reducible refine LeO.ite ?_ ?_)
   | (with_reducible refine LeO.bind ?_ (fun _ => ?_))
   | exact ih0 _ _ _ _
   | exact LeO.none _
   | refine LeO.ite ?_ ?_
   | refine LeO.bind ?_ (fun _ => ?_)
theorem zqw.mono : ∀ a0 a1 k, LeO (zqw.f k a0 a1) (zqw.f (k + 1) a0 a1) := by
 intro a0 a1 k
 have ih0 := zqw.mono_l k
 unfold zqw.f
 repeat' first
   | (with_reducible exact ih0 _ _ _ _)
   | (with_reducible exact LeO.refl _)
   | (with_reducible exact LeO.none _)
   | (with_reducible refine LeO.ite ?_ ?_)
   | (with_reducible refine LeO.bind ?_ (fun _ => ?_))
   | exact ih0 _ _ _ _
   | exact LeO.none _
   | refine LeO.ite ?_ ?_
   | refine LeO.bind ?_ (fun _ => ?_)
theorem zqw.calls (k : Nat) (a0 : Int) (a1 : Int) (r : ByteArray) (w : World) (h : zqw.f k a0 a1 = some r) :
  Calls Try.prog 78 #[.int .i64 a0, .int .i64 a1] w fun e w' => e = .returned (.string r) ∧ Below w.heap.size w w' := by
 have HB := Aside0.mk (Below.refl w.heap.size w)
 have H : (if 0 ≤ (mx 0 (mn a1 8)) then (if (mx 0 (mn a1 8) : Int).toNat ≤ 281474976710656 then ((some (List.replicate (mx 0 (mn a1 8) : Int).toNat 0 : List Int)).bind fun y148 => (zqw.l0 k a0 y148 (y148.length : Int) 0)) else (none)) else (none)) = some r := h
 clear h
 obtain ⟨ji3, hji3⟩ : ∃ j_ : Int, (mn a1 8) = j_ := ⟨_, rfl⟩
 replace H : (if 0 ≤ (mx 0 (ji3)) then (if (mx 0 (ji3) : Int).toNat ≤ 281474976710656 then ((some (List.replicate (mx 0 (ji3) : Int).toNat 0 : List Int)).bind fun y148 => (zqw.l0 k a0 y148 (y148.length : Int) 0)) else (none)) else (none)) = some r := by first | (rw [hji3] at H; exact H) | (simp only [hji3] at H ⊢; exact H)
 (try (have hji3h : ji3 ≤ 8 := by (rw [← hji3]; unfold mn; (repeat' split) <;> omega)))
 (try (have hji3g : ji3 ≤ 64 := by omega))
 have hji3_ : (if 8 < a1 then 8 else a1) = ji3 := hji3
 (try (have hji3w : min a1 8 = ji3 := by rw [← hji3]; unfold mn; (repeat' split) <;> omega))
 obtain ⟨ji4, hji4⟩ : ∃ j_ : Int, (mx 0 (ji3)) = j_ := ⟨_, rfl⟩
 replace H : (if 0 ≤ (ji4) then (if (ji4 : Int).toNat ≤ 281474976710656 then ((some (List.replicate (ji4 : Int).toNat 0 : List Int)).bind fun y148 => (zqw.l0 k a0 y148 (y148.length : Int) 0)) else (none)) else (none)) = some r := by first | (rw [hji4] at H; exact H) | (simp only [hji4] at H ⊢; exact H)
 have hji4_ : (if 0 < (ji3) then (ji3) else 0) = ji4 := hji4
 (try (have hji4w : max 0 (ji3) = ji4 := by rw [← hji4]; unfold mx; (repeat' split) <;> omega))
 by_cases c5 : 0 ≤ (ji4)
 ·rw [if_pos c5] at H
  have c5b0 := eq_true c5
  have c5b1 : decide (0 ≤ (ji4)) = true := decide_eq_true c5
  clear c5
  by_cases c6 : (ji4 : Int).toNat ≤ 281474976710656
  ·rw [if_pos c6] at H
   have c6b0 := eq_true c6
   have c6b1 : decide ((ji4 : Int).toNat ≤ 281474976710656) = true := decide_eq_true c6
   clear c6
   obtain ⟨y148, hy148⟩ : ∃ y_ : List Int, y_ = (List.replicate (ji4 : Int).toNat 0) := ⟨_, rfl⟩
   replace H : (zqw.l0 k a0 y148 (y148.length : Int) 0) = some r := by first | (rw [hy148]; with_reducible exact H) | (have H2_ := (Option.bind_some _ _).symm.trans H; rw [hy148]; with_reducible exact H2_) | (have H2_ := (Option.bind_some _ _).symm.trans H; with_reducible exact H2_) | with_reducible exact H | (rw [hy148]; exact H) | exact H
   have Ny148 := Aside0.mk hy148
   clear hy148
   have H' := Aside0.mk H
   clear H
   go_enter Try.func78, Try.ntmps78
   go_wp2_with (first | ((with_reducible refine y0j (N := 10) rfl ?_); refine Kd.R_make (Kd.int .u8) _ 5 rfl (N := 10) rfl 39 _ _ rfl ji4 rfl rfl Try.underlying39 (.int .u8 0) 1 info5 rfl (by decide) (by omega) 0 (ok := fun _ => True) (okp := fun _ => True) rfl (fun _ hk => hk) trivial (oa_) (Nat.le_trans (Nat.mul_le_mul_right _ (oa_ : ji4.toNat ≤ 281474976710656)) (by omega)) (Below.refl _ _) (Nat.le_refl _) ?_; intro v149 w7 ho8 hb hg_ hnew_; clear hg_ hnew_; (first | rw [← Ny148.out] at ho8 | (simp only [Int.reduceToNat] at ho8; rw [← Ny148.out] at ho8)); have n0_ := Aside0.mk (Kd.R_lower ho8 (y03 hb_)); have n1_ := Aside0.mk (y04 hb_ hb); clear HB; have HO150 := n0_; have HB := n1_; clear n0_ n1_; clear hb ho8; obtain ⟨Ao9, co9, eo9⟩ := Kd.R_slice HO150.out; subst eo9))
   go_loopg [13] k (fun kq v13 w' => ∃ (x5_1 : List Int) (x13_1 : Int), v13 = .int .i64 x13_1 ∧ Aside0 (zqw.l0 kq a0 x5_1 (y148.length : Int) x13_1 = some r) ∧ Aside0 (kq ≤ k) ∧ Aside0 (Kd.R (Kd.int .u8) 5 w' w.heap.size (fun _ => True) (.slice Ao9 y148.length co9) x5_1) ∧ Aside0 (Below w.heap.size w w'))
   case atStart => exact ⟨(y148), (0), cl_, H', ⟨Nat.le_refl _⟩, ⟨rk_ HO150.out⟩, ⟨hb_⟩⟩
   case round =>
    clear H'
    (try clear p2); (try clear c5); (try clear c5b0); (try clear c5b1); (try clear c6); (try clear c6b0); (try clear c6b1); (try clear c7)
    obtain ⟨x5_1, x13_1, rfl, HA, HK1, HO_5, HB⟩ := hrel
    have hl5_1 := (Kd.R_reads' HO_5.out).1
    rw [hl5_1] at HO_5
    (try simp only [hl5_1])
    cases gk with
    | zero => exact absurd HA.out (by simp [zqw.l0])
    | succ k1 =>
     have H := HA.out
     clear HA
     simp only [zqw.l0] at H
     by_cases c10 : x13_1 < (y148.length : Int)
     ·rw [if_pos c10] at H
      have c10b0 : decide (x13_1 < (y148.length : Int)) = true := decide_eq_true c10
      (try simp only [hl5_1] at c10b0)
      clear c10
      obtain ⟨ji11, hji11⟩ : ∃ j_ : Int, (mx a0 0) = j_ := ⟨_, rfl⟩
      replace H : (if 0 ≤ (wrap64 (8 * x13_1)) then (if 0 ≤ x13_1 then (if x13_1 < (x5_1.length : Int) then (zqw.l0 k1 a0 (x5_1.set (x13_1 : Int).toNat ((shr .i64 (ji11) (wrap64 (8 * x13_1))) % 256)) (y148.length : Int) (wrap64 (x13_1 + 1))) else (none)) else (none)) else (none)) = some r := by first | (rw [hji11] at H; exact H) | (simp only [hji11] at H ⊢; exact H)
      have hji11_ : (if a0 < 0 then 0 else a0) = ji11 := hji11
      (try (have hji11w : max a0 0 = ji11 := by rw [← hji11]; unfold mx; (repeat' split) <;> omega))
      obtain ⟨ji12, hji12⟩ : ∃ j_ : Int, (wrap64 (8 * x13_1)) = j_ := ⟨_, rfl⟩
      replace H : (if 0 ≤ (ji12) then (if 0 ≤ x13_1 then (if x13_1 < (x5_1.length : Int) then (zqw.l0 k1 a0 (x5_1.set (x13_1 : Int).toNat ((shr .i64 (ji11) (ji12)) % 256)) (y148.length : Int) (wrap64 (x13_1 + 1))) else (none)) else (none)) else (none)) = some r := by first | (rw [hji12] at H; exact H) | (simp only [hji12] at H ⊢; exact H)
      have hji12w : (IntKind.i64.wrap (8 * x13_1)) = ji12 := (i64_w _).trans hji12
      by_cases c13 : 0 ≤ (ji12)
      ·rw [if_pos c13] at H
       have c13b0 := eq_true c13
       have c13b1 : decide (0 ≤ (ji12)) = true := decide_eq_true c13
       clear c13
       obtain ⟨ji14, hji14⟩ : ∃ j_ : Int, (shr .i64 (ji11) (ji12)) = j_ := ⟨_, rfl⟩
       replace H : (if 0 ≤ x13_1 then (if x13_1 < (x5_1.length : Int) then (zqw.l0 k1 a0 (x5_1.set (x13_1 : Int).toNat ((ji14) % 256)) (y148.length : Int) (wrap64 (x13_1 + 1))) else (none)) else (none)) = some r := by first | (rw [hji14] at H; exact H) | (simp only [hji14] at H ⊢; exact H)
       have hji14_ : ((ji11) / 2 ^ min (ji12).toNat 64) = ji14 := hji14
       have hji14z : (ji12) ≤ 64 → ((ji11) / 2 ^ (ji12).toNat) = ji14 := shr_small hji14
       by_cases c15 : 0 ≤ x13_1
       ·rw [if_pos c15] at H
        have c15b0 : decide (0 ≤ x13_1) = true := decide_eq_true c15
        clear c15
        by_cases c16 : x13_1 < (x5_1.length : Int)
        ·rw [if_pos c16] at H
         have c16b0 : decide (x13_1 < (x5_1.length : Int)) = true := decide_eq_true c16
         (try simp only [hl5_1] at c16b0)
         clear c16
         obtain ⟨y151, hy151⟩ : ∃ y_ : List Int, y_ = (x5_1.set (x13_1 : Int).toNat ((ji14) % 256)) := ⟨_, rfl⟩
         replace H : (zqw.l0 k1 a0 y151 (y148.length : Int) (wrap64 (x13_1 + 1))) = some r := by first | (rw [hy151]; with_reducible exact H) | (have H2_ := (Option.bind_some _ _).symm.trans H; rw [hy151]; with_reducible exact H2_) | (have H2_ := (Option.bind_some _ _).symm.trans H; with_reducible exact H2_) | with_reducible exact H | (rw [hy151]; exact H) | exact H
         have Ny151 := Aside0.mk hy151
         clear hy151
         have H' := Aside0.mk H
         clear H
         have p17 : 0 ≤ (x13_1 : Int) := oa_
         have q17 : (x13_1 : Int) < ((x5_1.length : Int) : Int) := oa_
         obtain ⟨go17, co17, eo17, gb17, gl17, cl17, HG17⟩ := Kd.R_form HO_5.out (by omega)
         (first | cases eo17 | (injection eo17 with ea_ en_ ec_; (first | subst ea_ | (injection ea_ with ea_; subst ea_)); subst ec_; clear en_))
         have GB17 := Aside0.mk gb17
         have GG17 := Aside0.mk HG17
         clear gb17 gl17 HG17
         obtain ⟨hx17_0, hf17_0⟩ := Kd.R_celln 0 HO_5.out (x13_1 : Int) p17 q17
         replace p17 := eq_true p17
         replace q17 := eq_true q17
         have HP18 := Kd.R_putg HO_5.out (x13_1 : Int) ((ji14) % 256)
         go_wp2_with (first | ((with_reducible refine gate_store (t := 5) (p := 24) rfl ?_); refine store_event (t := 5) (p := 24) (v := ?vo_w19) (w1 := (wr.setCell ⟨go17, (x13_1 : Int).toNat, none⟩ (.int .u8 ((ji14) % 256)))) ?hg ?ho ?hn ?hr ?_; (case ho => rfl); (case hg => rfl); (case hn => rfl); (case hr => first | (go_simp; done) | (go_simp; rfl)); intro w19 hw; have hg : wr.grownBy w19 (some go17) := (by rw [hw]; exact HP18.2); have hp_ : Kd.R (Kd.int .u8) 5 w19 w.heap.size (fun _ => True) (.slice (some ⟨go17, 0, none⟩) x5_1.length co9) y151 := (by rw [hw, Ny151.out]; exact HP18.1); clear HP18; have n0_ := Aside0.mk (hp_); have n1_ := Aside0.mk ((by rw [hw]; exact y02 (HB.out) GB17.out : Below w.heap.size w w19)); clear HO_5 HB; have HO_5 := n0_; have HB := n1_; clear n0_ n1_; (try (have hck18 : w19.cell? ⟨go17, (x13_1 : Int).toNat, none⟩ = some (.int .u8 ((ji14) % 256)) := by rw [hw]; exact World.cell?_setCell_same _ _ _ hx18_0)); clear hg hw hp_))
         (try simp only [← hl5_1])
         go_roundg k1
         case measure => have := HK1.out; omega
         case rel => exact ⟨(y151), (wrap64 (x13_1 + 1)), cl_, H', ⟨by have := HK1.out; omega⟩, ⟨by (try simp only [hl5_1]); (with_reducible repeat (first | apply Kd.R_alloc | apply Kd.R_drewN | apply Kd.R_drew)); exact HO_5.out⟩, ⟨hb_⟩⟩
        ·rw [if_neg c16] at H
         exact absurd H (by simp)
       ·rw [if_neg c15] at H
        exact absurd H (by simp)
      ·rw [if_neg c13] at H
       exact absurd H (by simp)
     ·rw [if_neg c10] at H
      have c10b0 : decide (x13_1 < (y148.length : Int)) = false := decide_eq_false c10
      (try simp only [hl5_1] at c10b0)
      clear c10
      obtain rfl := Option.some.inj H
      have hcv20 := own_string (P := Try.prog) Try.underlying39 Try.underlying5 Try.underlying9 (Kd.own_of_R HO_5.out)
      go_wp2
      go_ret
      exact ⟨by first | rfl | (simp [y0g, y0h] <;> rfl) | (simp only [← hji3, ← hji4]; first | rfl | (simp [y0g, y0h] <;> rfl)) | (simp [*, y0g, y0h] <;> rfl), hb_⟩
  ·rw [if_neg c6] at H
   exact absurd H (by simp)
 ·rw [if_neg c5] at H
  exact absurd H (by simp)
def zqr.l0 : Nat → List Int → List ByteArray → Int → Int → Option (ByteArray)
  | 0, _, _, _, _ => none
  | k + 1, x3, x6, x7, x8 => if x8 < x7 then (if 0 ≤ x8 then (if x8 < (x6.length : Int) then (if x3.length + (rdOf ByteArray.empty x6 x8).size < 140737488355328 then (zqr.l0 k (x3 ++ bytesOf (rdOf ByteArray.empty x6 x8)) x6 x7 (wrap64 (x8 + 1))) else (none)) else (none)) else (none)) else (some (strOfNums x3))
def zqr.f (k : Nat) (l0 : List ByteArray) : Option (ByteArray) := zqr.l0 k ([] : List Int) l0 (l0.length : Int) 0
theorem zqr.mono_l : ∀ k, (∀ y0 y1 y2 y3, LeO (zqr.l0 k y0 y1 y2 y3) (zqr.l0 (k + 1) y0 y1 y2 y3))
 | 0 => fun _ _ _ _ r h => by simp [zqr.l0] at h
 | k + 1 => by
  have ih0 := zqr.mono_l k
  ·intro y0 y1 y2 y3
   unfold zqr.l0
   repeat' first
   | (with_reducible exact ih0 _ _ _ _)
   | (with_reducible exact LeO.refl _)
   | (with_reducible exact LeO.none _)
   | (with_reducible refine LeO.ite ?_ ?_)
   | (with_reducible refine LeO.bind ?_ (fun _ => ?_))
   | exact ih0 _ _ _ _
   | exact LeO.none _
   | refine LeO.ite ?_ ?_
   | refine LeO.bind ?_ (fun _ => ?_)
theorem zqr.mono : ∀ a0 k, LeO (zqr.f k a0) (zqr.f (k + 1) a0) := by
 intro a0 k
 have ih0 := zqr.mono_l k
 unfold zqr.f
 repeat' first
   | (with_reducible exact ih0 _ _ _ _)
   | (with_reducible exact LeO.refl _)
   | (with_reducible exact LeO.none _)
   | (with_reducible refine LeO.ite ?_ ?_)
   | (with_reducible refine LeO.bind ?_ (fun _ => ?_))
   | exact ih0 _ _ _ _
   | exact LeO.none _
   | refine LeO.ite ?_ ?_
   | refine LeO.bind ?_ (fun _ => ?_)
theorem zqr.calls (k : Nat) (A0 : Option Addr) (c0 : Nat) (l0 : List ByteArray) (r : ByteArray) (w : World) (hr0 : Kd.C Kd.string w A0 l0.length l0) (hc0 : l0.length ≤ c0) (h : zqr.f k l0 = some r) :
  Calls Try.prog 89 #[.slice A0 l0.length c0] w fun e w' => e = .returned (.string r) ∧ Below w.heap.size w w' := by
 have HR0 := Aside0.mk hr0
 have HC0 := Aside0.mk hc0
 clear hr0 hc0
 have HB := Aside0.mk (Below.refl w.heap.size w)
 have H : (zqr.l0 k ([] : List Int) l0 (l0.length : Int) 0) = some r := h
 clear h
 have H' := Aside0.mk H
 clear H
 go_enter Try.func89, Try.ntmps89
 go_wp2
 go_loopg [3, 8] k (fun kq v3 v8 w' => ∃ (x3_1 : List Int) (x8_1 : Int), v8 = .int .i64 x8_1 ∧ Aside0 (zqr.l0 kq x3_1 l0 (l0.length : Int) x8_1 = some r) ∧ Aside0 (kq ≤ k) ∧ Aside0 (Kd.R (Kd.int .u8) 5 w' w.heap.size (fun _ => True) v3 x3_1) ∧ Aside0 (Below w.heap.size w w'))
 case atStart => exact ⟨(([] : List Int)), (0), cl_, H', ⟨Nat.le_refl _⟩, ⟨by first | exact Kd.R_nil _ _ _ _ _ | exact Kd.N_nil _ _ _ _ _ | exact Kd.V_nil _ _ _ _ _ | exact Kd.Q_nil _ _ _ _ _ | exact Kd.S_nil _ _ _ _ _⟩, ⟨hb_⟩⟩
 case round =>
  clear H'
  obtain ⟨x3_1, x8_1, rfl, HA, HK1, HO_3, HB⟩ := hrel
  cases gk with
  | zero => exact absurd HA.out (by simp [zqr.l0])
  | succ k1 =>
   have H := HA.out
   clear HA
   simp only [zqr.l0] at H
   by_cases c2 : x8_1 < (l0.length : Int)
   ·rw [if_pos c2] at H
    have c2b0 : decide (x8_1 < (l0.length : Int)) = true := decide_eq_true c2
    clear c2
    by_cases c3 : 0 ≤ x8_1
    ·rw [if_pos c3] at H
     have c3b0 : decide (0 ≤ x8_1) = true := decide_eq_true c3
     clear c3
     by_cases c4 : x8_1 < (l0.length : Int)
     ·rw [if_pos c4] at H
      have c4b0 : decide (x8_1 < (l0.length : Int)) = true := decide_eq_true c4
      clear c4
      by_cases c5 : x3_1.length + (rdOf ByteArray.empty l0 x8_1).size < 140737488355328
      ·rw [if_pos c5] at H
       have LMc5 := Aside0.mk c5
       clear c5
       obtain ⟨y153, hy153⟩ : ∃ y_ : List Int, y_ = (x3_1 ++ bytesOf (rdOf ByteArray.empty l0 x8_1)) := ⟨_, rfl⟩
       replace H : (zqr.l0 k1 y153 l0 (l0.length : Int) (wrap64 (x8_1 + 1))) = some r := by first | (rw [hy153]; with_reducible exact H) | (have H2_ := (Option.bind_some _ _).symm.trans H; rw [hy153]; with_reducible exact H2_) | (have H2_ := (Option.bind_some _ _).symm.trans H; with_reducible exact H2_) | with_reducible exact H | (rw [hy153]; exact H) | exact H
       have Ny153 := Aside0.mk hy153
       clear hy153
       have H' := Aside0.mk H
       clear H
       have p152 : 0 ≤ (x8_1 : Int) := oa_
       have q152 : x8_1 < (l0.length : Int) := oa_
       obtain ⟨ad152, e152, hx152_0⟩ := Kd.at_string HR0.out x8_1 p152 q152
       cases e152
       replace hx152_0 := (HB.out.cell (World.block_lt_of_cell? w _ hx152_0)).trans hx152_0
       replace p152 := eq_true p152
       replace q152 := eq_true q152
       go_wp2_with (first | (at_builtin; refine print_append_str (w0 := w) w.heap.size rfl (.tmp 12) _ 39 9 5 rfl Try.underlying39 Try.underlying9 info5 u3 x3_1 (rdOf ByteArray.empty l0 x8_1) rfl rfl ?aO ?aB ?aS ?aL ?_; (case aB => exact hb_); (case aO => exact (Kd.own_of_R (rk_ HO_3.out))); (case aS => exact (y03 hb_)); (case aL => have := LMc5.out; omega); intro v154 w6 ho0 hb hg; have ho := Kd.R_of_own (h1 := fun _ => rfl) (ok := fun _ => True) ho0 (fun _ _ => trivial); clear ho0; have hat := True.intro; rw [← Ny153.out] at ho; change Kd.R (Kd.int .u8) 5 w6 w.heap.size (fun _ => True) v154 y153 at ho; have n0_ := Aside0.mk (hb); have n1_ := Aside0.mk (ho); clear HB HO_3; have HB := n0_; have HO155 := n1_; clear n0_ n1_; clear ho hb hg hat))
       go_roundg k1
       case measure => have := HK1.out; omega
       case rel => exact ⟨(y153), (wrap64 (x8_1 + 1)), cl_, H', ⟨by have := HK1.out; omega⟩, ⟨rk_ HO155.out⟩, ⟨hb_⟩⟩
      ·rw [if_neg c5] at H
       exact absurd H (by simp)
     ·rw [if_neg c4] at H
      exact absurd H (by simp)
    ·rw [if_neg c3] at H
     exact absurd H (by simp)
   ·rw [if_neg c2] at H
    have c2b0 : decide (x8_1 < (l0.length : Int)) = false := decide_eq_false c2
    clear c2
    obtain rfl := Option.some.inj H
    have hcv7 := own_string (P := Try.prog) Try.underlying39 Try.underlying5 Try.underlying9 (Kd.own_of_R HO_3.out)
    go_wp2
    go_ret
    exact ⟨ew_, hb_⟩
end Go.Proofs.Ytenlmckahaniiaa.K
end
section
namespace Go.Proofs.Ytenlmckahaniiaa.K
open Go.RowKit Go.Proofs.YtenlmckahaniiaaW.PrintWords Go.Proofs.YtenlmckahaniiaaW.PrintLast
mutual
def zqx.l0 : Nat → Int → List ByteArray → Int → Int → Option (Int)
  | 0, _, _, _, _ => none
  | k + 1, x3, x8, x9, x10 => if x10 < x9 then (if 0 ≤ x10 then (if x10 < (x8.length : Int) then (zqx.l1 k x3 (rdOf ByteArray.empty x8 x10) x8 x9 x10 ((rdOf ByteArray.empty x8 x10).size : Int) 0) else (none)) else (none)) else (some (wrap64 (Go.bits .xor .u32 4294967295 x3)))
def zqx.l1 : Nat → Int → ByteArray → List ByteArray → Int → Int → Int → Int → Option (Int)
  | 0, _, _, _, _, _, _, _ => none
  | k + 1, x3, x5, x8, x9, x10, x15, x16 => if x16 < x15 then (if 0 ≤ x16 then (if x16 < (x5.size : Int) then (zqx.l2 k (Go.bits .xor .u32 x3 ((bt x5 x16) % 4294967296)) x5 x8 x9 x10 x15 x16 0) else (none)) else (none)) else (zqx.l0 k x3 x8 x9 (wrap64 (x10 + 1)))
def zqx.l2 : Nat → Int → ByteArray → List ByteArray → Int → Int → Int → Int → Int → Option (Int)
  | 0, _, _, _, _, _, _, _, _ => none
  | k + 1, x3, x5, x8, x9, x10, x15, x16, x25 => if x25 < 8 then (zqx.l2 k (Go.bits .xor .u32 (x3 / 2) (((Go.bits .and .u32 x3 1) * 3988292384) % 4294967296)) x5 x8 x9 x10 x15 x16 (wrap64 (x25 + 1))) else (zqx.l1 k x3 x5 x8 x9 x10 x15 (wrap64 (x16 + 1)))
end
def zqx.f (k : Nat) (l0 : List ByteArray) : Option (Int) := zqx.l0 k 4294967295 l0 (l0.length : Int) 0
theorem zqx.mono_l : ∀ k, (∀ y0 y1 y2 y3, LeO (zqx.l0 k y0 y1 y2 y3) (zqx.l0 (k + 1) y0 y1 y2 y3)) ∧ (∀ y0 y1 y2 y3 y4 y5 y6, LeO (zqx.l1 k y0 y1 y2 y3 y4 y5 y6) (zqx.l1 (k + 1) y0 y1 y2 y3 y4 y5 y6)) ∧ (∀ y0 y1 y2 y3 y4 y5 y6 y7, LeO (zqx.l2 k y0 y1 y2 y3 y4 y5 y6 y7) (zqx.l2 (k + 1) y0 y1 y2 y3 y4 y5 y6 y7))
 | 0 => ⟨fun _ _ _ _ r h => by simp [zqx.l0] at h, fun _ _ _ _ _ _ _ r h => by simp [zqx.l1] at h, fun _ _ _ _ _ _ _ _ r h => by simp [zqx.l2] at h⟩
 | k + 1 => by
  obtain ⟨ih0, ih1, ih2⟩ := zqx.mono_l k
  refine ⟨?_, ?_, ?_⟩
  ·intro y0 y1 y2 y3
   unfold zqx.l0
   repeat' first
   | (with_reducible exact ih0 _ _ _ _)
   | (with_reducible exact ih1 _ _ _ _ _ _ _)
   | (with_reducible exact ih2 _ _ _ _ _ _ _ _)
   | (with_reducible exact LeO.refl _)
   | (with_reducible exact LeO.none _)
   | (with_reducible refine LeO.ite ?_ ?_)
   | (with_reducible refine LeO.bind ?_ (fun _ => ?_))
   | exact ih0 _ _ _ _
   | exact ih1 _ _ _ _ _ _ _
   | exact ih2 _ _ _ _ _ _ _ _
   | exact LeO.none _
   | refine LeO.ite ?_ ?_
   | refine LeO.bind ?_ (fun _ => ?_)
  ·intro y0 y1 y2 y3 y4 y5 y6
   unfold zqx.l1
   repeat' first
   | (with_reducible exact ih0 _ _ _ _)
   | (with_reducible exact ih1 _ _ _ _ _ _ _)
   | (with_reducible exact ih2 _ _ _ _ _ _ _ _)
   | (with_reducible exact LeO.refl _)
   | (with_reducible exact LeO.none _)
   | (with_reducible refine LeO.ite ?_ ?_)
   | (with_reducible refine LeO.bind ?_ (fun _ => ?_))
   | exact ih0 _ _ _ _
   | exact ih1 _ _ _ _ _ _ _
   | exact ih2 _ _ _ _ _ _ _ _
   | exact LeO.none _
   | refine LeO.ite ?_ ?_
   | refine LeO.bind ?_ (fun _ => ?_)
  ·intro y0 y1 y2 y3 y4 y5 y6 y7
   unfold zqx.l2
   repeat' first
   | (with_reducible exact ih0 _ _ _ _)
   | (with_reducible exact ih1 _ _ _ _ _ _ _)
   | (with_reducible exact ih2 _ _ _ _ _ _ _ _)
   | (with_reducible exact LeO.refl _)
   | (with_reducible exact LeO.none _)
   | (with_reducible refine LeO.ite ?_ ?_)
   | (with_reducible refine LeO.bind ?_ (fun _ => ?_))
   | exact ih0 _ _ _ _
   | exact ih1 _ _ _ _ _ _ _
   | exact ih2 _ _ _ _ _ _ _ _
   | exact LeO.none _
   | refine LeO.ite ?_ ?_
   | refine LeO.bind ?_ (fun _ => ?_)
theorem zqx.mono : ∀ a0 k, LeO (zqx.f k a0) (zqx.f (k + 1) a0) := by
 intro a0 k
 obtain ⟨ih0, ih1, ih2⟩ := zqx.mono_l k
 unfold zqx.f
 repeat' first
   | (with_reducible exact ih0 _ _ _ _)
   | (with_reducible exact ih1 _ _ _ _ _ _ _)
   | (with_reducible exact ih2 _ _ _ _ _ _ _ _)
   | (with_reducible exact LeO.refl _)
   | (with_reducible exact LeO.none _)
   | (with_reducible refine LeO.ite ?_ ?_)
   | (with_reducible refine LeO.bind ?_ (fun _ => ?_))
   | exact ih0 _ _ _ _
   | exact ih1 _ _ _ _ _ _ _
   | exact ih2 _ _ _ _ _ _ _ _
   | exact LeO.none _
   | refine LeO.ite ?_ ?_
   | refine LeO.bind ?_ (fun _ => ?_)
theorem zqx.calls (k : Nat) (A0 : Option Addr) (c0 : Nat) (l0 : List ByteArray) (r : Int) (w : World) (hr0 : Kd.C Kd.string w A0 l0.length l0) (hc0 : l0.length ≤ c0) (h : zqx.f k l0 = some r) :
  Calls Try.prog 90 #[.slice A0 l0.length c0] w fun e w' => e = .returned (.int .i64 r) ∧ Drawn0 w w' := by
 have HR0 := Aside0.mk hr0
 have HC0 := Aside0.mk hc0
 clear hr0 hc0
 have H : (zqx.l0 k 4294967295 l0 (l0.length : Int) 0) = some r := h
 clear h
 have H' := Aside0.mk H
 clear H
 go_enter Try.func90, Try.ntmps90
 go_wp2
 go_loopg [3, 10] k (fun kq v3 v10 w' => ∃ (x3_1 : Int) (x10_1 : Int), v3 = .int .u32 x3_1 ∧ v10 = .int .i64 x10_1 ∧ Aside0 (zqx.l0 kq x3_1 l0 (l0.length : Int) x10_1 = some r) ∧ Aside0 (kq ≤ k) ∧ Drawn0 w w')
 case atStart => exact ⟨(4294967295), (0), cl_, cl_, H', ⟨Nat.le_refl _⟩, by repeat (first | exact Drawn0.refl _ | apply Drawn0.step)⟩
 case round =>
  clear H'
  obtain ⟨x3_1, x10_1, rfl, rfl, HA, HK1, ⟨m1, rfl⟩⟩ := hrel
  cases gk with
  | zero => exact absurd HA.out (by simp [zqx.l0])
  | succ k1 =>
   have H := HA.out
   clear HA
   simp only [zqx.l0] at H
   by_cases c2 : x10_1 < (l0.length : Int)
   ·rw [if_pos c2] at H
    have c2b0 : decide (x10_1 < (l0.length : Int)) = true := decide_eq_true c2
    clear c2
    by_cases c3 : 0 ≤ x10_1
    ·rw [if_pos c3] at H
     have c3b0 : decide (0 ≤ x10_1) = true := decide_eq_true c3
     clear c3
     by_cases c4 : x10_1 < (l0.length : Int)
     ·rw [if_pos c4] at H
      have c4b0 : decide (x10_1 < (l0.length : Int)) = true := decide_eq_true c4
      clear c4
      have H' := Aside0.mk H
      clear H
      have p156 : 0 ≤ (x10_1 : Int) := oa_
      have q156 : x10_1 < (l0.length : Int) := oa_
      obtain ⟨ad156, e156, hx156_0⟩ := Kd.at_string HR0.out x10_1 p156 q156
      cases e156
      replace p156 := eq_true p156
      replace q156 := eq_true q156
      go_wp2
      go_loopg [3, 16] k1 (fun kq v3 v16 w' => ∃ (x3_2 : Int) (x16_2 : Int), v3 = .int .u32 x3_2 ∧ v16 = .int .i64 x16_2 ∧ Aside0 (zqx.l1 kq x3_2 (rdOf ByteArray.empty l0 x10_1) l0 (l0.length : Int) x10_1 ((rdOf ByteArray.empty l0 x10_1).size : Int) x16_2 = some r) ∧ Aside0 (kq ≤ k1) ∧ Drawn0 w w')
      case atStart => exact ⟨(x3_1), (0), cl_, cl_, H', ⟨Nat.le_refl _⟩, by repeat (first | exact Drawn0.refl _ | apply Drawn0.step)⟩
      case round =>
       clear H'
       (try clear p1); (try clear q1); (try clear hx1); (try clear c2); (try clear c2b0); (try clear p2); (try clear c3); (try clear c3b0); (try clear c4); (try clear c4b0); (try clear hx156_0); (try clear p156); (try clear q156)
       obtain ⟨x3_2, x16_2, rfl, rfl, HA, HK2, ⟨m2, rfl⟩⟩ := hrel
       cases gk with
       | zero => exact absurd HA.out (by simp [zqx.l1])
       | succ k2 =>
        have H := HA.out
        clear HA
        simp only [zqx.l1] at H
        by_cases c5 : x16_2 < ((rdOf ByteArray.empty l0 x10_1).size : Int)
        ·rw [if_pos c5] at H
         have c5b0 : decide (x16_2 < ((rdOf ByteArray.empty l0 x10_1).size : Int)) = true := decide_eq_true c5
         clear c5
         by_cases c6 : 0 ≤ x16_2
         ·rw [if_pos c6] at H
          have c6b0 : decide (0 ≤ x16_2) = true := decide_eq_true c6
          clear c6
          by_cases c7 : x16_2 < ((rdOf ByteArray.empty l0 x10_1).size : Int)
          ·rw [if_pos c7] at H
           have c7b0 : decide (x16_2 < ((rdOf ByteArray.empty l0 x10_1).size : Int)) = true := decide_eq_true c7
           clear c7
           have H' := Aside0.mk H
           clear H
           have p8 : 0 ≤ (x16_2 : Int) := oa_
           have q8 : x16_2 < ((rdOf ByteArray.empty l0 x10_1).size : Int) := oa_
           have hx8 := bt_at (rdOf ByteArray.empty l0 x10_1) x16_2
           replace p8 := eq_true p8
           replace q8 := eq_true q8
           go_wp2
           go_loopg [3, 25] k2 (fun kq v3 v25 w' => ∃ (x3_3 : Int) (x25_3 : Int), v3 = .int .u32 x3_3 ∧ v25 = .int .i64 x25_3 ∧ Aside0 (zqx.l2 kq x3_3 (rdOf ByteArray.empty l0 x10_1) l0 (l0.length : Int) x10_1 ((rdOf ByteArray.empty l0 x10_1).size : Int) x16_2 x25_3 = some r) ∧ Aside0 (kq ≤ k2) ∧ Drawn0 w w')
           case atStart => exact ⟨(Go.bits .xor .u32 x3_2 ((bt (rdOf ByteArray.empty l0 x10_1) x16_2) % 4294967296)), (0), cl_, cl_, H', ⟨Nat.le_refl _⟩, by repeat (first | exact Drawn0.refl _ | apply Drawn0.step)⟩
           case round =>
            clear H'
            (try clear p1); (try clear q1); (try clear hx1); (try clear c2); (try clear c2b0); (try clear p2); (try clear c3); (try clear c3b0); (try clear c4); (try clear c4b0); (try clear c5); (try clear c5b0); (try clear c6); (try clear c6b0); (try clear c7); (try clear c7b0); (try clear p8); (try clear q8); (try clear hx8); (try clear hx156_0); (try clear p1); (try clear p156); (try clear p2); (try clear p8); (try clear q1); (try clear q156); (try clear q8)
            obtain ⟨x3_3, x25_3, rfl, rfl, HA, HK3, ⟨m3, rfl⟩⟩ := hrel
            cases gk with
            | zero => exact absurd HA.out (by simp [zqx.l2])
            | succ k3 =>
             have H := HA.out
             clear HA
             simp only [zqx.l2] at H
             by_cases c9 : x25_3 < 8
             ·rw [if_pos c9] at H
              have c9b0 : decide (x25_3 < 8) = true := decide_eq_true c9
              clear c9
              have H' := Aside0.mk H
              clear H
              go_wp2
              go_roundg k3
              case measure => have := HK1.out; have := HK2.out; have := HK3.out; omega
              case rel => exact ⟨(Go.bits .xor .u32 (x3_3 / 2) (((Go.bits .and .u32 x3_3 1) * 3988292384) % 4294967296)), (wrap64 (x25_3 + 1)), cl_, cl_, H', ⟨by have := HK1.out; have := HK2.out; have := HK3.out; omega⟩, by repeat (first | exact Drawn0.refl _ | apply Drawn0.step)⟩
             ·rw [if_neg c9] at H
              have c9b0 : decide (x25_3 < 8) = false := decide_eq_false c9
              clear c9
              have H' := Aside0.mk H
              clear H
              go_wp2
              go_roundg k3
              case measure => have := HK1.out; have := HK2.out; have := HK3.out; omega
              case rel => exact ⟨(x3_3), (wrap64 (x16_2 + 1)), cl_, cl_, H', ⟨by have := HK1.out; have := HK2.out; have := HK3.out; omega⟩, by repeat (first | exact Drawn0.refl _ | apply Drawn0.step)⟩
          ·rw [if_neg c7] at H
           exact absurd H (by simp)
         ·rw [if_neg c6] at H
          exact absurd H (by simp)
        ·rw [if_neg c5] at H
         have c5b0 : decide (x16_2 < ((rdOf ByteArray.empty l0 x10_1).size : Int)) = false := decide_eq_false c5
         clear c5
         have H' := Aside0.mk H
         clear H
         go_wp2
         go_roundg k2
         case measure => have := HK1.out; have := HK2.out; omega
         case rel => exact ⟨(x3_2), (wrap64 (x10_1 + 1)), cl_, cl_, H', ⟨by have := HK1.out; have := HK2.out; omega⟩, by repeat (first | exact Drawn0.refl _ | apply Drawn0.step)⟩
     ·rw [if_neg c4] at H
      exact absurd H (by simp)
    ·rw [if_neg c3] at H
     exact absurd H (by simp)
   ·rw [if_neg c2] at H
    have c2b0 : decide (x10_1 < (l0.length : Int)) = false := decide_eq_false c2
    clear c2
    obtain rfl := Option.some.inj H
    go_wp2
    go_ret
    exact ⟨by first | rfl | (simp; done) | (simp [y0k]; done) | (simp [*]; done), by repeat (first | exact Drawn0.refl _ | apply Drawn0.step)⟩
end Go.Proofs.Ytenlmckahaniiaa.K
end
section
namespace Go.Proofs.Ytenlmckahaniiaa.K
open Go.RowKit Go.Proofs.YtenlmckahaniiaaW.PrintWords Go.Proofs.YtenlmckahaniiaaW.PrintLast
def zqu.f (k : Nat) (a0 : ByteArray) : Option (ByteArray) := (zqx.f k (([a0] : List ByteArray))).bind fun t160 => ((zqw.f k t160 4).bind fun t161 => ((zqr.f k (([a0, t161] : List ByteArray))).bind fun t165 => (some t165)))
theorem zqu.mono : ∀ a0 k, LeO (zqu.f k a0) (zqu.f (k + 1) a0) := by
 intro a0 k
 unfold zqu.f
 repeat' first
   | (with_reducible exact zqw.mono _ _ _)
   | (with_reducible exact zqr.mono _ _)
   | (with_reducible exact zqx.mono _ _)
   | (with_reducible exact LeO.refl _)
   | (with_reducible exact LeO.none _)
   | (with_reducible refine LeO.ite ?_ ?_)
   | (with_reducible refine LeO.bind ?_ (fun _ => ?_))
   | exact zqw.mono _ _ _
   | exact zqr.mono _ _
   | exact zqx.mono _ _
   | exact LeO.none _
   | refine LeO.ite ?_ ?_
   | refine LeO.bind ?_ (fun _ => ?_)
theorem zqu.calls (k : Nat) (a0 : ByteArray) (r : ByteArray) (w : World) (h : zqu.f k a0 = some r) :
  Calls Try.prog 54 #[.string a0] w fun e w' => e = .returned (.string r) ∧ Below w.heap.size w w' := by
 have HB := Aside0.mk (Below.refl w.heap.size w)
 have H : ((zqx.f k (([a0] : List ByteArray))).bind fun t160 => ((zqw.f k t160 4).bind fun t161 => ((zqr.f k (([a0, t161] : List ByteArray))).bind fun t165 => (some t165)))) = some r := h
 clear h
 obtain ⟨y157, hy157⟩ : ∃ y_ : List ByteArray, y_ = (([a0] : List ByteArray)) := ⟨_, rfl⟩
 replace H : ((zqx.f k y157).bind fun t160 => ((zqw.f k t160 4).bind fun t161 => ((zqr.f k (([a0, t161] : List ByteArray))).bind fun t165 => (some t165)))) = some r := by first | (rw [hy157]; with_reducible exact H) | (have H2_ := (Option.bind_some _ _).symm.trans H; rw [hy157]; with_reducible exact H2_) | (have H2_ := (Option.bind_some _ _).symm.trans H; with_reducible exact H2_) | with_reducible exact H | (rw [hy157]; exact H) | exact H
 have Ny157 := Aside0.mk hy157
 clear hy157
 replace H := Option.bind_eq_some_iff.mp H
 obtain ⟨t160, A20, H⟩ := H
 (try dsimp only at H)
 have A2 := Aside0.mk A20
 clear A20
 replace H := Option.bind_eq_some_iff.mp H
 obtain ⟨t161, A30, H⟩ := H
 (try dsimp only at H)
 have A3 := Aside0.mk A30
 clear A30
 obtain ⟨y162, hy162⟩ : ∃ y_ : List ByteArray, y_ = (([a0, t161] : List ByteArray)) := ⟨_, rfl⟩
 replace H : ((zqr.f k y162).bind fun t165 => (some t165)) = some r := by first | (rw [hy162]; with_reducible exact H) | (have H2_ := (Option.bind_some _ _).symm.trans H; rw [hy162]; with_reducible exact H2_) | (have H2_ := (Option.bind_some _ _).symm.trans H; with_reducible exact H2_) | with_reducible exact H | (rw [hy162]; exact H) | exact H
 have Ny162 := Aside0.mk hy162
 clear hy162
 replace H := Option.bind_eq_some_iff.mp H
 obtain ⟨t165, A40, H⟩ := H
 (try dsimp only at H)
 have A4 := Aside0.mk A40
 clear A40
 obtain rfl := Option.some.inj H
 go_enter Try.func54, Try.ntmps54
 go_wp2_with (first | ((with_reducible refine y0j (N := 5) rfl ?_); refine Kd.R_lit Kd.string _ 9 ?hg (N := 5) ?hd (xs := ([a0] : List ByteArray)) (inner := [.string a0]) (ok := fun _ => True) (okp := fun _ => True) ?hr ?hp (fun _ hk => hk) trivial (Below.refl _ _) (Nat.le_refl _) (by simp) ?_; (case hd => rfl); (case hg => rfl); (case hr => first | (go_simp; done) | (go_simp; rfl)); (case hp => exact (Reps.one (show Kd.M Kd.string _ _ _ a0 [.string a0] from rfl) (Reps.none _ _))); intro v158 w5 ho6 hb hg_ hnew_; clear hg_ hnew_; (first | rw [← Ny157.out] at ho6 | (simp only [Int.reduceToNat] at ho6; rw [← Ny157.out] at ho6)); have n0_ := Aside0.mk (Kd.R_lower ho6 (y03 hb_)); have n1_ := Aside0.mk (y04 hb_ hb); clear HB; have HO159 := n0_; have HB := n1_; clear n0_ n1_; clear hb ho6; obtain ⟨Ao7, co7, eo7⟩ := Kd.R_slice HO159.out; subst eo7) | ((with_reducible refine y0i (f := 90) rfl ?_); refine goesL_ (some 6) rfl rfl Try.func90 (by kernel_rfl) rfl #[.slice Ao7 y157.length co7] rfl ar_ ?_; (with_reducible refine (zqx.calls k _ _ y157 t160 _ ?side1 ?side2 A2.out).mono ?_); (case side1 => repeat (first | exact (Kd.R_reads' HO159.out).2.2 | (with_reducible refine Kd.C_alloc ?_ _) | (with_reducible refine Kd.C_drewN ?_ _) | (with_reducible refine Kd.C_drew ?_))); (case side2 => exact (Kd.R_reads' HO159.out).2.1); rintro e w' ⟨rfl, ⟨nd, rfl⟩⟩; refine ⟨_, rfl, ?_⟩) | ((with_reducible refine y0i (f := 78) rfl ?_); refine goesL_ (some 7) rfl rfl Try.func78 (by kernel_rfl) rfl #[.int .i64 t160, .int .i64 4] rfl ar_ ?_; (with_reducible refine (zqw.calls k t160 4 t161 _ A3.out).mono ?_); rintro e w8 ⟨rfl, hb⟩; refine ⟨_, rfl, ?_⟩; have n0_ := Aside0.mk (Kd.R_below (rk_ HO159.out) hb); have n1_ := Aside0.mk (y04 hb_ hb); clear HO159 HB; have HO159 := n0_; have HB := n1_; clear n0_ n1_; (try clear hb); (try clear hb2); (try clear hk); (try clear hi)) | ((with_reducible refine y0j (N := 8) rfl ?_); refine Kd.R_lit Kd.string _ 9 ?hg (N := 8) ?hd (xs := ([a0, t161] : List ByteArray)) (inner := [.string a0, .string t161]) (ok := fun _ => True) (okp := fun _ => True) ?hr ?hp (fun _ hk => hk) trivial (Below.refl _ _) (Nat.le_refl _) (by simp) ?_; (case hd => rfl); (case hg => rfl); (case hr => first | (go_simp; done) | (go_simp; rfl)); (case hp => exact (Reps.one (show Kd.M Kd.string _ _ _ a0 [.string a0] from rfl) (Reps.one (show Kd.M Kd.string _ _ _ t161 [.string t161] from rfl) (Reps.none _ _)))); intro v163 w9 ho10 hb hg_ hnew_; clear hg_ hnew_; (first | rw [← Ny162.out] at ho10 | (simp only [Int.reduceToNat] at ho10; rw [← Ny162.out] at ho10)); have n0_ := Aside0.mk (Kd.R_elder' (rk_ HO159.out) (Kd.R_base ho10) hb); have n1_ := Aside0.mk (Kd.R_lower (Kd.R_new' ho10 (Kd.R_lt (rk_ HO159.out))) (y03 hb_)); have n2_ := Aside0.mk (y04 hb_ hb); clear HO159 HB; have HO159 := n0_; have HO164 := n1_; have HB := n2_; clear n0_ n1_ n2_; clear hb ho10; obtain ⟨Ao11, co11, eo11⟩ := Kd.R_slice HO164.out; subst eo11) | ((with_reducible refine y0i (f := 89) rfl ?_); refine goesL_ (some 9) rfl rfl Try.func89 (by kernel_rfl) rfl #[.slice Ao11 y162.length co11] rfl ar_ ?_; (with_reducible refine (zqr.calls k _ _ y162 t165 _ ?side1 ?side2 A4.out).mono ?_); (case side1 => repeat (first | exact (Kd.R_reads' HO164.out).2.2 | (with_reducible refine Kd.C_alloc ?_ _) | (with_reducible refine Kd.C_drewN ?_ _) | (with_reducible refine Kd.C_drew ?_))); (case side2 => exact (Kd.R_reads' HO164.out).2.1); rintro e w12 ⟨rfl, hb⟩; refine ⟨_, rfl, ?_⟩; have n0_ := Aside0.mk (Kd.R_below (rk_ HO159.out) hb); have n1_ := Aside0.mk (Kd.R_below (rk_ HO164.out) hb); have n2_ := Aside0.mk (y04 hb_ hb); clear HO159 HO164 HB; have HO159 := n0_; have HO164 := n1_; have HB := n2_; clear n0_ n1_ n2_; (try clear hb); (try clear hb2); (try clear hk); (try clear hi)))
 go_ret
 exact ⟨ew_, hb_⟩
def zqn.f (k : Nat) (a0 : ByteArray) : Option (ByteArray) := if 0 ≤ (mn (a0.size : Int) 65535) then (if (mn (a0.size : Int) 65535) ≤ (a0.size : Int) then ((zqw.f k ((a0.extract 0 ((mn (a0.size : Int) 65535) : Int).toNat).size : Int) 2).bind fun t166 => ((zqr.f k (([t166, a0.extract 0 ((mn (a0.size : Int) 65535) : Int).toNat] : List ByteArray))).bind fun t170 => (some t170))) else (none)) else (none)
theorem zqn.mono : ∀ a0 k, LeO (zqn.f k a0) (zqn.f (k + 1) a0) := by
 intro a0 k
 unfold zqn.f
 repeat' first
   | (with_reducible exact zqw.mono _ _ _)
   | (with_reducible exact zqr.mono _ _)
   | (with_reducible exact LeO.refl _)
   | (with_reducible exact LeO.none _)
   | (with_reducible refine LeO.ite ?_ ?_)
   | (with_reducible refine LeO.bind ?_ (fun _ => ?_))
   | exact zqw.mono _ _ _
   | exact zqr.mono _ _
   | exact LeO.none _
   | refine LeO.ite ?_ ?_
   | refine LeO.bind ?_ (fun _ => ?_)
theorem zqn.calls (k : Nat) (a0 : ByteArray) (r : ByteArray) (w : World) (h : zqn.f k a0 = some r) :
  Calls Try.prog 92 #[.string a0] w fun e w' => e = .returned (.string r) ∧ Below w.heap.size w w' := by
 have HB := Aside0.mk (Below.refl w.heap.size w)
 have H : (if 0 ≤ (mn (a0.size : Int) 65535) then (if (mn (a0.size : Int) 65535) ≤ (a0.size : Int) then ((zqw.f k ((a0.extract 0 ((mn (a0.size : Int) 65535) : Int).toNat).size : Int) 2).bind fun t166 => ((zqr.f k (([t166, a0.extract 0 ((mn (a0.size : Int) 65535) : Int).toNat] : List ByteArray))).bind fun t170 => (some t170))) else (none)) else (none)) = some r := h
 clear h
 obtain ⟨ji2, hji2⟩ : ∃ j_ : Int, (mn (a0.size : Int) 65535) = j_ := ⟨_, rfl⟩
 replace H : (if 0 ≤ (ji2) then (if (ji2) ≤ (a0.size : Int) then ((zqw.f k ((a0.extract 0 ((ji2) : Int).toNat).size : Int) 2).bind fun t166 => ((zqr.f k (([t166, a0.extract 0 ((ji2) : Int).toNat] : List ByteArray))).bind fun t170 => (some t170))) else (none)) else (none)) = some r := by first | (rw [hji2] at H; exact H) | (simp only [hji2] at H ⊢; exact H)
 (try (have hji2h : ji2 ≤ 65535 := by (rw [← hji2]; unfold mn; (repeat' split) <;> omega)))
 (try (have hji2g : ji2 ≤ 64 := by omega))
 (try (have hji2l : 0 ≤ ji2 := by (rw [← hji2]; unfold mn; (repeat' split) <;> omega)))
 (try (have hji2m : 0 ≤ ji2 := by omega))
 have hji2_ : (if 65535 < (a0.size : Int) then 65535 else (a0.size : Int)) = ji2 := hji2
 (try (have hji2w : min (a0.size : Int) 65535 = ji2 := by rw [← hji2]; unfold mn; (repeat' split) <;> omega))
 by_cases c3 : 0 ≤ (ji2)
 ·rw [if_pos c3] at H
  have c3b0 := eq_true c3
  have c3b1 : decide (0 ≤ (ji2)) = true := decide_eq_true c3
  clear c3
  by_cases c4 : (ji2) ≤ (a0.size : Int)
  ·rw [if_pos c4] at H
   have c4b0 := eq_true c4
   have c4b1 : decide ((ji2) ≤ (a0.size : Int)) = true := decide_eq_true c4
   clear c4
   replace H := Option.bind_eq_some_iff.mp H
   obtain ⟨t166, A50, H⟩ := H
   (try dsimp only at H)
   have A5 := Aside0.mk A50
   clear A50
   obtain ⟨y167, hy167⟩ : ∃ y_ : List ByteArray, y_ = (([t166, a0.extract 0 ((ji2) : Int).toNat] : List ByteArray)) := ⟨_, rfl⟩
   replace H : ((zqr.f k y167).bind fun t170 => (some t170)) = some r := by first | (rw [hy167]; with_reducible exact H) | (have H2_ := (Option.bind_some _ _).symm.trans H; rw [hy167]; with_reducible exact H2_) | (have H2_ := (Option.bind_some _ _).symm.trans H; with_reducible exact H2_) | with_reducible exact H | (rw [hy167]; exact H) | exact H
   have Ny167 := Aside0.mk hy167
   clear hy167
   replace H := Option.bind_eq_some_iff.mp H
   obtain ⟨t170, A60, H⟩ := H
   (try dsimp only at H)
   have A6 := Aside0.mk A60
   clear A60
   obtain rfl := Option.some.inj H
   go_enter Try.func92, Try.ntmps92
   go_wp2_with (first | ((with_reducible refine y0i (f := 78) rfl ?_); refine goesL_ (some 10) rfl rfl Try.func78 (by kernel_rfl) rfl #[.int .i64 ((a0.extract 0 ((ji2) : Int).toNat).size : Int), .int .i64 2] rfl (by (try simp only [List.map_toArray, List.map_cons, List.map_nil]); first | done | (simp only [hji2]; rfl) | rfl | (simp only [List.length_drop, List.length_take]; rfl) | (simp only [ByteArray.size_extract, Nat.sub_zero]; rfl) | (simp only [ByteArray.size_extract, Nat.sub_zero]; done) | ((try go_simp); (try simp only [ByteArray.size_extract, Nat.sub_zero]); (try simp only [eq_iff_iff, iff_true] at *); repeat (first | rfl | omega | congr 1))) ?_; (with_reducible refine (zqw.calls k ((a0.extract 0 ((ji2) : Int).toNat).size : Int) 2 t166 _ A5.out).mono ?_); rintro e w7 ⟨rfl, hb⟩; refine ⟨_, rfl, ?_⟩; have n0_ := Aside0.mk (y04 hb_ hb); clear HB; have HB := n0_; clear n0_; (try clear hb); (try clear hb2); (try clear hk); (try clear hi)) | ((with_reducible refine y0j (N := 12) rfl ?_); refine Kd.R_lit Kd.string _ 9 ?hg (N := 12) ?hd (xs := ([t166, a0.extract 0 ((ji2) : Int).toNat] : List ByteArray)) (inner := [.string t166, .string (a0.extract 0 ((ji2) : Int).toNat)]) (ok := fun _ => True) (okp := fun _ => True) ?hr ?hp (fun _ hk => hk) trivial (Below.refl _ _) (Nat.le_refl _) (by simp) ?_; (case hd => rfl); (case hg => rfl); (case hr => first | (go_simp; done) | (go_simp; rfl)); (case hp => exact (Reps.one (show Kd.M Kd.string _ _ _ t166 [.string t166] from rfl) (Reps.one (show Kd.M Kd.string _ _ _ (a0.extract 0 ((ji2) : Int).toNat) [.string (a0.extract 0 ((ji2) : Int).toNat)] from rfl) (Reps.none _ _)))); intro v168 w8 ho9 hb hg_ hnew_; clear hg_ hnew_; (first | rw [← Ny167.out] at ho9 | (simp only [Int.reduceToNat] at ho9; rw [← Ny167.out] at ho9)); have n0_ := Aside0.mk (Kd.R_lower ho9 (y03 hb_)); have n1_ := Aside0.mk (y04 hb_ hb); clear HB; have HO169 := n0_; have HB := n1_; clear n0_ n1_; clear hb ho9; obtain ⟨Ao10, co10, eo10⟩ := Kd.R_slice HO169.out; subst eo10) | ((with_reducible refine y0i (f := 89) rfl ?_); refine goesL_ (some 13) rfl rfl Try.func89 (by kernel_rfl) rfl #[.slice Ao10 y167.length co10] rfl ar_ ?_; (with_reducible refine (zqr.calls k _ _ y167 t170 _ ?side1 ?side2 A6.out).mono ?_); (case side1 => repeat (first | exact (Kd.R_reads' HO169.out).2.2 | (with_reducible refine Kd.C_alloc ?_ _) | (with_reducible refine Kd.C_drewN ?_ _) | (with_reducible refine Kd.C_drew ?_))); (case side2 => exact (Kd.R_reads' HO169.out).2.1); rintro e w11 ⟨rfl, hb⟩; refine ⟨_, rfl, ?_⟩; have n0_ := Aside0.mk (Kd.R_below (rk_ HO169.out) hb); have n1_ := Aside0.mk (y04 hb_ hb); clear HO169 HB; have HO169 := n0_; have HB := n1_; clear n0_ n1_; (try clear hb); (try clear hb2); (try clear hk); (try clear hi)))
   go_ret
   exact ⟨by first | rfl | (simp [y0g, y0h] <;> rfl) | (simp only [← hji2]; first | rfl | (simp [y0g, y0h] <;> rfl)) | (simp [*, y0g, y0h] <;> rfl), hb_⟩
  ·rw [if_neg c4] at H
   exact absurd H (by simp)
 ·rw [if_neg c3] at H
  exact absurd H (by simp)
def zqq.f (a0 : Bool) : Option (ByteArray) := if a0 = true then (some (⟨#[1]⟩ : ByteArray)) else (some (⟨#[0]⟩ : ByteArray))
theorem zqq.calls (a0 : Bool) (r : ByteArray) (w : World) (h : zqq.f a0 = some r) :
  Calls Try.prog 93 #[.bool a0] w fun e w' => e = .returned (.string r) ∧ Drawn0 w w' := by
 have H : (if a0 = true then (some (⟨#[1]⟩ : ByteArray)) else (some (⟨#[0]⟩ : ByteArray))) = some r := h
 clear h
 by_cases c2 : a0 = true
 ·subst c2
  have H1 : (some (⟨#[1]⟩ : ByteArray)) = some r := by rw [if_pos rfl] at H; exact H
  clear H
  have H := H1
  clear H1
  obtain rfl := Option.some.inj H
  go_enter Try.func93, Try.ntmps93
  go_wp2
  go_ret
  exact ⟨by first | rfl | (simp; done) | (simp [y0k]; done) | (simp [*]; done), by repeat (first | exact Drawn0.refl _ | apply Drawn0.step)⟩
 ·replace c2 := Bool.eq_false_iff.mpr c2
  subst c2
  have H1 : (some (⟨#[0]⟩ : ByteArray)) = some r := by rw [if_neg (show ¬ (false = true) by decide)] at H; exact H
  clear H
  have H := H1
  clear H1
  obtain rfl := Option.some.inj H
  go_enter Try.func93, Try.ntmps93
  go_wp2
  go_ret
  exact ⟨by first | rfl | (simp; done) | (simp [y0k]; done) | (simp [*]; done), by repeat (first | exact Drawn0.refl _ | apply Drawn0.step)⟩
end Go.Proofs.Ytenlmckahaniiaa.K
end
section
namespace Go.Proofs.Ytenlmckahaniiaa.K
open Go Go.Proofs Go.Shelf Go.RowKit Go.Lib Go.Proofs.YtenlmckahaniiaaW.PrintWords Go.Proofs.YtenlmckahaniiaaW.PrintLast
theorem grown_below {w w1 : World} (h : Below w.heap.size w w1) (row : Option Nat) : w.grownBy w1 row := ⟨h.os, h.tape, h.output, h.size, fun i hi _ => h.block i hi⟩
theorem builderAt_below {T e : TypeId} {B b : Nat} {p : Value} {bs : List Value} {w w1 : World} (h : BuilderAt T e B b p bs w) (hb : Below w.heap.size w w1) : BuilderAt T e B b p bs w1 := by
  have hlt := h.lt
  obtain ⟨hB, v, hbk, hown, hne⟩ := h
  exact ⟨hB, v, (hb.block b hlt).trans hbk, hown.kept (grown_below hb none) (by cases v.ownBlock <;> simp), hne⟩
theorem isBuilder_below {T e : TypeId} {B b : Nat} {bs : List Value} {w w1 : World} (h : IsBuilder T e B b bs w) (hb : Below w.heap.size w w1) : IsBuilder T e B b bs w1 :=
  h.elim (fun h => .inl (builderAt_below h hb)) (fun h => .inr (builderAt_below h hb))
theorem drawn_below {w w1 : World} (h : Drawn0 w w1) : Below w.heap.size w w1 := by
  obtain ⟨n, rfl⟩ := h.out
  exact pw_below_drewN (Below.refl _ _) n
theorem strCells_append (a s : ByteArray) : strCells (a ++ s) = strCells a ++ strCells s := by
  unfold strCells
  rw [ByteArray.data_append, Array.toList_append, List.map_append]
structure BU (w0 w : World) (g b : Nat) (cs : Array Value) (acc : ByteArray) : Prop where
  below : Below w0.heap.size w0 w
  box : w.heap[g]? = some (.cells cs 25 (0, 0))
  hg : w0.heap.size ≤ g
  hgb : g < b
  hb : b < w.heap.size
  bu : IsBuilder 104 5 b b (strCells acc) w
theorem BU.le {w0 w : World} {g b : Nat} {cs : Array Value} {acc : ByteArray} (h : BU w0 w g b cs acc) : b ≤ w.heap.size := Nat.le_of_lt h.hb
theorem BU.step {w0 w w1 : World} {g b : Nat} {cs : Array Value} {acc : ByteArray} (h : BU w0 w g b cs acc) (hb : Below w.heap.size w w1) : BU w0 w1 g b cs acc :=
  ⟨y04 h.below hb, y06 h.box hb, h.hg, h.hgb, Nat.lt_of_lt_of_le h.hb hb.size, isBuilder_below h.bu hb⟩
theorem BU.write {w0 w w1 : World} {g b : Nat} {cs : Array Value} {acc s : ByteArray} (h : BU w0 w g b cs acc) (hbu : BuilderAt 104 5 b b (.pointer (some ⟨b, 0, none⟩)) (strCells acc ++ strCells s) w1) (hb : Below b w w1) : BU w0 w1 g b cs (acc ++ s) :=
  ⟨below_weaken h.below (Nat.le_trans h.hg (Nat.le_of_lt h.hgb)) hb, (hb.block g h.hgb).trans h.box, h.hg, h.hgb, Nat.lt_of_lt_of_le h.hb hb.size, .inr (strCells_append acc s ▸ hbu)⟩
theorem BU.made {w0 w w1 : World} {g b : Nat} {cs : Array Value} (hw : Below w0.heap.size w0 w) (hg : g = w0.heap.size) (hbox : w.heap[g]? = some (.cells cs 25 (0, 0))) (hb : b = w.heap.size) (hw1 : Below w.heap.size w w1) (hbu : w1.heap[b]? = some (.cells #[.pointer none, .slice none 0 0] 104 (0, 0))) : BU w0 w1 g b cs ⟨#[]⟩ := by
  have hlt := y0c hbox
  have hlb := y0c hbu
  subst hb
  refine ⟨y04 hw hw1, y06 hbox hw1, by omega, hlt, hlb, .inl ⟨Nat.le_refl _, .slice none 0 0, hbu, ⟨rfl, .inl ⟨rfl, rfl⟩⟩, by simp [Value.ownBlock]⟩⟩
theorem BU.len {w0 w : World} {g b : Nat} {cs : Array Value} {acc : ByteArray} (_h : BU w0 w g b cs acc) {s : ByteArray} (hl : acc.size + s.size ≤ 140737488355328) : (strCells acc).length + s.size ≤ 140737488355328 := by
  rw [strCells_length]; exact hl
theorem BU.str {w0 w : World} {g b : Nat} {cs : Array Value} {acc : ByteArray} (h : BU w0 w g b cs acc) : Calls Try.prog 94 #[.pointer (some ⟨b, 0, none⟩)] w fun e w' => e = .returned (.string acc) ∧ Below w0.heap.size w0 w' := by
  refine (Try.Builder_String_any b b acc.data.toList w (by rw [← strCells_eq]; exact h.bu) h.le).mono ?_
  rintro e w' ⟨rfl, hb⟩
  refine ⟨?_, below_weaken h.below (Nat.le_trans h.hg (Nat.le_of_lt h.hgb)) hb⟩
  simp
end Go.Proofs.Ytenlmckahaniiaa.K
end
