/- Lemmas for several laws: what their proofs need of this seat's texts, in one place. -/
import Derived.Lib.Bytes
import Derived.Test.YtgcmhfoegbaaiaaZcTw11
set_option linter.unusedVariables false
set_option linter.unusedSimpArgs false
set_option linter.unusedSectionVars false
section
namespace Go.Proofs.Ytgcmhfoegbaaiaa.K
open Go.RowKit Go.Proofs.YtW.P Go.Proofs.YtW.L
def zq1.Pure : Prop := ∀ (a0_0 : Bool) (a0_1 : ByteArray) (l0_2 : List ByteArray) (a0_3 : ByteArray) (a1 : ByteArray) (a2 : Bool), a0_1.size ≤ 9223372036854775807 → (WfL WfS) l0_2 → a0_3.size ≤ 9223372036854775807 → a1.size ≤ 140737488351232 → ∃ k, zq1.f k a0_0 a0_1 l0_2 a0_3 a1 a2 = some true
end Go.Proofs.Ytgcmhfoegbaaiaa.K
end
section
namespace Go.Proofs.Ytgcmhfoegbaaiaa.MyBits
open Go Go.RowKit
theorem y27 {n : Int} (h0 : -9223372036854775808 ≤ n) (h1 : n ≤ 9223372036854775807) : wrap64 n = n := by
  unfold wrap64; omega
end Go.Proofs.Ytgcmhfoegbaaiaa.MyBits
end
section
namespace Go.Proofs.Ytgcmhfoegbaaiaa.MyStr
open Go Go.RowKit Go.Proofs.YtW.P Go.Proofs.YtW.M
def bs (s : ByteArray) : List UInt8 := s.data.toList
theorem y0n (s : ByteArray) : (bs s).length = s.size := by unfold bs; rw [Array.length_toList]; rfl
theorem y1x (s : ByteArray) : s.toList = bs s := Lib.toList_data s
theorem bs_inj {a b : ByteArray} (h : bs a = bs b) : a = b := by
  cases a; cases b; unfold bs at h; simp only at h; congr; exact Array.toList_inj.1 h
theorem y0m (s : ByteArray) (i j : Nat) : bs (s.extract i j) = ((bs s).take j).drop i := by
  unfold bs; rw [ByteArray.data_extract, Array.toList_extract]; simp [List.extract_eq_take_drop, List.drop_take]
theorem bs_nums (xs : List Int) : bs (strOfNums xs) = xs.map fun n => UInt8.ofNat n.toNat := rfl
def byteAt (l : List UInt8) (i : Nat) : Int := ((l[i]?).getD 0).toNat
theorem bt_bs (s : ByteArray) (i : Int) : bt s i = byteAt (bs s) i.toNat := by
  unfold bt byteAt bs
  split
  · rename_i h
    have h' : i.toNat < s.data.toList.length := by rw [Array.length_toList]; exact h
    rw [List.getElem?_eq_getElem h']; rfl
  · rename_i h
    have h' : s.data.toList.length ≤ i.toNat := by rw [Array.length_toList]; exact Nat.le_of_not_lt h
    rw [List.getElem?_eq_none h']; rfl
theorem bt_rng (s : ByteArray) (i : Int) : 0 ≤ bt s i ∧ bt s i < 256 := by
  rw [bt_bs]; unfold byteAt
  have := UInt8.toNat_lt ((bs s)[i.toNat]?.getD 0)
  omega
theorem y0r (s : ByteArray) : bytesOf s = (bs s).map fun b => (b.toNat : Int) := rfl
theorem y1d (b : UInt8) : UInt8.ofNat ((b.toNat : Int)).toNat = b := by simp
theorem ofNat_inj {x y : Int} (hx : 0 ≤ x) (hx1 : x < 256) (hy : 0 ≤ y) (hy1 : y < 256) (h : UInt8.ofNat x.toNat = UInt8.ofNat y.toNat) : x = y := by
  have := congrArg UInt8.toNat h
  simp only [UInt8.toNat_ofNat'] at this
  omega
end Go.Proofs.Ytgcmhfoegbaaiaa.MyStr
end
section
namespace Go.Proofs.Ytgcmhfoegbaaiaa.Tty
open Go Go.RowKit Go.Proofs.Ytgcmhfoegbaaiaa.K Go.Proofs.YtW.P Go.Proofs.YtW.M Go.Proofs.Ytgcmhfoegbaaiaa.MyBits Go.Proofs.Ytgcmhfoegbaaiaa.MyStr
theorem y16 (i : Nat) (h : i < 9223372036854775807) : wrap64 ((i : Int) + 1) = ((i + 1 : Nat) : Int) := by unfold wrap64; omega
def allN (P : Nat → Bool) : Nat → Nat → Bool
  | _, 0 => true
  | i, d + 1 => P i && allN P (i + 1) d
theorem y03 (P : Nat → Bool) : ∀ d i, allN P i d = true ↔ ∀ j, i ≤ j → j < i + d → P j = true := by
  intro d
  induction d with
  | zero => intro i; simp only [allN, true_iff]; intro j h1 h2; omega
  | succ d ih =>
    intro i
    simp only [allN, Bool.and_eq_true, ih]
    constructor
    · rintro ⟨h0, h⟩ j h1 h2
      by_cases hj : j = i
      · rw [hj]; exact h0
      · exact h j (by omega) (by omega)
    · intro h
      exact ⟨h i (by omega) (by omega), fun j h1 h2 => h j (by omega) (by omega)⟩
theorem scan (L : Nat → Nat → Option Bool) (P : Nat → Bool) (n : Nat) (e : Bool) (hy : ∀ i r, i < n → P i = true → Ev (fun k => L k (i + 1)) r → Ev (fun k => L k i) r)
    (hn : ∀ i, i < n → P i = false → Ev (fun k => L k i) false) (he : Ev (fun k => L k n) e) : ∀ d i, i + d = n → Ev (fun k => L k i) (allN P i d && e) := by
  intro d
  induction d with
  | zero => intro i hi; obtain rfl : i = n := by omega
            simpa [allN] using he
  | succ d ih =>
    intro i hi
    unfold allN
    cases hp : P i with
    | true => rw [Bool.true_and]; exact hy i _ (by omega) hp (ih (i + 1) (by omega))
    | false => rw [Bool.false_and, Bool.false_and]; exact hn i (by omega) hp
def shw (a : Int) : Bool := (decide (a ≥ 32) && decide (a ≤ 126)) || a == 9
theorem shown_is (a : Int) : zqn.f a = some (shw a) := by
  unfold zqn.f shw
  by_cases h1 : a ≥ 32
  · by_cases h2 : a ≤ 126 <;> simp [h1, h2]
  · simp [h1]
theorem y1q (a : Int) : zqb.f a = some (shw a) := by
  unfold zqb.f shw
  by_cases h1 : a ≥ 32
  · by_cases h2 : a ≤ 126 <;> simp [h1, h2]
  · simp [h1]
def sh (s : ByteArray) (i : Nat) : Bool := shw (bt s i)
def shAll (s : ByteArray) : Bool := allN (sh s) 0 s.size
theorem shAll_iff (s : ByteArray) : shAll s = true ↔ ∀ j, j < s.size → sh s j = true := by
  unfold shAll
  rw [y03]
  constructor
  · intro h j hj; exact h j (by omega) (by omega)
  · intro h j _ hj; exact h j (by omega)
theorem bt64 (s : ByteArray) (i : Int) : wrap64 (bt s i) = bt s i := by have := bt_rng s i; exact y27 (by omega) (by omega)
theorem text_is (s : ByteArray) (h : s.size ≤ 4611686018427387904) : Ev (fun k => zqr.f k s) (shAll s && decide (s.size ≤ 79)) := by
  refine Ev.congr (f := fun k => zqr.l0 k s (bytesOf s) ((bytesOf s).length : Int) ((0 : Nat) : Int)) (fun k => by unfold zqr.f; rw [if_pos (by omega)]; rfl) ?_
  have hl : (bytesOf s).length = s.size := by rw [y0r, List.length_map, y0n]
  have he : (decide ((s.size : Int) ≤ 79)) = decide (s.size ≤ 79) := by
    by_cases h : s.size ≤ 79
    · rw [decide_eq_true h, decide_eq_true (by omega)]
    · rw [decide_eq_false h, decide_eq_false (by omega)]
  refine scan (fun k i => zqr.l0 k s (bytesOf s) ((bytesOf s).length : Int) (i : Int)) (sh s) s.size _ ?_ ?_ ?_ s.size 0 (by omega)
  · intro i r hi hp h1
    refine Ev.step (fun k => ?_) h1
    rw [zqr.l0, if_pos (by omega), if_pos (by omega), if_pos (by omega), shown_is, y1k]
    unfold sh at hp
    rw [hp, y16 i (by omega)]
    rfl
  · intro i hi hp
    refine Ev.step (f := fun _ => some false) (fun k => ?_) (Ev.now _)
    rw [zqr.l0, if_pos (by omega), if_pos (by omega), if_pos (by omega), shown_is, y1k]
    unfold sh at hp
    rw [hp]
    rfl
  · refine Ev.step (f := fun _ => some (decide (s.size ≤ 79))) (fun k => ?_) (Ev.now _)
    rw [zqr.l0, if_neg (by omega), he]
def lineOk (s : ByteArray) (i : Nat) : Bool := sh s i || (bt s i == 10 && decide (i + 1 = s.size))
def lineB (s : ByteArray) : Bool := decide (s.size ≤ 80) && (allN (lineOk s) 0 s.size && (decide (s.size < 80) || bt s (s.size - 1 : Nat) == 10))
theorem line_is (s : ByteArray) (h : s.size ≤ 4611686018427387904) : Ev (fun k => zqg.f k s) (lineB s) := by
  unfold zqg.f lineB
  by_cases h80 : s.size ≤ 80
  case neg => rw [decide_eq_false h80]; exact Ev.congr (fun k => by rw [if_pos (by omega)]; rfl) (Ev.now _)
  rw [decide_eq_true h80, Bool.true_and]
  refine Ev.congr (f := fun k => zqg.l0 k s ((0 : Nat) : Int)) (fun k => by rw [if_neg (by omega)]; rfl) ?_
  refine scan (fun k i => zqg.l0 k s (i : Int)) (lineOk s) s.size _ ?_ ?_ ?_ s.size 0 (by omega)
  · intro i r hi hp h1
    refine Ev.step (fun k => ?_) h1
    rw [zqg.l0, if_pos (by omega), if_pos (by omega), y1q, bt64, Option.bind_some, y16 i (by omega)]
    unfold lineOk sh at hp
    by_cases hs : shw (bt s (i : Int)) = true
    · rw [if_pos hs]
    · rw [if_neg hs]
      rw [Bool.eq_false_iff.mpr hs, Bool.false_or, Bool.and_eq_true, beq_iff_eq, decide_eq_true_eq] at hp
      rw [if_pos hp.1, if_pos (by have := hp.2; rw [y27 (by omega) (by omega)]; omega)]
  · intro i hi hp
    refine Ev.step (f := fun _ => some false) (fun k => ?_) (Ev.now _)
    rw [zqg.l0, if_pos (by omega), if_pos (by omega), y1q, bt64, Option.bind_some]
    unfold lineOk sh at hp
    rw [Bool.or_eq_false_iff, Bool.and_eq_false_iff] at hp
    rw [if_neg (by rw [hp.1]; decide)]
    by_cases h10 : bt s (i : Int) = 10
    · rw [if_pos h10, if_neg]
      rcases hp.2 with h | h
      · rw [h10] at h; simp at h
      · rw [decide_eq_false_iff_not] at h; rw [y27 (by omega) (by omega)]; omega
    · rw [if_neg h10]
  · refine Ev.step (f := fun _ => some (decide (s.size < 80) || bt s (s.size - 1 : Nat) == 10)) (fun k => ?_) (Ev.now _)
    rw [zqg.l0, if_neg (by omega)]
    by_cases h8 : s.size < 80
    · rw [if_pos (by omega), decide_eq_true h8, Bool.true_or]
    · have e : wrap64 ((s.size : Int) - 1) = ((s.size - 1 : Nat) : Int) := by rw [y27 (by omega) (by omega)]; omega
      rw [if_neg (by omega), e, if_pos (by omega), if_pos (by omega), decide_eq_false h8, Bool.false_or]
abbrev St := Bool × ByteArray × List ByteArray × ByteArray
def fairB (t : ByteArray) (l : List ByteArray) (o : ByteArray) : Bool := decide (l.length ≤ 20) && (decide (t.size ≤ 300) && (decide (o.size ≤ 300) && allN (fun i => decide ((rdOf ByteArray.empty l (i : Int)).size ≤ 100)) 0 l.length))
theorem fair_is (r : Bool) (t : ByteArray) (l : List ByteArray) (o : ByteArray) : Ev (fun k => zqd.f k r t l o) (fairB t l o) := by
  have great : Ev (fun k => zqd.j0 k true r t l o) false := Ev.step (f := fun _ => some false) (fun k => by rw [zqd.j0, if_pos rfl]) (Ev.now _)
  unfold zqd.f fairB
  by_cases h1 : l.length ≤ 20
  case neg => rw [decide_eq_false h1]; exact Ev.congr (fun k => by rw [if_pos (by omega)]) great
  by_cases h2 : t.size ≤ 300
  case neg => rw [decide_eq_false h2, Bool.false_and, Bool.and_false]; exact Ev.congr (fun k => by rw [if_neg (by omega), if_pos (by omega)]) great
  by_cases h3 : o.size ≤ 300
  case neg => rw [decide_eq_false h3, Bool.false_and, Bool.and_false, Bool.and_false]; exact Ev.congr (fun k => by rw [if_neg (by omega), if_neg (by omega), decide_eq_true (show (o.size : Int) > 300 by omega)]) great
  rw [decide_eq_true h1, decide_eq_true h2, decide_eq_true h3, Bool.true_and, Bool.true_and, Bool.true_and]
  refine Ev.congr (f := fun k => zqd.j0 k false r t l o) (fun k => by rw [if_neg (by omega), if_neg (by omega), decide_eq_false (show ¬ (o.size : Int) > 300 by omega)]) ?_
  refine Ev.step (f := fun k => zqd.l0 k ((0 : Nat) : Int) r t l o) (fun k => by rw [zqd.j0, if_neg (by decide)]; rfl) ?_
  rw [← Bool.and_true (allN _ _ _)]
  refine scan (fun k i => zqd.l0 k (i : Int) r t l o) _ l.length true ?_ ?_ ?_ l.length 0 (by omega)
  · intro i b hi hp hk
    refine Ev.step (fun k => ?_) hk
    rw [decide_eq_true_eq] at hp
    rw [zqd.l0, if_pos (by omega), if_pos (by omega), if_neg (by omega), y16 i (by omega)]
  · intro i hi hp
    refine Ev.step (f := fun _ => some false) (fun k => ?_) (Ev.now _)
    rw [decide_eq_false_iff_not] at hp
    rw [zqd.l0, if_pos (by omega), if_pos (by omega), if_pos (by omega)]
  · exact Ev.step (f := fun _ => some true) (fun k => by rw [zqd.l0, if_neg (by omega)]) (Ev.now _)
def lnB (l : List ByteArray) (i : Nat) : Bool := (rdOf ByteArray.empty l (i : Int)).size == 1 || lineB (rdOf ByteArray.empty l (i : Int))
def okB (r : Bool) (t : ByteArray) (l : List ByteArray) (o : ByteArray) : Bool :=
  decide (o.size ≤ 256) && (decide (l.length ≤ 16) && (decide (t.size ≤ 79) && ((!r || t.toList == []) && (shAll t && allN (lnB l) 0 l.length))))
def Small (l : List ByteArray) : Prop := ∀ x ∈ l, x.size ≤ 4611686018427387904
theorem y1v {l : List ByteArray} (h : Small l) (i : Nat) : (rdOf ByteArray.empty l (i : Int)).size ≤ 4611686018427387904 := by
  unfold rdOf
  rw [List.getD_eq_getElem?_getD]
  by_cases hi : ((i : Int)).toNat < l.length
  · rw [List.getElem?_eq_getElem hi]; exact h _ (List.getElem_mem hi)
  · rw [List.getElem?_eq_none (by omega)]; exact Nat.zero_le _
theorem right_is (r : Bool) (t : ByteArray) (l : List ByteArray) (o : ByteArray) (hs : Small l) : Ev (fun k => zq9.f k r t l o) (okB r t l o) := by
  have great : Ev (fun k => zq9.j0 k true r t l o) false := Ev.step (f := fun _ => some false) (fun k => by rw [zq9.j0, if_pos rfl]) (Ev.now _)
  unfold zq9.f okB
  by_cases h1 : o.size ≤ 256
  case neg => rw [decide_eq_false h1]; exact Ev.congr (fun k => by rw [if_pos (by omega)]) great
  by_cases h2 : l.length ≤ 16
  case neg => rw [decide_eq_false h2, Bool.false_and, Bool.and_false]; exact Ev.congr (fun k => by rw [if_neg (by omega), if_pos (by omega)]) great
  by_cases h3 : t.size ≤ 79
  case neg => rw [decide_eq_false h3, Bool.false_and, Bool.and_false, Bool.and_false]; exact Ev.congr (fun k => by rw [if_neg (by omega), if_neg (by omega), if_pos (by omega)]) great
  rw [decide_eq_true h1, decide_eq_true h2, decide_eq_true h3, Bool.true_and, Bool.true_and, Bool.true_and]
  have main : Ev (fun k => zq9.j0 k false r t l o) (shAll t && allN (lnB l) 0 l.length) := by
    refine Ev.step (f := fun k => zq9.l0 k ((0 : Nat) : Int) r t l o) (fun k => by rw [zq9.j0, if_neg (by decide)]; rfl) ?_
    refine scan (fun k i => zq9.l0 k (i : Int) r t l o) (sh t) t.size _ ?_ ?_ ?_ t.size 0 (by omega)
    · intro i b hi hp hk
      refine Ev.step (fun k => ?_) hk
      unfold sh at hp
      rw [zq9.l0, if_pos (by omega), if_pos (by omega), y1q, bt64, Option.bind_some, if_pos hp, y16 i (by omega)]
    · intro i hi hp
      refine Ev.step (f := fun _ => some false) (fun k => ?_) (Ev.now _)
      unfold sh at hp
      rw [zq9.l0, if_pos (by omega), if_pos (by omega), y1q, bt64, Option.bind_some, if_neg (by rw [hp]; decide)]
    · refine Ev.step (f := fun k => zq9.l1 k ((0 : Nat) : Int) r t l o) (fun k => by rw [zq9.l0, if_neg (by omega)]; rfl) ?_
      rw [← Bool.and_true (allN _ _ _)]
      refine scan (fun k i => zq9.l1 k (i : Int) r t l o) (lnB l) l.length true ?_ ?_ ?_ l.length 0 (by omega)
      · intro i b hi hp hk
        unfold lnB at hp
        by_cases h1 : (rdOf ByteArray.empty l (i : Int)).size = 1
        · refine Ev.step (fun k => ?_) hk
          rw [zq9.l1, if_pos (by omega), if_pos (by omega), if_pos (by omega), y16 i (by omega)]
        · rw [beq_false_of_ne h1, Bool.false_or] at hp
          refine Ev.step (f := fun k => ((zqg.f k (rdOf ByteArray.empty l (i : Int))).bind fun t108 => (if t108 = true then (zq9.l1 k ((i + 1 : Nat) : Int) r t l o) else (some false)))) (fun k => ?_) ?_
          · rw [zq9.l1, if_pos (by omega), if_pos (by omega), if_neg (by omega), y16 i (by omega)]
          · refine Ev.bind (line_is _ (y1v hs i)) ?_
            exact Ev.congr (fun k => by rw [if_pos hp]) hk
      · intro i hi hp
        unfold lnB at hp
        rw [Bool.or_eq_false_iff, beq_eq_false_iff_ne] at hp
        refine Ev.step (f := fun k => ((zqg.f k (rdOf ByteArray.empty l (i : Int))).bind fun t108 => (if t108 = true then (zq9.l1 k ((i + 1 : Nat) : Int) r t l o) else (some false)))) (fun k => ?_) ?_
        · rw [zq9.l1, if_pos (by omega), if_pos (by omega), if_neg (by have := hp.1; omega), y16 i (by omega)]
        · refine Ev.bind (line_is _ (y1v hs i)) ?_
          exact Ev.congr (f := fun _ => some false) (fun k => by rw [if_neg (by rw [hp.2]; decide)]) (Ev.now _)
      · exact Ev.step (f := fun _ => some true) (fun k => by rw [zq9.l1, if_neg (by omega)]) (Ev.now _)
  cases r with
  | false => rw [Bool.not_false, Bool.true_or, Bool.true_and]; exact Ev.congr (fun k => by rw [if_neg (by omega), if_neg (by omega), if_neg (by omega), if_neg (by decide)]) main
  | true =>
    rw [Bool.not_true, Bool.false_or]
    by_cases ht : t.toList = []
    · rw [ht]
      rw [show (([] : List UInt8) == []) = true from rfl, Bool.true_and]
      refine Ev.congr (fun k => ?_) main
      rw [if_neg (by omega), if_neg (by omega), if_neg (by omega), if_pos rfl]
      rfl
    · rw [show (t.toList == []) = false from beq_false_of_ne ht, Bool.false_and]
      refine Ev.congr (fun k => ?_) great
      rw [if_neg (by omega), if_neg (by omega), if_neg (by omega), if_pos rfl, show (t.toList != ([] : List UInt8)) = true from bne_iff_ne.mpr ht]
end Go.Proofs.Ytgcmhfoegbaaiaa.Tty
end
section
namespace Go.Proofs.Ytgcmhfoegbaaiaa.Tty
open Go Go.RowKit Go.Proofs.Ytgcmhfoegbaaiaa.K Go.Proofs.YtW.P Go.Proofs.YtW.M Go.Proofs.Ytgcmhfoegbaaiaa.MyBits Go.Proofs.Ytgcmhfoegbaaiaa.MyStr
theorem bs_one (s : ByteArray) (i : Nat) (h : i < s.size) : (s.extract i (i + 1)).toList = [UInt8.ofNat (bt s (i : Int)).toNat] := by
  have hl : i < (bs s).length := by rw [y0n]; exact h
  rw [y1x, y0m, bt_bs, List.drop_take, show i + 1 - i = 1 by omega, List.drop_eq_getElem_cons hl, List.take_succ_cons, List.take_zero]
  unfold byteAt
  rw [show ((i : Int)).toNat = i by omega, List.getElem?_eq_getElem hl]
  simp
theorem bt_extract (s : ByteArray) (a b i : Nat) (h : a + i < b) : bt (s.extract a b) (i : Int) = bt s ((a + i : Nat) : Int) := by
  rw [bt_bs, bt_bs, y0m]
  unfold byteAt
  rw [show ((i : Int)).toNat = i by omega, show (((a + i : Nat) : Int)).toNat = a + i by omega, List.getElem?_drop, List.getElem?_take, if_pos h]
theorem size_extract (s : ByteArray) (a b : Nat) (h : b ≤ s.size) : (s.extract a b).size = b - a := by
  rw [ByteArray.size_extract]; omega
abbrev nl : ByteArray := ⟨#[10]⟩
def ends (s : ByteArray) : Bool := decide (1 ≤ s.size) && bt s ((s.size - 1 : Nat) : Int) == 10
theorem nl_toList : nl.toList = [10] := by rw [y1x]; rfl
theorem nl_size : nl.size = 1 := rfl
theorem has_is (s : ByteArray) (h : s.size ≤ 4611686018427387904) : zq5.f s nl = some (ends s) := by
  unfold zq5.f ends
  rw [nl_size]
  by_cases h1 : 1 ≤ s.size
  · have e : wrap64 ((s.size : Int) - ((1 : Nat) : Int)) = ((s.size - 1 : Nat) : Int) := by rw [y27 (by omega) (by omega)]; omega
    rw [if_pos (by omega), e, if_pos (by omega), if_pos (by omega), decide_eq_true h1, Bool.true_and, nl_toList]
    have hx := bs_one s (s.size - 1) (by omega)
    rw [show s.size - 1 + 1 = s.size by omega] at hx
    rw [show (((s.size - 1 : Nat) : Int)).toNat = s.size - 1 by omega, hx]
    congr 1
    have hr := bt_rng s ((s.size - 1 : Nat) : Int)
    by_cases hb : bt s ((s.size - 1 : Nat) : Int) = 10
    · rw [hb]; rfl
    · rw [beq_false_of_ne hb, beq_false_of_ne]
      intro hc
      injection hc with hc
      exact hb (ofNat_inj hr.1 hr.2 (by omega) (by omega) hc)
  · rw [if_neg (by omega), decide_eq_false h1]; rfl
def trim (s : ByteArray) : ByteArray := if ends s then s.extract 0 (s.size - 1) else s
theorem trim_is (s : ByteArray) (h : s.size ≤ 4611686018427387904) : zqh.f s nl = some (trim s) := by
  unfold zqh.f zq3.f
  rw [has_is s h]
  simp only [Option.bind_some]
  unfold trim
  cases he : ends s with
  | false => rw [if_neg (by decide), if_neg (by decide)]; rfl
  | true =>
    have h1 : 1 ≤ s.size := by unfold ends at he; rw [Bool.and_eq_true, decide_eq_true_eq] at he; exact he.1
    have e : wrap64 ((s.size : Int) - (nl.size : Int)) = ((s.size - 1 : Nat) : Int) := by rw [nl_size, y27 (by omega) (by omega)]; omega
    rw [if_pos rfl, if_pos rfl, e, if_pos (by omega), if_pos (by omega), show (((s.size - 1 : Nat) : Int)).toNat = s.size - 1 by omega]
    rfl
theorem y1a (s : ByteArray) : lineB s = true ↔ s.size ≤ 80 ∧ (∀ j, j < s.size → sh s j = true ∨ (bt s (j : Int) = 10 ∧ j + 1 = s.size)) ∧ (s.size < 80 ∨ bt s ((s.size - 1 : Nat) : Int) = 10) := by
  unfold lineB lineOk
  rw [Bool.and_eq_true, Bool.and_eq_true, decide_eq_true_eq, y03, Bool.or_eq_true, decide_eq_true_eq, beq_iff_eq]
  constructor
  · rintro ⟨h1, h2, h3⟩
    refine ⟨h1, fun j hj => ?_, h3⟩
    have := h2 j (by omega) (by omega)
    rwa [Bool.or_eq_true, Bool.and_eq_true, beq_iff_eq, decide_eq_true_eq] at this
  · rintro ⟨h1, h2, h3⟩
    refine ⟨h1, fun j _ hj => ?_, h3⟩
    rw [Bool.or_eq_true, Bool.and_eq_true, beq_iff_eq, decide_eq_true_eq]
    exact h2 j (by omega)
theorem trim_line (s : ByteArray) : (shAll (trim s) && decide ((trim s).size ≤ 79)) = lineB s := by
  rw [Bool.eq_iff_iff, Bool.and_eq_true, decide_eq_true_eq, shAll_iff, y1a]
  unfold trim
  cases he : ends s with
  | true =>
    unfold ends at he
    rw [Bool.and_eq_true, decide_eq_true_eq, beq_iff_eq] at he
    obtain ⟨h1, h10⟩ := he
    rw [if_pos rfl, size_extract _ _ _ (by omega), Nat.sub_zero]
    have hb : ∀ j, j < s.size - 1 → sh (s.extract 0 (s.size - 1)) j = sh s j := fun j hj => by unfold sh; rw [bt_extract _ _ _ _ (by omega), Nat.zero_add]
    constructor
    · rintro ⟨ha, hs⟩
      refine ⟨by omega, fun j hj => ?_, .inr h10⟩
      by_cases hl : j + 1 = s.size
      · right; rw [show j = s.size - 1 by omega]; exact ⟨h10, by omega⟩
      · left; rw [← hb j (by omega)]; exact ha j (by omega)
    · rintro ⟨hs, ha, _⟩
      refine ⟨fun j hj => ?_, by omega⟩
      rw [hb j hj]
      rcases ha j (by omega) with h | h
      · exact h
      · omega
  | false =>
    rw [if_neg (by decide)]
    constructor
    · rintro ⟨ha, hs⟩
      exact ⟨by omega, fun j hj => .inl (ha j hj), .inl (by omega)⟩
    · rintro ⟨hs, ha, hl⟩
      have hne : 1 ≤ s.size → bt s ((s.size - 1 : Nat) : Int) ≠ 10 := by
        intro h1 h10
        unfold ends at he
        rw [decide_eq_true h1, h10] at he
        cases he
      refine ⟨fun j hj => ?_, ?_⟩
      · rcases ha j hj with h | ⟨h, hj1⟩
        · exact h
        · exact absurd (by rw [show s.size - 1 = j by omega]; exact h) (hne (by omega))
      · rcases hl with h | h
        · omega
        · by_cases h1 : 1 ≤ s.size
          · exact absurd h (hne h1)
          · omega
theorem tright_is (r : Bool) (t : ByteArray) (l : List ByteArray) (o : ByteArray) (hs : Small l) (ht : t.size ≤ 4611686018427387904) (hll : l.length ≤ 4611686018427387904) : Ev (fun k => zql.f k r t l o) (okB r t l o) := by
  have great : Ev (fun k => zql.j0 k true r t l o) false := Ev.step (f := fun _ => some false) (fun k => by rw [zql.j0, if_pos rfl]) (Ev.now _)
  have main : Ev (fun k => zql.j0 k false r t l o) (allN (lnB l) 0 l.length) := by
    refine Ev.step (f := fun k => zql.l0 k l (l.length : Int) ((0 : Nat) : Int)) (fun k => by rw [zql.j0, if_neg (by decide)]; rfl) ?_
    rw [← Bool.and_true (allN _ _ _)]
    refine scan (fun k i => zql.l0 k l (l.length : Int) (i : Int)) (lnB l) l.length true ?_ ?_ ?_ l.length 0 (by omega)
    · intro i b hi hp hk
      unfold lnB at hp
      by_cases h1 : (rdOf ByteArray.empty l (i : Int)).size = 1
      · refine Ev.step (fun k => ?_) hk
        rw [zql.l0, if_pos (by omega), if_pos (by omega), if_pos (by omega), if_pos (by omega), y16 i (by omega)]
      · rw [beq_false_of_ne h1, Bool.false_or] at hp
        refine Ev.step (f := fun k => ((zqr.f k (trim (rdOf ByteArray.empty l (i : Int)))).bind fun t416 => (if t416 = true then (zql.l0 k l (l.length : Int) ((i + 1 : Nat) : Int)) else (some false)))) (fun k => ?_) ?_
        · rw [zql.l0, if_pos (by omega), if_pos (by omega), if_pos (by omega), if_neg (by omega), y16 i (by omega), trim_is _ (y1v hs i)]
          rfl
        · refine Ev.bind (text_is _ ?_) ?_
          · have := y1v hs i
            unfold trim; split
            · rw [ByteArray.size_extract]; omega
            · exact this
          · exact Ev.congr (fun k => by rw [trim_line, if_pos hp]) hk
    · intro i hi hp
      unfold lnB at hp
      rw [Bool.or_eq_false_iff, beq_eq_false_iff_ne] at hp
      refine Ev.step (f := fun k => ((zqr.f k (trim (rdOf ByteArray.empty l (i : Int)))).bind fun t416 => (if t416 = true then (zql.l0 k l (l.length : Int) ((i + 1 : Nat) : Int)) else (some false)))) (fun k => ?_) ?_
      · rw [zql.l0, if_pos (by omega), if_pos (by omega), if_pos (by omega), if_neg (by have := hp.1; omega), y16 i (by omega), trim_is _ (y1v hs i)]
        rfl
      · refine Ev.bind (text_is _ ?_) ?_
        · have := y1v hs i
          unfold trim; split
          · rw [ByteArray.size_extract]; omega
          · exact this
        · exact Ev.congr (f := fun _ => some false) (fun k => by rw [trim_line, if_neg (by rw [hp.2]; decide)]) (Ev.now _)
    · exact Ev.step (f := fun _ => some true) (fun k => by rw [zql.l0, if_neg (by omega)]) (Ev.now _)
  have hd : decide ((l.length : Int) > 16) = !decide (l.length ≤ 16) := by
    by_cases h : l.length ≤ 16
    · rw [decide_eq_true h, decide_eq_false (by omega)]; rfl
    · rw [decide_eq_false h, decide_eq_true (by omega)]; rfl
  have last : Ev (fun k => zql.j0 k (decide ((l.length : Int) > 16)) r t l o) (decide (l.length ≤ 16) && allN (lnB l) 0 l.length) := by
    rw [hd]
    cases h : decide (l.length ≤ 16) with
    | true => rw [Bool.true_and]; exact main
    | false => rw [Bool.false_and]; exact great
  unfold zql.f okB
  by_cases h1 : o.size ≤ 256
  case neg => rw [decide_eq_false h1]; exact Ev.congr (fun k => by rw [if_pos (by omega)]) great
  rw [decide_eq_true h1, Bool.true_and]
  refine Ev.congr (fun k => if_neg (by omega)) ?_
  refine Ev.bind (text_is t ht) ?_
  cases hx : (shAll t && decide (t.size ≤ 79)) with
  | false =>
    refine Ev.congr (fun k => if_neg (by decide)) ?_
    rw [show (decide (l.length ≤ 16) && (decide (t.size ≤ 79) && ((!r || t.toList == []) && (shAll t && allN (lnB l) 0 l.length)))) = false from ?_]
    · exact great
    · cases h2 : decide (t.size ≤ 79) with
      | false => rw [Bool.false_and, Bool.and_false]
      | true => rw [h2, Bool.and_true] at hx; rw [hx, Bool.false_and, Bool.and_false, Bool.and_false, Bool.and_false]
  | true =>
    rw [Bool.and_eq_true] at hx
    rw [hx.1, hx.2, Bool.true_and, Bool.true_and]
    refine Ev.congr (fun k => if_pos rfl) ?_
    cases r with
    | false => refine Ev.congr (fun k => if_neg (by decide)) ?_; rw [Bool.not_false, Bool.true_or, Bool.true_and]; exact last
    | true =>
      refine Ev.congr (fun k => if_pos rfl) ?_
      by_cases ht0 : t.toList = []
      · refine Ev.congr (fun k => if_pos ht0) ?_
        rw [ht0]
        exact last
      · refine Ev.congr (fun k => if_neg ht0) ?_
        rw [show (!true || t.toList == []) = false by rw [beq_false_of_ne ht0]; rfl, Bool.false_and, Bool.and_false]
        exact great
structure Ok (r : Bool) (t : ByteArray) (l : List ByteArray) (o : ByteArray) : Prop where
  ho : o.size ≤ 256
  hl : l.length ≤ 16
  ht : t.size ≤ 79
  hr : r = true → t = ByteArray.empty
  hs : ∀ j, j < t.size → sh t j = true
  hx : ∀ x ∈ l, x.size = 1 ∨ lineB x = true
theorem empty_of {t : ByteArray} (h : t.toList = []) : t = ByteArray.empty := bs_inj (by rw [← y1x, h]; rfl)
theorem ok_iff (r : Bool) (t : ByteArray) (l : List ByteArray) (o : ByteArray) : okB r t l o = true ↔ Ok r t l o := by
  unfold okB
  rw [Bool.and_eq_true, Bool.and_eq_true, Bool.and_eq_true, Bool.and_eq_true, Bool.and_eq_true, decide_eq_true_eq, decide_eq_true_eq, decide_eq_true_eq, shAll_iff, y03]
  have hl : (∀ j, 0 ≤ j → j < 0 + l.length → lnB l j = true) ↔ ∀ x ∈ l, x.size = 1 ∨ lineB x = true := by
    have hg : ∀ j (hj : j < l.length), rdOf ByteArray.empty l ((j : Nat) : Int) = l[j] := fun j hj => by
      unfold rdOf; rw [show ((j : Int)).toNat = j by omega, List.getD_eq_getElem?_getD, List.getElem?_eq_getElem hj]; rfl
    constructor
    · intro h x hx
      obtain ⟨j, hj, rfl⟩ := List.getElem_of_mem hx
      have := h j (by omega) (by omega)
      unfold lnB at this
      rw [hg j hj, Bool.or_eq_true, beq_iff_eq] at this
      exact this
    · intro h j _ hj
      unfold lnB
      rw [hg j (by omega), Bool.or_eq_true, beq_iff_eq]
      exact h _ (List.getElem_mem (by omega))
  rw [hl]
  constructor
  · rintro ⟨h1, h2, h3, h4, h5, h6⟩
    refine ⟨h1, h2, h3, fun hr => ?_, h5, h6⟩
    rw [hr, Bool.not_true, Bool.false_or, beq_iff_eq] at h4
    exact empty_of h4
  · rintro ⟨h1, h2, h3, h4, h5, h6⟩
    refine ⟨h1, h2, h3, ?_, h5, h6⟩
    cases r with
    | false => rfl
    | true => rw [h4 rfl, y1x]; rfl
theorem Ok.small {r : Bool} {t : ByteArray} {l : List ByteArray} {o : ByteArray} (h : Ok r t l o) : Small l := fun x hx => by
  rcases h.hx x hx with h | h
  · omega
  · have := ((y1a x).1 h).1; omega
theorem Ok.right {r : Bool} {t : ByteArray} {l : List ByteArray} {o : ByteArray} (h : Ok r t l o) : Ev (fun k => zql.f k r t l o) true := by
  have := tright_is r t l o h.small (by have := h.ht; omega) (by have := h.hl; omega)
  rwa [(ok_iff r t l o).2 h] at this
theorem same_is (r : Bool) (t : ByteArray) (l : List ByteArray) (o : ByteArray) (hl : l.length ≤ 4611686018427387904) : Ev (fun k => zq4.f k r t l o r t l o) true := by
  unfold zq4.f
  refine Ev.congr (f := fun k => zq4.j0 k false r t l o r t l o) (fun k => ?_) ?_
  · rw [if_neg (by rw [bne_self_eq_false]; decide), if_pos rfl, if_pos rfl, bne_self_eq_false]
  refine Ev.step (f := fun k => zq4.l0 k ((0 : Nat) : Int) r t l o r t l o) (fun k => by rw [zq4.j0, if_neg (by decide)]; rfl) ?_
  have h := scan (fun k i => zq4.l0 k (i : Int) r t l o r t l o) (fun _ => true) l.length true ?_ ?_ ?_ l.length 0 (by omega)
  · have e : allN (fun _ => true) 0 l.length = true := (y03 _ _ _).2 (fun _ _ _ => rfl)
    rw [e] at h
    exact h
  · intro i b hi _ hk
    refine Ev.step (fun k => ?_) hk
    rw [zq4.l0, if_pos (by omega), if_pos (by omega), if_pos (by omega), if_pos rfl, y16 i (by omega)]
  · intro i _ h; cases h
  · exact Ev.step (f := fun _ => some true) (fun k => by rw [zq4.l0, if_neg (by omega)]) (Ev.now _)
def ech (o s : ByteArray) : ByteArray := o ++ s.extract 0 (min s.size (256 - o.size))
theorem ech_size (o s : ByteArray) (h : o.size ≤ 256) : (ech o s).size ≤ 256 := by
  unfold ech; rw [ByteArray.size_append, ByteArray.size_extract]; omega
theorem mn_mx (s o : Nat) (h : o ≤ 256) : mx 0 (mn (s : Int) (256 - (o : Int))) = ((min s (256 - o) : Nat) : Int) := by unfold mx mn; split <;> split <;> omega
theorem mx_mn (s o : Nat) (h : o ≤ 256) : mn (s : Int) (mx 0 (256 - (o : Int))) = ((min s (256 - o) : Nat) : Int) := by unfold mx mn; split <;> split <;> omega
theorem echo_is (r : Bool) (t : ByteArray) (l : List ByteArray) (o s : ByteArray) (h : o.size ≤ 256) : zqq.f r t l o s = some (r, t, l, ech o s) := by
  unfold zqq.f
  have e : wrap64 (256 - (o.size : Int)) = 256 - (o.size : Int) := y27 (by omega) (by omega)
  have e2 : (((min s.size (256 - o.size) : Nat) : Int)).toNat = min s.size (256 - o.size) := by omega
  rw [e, mn_mx _ _ h, if_pos (by omega), if_pos (by omega), e2, if_pos (by rw [ByteArray.size_extract]; omega)]
  rfl
theorem recho_is (r : Bool) (t : ByteArray) (l : List ByteArray) (o s : ByteArray) (h : o.size ≤ 256) : zqf.f r t l o s = some (r, t, l, ech o s) := by
  unfold zqf.f
  have e : wrap64 (256 - (o.size : Int)) = 256 - (o.size : Int) := y27 (by omega) (by omega)
  have e2 : (((min s.size (256 - o.size) : Nat) : Int)).toNat = min s.size (256 - o.size) := by omega
  rw [e, mx_mn _ _ h, if_pos (by omega), if_pos (by omega), e2, if_pos (by rw [ByteArray.size_extract]; omega)]
  rfl
abbrev bell : ByteArray := ⟨#[7]⟩
def cmp (r : Bool) (l : List ByteArray) (o s e : ByteArray) : St := if l.length ≥ 16 then (r, ByteArray.empty, l, ech o bell) else (r, ByteArray.empty, l ++ [s], ech o e)
theorem complete_is (r : Bool) (t : ByteArray) (l : List ByteArray) (o s e : ByteArray) (h : o.size ≤ 256) : zqi.f r t l o s e = some (cmp r l o s e) := by
  unfold zqi.f cmp
  by_cases hl : l.length ≥ 16
  · rw [if_pos (by omega), if_pos hl, echo_is _ _ _ _ _ h]; rfl
  · rw [if_neg (by omega), if_neg hl]
    unfold zq0.f
    rw [if_pos (by omega), Option.bind_some, if_pos (by omega), echo_is _ _ _ _ _ h]
    rfl
theorem rcomplete_is (r : Bool) (t : ByteArray) (l : List ByteArray) (o s e : ByteArray) (h : o.size ≤ 256) : zq2.f r t l o s e = some (cmp r l o s e) := by
  unfold zq2.f cmp
  by_cases hl : l.length ≥ 16
  · rw [if_pos (by omega), if_pos hl, recho_is _ _ _ _ _ h]; rfl
  · rw [if_neg (by omega), if_neg hl]
    simp only [Option.bind_some, List.length_nil, List.nil_append]
    rw [if_pos (by omega), if_pos (by omega), recho_is _ _ _ _ _ h]
    rfl
def OkS (x : St) : Prop := Ok x.1 x.2.1 x.2.2.1 x.2.2.2
theorem cmp_ok {r : Bool} {l : List ByteArray} {o s e : ByteArray} (ho : o.size ≤ 256) (hl : l.length ≤ 16) (hx : ∀ x ∈ l, x.size = 1 ∨ lineB x = true) (hs : s.size = 1 ∨ lineB s = true) : OkS (cmp r l o s e) := by
  unfold cmp
  by_cases h : l.length ≥ 16
  · rw [if_pos h]
    exact ⟨ech_size _ _ ho, hl, Nat.zero_le _, fun _ => rfl, fun j hj => absurd hj (Nat.not_lt_zero _), hx⟩
  · rw [if_neg h]
    refine ⟨ech_size _ _ ho, by show (l ++ [s]).length ≤ 16; rw [List.length_append, List.length_singleton]; omega, Nat.zero_le _, fun _ => rfl, fun j hj => absurd hj (Nat.not_lt_zero _), fun x h' => ?_⟩
    rcases List.mem_append.1 h' with h' | h'
    · exact hx x h'
    · rw [List.mem_singleton.1 h']; exact hs
theorem line_of_text {t : ByteArray} (ht : t.size ≤ 79) (hs : ∀ j, j < t.size → sh t j = true) : lineB t = true :=
  (y1a t).2 ⟨by omega, fun j hj => .inl (hs j hj), .inl (by omega)⟩
theorem pos_of {o : ByteArray} (h : ¬ o.toList = []) : 0 < o.size := by
  rw [y1x] at h
  rw [← y0n]
  exact List.length_pos_iff.2 h
theorem byte_eq {s : ByteArray} {i : Nat} (h : i < (bs s).length) : bt s (i : Int) = ((bs s)[i]).toNat := by
  rw [bt_bs]; unfold byteAt
  rw [show ((i : Int)).toNat = i by omega, List.getElem?_eq_getElem h]; rfl
end Go.Proofs.Ytgcmhfoegbaaiaa.Tty
end
section
namespace Go.Proofs.Ytgcmhfoegbaaiaa.Pure
open Go Go.RowKit Go.Proofs.Ytgcmhfoegbaaiaa.K Go.Proofs.YtW.P Go.Proofs.YtW.M Go.Proofs.Ytgcmhfoegbaaiaa.MyBits Go.Proofs.Ytgcmhfoegbaaiaa.MyStr Go.Proofs.Ytgcmhfoegbaaiaa.Tty
theorem alive_k : zq7.f 400 = some true := by decide +kernel
theorem alive_is : Ev (fun k => zq7.f k) true := Ev.of (fun k => zq7.mono k) alive_k
theorem y02 : Ev (fun k => (zq7.f k).bind fun t => some t) true := Ev.bind alive_is (Ev.now true)
theorem fair_small {t : ByteArray} {l : List ByteArray} {o : ByteArray} (h : fairB t l o = true) : l.length ≤ 20 ∧ t.size ≤ 300 ∧ o.size ≤ 300 ∧ Small l := by
  unfold fairB at h
  rw [Bool.and_eq_true, Bool.and_eq_true, Bool.and_eq_true, decide_eq_true_eq, decide_eq_true_eq, decide_eq_true_eq, y03] at h
  refine ⟨h.1, h.2.1, h.2.2.1, fun x hx => ?_⟩
  obtain ⟨j, hj, rfl⟩ := List.getElem_of_mem hx
  have := h.2.2.2 j (by omega) (by omega)
  rw [decide_eq_true_eq] at this
  unfold rdOf at this
  rw [show ((j : Int)).toNat = j by omega, List.getD_eq_getElem?_getD, List.getElem?_eq_getElem hj] at this
  have h2 : (l[j]).size ≤ 100 := this
  omega
theorem good_is (r : Bool) (t : ByteArray) (l : List ByteArray) (o : ByteArray) : Ev (fun k => zqc.f k r t l o) (fairB t l o && okB r t l o) := by
  unfold zqc.f
  refine Ev.bind (fair_is r t l o) ?_
  cases h : fairB t l o with
  | false => exact Ev.congr (f := fun _ => some false) (fun k => by rw [if_neg (by decide)]) (Ev.now _)
  | true =>
    refine Ev.congr (fun k => if_pos rfl) ?_
    rw [Bool.true_and]
    exact Ev.bind (right_is r t l o (fair_small h).2.2.2) (Ev.now _)
end Go.Proofs.Ytgcmhfoegbaaiaa.Pure
end
section
namespace Go.Proofs.Ytgcmhfoegbaaiaa.Tty
open Go Go.RowKit Go.Proofs.Ytgcmhfoegbaaiaa.K Go.Proofs.YtW.P Go.Proofs.YtW.M Go.Proofs.Ytgcmhfoegbaaiaa.MyBits Go.Proofs.Ytgcmhfoegbaaiaa.MyStr
abbrev crlf : ByteArray := ⟨#[13, 10]⟩
def wre (c : UInt8) : ByteArray := if c = 10 then crlf else ⟨#[c]⟩
def wr : List UInt8 → ByteArray → ByteArray × Nat
  | [], o => (o, 0)
  | c :: q, o => if o.size + (wre c).size > 256 then (o, 0) else ((wr q (o ++ wre c)).1, (wr q (o ++ wre c)).2 + 1)
theorem wre_size (c : UInt8) : (wre c).size = if c = 10 then 2 else 1 := by unfold wre; split <;> rfl
theorem wr_size : ∀ (l : List UInt8) (o : ByteArray), o.size ≤ 256 → (wr l o).1.size ≤ 256 := by
  intro l
  induction l with
  | nil => intro o h; exact h
  | cons c q ih =>
    intro o h
    unfold wr
    by_cases hc : o.size + (wre c).size > 256
    · rw [if_pos hc]; exact h
    · rw [if_neg hc]; exact ih _ (by rw [ByteArray.size_append]; omega)
theorem c10 (c : UInt8) : (c.toNat : Int) = 10 ↔ c = 10 := by
  constructor
  · intro h
    apply UInt8.toNat_inj.1
    have : (10 : UInt8).toNat = 10 := rfl
    omega
  · intro h; rw [h]; rfl
theorem one_wre {c : UInt8} (h : ¬ c = 10) : strOfNums [(c.toNat : Int)] = wre c := by
  unfold wre; rw [if_neg h]
  apply bs_inj
  rw [bs_nums]
  show [UInt8.ofNat ((c.toNat : Int)).toNat] = [c]
  rw [y1d]
def wres (r : Bool) (t : ByteArray) (l : List ByteArray) (s : ByteArray) (i : Nat) (o : ByteArray) : Bool × ByteArray × List ByteArray × ByteArray × Int :=
  (r, t, l, (wr ((bs s).drop i) o).1, ((i + (wr ((bs s).drop i) o).2 : Nat) : Int))
theorem wres_stop {r : Bool} {t : ByteArray} {l : List ByteArray} {s : ByteArray} {i : Nat} {o : ByteArray} (h : i < (bs s).length) (hc : o.size + (wre (bs s)[i]).size > 256) : wres r t l s i o = (r, t, l, o, (i : Int)) := by
  unfold wres
  rw [List.drop_eq_getElem_cons h]
  unfold wr
  rw [if_pos hc]; rfl
theorem wres_go {r : Bool} {t : ByteArray} {l : List ByteArray} {s : ByteArray} {i : Nat} {o : ByteArray} (h : i < (bs s).length) (hc : ¬ o.size + (wre (bs s)[i]).size > 256) : wres r t l s i o = wres r t l s (i + 1) (o ++ wre (bs s)[i]) := by
  unfold wres
  rw [List.drop_eq_getElem_cons h]
  conv => lhs; unfold wr
  rw [if_neg hc]
  simp only
  rw [show i + ((wr (List.drop (i + 1) (bs s)) (o ++ wre (bs s)[i])).2 + 1) = i + 1 + (wr (List.drop (i + 1) (bs s)) (o ++ wre (bs s)[i])).2 by omega]
theorem wres_end {r : Bool} {t : ByteArray} {l : List ByteArray} {s : ByteArray} {o : ByteArray} : wres r t l s s.size o = (r, t, l, o, (s.size : Int)) := by
  unfold wres
  rw [List.drop_eq_nil_of_le (by rw [y0n]; omega)]
  rfl
theorem write_step {k : Nat} {r : Bool} {t : ByteArray} {l : List ByteArray} {o s : ByteArray} {bl : List Int} {n : Int} {i : Nat} {b : Int} {e : ByteArray} (ho : o.size ≤ 256) (hn : n = (bl.length : Int)) (hi : i < bl.length) (hb : rd bl (i : Int) = b)
    (hs : bl.length ≤ 4611686018427387904) (he : if b = 10 then e = crlf else strOfNums [b] = e) (hz : e.size ≤ 2) :
    zqm.l0 (k + 1) s bl n (i : Int) r t l o = if o.size + e.size > 256 then some (r, t, l, o, (i : Int)) else zqm.l0 k s bl n ((i + 1 : Nat) : Int) r t l (o ++ e) := by
  rw [zqm.l0, if_pos (by omega), if_pos (by omega), if_pos (by omega), Option.bind_some, hb, y16 i (by omega)]
  by_cases h : b = 10
  · rw [if_pos h] at he
    subst he
    rw [if_pos h, y27 (by omega) (by omega)]
    have h2 : crlf.size = 2 := rfl
    by_cases hc : o.size + crlf.size > 256
    · rw [if_pos hc, if_pos (by omega)]
    · rw [if_neg hc, if_neg (by omega), if_pos (by omega)]
  · rw [if_neg h] at he
    rw [if_neg h, he, y27 (by omega) (by omega)]
    by_cases hc : o.size + e.size > 256
    · rw [if_pos hc, if_pos (by omega)]
    · rw [if_neg hc, if_neg (by omega), if_pos (by omega)]
theorem wre_if (c : UInt8) : if (c.toNat : Int) = 10 then wre c = crlf else strOfNums [(c.toNat : Int)] = wre c := by
  by_cases h : c = 10
  · rw [if_pos ((c10 c).2 h)]; unfold wre; rw [if_pos h]
  · rw [if_neg (fun h' => h ((c10 c).1 h'))]; exact one_wre h
theorem wre_two (c : UInt8) : (wre c).size ≤ 2 := by rw [wre_size]; split <;> omega
theorem wloop (L : Nat → Nat → ByteArray → Option (Bool × ByteArray × List ByteArray × ByteArray × Int)) (r : Bool) (t : ByteArray) (l : List ByteArray) (s : ByteArray)
    (hstep : ∀ k i (h : i < (bs s).length) o, o.size ≤ 256 → L (k + 1) i o = if o.size + (wre (bs s)[i]).size > 256 then some (r, t, l, o, (i : Int)) else L k (i + 1) (o ++ wre (bs s)[i]))
    (hend : ∀ k o, L (k + 1) s.size o = some (r, t, l, o, (s.size : Int))) : ∀ d i o, i + d = s.size → o.size ≤ 256 → Ev (fun k => L k i o) (wres r t l s i o) := by
  intro d
  induction d with
  | zero =>
    intro i o hi ho
    obtain rfl : i = s.size := by omega
    rw [wres_end]
    exact Ev.step (f := fun _ => some (r, t, l, o, (s.size : Int))) (fun k => hend k o) (Ev.now _)
  | succ d ih =>
    intro i o hi ho
    have hib : i < (bs s).length := by rw [y0n]; omega
    by_cases hc : o.size + (wre (bs s)[i]).size > 256
    · rw [wres_stop hib hc]
      exact Ev.step (f := fun _ => some (r, t, l, o, (i : Int))) (fun k => by rw [hstep k i hib o ho, if_pos hc]) (Ev.now _)
    · rw [wres_go hib hc]
      refine Ev.step (fun k => ?_) (ih (i + 1) (o ++ wre (bs s)[i]) (by omega) ?_)
      · rw [hstep k i hib o ho, if_neg hc]
      · rw [ByteArray.size_append]; exact Nat.le_of_not_lt hc
theorem write_is (r : Bool) (t : ByteArray) (l : List ByteArray) (o s : ByteArray) (ho : o.size ≤ 256) (hs : s.size ≤ 4611686018427387904) : Ev (fun k => zqm.f k r t l o s) (wres r t l s 0 o) := by
  have hl : (bytesOf s).length = s.size := by rw [y0r, List.length_map, y0n]
  refine Ev.congr (f := fun k => zqm.l0 k s (bytesOf s) ((bytesOf s).length : Int) ((0 : Nat) : Int) r t l o) (fun k => by unfold zqm.f; rw [if_pos (by omega)]; rfl) ?_
  refine wloop (fun k i o => zqm.l0 k s (bytesOf s) ((bytesOf s).length : Int) (i : Int) r t l o) r t l s (fun k i h o ho => ?_) (fun k o => ?_) s.size 0 o (Nat.zero_add _) ho
  · have hi : i < (bytesOf s).length := by rw [hl, ← y0n]; exact h
    have hb : rd (bytesOf s) (i : Int) = ((bs s)[i]).toNat := by rw [y1k]; exact byte_eq h
    have hw := wre_if (bs s)[i]
    have hz := wre_two (bs s)[i]
    rw [write_step ho rfl hi hb (by rw [hl]; exact hs) hw hz]
  · show zqm.l0 (k + 1) s (bytesOf s) ((bytesOf s).length : Int) (s.size : Int) r t l o = _
    rw [zqm.l0, if_neg (by omega)]
theorem rwrite_step {k : Nat} {r : Bool} {t : ByteArray} {l : List ByteArray} {o s : ByteArray} {i : Nat} {c : UInt8} {e : ByteArray} (ho : o.size ≤ 256) (hi : i < s.size) (hx : s.extract i (i + 1) = ⟨#[c]⟩)
    (hs : s.size ≤ 4611686018427387904) (he : if c = 10 then e = crlf else (⟨#[c]⟩ : ByteArray) = e) :
    zqa.l0 (k + 1) s (i : Int) r t l o = if o.size + e.size > 256 then some (r, t, l, o, (i : Int)) else zqa.l0 k s ((i + 1 : Nat) : Int) r t l (o ++ e) := by
  have hxs : (⟨#[c]⟩ : ByteArray).size = 1 := rfl
  have hxl : (⟨#[c]⟩ : ByteArray).toList = [c] := by rw [y1x]; rfl
  rw [zqa.l0, if_pos (by omega), if_pos (by omega), y16 i (by omega), if_pos (by omega), if_pos (by omega), show ((i : Int)).toNat = i by omega, show (((i + 1 : Nat) : Int)).toNat = i + 1 by omega, hx, hxl, hxs]
  by_cases h : c = 10
  · rw [if_pos h] at he
    subst he
    rw [if_pos (by rw [h]), y27 (by omega) (by omega)]
    have h2 : crlf.size = 2 := rfl
    by_cases hc : o.size + crlf.size > 256
    · rw [if_pos hc, if_pos (by omega)]
    · rw [if_neg hc, if_neg (by omega), if_pos (by omega)]
  · rw [if_neg h] at he
    have hn : ¬ [c] = [10] := fun h' => h (List.cons.inj h').1
    have h1 : e.size = 1 := by rw [← he]; exact hxs
    rw [if_neg hn, he, y27 (by omega) (by omega)]
    by_cases hc : o.size + e.size > 256
    · rw [if_pos hc, if_pos (by omega)]
    · rw [if_neg hc, if_neg (by omega), if_pos (by omega)]
theorem rwre_if (c : UInt8) : if c = 10 then wre c = crlf else (⟨#[c]⟩ : ByteArray) = wre c := by
  by_cases h : c = 10
  · rw [if_pos h]; unfold wre; rw [if_pos h]
  · rw [if_neg h]; unfold wre; rw [if_neg h]
theorem rwrite_is (r : Bool) (t : ByteArray) (l : List ByteArray) (o s : ByteArray) (ho : o.size ≤ 256) (hs : s.size ≤ 4611686018427387904) : Ev (fun k => zqa.f k r t l o s) (wres r t l s 0 o) := by
  refine Ev.congr (f := fun k => zqa.l0 k s ((0 : Nat) : Int) r t l o) (fun k => rfl) ?_
  refine wloop (fun k i o => zqa.l0 k s (i : Int) r t l o) r t l s (fun k i h o ho => ?_) (fun k o => ?_) s.size 0 o (Nat.zero_add _) ho
  · have hi : i < s.size := by rw [← y0n]; exact h
    have hx : s.extract i (i + 1) = ⟨#[(bs s)[i]]⟩ := by
      apply bs_inj
      rw [← y1x, bs_one s i hi, byte_eq h]
      show [UInt8.ofNat (((bs s)[i].toNat : Int)).toNat] = [(bs s)[i]]
      rw [y1d]
    exact rwrite_step ho hi hx hs (rwre_if _)
  · show zqa.l0 (k + 1) s (s.size : Int) r t l o = _
    rw [zqa.l0, if_neg (by omega)]
end Go.Proofs.Ytgcmhfoegbaaiaa.Tty
end
section
namespace Go.Proofs.Ytgcmhfoegbaaiaa.Tty
open Go Go.RowKit Go.Proofs.Ytgcmhfoegbaaiaa.K Go.Proofs.YtW.P Go.Proofs.YtW.M Go.Proofs.Ytgcmhfoegbaaiaa.MyBits Go.Proofs.Ytgcmhfoegbaaiaa.MyStr
def sraw (r : Bool) (t : ByteArray) (l : List ByteArray) (o : ByteArray) (b : Bool) : St :=
  if b = true then (if t.toList = [] then (b, t, l, o) else (b, (cmp r l o t ByteArray.empty).2)) else (b, t, l, o)
theorem setraw_is (r : Bool) (t : ByteArray) (l : List ByteArray) (o : ByteArray) (b : Bool) (h : o.size ≤ 256) : zqj.f r t l o b = some (sraw r t l o b) := by
  unfold zqj.f sraw
  by_cases hb : b = true
  · rw [if_pos hb, if_pos hb]
    by_cases ht : t.toList = []
    · rw [if_pos ht, if_pos ht]
    · rw [if_neg ht, if_neg ht, complete_is _ _ _ _ _ _ h]; rfl
  · rw [if_neg hb, if_neg hb]
theorem rsetraw_is (r : Bool) (t : ByteArray) (l : List ByteArray) (o : ByteArray) (b : Bool) (h : o.size ≤ 256) : zq6.f r t l o b = some (sraw r t l o b) := by
  unfold zq6.f sraw
  by_cases hb : b = true
  · rw [if_pos hb, if_pos hb]
    by_cases ht : t.toList = []
    · rw [if_pos ht, if_pos ht]
    · rw [if_neg ht, if_neg ht, rcomplete_is _ _ _ _ _ _ h]; rfl
  · rw [if_neg hb, if_neg hb]
theorem sraw_ok {r : Bool} {t : ByteArray} {l : List ByteArray} {o : ByteArray} (h : Ok r t l o) (b : Bool) : OkS (sraw r t l o b) := by
  unfold sraw
  by_cases hb : b = true
  · rw [if_pos hb]
    by_cases ht : t.toList = []
    · rw [if_pos ht]; exact ⟨h.ho, h.hl, h.ht, fun _ => empty_of ht, h.hs, h.hx⟩
    · rw [if_neg ht]
      have := cmp_ok (r := b) (e := ByteArray.empty) h.ho h.hl h.hx (.inr (line_of_text h.ht h.hs))
      unfold cmp at this ⊢
      split
      · rename_i hl; rw [if_pos hl] at this; exact this
      · rename_i hl; rw [if_neg hl] at this; exact this
  · rw [if_neg hb]
    exact ⟨h.ho, h.hl, h.ht, fun hb' => absurd hb' hb, h.hs, h.hx⟩
def nxt (r : Bool) (t : ByteArray) (l : List ByteArray) (o : ByteArray) : Bool × ByteArray × List ByteArray × ByteArray × Int × Bool :=
  if o.toList = [] then (r, t, l, o, 0, false) else (r, t, l, o.extract 1 o.size, bt o 0, true)
theorem next_is (r : Bool) (t : ByteArray) (l : List ByteArray) (o : ByteArray) : zqo.f r t l o = some (nxt r t l o) := by
  unfold zqo.f nxt
  by_cases h : o.toList = []
  · rw [if_pos h, if_pos h]
  · have := pos_of h
    rw [if_neg h, if_neg h, if_pos (by omega), if_pos (by omega), bt64]
theorem rnext_is (r : Bool) (t : ByteArray) (l : List ByteArray) (o : ByteArray) : zqe.f r t l o = some (nxt r t l o) := by
  unfold zqe.f nxt
  by_cases h : o.toList = []
  · rw [if_pos h, if_pos h]
  · have := pos_of h
    rw [if_neg h, if_neg h, if_pos (by omega), if_pos (by omega), bt64]
end Go.Proofs.Ytgcmhfoegbaaiaa.Tty
end
section
namespace Go.Proofs.Ytgcmhfoegbaaiaa.Pure
open Go Go.RowKit Go.Proofs.Ytgcmhfoegbaaiaa.K Go.Proofs.YtW.P Go.Proofs.YtW.M Go.Proofs.Ytgcmhfoegbaaiaa.MyBits Go.Proofs.Ytgcmhfoegbaaiaa.MyStr Go.Proofs.Ytgcmhfoegbaaiaa.Tty
theorem wres_ok {r : Bool} {t : ByteArray} {l : List ByteArray} {o : ByteArray} (h : Ok r t l o) (s : ByteArray) : Ok (wres r t l s 0 o).1 (wres r t l s 0 o).2.1 (wres r t l s 0 o).2.2.1 (wres r t l s 0 o).2.2.2.1 :=
  ⟨wr_size _ _ h.ho, h.hl, h.ht, h.hr, h.hs, h.hx⟩
theorem nxt_ok {r : Bool} {t : ByteArray} {l : List ByteArray} {o : ByteArray} (h : Ok r t l o) : Ok (nxt r t l o).1 (nxt r t l o).2.1 (nxt r t l o).2.2.1 (nxt r t l o).2.2.2.1 := by
  unfold nxt
  split
  · exact h
  · exact ⟨by show (o.extract 1 o.size).size ≤ 256; rw [ByteArray.size_extract]; have := h.ho; omega, h.hl, h.ht, h.hr, h.hs, h.hx⟩
theorem len_of {r : Bool} {t : ByteArray} {l : List ByteArray} {o : ByteArray} (h : Ok r t l o) : l.length ≤ 4611686018427387904 := by have := h.hl; omega
theorem TtyWrites : zq1.Pure := by
  intro r t l o s b ht hl ho hs
  refine Ev.rounds ?_
  unfold zq1.f
  refine Ev.bind (good_is r t l o) ?_
  cases h : (fairB t l o && okB r t l o) with
  | false => exact Ev.congr (fun k => if_neg (by decide)) y02
  | true =>
    rw [Bool.and_eq_true, ok_iff] at h
    refine Ev.congr (fun k => if_pos rfl) ?_
    by_cases h6 : (s.size : Int) > 600
    · exact Ev.congr (fun k => if_pos h6) y02
    refine Ev.congr (fun k => if_neg h6) ?_
    have w := wres_ok h.2 s
    have n := nxt_ok h.2
    have q : OkS (sraw r t l o b) := sraw_ok h.2 b
    refine Ev.bind (write_is r t l o s h.2.ho (by omega)) (Ev.bind (rwrite_is r t l o s h.2.ho (by omega)) ?_)
    refine Ev.bind (a := nxt r t l o) (Ev.congr (fun k => next_is r t l o) (Ev.now _)) (Ev.bind (a := nxt r t l o) (Ev.congr (fun k => rnext_is r t l o) (Ev.now _)) ?_)
    refine Ev.bind (a := sraw r t l o b) (Ev.congr (fun k => setraw_is r t l o b h.2.ho) (Ev.now _)) (Ev.bind (a := sraw r t l o b) (Ev.congr (fun k => rsetraw_is r t l o b h.2.ho) (Ev.now _)) ?_)
    refine Ev.bind (same_is _ _ _ _ (len_of w)) (Ev.congr (fun k => (if_pos rfl).trans (if_pos rfl)) ?_)
    refine Ev.bind (same_is _ _ _ _ (len_of n)) (Ev.congr (fun k => (if_pos rfl).trans ((if_pos rfl).trans (if_pos (by simp)))) ?_)
    refine Ev.bind (same_is _ _ _ _ (len_of q)) (Ev.congr (fun k => if_pos rfl) ?_)
    refine Ev.bind w.right (Ev.congr (fun k => if_pos rfl) ?_)
    refine Ev.bind n.right (Ev.congr (fun k => if_pos rfl) ?_)
    refine Ev.bind (Ok.right q) (Ev.congr (fun k => if_pos rfl) ?_)
    exact y02
end Go.Proofs.Ytgcmhfoegbaaiaa.Pure
end
