/- tty: what the small functions answer: lines, valid states, equal states. -/
import Derived.Test.YtgcmhfoegbaaiaaMyStr
import Derived.Test.YtgcmhfoegbaaiaaMyBits
import Derived.Test.YtgcmhfoegbaaiaaKx1
import Derived.Test.YtgcmhfoegbaaiaaKx2
import Derived.Test.YtgcmhfoegbaaiaaKx3
import Derived.Test.YtgcmhfoegbaaiaaKx6
import Derived.Test.YtgcmhfoegbaaiaaKx16
set_option linter.unusedVariables false
set_option linter.unusedSimpArgs false
namespace Go.Proofs.Ytgcmhfoegbaaiaa.Tty
open Go Go.RowKit Go.Proofs.Ytgcmhfoegbaaiaa.K Go.Proofs.YtgcmhfoegbaaiaaW.PrintWords Go.Proofs.YtgcmhfoegbaaiaaW.PrintMore Go.Proofs.Ytgcmhfoegbaaiaa.MyBits Go.Proofs.Ytgcmhfoegbaaiaa.MyStr

theorem i64_nat (i : Nat) (h : i < 9223372036854775807) : wrap64 ((i : Int) + 1) = ((i + 1 : Nat) : Int) := by unfold wrap64; omega

/-! a walk over a row -/
def allN (P : Nat → Bool) : Nat → Nat → Bool
  | _, 0 => true
  | i, d + 1 => P i && allN P (i + 1) d
theorem allN_iff (P : Nat → Bool) : ∀ d i, allN P i d = true ↔ ∀ j, i ≤ j → j < i + d → P j = true := by
  intro d
  induction d with
  | zero => intro i; simp only [allN, true_iff]; intro j h1 h2; omega
  | succ d ih =>
    intro i
    simp only [allN, Bool.and_eq_true, ih]
    constructor
    · rintro ⟨h0, h⟩ j h1 h2
      by_cases hj : j = i
      · rw [hj]; exact h0
      · exact h j (by omega) (by omega)
    · intro h
      exact ⟨h i (by omega) (by omega), fun j h1 h2 => h j (by omega) (by omega)⟩
theorem scan (L : Nat → Nat → Option Bool) (P : Nat → Bool) (n : Nat) (e : Bool) (hy : ∀ i r, i < n → P i = true → Ev (fun k => L k (i + 1)) r → Ev (fun k => L k i) r)
    (hn : ∀ i, i < n → P i = false → Ev (fun k => L k i) false) (he : Ev (fun k => L k n) e) : ∀ d i, i + d = n → Ev (fun k => L k i) (allN P i d && e) := by
  intro d
  induction d with
  | zero => intro i hi; obtain rfl : i = n := by omega
            simpa [allN] using he
  | succ d ih =>
    intro i hi
    unfold allN
    cases hp : P i with
    | true => rw [Bool.true_and]; exact hy i _ (by omega) hp (ih (i + 1) (by omega))
    | false => rw [Bool.false_and, Bool.false_and]; exact hn i (by omega) hp

/-! bytes and lines -/
def shw (a : Int) : Bool := (decide (a ≥ 32) && decide (a ≤ 126)) || a == 9
theorem shown_is (a : Int) : tty_shown.f a = some (shw a) := by
  unfold tty_shown.f shw
  by_cases h1 : a ≥ 32
  · by_cases h2 : a ≤ 126 <;> simp [h1, h2]
  · simp [h1]
theorem rshown_is (a : Int) : emulatorref43_shown.f a = some (shw a) := by
  unfold emulatorref43_shown.f shw
  by_cases h1 : a ≥ 32
  · by_cases h2 : a ≤ 126 <;> simp [h1, h2]
  · simp [h1]
/-- Byte i of a string is shown. -/
def sh (s : ByteArray) (i : Nat) : Bool := shw (bt s i)
def shAll (s : ByteArray) : Bool := allN (sh s) 0 s.size
theorem shAll_iff (s : ByteArray) : shAll s = true ↔ ∀ j, j < s.size → sh s j = true := by
  unfold shAll
  rw [allN_iff]
  constructor
  · intro h j hj; exact h j (by omega) (by omega)
  · intro h j _ hj; exact h j (by omega)
theorem bt64 (s : ByteArray) (i : Int) : wrap64 (bt s i) = bt s i := by have := bt_rng s i; exact wrap64_id (by omega) (by omega)
theorem text_is (s : ByteArray) (h : s.size ≤ 4611686018427387904) : Ev (fun k => tty_text.f k s) (shAll s && decide (s.size ≤ 79)) := by
  refine Ev.congr (f := fun k => tty_text.l0 k s (bytesOf s) ((bytesOf s).length : Int) ((0 : Nat) : Int)) (fun k => by unfold tty_text.f; rw [if_pos (by omega)]; rfl) ?_
  have hl : (bytesOf s).length = s.size := by rw [bytesOf_bs, List.length_map, bs_length]
  have he : (decide ((s.size : Int) ≤ 79)) = decide (s.size ≤ 79) := by
    by_cases h : s.size ≤ 79
    · rw [decide_eq_true h, decide_eq_true (by omega)]
    · rw [decide_eq_false h, decide_eq_false (by omega)]
  refine scan (fun k i => tty_text.l0 k s (bytesOf s) ((bytesOf s).length : Int) (i : Int)) (sh s) s.size _ ?_ ?_ ?_ s.size 0 (by omega)
  · intro i r hi hp h1
    refine Ev.step (fun k => ?_) h1
    rw [tty_text.l0, if_pos (by omega), if_pos (by omega), if_pos (by omega), shown_is, rd_bytesOf]
    unfold sh at hp
    rw [hp, i64_nat i (by omega)]
    rfl
  · intro i hi hp
    refine Ev.step (f := fun _ => some false) (fun k => ?_) (Ev.now _)
    rw [tty_text.l0, if_pos (by omega), if_pos (by omega), if_pos (by omega), shown_is, rd_bytesOf]
    unfold sh at hp
    rw [hp]
    rfl
  · refine Ev.step (f := fun _ => some (decide (s.size ≤ 79))) (fun k => ?_) (Ev.now _)
    rw [tty_text.l0, if_neg (by omega), he]

/-- A line that line mode can complete. -/
def lineOk (s : ByteArray) (i : Nat) : Bool := sh s i || (bt s i == 10 && decide (i + 1 = s.size))
def lineB (s : ByteArray) : Bool := decide (s.size ≤ 80) && (allN (lineOk s) 0 s.size && (decide (s.size < 80) || bt s (s.size - 1 : Nat) == 10))
theorem line_is (s : ByteArray) (h : s.size ≤ 4611686018427387904) : Ev (fun k => emulatorref43_line.f k s) (lineB s) := by
  unfold emulatorref43_line.f lineB
  by_cases h80 : s.size ≤ 80
  case neg => rw [decide_eq_false h80]; exact Ev.congr (fun k => by rw [if_pos (by omega)]; rfl) (Ev.now _)
  rw [decide_eq_true h80, Bool.true_and]
  refine Ev.congr (f := fun k => emulatorref43_line.l0 k s ((0 : Nat) : Int)) (fun k => by rw [if_neg (by omega)]; rfl) ?_
  refine scan (fun k i => emulatorref43_line.l0 k s (i : Int)) (lineOk s) s.size _ ?_ ?_ ?_ s.size 0 (by omega)
  · intro i r hi hp h1
    refine Ev.step (fun k => ?_) h1
    rw [emulatorref43_line.l0, if_pos (by omega), if_pos (by omega), rshown_is, bt64, Option.bind_some, i64_nat i (by omega)]
    unfold lineOk sh at hp
    by_cases hs : shw (bt s (i : Int)) = true
    · rw [if_pos hs]
    · rw [if_neg hs]
      rw [Bool.eq_false_iff.mpr hs, Bool.false_or, Bool.and_eq_true, beq_iff_eq, decide_eq_true_eq] at hp
      rw [if_pos hp.1, if_pos (by have := hp.2; rw [wrap64_id (by omega) (by omega)]; omega)]
  · intro i hi hp
    refine Ev.step (f := fun _ => some false) (fun k => ?_) (Ev.now _)
    rw [emulatorref43_line.l0, if_pos (by omega), if_pos (by omega), rshown_is, bt64, Option.bind_some]
    unfold lineOk sh at hp
    rw [Bool.or_eq_false_iff, Bool.and_eq_false_iff] at hp
    rw [if_neg (by rw [hp.1]; decide)]
    by_cases h10 : bt s (i : Int) = 10
    · rw [if_pos h10, if_neg]
      rcases hp.2 with h | h
      · rw [h10] at h; simp at h
      · rw [decide_eq_false_iff_not] at h; rw [wrap64_id (by omega) (by omega)]; omega
    · rw [if_neg h10]
  · refine Ev.step (f := fun _ => some (decide (s.size < 80) || bt s (s.size - 1 : Nat) == 10)) (fun k => ?_) (Ev.now _)
    rw [emulatorref43_line.l0, if_neg (by omega)]
    by_cases h8 : s.size < 80
    · rw [if_pos (by omega), decide_eq_true h8, Bool.true_or]
    · have e : wrap64 ((s.size : Int) - 1) = ((s.size - 1 : Nat) : Int) := by rw [wrap64_id (by omega) (by omega)]; omega
      rw [if_neg (by omega), e, if_pos (by omega), if_pos (by omega), decide_eq_false h8, Bool.false_or]

/-! states -/
abbrev St := Bool × ByteArray × List ByteArray × ByteArray
def fairB (t : ByteArray) (l : List ByteArray) (o : ByteArray) : Bool := decide (l.length ≤ 20) && (decide (t.size ≤ 300) && (decide (o.size ≤ 300) && allN (fun i => decide ((rdOf ByteArray.empty l (i : Int)).size ≤ 100)) 0 l.length))
theorem fair_is (r : Bool) (t : ByteArray) (l : List ByteArray) (o : ByteArray) : Ev (fun k => emulatorref43_Fair.f k r t l o) (fairB t l o) := by
  have great : Ev (fun k => emulatorref43_Fair.j0 k true r t l o) false := Ev.step (f := fun _ => some false) (fun k => by rw [emulatorref43_Fair.j0, if_pos rfl]) (Ev.now _)
  unfold emulatorref43_Fair.f fairB
  by_cases h1 : l.length ≤ 20
  case neg => rw [decide_eq_false h1]; exact Ev.congr (fun k => by rw [if_pos (by omega)]) great
  by_cases h2 : t.size ≤ 300
  case neg => rw [decide_eq_false h2, Bool.false_and, Bool.and_false]; exact Ev.congr (fun k => by rw [if_neg (by omega), if_pos (by omega)]) great
  by_cases h3 : o.size ≤ 300
  case neg => rw [decide_eq_false h3, Bool.false_and, Bool.and_false, Bool.and_false]; exact Ev.congr (fun k => by rw [if_neg (by omega), if_neg (by omega), decide_eq_true (show (o.size : Int) > 300 by omega)]) great
  rw [decide_eq_true h1, decide_eq_true h2, decide_eq_true h3, Bool.true_and, Bool.true_and, Bool.true_and]
  refine Ev.congr (f := fun k => emulatorref43_Fair.j0 k false r t l o) (fun k => by rw [if_neg (by omega), if_neg (by omega), decide_eq_false (show ¬ (o.size : Int) > 300 by omega)]) ?_
  refine Ev.step (f := fun k => emulatorref43_Fair.l0 k ((0 : Nat) : Int) r t l o) (fun k => by rw [emulatorref43_Fair.j0, if_neg (by decide)]; rfl) ?_
  rw [← Bool.and_true (allN _ _ _)]
  refine scan (fun k i => emulatorref43_Fair.l0 k (i : Int) r t l o) _ l.length true ?_ ?_ ?_ l.length 0 (by omega)
  · intro i b hi hp hk
    refine Ev.step (fun k => ?_) hk
    rw [decide_eq_true_eq] at hp
    rw [emulatorref43_Fair.l0, if_pos (by omega), if_pos (by omega), if_neg (by omega), i64_nat i (by omega)]
  · intro i hi hp
    refine Ev.step (f := fun _ => some false) (fun k => ?_) (Ev.now _)
    rw [decide_eq_false_iff_not] at hp
    rw [emulatorref43_Fair.l0, if_pos (by omega), if_pos (by omega), if_pos (by omega)]
  · exact Ev.step (f := fun _ => some true) (fun k => by rw [emulatorref43_Fair.l0, if_neg (by omega)]) (Ev.now _)
def lnB (l : List ByteArray) (i : Nat) : Bool := (rdOf ByteArray.empty l (i : Int)).size == 1 || lineB (rdOf ByteArray.empty l (i : Int))
def okB (r : Bool) (t : ByteArray) (l : List ByteArray) (o : ByteArray) : Bool :=
  decide (o.size ≤ 256) && (decide (l.length ≤ 16) && (decide (t.size ≤ 79) && ((!r || t.toList == []) && (shAll t && allN (lnB l) 0 l.length))))
/-- All lines are short enough for the numbers. -/
def Small (l : List ByteArray) : Prop := ∀ x ∈ l, x.size ≤ 4611686018427387904
theorem small_at {l : List ByteArray} (h : Small l) (i : Nat) : (rdOf ByteArray.empty l (i : Int)).size ≤ 4611686018427387904 := by
  unfold rdOf
  rw [List.getD_eq_getElem?_getD]
  by_cases hi : ((i : Int)).toNat < l.length
  · rw [List.getElem?_eq_getElem hi]; exact h _ (List.getElem_mem hi)
  · rw [List.getElem?_eq_none (by omega)]; exact Nat.zero_le _
theorem right_is (r : Bool) (t : ByteArray) (l : List ByteArray) (o : ByteArray) (hs : Small l) : Ev (fun k => emulatorref43_Right.f k r t l o) (okB r t l o) := by
  have great : Ev (fun k => emulatorref43_Right.j0 k true r t l o) false := Ev.step (f := fun _ => some false) (fun k => by rw [emulatorref43_Right.j0, if_pos rfl]) (Ev.now _)
  unfold emulatorref43_Right.f okB
  by_cases h1 : o.size ≤ 256
  case neg => rw [decide_eq_false h1]; exact Ev.congr (fun k => by rw [if_pos (by omega)]) great
  by_cases h2 : l.length ≤ 16
  case neg => rw [decide_eq_false h2, Bool.false_and, Bool.and_false]; exact Ev.congr (fun k => by rw [if_neg (by omega), if_pos (by omega)]) great
  by_cases h3 : t.size ≤ 79
  case neg => rw [decide_eq_false h3, Bool.false_and, Bool.and_false, Bool.and_false]; exact Ev.congr (fun k => by rw [if_neg (by omega), if_neg (by omega), if_pos (by omega)]) great
  rw [decide_eq_true h1, decide_eq_true h2, decide_eq_true h3, Bool.true_and, Bool.true_and, Bool.true_and]
  have main : Ev (fun k => emulatorref43_Right.j0 k false r t l o) (shAll t && allN (lnB l) 0 l.length) := by
    refine Ev.step (f := fun k => emulatorref43_Right.l0 k ((0 : Nat) : Int) r t l o) (fun k => by rw [emulatorref43_Right.j0, if_neg (by decide)]; rfl) ?_
    refine scan (fun k i => emulatorref43_Right.l0 k (i : Int) r t l o) (sh t) t.size _ ?_ ?_ ?_ t.size 0 (by omega)
    · intro i b hi hp hk
      refine Ev.step (fun k => ?_) hk
      unfold sh at hp
      rw [emulatorref43_Right.l0, if_pos (by omega), if_pos (by omega), rshown_is, bt64, Option.bind_some, if_pos hp, i64_nat i (by omega)]
    · intro i hi hp
      refine Ev.step (f := fun _ => some false) (fun k => ?_) (Ev.now _)
      unfold sh at hp
      rw [emulatorref43_Right.l0, if_pos (by omega), if_pos (by omega), rshown_is, bt64, Option.bind_some, if_neg (by rw [hp]; decide)]
    · refine Ev.step (f := fun k => emulatorref43_Right.l1 k ((0 : Nat) : Int) r t l o) (fun k => by rw [emulatorref43_Right.l0, if_neg (by omega)]; rfl) ?_
      rw [← Bool.and_true (allN _ _ _)]
      refine scan (fun k i => emulatorref43_Right.l1 k (i : Int) r t l o) (lnB l) l.length true ?_ ?_ ?_ l.length 0 (by omega)
      · intro i b hi hp hk
        unfold lnB at hp
        by_cases h1 : (rdOf ByteArray.empty l (i : Int)).size = 1
        · refine Ev.step (fun k => ?_) hk
          rw [emulatorref43_Right.l1, if_pos (by omega), if_pos (by omega), if_pos (by omega), i64_nat i (by omega)]
        · rw [beq_false_of_ne h1, Bool.false_or] at hp
          refine Ev.step (f := fun k => ((emulatorref43_line.f k (rdOf ByteArray.empty l (i : Int))).bind fun t108 => (if t108 = true then (emulatorref43_Right.l1 k ((i + 1 : Nat) : Int) r t l o) else (some false)))) (fun k => ?_) ?_
          · rw [emulatorref43_Right.l1, if_pos (by omega), if_pos (by omega), if_neg (by omega), i64_nat i (by omega)]
          · refine Ev.bind (line_is _ (small_at hs i)) ?_
            exact Ev.congr (fun k => by rw [if_pos hp]) hk
      · intro i hi hp
        unfold lnB at hp
        rw [Bool.or_eq_false_iff, beq_eq_false_iff_ne] at hp
        refine Ev.step (f := fun k => ((emulatorref43_line.f k (rdOf ByteArray.empty l (i : Int))).bind fun t108 => (if t108 = true then (emulatorref43_Right.l1 k ((i + 1 : Nat) : Int) r t l o) else (some false)))) (fun k => ?_) ?_
        · rw [emulatorref43_Right.l1, if_pos (by omega), if_pos (by omega), if_neg (by have := hp.1; omega), i64_nat i (by omega)]
        · refine Ev.bind (line_is _ (small_at hs i)) ?_
          exact Ev.congr (f := fun _ => some false) (fun k => by rw [if_neg (by rw [hp.2]; decide)]) (Ev.now _)
      · exact Ev.step (f := fun _ => some true) (fun k => by rw [emulatorref43_Right.l1, if_neg (by omega)]) (Ev.now _)
  cases r with
  | false => rw [Bool.not_false, Bool.true_or, Bool.true_and]; exact Ev.congr (fun k => by rw [if_neg (by omega), if_neg (by omega), if_neg (by omega), if_neg (by decide)]) main
  | true =>
    rw [Bool.not_true, Bool.false_or]
    by_cases ht : t.toList = []
    · rw [ht]
      rw [show (([] : List UInt8) == []) = true from rfl, Bool.true_and]
      refine Ev.congr (fun k => ?_) main
      rw [if_neg (by omega), if_neg (by omega), if_neg (by omega), if_pos rfl]
      rfl
    · rw [show (t.toList == []) = false from beq_false_of_ne ht, Bool.false_and]
      refine Ev.congr (fun k => ?_) great
      rw [if_neg (by omega), if_neg (by omega), if_neg (by omega), if_pos rfl, show (t.toList != ([] : List UInt8)) = true from bne_iff_ne.mpr ht]
end Go.Proofs.Ytgcmhfoegbaaiaa.Tty
