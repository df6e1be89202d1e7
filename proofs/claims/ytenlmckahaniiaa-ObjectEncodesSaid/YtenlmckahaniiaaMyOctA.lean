/- Integers as bytes and the checksum, in plain lists and numbers: no program here. -/
import Derived.Test.YtenlmckahaniiaaMyStr
import Derived.Laws.BitsAllLaws
set_option linter.unusedVariables false
set_option linter.unusedSimpArgs false
namespace Go.Proofs.Ytenlmckahaniiaa.Oct
open Go Go.RowKit Go.Proofs.YtenlmckahaniiaaW.PrintWords Go.Proofs.YtenlmckahaniiaaW.PrintMore Go.Proofs.Ytenlmckahaniiaa.MyBits Go.Proofs.Ytenlmckahaniiaa.MyStr

/-- The lowest bytes of a number, the least significant first. -/
def lei (n : Int) : Nat → List Int
  | 0 => []
  | w + 1 => n % 256 :: lei (n / 256) w
theorem lei_length (n : Int) (w : Nat) : (lei n w).length = w := by
  induction w generalizing n with
  | zero => rfl
  | succ w ih => simp [lei, ih]
theorem lei_range (n : Int) (w : Nat) : ∀ x ∈ lei n w, 0 ≤ x ∧ x < 256 := by
  induction w generalizing n with
  | zero => intro x hx; cases hx
  | succ w ih =>
    intro x hx
    rcases List.mem_cons.1 hx with rfl | h
    · omega
    · exact ih _ x h
theorem lei_snoc (n : Int) (w : Nat) : lei n (w + 1) = lei n w ++ [n / 256 ^ w % 256] := by
  induction w generalizing n with
  | zero => simp [lei]
  | succ w ih =>
    have h : n / 256 / 256 ^ w = n / 256 ^ (w + 1) := by
      rw [Int.ediv_ediv_of_nonneg (by decide), Int.pow_succ, Int.mul_comm]
    have h2 := ih (n / 256)
    rw [h] at h2
    show n % 256 :: lei (n / 256) (w + 1) = _
    rw [h2]; rfl
/-- The number of bytes. -/
def unle : List Int → Int
  | [] => 0
  | b :: l => b + 256 * unle l
theorem unle_range (l : List Int) (h : ∀ x ∈ l, 0 ≤ x ∧ x < 256) : 0 ≤ unle l ∧ unle l < 256 ^ l.length := by
  induction l with
  | nil => exact ⟨Int.le_refl _, by decide⟩
  | cons b l ih =>
    have h1 := h b List.mem_cons_self
    have h2 := ih (fun x hx => h x (List.mem_cons_of_mem _ hx))
    have e : (256 : Int) ^ (b :: l).length = 256 * 256 ^ l.length := by rw [List.length_cons, Int.pow_succ, Int.mul_comm]
    rw [e]; unfold unle
    generalize (256 : Int) ^ l.length = p at *
    omega
theorem unle_lei (n : Int) (w : Nat) (h0 : 0 ≤ n) (h1 : n < 256 ^ w) : unle (lei n w) = n := by
  induction w generalizing n with
  | zero => simp [lei, unle] at *; omega
  | succ w ih =>
    unfold lei unle
    rw [ih (n / 256) (by omega) (by rw [Int.pow_succ] at h1; omega)]
    omega
theorem lei_unle (l : List Int) (h : ∀ x ∈ l, 0 ≤ x ∧ x < 256) : lei (unle l) l.length = l := by
  induction l with
  | nil => rfl
  | cons b l ih =>
    have h1 := h b List.mem_cons_self
    have h2 := ih (fun x hx => h x (List.mem_cons_of_mem _ hx))
    unfold unle
    show lei (b + 256 * unle l) (l.length + 1) = _
    unfold lei
    have e1 : (b + 256 * unle l) % 256 = b := by omega
    have e2 : (b + 256 * unle l) / 256 = unle l := by omega
    rw [e1, e2, h2]
theorem lei_inj (n m : Int) (w : Nat) (h0 : 0 ≤ n) (h1 : n < 256 ^ w) (h2 : 0 ≤ m) (h3 : m < 256 ^ w) (h : lei n w = lei m w) : n = m := by
  rw [← unle_lei n w h0 h1, ← unle_lei m w h2 h3, h]
/-- Bytes as numbers. -/
def ints (l : List UInt8) : List Int := l.map fun b => (b.toNat : Int)
theorem ints_length (l : List UInt8) : (ints l).length = l.length := List.length_map _
theorem ints_range (l : List UInt8) : ∀ x ∈ ints l, 0 ≤ x ∧ x < 256 := by
  intro x hx
  obtain ⟨b, _, rfl⟩ := List.mem_map.1 hx
  have := UInt8.toNat_lt b
  omega
theorem ints_append (a b : List UInt8) : ints (a ++ b) = ints a ++ ints b := List.map_append
theorem ints_take (l : List UInt8) (n : Nat) : ints (l.take n) = (ints l).take n := List.map_take
theorem ints_drop (l : List UInt8) (n : Nat) : ints (l.drop n) = (ints l).drop n := List.map_drop
theorem ints_inj {a b : List UInt8} (h : ints a = ints b) : a = b := by
  induction a generalizing b with
  | nil => cases b with
    | nil => rfl
    | cons _ _ => cases h
  | cons x a ih =>
    cases b with
    | nil => cases h
    | cons y b =>
      unfold ints at h
      simp only [List.map_cons, List.cons.injEq] at h
      have h1 : x = y := UInt8.toNat_inj.1 (by omega)
      rw [h1, ih h.2]
theorem byteAt_ints (l : List UInt8) (i : Nat) : byteAt l i = (ints l).getD i 0 := by
  unfold byteAt ints
  rw [List.getD_eq_getElem?_getD, List.getElem?_map]
  cases l[i]? <;> rfl
/-- Numbers as bytes. -/
def byt (l : List Int) : List UInt8 := l.map fun n => UInt8.ofNat n.toNat
theorem byt_length (l : List Int) : (byt l).length = l.length := List.length_map _
theorem byt_append (a b : List Int) : byt (a ++ b) = byt a ++ byt b := List.map_append
theorem byt_ints (l : List UInt8) : byt (ints l) = l := by
  unfold byt ints; rw [List.map_map]
  conv => rhs; rw [← List.map_id l]
  congr 1; funext b; exact ofNat_toNat b
theorem ints_byt (l : List Int) (h : ∀ x ∈ l, 0 ≤ x ∧ x < 256) : ints (byt l) = l := by
  induction l with
  | nil => rfl
  | cons x l ih =>
    have h1 := h x List.mem_cons_self
    unfold byt ints
    simp only [List.map_cons, List.cons.injEq]
    refine ⟨?_, ih (fun y hy => h y (List.mem_cons_of_mem _ hy))⟩
    rw [UInt8.toNat_ofNat']; omega
theorem bs_nums' (xs : List Int) : bs (strOfNums xs) = byt xs := bs_nums xs
/-- The bytes of a number. -/
def le (n : Int) (w : Nat) : List UInt8 := byt (lei n w)
theorem le_length (n : Int) (w : Nat) : (le n w).length = w := by unfold le; rw [byt_length, lei_length]
theorem ints_le (n : Int) (w : Nat) : ints (le n w) = lei n w := ints_byt _ (lei_range n w)
/-- The number of bytes. -/
def num (l : List UInt8) : Int := unle (ints l)
theorem num_le (n : Int) (w : Nat) (h0 : 0 ≤ n) (h1 : n < 256 ^ w) : num (le n w) = n := by unfold num; rw [ints_le, unle_lei n w h0 h1]
theorem num_range (l : List UInt8) : 0 ≤ num l ∧ num l < 256 ^ l.length := by
  have := unle_range (ints l) (ints_range l)
  rwa [ints_length] at this
theorem le_num (l : List UInt8) : le (num l) l.length = l := by
  unfold le num
  have := lei_unle (ints l) (ints_range l)
  rw [ints_length] at this
  rw [this, byt_ints]
theorem num_cons (b : UInt8) (l : List UInt8) : num (b :: l) = b.toNat + 256 * num l := rfl
theorem num_inj {a b : List UInt8} (hl : a.length = b.length) (h : num a = num b) : a = b := by
  rw [← le_num a, ← le_num b, h, hl]
theorem le_inj (n m : Int) (w : Nat) (h0 : 0 ≤ n) (h1 : n < 256 ^ w) (h2 : 0 ≤ m) (h3 : m < 256 ^ w) (h : le n w = le m w) : n = m := by
  rw [← num_le n w h0 h1, ← num_le m w h2 h3, h]

/-! The checksum. -/
def step (c : Nat) : Nat := if c % 2 = 1 then (c / 2) ^^^ 3988292384 else c / 2
def steps : Nat → Nat → Nat
  | 0, c => c
  | n + 1, c => steps n (step c)
def crcB (c : Nat) (b : UInt8) : Nat := steps 8 (c ^^^ b.toNat)
def crcs (c : Nat) (l : List UInt8) : Nat := l.foldl crcB c
def crc (l : List UInt8) : Nat := crcs 4294967295 l ^^^ 4294967295
theorem step_lt (c : Nat) (h : c < 4294967296) : step c < 4294967296 := by
  unfold step
  split
  · exact Nat.xor_lt_two_pow (n := 32) (by omega) (by decide)
  · omega
theorem steps_lt (n c : Nat) (h : c < 4294967296) : steps n c < 4294967296 := by
  induction n generalizing c with
  | zero => exact h
  | succ n ih => exact ih _ (step_lt c h)
theorem crcB_lt (c : Nat) (b : UInt8) (h : c < 4294967296) : crcB c b < 4294967296 :=
  steps_lt 8 _ (Nat.xor_lt_two_pow (n := 32) h (by have := UInt8.toNat_lt b; omega))
theorem crcs_lt (c : Nat) (l : List UInt8) (h : c < 4294967296) : crcs c l < 4294967296 := by
  induction l generalizing c with
  | nil => exact h
  | cons b l ih => exact ih _ (crcB_lt c b h)
theorem crc_lt (l : List UInt8) : crc l < 4294967296 := Nat.xor_lt_two_pow (n := 32) (crcs_lt _ _ (by decide)) (by decide)
theorem crcs_append (c : Nat) (a b : List UInt8) : crcs c (a ++ b) = crcs (crcs c a) b := List.foldl_append
/-- A step can be turned back. -/
theorem step_inj {c d : Nat} (hc : c < 4294967296) (hd : d < 4294967296) (h : step c = step d) : c = d := by
  have top : ∀ x : Nat, x < 4294967296 → (x / 2 ^^^ 3988292384) ≥ 2147483648 := by
    intro x hx
    have h1 : (x / 2 ^^^ 3988292384).testBit 31 = true := by
      rw [Nat.testBit_xor]
      have h2 : (x / 2).testBit 31 = false := Nat.testBit_lt_two_pow (by omega)
      have h3 : (3988292384 : Nat).testBit 31 = true := by decide
      rw [h2, h3]; rfl
    exact Nat.ge_two_pow_of_testBit h1
  unfold step at h
  by_cases h1 : c % 2 = 1 <;> by_cases h2 : d % 2 = 1
  · rw [if_pos h1, if_pos h2] at h
    have h3 : c / 2 = d / 2 := by
      have := congrArg (fun n => n ^^^ 3988292384) h
      simp only [Nat.xor_assoc, Nat.xor_self, Nat.xor_zero] at this
      exact this
    omega
  · rw [if_pos h1, if_neg h2] at h
    have := top c hc
    omega
  · rw [if_neg h1, if_pos h2] at h
    have := top d hd
    omega
  · rw [if_neg h1, if_neg h2] at h
    omega
theorem steps_inj (n : Nat) {c d : Nat} (hc : c < 4294967296) (hd : d < 4294967296) (h : steps n c = steps n d) : c = d := by
  induction n generalizing c d with
  | zero => exact h
  | succ n ih => exact step_inj hc hd (ih (step_lt c hc) (step_lt d hd) h)
theorem xor_inj_left {a b c : Nat} (h : a ^^^ c = b ^^^ c) : a = b := by
  have := congrArg (fun n => n ^^^ c) h
  simpa only [Nat.xor_assoc, Nat.xor_self, Nat.xor_zero] using this
theorem xor_inj_right {a b c : Nat} (h : c ^^^ a = c ^^^ b) : a = b := by
  rw [Nat.xor_comm c a, Nat.xor_comm c b] at h
  exact xor_inj_left h
theorem crcB_inj {c d : Nat} (b : UInt8) (hc : c < 4294967296) (hd : d < 4294967296) (h : crcB c b = crcB d b) : c = d := by
  have hb := UInt8.toNat_lt b
  exact xor_inj_left (steps_inj 8 (Nat.xor_lt_two_pow (n := 32) hc (by omega)) (Nat.xor_lt_two_pow (n := 32) hd (by omega)) h)
theorem crcB_inj2 {c : Nat} {a b : UInt8} (hc : c < 4294967296) (h : crcB c a = crcB c b) : a = b := by
  have ha := UInt8.toNat_lt a
  have hb := UInt8.toNat_lt b
  exact UInt8.toNat_inj.1 (xor_inj_right (steps_inj 8 (Nat.xor_lt_two_pow (n := 32) hc (by omega)) (Nat.xor_lt_two_pow (n := 32) hc (by omega)) h))
theorem crcs_inj {c d : Nat} (l : List UInt8) (hc : c < 4294967296) (hd : d < 4294967296) (h : crcs c l = crcs d l) : c = d := by
  induction l generalizing c d with
  | nil => exact h
  | cons b l ih => exact crcB_inj b hc hd (ih (crcB_lt c b hc) (crcB_lt d b hd) h)
/-- One byte changed: another checksum. -/
theorem crc_one (x y : List UInt8) (a b : UInt8) (h : a ≠ b) : crc (x ++ a :: y) ≠ crc (x ++ b :: y) := by
  intro e
  have e1 : crcs 4294967295 (x ++ a :: y) = crcs 4294967295 (x ++ b :: y) := xor_inj_left e
  rw [crcs_append, crcs_append] at e1
  have hx := crcs_lt 4294967295 x (by decide)
  have e2 : crcB (crcs 4294967295 x) a = crcB (crcs 4294967295 x) b := crcs_inj y (crcB_lt _ _ hx) (crcB_lt _ _ hx) e1
  exact h (crcB_inj2 hx e2)
/-- Bytes with their checksum. -/
def seal_ (l : List UInt8) : List UInt8 := l ++ le (crc l) 4
theorem seal_length (l : List UInt8) : (seal_ l).length = l.length + 4 := by unfold seal_; rw [List.length_append, le_length]
/-- The bytes ahead of a checksum that fits. -/
def opened (l : List UInt8) : Prop := 4 ≤ l.length ∧ l.drop (l.length - 4) = le (crc (l.take (l.length - 4))) 4
theorem opened_seal (l : List UInt8) : opened (seal_ l) := by
  refine ⟨by rw [seal_length]; omega, ?_⟩
  have h : (seal_ l).length - 4 = l.length := by rw [seal_length]; omega
  rw [h]; unfold seal_
  rw [List.drop_left, List.take_left]
theorem opened_eq (l : List UInt8) (h : opened l) : seal_ (l.take (l.length - 4)) = l := by
  unfold seal_; rw [← h.2, List.take_append_drop]
/-- One byte of sealed bytes changed: the checksum doesn't fit. -/
theorem seal_one (l x y : List UInt8) (a b : UInt8) (h : a ≠ b) (e : seal_ l = x ++ a :: y) : ¬ opened (x ++ b :: y) := by
  intro ho
  have hl : (x ++ b :: y).length = l.length + 4 := by
    have := congrArg List.length e
    rw [seal_length] at this
    simp only [List.length_append, List.length_cons] at this ⊢
    omega
  have h2 := ho.2
  rw [show (x ++ b :: y).length - 4 = l.length by rw [hl]; omega] at h2
  have hlen : x.length + 1 + y.length = l.length + 4 := by
    simp only [List.length_append, List.length_cons] at hl; omega
  by_cases hx : x.length < l.length
  · -- in the bytes
    have e1 : l = x ++ a :: (y.take (l.length - x.length - 1)) := by
      have t1 := congrArg (List.take l.length) e
      unfold seal_ at t1
      rw [List.take_left, List.take_append, List.take_of_length_le (by omega)] at t1
      rw [show l.length - x.length = (l.length - x.length - 1) + 1 by omega, List.take_succ_cons] at t1
      exact t1
    have e2 : (x ++ b :: y).take l.length = x ++ b :: (y.take (l.length - x.length - 1)) := by
      rw [List.take_append, List.take_of_length_le (by omega)]
      rw [show l.length - x.length = (l.length - x.length - 1) + 1 by omega, List.take_succ_cons]
      congr 3
    have e3 : (x ++ b :: y).drop l.length = (x ++ a :: y).drop l.length := by
      rw [List.drop_append, List.drop_append, show l.length - x.length = (l.length - x.length - 1) + 1 by omega]
      rfl
    have e4 : (x ++ a :: y).drop l.length = le (crc l) 4 := by rw [← e]; unfold seal_; rw [List.drop_left]
    rw [e3, e4, e2] at h2
    have h3 := le_inj _ _ 4 (by omega) (by have := crc_lt l; omega) (by omega) (by have := crc_lt (x ++ b :: (y.take (l.length - x.length - 1))); omega) h2
    have h4 : crc l = crc (x ++ b :: (y.take (l.length - x.length - 1))) := by omega
    rw [e1] at h4
    have h5 : (x ++ a :: List.take (l.length - x.length - 1) y).length = l.length := by rw [← e1]
    rw [h5] at h4
    exact crc_one _ _ a b h h4
  · -- in the checksum
    have e2 : (x ++ b :: y).take l.length = x.take l.length := by
      rw [List.take_append, show l.length - x.length = 0 by omega]; simp
    have e1 : l = x.take l.length := by
      have t1 := congrArg (List.take l.length) e
      unfold seal_ at t1
      rw [List.take_left, List.take_append, show l.length - x.length = 0 by omega] at t1
      simpa using t1
    have e4 : (x ++ a :: y).drop l.length = le (crc l) 4 := by rw [← e]; unfold seal_; rw [List.drop_left]
    rw [e2, ← e1, ← e4, List.drop_append, List.drop_append, show l.length - x.length = 0 by omega] at h2
    have h3 := List.append_cancel_left h2
    simp only [List.drop_zero, List.cons.injEq] at h3
    exact h h3.1.symm
end Go.Proofs.Ytenlmckahaniiaa.Oct
