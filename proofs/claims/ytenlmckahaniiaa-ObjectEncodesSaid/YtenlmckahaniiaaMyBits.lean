/- Plain lemmas on whole numbers: what '&', '|' and '&^' of signed 64-bit numbers with small masks are in terms of '/' and '%'. -/
import Derived.Laws.BitsLemmas
import Derived.RowKit
set_option linter.unusedVariables false
set_option linter.unusedSimpArgs false
namespace Go.Proofs.Ytenlmckahaniiaa.MyBits
open Go Go.RowKit

theorem wrap_id {n : Int} (h0 : -9223372036854775808 ≤ n) (h1 : n ≤ 9223372036854775807) : IntKind.i64.wrap n = n := by
  rw [IntKind.wrap_i64]; omega
theorem wrap64_id {n : Int} (h0 : -9223372036854775808 ≤ n) (h1 : n ≤ 9223372036854775807) : wrap64 n = n := by
  unfold wrap64; omega

/-- The 64 bits of a whole number, as a natural number. -/
def un (x : Int) : Nat := (x % 18446744073709551616).toNat
theorem un_lt (x : Int) : un x < 18446744073709551616 := by unfold un; omega
theorem un_cast (x : Int) : (un x : Int) = x % 18446744073709551616 := by unfold un; omega
theorem un_small {x : Int} (h0 : 0 ≤ x) (h1 : x ≤ 9223372036854775807) : (un x : Int) = x := by rw [un_cast]; omega
theorem un_nat {x : Nat} (h1 : x < 18446744073709551616) : un (x : Int) = x := by unfold un; omega
theorem toNat_ofInt64 (x : Int) : (BitVec.ofInt 64 x).toNat = un x := by
  rw [BitVec.toNat_ofInt]; rfl

theorem and_un (x y : Int) : Go.bits .and .i64 x y = IntKind.i64.wrap ((un x &&& un y : Nat) : Int) := by
  show IntKind.i64.wrap ((BitVec.ofInt 64 x &&& BitVec.ofInt 64 y).toNat : Int) = _
  rw [BitVec.toNat_and, toNat_ofInt64, toNat_ofInt64]
theorem or_un (x y : Int) : Go.bits .or .i64 x y = IntKind.i64.wrap ((un x ||| un y : Nat) : Int) := by
  show IntKind.i64.wrap ((BitVec.ofInt 64 x ||| BitVec.ofInt 64 y).toNat : Int) = _
  rw [BitVec.toNat_or, toNat_ofInt64, toNat_ofInt64]
theorem xor_un (x y : Int) : Go.bits .xor .i64 x y = IntKind.i64.wrap ((un x ^^^ un y : Nat) : Int) := by
  show IntKind.i64.wrap ((BitVec.ofInt 64 x ^^^ BitVec.ofInt 64 y).toNat : Int) = _
  rw [BitVec.toNat_xor, toNat_ofInt64, toNat_ofInt64]
theorem andNot_un (x y : Int) : Go.bits .andNot .i64 x y = IntKind.i64.wrap ((un x &&& (18446744073709551615 - un y) : Nat) : Int) := by
  show IntKind.i64.wrap ((BitVec.ofInt 64 x &&& ~~~ BitVec.ofInt 64 y).toNat : Int) = _
  rw [BitVec.toNat_and, BitVec.toNat_not, toNat_ofInt64, toNat_ofInt64]

/-- A mask in two parts. -/
theorem land_split (x hi lo k : Nat) (h : lo < 2 ^ k) : x &&& (hi * 2 ^ k + lo) = ((x / 2 ^ k) &&& hi) * 2 ^ k + ((x % 2 ^ k) &&& lo) := by
  have h2 : (x % 2 ^ k) &&& lo < 2 ^ k := Nat.and_lt_two_pow _ h
  apply Nat.eq_of_testBit_eq
  intro i
  rw [Nat.testBit_and, Nat.mul_comm hi, Nat.mul_comm ((x / 2 ^ k) &&& hi), Nat.testBit_two_pow_mul_add hi h, Nat.testBit_two_pow_mul_add _ h2]
  split
  · rename_i hlt
    rw [Nat.testBit_and, Nat.testBit_mod_two_pow]; simp [hlt]
  · rename_i hge
    rw [Nat.testBit_and, Nat.testBit_div_two_pow]
    congr 2; omega
theorem land_low (x k : Nat) : x &&& (2 ^ k - 1) = x % 2 ^ k := Nat.and_two_pow_sub_one_eq_mod x k
theorem lor_split (x y a b k : Nat) (h : y < 2 ^ k) (h2 : b < 2 ^ k) : (x * 2 ^ k + y) ||| (a * 2 ^ k + b) = (x ||| a) * 2 ^ k + (y ||| b) := by
  have h3 : y ||| b < 2 ^ k := Nat.or_lt_two_pow h h2
  apply Nat.eq_of_testBit_eq
  intro i
  rw [Nat.testBit_or, Nat.mul_comm x, Nat.mul_comm a, Nat.mul_comm (x ||| a), Nat.testBit_two_pow_mul_add _ h, Nat.testBit_two_pow_mul_add _ h2, Nat.testBit_two_pow_mul_add _ h3]
  split <;> simp [Nat.testBit_or]
theorem lor_disjoint (x y : Nat) (h : x &&& y = 0) : x ||| y = x + y := by
  induction x using Nat.strongRecOn generalizing y with
  | ind x ih =>
    by_cases h0 : x = 0
    · subst h0; simp
    · have e1 : x = (x / 2) * 2 ^ 1 + x % 2 := by omega
      have e2 : y = (y / 2) * 2 ^ 1 + y % 2 := by omega
      have l1 : x % 2 < 2 ^ 1 := by omega
      have l2 : y % 2 < 2 ^ 1 := by omega
      have s := land_split x (y / 2) (y % 2) 1 l2
      rw [← e2, h] at s
      have p : x / 2 ^ 1 = x / 2 := rfl
      have q : x % 2 ^ 1 = x % 2 := rfl
      rw [p, q] at s
      have s1 : x / 2 &&& y / 2 = 0 := by omega
      have s2 : x % 2 &&& y % 2 = 0 := by omega
      have hi := ih (x / 2) (by omega) (y / 2) s1
      have lo : (x % 2 ||| y % 2) = x % 2 + y % 2 := by
        rcases Nat.mod_two_eq_zero_or_one x with a | a <;> rcases Nat.mod_two_eq_zero_or_one y with b | b <;> rw [a, b] at s2 ⊢ <;> first | rfl | (exact absurd s2 (by decide))
      have := lor_split (x / 2) (x % 2) (y / 2) (y % 2) 1 l1 l2
      rw [← e1, ← e2, hi, lo] at this
      omega
theorem land_not (x m : Nat) (hx : x < 18446744073709551616) (hm : m < 18446744073709551616) : (x &&& (18446744073709551615 - m)) = x - (x &&& m) := by
  have e : (18446744073709551615 - m) = (~~~ (BitVec.ofNat 64 m)).toNat := by
    simp only [BitVec.toNat_not, BitVec.toNat_ofNat]; omega
  have e1 : (x &&& (18446744073709551615 - m)) + (x &&& m) = x := by
    have hd : (x &&& (18446744073709551615 - m)) &&& (x &&& m) = 0 := by
      rw [e]; apply Nat.eq_of_testBit_eq; intro i
      simp only [Nat.testBit_and, BitVec.testBit_toNat, BitVec.getLsbD_not, BitVec.getLsbD_ofNat, Nat.zero_testBit]
      cases x.testBit i <;> cases m.testBit i <;> simp
    have ho := lor_disjoint _ _ hd
    rw [← ho, ← Nat.and_or_distrib_left, e]
    apply Nat.eq_of_testBit_eq; intro i
    simp only [Nat.testBit_and, Nat.testBit_or, BitVec.testBit_toNat, BitVec.getLsbD_not, BitVec.getLsbD_ofNat]
    by_cases hi : i < 64
    · cases x.testBit i <;> cases m.testBit i <;> simp [hi]
    · have : x.testBit i = false := Nat.testBit_lt_two_pow (Nat.lt_of_lt_of_le hx (Nat.pow_le_pow_right (n := 2) (by decide) (Nat.le_of_not_lt hi)))
      simp [this]
  omega

/-- '&' with a mask of the lowest bits. -/
theorem and_low (x : Int) (m k : Nat) (hk : k < 63) (hm : m + 1 = 2 ^ k) : Go.bits .and .i64 x (m : Int) = x % 2 ^ k := by
  have hp : 2 ^ k ≤ 2 ^ 62 := Nat.pow_le_pow_right (by decide) (by omega)
  have hm' : m = 2 ^ k - 1 := by omega
  have h62 : (2 : Nat) ^ 62 = 4611686018427387904 := by decide
  rw [and_un, un_nat (by omega), hm', land_low]
  have hlt : un x % 2 ^ k < 2 ^ k := Nat.mod_lt _ (Nat.two_pow_pos k)
  rw [wrap_id (by omega) (by omega)]
  rw [Int.natCast_emod, un_cast, Int.natCast_pow]
  have hd : ((2 : Nat) ^ k : Int) ∣ 18446744073709551616 := by
    refine ⟨2 ^ (64 - k), ?_⟩
    have : (18446744073709551616 : Int) = 2 ^ 64 := by decide
    rw [this]
    show (2 : Int) ^ 64 = 2 ^ k * 2 ^ (64 - k)
    rw [← Int.pow_add]; congr 1; omega
  exact Int.emod_emod_of_dvd x hd
/-- '&' with a mask of two groups of bits: the upper one as it is seen k places higher. -/
theorem and_parts (x : Int) (m hi lo k : Nat) (hm : m = hi * 2 ^ k + lo) (hlo : lo < 2 ^ k) (hs : m < 9223372036854775808) (hk : k < 63) :
    Go.bits .and .i64 x (m : Int) = Go.bits .and .i64 (x / 2 ^ k) (hi : Int) * 2 ^ k + Go.bits .and .i64 x (lo : Int) := by
  have hpos : 0 < 2 ^ k := Nat.two_pow_pos k
  have hhi : hi ≤ hi * 2 ^ k := Nat.le_mul_of_pos_right _ hpos
  have a1 : un x &&& m ≤ m := Nat.and_le_right
  have a2 : un (x / 2 ^ k) &&& hi ≤ hi := Nat.and_le_right
  have a3 : un x &&& lo ≤ lo := Nat.and_le_right
  rw [and_un, and_un, and_un, un_nat (x := m) (by omega), un_nat (x := hi) (by omega), un_nat (x := lo) (by omega)]
  rw [wrap_id (by omega) (by omega), wrap_id (by omega) (by omega), wrap_id (by omega) (by omega)]
  have e : (un x &&& m) = (un (x / 2 ^ k) &&& hi) * 2 ^ k + (un x &&& lo) := by
    rw [hm, land_split _ _ _ _ hlo]
    have e1 : un x % 2 ^ k &&& lo = un x &&& lo := by
      apply Nat.eq_of_testBit_eq; intro i
      simp only [Nat.testBit_and, Nat.testBit_mod_two_pow]
      by_cases h : i < k
      · simp [h]
      · have : lo.testBit i = false := Nat.testBit_lt_two_pow (Nat.lt_of_lt_of_le hlo (Nat.pow_le_pow_right (by decide) (by omega)))
        simp [this]
    have e2 : un x / 2 ^ k &&& hi = un (x / 2 ^ k) &&& hi := by
      have hb : hi * 2 ^ k < 2 ^ 63 := by
        have : (2 : Nat) ^ 63 = 9223372036854775808 := by decide
        omega
      have hb' : hi < 2 ^ (63 - k) := by
        have : (2 : Nat) ^ 63 = 2 ^ (63 - k) * 2 ^ k := by rw [← Nat.pow_add]; congr 1; omega
        rw [this] at hb
        exact Nat.lt_of_mul_lt_mul_right hb
      have hmod : (un x / 2 ^ k) % 2 ^ (64 - k) = un (x / 2 ^ k) % 2 ^ (64 - k) := by
        have h64 : (18446744073709551616 : Int) = 2 ^ k * 2 ^ (64 - k) := by
          rw [← Int.pow_add]; have : k + (64 - k) = 64 := by omega
          rw [this]; decide
        have c1 : ((un x / 2 ^ k : Nat) : Int) = (x / 2 ^ k) % 2 ^ (64 - k) := by
          rw [Int.natCast_ediv, un_cast, h64]
          have hk0 : (0 : Int) ≤ 2 ^ k := Int.le_of_lt (Int.pow_pos (by decide))
          rw [Int.natCast_pow]
          show x % (2 ^ k * 2 ^ (64 - k)) / 2 ^ k = _
          rw [Int.emod_def, Int.emod_def, Int.mul_assoc, Int.sub_mul_ediv_left _ _ (Int.ne_of_gt (Int.pow_pos (by decide))), Int.ediv_ediv_of_nonneg hk0]
        have c2 : ((un (x / 2 ^ k) % 2 ^ (64 - k) : Nat) : Int) = (x / 2 ^ k) % 2 ^ (64 - k) := by
          rw [Int.natCast_emod, un_cast, Int.natCast_pow]
          exact Int.emod_emod_of_dvd _ ⟨2 ^ k, by rw [h64, Int.mul_comm]; rfl⟩
        have c3 : ((un x / 2 ^ k : Nat) : Int) = ((un (x / 2 ^ k) % 2 ^ (64 - k) : Nat) : Int) := c1.trans c2.symm
        have c4 := Int.ofNat.inj c3
        rw [c4, Nat.mod_mod]
      apply Nat.eq_of_testBit_eq; intro i
      simp only [Nat.testBit_and]
      by_cases h : i < 64 - k
      · have := congrArg (fun n => n.testBit i) hmod
        simp only [Nat.testBit_mod_two_pow, h, decide_true, Bool.true_and] at this
        rw [this]
      · have : hi.testBit i = false := Nat.testBit_lt_two_pow (Nat.lt_of_lt_of_le hb' (Nat.pow_le_pow_right (by decide) (by omega)))
        simp [this]
    rw [e1, e2]
  rw [e]
  simp
/-- '|' of a number whose lowest bits are free and a number of these bits. -/
theorem or_parts {x y : Int} (k : Nat) (hx0 : 0 ≤ x) (hx1 : x ≤ 9223372036854775807) (hd : x % 2 ^ k = 0) (hy0 : 0 ≤ y) (hy : y < 2 ^ k) (hy1 : y ≤ 9223372036854775807) :
    Go.bits .or .i64 x y = x + y :=
  bits_join .i64 63 (by decide) (fun n h0 h1 => wrap_id (by omega) (by omega)) k x y hx0 hd (by omega) hy0 hy (by omega)
/-- '|' of numbers without a common bit. -/
theorem or_disjoint {x y : Int} (hx0 : 0 ≤ x) (hx1 : x ≤ 4611686018427387904) (hy0 : 0 ≤ y) (hy1 : y ≤ 4611686018427387903) (h : Go.bits .and .i64 x y = 0) : Go.bits .or .i64 x y = x + y := by
  obtain ⟨a, rfl⟩ := Int.eq_ofNat_of_zero_le hx0
  obtain ⟨b, rfl⟩ := Int.eq_ofNat_of_zero_le hy0
  rw [and_un, un_nat (by omega), un_nat (by omega)] at h
  have hl : a &&& b ≤ b := Nat.and_le_right
  rw [wrap_id (by omega) (by omega)] at h
  rw [or_un, un_nat (by omega), un_nat (by omega), lor_disjoint a b (by omega), wrap_id (by omega) (by omega)]
  simp
/-- '&^': what the mask takes is taken away. -/
theorem andNot_sub {x y : Int} (hx0 : 0 ≤ x) (hx1 : x ≤ 9223372036854775807) (hy0 : 0 ≤ y) (hy1 : y ≤ 9223372036854775807) : Go.bits .andNot .i64 x y = x - Go.bits .and .i64 x y := by
  obtain ⟨a, rfl⟩ := Int.eq_ofNat_of_zero_le hx0
  obtain ⟨b, rfl⟩ := Int.eq_ofNat_of_zero_le hy0
  have hl : a &&& b ≤ a := Nat.and_le_left
  rw [and_un, andNot_un, un_nat (x := a) (by omega), un_nat (x := b) (by omega), land_not _ _ (by omega) (by omega), wrap_id (by omega) (by omega), wrap_id (by omega) (by omega)]
  omega
theorem bits_range (op : BinOp) (x y : Int) : -9223372036854775808 ≤ Go.bits op .i64 x y ∧ Go.bits op .i64 x y ≤ 9223372036854775807 := by
  unfold Go.bits; simp only; rw [IntKind.wrap_i64]; omega
end Go.Proofs.Ytenlmckahaniiaa.MyBits
