/- The bits of a status word: the masks of layer 4 in terms of '/' and '%'. -/
import Derived.Test.YtkopdpdenmjecaaMyBits
set_option linter.unusedVariables false
set_option linter.unusedSimpArgs false
namespace Go.Proofs.Ytkopdpdenmjecaa.MyBits
open Go Go.RowKit

theorem and1 (x : Int) : Go.bits .and .i64 x 1 = x % 2 := and_low x 1 1 (by decide) (by decide)
theorem and7 (x : Int) : Go.bits .and .i64 x 7 = x % 8 := and_low x 7 3 (by decide) (by decide)
theorem and15 (x : Int) : Go.bits .and .i64 x 15 = x % 16 := and_low x 15 4 (by decide) (by decide)
theorem and31 (x : Int) : Go.bits .and .i64 x 31 = x % 32 := and_low x 31 5 (by decide) (by decide)
theorem and255 (x : Int) : Go.bits .and .i64 x 255 = x % 256 := and_low x 255 8 (by decide) (by decide)
theorem and3 (x : Int) : Go.bits .and .i64 x 3 = x % 4 := and_low x 3 2 (by decide) (by decide)
theorem and0 (x : Int) : Go.bits .and .i64 x 0 = 0 := by have := and_low x 0 0 (by decide) (by decide); rw [show ((0 : Nat) : Int) = 0 from rfl] at this; rw [this]; simp
theorem and16 (x : Int) : Go.bits .and .i64 x 16 = x / 16 % 2 * 16 := by
  have := and_parts x 16 1 0 4 (by decide) (by decide) (by decide) (by decide)
  rw [show ((16 : Nat) : Int) = 16 from rfl, show ((1 : Nat) : Int) = 1 from rfl, show ((0 : Nat) : Int) = 0 from rfl, and1, and0] at this
  rw [this]; omega
theorem and224 (x : Int) : Go.bits .and .i64 x 224 = x / 32 % 8 * 32 := by
  have := and_parts x 224 7 0 5 (by decide) (by decide) (by decide) (by decide)
  rw [show ((224 : Nat) : Int) = 224 from rfl, show ((7 : Nat) : Int) = 7 from rfl, show ((0 : Nat) : Int) = 0 from rfl, and7, and0] at this
  rw [this]; omega
theorem and240 (x : Int) : Go.bits .and .i64 x 240 = x / 16 % 16 * 16 := by
  have := and_parts x 240 15 0 4 (by decide) (by decide) (by decide) (by decide)
  rw [show ((240 : Nat) : Int) = 240 from rfl, show ((15 : Nat) : Int) = 15 from rfl, show ((0 : Nat) : Int) = 0 from rfl, and15, and0] at this
  rw [this]; omega
theorem and32768 (x : Int) : Go.bits .and .i64 x 32768 = x / 32768 % 2 * 32768 := by
  have := and_parts x 32768 1 0 15 (by decide) (by decide) (by decide) (by decide)
  rw [show ((32768 : Nat) : Int) = 32768 from rfl, show ((1 : Nat) : Int) = 1 from rfl, show ((0 : Nat) : Int) = 0 from rfl, and1, and0] at this
  rw [this]; omega
theorem and49407 (x : Int) : Go.bits .and .i64 x 49407 = x / 16384 % 4 * 16384 + x % 256 := by
  have := and_parts x 49407 3 255 14 (by decide) (by decide) (by decide) (by decide)
  rw [show ((49407 : Nat) : Int) = 49407 from rfl, show ((3 : Nat) : Int) = 3 from rfl, show ((255 : Nat) : Int) = 255 from rfl, and3, and255] at this
  rw [this]; omega
theorem and49392 (x : Int) : Go.bits .and .i64 x 49392 = x / 16384 % 4 * 16384 + x / 16 % 16 * 16 := by
  have := and_parts x 49392 3 240 14 (by decide) (by decide) (by decide) (by decide)
  rw [show ((49392 : Nat) : Int) = 49392 from rfl, show ((3 : Nat) : Int) = 3 from rfl, show ((240 : Nat) : Int) = 240 from rfl, and3, and240] at this
  rw [this]; omega
theorem and49376 (x : Int) : Go.bits .and .i64 x 49376 = x / 16384 % 4 * 16384 + x / 32 % 8 * 32 := by
  have := and_parts x 49376 3 224 14 (by decide) (by decide) (by decide) (by decide)
  rw [show ((49376 : Nat) : Int) = 49376 from rfl, show ((3 : Nat) : Int) = 3 from rfl, show ((224 : Nat) : Int) = 224 from rfl, and3, and224] at this
  rw [this]; omega
theorem and33023 (x : Int) : Go.bits .and .i64 x 33023 = x / 32768 % 2 * 32768 + x % 256 := by
  have := and_parts x 33023 1 255 15 (by decide) (by decide) (by decide) (by decide)
  rw [show ((33023 : Nat) : Int) = 33023 from rfl, show ((1 : Nat) : Int) = 1 from rfl, show ((255 : Nat) : Int) = 255 from rfl, and1, and255] at this
  rw [this]; omega
theorem and16384 (x : Int) : Go.bits .and .i64 x 16384 = x / 16384 % 2 * 16384 := by
  have := and_parts x 16384 1 0 14 (by decide) (by decide) (by decide) (by decide)
  rw [show ((16384 : Nat) : Int) = 16384 from rfl, show ((1 : Nat) : Int) = 1 from rfl, show ((0 : Nat) : Int) = 0 from rfl, and1, and0] at this
  rw [this]; omega
/-- '&' is symmetric. -/
theorem and_comm (x y : Int) : Go.bits .and .i64 x y = Go.bits .and .i64 y x := by rw [and_un, and_un, Nat.and_comm]

theorem wf_bounds {a : Int} (h : (Lit.int .i64 a).wf = true) : -9223372036854775808 ≤ a ∧ a ≤ 9223372036854775807 := by
  simp only [Lit.wf, IntKind.min, IntKind.max, IntKind.signed, IntKind.bits, Bool.and_eq_true, decide_eq_true_eq, if_true] at h
  omega

/-- The word with other flags. -/
def withF (a b : Int) : Int := a / 16384 % 4 * 16384 + a / 16 % 16 * 16 + b % 16
theorem or_withF (a b : Int) : Go.bits .or .i64 (Go.bits .and .i64 a 49392) (Go.bits .and .i64 b 15) = withF a b := by
  rw [and49392, and15]; unfold withF
  exact or_parts 4 (by omega) (by omega) (by omega) (by omega) (by omega) (by omega)
theorem ref_withF (a b : Int) : wrap64 ((Go.bits .andNot .i64 (Go.bits .and .i64 a 49407) 15) + (Go.bits .and .i64 b 15)) = withF a b := by
  rw [and49407, and15, andNot_sub (by omega) (by omega) (by decide) (by decide), and15]; unfold withF wrap64; omega
def retW (a b : Int) : Int := a / 16384 % 4 * 16384 + a / 32 % 8 * 32 + b % 32
theorem or_retW (a b : Int) : Go.bits .or .i64 (Go.bits .and .i64 a 49376) (Go.bits .and .i64 b 31) = retW a b := by
  rw [and49376, and31]; unfold retW
  exact or_parts 5 (by omega) (by omega) (by omega) (by omega) (by omega) (by omega)
theorem ref_retW (a b : Int) : wrap64 ((Go.bits .andNot .i64 (Go.bits .and .i64 a 49407) 31) + (Go.bits .and .i64 b 31)) = retW a b := by
  rw [and49407, and31, andNot_sub (by omega) (by omega) (by decide) (by decide), and31]; unfold retW wrap64; omega
def entW (a b : Int) : Int := b / 32768 % 2 * 32768 + a / 32768 % 2 * 16384 + b % 256
theorem or_entW (a b : Int) : Go.bits .or .i64 (Go.bits .and .i64 b 33023) ((Go.bits .and .i64 a 32768) / 2) = entW a b := by
  rw [and33023, and32768]; unfold entW
  have e : a / 32768 % 2 * 32768 / 2 = a / 32768 % 2 * 16384 := by omega
  rw [e]
  have hz : Go.bits .and .i64 (b / 32768 % 2 * 32768 + b % 256) (a / 32768 % 2 * 16384) = 0 := by
    rcases Int.emod_two_eq (a / 32768) with h | h
    · rw [h, Int.zero_mul, and0]
    · rw [h, Int.one_mul, and16384]; omega
  rw [or_disjoint (by omega) (by omega) (by omega) (by omega) hz]
  omega
theorem ref_entW (a b : Int) : wrap64 ((Go.bits .and .i64 b 33023) + (wrap64 (Go.bits .and .i64 (a / 32768) 1 * 16384))) = entW a b := by
  rw [and33023, and1]; unfold entW wrap64; omega
theorem ref_valid (a : Int) (h0 : 0 ≤ a) (h1 : a ≤ 65535) : (Go.bits .andNot .i64 a 49407 == 0) = (Go.bits .and .i64 a 49407 == a) := by
  rw [andNot_sub h0 (by omega) (by decide) (by decide)]
  rw [Bool.eq_iff_iff]; simp only [beq_iff_eq]; omega
theorem un_wrap (n : Int) : un (IntKind.i64.wrap n) = un n := by rw [IntKind.wrap_i64]; unfold un; omega
theorem un_idem (n : Nat) (h : n < 18446744073709551616) : un (n : Int) = n := un_nat h
theorem xor_eq_zero (x y : Nat) : x ^^^ y = 0 ↔ x = y := by
  constructor
  · intro h
    have : x ^^^ y ^^^ y = 0 ^^^ y := by rw [h]
    rwa [Nat.xor_assoc, Nat.xor_self, Nat.xor_zero, Nat.zero_xor] at this
  · rintro rfl; exact Nat.xor_self x
/-- Two numbers whose difference in bits does not meet a mask. -/
theorem xor_and_zero (a b : Int) (m : Nat) (hm : m < 9223372036854775808) : Go.bits .and .i64 (Go.bits .xor .i64 a b) (m : Int) = 0 ↔ Go.bits .and .i64 a (m : Int) = Go.bits .and .i64 b (m : Int) := by
  have hx : un a ^^^ un b < 2 ^ 64 := Nat.xor_lt_two_pow (un_lt a) (un_lt b)
  have h1 : un a &&& m ≤ m := Nat.and_le_right
  have h2 : un b &&& m ≤ m := Nat.and_le_right
  have h3 : (un a ^^^ un b) &&& m ≤ m := Nat.and_le_right
  rw [and_un, and_un, and_un, xor_un, un_wrap, un_nat hx, un_nat (x := m) (by omega), wrap_id (by omega) (by omega), wrap_id (by omega) (by omega), wrap_id (by omega) (by omega)]
  rw [Nat.and_xor_distrib_right]
  have e := xor_eq_zero (un a &&& m) (un b &&& m)
  omega
end Go.Proofs.Ytkopdpdenmjecaa.MyBits
