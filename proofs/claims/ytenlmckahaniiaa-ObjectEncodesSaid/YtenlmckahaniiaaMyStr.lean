/- Strings as lists of bytes: lengths, joins, cuts, bytes. -/
import Derived.Test.YtenlmckahaniiaaWd
import Derived.Test.YtenlmckahaniiaaMyBits
import Derived.Lib.Bytes
set_option linter.unusedVariables false
set_option linter.unusedSimpArgs false
namespace Go.Proofs.YtenlmckahaniiaaW.PrintMore
theorem here2_ : True := trivial
end Go.Proofs.YtenlmckahaniiaaW.PrintMore
namespace Go.Proofs.YtenlmckahaniiaaW.PrintLast
theorem here2_ : True := trivial
end Go.Proofs.YtenlmckahaniiaaW.PrintLast
namespace Go.Proofs.Ytenlmckahaniiaa.MyStr
open Go Go.RowKit Go.Proofs.YtenlmckahaniiaaW.PrintWords Go.Proofs.YtenlmckahaniiaaW.PrintMore

/-- The bytes of a string. -/
def bs (s : ByteArray) : List UInt8 := s.data.toList
theorem bs_length (s : ByteArray) : (bs s).length = s.size := by unfold bs; rw [Array.length_toList]; rfl
theorem toList_bs (s : ByteArray) : s.toList = bs s := Lib.toList_data s
theorem bs_inj {a b : ByteArray} (h : bs a = bs b) : a = b := by
  cases a; cases b; unfold bs at h; simp only at h; congr; exact Array.toList_inj.1 h
theorem bs_append (a b : ByteArray) : bs (a ++ b) = bs a ++ bs b := by unfold bs; rw [ByteArray.data_append, Array.toList_append]
theorem bs_extract (s : ByteArray) (i j : Nat) : bs (s.extract i j) = ((bs s).take j).drop i := by
  unfold bs; rw [ByteArray.data_extract, Array.toList_extract]; simp [List.extract_eq_take_drop, List.drop_take]
theorem bs_nums (xs : List Int) : bs (strOfNums xs) = xs.map fun n => UInt8.ofNat n.toNat := rfl
theorem bs_mk (l : List UInt8) : bs ⟨l.toArray⟩ = l := rfl
theorem size_nums (xs : List Int) : (strOfNums xs).size = xs.length := strOfNums_size xs
/-- A byte of a string, as a number. -/
def byteAt (l : List UInt8) (i : Nat) : Int := ((l[i]?).getD 0).toNat
theorem bt_bs (s : ByteArray) (i : Int) : bt s i = byteAt (bs s) i.toNat := by
  unfold bt byteAt bs
  split
  · rename_i h
    have h' : i.toNat < s.data.toList.length := by rw [Array.length_toList]; exact h
    rw [List.getElem?_eq_getElem h']; rfl
  · rename_i h
    have h' : s.data.toList.length ≤ i.toNat := by rw [Array.length_toList]; exact Nat.le_of_not_lt h
    rw [List.getElem?_eq_none h']; rfl
theorem bt_rng (s : ByteArray) (i : Int) : 0 ≤ bt s i ∧ bt s i < 256 := by
  rw [bt_bs]; unfold byteAt
  have := UInt8.toNat_lt ((bs s)[i.toNat]?.getD 0)
  omega
theorem byteAt_range (l : List UInt8) (i : Nat) : 0 ≤ byteAt l i ∧ byteAt l i < 256 := by
  unfold byteAt
  have := UInt8.toNat_lt (l[i]?.getD 0)
  omega
/-- A string as numbers. -/
theorem bytesOf_bs (s : ByteArray) : bytesOf s = (bs s).map fun b => (b.toNat : Int) := rfl
theorem ofNat_toNat (b : UInt8) : UInt8.ofNat ((b.toNat : Int)).toNat = b := by simp
theorem nums_bytesOf (s : ByteArray) : strOfNums (bytesOf s) = s := by
  apply bs_inj; rw [bs_nums, bytesOf_bs, List.map_map]
  conv => rhs; rw [← List.map_id (bs s)]
  congr 1; funext b; exact ofNat_toNat b
theorem ofNat_inj {x y : Int} (hx : 0 ≤ x) (hx1 : x < 256) (hy : 0 ≤ y) (hy1 : y < 256) (h : UInt8.ofNat x.toNat = UInt8.ofNat y.toNat) : x = y := by
  have := congrArg UInt8.toNat h
  simp only [UInt8.toNat_ofNat'] at this
  omega
theorem shr_pow (a y : Int) (n : Nat) (z : Int) (hy : y.toNat = n) (hn : n ≤ 64) (hz : (2 : Int) ^ n = z) : shr .i64 a y = a / z := by
  unfold shr
  rw [hy, show min n IntKind.i64.bits = n from Nat.min_eq_left hn, hz]
end Go.Proofs.Ytenlmckahaniiaa.MyStr
