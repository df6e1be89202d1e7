/- Lemmas for several laws: what their proofs need of this seat's texts, in one place. -/
import Derived.Laws.BitsAllLaws
import Derived.Lib.Bytes
import Derived.Test.YtenlmckahaniiaaZcLe13
set_option linter.unusedVariables false
set_option linter.unusedSimpArgs false
set_option linter.unusedSectionVars false
section
namespace Go.Proofs.Ytenlmckahaniiaa.MyBits
open Go Go.RowKit
theorem y5y {n : Int} (h0 : -9223372036854775808 ≤ n) (h1 : n ≤ 9223372036854775807) : IntKind.i64.wrap n = n := by
  rw [IntKind.wrap_i64]; omega
theorem y5x {n : Int} (h0 : -9223372036854775808 ≤ n) (h1 : n ≤ 9223372036854775807) : wrap64 n = n := by
  unfold wrap64; omega
def un (x : Int) : Nat := (x % 18446744073709551616).toNat
theorem un_cast (x : Int) : (un x : Int) = x % 18446744073709551616 := by unfold un; omega
theorem y5l {x : Nat} (h1 : x < 18446744073709551616) : un (x : Int) = x := by unfold un; omega
theorem y5k (x : Int) : (BitVec.ofInt 64 x).toNat = un x := by
  rw [BitVec.toNat_ofInt]; rfl
theorem y0a (x y : Int) : Go.bits .and .i64 x y = IntKind.i64.wrap ((un x &&& un y : Nat) : Int) := by
  show IntKind.i64.wrap ((BitVec.ofInt 64 x &&& BitVec.ofInt 64 y).toNat : Int) = _
  rw [BitVec.toNat_and, y5k, y5k]
theorem land_low (x k : Nat) : x &&& (2 ^ k - 1) = x % 2 ^ k := Nat.and_two_pow_sub_one_eq_mod x k
theorem and_low (x : Int) (m k : Nat) (hk : k < 63) (hm : m + 1 = 2 ^ k) : Go.bits .and .i64 x (m : Int) = x % 2 ^ k := by
  have hp : 2 ^ k ≤ 2 ^ 62 := Nat.pow_le_pow_right (by decide) (by omega)
  have hm' : m = 2 ^ k - 1 := by omega
  have h62 : (2 : Nat) ^ 62 = 4611686018427387904 := by decide
  rw [y0a, y5l (by omega), hm', land_low]
  have hlt : un x % 2 ^ k < 2 ^ k := Nat.mod_lt _ (Nat.two_pow_pos k)
  rw [y5y (by omega) (by omega)]
  rw [Int.natCast_emod, un_cast, Int.natCast_pow]
  have hd : ((2 : Nat) ^ k : Int) ∣ 18446744073709551616 := by
    refine ⟨2 ^ (64 - k), ?_⟩
    have : (18446744073709551616 : Int) = 2 ^ 64 := by decide
    rw [this]
    show (2 : Int) ^ 64 = 2 ^ k * 2 ^ (64 - k)
    rw [← Int.pow_add]; congr 1; omega
  exact Int.emod_emod_of_dvd x hd
theorem or_parts {x y : Int} (k : Nat) (hx0 : 0 ≤ x) (hx1 : x ≤ 9223372036854775807) (hd : x % 2 ^ k = 0) (hy0 : 0 ≤ y) (hy : y < 2 ^ k) (hy1 : y ≤ 9223372036854775807) :
    Go.bits .or .i64 x y = x + y :=
  bits_join .i64 63 (by decide) (fun n h0 h1 => y5y (by omega) (by omega)) k x y hx0 hd (by omega) hy0 hy (by omega)
end Go.Proofs.Ytenlmckahaniiaa.MyBits
end
section
namespace Go.Proofs.Ytenlmckahaniiaa.MyStr
open Go Go.RowKit Go.Proofs.YtW.P Go.Proofs.YtW.M
def bs (s : ByteArray) : List UInt8 := s.data.toList
theorem y0z (s : ByteArray) : (bs s).length = s.size := by unfold bs; rw [Array.length_toList]; rfl
theorem y5i (s : ByteArray) : s.toList = bs s := Lib.toList_data s
theorem y0y {a b : ByteArray} (h : bs a = bs b) : a = b := by
  cases a; cases b; unfold bs at h; simp only at h; congr; exact Array.toList_inj.1 h
theorem y0w (a b : ByteArray) : bs (a ++ b) = bs a ++ bs b := by unfold bs; rw [ByteArray.data_append, Array.toList_append]
theorem y0x (s : ByteArray) (i j : Nat) : bs (s.extract i j) = ((bs s).take j).drop i := by
  unfold bs; rw [ByteArray.data_extract, Array.toList_extract]; simp [List.extract_eq_take_drop, List.drop_take]
theorem bs_nums (xs : List Int) : bs (strOfNums xs) = xs.map fun n => UInt8.ofNat n.toNat := rfl
def byteAt (l : List UInt8) (i : Nat) : Int := ((l[i]?).getD 0).toNat
theorem bt_bs (s : ByteArray) (i : Int) : bt s i = byteAt (bs s) i.toNat := by
  unfold bt byteAt bs
  split
  · rename_i h
    have h' : i.toNat < s.data.toList.length := by rw [Array.length_toList]; exact h
    rw [List.getElem?_eq_getElem h']; rfl
  · rename_i h
    have h' : s.data.toList.length ≤ i.toNat := by rw [Array.length_toList]; exact Nat.le_of_not_lt h
    rw [List.getElem?_eq_none h']; rfl
theorem bt_rng (s : ByteArray) (i : Int) : 0 ≤ bt s i ∧ bt s i < 256 := by
  rw [bt_bs]; unfold byteAt
  have := UInt8.toNat_lt ((bs s)[i.toNat]?.getD 0)
  omega
theorem y17 (l : List UInt8) (i : Nat) : 0 ≤ byteAt l i ∧ byteAt l i < 256 := by
  unfold byteAt
  have := UInt8.toNat_lt (l[i]?.getD 0)
  omega
theorem y3k (b : UInt8) : UInt8.ofNat ((b.toNat : Int)).toNat = b := by simp
theorem shr_pow (a y : Int) (n : Nat) (z : Int) (hy : y.toNat = n) (hn : n ≤ 64) (hz : (2 : Int) ^ n = z) : shr .i64 a y = a / z := by
  unfold shr
  rw [hy, show min n IntKind.i64.bits = n from Nat.min_eq_left hn, hz]
end Go.Proofs.Ytenlmckahaniiaa.MyStr
end
section
namespace Go.Proofs.Ytenlmckahaniiaa.Oct
open Go Go.RowKit Go.Proofs.YtW.P Go.Proofs.YtW.M Go.Proofs.Ytenlmckahaniiaa.MyBits Go.Proofs.Ytenlmckahaniiaa.MyStr
def lei (n : Int) : Nat → List Int
  | 0 => []
  | w + 1 => n % 256 :: lei (n / 256) w
theorem y2z (n : Int) (w : Nat) : (lei n w).length = w := by
  induction w generalizing n with
  | zero => rfl
  | succ w ih => simp [lei, ih]
theorem lei_range (n : Int) (w : Nat) : ∀ x ∈ lei n w, 0 ≤ x ∧ x < 256 := by
  induction w generalizing n with
  | zero => intro x hx; cases hx
  | succ w ih =>
    intro x hx
    rcases List.mem_cons.1 hx with rfl | h
    · omega
    · exact ih _ x h
theorem lei_snoc (n : Int) (w : Nat) : lei n (w + 1) = lei n w ++ [n / 256 ^ w % 256] := by
  induction w generalizing n with
  | zero => simp [lei]
  | succ w ih =>
    have h : n / 256 / 256 ^ w = n / 256 ^ (w + 1) := by
      rw [Int.ediv_ediv_of_nonneg (by decide), Int.pow_succ, Int.mul_comm]
    have h2 := ih (n / 256)
    rw [h] at h2
    show n % 256 :: lei (n / 256) (w + 1) = _
    rw [h2]; rfl
def unle : List Int → Int
  | [] => 0
  | b :: l => b + 256 * unle l
theorem unle_range (l : List Int) (h : ∀ x ∈ l, 0 ≤ x ∧ x < 256) : 0 ≤ unle l ∧ unle l < 256 ^ l.length := by
  induction l with
  | nil => exact ⟨Int.le_refl _, by decide⟩
  | cons b l ih =>
    have h1 := h b List.mem_cons_self
    have h2 := ih (fun x hx => h x (List.mem_cons_of_mem _ hx))
    have e : (256 : Int) ^ (b :: l).length = 256 * 256 ^ l.length := by rw [List.length_cons, Int.pow_succ, Int.mul_comm]
    rw [e]; unfold unle
    generalize (256 : Int) ^ l.length = p at *
    omega
theorem unle_lei (n : Int) (w : Nat) (h0 : 0 ≤ n) (h1 : n < 256 ^ w) : unle (lei n w) = n := by
  induction w generalizing n with
  | zero => simp [lei, unle] at *; omega
  | succ w ih =>
    unfold lei unle
    rw [ih (n / 256) (by omega) (by rw [Int.pow_succ] at h1; omega)]
    omega
def ints (l : List UInt8) : List Int := l.map fun b => (b.toNat : Int)
theorem y2l (l : List UInt8) : (ints l).length = l.length := List.length_map _
theorem y2m (l : List UInt8) : ∀ x ∈ ints l, 0 ≤ x ∧ x < 256 := by
  intro x hx
  obtain ⟨b, _, rfl⟩ := List.mem_map.1 hx
  have := UInt8.toNat_lt b
  omega
theorem ints_append (a b : List UInt8) : ints (a ++ b) = ints a ++ ints b := List.map_append
theorem byteAt_ints (l : List UInt8) (i : Nat) : byteAt l i = (ints l).getD i 0 := by
  unfold byteAt ints
  rw [List.getD_eq_getElem?_getD, List.getElem?_map]
  cases l[i]? <;> rfl
def byt (l : List Int) : List UInt8 := l.map fun n => UInt8.ofNat n.toNat
theorem byt_length (l : List Int) : (byt l).length = l.length := List.length_map _
theorem byt_ints (l : List UInt8) : byt (ints l) = l := by
  unfold byt ints; rw [List.map_map]
  conv => rhs; rw [← List.map_id l]
  congr 1; funext b; exact y3k b
theorem ints_byt (l : List Int) (h : ∀ x ∈ l, 0 ≤ x ∧ x < 256) : ints (byt l) = l := by
  induction l with
  | nil => rfl
  | cons x l ih =>
    have h1 := h x List.mem_cons_self
    unfold byt ints
    simp only [List.map_cons, List.cons.injEq]
    refine ⟨?_, ih (fun y hy => h y (List.mem_cons_of_mem _ hy))⟩
    rw [UInt8.toNat_ofNat']; omega
theorem bs_nums' (xs : List Int) : bs (strOfNums xs) = byt xs := bs_nums xs
def le (n : Int) (w : Nat) : List UInt8 := byt (lei n w)
theorem y2y (n : Int) (w : Nat) : (le n w).length = w := by unfold le; rw [byt_length, y2z]
theorem ints_le (n : Int) (w : Nat) : ints (le n w) = lei n w := ints_byt _ (lei_range n w)
def num (l : List UInt8) : Int := unle (ints l)
theorem num_le (n : Int) (w : Nat) (h0 : 0 ≤ n) (h1 : n < 256 ^ w) : num (le n w) = n := by unfold num; rw [ints_le, unle_lei n w h0 h1]
theorem y3i (l : List UInt8) : 0 ≤ num l ∧ num l < 256 ^ l.length := by
  have := unle_range (ints l) (y2m l)
  rwa [y2l] at this
theorem num_cons (b : UInt8) (l : List UInt8) : num (b :: l) = b.toNat + 256 * num l := rfl
def step (c : Nat) : Nat := if c % 2 = 1 then (c / 2) ^^^ 3988292384 else c / 2
def steps : Nat → Nat → Nat
  | 0, c => c
  | n + 1, c => steps n (step c)
def crcB (c : Nat) (b : UInt8) : Nat := steps 8 (c ^^^ b.toNat)
def crcs (c : Nat) (l : List UInt8) : Nat := l.foldl crcB c
def crc (l : List UInt8) : Nat := crcs 4294967295 l ^^^ 4294967295
theorem y5a (c : Nat) (h : c < 4294967296) : step c < 4294967296 := by
  unfold step
  split
  · exact Nat.xor_lt_two_pow (n := 32) (by omega) (by decide)
  · omega
theorem steps_lt (n c : Nat) (h : c < 4294967296) : steps n c < 4294967296 := by
  induction n generalizing c with
  | zero => exact h
  | succ n ih => exact ih _ (y5a c h)
theorem y1l (c : Nat) (b : UInt8) (h : c < 4294967296) : crcB c b < 4294967296 :=
  steps_lt 8 _ (Nat.xor_lt_two_pow (n := 32) h (by have := UInt8.toNat_lt b; omega))
theorem y1o (c : Nat) (l : List UInt8) (h : c < 4294967296) : crcs c l < 4294967296 := by
  induction l generalizing c with
  | nil => exact h
  | cons b l ih => exact ih _ (y1l c b h)
theorem y1m (l : List UInt8) : crc l < 4294967296 := Nat.xor_lt_two_pow (n := 32) (y1o _ _ (by decide)) (by decide)
theorem y1n (c : Nat) (a b : List UInt8) : crcs c (a ++ b) = crcs (crcs c a) b := List.foldl_append
def seal_ (l : List UInt8) : List UInt8 := l ++ le (crc l) 4
theorem y50 (l : List UInt8) : (seal_ l).length = l.length + 4 := by unfold seal_; rw [List.length_append, y2y]
def opened (l : List UInt8) : Prop := 4 ≤ l.length ∧ l.drop (l.length - 4) = le (crc (l.take (l.length - 4))) 4
theorem opened_seal (l : List UInt8) : opened (seal_ l) := by
  refine ⟨by rw [y50]; omega, ?_⟩
  have h : (seal_ l).length - 4 = l.length := by rw [y50]; omega
  rw [h]; unfold seal_
  rw [List.drop_left, List.take_left]
end Go.Proofs.Ytenlmckahaniiaa.Oct
end
section
namespace Go.Proofs.Ytenlmckahaniiaa.Obj
open Go Go.RowKit Go.Proofs.Ytenlmckahaniiaa.K Go.Proofs.YtW.P Go.Proofs.YtW.M Go.Proofs.Ytenlmckahaniiaa.MyBits Go.Proofs.Ytenlmckahaniiaa.MyStr Go.Proofs.Ytenlmckahaniiaa.Oct
theorem Ev.ite {α : Type} {c : Prop} [Decidable c] {g f : Nat → Option α} {r : α} (h1 : c → Ev g r) (h2 : ¬ c → Ev f r) : Ev (fun k => if c then g k else f k) r := by
  by_cases h : c
  · exact Ev.congr (fun k => if_pos h) (h1 h)
  · exact Ev.congr (fun k => if_neg h) (h2 h)
theorem Ev.eq {α : Type} {g : Nat → Option α} {r r' : α} (h : Ev g r) (e : r = r') : Ev g r' := e ▸ h
theorem i64_nat (i : Nat) (h : i < 9223372036854775807) : wrap64 ((i : Int) + 1) = ((i + 1 : Nat) : Int) := by unfold wrap64; omega
def okc (c : Int) : Bool := (decide (97 ≤ c) && decide (c ≤ 122)) || (decide (65 ≤ c) && decide (c ≤ 90)) || (decide (48 ≤ c) && decide (c ≤ 57)) || decide (c = 95) || decide (c = 46) || decide (c = 36)
def nameL (l : List UInt8) : Bool := decide (l ≠ []) && decide (l.length ≤ 14) && !(decide (48 ≤ byteAt l 0) && decide (byteAt l 0 ≤ 57)) && (ints l).all okc
def isNm (s : ByteArray) : Bool := nameL (bs s)
theorem rd_ints (l : List UInt8) (i : Nat) (h : i < l.length) : rd (ints l) (i : Int) = byteAt l i ∧ 0 ≤ rd (ints l) (i : Int) ∧ rd (ints l) (i : Int) < 256 := by
  have e : rd (ints l) (i : Int) = byteAt l i := by rw [byteAt_ints]; simp [rd]
  rw [e]
  exact ⟨rfl, y17 l i⟩
theorem drop_all (p : Int → Bool) (l : List Int) (i : Nat) (h : i < l.length) : (l.drop i).all p = (p (rd l (i : Int)) && (l.drop (i + 1)).all p) := by
  rw [List.drop_eq_getElem_cons h, List.all_cons]
  have : rd l (i : Int) = l[i] := by simp [rd, h]
  rw [this]
theorem y5j (s : ByteArray) : s.toList = ([] : List UInt8) ↔ bs s = [] := by rw [y5i]
theorem nameL_len {l : List UInt8} (h : nameL l = true) : 1 ≤ l.length ∧ l.length ≤ 14 := by
  unfold nameL at h
  simp only [Bool.and_eq_true, decide_eq_true_eq] at h
  exact ⟨List.length_pos_iff.2 h.1.1.1, h.1.1.2⟩
def symsR : List (List UInt8) → List S62 → Int
  | _, [] => 0
  | m, s :: r => if isNm s.f0 = true then (if bs s.f0 ∈ m then 6 else if symOk s = true then symsR (m ++ [bs s.f0]) r else 2) else 4
theorem rd62 (l : List S62) (i : Nat) (h : i < l.length) : y4b l (i : Int) = l[i] := by simp [y4b, List.getD_eq_getElem?_getD, h]
theorem rd43 (l : List S43) (i : Nat) (h : i < l.length) : y4a l (i : Int) = l[i] := by simp [y4a, List.getD_eq_getElem?_getD, h]
def Fine62 (l : List S62) : Prop := ∀ s ∈ l, s.f0.size ≤ 9223372036854775806
def namesOf (l : List S62) : List (List UInt8) := l.map fun s => bs s.f0
theorem and16 (x : Int) : Go.bits .and .i64 x 65535 = x % 65536 := and_low x 65535 16 (by omega) (by decide)
theorem symOk_iff (s : S62) : symOk s = true ↔ (0 ≤ s.f1 ∧ s.f1 ≤ 3 ∧ 0 ≤ s.f2 ∧ s.f2 ≤ 65535) := by
  unfold symOk
  rw [and16]
  simp only [Bool.and_eq_true, Bool.not_eq_true', decide_eq_false_iff_not, bne_eq_false_iff_eq]
  omega
def relR (ts ds : Int) (x b : S43) : Int :=
  if x.f0 ≠ 1 ∧ x.f0 ≠ 2 then 2
  else if x.f1 < 0 ∨ Int.tmod x.f1 2 ≠ 0 ∨ x.f1 > wrap64 ((if x.f0 = 2 then ds else ts) - 2) then 2
  else if x.f0 < b.f0 ∨ (x.f0 = b.f0 ∧ x.f1 ≤ b.f1) then 2
  else if x.f2 < 0 ∨ x.f2 > 4 ∨ (x.f2 = 0 ∧ x.f4 = false) then 2
  else if x.f2 = 4 then (if isNm x.f3 = true then 0 else 4) else (if bs x.f3 = [] then 0 else 4)
def relT (sz : Int) (x b : S43) : Int :=
  if x.f1 < 0 ∨ Int.tmod x.f1 2 ≠ 0 ∨ x.f1 > wrap64 (sz - 2) then 2
  else if x.f0 < b.f0 ∨ (x.f0 = b.f0 ∧ x.f1 ≤ b.f1) then 2
  else if x.f2 < 0 ∨ x.f2 > 4 ∨ (x.f2 = 0 ∧ x.f4 = false) then 2
  else if x.f2 = 4 then (if isNm x.f3 = true then 0 else 4) else (if bs x.f3 = [] then 0 else 4)
def relsR (ts ds : Int) : S43 → List S43 → Int
  | _, [] => 0
  | b, x :: r => if relR ts ds x b = 0 then relsR ts ds x r else relR ts ds x b
def Fine43 (l : List S43) : Prop := ∀ s ∈ l, s.f3.size ≤ 9223372036854775806
def b0 : S43 := ⟨-1, 0, 0, ⟨#[]⟩, false⟩
def checkR (a0 a1 a2 : ByteArray) (a3 : Int) (l4 : List S62) (l5 : List S43) : Int :=
  if isNm a0 = true then
    (if a1.size > 16384 ∨ a2.size > 16384 ∨ a3 > 16384 ∨ l4.length > 256 ∨ l5.length > 2048 then 7
     else if a1.size % 2 ≠ 0 ∨ a3 < 0 then 1
     else if symsR [] l4 = 0 then relsR (a1.size : Int) (a2.size : Int) b0 l5 else symsR [] l4)
  else 4
structure Fine (a0 : ByteArray) (l4 : List S62) (l5 : List S43) : Prop where
  h0 : a0.size ≤ 9223372036854775806
  h4 : Fine62 l4
  h5 : Fine43 l5
structure Small (a0 a1 a2 : ByteArray) (l4 : List S62) (l5 : List S43) : Prop where
  h0 : a0.size ≤ 100
  h1 : a1.size ≤ 17000
  h2 : a2.size ≤ 17000
  h4 : l4.length ≤ 300
  h5 : l5.length ≤ 2100
  s4 : ∀ s ∈ l4, s.f0.size ≤ 100
  s5 : ∀ s ∈ l5, s.f3.size ≤ 100
theorem Small.fine {a0 a1 a2 : ByteArray} {l4 : List S62} {l5 : List S43} (h : Small a0 a1 a2 l4 l5) : Fine a0 l4 l5 := ⟨by have := h.h0; omega, fun s hs => by have := h.s4 s hs; omega, fun s hs => by have := h.s5 s hs; omega⟩
end Go.Proofs.Ytenlmckahaniiaa.Obj
end
section
namespace Go.Proofs.Ytenlmckahaniiaa.Obj
open Go Go.RowKit Go.Proofs.Ytenlmckahaniiaa.K Go.Proofs.YtW.P Go.Proofs.YtW.M Go.Proofs.Ytenlmckahaniiaa.MyBits Go.Proofs.Ytenlmckahaniiaa.MyStr Go.Proofs.Ytenlmckahaniiaa.Oct
theorem idx3 : ∀ c : Fin 256, decide (idxB (⟨#[95, 46, 36]⟩ : ByteArray) (c.val : Int) ≥ 0) = (decide ((c.val : Int) = 95) || decide ((c.val : Int) = 46) || decide ((c.val : Int) = 36)) := by decide +kernel
theorem idx3i (c : Int) (h0 : 0 ≤ c) (h1 : c < 256) : (idxB (⟨#[95, 46, 36]⟩ : ByteArray) c ≥ 0) ↔ (c = 95 ∨ c = 46 ∨ c = 36) := by
  have := idx3 ⟨c.toNat, by omega⟩
  simp only at this
  rw [show ((c.toNat : Nat) : Int) = c by omega] at this
  have h2 := Bool.eq_iff_iff.1 this
  simp only [decide_eq_true_eq, Bool.or_eq_true] at h2
  rw [h2, or_assoc]
theorem isName_step (k : Nat) (y : List Int) (n i : Int) (h0 : 0 ≤ i) (h1 : i < n) (h2 : i < (y.length : Int)) (r0 : 0 ≤ rd y i) (r1 : rd y i < 256) :
    zq1j.l0 (k + 1) y n i = if okc (rd y i) = true then zq1j.l0 k y n (wrap64 (i + 1)) else some false := by
  rw [zq1j.l0, if_pos h1, if_pos h0, if_pos h2]
  have e := idx3i (rd y i) r0 r1
  unfold zq19.f
  simp only [Option.bind_some]
  generalize rd y i = c at *
  unfold okc
  simp only [Bool.or_eq_true, Bool.and_eq_true, decide_eq_true_eq]
  repeat' split
  all_goals first
    | rfl
    | (exfalso; omega)
theorem isName_loop (l : List UInt8) (hl : l.length < 9223372036854775807) (d : Nat) : ∀ i : Nat, i + d = l.length → Ev (fun k => zq1j.l0 k (ints l) (l.length : Int) (i : Int)) (((ints l).drop i).all okc) := by
  induction d with
  | zero =>
    intro i hi
    refine Ev.step (f := fun _ => some true) (fun k => by rw [zq1j.l0, if_neg (by omega)]) ?_
    rw [List.drop_eq_nil_of_le (by rw [y2l]; omega)]
    exact Ev.now _
  | succ d ih =>
    intro i hi
    obtain ⟨e, r0, r1⟩ := rd_ints l i (by omega)
    refine Ev.step (f := fun k => if okc (rd (ints l) (i : Int)) = true then zq1j.l0 k (ints l) (l.length : Int) ((i + 1 : Nat) : Int) else some false) (fun k => by rw [isName_step k _ _ _ (by omega) (by omega) (by rw [y2l]; omega) r0 r1, i64_nat i (by omega)]) ?_
    rw [drop_all _ _ _ (by rw [y2l]; omega)]
    refine Ev.ite (fun h => ?_) (fun h => ?_)
    · rw [h, Bool.true_and]
      exact ih (i + 1) (by omega)
    · rw [Bool.not_eq_true] at h
      rw [h, Bool.false_and]
      exact Ev.now _
theorem y2p (s : ByteArray) (hs : s.size ≤ 9223372036854775806) : Ev (fun k => zq1j.f k s) (isNm s) := by
  have hall : Ev (fun k => zq1j.j0 k s false) ((ints (bs s)).all okc) := by
    refine Ev.step (f := fun k => zq1j.l0 k (ints (bs s)) ((bs s).length : Int) 0) (fun k => ?_) (by have := isName_loop (bs s) (by rw [y0z]; omega) (bs s).length 0 (by omega); simpa using this)
    rw [zq1j.j0, if_neg (by decide), if_pos (by omega)]
    simp only [Option.bind_some]
    rw [show bytesOf s = ints (bs s) from rfl, y2l]
  have hno : Ev (fun k => zq1j.j0 k s true) false := Ev.step (f := fun _ => some false) (fun k => by rw [zq1j.j0, if_pos rfl]) (Ev.now _)
  unfold zq1j.f isNm nameL
  refine Ev.ite (fun h => ?_) (fun h => ?_)
  · rw [y5j] at h
    rw [h]; exact hno
  · rw [y5j] at h
    have hp : 0 < s.size := by rw [← y0z]; exact List.length_pos_iff.2 h
    rw [decide_eq_true h, Bool.true_and, y0z]
    refine Ev.ite (fun h1 => ?_) (fun h1 => ?_)
    · rw [decide_eq_false (show ¬ s.size ≤ 14 by omega)]; exact hno
    · rw [decide_eq_true (show s.size ≤ 14 by omega), Bool.true_and, ← show bt s 0 = byteAt (bs s) 0 from bt_bs s 0]
      refine Ev.congr (fun k => if_pos (by omega)) ?_
      refine Ev.ite (fun h2 => ?_) (fun h2 => ?_)
      · rw [decide_eq_true (show 48 ≤ bt s 0 from h2), Bool.true_and]
        by_cases h3 : bt s 0 ≤ 57
        · rw [decide_eq_true h3]; exact hno
        · rw [decide_eq_false h3]; exact hall
      · rw [decide_eq_false (show ¬ 48 ≤ bt s 0 from h2), Bool.false_and]; exact hall
theorem syms_loop (l : List S62) (hn : l.length ≤ 1000000) (hf : Fine62 l) (d : Nat) : ∀ (i : Nat) (m : List (List UInt8)), i + d = l.length → m.length ≤ i → Ev (fun k => zqt.l0 k l m (i : Int)) (symsR m (l.drop i)) := by
  induction d with
  | zero =>
    intro i m hi _
    rw [List.drop_eq_nil_of_le (by omega)]
    exact Ev.step (f := fun _ => some 0) (fun k => by rw [zqt.l0, if_neg (by omega)]) (Ev.now _)
  | succ d ih =>
    intro i m hi hm
    have hlt : i < l.length := by omega
    rw [List.drop_eq_getElem_cons hlt]
    unfold symsR
    refine Ev.step (f := fun k => (zq1j.f k l[i].f0).bind fun t => (if t = true then (if bs l[i].f0 ∈ m then some 6 else (if symOk l[i] = true then zqt.l0 k l (m ++ [bs l[i].f0]) ((i + 1 : Nat) : Int) else some 2)) else some 4)) (fun k => ?_) ?_
    · rw [zqt.l0, if_pos (by omega), if_pos (by omega), rd62 l i hlt, if_pos (show m.length < 1000000 by omega), i64_nat i (by omega)]
      rfl
    · refine Ev.bind (y2p _ (hf _ (List.getElem_mem hlt))) ?_
      refine Ev.eq (Ev.ite (r := if isNm l[i].f0 = true then (if bs l[i].f0 ∈ m then 6 else if symOk l[i] = true then symsR (m ++ [bs l[i].f0]) (l.drop (i + 1)) else 2) else 4) (fun h => ?_) (fun h => ?_)) rfl
      · rw [if_pos h]
        refine Ev.ite (fun h2 => ?_) (fun h2 => ?_)
        · rw [if_pos h2]; exact Ev.now _
        · rw [if_neg h2]
          refine Ev.ite (fun h3 => ?_) (fun h3 => ?_)
          · rw [if_pos h3]
            exact ih (i + 1) _ (by omega) (by simp; omega)
          · rw [if_neg h3]; exact Ev.now _
      · rw [if_neg h]; exact Ev.now _
theorem syms_is (l : List S62) (hn : l.length ≤ 1000000) (hf : Fine62 l) : Ev (fun k => zqt.f k l) (symsR [] l) := by
  have := syms_loop l hn hf l.length 0 [] (by omega) (Nat.le_refl _)
  rw [List.drop_zero] at this
  exact this
theorem rel_j3 (x : S43) (hs : x.f3.size ≤ 9223372036854775806) (b : Bool) : Ev (fun k => zq16.j3 k b x.f0 x.f1 x.f2 x.f3 x.f4) (if b = true then 2 else if x.f2 = 4 then (if isNm x.f3 = true then 0 else 4) else (if bs x.f3 = [] then 0 else 4)) := by
  refine Ev.step (f := fun k => if b = true then some 2 else (if x.f2 = 4 then ((zq1j.f k x.f3).bind fun t => (if t = true then some 0 else some 4)) else (if bs x.f3 = [] then some 0 else some 4))) (fun k => by rw [zq16.j3, y5i]) ?_
  refine Ev.ite (fun h => ?_) (fun h => ?_)
  · rw [if_pos h]; exact Ev.now _
  · rw [if_neg h]
    refine Ev.ite (fun h => ?_) (fun h => ?_)
    · rw [if_pos h]
      refine Ev.bind (y2p _ hs) ?_
      refine Ev.ite (fun h => ?_) (fun h => ?_)
      · rw [if_pos h]; exact Ev.now _
      · rw [if_neg h]; exact Ev.now _
    · rw [if_neg h]
      refine Ev.ite (fun h => ?_) (fun h => ?_)
      · rw [if_pos h]; exact Ev.now _
      · rw [if_neg h]; exact Ev.now _
theorem rel_j2 (x : S43) (hs : x.f3.size ≤ 9223372036854775806) (b : Bool) : Ev (fun k => zq16.j2 k b x.f0 x.f1 x.f2 x.f3 x.f4) (if b = true then 2 else if x.f2 < 0 ∨ x.f2 > 4 ∨ (x.f2 = 0 ∧ x.f4 = false) then 2 else if x.f2 = 4 then (if isNm x.f3 = true then 0 else 4) else (if bs x.f3 = [] then 0 else 4)) := by
  have e := fun b' => rel_j3 x hs b'
  refine Ev.step (fun k => by rw [zq16.j2]) ?_
  refine Ev.ite (fun h => ?_) (fun h => ?_)
  · rw [if_pos h]; exact Ev.now _
  · rw [if_neg h]
    refine Ev.ite (fun h => ?_) (fun h => Ev.ite (fun h2 => ?_) (fun h2 => Ev.ite (fun h3 => ?_) (fun h3 => ?_)))
    · rw [if_pos (by omega)]; exact e true
    · rw [if_pos (by omega)]; exact e true
    · cases h4 : x.f4 with
      | true => rw [if_neg (by simp; omega)]; simpa [h4] using e false
      | false => rw [if_pos (by simp [h3])]; simpa [h4] using e true
    · rw [if_neg (by omega)]; exact e false
theorem rel_j1 (x y : S43) (hs : x.f3.size ≤ 9223372036854775806) (b : Bool) : Ev (fun k => zq16.j1 k b x.f0 x.f1 x.f2 x.f3 x.f4 y.f0 y.f1 y.f2 y.f3 y.f4) (if b = true then 2 else if x.f0 < y.f0 ∨ (x.f0 = y.f0 ∧ x.f1 ≤ y.f1) then 2 else if x.f2 < 0 ∨ x.f2 > 4 ∨ (x.f2 = 0 ∧ x.f4 = false) then 2 else if x.f2 = 4 then (if isNm x.f3 = true then 0 else 4) else (if bs x.f3 = [] then 0 else 4)) := by
  have e := fun b' => rel_j2 x hs b'
  refine Ev.step (fun k => by rw [zq16.j1]) ?_
  refine Ev.ite (fun h => ?_) (fun h => ?_)
  · rw [if_pos h]; exact Ev.now _
  · rw [if_neg h]
    refine Ev.ite (fun h => ?_) (fun h => Ev.ite (fun h2 => ?_) (fun h2 => ?_))
    · rw [if_pos (by omega)]; exact e true
    · by_cases h3 : x.f1 ≤ y.f1
      · rw [if_pos (by omega), decide_eq_true h3]; exact e true
      · rw [if_neg (by omega), decide_eq_false h3]; exact e false
    · rw [if_neg (by omega)]; exact e false
theorem rel_j0 (sz : Int) (x y : S43) (hs : x.f3.size ≤ 9223372036854775806) : Ev (fun k => zq16.j0 k sz x.f0 x.f1 x.f2 x.f3 x.f4 y.f0 y.f1 y.f2 y.f3 y.f4) (relT sz x y) := by
  have e := fun b' => rel_j1 x y hs b'
  unfold relT
  refine Ev.step (fun k => by rw [zq16.j0]) ?_
  refine Ev.ite (fun h => ?_) (fun h => Ev.ite (fun h2 => ?_) (fun h2 => ?_))
  · rw [if_pos (by omega)]; exact e true
  · by_cases h3 : x.f1 > wrap64 (sz - 2)
    · rw [if_pos (by omega), decide_eq_true h3]; exact e true
    · rw [if_neg (by omega), decide_eq_false h3]; exact e false
  · rw [if_pos (by omega)]; exact e true
theorem rel_is (a0 a1 a2 : ByteArray) (a3 : Int) (l4 : List S62) (l5 : List S43) (x y : S43) (hs : x.f3.size ≤ 9223372036854775806) :
    Ev (fun k => zq16.f k a0 a1 a2 a3 l4 l5 x.f0 x.f1 x.f2 x.f3 x.f4 y.f0 y.f1 y.f2 y.f3 y.f4) (relR (a1.size : Int) (a2.size : Int) x y) := by
  unfold zq16.f relR
  refine Ev.ite (fun h => ?_) (fun h => Ev.ite (fun h2 => ?_) (fun h2 => ?_))
  · rw [if_neg (by omega), if_neg (show ¬ x.f0 = 2 by omega)]; exact rel_j0 _ x y hs
  · rw [if_neg (by omega), if_pos h2]; exact rel_j0 _ x y hs
  · rw [if_pos (by omega)]; exact Ev.now _
theorem check_l0 (a0 a1 a2 : ByteArray) (a3 : Int) (l4 : List S62) (l5 : List S43) (hn : l5.length ≤ 1000000) (hf : Fine43 l5) (d : Nat) : ∀ (i : Nat) (b : S43), i + d = l5.length →
    Ev (fun k => zq1o.l0 k l5 (l5.length : Int) (i : Int) a0 a1 a2 a3 l4 l5 b.f0 b.f1 b.f2 b.f3 b.f4) (relsR (a1.size : Int) (a2.size : Int) b (l5.drop i)) := by
  induction d with
  | zero =>
    intro i b hi
    rw [List.drop_eq_nil_of_le (by omega)]
    exact Ev.step (f := fun _ => some 0) (fun k => by rw [zq1o.l0, if_neg (by omega)]) (Ev.now _)
  | succ d ih =>
    intro i b hi
    have hlt : i < l5.length := by omega
    rw [List.drop_eq_getElem_cons hlt]
    unfold relsR
    refine Ev.step (fun k => by rw [zq1o.l0, if_pos (by omega), if_pos (by omega), if_pos (by omega), rd43 l5 i hlt, i64_nat i (by omega)]) ?_
    refine Ev.bind (rel_is a0 a1 a2 a3 l4 l5 l5[i] b (hf _ (List.getElem_mem hlt))) ?_
    refine Ev.ite (fun h => ?_) (fun h => ?_)
    · rw [if_pos h]; exact ih (i + 1) l5[i] (by omega)
    · rw [if_neg h]; exact Ev.now _
theorem check_j0 (a0 a1 a2 : ByteArray) (a3 : Int) (l4 : List S62) (l5 : List S43) (hf : Fine a0 l4 l5) (b : Bool) (h4 : l4.length ≤ 1000000) (h5 : l5.length ≤ 1000000) :
    Ev (fun k => zq1o.j0 k b a0 a1 a2 a3 l4 l5) (if b = true then 7 else if a1.size % 2 ≠ 0 ∨ a3 < 0 then 1 else if symsR [] l4 = 0 then relsR (a1.size : Int) (a2.size : Int) b0 l5 else symsR [] l4) := by
  refine Ev.step (fun k => by rw [zq1o.j0]) ?_
  refine Ev.ite (fun h => ?_) (fun h => ?_)
  · rw [if_pos h]; exact Ev.now _
  · rw [if_neg h]
    refine Ev.ite (fun h => Ev.ite (fun h2 => ?_) (fun h2 => ?_)) (fun h => ?_)
    · rw [if_pos (by omega)]; exact Ev.now _
    · rw [if_neg (by omega)]
      refine Ev.bind (syms_is l4 h4 hf.h4) ?_
      refine Ev.ite (fun h => ?_) (fun h => ?_)
      · rw [if_pos h]
        have := check_l0 a0 a1 a2 a3 l4 l5 h5 hf.h5 l5.length 0 b0 (by omega)
        rw [List.drop_zero] at this
        exact this
      · rw [if_neg h]; exact Ev.now _
    · rw [if_pos (by omega)]; exact Ev.now _
theorem check_is (a0 a1 a2 : ByteArray) (a3 : Int) (l4 : List S62) (l5 : List S43) (hf : Fine a0 l4 l5) (h4 : l4.length ≤ 1000000) (h5 : l5.length ≤ 1000000) :
    Ev (fun k => zq1o.f k a0 a1 a2 a3 l4 l5) (checkR a0 a1 a2 a3 l4 l5) := by
  have e := fun b => check_j0 a0 a1 a2 a3 l4 l5 hf b h4 h5
  unfold zq1o.f checkR
  refine Ev.bind (y2p a0 hf.h0) ?_
  refine Ev.ite (fun h => ?_) (fun h => ?_)
  · rw [if_pos h]
    refine Ev.ite (fun h => ?_) (fun h1 => Ev.ite (fun h => ?_) (fun h2 => Ev.ite (fun h => ?_) (fun h3 => Ev.ite (fun h => ?_) (fun h6 => ?_))))
    · rw [if_pos (by omega)]; exact e true
    · rw [if_pos (by omega)]; exact e true
    · rw [if_pos (by omega)]; exact e true
    · rw [if_pos (by omega)]; exact e true
    · by_cases h7 : (l5.length : Int) > 2048
      · rw [if_pos (by omega), decide_eq_true h7]; exact e true
      · rw [if_neg (by omega), decide_eq_false h7]; exact e false
  · rw [if_neg h]; exact Ev.now _
end Go.Proofs.Ytenlmckahaniiaa.Obj
end
section
namespace Go.Proofs.Ytenlmckahaniiaa.Obj
open Go Go.RowKit Go.Proofs.Ytenlmckahaniiaa.K Go.Proofs.YtW.P Go.Proofs.YtW.M Go.Proofs.Ytenlmckahaniiaa.MyStr Go.Proofs.Ytenlmckahaniiaa.Oct
theorem y19 : ∀ (x y : List UInt8), Op.bytesLess x y = decide (x < y)
  | [], [] => by simp [Op.bytesLess]
  | _ :: _, [] => by simp [Op.bytesLess]
  | [], _ :: _ => by simp [Op.bytesLess]
  | a :: x, b :: y => by
    rw [Op.bytesLess, y19 x y]
    simp only [List.cons_lt_cons_iff]
    by_cases h1 : a < b <;> by_cases h2 : a = b <;> by_cases h3 : x < y <;> simp [h1, h2, h3]
theorem y35 {a b : List UInt8} (h : a ≤ b) (hn : a ≠ b) : a < b := by
  rcases List.le_total b a with h2 | h2
  · exact absurd (List.le_antisymm h h2) hn
  · by_cases h3 : a < b
    · exact h3
    · exact absurd (List.le_antisymm h (List.not_lt.1 h3)) hn
theorem lt_of_le_lt {a b c : List UInt8} (h : a ≤ b) (h2 : b < c) : a < c := by
  refine y35 (List.le_trans h (List.le_of_lt h2)) (fun e => ?_)
  subst e
  have := List.le_antisymm h (List.le_of_lt h2)
  subst this
  exact List.lt_irrefl _ h2
def Asc (l : List (List UInt8)) : Prop := l.Pairwise (· < ·)
theorem Asc.unique {a b : List (List UInt8)} (ha : Asc a) (hb : Asc b) (h : ∀ x, x ∈ a ↔ x ∈ b) : a = b := by
  induction a generalizing b with
  | nil =>
    cases b with
    | nil => rfl
    | cons y b => exact absurd ((h y).2 List.mem_cons_self) (by simp)
  | cons x a ih =>
    cases b with
    | nil => exact absurd ((h x).1 List.mem_cons_self) (by simp)
    | cons y b =>
      obtain ⟨ha1, ha2⟩ := List.pairwise_cons.1 ha
      obtain ⟨hb1, hb2⟩ := List.pairwise_cons.1 hb
      have hxy : x = y := by
        rcases List.mem_cons.1 ((h x).1 List.mem_cons_self) with e | hx
        · exact e
        · rcases List.mem_cons.1 ((h y).2 List.mem_cons_self) with e | hy
          · exact e.symm
          · exact absurd (List.lt_trans (ha1 y hy) (hb1 x hx)) (List.lt_irrefl _)
      subst hxy
      rw [ih ha2 hb2 (fun z => ?_)]
      constructor
      · intro hz
        rcases List.mem_cons.1 ((h z).1 (List.mem_cons_of_mem _ hz)) with e | h'
        · subst e; exact absurd (ha1 z hz) (List.lt_irrefl _)
        · exact h'
      · intro hz
        rcases List.mem_cons.1 ((h z).2 (List.mem_cons_of_mem _ hz)) with e | h'
        · subst e; exact absurd (hb1 z hz) (List.lt_irrefl _)
        · exact h'
theorem y2b (l : List (List UInt8)) (i : Nat) (h : i < l.length) : l.toArray[i]! = l[i] := by simp [h]
theorem le_get {l : List (List UInt8)} (h : l.Pairwise (· ≤ ·)) (i j : Nat) (hij : i ≤ j) (hj : j < l.length) : l[i] ≤ l[j] := by
  rcases Nat.lt_or_eq_of_le hij with h1 | rfl
  · exact List.pairwise_iff_getElem.1 h i j (by omega) hj h1
  · rcases List.le_total l[i] l[i] with h | h <;> exact h
theorem compact_asc {l : List (List UInt8)} (h : l.Pairwise (· ≤ ·)) : Asc (Lib.compact l) := by
  unfold Asc Lib.compact Lib.compactUpTo
  rw [List.pairwise_map]
  refine List.Pairwise.imp_of_mem (R := fun i j => i < j) ?_ (List.Pairwise.filter _ List.pairwise_lt_range)
  intro i j hi hj hij
  obtain ⟨hj1, hj2⟩ := List.mem_filter.1 hj
  have hj1 := List.mem_range.1 hj1
  unfold Lib.keeps at hj2
  simp only [decide_eq_true_eq] at hj2
  have hne : l.toArray[j]! ≠ l.toArray[j - 1]! := hj2.resolve_left (by omega)
  rw [y2b l j hj1, y2b l (j - 1) (by omega)] at hne
  rw [y2b l i (by omega), y2b l j hj1]
  exact lt_of_le_lt (le_get h i (j - 1) (by omega) (by omega)) (y35 (le_get h (j - 1) j (by omega) hj1) (fun e => hne e.symm))
theorem first_at (l : List (List UInt8)) (x : List UInt8) (i : Nat) (hi : i < l.length) (hx : l[i] = x) : ∃ j, ∃ hj : j < l.length, l[j] = x ∧ ∀ q (hq : q < j), l[q] ≠ x := by
  induction i using Nat.strongRecOn with
  | _ i ih =>
    by_cases h : ∃ q, ∃ hq : q < i, l[q]'(by omega) = x
    · obtain ⟨q, hq, e⟩ := h
      exact ih q hq (by omega) e
    · exact ⟨i, hi, hx, fun q hq e => h ⟨q, hq, e⟩⟩
theorem compact_mem (l : List (List UInt8)) (x : List UInt8) : x ∈ Lib.compact l ↔ x ∈ l := by
  unfold Lib.compact Lib.compactUpTo
  rw [List.mem_map]
  constructor
  · rintro ⟨i, hi, rfl⟩
    have h1 := List.mem_range.1 (List.mem_filter.1 hi).1
    rw [y2b l i h1]
    exact List.getElem_mem h1
  · intro h
    obtain ⟨i, hi, e⟩ := List.getElem_of_mem h
    obtain ⟨j, hj, e2, h3⟩ := first_at l x i hi e
    refine ⟨j, List.mem_filter.2 ⟨List.mem_range.2 hj, ?_⟩, by rw [y2b l j hj, e2]⟩
    unfold Lib.keeps
    simp only [decide_eq_true_eq]
    rcases Nat.eq_zero_or_pos j with h0 | h0
    · exact .inl h0
    · refine .inr ?_
      rw [y2b l j hj, y2b l (j - 1) (by omega), e2]
      exact fun e => h3 (j - 1) (by omega) e.symm
theorem sortL_sorted (l : List (List UInt8)) : (sortL l).Pairwise (· ≤ ·) := by
  have h := List.pairwise_mergeSort (le := fun x y : List UInt8 => decide (x ≤ y)) (fun a b c h1 h2 => by simp only [decide_eq_true_eq] at *; exact List.le_trans h1 h2) (fun a b => by
    rcases List.le_total a b with h | h
    · rw [decide_eq_true h]; rfl
    · rw [decide_eq_true h, Bool.or_true]) l
  exact h.imp (fun h => of_decide_eq_true h)
theorem sortL_mem (l : List (List UInt8)) (x : List UInt8) : x ∈ sortL l ↔ x ∈ l := (List.mergeSort_perm l _).mem_iff
def extL (l : List S43) : List (List UInt8) := (l.filter fun x => decide (x.f2 = 4)).map fun x => bs x.f3
def needsL (l : List S43) : List (List UInt8) := Lib.compact (sortL (extL l))
theorem y3c (l : List S43) : Asc (needsL l) := compact_asc (sortL_sorted _)
theorem y3e (l : List S43) (x : List UInt8) : x ∈ needsL l ↔ x ∈ extL l := by unfold needsL; rw [compact_mem, sortL_mem]
theorem y20 (l : List S43) : (extL l).length ≤ l.length := by unfold extL; rw [List.length_map]; exact List.length_filter_le _ _
theorem y3d (l : List S43) : (needsL l).length ≤ l.length := by
  have h1 := y1j (sortL (extL l))
  rw [y58] at h1
  exact Nat.le_trans h1 (y20 l)
theorem extL_take (l : List S43) (i : Nat) (h : i < l.length) : extL (l.take (i + 1)) = extL (l.take i) ++ (if l[i].f2 = 4 then [bs l[i].f3] else []) := by
  unfold extL
  rw [List.take_succ_eq_append_getElem h, List.filter_append, List.map_append]
  congr 1
  by_cases h4 : l[i].f2 = 4 <;> simp [h4]
theorem lofs_bs (xs : List ByteArray) : lofs xs = xs.map bs := rfl
theorem needs_loop (l : List S43) (hn : l.length ≤ 1000000) (d : Nat) : ∀ (i : Nat) (xs : List ByteArray), i + d = l.length → lofs xs = extL (l.take i) → Ev (fun k => zq1p.l0 k xs l (l.length : Int) (i : Int)) (sofl (extL l)) := by
  induction d with
  | zero =>
    intro i xs hi hx
    refine Ev.step (f := fun _ => some xs) (fun k => by rw [zq1p.l0, if_neg (by omega)]) ?_
    rw [List.take_of_length_le (by omega)] at hx
    rw [← hx, sofl_lofs]
    exact Ev.now _
  | succ d ih =>
    intro i xs hi hx
    have hlt : i < l.length := by omega
    have he := extL_take l i hlt
    by_cases h4 : l[i].f2 = 4
    · refine Ev.step (fun k => ?_) (ih (i + 1) (xs ++ [l[i].f3]) (by omega) ?_)
      · have hlen : xs.length ≤ 1000000 := by
          have h1 := y20 (l.take i)
          rw [← hx, y33, List.length_take] at h1
          omega
        rw [zq1p.l0, if_pos (by omega), if_pos (by omega), if_pos (by omega), rd43 l i hlt, if_pos h4, if_pos (by omega), i64_nat i (by omega)]
      · rw [he, if_pos h4, ← hx, lofs_bs, lofs_bs, List.map_append]; rfl
    · refine Ev.step (fun k => ?_) (ih (i + 1) xs (by omega) ?_)
      · rw [zq1p.l0, if_pos (by omega), if_pos (by omega), if_pos (by omega), rd43 l i hlt, if_neg h4, i64_nat i (by omega)]
      · rw [he, if_neg h4, List.append_nil, hx]
theorem needs_is (a0 a1 a2 : ByteArray) (a3 : Int) (l4 : List S62) (l5 : List S43) (hn : l5.length ≤ 1000000) : Ev (fun k => zq1p.f k a0 a1 a2 a3 l4 l5) (sofl (needsL l5)) := by
  have h := needs_loop l5 hn l5.length 0 [] (by omega) (by simp [extL, lofs])
  unfold zq1p.f
  refine Ev.bind h ?_
  refine Ev.eq (Ev.congr (fun k => if_pos ?_) (Ev.now _)) ?_
  · rw [y57]; have := y20 l5; omega
  · unfold compS sortS needsL
    rw [lofs_sofl, lofs_sofl]
end Go.Proofs.Ytenlmckahaniiaa.Obj
end
section
namespace Go.Proofs.Ytenlmckahaniiaa.Obj
open Go Go.RowKit Go.Proofs.Ytenlmckahaniiaa.K Go.Proofs.YtW.P Go.Proofs.YtW.M Go.Proofs.Ytenlmckahaniiaa.MyStr Go.Proofs.Ytenlmckahaniiaa.Oct
theorem sofl_get (l : List (List UInt8)) (i : Nat) (h : i < l.length) : bs (rdOf ByteArray.empty (sofl l) (i : Int)) = l[i] := by
  unfold rdOf sofl
  rw [Int.toNat_natCast, List.getD_eq_getElem?_getD, List.getElem?_map, List.getElem?_eq_getElem h]
  rfl
end Go.Proofs.Ytenlmckahaniiaa.Obj
end
section
namespace Go.Proofs.Ytenlmckahaniiaa.Lb
open Go Go.RowKit Go.Proofs.Ytenlmckahaniiaa.K Go.Proofs.YtW.P Go.Proofs.YtW.M Go.Proofs.Ytenlmckahaniiaa.MyBits Go.Proofs.Ytenlmckahaniiaa.MyStr Go.Proofs.Ytenlmckahaniiaa.Oct Go.Proofs.Ytenlmckahaniiaa.Obj
theorem rd25 (l : List S25) (i : Nat) (h : i < l.length) : y49 l (i : Int) = l[i] := by simp [y49, List.getD_eq_getElem?_getD, h]
structure SmM (x : S25) : Prop where
  h0 : x.f0.size ≤ 100
  h1 : x.f1.size ≤ 600
  h2 : x.f2.size ≤ 600
  n4 : x.f4.length ≤ 40
  n5 : x.f5.length ≤ 40
  s4 : ∀ s ∈ x.f4, s.f0.size ≤ 100
  s5 : ∀ s ∈ x.f5, s.f3.size ≤ 100
theorem SmM.fine {x : S25} (h : SmM x) : Fine x.f0 x.f4 x.f5 := ⟨by have := h.h0; omega, fun s hs => by have := h.s4 s hs; omega, fun s hs => by have := h.s5 s hs; omega⟩
structure OkM (x : S25) : Prop where
  fine : Fine x.f0 x.f4 x.f5
  n4 : x.f4.length ≤ 1000000
  n5 : x.f5.length ≤ 1000000
theorem SmM.ok {x : S25} (h : SmM x) : OkM x := ⟨h.fine, by have := h.n4; omega, by have := h.n5; omega⟩
structure Lsm (l : List S25) : Prop where
  n : l.length ≤ 40
  m : ∀ x ∈ l, SmM x
theorem great_l2 (l : List S25) (i : Nat) (x : S25) (hi : i < l.length) (hl : l.length ≤ 40) (hn : x.f5.length ≤ 1000000) (r : Bool) (hr : Ev (fun k => zqr.l0 k l ((i + 1 : Nat) : Int)) r) (d : Nat) : ∀ j : Nat, j + d = x.f5.length → ∃ b, Ev (fun k => zqr.l2 k l (i : Int) (j : Int) x.f0 x.f1 x.f2 x.f3 x.f4 x.f5) b ∧ (b = false → r = false ∧ ∀ s ∈ x.f5.drop j, s.f3.size ≤ 100) := by
  induction d with
  | zero =>
    intro j hj
    refine ⟨r, Ev.step (f := fun k => zqr.l0 k l ((i + 1 : Nat) : Int)) (fun k => by rw [zqr.l2, if_neg (by omega), Obj.i64_nat i (by omega)]) hr, fun h => ⟨h, ?_⟩⟩
    rw [List.drop_eq_nil_of_le (by omega)]
    intro s hs; cases hs
  | succ d ih =>
    intro j hj
    have hlt : j < x.f5.length := by omega
    obtain ⟨b, hb, hs⟩ := ih (j + 1) (by omega)
    by_cases h : (x.f5[j].f3.size : Int) > 100
    · exact ⟨true, Ev.step (f := fun _ => some true) (fun k => by rw [zqr.l2, if_pos (by omega), if_pos (by omega), rd43 x.f5 j hlt, if_pos h]) (Ev.now _), fun h => by cases h⟩
    · refine ⟨b, Ev.step (fun k => by rw [zqr.l2, if_pos (by omega), if_pos (by omega), rd43 x.f5 j hlt, if_neg h, Obj.i64_nat j (by omega)]) hb, fun hb => ⟨(hs hb).1, ?_⟩⟩
      rw [List.drop_eq_getElem_cons hlt]
      intro s hs'
      rcases List.mem_cons.1 hs' with rfl | hs'
      · omega
      · exact (hs hb).2 s hs'
theorem great_l1 (l : List S25) (i : Nat) (x : S25) (hi : i < l.length) (hl : l.length ≤ 40) (hn : x.f4.length ≤ 1000000) (hn5 : x.f5.length ≤ 1000000) (r : Bool) (hr : Ev (fun k => zqr.l0 k l ((i + 1 : Nat) : Int)) r) (d : Nat) : ∀ j : Nat, j + d = x.f4.length → ∃ b, Ev (fun k => zqr.l1 k l (i : Int) (j : Int) x.f0 x.f1 x.f2 x.f3 x.f4 x.f5) b ∧ (b = false → r = false ∧ (∀ s ∈ x.f4.drop j, s.f0.size ≤ 100) ∧ ∀ s ∈ x.f5, s.f3.size ≤ 100) := by
  induction d with
  | zero =>
    intro j hj
    obtain ⟨b, hb, hs⟩ := great_l2 l i x hi hl hn5 r hr x.f5.length 0 (by omega)
    refine ⟨b, Ev.step (f := fun k => zqr.l2 k l (i : Int) 0 x.f0 x.f1 x.f2 x.f3 x.f4 x.f5) (fun k => by rw [zqr.l1, if_neg (by omega)]) hb, fun h => ⟨(hs h).1, ?_, by simpa using (hs h).2⟩⟩
    rw [List.drop_eq_nil_of_le (by omega)]
    intro s hs; cases hs
  | succ d ih =>
    intro j hj
    have hlt : j < x.f4.length := by omega
    obtain ⟨b, hb, hs⟩ := ih (j + 1) (by omega)
    by_cases h : (x.f4[j].f0.size : Int) > 100
    · exact ⟨true, Ev.step (f := fun _ => some true) (fun k => by rw [zqr.l1, if_pos (by omega), if_pos (by omega), rd62 x.f4 j hlt, if_pos h]) (Ev.now _), fun h => by cases h⟩
    · refine ⟨b, Ev.step (fun k => by rw [zqr.l1, if_pos (by omega), if_pos (by omega), rd62 x.f4 j hlt, if_neg h, Obj.i64_nat j (by omega)]) hb, fun hb => ⟨(hs hb).1, ?_, (hs hb).2.2⟩⟩
      rw [List.drop_eq_getElem_cons hlt]
      intro s hs'
      rcases List.mem_cons.1 hs' with rfl | hs'
      · omega
      · exact (hs hb).2.1 s hs'
theorem y2d (l : List S25) (i : Nat) (x : S25) : Ev (fun k => zqr.j1 k l (i : Int) true x.f0 x.f1 x.f2 x.f3 x.f4 x.f5) true := Ev.step (f := fun _ => some true) (fun k => by rw [zqr.j1, if_pos rfl]) (Ev.now _)
theorem great_l0 (l : List S25) (hl : l.length ≤ 40) (d : Nat) : ∀ i : Nat, i + d = l.length → ∃ b, Ev (fun k => zqr.l0 k l (i : Int)) b ∧ (b = false → ∀ x ∈ l.drop i, SmM x) := by
  induction d with
  | zero =>
    intro i hi
    refine ⟨false, Ev.step (f := fun _ => some false) (fun k => by rw [zqr.l0, if_neg (by omega)]) (Ev.now _), fun _ => ?_⟩
    rw [List.drop_eq_nil_of_le (by omega)]
    intro s hs; cases hs
  | succ d ih =>
    intro i hi
    have hlt : i < l.length := by omega
    obtain ⟨r, hr, hs⟩ := ih (i + 1) (by omega)
    rw [List.drop_eq_getElem_cons hlt]
    have hrd := rd25 l i hlt
    obtain ⟨x, hx⟩ : ∃ x, x = l[i] := ⟨_, rfl⟩
    rw [← hx] at hrd ⊢
    by_cases h0 : (x.f0.size : Int) > 100
    · exact ⟨true, Ev.step (fun k => by rw [zqr.l0, if_pos (by omega), if_pos (by omega), hrd, if_pos h0]) (y2d l i x), fun h => by cases h⟩
    by_cases h1 : (x.f1.size : Int) > 600
    · exact ⟨true, Ev.step (fun k => by rw [zqr.l0, if_pos (by omega), if_pos (by omega), hrd, if_neg h0, if_pos h1]) (y2d l i x), fun h => by cases h⟩
    by_cases h2 : (x.f2.size : Int) > 600
    · exact ⟨true, Ev.step (fun k => by rw [zqr.l0, if_pos (by omega), if_pos (by omega), hrd, if_neg h0, if_neg h1, if_pos h2]) (y2d l i x), fun h => by cases h⟩
    by_cases h4 : (x.f4.length : Int) > 40
    · exact ⟨true, Ev.step (fun k => by rw [zqr.l0, if_pos (by omega), if_pos (by omega), hrd, if_neg h0, if_neg h1, if_neg h2, if_pos h4]) (y2d l i x), fun h => by cases h⟩
    by_cases h5 : (x.f5.length : Int) > 40
    · exact ⟨true, Ev.step (fun k => by rw [zqr.l0, if_pos (by omega), if_pos (by omega), hrd, if_neg h0, if_neg h1, if_neg h2, if_neg h4, decide_eq_true h5]) (y2d l i x), fun h => by cases h⟩
    obtain ⟨b, hb, hs2⟩ := great_l1 l i x hlt hl (by omega) (by omega) r hr x.f4.length 0 (by omega)
    refine ⟨b, Ev.step (f := fun k => zqr.j1 k l (i : Int) false x.f0 x.f1 x.f2 x.f3 x.f4 x.f5) (fun k => by rw [zqr.l0, if_pos (by omega), if_pos (by omega), hrd, if_neg h0, if_neg h1, if_neg h2, if_neg h4, decide_eq_false h5]) (Ev.step (f := fun k => zqr.l1 k l (i : Int) 0 x.f0 x.f1 x.f2 x.f3 x.f4 x.f5) (fun k => by rw [zqr.j1, if_neg (by decide)]) hb), fun h y hy => ?_⟩
    obtain ⟨hr0, s4, s5⟩ := hs2 h
    rcases List.mem_cons.1 hy with rfl | hy
    · exact ⟨by omega, by omega, by omega, by omega, by omega, by simpa using s4, s5⟩
    · exact hs hr0 y hy
theorem great_is (l : List S25) : ∃ b, Ev (fun k => zqr.f k l) b ∧ (b = false → Lsm l) := by
  unfold zqr.f
  by_cases h : (l.length : Int) > 40
  · exact ⟨true, Ev.congr (fun k => if_pos h) (Ev.now _), fun h => by cases h⟩
  · obtain ⟨b, hb, hs⟩ := great_l0 l (by omega) l.length 0 (by omega)
    exact ⟨b, Ev.congr (fun k => if_neg h) hb, fun hb => ⟨by omega, by simpa using hs hb⟩⟩
def chk (x : S25) : Int := checkR x.f0 x.f1 x.f2 x.f3 x.f4 x.f5
def libR : List (List UInt8) → List S25 → Int
  | _, [] => 0
  | seen, x :: l => if chk x = 0 then (if seen.any (fun n => n == bs x.f0) = true then 6 else libR (seen ++ [bs x.f0]) l) else chk x
def libC (l : List S25) : Int := if l.length > 32 then 12 else libR [] l
def nms (l : List S25) : List (List UInt8) := l.map fun x => bs x.f0
theorem y3r (nm : ByteArray) (x : S25) : pNam nm x = (bs x.f0 == bs nm) := by unfold pNam; rw [y5i, y5i]
theorem chk_ok {x : S25} (h : OkM x) : Ev (fun k => zq1o.f k x.f0 x.f1 x.f2 x.f3 x.f4 x.f5) (chk x) := check_is x.f0 x.f1 x.f2 x.f3 x.f4 x.f5 h.fine h.n4 h.n5
theorem idx_any (nm : ByteArray) (l : List S25) : (0 ≤ idxF (pNam nm) l) ↔ (nms l).any (fun n => n == bs nm) = true := by
  rw [← decide_eq_true_iff (p := 0 ≤ idxF (pNam nm) l), idxF_any]
  unfold nms
  rw [List.any_map, show pNam nm = ((fun n => n == bs nm) ∘ fun x : S25 => bs x.f0) from funext fun x => y3r nm x]
theorem lib_go (l : List S25) (hs : ∀ x ∈ l, OkM x) (d : Nat) : ∀ i : Nat, i + d = l.length → Ev (fun k => zq1g.go k l d i) (libR (nms (l.take i)) (l.drop i)) := by
  induction d with
  | zero => intro i hi; rw [List.drop_eq_nil_of_le (by omega)]; exact Ev.now _
  | succ d ih =>
    intro i hi
    have hlt : i < l.length := by omega
    have h := ih (i + 1) (by omega)
    rw [List.drop_eq_getElem_cons hlt]
    rw [show nms (l.take (i + 1)) = nms (l.take i) ++ [bs l[i].f0] by unfold nms; rw [List.take_succ_eq_append_getElem hlt, List.map_append]; rfl] at h
    have hx := chk_ok (hs l[i] (List.getElem_mem hlt))
    unfold libR
    refine Ev.congr (f := fun k => (zq1o.f k l[i].f0 l[i].f1 l[i].f2 l[i].f3 l[i].f4 l[i].f5).bind fun e => if e = 0 then (if 0 ≤ idxF (pNam l[i].f0) (l.take i) then some 6 else zq1g.go k l d (i + 1)) else some e) (fun k => by rw [zq1g.go, rd25 l i hlt]) ?_
    refine Ev.bind hx ?_
    by_cases h0 : chk l[i] = 0
    · refine Ev.congr (fun k => if_pos h0) ?_
      rw [if_pos h0]
      by_cases h1 : 0 ≤ idxF (pNam l[i].f0) (l.take i)
      · refine Ev.congr (fun k => if_pos h1) ?_
        rw [if_pos ((idx_any _ _).1 h1)]; exact Ev.now _
      · refine Ev.congr (fun k => if_neg h1) ?_
        rw [if_neg (fun h2 => h1 ((idx_any _ _).2 h2))]; exact h
    · refine Ev.congr (fun k => if_neg h0) ?_
      rw [if_neg h0]; exact Ev.now _
theorem y31 (l : List S25) (hs : ∀ x ∈ l, OkM x) : Ev (fun k => zq1g.f k l) (libC l) := by
  unfold zq1g.f libC
  by_cases h : (l.length : Int) > 32
  · refine Ev.congr (fun k => if_pos h) ?_
    rw [if_pos (by omega)]; exact Ev.now _
  · refine Ev.congr (fun k => if_neg h) ?_
    rw [if_neg (by omega)]
    exact lib_go l hs l.length 0 (by omega)
theorem y30 (l : List S25) (hs : ∀ x ∈ l, SmM x) : Ev (fun k => zq1g.f k l) (libC l) := y31 l fun x hx => (hs x hx).ok
def defM (x : S25) (n : List UInt8) : Bool := x.f4.any fun s => s.f3 && (bs s.f0 == n)
theorem defM_is (x : S25) (nm : ByteArray) : x.f4.any (pSym nm) = defM x (bs nm) := by
  unfold defM
  congr 1
  funext s
  unfold pSym
  rw [y5i, y5i]
def fndB (l : List S25) (n : List UInt8) : Int := idxF (fun x => defM x n) l
theorem fnd_is (l : List S25) (nm : ByteArray) : fnd l nm = fndB l (bs nm) := by
  unfold fndB
  show idxF (fun x : S25 => x.f4.any (pSym nm)) l = _
  congr 1
  funext x
  exact defM_is x nm
def findR (l : List S25) (n : List UInt8) : Int × Bool := (max (fndB l n) 0, decide (0 ≤ fndB l n))
theorem find_is (l : List S25) (nm : ByteArray) : zq1m.f l nm = some (findR l (bs nm)) := by unfold zq1m.f findR; rw [fnd_is]
end Go.Proofs.Ytenlmckahaniiaa.Lb
end
