/- Lemmas for several laws: what their proofs need of this seat's texts, in one place. -/
import Derived.Laws.BitsAllLaws
import Derived.Lib.Bytes
import Derived.Test.YtenlmckahaniiaaZcLess12
import Derived.Test.YtenlmckahaniiaaZcLess13
import Derived.Test.YtenlmckahaniiaaZcLess14
set_option linter.unusedVariables false
set_option linter.unusedSimpArgs false
set_option linter.unusedSectionVars false
section
namespace Go.Proofs.Ytenlmckahaniiaa.K
open Go.RowKit Go.Proofs.YtenlmckahaniiaaW.PrintWords Go.Proofs.YtenlmckahaniiaaW.PrintLast
def zq2.f (k : Nat) (a0_0 : ByteArray) (a0_1 : ByteArray) (a0_2 : ByteArray) (a0_3 : Int) (l0_4 : List (S62)) (l0_5 : List (S43)) (a1 : Int) : Option Bool :=
  if (0 : Int) < (l0_4.length : Int) then (if (0 : Int) < (l0_5.length : Int) then zq2.fpp k a0_0 a0_1 a0_2 a0_3 l0_4 l0_5 a1 else zq2.fpn k a0_0 a0_1 a0_2 a0_3 l0_4 l0_5 a1)
  else (if (0 : Int) < (l0_5.length : Int) then zq2.fnp k a0_0 a0_1 a0_2 a0_3 l0_4 l0_5 a1 else zq2.fnn k a0_0 a0_1 a0_2 a0_3 l0_4 l0_5 a1)
theorem zq2.calls (k : Nat) (a0_0 : ByteArray) (a0_1 : ByteArray) (a0_2 : ByteArray) (a0_3 : Int) (A0_4 : Option Addr) (c0_4 : Nat) (l0_4 : List (S62)) (A0_5 : Option Addr) (c0_5 : Nat) (l0_5 : List (S43)) (a1 : Int) (r : Bool) (w : World) (hr0_4 : Kd.C k62 w A0_4 l0_4.length l0_4) (hc0_4 : l0_4.length ≤ c0_4) (hr0_5 : Kd.C k43 w A0_5 l0_5.length l0_5) (hc0_5 : l0_5.length ≤ c0_5) (h : zq2.f k a0_0 a0_1 a0_2 a0_3 l0_4 l0_5 a1 = some r) :
  Calls Try.prog 8 #[.agg #[.string a0_0, .string a0_1, .string a0_2, .int .i64 a0_3, .slice A0_4 l0_4.length c0_4, .slice A0_5 l0_5.length c0_5], .int .u16 a1] w fun e w' => e = .returned (.bool r) ∧ Below w.heap.size w w' := by
 unfold zq2.f at h
 by_cases h4 : (0 : Int) < (l0_4.length : Int)
 ·rw [if_pos h4] at h
  by_cases h5 : (0 : Int) < (l0_5.length : Int)
  ·rw [if_pos h5] at h
   exact zq2.callspp k a0_0 a0_1 a0_2 a0_3 A0_4 c0_4 l0_4 A0_5 c0_5 l0_5 a1 r w h4 h5 hr0_4 hc0_4 hr0_5 hc0_5 h
  ·rw [if_neg h5] at h
   exact zq2.callspn k a0_0 a0_1 a0_2 a0_3 A0_4 c0_4 l0_4 A0_5 c0_5 l0_5 a1 r w h4 h5 hr0_4 hc0_4 hr0_5 hc0_5 h
 ·rw [if_neg h4] at h
  by_cases h5 : (0 : Int) < (l0_5.length : Int)
  ·rw [if_pos h5] at h
   exact zq2.callsnp k a0_0 a0_1 a0_2 a0_3 A0_4 c0_4 l0_4 A0_5 c0_5 l0_5 a1 r w h4 h5 hr0_4 hc0_4 hr0_5 hc0_5 h
  ·rw [if_neg h5] at h
   exact zq2.callsnn k a0_0 a0_1 a0_2 a0_3 A0_4 c0_4 l0_4 A0_5 c0_5 l0_5 a1 r w h4 h5 hr0_4 hc0_4 hr0_5 hc0_5 h
end Go.Proofs.Ytenlmckahaniiaa.K
end
section
namespace Go.Proofs.Ytenlmckahaniiaa.K
open Go.RowKit Go.Proofs.YtenlmckahaniiaaW.PrintWords Go.Proofs.YtenlmckahaniiaaW.PrintLast
def zq2.Pure : Prop := ∀ (a0_0 : ByteArray) (a0_1 : ByteArray) (a0_2 : ByteArray) (a0_3 : Int) (l0_4 : List (S62)) (l0_5 : List (S43)) (a1 : Int), a0_0.size ≤ 9223372036854775807 → a0_1.size ≤ 9223372036854775807 → a0_2.size ≤ 9223372036854775807 → (Lit.int .i64 a0_3).wf = true → (WfL wf62) l0_4 → (WfL wf43) l0_5 → (Lit.int .u16 a1).wf = true → ∃ k, zq2.f k a0_0 a0_1 a0_2 a0_3 l0_4 l0_5 a1 = some true
end Go.Proofs.Ytenlmckahaniiaa.K
end
section
namespace Go.Proofs.Ytenlmckahaniiaa.MyBits
open Go Go.RowKit
theorem wrap_id {n : Int} (h0 : -9223372036854775808 ≤ n) (h1 : n ≤ 9223372036854775807) : IntKind.i64.wrap n = n := by
  rw [IntKind.wrap_i64]; omega
theorem wrap64_id {n : Int} (h0 : -9223372036854775808 ≤ n) (h1 : n ≤ 9223372036854775807) : wrap64 n = n := by
  unfold wrap64; omega
def un (x : Int) : Nat := (x % 18446744073709551616).toNat
theorem un_cast (x : Int) : (un x : Int) = x % 18446744073709551616 := by unfold un; omega
theorem un_nat {x : Nat} (h1 : x < 18446744073709551616) : un (x : Int) = x := by unfold un; omega
theorem toNat_ofInt64 (x : Int) : (BitVec.ofInt 64 x).toNat = un x := by
  rw [BitVec.toNat_ofInt]; rfl
theorem and_un (x y : Int) : Go.bits .and .i64 x y = IntKind.i64.wrap ((un x &&& un y : Nat) : Int) := by
  show IntKind.i64.wrap ((BitVec.ofInt 64 x &&& BitVec.ofInt 64 y).toNat : Int) = _
  rw [BitVec.toNat_and, toNat_ofInt64, toNat_ofInt64]
theorem land_low (x k : Nat) : x &&& (2 ^ k - 1) = x % 2 ^ k := Nat.and_two_pow_sub_one_eq_mod x k
theorem and_low (x : Int) (m k : Nat) (hk : k < 63) (hm : m + 1 = 2 ^ k) : Go.bits .and .i64 x (m : Int) = x % 2 ^ k := by
  have hp : 2 ^ k ≤ 2 ^ 62 := Nat.pow_le_pow_right (by decide) (by omega)
  have hm' : m = 2 ^ k - 1 := by omega
  have h62 : (2 : Nat) ^ 62 = 4611686018427387904 := by decide
  rw [and_un, un_nat (by omega), hm', land_low]
  have hlt : un x % 2 ^ k < 2 ^ k := Nat.mod_lt _ (Nat.two_pow_pos k)
  rw [wrap_id (by omega) (by omega)]
  rw [Int.natCast_emod, un_cast, Int.natCast_pow]
  have hd : ((2 : Nat) ^ k : Int) ∣ 18446744073709551616 := by
    refine ⟨2 ^ (64 - k), ?_⟩
    have : (18446744073709551616 : Int) = 2 ^ 64 := by decide
    rw [this]
    show (2 : Int) ^ 64 = 2 ^ k * 2 ^ (64 - k)
    rw [← Int.pow_add]; congr 1; omega
  exact Int.emod_emod_of_dvd x hd
end Go.Proofs.Ytenlmckahaniiaa.MyBits
end
section
namespace Go.Proofs.Ytenlmckahaniiaa.MyStr
open Go Go.RowKit Go.Proofs.YtenlmckahaniiaaW.PrintWords Go.Proofs.YtenlmckahaniiaaW.PrintMore
def bs (s : ByteArray) : List UInt8 := s.data.toList
theorem y0f (s : ByteArray) : (bs s).length = s.size := by unfold bs; rw [Array.length_toList]; rfl
theorem toList_bs (s : ByteArray) : s.toList = bs s := Lib.toList_data s
def byteAt (l : List UInt8) (i : Nat) : Int := ((l[i]?).getD 0).toNat
theorem bt_bs (s : ByteArray) (i : Int) : bt s i = byteAt (bs s) i.toNat := by
  unfold bt byteAt bs
  split
  · rename_i h
    have h' : i.toNat < s.data.toList.length := by rw [Array.length_toList]; exact h
    rw [List.getElem?_eq_getElem h']; rfl
  · rename_i h
    have h' : s.data.toList.length ≤ i.toNat := by rw [Array.length_toList]; exact Nat.le_of_not_lt h
    rw [List.getElem?_eq_none h']; rfl
theorem byteAt_range (l : List UInt8) (i : Nat) : 0 ≤ byteAt l i ∧ byteAt l i < 256 := by
  unfold byteAt
  have := UInt8.toNat_lt (l[i]?.getD 0)
  omega
end Go.Proofs.Ytenlmckahaniiaa.MyStr
end
section
namespace Go.Proofs.Ytenlmckahaniiaa.Oct
open Go Go.RowKit Go.Proofs.YtenlmckahaniiaaW.PrintWords Go.Proofs.YtenlmckahaniiaaW.PrintMore Go.Proofs.Ytenlmckahaniiaa.MyBits Go.Proofs.Ytenlmckahaniiaa.MyStr
def lei (n : Int) : Nat → List Int
  | 0 => []
  | w + 1 => n % 256 :: lei (n / 256) w
def ints (l : List UInt8) : List Int := l.map fun b => (b.toNat : Int)
theorem ints_length (l : List UInt8) : (ints l).length = l.length := List.length_map _
theorem byteAt_ints (l : List UInt8) (i : Nat) : byteAt l i = (ints l).getD i 0 := by
  unfold byteAt ints
  rw [List.getD_eq_getElem?_getD, List.getElem?_map]
  cases l[i]? <;> rfl
def byt (l : List Int) : List UInt8 := l.map fun n => UInt8.ofNat n.toNat
def le (n : Int) (w : Nat) : List UInt8 := byt (lei n w)
def step (c : Nat) : Nat := if c % 2 = 1 then (c / 2) ^^^ 3988292384 else c / 2
end Go.Proofs.Ytenlmckahaniiaa.Oct
end
section
namespace Go.Proofs.Ytenlmckahaniiaa.Obj
open Go Go.RowKit Go.Proofs.Ytenlmckahaniiaa.K Go.Proofs.YtenlmckahaniiaaW.PrintWords Go.Proofs.YtenlmckahaniiaaW.PrintMore Go.Proofs.Ytenlmckahaniiaa.MyBits Go.Proofs.Ytenlmckahaniiaa.MyStr Go.Proofs.Ytenlmckahaniiaa.Oct
theorem Ev.ite {α : Type} {c : Prop} [Decidable c] {g f : Nat → Option α} {r : α} (h1 : c → Ev g r) (h2 : ¬ c → Ev f r) : Ev (fun k => if c then g k else f k) r := by
  by_cases h : c
  · exact Ev.congr (fun k => if_pos h) (h1 h)
  · exact Ev.congr (fun k => if_neg h) (h2 h)
theorem Ev.eq {α : Type} {g : Nat → Option α} {r r' : α} (h : Ev g r) (e : r = r') : Ev g r' := e ▸ h
theorem i64_nat (i : Nat) (h : i < 9223372036854775807) : wrap64 ((i : Int) + 1) = ((i + 1 : Nat) : Int) := by unfold wrap64; omega
def okc (c : Int) : Bool := (decide (97 ≤ c) && decide (c ≤ 122)) || (decide (65 ≤ c) && decide (c ≤ 90)) || (decide (48 ≤ c) && decide (c ≤ 57)) || decide (c = 95) || decide (c = 46) || decide (c = 36)
def nameL (l : List UInt8) : Bool := decide (l ≠ []) && decide (l.length ≤ 14) && !(decide (48 ≤ byteAt l 0) && decide (byteAt l 0 ≤ 57)) && (ints l).all okc
def isNm (s : ByteArray) : Bool := nameL (bs s)
theorem rd_ints (l : List UInt8) (i : Nat) (h : i < l.length) : rd (ints l) (i : Int) = byteAt l i ∧ 0 ≤ rd (ints l) (i : Int) ∧ rd (ints l) (i : Int) < 256 := by
  have e : rd (ints l) (i : Int) = byteAt l i := by rw [byteAt_ints]; simp [rd]
  rw [e]
  exact ⟨rfl, byteAt_range l i⟩
theorem drop_all (p : Int → Bool) (l : List Int) (i : Nat) (h : i < l.length) : (l.drop i).all p = (p (rd l (i : Int)) && (l.drop (i + 1)).all p) := by
  rw [List.drop_eq_getElem_cons h, List.all_cons]
  have : rd l (i : Int) = l[i] := by simp [rd, h]
  rw [this]
theorem toList_nil (s : ByteArray) : s.toList = ([] : List UInt8) ↔ bs s = [] := by rw [toList_bs]
theorem nameL_len {l : List UInt8} (h : nameL l = true) : 1 ≤ l.length ∧ l.length ≤ 14 := by
  unfold nameL at h
  simp only [Bool.and_eq_true, decide_eq_true_eq] at h
  exact ⟨List.length_pos_iff.2 h.1.1.1, h.1.1.2⟩
def symsR : List (List UInt8) → List S62 → Int
  | _, [] => 0
  | m, s :: r => if isNm s.f0 = true then (if bs s.f0 ∈ m then 6 else if symOk s = true then symsR (m ++ [bs s.f0]) r else 2) else 4
theorem rd62 (l : List S62) (i : Nat) (h : i < l.length) : rd_T62 l (i : Int) = l[i] := by simp [rd_T62, List.getD_eq_getElem?_getD, h]
theorem rd43 (l : List S43) (i : Nat) (h : i < l.length) : y0l l (i : Int) = l[i] := by simp [y0l, List.getD_eq_getElem?_getD, h]
def Fine62 (l : List S62) : Prop := ∀ s ∈ l, s.f0.size ≤ 9223372036854775806
theorem and16 (x : Int) : Go.bits .and .i64 x 65535 = x % 65536 := and_low x 65535 16 (by omega) (by decide)
theorem symOk_iff (s : S62) : symOk s = true ↔ (0 ≤ s.f1 ∧ s.f1 ≤ 3 ∧ 0 ≤ s.f2 ∧ s.f2 ≤ 65535) := by
  unfold symOk
  rw [and16]
  simp only [Bool.and_eq_true, Bool.not_eq_true', decide_eq_false_iff_not, bne_eq_false_iff_eq]
  omega
def relR (ts ds : Int) (x b : S43) : Int :=
  if x.f0 ≠ 1 ∧ x.f0 ≠ 2 then 2
  else if x.f1 < 0 ∨ Int.tmod x.f1 2 ≠ 0 ∨ x.f1 > wrap64 ((if x.f0 = 2 then ds else ts) - 2) then 2
  else if x.f0 < b.f0 ∨ (x.f0 = b.f0 ∧ x.f1 ≤ b.f1) then 2
  else if x.f2 < 0 ∨ x.f2 > 4 ∨ (x.f2 = 0 ∧ x.f4 = false) then 2
  else if x.f2 = 4 then (if isNm x.f3 = true then 0 else 4) else (if bs x.f3 = [] then 0 else 4)
def relT (sz : Int) (x b : S43) : Int :=
  if x.f1 < 0 ∨ Int.tmod x.f1 2 ≠ 0 ∨ x.f1 > wrap64 (sz - 2) then 2
  else if x.f0 < b.f0 ∨ (x.f0 = b.f0 ∧ x.f1 ≤ b.f1) then 2
  else if x.f2 < 0 ∨ x.f2 > 4 ∨ (x.f2 = 0 ∧ x.f4 = false) then 2
  else if x.f2 = 4 then (if isNm x.f3 = true then 0 else 4) else (if bs x.f3 = [] then 0 else 4)
def relsR (ts ds : Int) : S43 → List S43 → Int
  | _, [] => 0
  | b, x :: r => if relR ts ds x b = 0 then relsR ts ds x r else relR ts ds x b
def Fine43 (l : List S43) : Prop := ∀ s ∈ l, s.f3.size ≤ 9223372036854775806
def b0 : S43 := ⟨-1, 0, 0, ⟨#[]⟩, false⟩
def checkR (a0 a1 a2 : ByteArray) (a3 : Int) (l4 : List S62) (l5 : List S43) : Int :=
  if isNm a0 = true then
    (if a1.size > 16384 ∨ a2.size > 16384 ∨ a3 > 16384 ∨ l4.length > 256 ∨ l5.length > 2048 then 7
     else if a1.size % 2 ≠ 0 ∨ a3 < 0 then 1
     else if symsR [] l4 = 0 then relsR (a1.size : Int) (a2.size : Int) b0 l5 else symsR [] l4)
  else 4
structure Fine (a0 : ByteArray) (l4 : List S62) (l5 : List S43) : Prop where
  h0 : a0.size ≤ 9223372036854775806
  h4 : Fine62 l4
  h5 : Fine43 l5
structure Small (a0 a1 a2 : ByteArray) (l4 : List S62) (l5 : List S43) : Prop where
  h0 : a0.size ≤ 100
  h1 : a1.size ≤ 17000
  h2 : a2.size ≤ 17000
  h4 : l4.length ≤ 300
  h5 : l5.length ≤ 2100
  s4 : ∀ s ∈ l4, s.f0.size ≤ 100
  s5 : ∀ s ∈ l5, s.f3.size ≤ 100
theorem Small.fine {a0 a1 a2 : ByteArray} {l4 : List S62} {l5 : List S43} (h : Small a0 a1 a2 l4 l5) : Fine a0 l4 l5 := ⟨by have := h.h0; omega, fun s hs => by have := h.s4 s hs; omega, fun s hs => by have := h.s5 s hs; omega⟩
theorem small_l1 (l : List S43) (hn : l.length ≤ 1000000) (d : Nat) : ∀ i : Nat, i + d = l.length → ∃ b, Ev (fun k => zq7.l1 k l (l.length : Int) (i : Int)) b ∧ (b = true → ∀ s ∈ l.drop i, s.f3.size ≤ 100) := by
  induction d with
  | zero =>
    intro i hi
    refine ⟨true, Ev.step (f := fun _ => some true) (fun k => by rw [zq7.l1, if_neg (by omega)]) (Ev.now _), fun _ => ?_⟩
    rw [List.drop_eq_nil_of_le (by omega)]
    intro s hs; cases hs
  | succ d ih =>
    intro i hi
    have hlt : i < l.length := by omega
    obtain ⟨b, hb, hs⟩ := ih (i + 1) (by omega)
    by_cases h : (l[i].f3.size : Int) > 100
    · refine ⟨false, Ev.step (f := fun _ => some false) (fun k => by rw [zq7.l1, if_pos (by omega), if_pos (by omega), if_pos (by omega), rd43 l i hlt, if_pos h]) (Ev.now _), fun h => by cases h⟩
    · refine ⟨b, Ev.step (fun k => by rw [zq7.l1, if_pos (by omega), if_pos (by omega), if_pos (by omega), rd43 l i hlt, if_neg h, i64_nat i (by omega)]) hb, fun hb => ?_⟩
      rw [List.drop_eq_getElem_cons hlt]
      intro s hs'
      rcases List.mem_cons.1 hs' with rfl | hs'
      · omega
      · exact hs hb s hs'
theorem small_l0 (a0 a1 a2 : ByteArray) (a3 : Int) (l : List S62) (l5 : List S43) (hn : l.length ≤ 1000000) (hn5 : l5.length ≤ 1000000) (d : Nat) : ∀ i : Nat, i + d = l.length → ∃ b, Ev (fun k => zq7.l0 k l (l.length : Int) (i : Int) a0 a1 a2 a3 l l5) b ∧ (b = true → (∀ s ∈ l.drop i, s.f0.size ≤ 100) ∧ (∀ s ∈ l5, s.f3.size ≤ 100)) := by
  induction d with
  | zero =>
    intro i hi
    obtain ⟨b, hb, hs⟩ := small_l1 l5 hn5 l5.length 0 (by omega)
    refine ⟨b, Ev.step (f := fun k => zq7.l1 k l5 (l5.length : Int) 0) (fun k => by rw [zq7.l0, if_neg (by omega)]) (by simpa using hb), fun h => ⟨?_, by simpa using hs h⟩⟩
    rw [List.drop_eq_nil_of_le (by omega)]
    intro s hs; cases hs
  | succ d ih =>
    intro i hi
    have hlt : i < l.length := by omega
    obtain ⟨b, hb, hs⟩ := ih (i + 1) (by omega)
    by_cases h : (l[i].f0.size : Int) > 100
    · refine ⟨false, Ev.step (f := fun _ => some false) (fun k => by rw [zq7.l0, if_pos (by omega), if_pos (by omega), if_pos (by omega), rd62 l i hlt, if_pos h]) (Ev.now _), fun h => by cases h⟩
    · refine ⟨b, Ev.step (fun k => by rw [zq7.l0, if_pos (by omega), if_pos (by omega), if_pos (by omega), rd62 l i hlt, if_neg h, i64_nat i (by omega)]) hb, fun hb => ⟨?_, (hs hb).2⟩⟩
      rw [List.drop_eq_getElem_cons hlt]
      intro s hs'
      rcases List.mem_cons.1 hs' with rfl | hs'
      · omega
      · exact (hs hb).1 s hs'
theorem small_is (a0 a1 a2 : ByteArray) (a3 : Int) (l4 : List S62) (l5 : List S43) : ∃ b, Ev (fun k => zq7.f k a0 a1 a2 a3 l4 l5) b ∧ (b = true → Small a0 a1 a2 l4 l5) := by
  have hno : Ev (fun k => zq7.j0 k true a0 a1 a2 a3 l4 l5) false := Ev.step (f := fun _ => some false) (fun k => by rw [zq7.j0, if_pos rfl]) (Ev.now _)
  unfold zq7.f
  by_cases h0 : (a0.size : Int) > 100
  · exact ⟨false, Ev.congr (fun k => if_pos h0) hno, fun h => by cases h⟩
  by_cases h1 : (a1.size : Int) > 17000
  · exact ⟨false, Ev.congr (fun k => by rw [if_neg h0, if_pos h1]) hno, fun h => by cases h⟩
  by_cases h2 : (a2.size : Int) > 17000
  · exact ⟨false, Ev.congr (fun k => by rw [if_neg h0, if_neg h1, if_pos h2]) hno, fun h => by cases h⟩
  by_cases h4 : (l4.length : Int) > 300
  · exact ⟨false, Ev.congr (fun k => by rw [if_neg h0, if_neg h1, if_neg h2, if_pos h4]) hno, fun h => by cases h⟩
  by_cases h5 : (l5.length : Int) > 2100
  · exact ⟨false, Ev.congr (fun k => by rw [if_neg h0, if_neg h1, if_neg h2, if_neg h4, decide_eq_true h5]) hno, fun h => by cases h⟩
  obtain ⟨b, hb, hs⟩ := small_l0 a0 a1 a2 a3 l4 l5 (by omega) (by omega) l4.length 0 (by omega)
  refine ⟨b, Ev.congr (fun k => by rw [if_neg h0, if_neg h1, if_neg h2, if_neg h4, decide_eq_false h5]) (Ev.step (fun k => by rw [zq7.j0, if_neg (by decide)]; rfl) hb), fun h => ?_⟩
  obtain ⟨s4, s5⟩ := hs h
  exact ⟨by omega, by omega, by omega, by omega, by omega, by simpa using s4, s5⟩
end Go.Proofs.Ytenlmckahaniiaa.Obj
end
section
namespace Go.Proofs.Ytenlmckahaniiaa.Obj
open Go Go.RowKit Go.Proofs.Ytenlmckahaniiaa.K Go.Proofs.YtenlmckahaniiaaW.PrintWords Go.Proofs.YtenlmckahaniiaaW.PrintMore Go.Proofs.Ytenlmckahaniiaa.MyStr Go.Proofs.Ytenlmckahaniiaa.Oct
theorem bytesLess_lt : ∀ (x y : List UInt8), Op.bytesLess x y = decide (x < y)
  | [], [] => by simp [Op.bytesLess]
  | _ :: _, [] => by simp [Op.bytesLess]
  | [], _ :: _ => by simp [Op.bytesLess]
  | a :: x, b :: y => by
    rw [Op.bytesLess, bytesLess_lt x y]
    simp only [List.cons_lt_cons_iff]
    by_cases h1 : a < b <;> by_cases h2 : a = b <;> by_cases h3 : x < y <;> simp [h1, h2, h3]
theorem lt_of_le_ne {a b : List UInt8} (h : a ≤ b) (hn : a ≠ b) : a < b := by
  rcases List.le_total b a with h2 | h2
  · exact absurd (List.le_antisymm h h2) hn
  · by_cases h3 : a < b
    · exact h3
    · exact absurd (List.le_antisymm h (List.not_lt.1 h3)) hn
theorem lt_of_le_lt {a b c : List UInt8} (h : a ≤ b) (h2 : b < c) : a < c := by
  refine lt_of_le_ne (List.le_trans h (List.le_of_lt h2)) (fun e => ?_)
  subst e
  have := List.le_antisymm h (List.le_of_lt h2)
  subst this
  exact List.lt_irrefl _ h2
def Asc (l : List (List UInt8)) : Prop := l.Pairwise (· < ·)
theorem Asc.unique {a b : List (List UInt8)} (ha : Asc a) (hb : Asc b) (h : ∀ x, x ∈ a ↔ x ∈ b) : a = b := by
  induction a generalizing b with
  | nil =>
    cases b with
    | nil => rfl
    | cons y b => exact absurd ((h y).2 List.mem_cons_self) (by simp)
  | cons x a ih =>
    cases b with
    | nil => exact absurd ((h x).1 List.mem_cons_self) (by simp)
    | cons y b =>
      obtain ⟨ha1, ha2⟩ := List.pairwise_cons.1 ha
      obtain ⟨hb1, hb2⟩ := List.pairwise_cons.1 hb
      have hxy : x = y := by
        rcases List.mem_cons.1 ((h x).1 List.mem_cons_self) with e | hx
        · exact e
        · rcases List.mem_cons.1 ((h y).2 List.mem_cons_self) with e | hy
          · exact e.symm
          · exact absurd (List.lt_trans (ha1 y hy) (hb1 x hx)) (List.lt_irrefl _)
      subst hxy
      rw [ih ha2 hb2 (fun z => ?_)]
      constructor
      · intro hz
        rcases List.mem_cons.1 ((h z).1 (List.mem_cons_of_mem _ hz)) with e | h'
        · subst e; exact absurd (ha1 z hz) (List.lt_irrefl _)
        · exact h'
      · intro hz
        rcases List.mem_cons.1 ((h z).2 (List.mem_cons_of_mem _ hz)) with e | h'
        · subst e; exact absurd (hb1 z hz) (List.lt_irrefl _)
        · exact h'
theorem get_bang (l : List (List UInt8)) (i : Nat) (h : i < l.length) : l.toArray[i]! = l[i] := by simp [h]
theorem le_get {l : List (List UInt8)} (h : l.Pairwise (· ≤ ·)) (i j : Nat) (hij : i ≤ j) (hj : j < l.length) : l[i] ≤ l[j] := by
  rcases Nat.lt_or_eq_of_le hij with h1 | rfl
  · exact List.pairwise_iff_getElem.1 h i j (by omega) hj h1
  · rcases List.le_total l[i] l[i] with h | h <;> exact h
theorem compact_asc {l : List (List UInt8)} (h : l.Pairwise (· ≤ ·)) : Asc (Lib.compact l) := by
  unfold Asc Lib.compact Lib.compactUpTo
  rw [List.pairwise_map]
  refine List.Pairwise.imp_of_mem (R := fun i j => i < j) ?_ (List.Pairwise.filter _ List.pairwise_lt_range)
  intro i j hi hj hij
  obtain ⟨hj1, hj2⟩ := List.mem_filter.1 hj
  have hj1 := List.mem_range.1 hj1
  unfold Lib.keeps at hj2
  simp only [decide_eq_true_eq] at hj2
  have hne : l.toArray[j]! ≠ l.toArray[j - 1]! := hj2.resolve_left (by omega)
  rw [get_bang l j hj1, get_bang l (j - 1) (by omega)] at hne
  rw [get_bang l i (by omega), get_bang l j hj1]
  exact lt_of_le_lt (le_get h i (j - 1) (by omega) (by omega)) (lt_of_le_ne (le_get h (j - 1) j (by omega) hj1) (fun e => hne e.symm))
theorem first_at (l : List (List UInt8)) (x : List UInt8) (i : Nat) (hi : i < l.length) (hx : l[i] = x) : ∃ j, ∃ hj : j < l.length, l[j] = x ∧ ∀ q (hq : q < j), l[q] ≠ x := by
  induction i using Nat.strongRecOn with
  | _ i ih =>
    by_cases h : ∃ q, ∃ hq : q < i, l[q]'(by omega) = x
    · obtain ⟨q, hq, e⟩ := h
      exact ih q hq (by omega) e
    · exact ⟨i, hi, hx, fun q hq e => h ⟨q, hq, e⟩⟩
theorem compact_mem (l : List (List UInt8)) (x : List UInt8) : x ∈ Lib.compact l ↔ x ∈ l := by
  unfold Lib.compact Lib.compactUpTo
  rw [List.mem_map]
  constructor
  · rintro ⟨i, hi, rfl⟩
    have h1 := List.mem_range.1 (List.mem_filter.1 hi).1
    rw [get_bang l i h1]
    exact List.getElem_mem h1
  · intro h
    obtain ⟨i, hi, e⟩ := List.getElem_of_mem h
    obtain ⟨j, hj, e2, h3⟩ := first_at l x i hi e
    refine ⟨j, List.mem_filter.2 ⟨List.mem_range.2 hj, ?_⟩, by rw [get_bang l j hj, e2]⟩
    unfold Lib.keeps
    simp only [decide_eq_true_eq]
    rcases Nat.eq_zero_or_pos j with h0 | h0
    · exact .inl h0
    · refine .inr ?_
      rw [get_bang l j hj, get_bang l (j - 1) (by omega), e2]
      exact fun e => h3 (j - 1) (by omega) e.symm
theorem sortL_sorted (l : List (List UInt8)) : (sortL l).Pairwise (· ≤ ·) := by
  have h := List.pairwise_mergeSort (le := fun x y : List UInt8 => decide (x ≤ y)) (fun a b c h1 h2 => by simp only [decide_eq_true_eq] at *; exact List.le_trans h1 h2) (fun a b => by
    rcases List.le_total a b with h | h
    · rw [decide_eq_true h]; rfl
    · rw [decide_eq_true h, Bool.or_true]) l
  exact h.imp (fun h => of_decide_eq_true h)
theorem sortL_mem (l : List (List UInt8)) (x : List UInt8) : x ∈ sortL l ↔ x ∈ l := (List.mergeSort_perm l _).mem_iff
def extL (l : List S43) : List (List UInt8) := (l.filter fun x => decide (x.f2 = 4)).map fun x => bs x.f3
def needsL (l : List S43) : List (List UInt8) := Lib.compact (sortL (extL l))
theorem needsL_asc (l : List S43) : Asc (needsL l) := compact_asc (sortL_sorted _)
theorem needsL_mem (l : List S43) (x : List UInt8) : x ∈ needsL l ↔ x ∈ extL l := by unfold needsL; rw [compact_mem, sortL_mem]
theorem extL_length (l : List S43) : (extL l).length ≤ l.length := by unfold extL; rw [List.length_map]; exact List.length_filter_le _ _
theorem needsL_length (l : List S43) : (needsL l).length ≤ l.length := by
  have h1 := compact_length_le (sortL (extL l))
  rw [sortL_length] at h1
  exact Nat.le_trans h1 (extL_length l)
theorem extL_take (l : List S43) (i : Nat) (h : i < l.length) : extL (l.take (i + 1)) = extL (l.take i) ++ (if l[i].f2 = 4 then [bs l[i].f3] else []) := by
  unfold extL
  rw [List.take_succ_eq_append_getElem h, List.filter_append, List.map_append]
  congr 1
  by_cases h4 : l[i].f2 = 4 <;> simp [h4]
theorem lofs_bs (xs : List ByteArray) : lofs xs = xs.map bs := rfl
theorem needs_loop (l : List S43) (hn : l.length ≤ 1000000) (d : Nat) : ∀ (i : Nat) (xs : List ByteArray), i + d = l.length → lofs xs = extL (l.take i) → Ev (fun k => zqp.l0 k xs l (l.length : Int) (i : Int)) (sofl (extL l)) := by
  induction d with
  | zero =>
    intro i xs hi hx
    refine Ev.step (f := fun _ => some xs) (fun k => by rw [zqp.l0, if_neg (by omega)]) ?_
    rw [List.take_of_length_le (by omega)] at hx
    rw [← hx, sofl_lofs]
    exact Ev.now _
  | succ d ih =>
    intro i xs hi hx
    have hlt : i < l.length := by omega
    have he := extL_take l i hlt
    by_cases h4 : l[i].f2 = 4
    · refine Ev.step (fun k => ?_) (ih (i + 1) (xs ++ [l[i].f3]) (by omega) ?_)
      · have hlen : xs.length ≤ 1000000 := by
          have h1 := extL_length (l.take i)
          rw [← hx, lofs_length, List.length_take] at h1
          omega
        rw [zqp.l0, if_pos (by omega), if_pos (by omega), if_pos (by omega), rd43 l i hlt, if_pos h4, if_pos (by omega), i64_nat i (by omega)]
      · rw [he, if_pos h4, ← hx, lofs_bs, lofs_bs, List.map_append]; rfl
    · refine Ev.step (fun k => ?_) (ih (i + 1) xs (by omega) ?_)
      · rw [zqp.l0, if_pos (by omega), if_pos (by omega), if_pos (by omega), rd43 l i hlt, if_neg h4, i64_nat i (by omega)]
      · rw [he, if_neg h4, List.append_nil, hx]
theorem needs_is (a0 a1 a2 : ByteArray) (a3 : Int) (l4 : List S62) (l5 : List S43) (hn : l5.length ≤ 1000000) : Ev (fun k => zqp.f k a0 a1 a2 a3 l4 l5) (sofl (needsL l5)) := by
  have h := needs_loop l5 hn l5.length 0 [] (by omega) (by simp [extL, lofs])
  unfold zqp.f
  refine Ev.bind h ?_
  refine Ev.eq (Ev.congr (fun k => if_pos ?_) (Ev.now _)) ?_
  · rw [sofl_length]; have := extL_length l5; omega
  · unfold compS sortS needsL
    rw [lofs_sofl, lofs_sofl]
end Go.Proofs.Ytenlmckahaniiaa.Obj
end
section
namespace Go.Proofs.Ytenlmckahaniiaa.Obj
open Go Go.RowKit Go.Proofs.Ytenlmckahaniiaa.K Go.Proofs.YtenlmckahaniiaaW.PrintWords Go.Proofs.YtenlmckahaniiaaW.PrintMore Go.Proofs.Ytenlmckahaniiaa.MyStr Go.Proofs.Ytenlmckahaniiaa.Oct
theorem alive_enc : zqk.f 300 (⟨#[109]⟩ : ByteArray) (⟨#[]⟩ : ByteArray) (⟨#[]⟩ : ByteArray) 0 ([] : List (S62)) ([] : List (S43)) = some ((⟨#[79, 66, 74, 49, 1, 0, 109, 0, 0, 0, 0, 0, 0, 0, 0, 0, 0, 22, 213, 14, 38]⟩ : ByteArray), 0) := by decide +kernel
theorem alive_dec : (zqj.f 300 (⟨#[79, 66, 74, 49, 1, 0, 109, 0, 0, 0, 0, 0, 0, 0, 0, 0, 0, 22, 213, 14, 38]⟩ : ByteArray)).map (fun bt => (bt.1, bt.2.2.2.2.2.2)) = some ((⟨#[109]⟩ : ByteArray), 0) := by decide +kernel
theorem alive_c1 : zqo.f 300 (⟨#[109]⟩ : ByteArray) (⟨#[120]⟩ : ByteArray) (⟨#[]⟩ : ByteArray) 0 ([] : List (S62)) ([] : List (S43)) = some 1 := by decide +kernel
theorem alive_c2 : zqo.f 300 (⟨#[109]⟩ : ByteArray) (⟨#[120, 120]⟩ : ByteArray) (⟨#[]⟩ : ByteArray) 0 ([] : List (S62)) (([(⟨1, 2, 1, (⟨#[]⟩ : ByteArray), false⟩ : S43)] : List (S43))) = some 2 := by decide +kernel
def aliveR : List S43 := [(⟨0, 0, 4, (⟨#[98]⟩ : ByteArray), false⟩ : S43), (⟨0, 0, 4, (⟨#[97]⟩ : ByteArray), false⟩ : S43), (⟨0, 0, 4, (⟨#[98]⟩ : ByteArray), false⟩ : S43)]
theorem alive_needs : needsL aliveR = [[97], [98]] := by
  refine Asc.unique (needsL_asc _) (by unfold Asc; simp only [List.pairwise_cons]; exact ⟨by simp; decide, by simp, List.Pairwise.nil⟩) (fun x => ?_)
  rw [needsL_mem, show extL aliveR = [[98], [97], [98]] by decide]
  simp only [List.mem_cons, List.not_mem_nil, or_false]
  constructor
  · rintro (h | h | h) <;> simp [h]
  · rintro (h | h) <;> simp [h]
theorem alive_is : Ev (fun k => zq6.f k) true := by
  unfold zq6.f
  refine Ev.bind (Ev.of (fun k => zqk.mono _ _ _ _ _ _ k) alive_enc) ?_
  obtain ⟨bt, hbt, he⟩ := Option.map_eq_some_iff.1 alive_dec
  refine Ev.bind (Ev.of (fun k => zqj.mono _ k) hbt) ?_
  have e1 : bt.1 = ⟨#[109]⟩ := congrArg Prod.fst he
  have e2 : bt.2.2.2.2.2.2 = 0 := congrArg Prod.snd he
  refine Ev.bind (needs_is _ _ _ _ [] aliveR (by decide)) ?_
  rw [alive_needs]
  refine Ev.congr (fun k => by rw [if_pos (by decide), if_pos (by decide), if_pos (by rw [e1, toList_bs]; rfl), if_pos e2, if_pos (by decide), if_pos (by decide), if_pos (by rw [toList_bs]; rfl), if_pos (by decide), if_pos (by rw [toList_bs]; rfl)]) ?_
  refine Ev.bind (Ev.of (fun k => zqo.mono _ _ _ _ _ _ k) alive_c1) ?_
  refine Ev.congr (fun k => if_pos rfl) ?_
  refine Ev.bind (Ev.of (fun k => zqo.mono _ _ _ _ _ _ k) alive_c2) ?_
  exact Ev.now _
theorem alive_end : Ev (fun k => (zq6.f k).bind fun t => some t) true := Ev.bind alive_is (Ev.now true)
end Go.Proofs.Ytenlmckahaniiaa.Obj
end
section
namespace Go.Proofs.Ytenlmckahaniiaa.Obj
open Go Go.RowKit Go.Proofs.Ytenlmckahaniiaa.K Go.Proofs.YtenlmckahaniiaaW.PrintWords Go.Proofs.YtenlmckahaniiaaW.PrintMore Go.Proofs.Ytenlmckahaniiaa.MyBits Go.Proofs.Ytenlmckahaniiaa.MyStr Go.Proofs.Ytenlmckahaniiaa.Oct
theorem idx3 : ∀ c : Fin 256, decide (idxB (⟨#[95, 46, 36]⟩ : ByteArray) (c.val : Int) ≥ 0) = (decide ((c.val : Int) = 95) || decide ((c.val : Int) = 46) || decide ((c.val : Int) = 36)) := by decide +kernel
theorem idx3i (c : Int) (h0 : 0 ≤ c) (h1 : c < 256) : (idxB (⟨#[95, 46, 36]⟩ : ByteArray) c ≥ 0) ↔ (c = 95 ∨ c = 46 ∨ c = 36) := by
  have := idx3 ⟨c.toNat, by omega⟩
  simp only at this
  rw [show ((c.toNat : Nat) : Int) = c by omega] at this
  have h2 := Bool.eq_iff_iff.1 this
  simp only [decide_eq_true_eq, Bool.or_eq_true] at h2
  rw [h2, or_assoc]
theorem isName_step (k : Nat) (y : List Int) (n i : Int) (h0 : 0 ≤ i) (h1 : i < n) (h2 : i < (y.length : Int)) (r0 : 0 ≤ rd y i) (r1 : rd y i < 256) :
    zql.l0 (k + 1) y n i = if okc (rd y i) = true then zql.l0 k y n (wrap64 (i + 1)) else some false := by
  rw [zql.l0, if_pos h1, if_pos h0, if_pos h2]
  have e := idx3i (rd y i) r0 r1
  unfold zqi.f
  simp only [Option.bind_some]
  generalize rd y i = c at *
  unfold okc
  simp only [Bool.or_eq_true, Bool.and_eq_true, decide_eq_true_eq]
  repeat' split
  all_goals first
    | rfl
    | (exfalso; omega)
theorem isName_loop (l : List UInt8) (hl : l.length < 9223372036854775807) (d : Nat) : ∀ i : Nat, i + d = l.length → Ev (fun k => zql.l0 k (ints l) (l.length : Int) (i : Int)) (((ints l).drop i).all okc) := by
  induction d with
  | zero =>
    intro i hi
    refine Ev.step (f := fun _ => some true) (fun k => by rw [zql.l0, if_neg (by omega)]) ?_
    rw [List.drop_eq_nil_of_le (by rw [ints_length]; omega)]
    exact Ev.now _
  | succ d ih =>
    intro i hi
    obtain ⟨e, r0, r1⟩ := rd_ints l i (by omega)
    refine Ev.step (f := fun k => if okc (rd (ints l) (i : Int)) = true then zql.l0 k (ints l) (l.length : Int) ((i + 1 : Nat) : Int) else some false) (fun k => by rw [isName_step k _ _ _ (by omega) (by omega) (by rw [ints_length]; omega) r0 r1, i64_nat i (by omega)]) ?_
    rw [drop_all _ _ _ (by rw [ints_length]; omega)]
    refine Ev.ite (fun h => ?_) (fun h => ?_)
    · rw [h, Bool.true_and]
      exact ih (i + 1) (by omega)
    · rw [Bool.not_eq_true] at h
      rw [h, Bool.false_and]
      exact Ev.now _
theorem isName_is (s : ByteArray) (hs : s.size ≤ 9223372036854775806) : Ev (fun k => zql.f k s) (isNm s) := by
  have hall : Ev (fun k => zql.j0 k s false) ((ints (bs s)).all okc) := by
    refine Ev.step (f := fun k => zql.l0 k (ints (bs s)) ((bs s).length : Int) 0) (fun k => ?_) (by have := isName_loop (bs s) (by rw [y0f]; omega) (bs s).length 0 (by omega); simpa using this)
    rw [zql.j0, if_neg (by decide), if_pos (by omega)]
    simp only [Option.bind_some]
    rw [show bytesOf s = ints (bs s) from rfl, ints_length]
  have hno : Ev (fun k => zql.j0 k s true) false := Ev.step (f := fun _ => some false) (fun k => by rw [zql.j0, if_pos rfl]) (Ev.now _)
  unfold zql.f isNm nameL
  refine Ev.ite (fun h => ?_) (fun h => ?_)
  · rw [toList_nil] at h
    rw [h]; exact hno
  · rw [toList_nil] at h
    have hp : 0 < s.size := by rw [← y0f]; exact List.length_pos_iff.2 h
    rw [decide_eq_true h, Bool.true_and, y0f]
    refine Ev.ite (fun h1 => ?_) (fun h1 => ?_)
    · rw [decide_eq_false (show ¬ s.size ≤ 14 by omega)]; exact hno
    · rw [decide_eq_true (show s.size ≤ 14 by omega), Bool.true_and, ← show bt s 0 = byteAt (bs s) 0 from bt_bs s 0]
      refine Ev.congr (fun k => if_pos (by omega)) ?_
      refine Ev.ite (fun h2 => ?_) (fun h2 => ?_)
      · rw [decide_eq_true (show 48 ≤ bt s 0 from h2), Bool.true_and]
        by_cases h3 : bt s 0 ≤ 57
        · rw [decide_eq_true h3]; exact hno
        · rw [decide_eq_false h3]; exact hall
      · rw [decide_eq_false (show ¬ 48 ≤ bt s 0 from h2), Bool.false_and]; exact hall
theorem syms_loop (l : List S62) (hn : l.length ≤ 1000000) (hf : Fine62 l) (d : Nat) : ∀ (i : Nat) (m : List (List UInt8)), i + d = l.length → m.length ≤ i → Ev (fun k => zq8.l0 k l m (i : Int)) (symsR m (l.drop i)) := by
  induction d with
  | zero =>
    intro i m hi _
    rw [List.drop_eq_nil_of_le (by omega)]
    exact Ev.step (f := fun _ => some 0) (fun k => by rw [zq8.l0, if_neg (by omega)]) (Ev.now _)
  | succ d ih =>
    intro i m hi hm
    have hlt : i < l.length := by omega
    rw [List.drop_eq_getElem_cons hlt]
    unfold symsR
    refine Ev.step (f := fun k => (zql.f k l[i].f0).bind fun t => (if t = true then (if bs l[i].f0 ∈ m then some 6 else (if symOk l[i] = true then zq8.l0 k l (m ++ [bs l[i].f0]) ((i + 1 : Nat) : Int) else some 2)) else some 4)) (fun k => ?_) ?_
    · rw [zq8.l0, if_pos (by omega), if_pos (by omega), rd62 l i hlt, if_pos (show m.length < 1000000 by omega), i64_nat i (by omega)]
      rfl
    · refine Ev.bind (isName_is _ (hf _ (List.getElem_mem hlt))) ?_
      refine Ev.eq (Ev.ite (r := if isNm l[i].f0 = true then (if bs l[i].f0 ∈ m then 6 else if symOk l[i] = true then symsR (m ++ [bs l[i].f0]) (l.drop (i + 1)) else 2) else 4) (fun h => ?_) (fun h => ?_)) rfl
      · rw [if_pos h]
        refine Ev.ite (fun h2 => ?_) (fun h2 => ?_)
        · rw [if_pos h2]; exact Ev.now _
        · rw [if_neg h2]
          refine Ev.ite (fun h3 => ?_) (fun h3 => ?_)
          · rw [if_pos h3]
            exact ih (i + 1) _ (by omega) (by simp; omega)
          · rw [if_neg h3]; exact Ev.now _
      · rw [if_neg h]; exact Ev.now _
theorem syms_is (l : List S62) (hn : l.length ≤ 1000000) (hf : Fine62 l) : Ev (fun k => zq8.f k l) (symsR [] l) := by
  have := syms_loop l hn hf l.length 0 [] (by omega) (Nat.le_refl _)
  rw [List.drop_zero] at this
  exact this
theorem rel_j3 (x : S43) (hs : x.f3.size ≤ 9223372036854775806) (b : Bool) : Ev (fun k => zqf.j3 k b x.f0 x.f1 x.f2 x.f3 x.f4) (if b = true then 2 else if x.f2 = 4 then (if isNm x.f3 = true then 0 else 4) else (if bs x.f3 = [] then 0 else 4)) := by
  refine Ev.step (f := fun k => if b = true then some 2 else (if x.f2 = 4 then ((zql.f k x.f3).bind fun t => (if t = true then some 0 else some 4)) else (if bs x.f3 = [] then some 0 else some 4))) (fun k => by rw [zqf.j3, toList_bs]) ?_
  refine Ev.ite (fun h => ?_) (fun h => ?_)
  · rw [if_pos h]; exact Ev.now _
  · rw [if_neg h]
    refine Ev.ite (fun h => ?_) (fun h => ?_)
    · rw [if_pos h]
      refine Ev.bind (isName_is _ hs) ?_
      refine Ev.ite (fun h => ?_) (fun h => ?_)
      · rw [if_pos h]; exact Ev.now _
      · rw [if_neg h]; exact Ev.now _
    · rw [if_neg h]
      refine Ev.ite (fun h => ?_) (fun h => ?_)
      · rw [if_pos h]; exact Ev.now _
      · rw [if_neg h]; exact Ev.now _
theorem rel_j2 (x : S43) (hs : x.f3.size ≤ 9223372036854775806) (b : Bool) : Ev (fun k => zqf.j2 k b x.f0 x.f1 x.f2 x.f3 x.f4) (if b = true then 2 else if x.f2 < 0 ∨ x.f2 > 4 ∨ (x.f2 = 0 ∧ x.f4 = false) then 2 else if x.f2 = 4 then (if isNm x.f3 = true then 0 else 4) else (if bs x.f3 = [] then 0 else 4)) := by
  have e := fun b' => rel_j3 x hs b'
  refine Ev.step (fun k => by rw [zqf.j2]) ?_
  refine Ev.ite (fun h => ?_) (fun h => ?_)
  · rw [if_pos h]; exact Ev.now _
  · rw [if_neg h]
    refine Ev.ite (fun h => ?_) (fun h => Ev.ite (fun h2 => ?_) (fun h2 => Ev.ite (fun h3 => ?_) (fun h3 => ?_)))
    · rw [if_pos (by omega)]; exact e true
    · rw [if_pos (by omega)]; exact e true
    · cases h4 : x.f4 with
      | true => rw [if_neg (by simp; omega)]; simpa [h4] using e false
      | false => rw [if_pos (by simp [h3])]; simpa [h4] using e true
    · rw [if_neg (by omega)]; exact e false
theorem rel_j1 (x y : S43) (hs : x.f3.size ≤ 9223372036854775806) (b : Bool) : Ev (fun k => zqf.j1 k b x.f0 x.f1 x.f2 x.f3 x.f4 y.f0 y.f1 y.f2 y.f3 y.f4) (if b = true then 2 else if x.f0 < y.f0 ∨ (x.f0 = y.f0 ∧ x.f1 ≤ y.f1) then 2 else if x.f2 < 0 ∨ x.f2 > 4 ∨ (x.f2 = 0 ∧ x.f4 = false) then 2 else if x.f2 = 4 then (if isNm x.f3 = true then 0 else 4) else (if bs x.f3 = [] then 0 else 4)) := by
  have e := fun b' => rel_j2 x hs b'
  refine Ev.step (fun k => by rw [zqf.j1]) ?_
  refine Ev.ite (fun h => ?_) (fun h => ?_)
  · rw [if_pos h]; exact Ev.now _
  · rw [if_neg h]
    refine Ev.ite (fun h => ?_) (fun h => Ev.ite (fun h2 => ?_) (fun h2 => ?_))
    · rw [if_pos (by omega)]; exact e true
    · by_cases h3 : x.f1 ≤ y.f1
      · rw [if_pos (by omega), decide_eq_true h3]; exact e true
      · rw [if_neg (by omega), decide_eq_false h3]; exact e false
    · rw [if_neg (by omega)]; exact e false
theorem rel_j0 (sz : Int) (x y : S43) (hs : x.f3.size ≤ 9223372036854775806) : Ev (fun k => zqf.j0 k sz x.f0 x.f1 x.f2 x.f3 x.f4 y.f0 y.f1 y.f2 y.f3 y.f4) (relT sz x y) := by
  have e := fun b' => rel_j1 x y hs b'
  unfold relT
  refine Ev.step (fun k => by rw [zqf.j0]) ?_
  refine Ev.ite (fun h => ?_) (fun h => Ev.ite (fun h2 => ?_) (fun h2 => ?_))
  · rw [if_pos (by omega)]; exact e true
  · by_cases h3 : x.f1 > wrap64 (sz - 2)
    · rw [if_pos (by omega), decide_eq_true h3]; exact e true
    · rw [if_neg (by omega), decide_eq_false h3]; exact e false
  · rw [if_pos (by omega)]; exact e true
theorem rel_is (a0 a1 a2 : ByteArray) (a3 : Int) (l4 : List S62) (l5 : List S43) (x y : S43) (hs : x.f3.size ≤ 9223372036854775806) :
    Ev (fun k => zqf.f k a0 a1 a2 a3 l4 l5 x.f0 x.f1 x.f2 x.f3 x.f4 y.f0 y.f1 y.f2 y.f3 y.f4) (relR (a1.size : Int) (a2.size : Int) x y) := by
  unfold zqf.f relR
  refine Ev.ite (fun h => ?_) (fun h => Ev.ite (fun h2 => ?_) (fun h2 => ?_))
  · rw [if_neg (by omega), if_neg (show ¬ x.f0 = 2 by omega)]; exact rel_j0 _ x y hs
  · rw [if_neg (by omega), if_pos h2]; exact rel_j0 _ x y hs
  · rw [if_pos (by omega)]; exact Ev.now _
theorem check_l0 (a0 a1 a2 : ByteArray) (a3 : Int) (l4 : List S62) (l5 : List S43) (hn : l5.length ≤ 1000000) (hf : Fine43 l5) (d : Nat) : ∀ (i : Nat) (b : S43), i + d = l5.length →
    Ev (fun k => zqo.l0 k l5 (l5.length : Int) (i : Int) a0 a1 a2 a3 l4 l5 b.f0 b.f1 b.f2 b.f3 b.f4) (relsR (a1.size : Int) (a2.size : Int) b (l5.drop i)) := by
  induction d with
  | zero =>
    intro i b hi
    rw [List.drop_eq_nil_of_le (by omega)]
    exact Ev.step (f := fun _ => some 0) (fun k => by rw [zqo.l0, if_neg (by omega)]) (Ev.now _)
  | succ d ih =>
    intro i b hi
    have hlt : i < l5.length := by omega
    rw [List.drop_eq_getElem_cons hlt]
    unfold relsR
    refine Ev.step (fun k => by rw [zqo.l0, if_pos (by omega), if_pos (by omega), if_pos (by omega), rd43 l5 i hlt, i64_nat i (by omega)]) ?_
    refine Ev.bind (rel_is a0 a1 a2 a3 l4 l5 l5[i] b (hf _ (List.getElem_mem hlt))) ?_
    refine Ev.ite (fun h => ?_) (fun h => ?_)
    · rw [if_pos h]; exact ih (i + 1) l5[i] (by omega)
    · rw [if_neg h]; exact Ev.now _
theorem check_j0 (a0 a1 a2 : ByteArray) (a3 : Int) (l4 : List S62) (l5 : List S43) (hf : Fine a0 l4 l5) (b : Bool) (h4 : l4.length ≤ 1000000) (h5 : l5.length ≤ 1000000) :
    Ev (fun k => zqo.j0 k b a0 a1 a2 a3 l4 l5) (if b = true then 7 else if a1.size % 2 ≠ 0 ∨ a3 < 0 then 1 else if symsR [] l4 = 0 then relsR (a1.size : Int) (a2.size : Int) b0 l5 else symsR [] l4) := by
  refine Ev.step (fun k => by rw [zqo.j0]) ?_
  refine Ev.ite (fun h => ?_) (fun h => ?_)
  · rw [if_pos h]; exact Ev.now _
  · rw [if_neg h]
    refine Ev.ite (fun h => Ev.ite (fun h2 => ?_) (fun h2 => ?_)) (fun h => ?_)
    · rw [if_pos (by omega)]; exact Ev.now _
    · rw [if_neg (by omega)]
      refine Ev.bind (syms_is l4 h4 hf.h4) ?_
      refine Ev.ite (fun h => ?_) (fun h => ?_)
      · rw [if_pos h]
        have := check_l0 a0 a1 a2 a3 l4 l5 h5 hf.h5 l5.length 0 b0 (by omega)
        rw [List.drop_zero] at this
        exact this
      · rw [if_neg h]; exact Ev.now _
    · rw [if_pos (by omega)]; exact Ev.now _
theorem check_is (a0 a1 a2 : ByteArray) (a3 : Int) (l4 : List S62) (l5 : List S43) (hf : Fine a0 l4 l5) (h4 : l4.length ≤ 1000000) (h5 : l5.length ≤ 1000000) :
    Ev (fun k => zqo.f k a0 a1 a2 a3 l4 l5) (checkR a0 a1 a2 a3 l4 l5) := by
  have e := fun b => check_j0 a0 a1 a2 a3 l4 l5 hf b h4 h5
  unfold zqo.f checkR
  refine Ev.bind (isName_is a0 hf.h0) ?_
  refine Ev.ite (fun h => ?_) (fun h => ?_)
  · rw [if_pos h]
    refine Ev.ite (fun h => ?_) (fun h1 => Ev.ite (fun h => ?_) (fun h2 => Ev.ite (fun h => ?_) (fun h3 => Ev.ite (fun h => ?_) (fun h6 => ?_))))
    · rw [if_pos (by omega)]; exact e true
    · rw [if_pos (by omega)]; exact e true
    · rw [if_pos (by omega)]; exact e true
    · rw [if_pos (by omega)]; exact e true
    · by_cases h7 : (l5.length : Int) > 2048
      · rw [if_pos (by omega), decide_eq_true h7]; exact e true
      · rw [if_neg (by omega), decide_eq_false h7]; exact e false
  · rw [if_neg h]; exact Ev.now _
end Go.Proofs.Ytenlmckahaniiaa.Obj
end
section
namespace Go.Proofs.Ytenlmckahaniiaa.Oct
open Go Go.RowKit Go.Proofs.Ytenlmckahaniiaa.K Go.Proofs.YtenlmckahaniiaaW.PrintWords Go.Proofs.YtenlmckahaniiaaW.PrintMore Go.Proofs.Ytenlmckahaniiaa.MyBits Go.Proofs.Ytenlmckahaniiaa.MyStr
theorem i64_nat (i : Nat) (h : i < 9223372036854775807) : wrap64 ((i : Int) + 1) = ((i + 1 : Nat) : Int) := by unfold wrap64; omega
theorem rdOf_get (l : List ByteArray) (i : Nat) (h : i < l.length) : rdOf ByteArray.empty l (i : Int) = l[i] := by
  unfold rdOf; rw [Int.toNat_natCast, List.getD_eq_getElem?_getD, List.getElem?_eq_getElem h]; rfl
end Go.Proofs.Ytenlmckahaniiaa.Oct
end
section
namespace Go.Proofs.Ytenlmckahaniiaa.K
open Go.RowKit Go.Proofs.YtenlmckahaniiaaW.PrintWords Go.Proofs.YtenlmckahaniiaaW.PrintLast
def IsS79 (w0 W : World) (g : Nat) (f0 : ByteArray) (f1 : Int) (f2 : Bool) : Prop := W.heap[g]? = some (.cells #[.string f0, .int .i64 f1, .bool f2] 79 (0, 0)) ∧ w0.heap.size ≤ g
theorem IsS79.grown {w0 W : World} {g : Nat} {f0 : ByteArray} {f1 : Int} {f2 : Bool} {W1 : World} {row : Option Nat} (h : IsS79 w0 W g f0 f1 f2) (hw : W.grownBy W1 row) (hne : some g ≠ row) : IsS79 w0 W1 g f0 f1 f2 := by
 obtain ⟨hb, hg⟩ := h
 exact ⟨blk_grown hb hw hne, hg⟩
theorem IsS79.kept {w0 W : World} {g : Nat} {f0 : ByteArray} {f1 : Int} {f2 : Bool} {W1 : World} {S : Nat → Prop} (h : IsS79 w0 W g f0 f1 f2) (hk : Kept W W1 S) (hne : ¬ S g) : IsS79 w0 W1 g f0 f1 f2 := by
 obtain ⟨hb, hg⟩ := h
 exact ⟨blk_kept hb hk hne, hg⟩
theorem IsS79.below {w0 W : World} {g : Nat} {f0 : ByteArray} {f1 : Int} {f2 : Bool} {W1 : World} (h : IsS79 w0 W g f0 f1 f2) (hw : Below W.heap.size W W1) : IsS79 w0 W1 g f0 f1 f2 := h.grown (grown_of_below hw none) (by simp)
theorem IsS79.alloc {w0 W : World} {g : Nat} {f0 : ByteArray} {f1 : Int} {f2 : Bool} (h : IsS79 w0 W g f0 f1 f2) (o : Obj) : IsS79 w0 (W.alloc o) g f0 f1 f2 := h.below (y00 (Below.refl _ _) o)
theorem IsS79.drewN {w0 W : World} {g : Nat} {f0 : ByteArray} {f1 : Int} {f2 : Bool} (h : IsS79 w0 W g f0 f1 f2) (m : Nat) : IsS79 w0 (W.drewN m) g f0 f1 f2 := h
theorem IsS79.drew {w0 W : World} {g : Nat} {f0 : ByteArray} {f1 : Int} {f2 : Bool} (h : IsS79 w0 W g f0 f1 f2) : IsS79 w0 W.drew g f0 f1 f2 := h
theorem IsS79.apart {w0 W : World} {g : Nat} {f0 : ByteArray} {f1 : Int} {f2 : Bool} {α : Type} {d : Kd α} {e : Nat} {base : Nat} {ok : Nat → Prop} {v : Value} {xs : List α} (h : IsS79 w0 W g f0 f1 f2) (ho : d.R e W base ok v xs) (ht : ∀ q, q ∈ e :: d.E → q ≠ 79) : d.R e W base (fun k => ok k ∧ k ≠ g) v xs := by
 obtain ⟨hb, hg⟩ := h
 exact Kd.R_types ho hb ht
theorem IsS79.lt {w0 W : World} {g : Nat} {f0 : ByteArray} {f1 : Int} {f2 : Bool} (h : IsS79 w0 W g f0 f1 f2) : g < W.heap.size := by
 obtain ⟨hb, hg⟩ := h
 exact y0c hb
end Go.Proofs.Ytenlmckahaniiaa.K
end
section
namespace Go.Proofs.Ytenlmckahaniiaa.Obj
open Go Go.RowKit Go.Proofs.Ytenlmckahaniiaa.K Go.Proofs.YtenlmckahaniiaaW.PrintWords Go.Proofs.YtenlmckahaniiaaW.PrintMore Go.Proofs.Ytenlmckahaniiaa.MyBits Go.Proofs.Ytenlmckahaniiaa.MyStr Go.Proofs.Ytenlmckahaniiaa.Oct
structure Md where
  a0 : ByteArray
  a1 : ByteArray
  a2 : ByteArray
  a3 : Int
  l4 : List S62
  l5 : List S43
def Md.check (m : Md) : Int := checkR m.a0 m.a1 m.a2 m.a3 m.l4 m.l5
structure SymV (s : S62) : Prop where
  h0 : isNm s.f0 = true
  h1 : 0 ≤ s.f1 ∧ s.f1 ≤ 3
  h2 : 0 ≤ s.f2 ∧ s.f2 ≤ 65535
structure RelV (x : S43) : Prop where
  h0 : x.f0 = 1 ∨ x.f0 = 2
  h1 : 0 ≤ x.f1 ∧ x.f1 ≤ 16384
  h2 : 0 ≤ x.f2 ∧ x.f2 ≤ 4
  h3 : (x.f2 = 4 ∧ isNm x.f3 = true) ∨ (x.f2 ≠ 4 ∧ bs x.f3 = [])
structure Valid (m : Md) : Prop where
  h0 : isNm m.a0 = true
  h1 : m.a1.size ≤ 16384 ∧ m.a1.size % 2 = 0
  h2 : m.a2.size ≤ 16384
  h3 : 0 ≤ m.a3 ∧ m.a3 ≤ 16384
  n4 : m.l4.length ≤ 256
  n5 : m.l5.length ≤ 2048
  h4 : ∀ s ∈ m.l4, SymV s
  h5 : ∀ x ∈ m.l5, RelV x
theorem symsR_valid (l : List S62) : ∀ m, symsR m l = 0 → ∀ s ∈ l, SymV s := by
  induction l with
  | nil => intro _ _ s hs; cases hs
  | cons x l ih =>
    intro m h s hs
    unfold symsR at h
    split at h
    · rename_i h1
      split at h
      · exact absurd h (by decide)
      · split at h
        · rename_i h2
          rw [symOk_iff] at h2
          rcases List.mem_cons.1 hs with rfl | hs
          · exact ⟨h1, ⟨h2.1, h2.2.1⟩, h2.2.2⟩
          · exact ih _ h s hs
        · exact absurd h (by decide)
    · exact absurd h (by decide)
theorem relR_valid {ts ds : Int} {x b : S43} (ht : 0 ≤ ts ∧ ts ≤ 16384) (hd : 0 ≤ ds ∧ ds ≤ 16384) (h : relR ts ds x b = 0) : RelV x := by
  have hz : 0 ≤ (if x.f0 = 2 then ds else ts) ∧ (if x.f0 = 2 then ds else ts) ≤ 16384 := by split <;> omega
  unfold relR at h
  generalize (if x.f0 = 2 then ds else ts) = sz at h hz
  rw [wrap64_id (n := sz - 2) (by omega) (by omega)] at h
  by_cases h1 : x.f0 ≠ 1 ∧ x.f0 ≠ 2
  · rw [if_pos h1] at h; exact absurd h (by decide)
  rw [if_neg h1] at h
  by_cases h2 : x.f1 < 0 ∨ Int.tmod x.f1 2 ≠ 0 ∨ x.f1 > sz - 2
  · rw [if_pos h2] at h; exact absurd h (by decide)
  rw [if_neg h2] at h
  by_cases h3 : x.f0 < b.f0 ∨ (x.f0 = b.f0 ∧ x.f1 ≤ b.f1)
  · rw [if_pos h3] at h; exact absurd h (by decide)
  rw [if_neg h3] at h
  by_cases h4 : x.f2 < 0 ∨ x.f2 > 4 ∨ (x.f2 = 0 ∧ x.f4 = false)
  · rw [if_pos h4] at h; exact absurd h (by decide)
  rw [if_neg h4] at h
  refine ⟨by omega, by omega, by omega, ?_⟩
  by_cases h5 : x.f2 = 4
  · rw [if_pos h5] at h
    by_cases h6 : isNm x.f3 = true
    · exact .inl ⟨h5, h6⟩
    · rw [if_neg h6] at h; exact absurd h (by decide)
  · rw [if_neg h5] at h
    by_cases h6 : bs x.f3 = []
    · exact .inr ⟨h5, h6⟩
    · rw [if_neg h6] at h; exact absurd h (by decide)
theorem relsR_valid {ts ds : Int} (ht : 0 ≤ ts ∧ ts ≤ 16384) (hd : 0 ≤ ds ∧ ds ≤ 16384) (l : List S43) : ∀ b, relsR ts ds b l = 0 → ∀ x ∈ l, RelV x := by
  induction l with
  | nil => intro _ _ s hs; cases hs
  | cons x l ih =>
    intro b h s hs
    unfold relsR at h
    split at h
    · rename_i h1
      rcases List.mem_cons.1 hs with rfl | hs
      · exact relR_valid ht hd h1
      · exact ih _ h s hs
    · rename_i h1; exact absurd h h1
theorem valid_of {m : Md} (h : m.check = 0) : Valid m := by
  unfold Md.check checkR at h
  split at h
  · rename_i h0
    split at h
    · exact absurd h (by decide)
    · rename_i h1
      split at h
      · exact absurd h (by decide)
      · rename_i h2
        split at h
        · rename_i h3
          exact ⟨h0, ⟨by omega, by omega⟩, by omega, ⟨by omega, by omega⟩, by omega, by omega, symsR_valid _ _ h3, relsR_valid ⟨by omega, by omega⟩ ⟨by omega, by omega⟩ _ _ h⟩
        · rename_i h3; exact absurd h h3
  · exact absurd h (by decide)
theorem nm_len {s : ByteArray} (h : isNm s = true) : 1 ≤ s.size ∧ s.size ≤ 14 := by
  have := nameL_len h
  rwa [y0f] at this
theorem SymV.len {s : S62} (h : SymV s) : s.f0.size ≤ 14 := (nm_len h.h0).2
theorem RelV.len {x : S43} (h : RelV x) : x.f3.size ≤ 14 := by
  rcases h.h3 with h | h
  · exact (nm_len h.2).2
  · rw [← y0f, h.2]; exact Nat.zero_le _
theorem Valid.fine {m : Md} (h : Valid m) : Fine m.a0 m.l4 m.l5 :=
  ⟨by have := (nm_len h.h0).2; omega, fun s hs => by have := (h.h4 s hs).len; omega, fun s hs => by have := (h.h5 s hs).len; omega⟩
end Go.Proofs.Ytenlmckahaniiaa.Obj
end
