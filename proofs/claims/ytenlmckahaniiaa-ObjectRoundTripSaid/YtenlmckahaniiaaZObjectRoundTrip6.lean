/- Lemmas for the law ObjectRoundTrip: what its proof needs of this seat's texts, in one place. -/
import Derived.Test.YtenlmckahaniiaaZObjectRoundTrip5
section
set_option linter.unusedVariables false
set_option linter.unusedSimpArgs false
namespace Go.Proofs.Ytenlmckahaniiaa.Oct
open Go Go.RowKit Go.Proofs.Ytenlmckahaniiaa.K Go.Proofs.YtenlmckahaniiaaW.PrintWords Go.Proofs.YtenlmckahaniiaaW.PrintMore Go.Proofs.Ytenlmckahaniiaa.MyBits Go.Proofs.Ytenlmckahaniiaa.MyStr
def mkS (l : List UInt8) : ByteArray := ⟨l.toArray⟩
theorem bs_mkS (l : List UInt8) : bs (mkS l) = l := rfl
theorem mkS_bs (s : ByteArray) : mkS (bs s) = s := bs_inj rfl
theorem mkS_size (l : List UInt8) : (mkS l).size = l.length := by rw [← bs_length, bs_mkS]
theorem mkS_append (a b : List UInt8) : mkS a ++ mkS b = mkS (a ++ b) := bs_inj (by rw [bs_append]; rfl)
theorem nums_mkS (l : List Int) : strOfNums l = mkS (byt l) := bs_inj (bs_nums' l)
theorem extract_mkS (s : ByteArray) (i j : Nat) : s.extract i j = mkS (((bs s).take j).drop i) := bs_inj (bs_extract s i j)
theorem i64_nat (i : Nat) (h : i < 9223372036854775807) : wrap64 ((i : Int) + 1) = ((i + 1 : Nat) : Int) := by unfold wrap64; omega
theorem shr_bytes (n : Int) (i : Nat) (h : i ≤ 8) : shr .i64 n (8 * (i : Int)) = n / 256 ^ i := by
  refine shr_pow n _ (8 * i) _ (by omega) (by omega) ?_
  rw [Int.pow_mul]; rfl
def width (w : Int) : Nat := (mx 0 (mn w 8)).toNat
theorem width_le (w : Int) : width w ≤ 8 := by unfold width mx mn; split <;> split <;> omega
theorem put_loop (a : Int) (m : Nat) (hm : m ≤ 8) (d : Nat) : ∀ i : Nat, i + d = m →
    Ev (fun k => octet_Put.l0 k a (lei (mx a 0) i ++ List.replicate d 0) (m : Int) (i : Int)) (mkS (le (mx a 0) m)) := by
  induction d with
  | zero =>
    intro i hi
    obtain rfl : i = m := by omega
    refine Ev.step (f := fun _ => some (strOfNums (lei (mx a 0) i ++ List.replicate 0 0))) (fun k => by rw [octet_Put.l0, if_neg (by omega)]) ?_
    rw [List.replicate_zero, List.append_nil, nums_mkS]
    exact Ev.now _
  | succ d ih =>
    intro i hi
    refine Ev.step ?_ (ih (i + 1) (by omega))
    intro k
    have hw : wrap64 (8 * (i : Int)) = 8 * (i : Int) := by unfold wrap64; omega
    have hl : (lei (mx a 0) i ++ List.replicate (d + 1) 0).length = m := by rw [List.length_append, lei_length, List.length_replicate]; omega
    rw [octet_Put.l0, if_pos (by omega), hw, if_pos (by omega), if_pos (by omega), hl, if_pos (by omega), shr_bytes _ _ (by omega), i64_nat i (by omega)]
    congr 1
    have e : ((i : Int)).toNat = i := by omega
    rw [e, List.set_append_right _ _ (by rw [lei_length]; omega), lei_length, Nat.sub_self, List.replicate_succ, List.set_cons_zero, lei_snoc, List.append_assoc]
    rfl
theorem put_is (a w : Int) : Ev (fun k => octet_Put.f k a w) (mkS (le (mx a 0) (width w))) := by
  have h := put_loop a (width w) (width_le w) (width w) 0 (by omega)
  have hw := width_le w
  have h0 : 0 ≤ mx 0 (mn w 8) := by unfold mx mn; split <;> split <;> omega
  refine Ev.congr (fun k => ?_) h
  unfold octet_Put.f
  rw [if_pos h0, if_pos (by show width w ≤ _; omega)]
  simp only [Option.bind_some]
  rw [List.length_replicate]
  rfl
def getR (s : List UInt8) (at_ w : Int) : Int × Int × Int :=
  if w < 1 ∨ w > 7 ∨ at_ < 0 ∨ at_ > s.length then (0, 0, 1)
  else if w > s.length - at_ then (0, 0, 8)
  else (num ((s.drop at_.toNat).take w.toNat), at_ + w, 0)
theorem num_drop (l : List UInt8) (i : Nat) (h : i < l.length) : num (l.drop i) = byteAt l i + 256 * num (l.drop (i + 1)) := by
  rw [List.drop_eq_getElem_cons h, num_cons]
  unfold byteAt
  rw [List.getElem?_eq_getElem h]; rfl
theorem num_drop_range (l : List UInt8) (i : Nat) (h7 : l.length ≤ 7) (h : 1 ≤ i) : 0 ≤ num (l.drop i) ∧ num (l.drop i) < 281474976710656 := by
  have h1 := num_range (l.drop i)
  have h2 : ((256 ^ (l.drop i).length : Nat) : Int) ≤ ((256 ^ 6 : Nat) : Int) := Int.ofNat_le.2 (Nat.pow_le_pow_right (by decide) (by rw [List.length_drop]; omega))
  rw [Int.natCast_pow] at h2
  have h3 : ((256 ^ 6 : Nat) : Int) = 281474976710656 := by decide
  have h4 : ((256 : Nat) : Int) = 256 := rfl
  rw [h4] at h2
  omega
theorem byteAt_slice (s : List UInt8) (a w i : Nat) (h : i < w) : byteAt s (a + i) = byteAt ((s.drop a).take w) i := by
  unfold byteAt
  rw [List.getElem?_take, if_pos h, List.getElem?_drop]
theorem get_loop (s : ByteArray) (a w : Nat) (hw : w ≤ 7) (ha : a + w ≤ s.size) (hs : s.size ≤ 9223372036854775807) (d : Nat) : d ≤ w →
    Ev (fun k => octet_Get.l0 k s (a : Int) (w : Int) (num (((((bs s).drop a).take w)).drop d)) ((d : Int) - 1)) (num (((bs s).drop a).take w), (a : Int) + w, 0) := by
  have hlen : (((bs s).drop a).take w).length = w := by rw [List.length_take, List.length_drop, bs_length]; omega
  induction d with
  | zero =>
    intro _
    refine Ev.step (f := fun _ => some (num ((((bs s).drop a).take w).drop 0), wrap64 ((a : Int) + w), 0)) (fun k => by rw [octet_Get.l0, if_neg (by omega)]) ?_
    rw [List.drop_zero, show wrap64 ((a : Int) + w) = (a : Int) + w by unfold wrap64; omega]
    exact Ev.now _
  | succ d ih =>
    intro hd
    refine Ev.step ?_ (ih (by omega))
    intro k
    have e1 : ((d + 1 : Nat) : Int) - 1 = (d : Int) := by omega
    have e2 : wrap64 ((a : Int) + (d : Int)) = (a : Int) + d := by unfold wrap64; omega
    have hr := num_drop_range (((bs s).drop a).take w) (d + 1) (by omega) (by omega)
    have hb := bt_rng s ((a : Int) + d)
    rw [e1, octet_Get.l0, if_pos (by omega), e2, if_pos (by omega), if_pos (by omega)]
    have e3 : wrap64 (num (((bs s).drop a |>.take w).drop (d + 1)) * 256) = num (((bs s).drop a |>.take w).drop (d + 1)) * 256 := by unfold wrap64; omega
    have e4 : wrap64 (bt s ((a : Int) + d)) = bt s ((a : Int) + d) := by unfold wrap64; omega
    rw [e3, e4, or_parts 8 (by omega) (by omega) (by omega) (by omega) (by omega) (by omega), show wrap64 ((d : Int) - 1) = (d : Int) - 1 by unfold wrap64; omega]
    congr 1
    rw [num_drop _ d (by omega), bt_bs, show ((a : Int) + d).toNat = a + d by omega, byteAt_slice (bs s) a w d (by omega)]
    omega
theorem get_is (s : ByteArray) (a w : Int) (hs : s.size ≤ 9223372036854775807) : Ev (fun k => octet_Get.f k s a w) (getR (bs s) a w) := by
  have bad : Ev (fun k => octet_Get.j0 k s a w true) (0, 0, 1) := Ev.step (f := fun _ => some (0, 0, 1)) (fun k => by rw [octet_Get.j0, if_pos rfl]) (Ev.now _)
  unfold getR
  rw [bs_length]
  by_cases h1 : w < 1
  · rw [if_pos (by omega)]; refine Ev.congr (fun k => ?_) bad; unfold octet_Get.f; rw [if_pos h1]
  by_cases h2 : w > 7
  · rw [if_pos (by omega)]; refine Ev.congr (fun k => ?_) bad; unfold octet_Get.f; rw [if_neg h1, if_pos h2]
  by_cases h3 : a < 0
  · rw [if_pos (by omega)]; refine Ev.congr (fun k => ?_) bad; unfold octet_Get.f; rw [if_neg h1, if_neg h2, if_pos h3]
  by_cases h4 : a > (s.size : Int)
  · rw [if_pos (by omega)]; refine Ev.congr (fun k => ?_) bad; unfold octet_Get.f; rw [if_neg h1, if_neg h2, if_neg h3, decide_eq_true h4]
  rw [if_neg (by omega)]
  have hw : wrap64 ((s.size : Int) - a) = (s.size : Int) - a := by unfold wrap64; omega
  by_cases h5 : w > (s.size : Int) - a
  · rw [if_pos h5]
    refine Ev.congr (f := fun k => octet_Get.j0 k s a w false) (fun k => by unfold octet_Get.f; rw [if_neg h1, if_neg h2, if_neg h3, decide_eq_false h4]) ?_
    exact Ev.step (f := fun _ => some (0, 0, 8)) (fun k => by rw [octet_Get.j0, if_neg (by decide), hw, if_pos h5]) (Ev.now _)
  · rw [if_neg h5]
    obtain ⟨a, rfl⟩ := Int.eq_ofNat_of_zero_le (show 0 ≤ a by omega)
    obtain ⟨w, rfl⟩ := Int.eq_ofNat_of_zero_le (show 0 ≤ w by omega)
    refine Ev.congr (f := fun k => octet_Get.j0 k s a w false) (fun k => by unfold octet_Get.f; rw [if_neg h1, if_neg h2, if_neg h3, decide_eq_false h4]) ?_
    have hl := get_loop s a w (by omega) (by omega) hs w (Nat.le_refl _)
    have hlen : (((bs s).drop a).take w).length = w := by rw [List.length_take, List.length_drop, bs_length]; omega
    rw [List.drop_of_length_le (by omega)] at hl
    refine Ev.step ?_ hl
    intro k
    rw [octet_Get.j0, if_neg (by decide), hw, if_neg h5, show wrap64 ((w : Int) - 1) = (w : Int) - 1 by unfold wrap64; omega]
    rfl
theorem u32_mul (c : Nat) (h : c < 4294967296) : ((Go.bits .and .u32 (c : Int) 1) * 3988292384) % 4294967296 = if c % 2 = 1 then ((3988292384 : Nat) : Int) else ((0 : Nat) : Int) := by
  rw [show (1 : Int) = ((1 : Nat) : Int) from rfl, u32_and_nat c 1 h (by decide), Nat.and_one_is_mod]
  rcases Nat.mod_two_eq_zero_or_one c with e | e <;> rw [e] <;> decide
theorem sum_l2 (c : Nat) (hc : c < 4294967296) (s : ByteArray) (l : List ByteArray) (n i z j : Int) (d : Nat) (r : Int) : ∀ e : Nat, e + d = 8 →
    Ev (fun k => octet_sum.l1 k (steps d c : Nat) s l n i z (wrap64 (j + 1))) r → Ev (fun k => octet_sum.l2 k (c : Int) s l n i z j (e : Int)) r := by
  induction d generalizing c with
  | zero =>
    intro e he h
    refine Ev.step ?_ h
    intro k
    rw [octet_sum.l2, if_neg (by omega)]
    rfl
  | succ d ih =>
    intro e he h
    refine Ev.step ?_ (ih (step c) (step_lt c hc) (e + 1) (by omega) h)
    intro k
    rw [octet_sum.l2, if_pos (by omega), u32_mul c hc, i64_nat e (by omega)]
    congr 1
    have e2 : (c : Int) / 2 = ((c / 2 : Nat) : Int) := by omega
    unfold step
    rw [e2]
    split
    · rw [u32_xor_nat _ _ (by omega) (by decide)]
    · rw [u32_xor_nat _ _ (by omega) (by decide), Nat.xor_zero]
theorem crcs_take (c : Nat) (s : List UInt8) (i : Nat) (h : i < s.length) : crcs c (s.take (i + 1)) = crcB (crcs c (s.take i)) s[i] := by
  rw [List.take_succ_eq_append_getElem h, crcs_append]; rfl
theorem sum_l1 (c0 : Nat) (hc : c0 < 4294967296) (s : ByteArray) (hs : s.size ≤ 9223372036854775806) (l : List ByteArray) (n i : Int) (r : Int)
    (h : Ev (fun k => octet_sum.l0 k (crcs c0 (bs s) : Nat) l n (wrap64 (i + 1))) r) (d : Nat) : ∀ j : Nat, j + d = s.size →
    Ev (fun k => octet_sum.l1 k (crcs c0 ((bs s).take j) : Nat) s l n i (s.size : Int) (j : Int)) r := by
  induction d with
  | zero =>
    intro j hj
    refine Ev.step ?_ h
    intro k
    rw [octet_sum.l1, if_neg (by omega), List.take_of_length_le (by rw [bs_length]; omega)]
  | succ d ih =>
    intro j hj
    have hlt := crcs_lt c0 ((bs s).take j) hc
    have hb : j < (bs s).length := by rw [bs_length]; omega
    have h8 := UInt8.toNat_lt (bs s)[j]
    have hx : crcs c0 ((bs s).take j) ^^^ ((bs s)[j]).toNat < 4294967296 := Nat.xor_lt_two_pow (n := 32) hlt (by omega)
    have hn := ih (j + 1) (by omega)
    rw [crcs_take c0 (bs s) j hb] at hn
    have h2 := sum_l2 (crcs c0 ((bs s).take j) ^^^ ((bs s)[j]).toNat) hx s l n i (s.size : Int) (j : Int) 8 r 0 (by omega) (by rw [i64_nat j (by omega)]; exact hn)
    refine Ev.step ?_ h2
    intro k
    rw [octet_sum.l1, if_pos (by omega), if_pos (by omega), if_pos (by omega)]
    congr 1
    have e : bt s (j : Int) % 4294967296 = (((bs s)[j]).toNat : Int) := by
      rw [bt_bs, Int.toNat_natCast]; unfold byteAt; rw [List.getElem?_eq_getElem hb, Option.getD_some]; omega
    rw [e, u32_xor_nat _ _ hlt (by omega)]
def cat (l : List ByteArray) : List UInt8 := l.flatMap bs
theorem rdOf_get (l : List ByteArray) (i : Nat) (h : i < l.length) : rdOf ByteArray.empty l (i : Int) = l[i] := by
  unfold rdOf; rw [Int.toNat_natCast, List.getD_eq_getElem?_getD, List.getElem?_eq_getElem h]; rfl
theorem cat_take (l : List ByteArray) (i : Nat) (h : i < l.length) : cat (l.take (i + 1)) = cat (l.take i) ++ bs l[i] := by
  unfold cat; rw [List.take_succ_eq_append_getElem h, List.flatMap_append]; simp
theorem sum_l0 (l : List ByteArray) (hl : l.length ≤ 9223372036854775806) (hs : ∀ s ∈ l, s.size ≤ 9223372036854775806) (d : Nat) : ∀ i : Nat, i + d = l.length →
    Ev (fun k => octet_sum.l0 k (crcs 4294967295 (cat (l.take i)) : Nat) l (l.length : Int) (i : Int)) (crc (cat l) : Nat) := by
  induction d with
  | zero =>
    intro i hi
    have hlt := crcs_lt 4294967295 (cat l) (by decide)
    refine Ev.step (f := fun _ => some ((crc (cat l) : Nat) : Int)) (fun k => ?_) (Ev.now _)
    rw [octet_sum.l0, if_neg (by omega), List.take_of_length_le (by omega), show (4294967295 : Int) = ((4294967295 : Nat) : Int) from rfl, u32_xor_nat _ _ (by decide) hlt, Nat.xor_comm]
    have := crc_lt (cat l)
    unfold crc at *
    congr 1; unfold wrap64; omega
  | succ d ih =>
    intro i hi
    have hlt := crcs_lt 4294967295 (cat (l.take i)) (by decide)
    have hn := ih (i + 1) (by omega)
    rw [cat_take l i (by omega), crcs_append] at hn
    have h1 := sum_l1 (crcs 4294967295 (cat (l.take i))) hlt l[i] (hs _ (List.getElem_mem _)) l (l.length : Int) (i : Int) _ (by rw [i64_nat i (by omega)]; exact hn) l[i].size 0 (by omega)
    refine Ev.step ?_ h1
    intro k
    rw [octet_sum.l0, if_pos (by omega), if_pos (by omega), if_pos (by omega), rdOf_get l i (by omega)]
    rfl
theorem sum_is (l : List ByteArray) (hl : l.length ≤ 9223372036854775806) (hs : ∀ s ∈ l, s.size ≤ 9223372036854775806) : Ev (fun k => octet_sum.f k l) (crc (cat l) : Nat) :=
  sum_l0 l hl hs l.length 0 (by omega)
theorem cat_one (s : ByteArray) : cat [s] = bs s := by simp [cat]
theorem crc_is (s : ByteArray) (hs : s.size ≤ 9223372036854775806) : Ev (fun k => octet_sum.f k [s]) (crc (bs s) : Nat) := by
  have h := sum_is [s] (by simp) (by intro x hx; rw [List.mem_singleton.1 hx]; exact hs)
  rwa [cat_one] at h
theorem bytesOf_ints (s : ByteArray) : bytesOf s = ints (bs s) := rfl
theorem joined_loop (l : List ByteArray) (hl : l.length ≤ 9223372036854775806) (hs : (cat l).length < 140737488355328) (d : Nat) : ∀ i : Nat, i + d = l.length →
    Ev (fun k => octet_joined.l0 k (ints (cat (l.take i))) l (l.length : Int) (i : Int)) (mkS (cat l)) := by
  induction d with
  | zero =>
    intro i hi
    refine Ev.step (f := fun _ => some (mkS (cat l))) (fun k => ?_) (Ev.now _)
    rw [octet_joined.l0, if_neg (by omega), List.take_of_length_le (by omega), nums_mkS, byt_ints]
  | succ d ih =>
    intro i hi
    have hn := ih (i + 1) (by omega)
    have hlen : (cat (l.take i)).length + l[i].size ≤ (cat l).length := by
      have h1 : cat l = cat (l.take (i + 1)) ++ cat (l.drop (i + 1)) := by unfold cat; rw [← List.flatMap_append, List.take_append_drop]
      rw [h1, cat_take l i (by omega), List.length_append, List.length_append, bs_length]; omega
    rw [cat_take l i (by omega), ints_append] at hn
    refine Ev.step ?_ hn
    intro k
    rw [octet_joined.l0, if_pos (by omega), if_pos (by omega), if_pos (by omega), rdOf_get l i (by omega), if_pos (by rw [ints_length]; omega), i64_nat i (by omega), bytesOf_ints]
theorem joined_is (l : List ByteArray) (hl : l.length ≤ 9223372036854775806) (hs : (cat l).length < 140737488355328) : Ev (fun k => octet_joined.f k l) (mkS (cat l)) :=
  joined_loop l hl hs l.length 0 (by omega)
theorem cat_two (a b : ByteArray) : cat [a, b] = bs a ++ bs b := by simp [cat]
theorem joined_two (a b : ByteArray) (hs : a.size + b.size < 140737488355328) : Ev (fun k => octet_joined.f k [a, b]) (mkS (bs a ++ bs b)) := by
  have h := joined_is [a, b] (by simp) (by rw [cat_two, List.length_append, bs_length, bs_length]; exact hs)
  rwa [cat_two] at h
theorem mx_nonneg (n : Nat) : mx (n : Int) 0 = n := by unfold mx; split <;> omega
theorem seal_is (s : ByteArray) (hs : s.size < 140737488355000) : Ev (fun k => octet_Seal.f k s) (mkS (seal_ (bs s))) := by
  unfold octet_Seal.f
  refine Ev.bind (crc_is s (by omega)) (Ev.bind (put_is _ 4) (Ev.bind (joined_two s _ ?_) ?_))
  · rw [mkS_size, le_length]; have := width_le 4; omega
  · rw [bs_mkS, mx_nonneg]
    exact Ev.now _
def openR (l : List UInt8) : List UInt8 × Int :=
  if l.length < 4 then ([], 8) else if l.drop (l.length - 4) = le (crc (l.take (l.length - 4))) 4 then (l.take (l.length - 4), 0) else ([], 10)
theorem openR_opened (l : List UInt8) (h : opened l) : openR l = (l.take (l.length - 4), 0) := by
  unfold openR; rw [if_neg (by have := h.1; omega), if_pos h.2]
theorem openR_seal (l : List UInt8) : openR (seal_ l) = (l, 0) := by
  rw [openR_opened _ (opened_seal l), seal_length]; unfold seal_
  rw [show l.length + 4 - 4 = l.length by omega, List.take_left]
theorem open_is (s : ByteArray) (hs : s.size < 140737488355000) : Ev (fun k => octet_Open.f k s) (mkS (openR (bs s)).1, (openR (bs s)).2) := by
  have hw : wrap64 ((s.size : Int) - 4) = (s.size : Int) - 4 := by unfold wrap64; omega
  unfold octet_Open.f openR
  simp only [hw, bs_length]
  by_cases h : s.size < 4
  · rw [if_pos h]
    refine Ev.congr (fun k => if_pos (by omega)) (Ev.now _)
  · rw [if_neg h]
    have e : ((s.size : Int) - 4).toNat = s.size - 4 := by omega
    rw [e]
    have hx : s.extract 0 (s.size - 4) = mkS ((bs s).take (s.size - 4)) := by rw [extract_mkS, List.drop_zero]
    have hy : s.extract (s.size - 4) s.size = mkS ((bs s).drop (s.size - 4)) := by rw [extract_mkS, List.take_of_length_le (by rw [bs_length]; omega)]
    rw [hx, hy]
    have h1 := crc_is (mkS ((bs s).take (s.size - 4))) (by rw [mkS_size, List.length_take]; omega)
    rw [bs_mkS] at h1
    have h2 := put_is ((crc ((bs s).take (s.size - 4)) : Nat) : Int) 4
    rw [mx_nonneg] at h2
    refine Ev.congr (fun k => by rw [if_neg (by omega), if_pos (by omega), if_pos (by omega)]) ?_
    refine Ev.bind h1 (Ev.bind h2 ?_)
    rw [toList_bs, toList_bs, bs_mkS, bs_mkS]
    by_cases h3 : (bs s).drop (s.size - 4) = le (crc ((bs s).take (s.size - 4)) : Nat) 4
    · rw [if_pos h3]
      exact Ev.congr (fun k => if_pos h3) (Ev.now _)
    · rw [if_neg h3]
      exact Ev.congr (fun k => if_neg h3) (Ev.now _)
end Go.Proofs.Ytenlmckahaniiaa.Oct
end
section
namespace Go.Proofs.Ytenlmckahaniiaa.K
open Go.RowKit Go.Proofs.YtenlmckahaniiaaW.PrintWords Go.Proofs.YtenlmckahaniiaaW.PrintLast
set_option linter.unusedVariables false
set_option linter.unusedSimpArgs false
def octet_GetText.f (k : Nat) (a0 : ByteArray) (a1 : Int) : Option (ByteArray × Int × Int) := (octet_Get.f k a0 a1 2).bind fun bt181 => (if bt181.2.2 = 0 then (if bt181.1 > (wrap64 ((a0.size : Int) - bt181.2.1)) then (some ((⟨#[]⟩ : ByteArray), 0, 8)) else (if 0 ≤ bt181.2.1 then (if bt181.2.1 ≤ (a0.size : Int) then (if 0 ≤ bt181.1 then (if bt181.1 ≤ ((a0.extract (bt181.2.1 : Int).toNat a0.size).size : Int) then (some ((a0.extract (bt181.2.1 : Int).toNat a0.size).extract 0 (bt181.1 : Int).toNat, wrap64 (bt181.2.1 + bt181.1), 0)) else (none)) else (none)) else (none)) else (none))) else (some ((⟨#[]⟩ : ByteArray), 0, bt181.2.2)))
theorem octet_GetText.mono : ∀ a0 a1 k, LeO (octet_GetText.f k a0 a1) (octet_GetText.f (k + 1) a0 a1) := by
 intro a0 a1 k
 unfold octet_GetText.f
 repeat' first
   | (with_reducible exact octet_Get.mono _ _ _ _)
   | (with_reducible exact LeO.refl _)
   | (with_reducible exact LeO.none _)
   | (with_reducible refine LeO.ite ?_ ?_)
   | (with_reducible refine LeO.bind ?_ (fun _ => ?_))
   | exact octet_Get.mono _ _ _ _
   | exact LeO.none _
   | refine LeO.ite ?_ ?_
   | refine LeO.bind ?_ (fun _ => ?_)
set_option maxHeartbeats 8000000 in
set_option maxRecDepth 100000 in
theorem octet_GetText.calls (k : Nat) (a0 : ByteArray) (a1 : Int) (r1 : ByteArray) (r2 : Int) (r3 : Int) (w : World) (h : octet_GetText.f k a0 a1 = some (r1, r2, r3)) :
  Calls Try.prog 96 #[.string a0, .int .i64 a1] w fun e w' => e = .returned (.tuple #[.string r1, .int .i64 r2, .int .i64 r3]) ∧ Drawn0 w w' := by
 have H : ((octet_Get.f k a0 a1 2).bind fun bt181 => (if bt181.2.2 = 0 then (if bt181.1 > (wrap64 ((a0.size : Int) - bt181.2.1)) then (some ((⟨#[]⟩ : ByteArray), 0, 8)) else (if 0 ≤ bt181.2.1 then (if bt181.2.1 ≤ (a0.size : Int) then (if 0 ≤ bt181.1 then (if bt181.1 ≤ ((a0.extract (bt181.2.1 : Int).toNat a0.size).size : Int) then (some ((a0.extract (bt181.2.1 : Int).toNat a0.size).extract 0 (bt181.1 : Int).toNat, wrap64 (bt181.2.1 + bt181.1), 0)) else (none)) else (none)) else (none)) else (none))) else (some ((⟨#[]⟩ : ByteArray), 0, bt181.2.2)))) = some (r1, r2, r3) := h
 clear h
 replace H := Option.bind_eq_some_iff.mp H
 obtain ⟨⟨t181, t182, t183⟩, A30, H⟩ := H
 (try dsimp only at H)
 have A3 := Aside0.mk A30
 clear A30
 by_cases c4 : t183 = 0
 ·rw [if_pos c4] at H
  have c4b0 : (t183 == 0) = true := beq_iff_eq.mpr c4
  have c4b1 : (t183 != 0) = false := bne_eq_false_iff_eq.mpr c4
  clear c4
  by_cases c5 : t181 > (wrap64 ((a0.size : Int) - t182))
  ·rw [if_pos c5] at H
   have c5b0 : decide ((wrap64 ((a0.size : Int) - t182)) < t181) = true := decide_eq_true c5
   clear c5
   simp only [Option.some.injEq, Prod.mk.injEq] at H
   obtain ⟨rfl, rfl, rfl⟩ := H
   go_enter Try.func96, Try.ntmps96
   go_wp2_with (first | ((with_reducible refine gate_callee (f := 80) rfl ?_); refine goesL_ (some 13) rfl rfl Try.func80 (by kernel_rfl) rfl #[.string a0, .int .i64 a1, .int .i64 2] rfl ar_ ?_; (with_reducible refine (octet_Get.calls k a0 a1 2 t181 t182 t183 _ A3.out).mono ?_); rintro e w' ⟨rfl, ⟨nd, rfl⟩⟩; refine ⟨_, rfl, ?_⟩))
   go_ret3
   exact ⟨by first | rfl | (simp; done) | (simp [isEmpty_ne]; done) | (simp [*]; done), by repeat (first | exact Drawn0.refl _ | apply Drawn0.step)⟩
  ·rw [if_neg c5] at H
   have c5b0 : decide ((wrap64 ((a0.size : Int) - t182)) < t181) = false := decide_eq_false c5
   clear c5
   by_cases c6 : 0 ≤ t182
   ·rw [if_pos c6] at H
    have c6b0 := eq_true c6
    have c6b1 : decide (0 ≤ t182) = true := decide_eq_true c6
    clear c6
    by_cases c7 : t182 ≤ (a0.size : Int)
    ·rw [if_pos c7] at H
     have c7b0 := eq_true c7
     have c7b1 : decide (t182 ≤ (a0.size : Int)) = true := decide_eq_true c7
     clear c7
     by_cases c8 : 0 ≤ t181
     ·rw [if_pos c8] at H
      have c8b0 := eq_true c8
      have c8b1 : decide (0 ≤ t181) = true := decide_eq_true c8
      clear c8
      by_cases c9 : t181 ≤ ((a0.extract (t182 : Int).toNat a0.size).size : Int)
      ·rw [if_pos c9] at H
       have c9b0 := eq_true c9
       have c9b1 : decide (t181 ≤ ((a0.extract (t182 : Int).toNat a0.size).size : Int)) = true := decide_eq_true c9
       (try (have c9b3 := c9b1; simp only [ByteArray.size_extract, Nat.min_self] at c9b3))
       (try (have c9b4 := eq_true (of_decide_eq_true c9b3)))
       clear c9
       simp only [Option.some.injEq, Prod.mk.injEq] at H
       obtain ⟨rfl, rfl, rfl⟩ := H
       go_enter Try.func96, Try.ntmps96
       go_wp2_with (first | ((with_reducible refine gate_callee (f := 80) rfl ?_); refine goesL_ (some 13) rfl rfl Try.func80 (by kernel_rfl) rfl #[.string a0, .int .i64 a1, .int .i64 2] rfl ar_ ?_; (with_reducible refine (octet_Get.calls k a0 a1 2 t181 t182 t183 _ A3.out).mono ?_); rintro e w' ⟨rfl, ⟨nd, rfl⟩⟩; refine ⟨_, rfl, ?_⟩))
       go_ret3
       exact ⟨by first | rfl | (simp; done) | (simp [isEmpty_ne]; done) | (simp [*]; done), by repeat (first | exact Drawn0.refl _ | apply Drawn0.step)⟩
      ·rw [if_neg c9] at H
       exact absurd H (by simp)
     ·rw [if_neg c8] at H
      exact absurd H (by simp)
    ·rw [if_neg c7] at H
     exact absurd H (by simp)
   ·rw [if_neg c6] at H
    exact absurd H (by simp)
 ·rw [if_neg c4] at H
  have c4b0 : (t183 == 0) = false := beq_eq_false_iff_ne.mpr c4
  have c4b1 : (t183 != 0) = true := bne_iff_ne.mpr c4
  simp only [Option.some.injEq, Prod.mk.injEq] at H
  obtain ⟨rfl, rfl, rfl⟩ := H
  go_enter Try.func96, Try.ntmps96
  go_wp2_with (first | ((with_reducible refine gate_callee (f := 80) rfl ?_); refine goesL_ (some 13) rfl rfl Try.func80 (by kernel_rfl) rfl #[.string a0, .int .i64 a1, .int .i64 2] rfl ar_ ?_; (with_reducible refine (octet_Get.calls k a0 a1 2 t181 t182 t183 _ A3.out).mono ?_); rintro e w' ⟨rfl, ⟨nd, rfl⟩⟩; refine ⟨_, rfl, ?_⟩))
  go_ret3
  exact ⟨by first | rfl | (simp; done) | (simp [isEmpty_ne]; done) | (simp [*]; done), by repeat (first | exact Drawn0.refl _ | apply Drawn0.step)⟩
def IsS74 (w0 W : World) (g : Nat) (f0 : ByteArray) (f1 : Int) (f2 : Bool) : Prop := W.heap[g]? = some (.cells #[.string f0, .int .i64 f1, .bool f2] 74 (0, 0)) ∧ w0.heap.size ≤ g
theorem IsS74.grown {w0 W : World} {g : Nat} {f0 : ByteArray} {f1 : Int} {f2 : Bool} {W1 : World} {row : Option Nat} (h : IsS74 w0 W g f0 f1 f2) (hw : W.grownBy W1 row) (hne : some g ≠ row) : IsS74 w0 W1 g f0 f1 f2 := by
 obtain ⟨hb, hg⟩ := h
 exact ⟨blk_grown hb hw hne, hg⟩
theorem IsS74.kept {w0 W : World} {g : Nat} {f0 : ByteArray} {f1 : Int} {f2 : Bool} {W1 : World} {S : Nat → Prop} (h : IsS74 w0 W g f0 f1 f2) (hk : Kept W W1 S) (hne : ¬ S g) : IsS74 w0 W1 g f0 f1 f2 := by
 obtain ⟨hb, hg⟩ := h
 exact ⟨blk_kept hb hk hne, hg⟩
theorem IsS74.below {w0 W : World} {g : Nat} {f0 : ByteArray} {f1 : Int} {f2 : Bool} {W1 : World} (h : IsS74 w0 W g f0 f1 f2) (hw : Below W.heap.size W W1) : IsS74 w0 W1 g f0 f1 f2 := h.grown (grown_of_below hw none) (by simp)
theorem IsS74.alloc {w0 W : World} {g : Nat} {f0 : ByteArray} {f1 : Int} {f2 : Bool} (h : IsS74 w0 W g f0 f1 f2) (o : Obj) : IsS74 w0 (W.alloc o) g f0 f1 f2 := h.below (below_alloc (Below.refl _ _) o)
theorem IsS74.drewN {w0 W : World} {g : Nat} {f0 : ByteArray} {f1 : Int} {f2 : Bool} (h : IsS74 w0 W g f0 f1 f2) (m : Nat) : IsS74 w0 (W.drewN m) g f0 f1 f2 := h
theorem IsS74.drew {w0 W : World} {g : Nat} {f0 : ByteArray} {f1 : Int} {f2 : Bool} (h : IsS74 w0 W g f0 f1 f2) : IsS74 w0 W.drew g f0 f1 f2 := h
theorem IsS74.at_ {w0 W : World} {g : Nat} {f0 : ByteArray} {f1 : Int} {f2 : Bool} {w' : World} {m : Nat} (hq : W.drewN m = w') (h : IsS74 w0 W g f0 f1 f2) : IsS74 w0 w' g f0 f1 f2 := by subst hq; exact IsS74.drewN h m
theorem IsS74.apart {w0 W : World} {g : Nat} {f0 : ByteArray} {f1 : Int} {f2 : Bool} {α : Type} {d : Kd α} {e : Nat} {base : Nat} {ok : Nat → Prop} {v : Value} {xs : List α} (h : IsS74 w0 W g f0 f1 f2) (ho : d.R e W base ok v xs) (ht : ∀ q, q ∈ e :: d.E → q ≠ 74) : d.R e W base (fun k => ok k ∧ k ≠ g) v xs := by
 obtain ⟨hb, hg⟩ := h
 exact Kd.R_types ho hb ht
theorem IsS74.own_ne {w0 W : World} {g : Nat} {f0 : ByteArray} {f1 : Int} {f2 : Bool} {α : Type} {d : Kd α} {e : Nat} {base : Nat} {ok : Nat → Prop} {v : Value} {xs : List α} (h : IsS74 w0 W g f0 f1 f2) (ho : d.R e W base ok v xs) (ht : e ≠ 74) : some g ≠ v.ownBlock := by
 obtain ⟨hb, hg⟩ := h
 exact Kd.R_ne ho hb ht
theorem IsS74.lt {w0 W : World} {g : Nat} {f0 : ByteArray} {f1 : Int} {f2 : Bool} (h : IsS74 w0 W g f0 f1 f2) : g < W.heap.size := by
 obtain ⟨hb, hg⟩ := h
 exact blk_lt hb
theorem IsS74.ge {w0 W : World} {g : Nat} {f0 : ByteArray} {f1 : Int} {f2 : Bool} (h : IsS74 w0 W g f0 f1 f2) : w0.heap.size ≤ g := by
 obtain ⟨hb, hg⟩ := h
 exact hg
theorem IsS74.far {w0 W : World} {g : Nat} {f0 : ByteArray} {f1 : Int} {f2 : Bool} {p : Addr} (h : IsS74 w0 W g f0 f1 f2) (hne : g ≠ p.block) (u : Value) : IsS74 w0 (W.setCell p u) g f0 f1 f2 := by
 obtain ⟨hb, hg⟩ := h
 exact ⟨blk_far hb hne u, hg⟩
theorem cellS74_0 {W : World} {g : Nat} {f0 : ByteArray} {f1 : Int} {f2 : Bool} (h : W.heap[g]? = some (.cells #[.string f0, .int .i64 f1, .bool f2] 74 (0, 0))) : W.cell? ⟨g, 0, none⟩ = some (.string f0) := (blk_cell h 0).trans rfl
theorem IsS74.set_0 {w0 W : World} {g : Nat} {f0 : ByteArray} {f1 : Int} {f2 : Bool} (h : IsS74 w0 W g f0 f1 f2) (x : ByteArray) : IsS74 w0 (W.setCell ⟨g, 0, none⟩ (.string x)) g x f1 f2 := by
 obtain ⟨hb, hg⟩ := h
 exact ⟨by simpa using blk_set hb 0 (.string x), hg⟩
theorem cellS74_1 {W : World} {g : Nat} {f0 : ByteArray} {f1 : Int} {f2 : Bool} (h : W.heap[g]? = some (.cells #[.string f0, .int .i64 f1, .bool f2] 74 (0, 0))) : W.cell? ⟨g, 1, none⟩ = some (.int .i64 f1) := (blk_cell h 1).trans rfl
theorem IsS74.set_1 {w0 W : World} {g : Nat} {f0 : ByteArray} {f1 : Int} {f2 : Bool} (h : IsS74 w0 W g f0 f1 f2) (x : Int) : IsS74 w0 (W.setCell ⟨g, 1, none⟩ (.int .i64 x)) g f0 x f2 := by
 obtain ⟨hb, hg⟩ := h
 exact ⟨by simpa using blk_set hb 1 (.int .i64 x), hg⟩
theorem cellS74_2 {W : World} {g : Nat} {f0 : ByteArray} {f1 : Int} {f2 : Bool} (h : W.heap[g]? = some (.cells #[.string f0, .int .i64 f1, .bool f2] 74 (0, 0))) : W.cell? ⟨g, 2, none⟩ = some (.bool f2) := (blk_cell h 2).trans rfl
theorem IsS74.set_2 {w0 W : World} {g : Nat} {f0 : ByteArray} {f1 : Int} {f2 : Bool} (h : IsS74 w0 W g f0 f1 f2) (x : Bool) : IsS74 w0 (W.setCell ⟨g, 2, none⟩ (.bool x)) g f0 f1 x := by
 obtain ⟨hb, hg⟩ := h
 exact ⟨by simpa using blk_set hb 2 (.bool x), hg⟩
def object_reader_text.f (k : Nat) (s0_0 : ByteArray) (s0_1 : Int) (s0_2 : Bool) : Option (ByteArray × ByteArray × Int × Bool) := (octet_GetText.f k s0_0 s0_1).bind fun bt184 => (if bt184.2.2 = 0 then (some (bt184.1, s0_0, bt184.2.1, s0_2)) else (some ((⟨#[]⟩ : ByteArray), s0_0, s0_1, true)))
theorem object_reader_text.mono : ∀ a0 a1 a2 k, LeO (object_reader_text.f k a0 a1 a2) (object_reader_text.f (k + 1) a0 a1 a2) := by
 intro a0 a1 a2 k
 unfold object_reader_text.f
 repeat' first
   | (with_reducible exact octet_GetText.mono _ _ _)
   | (with_reducible exact LeO.refl _)
   | (with_reducible exact LeO.none _)
   | (with_reducible refine LeO.ite ?_ ?_)
   | (with_reducible refine LeO.bind ?_ (fun _ => ?_))
   | exact octet_GetText.mono _ _ _
   | exact LeO.none _
   | refine LeO.ite ?_ ?_
   | refine LeO.bind ?_ (fun _ => ?_)
set_option maxHeartbeats 8000000 in
set_option maxRecDepth 100000 in
theorem object_reader_text.calls (k : Nat) (g : Nat) (s0_0 : ByteArray) (s0_1 : Int) (s0_2 : Bool) (r1 : ByteArray) (r2 : ByteArray) (r3 : Int) (r4 : Bool) (w0 w : World) (hI : IsS74 w0 w g s0_0 s0_1 s0_2) (hB : Below w0.heap.size w0 w) (h : object_reader_text.f k s0_0 s0_1 s0_2 = some (r1, r2, r3, r4)) :
  Calls Try.prog 63 #[.pointer (some ⟨g, 0, none⟩)] w fun e w' => e = .returned (.string r1) ∧ IsS74 w0 w' g r2 r3 r4 ∧ Below w0.heap.size w0 w' ∧ KeepBut w w' g none := by
 have HI0 := Aside0.mk hI
 have HK := Aside0.mk (KeepBut.refl w g none)
 have HL := Aside0.mk hB.size
 clear hI
 have HW0 := Aside0.mk hB.size
 have HB := Aside0.mk hB
 clear hB
 have H : ((octet_GetText.f k s0_0 s0_1).bind fun bt184 => (if bt184.2.2 = 0 then (some (bt184.1, s0_0, bt184.2.1, s0_2)) else (some ((⟨#[]⟩ : ByteArray), s0_0, s0_1, true)))) = some (r1, r2, r3, r4) := h
 clear h
 replace H := Option.bind_eq_some_iff.mp H
 obtain ⟨⟨t184, t185, t186⟩, A20, H⟩ := H
 (try dsimp only at H)
 have A2 := Aside0.mk A20
 clear A20
 by_cases c3 : t186 = 0
 ·rw [if_pos c3] at H
  have c3b0 : (t186 == 0) = true := beq_iff_eq.mpr c3
  have c3b1 : (t186 != 0) = false := bne_eq_false_iff_eq.mpr c3
  clear c3
  simp only [Option.some.injEq, Prod.mk.injEq] at H
  obtain ⟨rfl, rfl, rfl, rfl⟩ := H
  obtain ⟨HGz4, hgz4⟩ := HI0.out
  have hcz4_0 := cellS74_0 HGz4
  have hcz4_1 := cellS74_1 HGz4
  have hcz4_2 := cellS74_2 HGz4
  have hfz4_0 := blk_frozen HGz4 0
  have hfz4_1 := blk_frozen HGz4 1
  have hfz4_2 := blk_frozen HGz4 2
  clear HGz4 hgz4
  go_enter Try.func63, Try.ntmps63
  go_wp2_with (first | (go_at_call 96; (with_reducible refine (octet_GetText.calls k s0_0 s0_1 t184 t185 t186 _ A2.out).mono ?_); rintro e w' ⟨rfl, ⟨nd, rfl⟩⟩; (try first | exact ⟨rfl, _, World.drewN_drewN _ _ _⟩ | exact ⟨rfl, _, Eq.trans (World.drewN_drewN _ _ _) (congrArg (World.drewN _) (Nat.add_assoc _ _ _))⟩)))
  repeat (go_quiet (first | (go_at_call 96; (with_reducible refine (octet_GetText.calls k s0_0 s0_1 t184 t185 t186 _ A2.out).mono ?_); rintro e w' ⟨rfl, ⟨nd, rfl⟩⟩; (try first | exact ⟨rfl, _, World.drewN_drewN _ _ _⟩ | exact ⟨rfl, _, Eq.trans (World.drewN_drewN _ _ _) (congrArg (World.drewN _) (Nat.add_assoc _ _ _))⟩))); try go_wp2_with (first | (go_at_call 96; (with_reducible refine (octet_GetText.calls k s0_0 s0_1 t184 t185 t186 _ A2.out).mono ?_); rintro e w' ⟨rfl, ⟨nd, rfl⟩⟩; (try first | exact ⟨rfl, _, World.drewN_drewN _ _ _⟩ | exact ⟨rfl, _, Eq.trans (World.drewN_drewN _ _ _) (congrArg (World.drewN _) (Nat.add_assoc _ _ _))⟩))))
  go_ret
  exact ⟨ew_, by repeat (first | (with_reducible first | exact HI0.out | apply IsS74.alloc | apply IsS74.drewN | apply IsS74.drew | apply IsS74.set_0 | apply IsS74.set_1 | apply IsS74.set_2) | exact HI0.out), by repeat (first | (with_reducible first | exact HB.out | apply below_alloc | apply pw_below_drewN | apply below_drew1 | refine below_set ?_ (IsS74.ge HI0.out)) | exact HB.out), by repeat (first | (with_reducible first | exact HK.out | apply KeepBut.set_ | apply keep_drewN | apply keep_drew | apply keep_alloc) | exact HK.out)⟩
 ·rw [if_neg c3] at H
  have c3b0 : (t186 == 0) = false := beq_eq_false_iff_ne.mpr c3
  have c3b1 : (t186 != 0) = true := bne_iff_ne.mpr c3
  simp only [Option.some.injEq, Prod.mk.injEq] at H
  obtain ⟨rfl, rfl, rfl, rfl⟩ := H
  obtain ⟨HGz5, hgz5⟩ := HI0.out
  have hcz5_0 := cellS74_0 HGz5
  have hcz5_1 := cellS74_1 HGz5
  have hcz5_2 := cellS74_2 HGz5
  have hfz5_0 := blk_frozen HGz5 0
  have hfz5_1 := blk_frozen HGz5 1
  have hfz5_2 := blk_frozen HGz5 2
  clear HGz5 hgz5
  go_enter Try.func63, Try.ntmps63
  go_wp2_with (first | (go_at_call 96; (with_reducible refine (octet_GetText.calls k s0_0 s0_1 t184 t185 t186 _ A2.out).mono ?_); rintro e w' ⟨rfl, ⟨nd, rfl⟩⟩; (try first | exact ⟨rfl, _, World.drewN_drewN _ _ _⟩ | exact ⟨rfl, _, Eq.trans (World.drewN_drewN _ _ _) (congrArg (World.drewN _) (Nat.add_assoc _ _ _))⟩)))
  repeat (go_quiet (first | (go_at_call 96; (with_reducible refine (octet_GetText.calls k s0_0 s0_1 t184 t185 t186 _ A2.out).mono ?_); rintro e w' ⟨rfl, ⟨nd, rfl⟩⟩; (try first | exact ⟨rfl, _, World.drewN_drewN _ _ _⟩ | exact ⟨rfl, _, Eq.trans (World.drewN_drewN _ _ _) (congrArg (World.drewN _) (Nat.add_assoc _ _ _))⟩))); try go_wp2_with (first | (go_at_call 96; (with_reducible refine (octet_GetText.calls k s0_0 s0_1 t184 t185 t186 _ A2.out).mono ?_); rintro e w' ⟨rfl, ⟨nd, rfl⟩⟩; (try first | exact ⟨rfl, _, World.drewN_drewN _ _ _⟩ | exact ⟨rfl, _, Eq.trans (World.drewN_drewN _ _ _) (congrArg (World.drewN _) (Nat.add_assoc _ _ _))⟩))))
  go_ret
  exact ⟨ew_, by repeat (first | (with_reducible first | exact HI0.out | apply IsS74.alloc | apply IsS74.drewN | apply IsS74.drew | apply IsS74.set_0 | apply IsS74.set_1 | apply IsS74.set_2) | exact HI0.out), by repeat (first | (with_reducible first | exact HB.out | apply below_alloc | apply pw_below_drewN | apply below_drew1 | refine below_set ?_ (IsS74.ge HI0.out)) | exact HB.out), by repeat (first | (with_reducible first | exact HK.out | apply KeepBut.set_ | apply keep_drewN | apply keep_drew | apply keep_alloc) | exact HK.out)⟩
def object_reader_num.f (k : Nat) (s0_0 : ByteArray) (s0_1 : Int) (s0_2 : Bool) (a1 : Int) : Option (Int × ByteArray × Int × Bool) := (octet_Get.f k s0_0 s0_1 a1).bind fun bt187 => (if bt187.2.2 = 0 then (some (bt187.1, s0_0, bt187.2.1, s0_2)) else (some (0, s0_0, s0_1, true)))
theorem object_reader_num.mono : ∀ a0 a1 a2 a3 k, LeO (object_reader_num.f k a0 a1 a2 a3) (object_reader_num.f (k + 1) a0 a1 a2 a3) := by
 intro a0 a1 a2 a3 k
 unfold object_reader_num.f
 repeat' first
   | (with_reducible exact octet_Get.mono _ _ _ _)
   | (with_reducible exact LeO.refl _)
   | (with_reducible exact LeO.none _)
   | (with_reducible refine LeO.ite ?_ ?_)
   | (with_reducible refine LeO.bind ?_ (fun _ => ?_))
   | exact octet_Get.mono _ _ _ _
   | exact LeO.none _
   | refine LeO.ite ?_ ?_
   | refine LeO.bind ?_ (fun _ => ?_)
set_option maxHeartbeats 8000000 in
set_option maxRecDepth 100000 in
theorem object_reader_num.calls (k : Nat) (g : Nat) (s0_0 : ByteArray) (s0_1 : Int) (s0_2 : Bool) (a1 : Int) (r1 : Int) (r2 : ByteArray) (r3 : Int) (r4 : Bool) (w0 w : World) (hI : IsS74 w0 w g s0_0 s0_1 s0_2) (hB : Below w0.heap.size w0 w) (h : object_reader_num.f k s0_0 s0_1 s0_2 a1 = some (r1, r2, r3, r4)) :
  Calls Try.prog 64 #[.pointer (some ⟨g, 0, none⟩), .int .i64 a1] w fun e w' => e = .returned (.int .i64 r1) ∧ IsS74 w0 w' g r2 r3 r4 ∧ Below w0.heap.size w0 w' ∧ KeepBut w w' g none := by
 have HI0 := Aside0.mk hI
 have HK := Aside0.mk (KeepBut.refl w g none)
 have HL := Aside0.mk hB.size
 clear hI
 have HW0 := Aside0.mk hB.size
 have HB := Aside0.mk hB
 clear hB
 have H : ((octet_Get.f k s0_0 s0_1 a1).bind fun bt187 => (if bt187.2.2 = 0 then (some (bt187.1, s0_0, bt187.2.1, s0_2)) else (some (0, s0_0, s0_1, true)))) = some (r1, r2, r3, r4) := h
 clear h
 replace H := Option.bind_eq_some_iff.mp H
 obtain ⟨⟨t187, t188, t189⟩, A30, H⟩ := H
 (try dsimp only at H)
 have A3 := Aside0.mk A30
 clear A30
 by_cases c4 : t189 = 0
 ·rw [if_pos c4] at H
  have c4b0 : (t189 == 0) = true := beq_iff_eq.mpr c4
  have c4b1 : (t189 != 0) = false := bne_eq_false_iff_eq.mpr c4
  clear c4
  simp only [Option.some.injEq, Prod.mk.injEq] at H
  obtain ⟨rfl, rfl, rfl, rfl⟩ := H
  obtain ⟨HGz5, hgz5⟩ := HI0.out
  have hcz5_0 := cellS74_0 HGz5
  have hcz5_1 := cellS74_1 HGz5
  have hcz5_2 := cellS74_2 HGz5
  have hfz5_0 := blk_frozen HGz5 0
  have hfz5_1 := blk_frozen HGz5 1
  have hfz5_2 := blk_frozen HGz5 2
  clear HGz5 hgz5
  go_enter Try.func64, Try.ntmps64
  go_wp2_with (first | (go_at_call 80; (with_reducible refine (octet_Get.calls k s0_0 s0_1 a1 t187 t188 t189 _ A3.out).mono ?_); rintro e w' ⟨rfl, ⟨nd, rfl⟩⟩; (try first | exact ⟨rfl, _, World.drewN_drewN _ _ _⟩ | exact ⟨rfl, _, Eq.trans (World.drewN_drewN _ _ _) (congrArg (World.drewN _) (Nat.add_assoc _ _ _))⟩)))
  repeat (go_quiet (first | (go_at_call 80; (with_reducible refine (octet_Get.calls k s0_0 s0_1 a1 t187 t188 t189 _ A3.out).mono ?_); rintro e w' ⟨rfl, ⟨nd, rfl⟩⟩; (try first | exact ⟨rfl, _, World.drewN_drewN _ _ _⟩ | exact ⟨rfl, _, Eq.trans (World.drewN_drewN _ _ _) (congrArg (World.drewN _) (Nat.add_assoc _ _ _))⟩))); try go_wp2_with (first | (go_at_call 80; (with_reducible refine (octet_Get.calls k s0_0 s0_1 a1 t187 t188 t189 _ A3.out).mono ?_); rintro e w' ⟨rfl, ⟨nd, rfl⟩⟩; (try first | exact ⟨rfl, _, World.drewN_drewN _ _ _⟩ | exact ⟨rfl, _, Eq.trans (World.drewN_drewN _ _ _) (congrArg (World.drewN _) (Nat.add_assoc _ _ _))⟩))))
  go_ret
  exact ⟨ew_, by repeat (first | (with_reducible first | exact HI0.out | apply IsS74.alloc | apply IsS74.drewN | apply IsS74.drew | apply IsS74.set_0 | apply IsS74.set_1 | apply IsS74.set_2) | exact HI0.out), by repeat (first | (with_reducible first | exact HB.out | apply below_alloc | apply pw_below_drewN | apply below_drew1 | refine below_set ?_ (IsS74.ge HI0.out)) | exact HB.out), by repeat (first | (with_reducible first | exact HK.out | apply KeepBut.set_ | apply keep_drewN | apply keep_drew | apply keep_alloc) | exact HK.out)⟩
 ·rw [if_neg c4] at H
  have c4b0 : (t189 == 0) = false := beq_eq_false_iff_ne.mpr c4
  have c4b1 : (t189 != 0) = true := bne_iff_ne.mpr c4
  simp only [Option.some.injEq, Prod.mk.injEq] at H
  obtain ⟨rfl, rfl, rfl, rfl⟩ := H
  obtain ⟨HGz6, hgz6⟩ := HI0.out
  have hcz6_0 := cellS74_0 HGz6
  have hcz6_1 := cellS74_1 HGz6
  have hcz6_2 := cellS74_2 HGz6
  have hfz6_0 := blk_frozen HGz6 0
  have hfz6_1 := blk_frozen HGz6 1
  have hfz6_2 := blk_frozen HGz6 2
  clear HGz6 hgz6
  go_enter Try.func64, Try.ntmps64
  go_wp2_with (first | (go_at_call 80; (with_reducible refine (octet_Get.calls k s0_0 s0_1 a1 t187 t188 t189 _ A3.out).mono ?_); rintro e w' ⟨rfl, ⟨nd, rfl⟩⟩; (try first | exact ⟨rfl, _, World.drewN_drewN _ _ _⟩ | exact ⟨rfl, _, Eq.trans (World.drewN_drewN _ _ _) (congrArg (World.drewN _) (Nat.add_assoc _ _ _))⟩)))
  repeat (go_quiet (first | (go_at_call 80; (with_reducible refine (octet_Get.calls k s0_0 s0_1 a1 t187 t188 t189 _ A3.out).mono ?_); rintro e w' ⟨rfl, ⟨nd, rfl⟩⟩; (try first | exact ⟨rfl, _, World.drewN_drewN _ _ _⟩ | exact ⟨rfl, _, Eq.trans (World.drewN_drewN _ _ _) (congrArg (World.drewN _) (Nat.add_assoc _ _ _))⟩))); try go_wp2_with (first | (go_at_call 80; (with_reducible refine (octet_Get.calls k s0_0 s0_1 a1 t187 t188 t189 _ A3.out).mono ?_); rintro e w' ⟨rfl, ⟨nd, rfl⟩⟩; (try first | exact ⟨rfl, _, World.drewN_drewN _ _ _⟩ | exact ⟨rfl, _, Eq.trans (World.drewN_drewN _ _ _) (congrArg (World.drewN _) (Nat.add_assoc _ _ _))⟩))))
  go_ret
  exact ⟨ew_, by repeat (first | (with_reducible first | exact HI0.out | apply IsS74.alloc | apply IsS74.drewN | apply IsS74.drew | apply IsS74.set_0 | apply IsS74.set_1 | apply IsS74.set_2) | exact HI0.out), by repeat (first | (with_reducible first | exact HB.out | apply below_alloc | apply pw_below_drewN | apply below_drew1 | refine below_set ?_ (IsS74.ge HI0.out)) | exact HB.out), by repeat (first | (with_reducible first | exact HK.out | apply KeepBut.set_ | apply keep_drewN | apply keep_drew | apply keep_alloc) | exact HK.out)⟩
end Go.Proofs.Ytenlmckahaniiaa.K
end
section
namespace Go.Proofs.Ytenlmckahaniiaa.K
open Go.RowKit Go.Proofs.YtenlmckahaniiaaW.PrintWords Go.Proofs.YtenlmckahaniiaaW.PrintLast
set_option linter.unusedVariables false
set_option linter.unusedSimpArgs false
def IsS79 (w0 W : World) (g : Nat) (f0 : ByteArray) (f1 : Int) (f2 : Bool) : Prop := W.heap[g]? = some (.cells #[.string f0, .int .i64 f1, .bool f2] 79 (0, 0)) ∧ w0.heap.size ≤ g
theorem IsS79.grown {w0 W : World} {g : Nat} {f0 : ByteArray} {f1 : Int} {f2 : Bool} {W1 : World} {row : Option Nat} (h : IsS79 w0 W g f0 f1 f2) (hw : W.grownBy W1 row) (hne : some g ≠ row) : IsS79 w0 W1 g f0 f1 f2 := by
 obtain ⟨hb, hg⟩ := h
 exact ⟨blk_grown hb hw hne, hg⟩
theorem IsS79.kept {w0 W : World} {g : Nat} {f0 : ByteArray} {f1 : Int} {f2 : Bool} {W1 : World} {S : Nat → Prop} (h : IsS79 w0 W g f0 f1 f2) (hk : Kept W W1 S) (hne : ¬ S g) : IsS79 w0 W1 g f0 f1 f2 := by
 obtain ⟨hb, hg⟩ := h
 exact ⟨blk_kept hb hk hne, hg⟩
theorem IsS79.below {w0 W : World} {g : Nat} {f0 : ByteArray} {f1 : Int} {f2 : Bool} {W1 : World} (h : IsS79 w0 W g f0 f1 f2) (hw : Below W.heap.size W W1) : IsS79 w0 W1 g f0 f1 f2 := h.grown (grown_of_below hw none) (by simp)
theorem IsS79.alloc {w0 W : World} {g : Nat} {f0 : ByteArray} {f1 : Int} {f2 : Bool} (h : IsS79 w0 W g f0 f1 f2) (o : Obj) : IsS79 w0 (W.alloc o) g f0 f1 f2 := h.below (below_alloc (Below.refl _ _) o)
theorem IsS79.drewN {w0 W : World} {g : Nat} {f0 : ByteArray} {f1 : Int} {f2 : Bool} (h : IsS79 w0 W g f0 f1 f2) (m : Nat) : IsS79 w0 (W.drewN m) g f0 f1 f2 := h
theorem IsS79.drew {w0 W : World} {g : Nat} {f0 : ByteArray} {f1 : Int} {f2 : Bool} (h : IsS79 w0 W g f0 f1 f2) : IsS79 w0 W.drew g f0 f1 f2 := h
theorem IsS79.at_ {w0 W : World} {g : Nat} {f0 : ByteArray} {f1 : Int} {f2 : Bool} {w' : World} {m : Nat} (hq : W.drewN m = w') (h : IsS79 w0 W g f0 f1 f2) : IsS79 w0 w' g f0 f1 f2 := by subst hq; exact IsS79.drewN h m
theorem IsS79.apart {w0 W : World} {g : Nat} {f0 : ByteArray} {f1 : Int} {f2 : Bool} {α : Type} {d : Kd α} {e : Nat} {base : Nat} {ok : Nat → Prop} {v : Value} {xs : List α} (h : IsS79 w0 W g f0 f1 f2) (ho : d.R e W base ok v xs) (ht : ∀ q, q ∈ e :: d.E → q ≠ 79) : d.R e W base (fun k => ok k ∧ k ≠ g) v xs := by
 obtain ⟨hb, hg⟩ := h
 exact Kd.R_types ho hb ht
theorem IsS79.lt {w0 W : World} {g : Nat} {f0 : ByteArray} {f1 : Int} {f2 : Bool} (h : IsS79 w0 W g f0 f1 f2) : g < W.heap.size := by
 obtain ⟨hb, hg⟩ := h
 exact blk_lt hb
end Go.Proofs.Ytenlmckahaniiaa.K
end
section
set_option linter.unusedVariables false
set_option linter.unusedSimpArgs false
namespace Go.Proofs.Ytenlmckahaniiaa.Oct
open Go Go.RowKit Go.Proofs.Ytenlmckahaniiaa.K Go.Proofs.YtenlmckahaniiaaW.PrintWords Go.Proofs.YtenlmckahaniiaaW.PrintMore Go.Proofs.Ytenlmckahaniiaa.MyBits Go.Proofs.Ytenlmckahaniiaa.MyStr
def putT (l : List UInt8) : List UInt8 := le ((l.take 65535).length : Nat) 2 ++ l.take 65535
theorem putT_small (l : List UInt8) (h : l.length ≤ 65535) : putT l = le (l.length : Nat) 2 ++ l := by unfold putT; rw [List.take_of_length_le h]
theorem putText_is (s : ByteArray) (hs : s.size < 140737488355000) : Ev (fun k => octet_PutText.f k s) (mkS (putT (bs s))) := by
  have hm : mn (s.size : Int) 65535 = (min s.size 65535 : Nat) := by unfold mn; split <;> omega
  unfold octet_PutText.f
  rw [hm]
  have hx : s.extract 0 ((min s.size 65535 : Nat) : Int).toNat = mkS ((bs s).take 65535) := by
    have hb := bs_length s
    rw [extract_mkS, List.drop_zero, Int.toNat_natCast, show (bs s).take (min s.size 65535) = (bs s).take 65535 from List.take_eq_take_iff.2 (by omega)]
  rw [hx]
  have hz : (mkS ((bs s).take 65535)).size ≤ 65535 := by rw [mkS_size, List.length_take]; omega
  refine Ev.congr (fun k => by rw [if_pos (by omega), if_pos (by omega)]) ?_
  refine Ev.bind (put_is _ 2) (Ev.bind (joined_two _ _ ?_) ?_)
  · rw [mkS_size, le_length]; have := width_le 2; omega
  · rw [bs_mkS, bs_mkS, mx_nonneg, mkS_size]
    exact Ev.now _
def getT (l : List UInt8) (a : Int) : List UInt8 × Int × Int :=
  if (getR l a 2).2.2 = 0 then
    if (getR l a 2).1 > l.length - (a + 2) then ([], 0, 8) else ((l.drop (a + 2).toNat).take (getR l a 2).1.toNat, a + 2 + (getR l a 2).1, 0)
  else ([], 0, (getR l a 2).2.2)
theorem getT_err {l : List UInt8} {a : Int} (h : ¬ (getR l a 2).2.2 = 0) : getT l a = ([], 0, (getR l a 2).2.2) := by unfold getT; rw [if_neg h]
theorem getT_short {l : List UInt8} {a : Int} (h : (getR l a 2).2.2 = 0) (hn : (getR l a 2).1 > l.length - (a + 2)) : getT l a = ([], 0, 8) := by unfold getT; rw [if_pos h, if_pos hn]
theorem getT_ok {l : List UInt8} {a : Int} (h : (getR l a 2).2.2 = 0) (hn : ¬ (getR l a 2).1 > l.length - (a + 2)) : getT l a = ((l.drop (a + 2).toNat).take (getR l a 2).1.toNat, a + 2 + (getR l a 2).1, 0) := by unfold getT; rw [if_pos h, if_neg hn]
theorem getR_ok (l : List UInt8) (a w : Int) (h : (getR l a w).2.2 = 0) : 1 ≤ w ∧ w ≤ 7 ∧ 0 ≤ a ∧ a + w ≤ l.length ∧ getR l a w = (num ((l.drop a.toNat).take w.toNat), a + w, 0) := by
  unfold getR at *
  split at h
  · cases h
  · rename_i h1
    rw [if_neg h1] at *
    split at h
    · cases h
    · rename_i h2
      rw [if_neg h2]
      exact ⟨by omega, by omega, by omega, by omega, rfl⟩
theorem getR2_range (l : List UInt8) (a : Int) (h : (getR l a 2).2.2 = 0) : 0 ≤ (getR l a 2).1 ∧ (getR l a 2).1 < 65536 := by
  obtain ⟨_, _, h3, h4, h5⟩ := getR_ok l a 2 h
  rw [h5]
  have := num_range ((l.drop a.toNat).take (2 : Int).toNat)
  rw [List.length_take, List.length_drop, show min (2 : Int).toNat (l.length - a.toNat) = 2 by omega] at this
  exact ⟨this.1, by have h6 := this.2; rw [show (256 : Int) ^ 2 = 65536 by decide] at h6; exact h6⟩
theorem getText_is (s : ByteArray) (a : Int) (hs : s.size < 140737488355000) : Ev (fun k => octet_GetText.f k s a) (mkS (getT (bs s) a).1, (getT (bs s) a).2) := by
  unfold octet_GetText.f
  refine Ev.bind (get_is s a 2 (by omega)) ?_
  by_cases h : (getR (bs s) a 2).2.2 = 0
  · obtain ⟨_, _, h3, h4, h5⟩ := getR_ok _ a 2 h
    obtain ⟨h6, h7⟩ := getR2_range _ a h
    have h8 : (getR (bs s) a 2).2.1 = a + 2 := by rw [h5]
    have hlen := bs_length s
    have hw : wrap64 ((s.size : Int) - (a + 2)) = (s.size : Int) - (a + 2) := by unfold wrap64; omega
    by_cases hn : (getR (bs s) a 2).1 > ((bs s).length : Int) - (a + 2)
    · rw [getT_short h hn]
      exact Ev.congr (fun k => by rw [if_pos h, h8, hw, if_pos (by omega)]; rfl) (Ev.now _)
    · rw [getT_ok h hn, h8]
      generalize (getR (bs s) a 2).1 = n at *
      have hx : s.extract (a + 2).toNat s.size = mkS ((bs s).drop (a + 2).toNat) := by rw [extract_mkS, List.take_of_length_le (by rw [bs_length]; omega)]
      have hy : (mkS ((bs s).drop (a + 2).toNat)).extract 0 n.toNat = mkS (((bs s).drop (a + 2).toNat).take n.toNat) := by rw [extract_mkS, List.drop_zero, bs_mkS]
      have hz : ((mkS ((bs s).drop (a + 2).toNat)).size : Int) = s.size - (a + 2) := by rw [mkS_size, List.length_drop, bs_length]; omega
      rw [hx, hy, hz]
      exact Ev.congr (fun k => by rw [if_pos h, hw, if_neg (by omega), if_pos (by omega), if_pos (by omega), if_pos (by omega), if_pos (by omega), show wrap64 (a + 2 + n) = a + 2 + n by unfold wrap64; omega]) (Ev.now _)
  · rw [getT_err h]
    exact Ev.congr (fun k => by rw [if_neg h]; rfl) (Ev.now _)
end Go.Proofs.Ytenlmckahaniiaa.Oct
end
