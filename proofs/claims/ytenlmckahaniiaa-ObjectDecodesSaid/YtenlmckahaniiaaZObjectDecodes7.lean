/- Lemmas for the law ObjectDecodes: what its proof needs of this seat's texts, in one place. -/
import Derived.Test.YtenlmckahaniiaaZObjectDecodes6
section
set_option linter.unusedVariables false
set_option linter.unusedSimpArgs false
namespace Go.Proofs.Ytenlmckahaniiaa.Oct
open Go Go.RowKit Go.Proofs.Ytenlmckahaniiaa.K Go.Proofs.YtenlmckahaniiaaW.PrintWords Go.Proofs.YtenlmckahaniiaaW.PrintMore Go.Proofs.Ytenlmckahaniiaa.MyBits Go.Proofs.Ytenlmckahaniiaa.MyStr
def mkS (l : List UInt8) : ByteArray := ⟨l.toArray⟩
theorem bs_mkS (l : List UInt8) : bs (mkS l) = l := rfl
theorem mkS_bs (s : ByteArray) : mkS (bs s) = s := bs_inj rfl
theorem mkS_size (l : List UInt8) : (mkS l).size = l.length := by rw [← bs_length, bs_mkS]
theorem mkS_append (a b : List UInt8) : mkS a ++ mkS b = mkS (a ++ b) := bs_inj (by rw [bs_append]; rfl)
theorem nums_mkS (l : List Int) : strOfNums l = mkS (byt l) := bs_inj (bs_nums' l)
theorem extract_mkS (s : ByteArray) (i j : Nat) : s.extract i j = mkS (((bs s).take j).drop i) := bs_inj (bs_extract s i j)
theorem i64_nat (i : Nat) (h : i < 9223372036854775807) : wrap64 ((i : Int) + 1) = ((i + 1 : Nat) : Int) := by unfold wrap64; omega
theorem shr_bytes (n : Int) (i : Nat) (h : i ≤ 8) : shr .i64 n (8 * (i : Int)) = n / 256 ^ i := by
  refine shr_pow n _ (8 * i) _ (by omega) (by omega) ?_
  rw [Int.pow_mul]; rfl
def width (w : Int) : Nat := (mx 0 (mn w 8)).toNat
theorem width_le (w : Int) : width w ≤ 8 := by unfold width mx mn; split <;> split <;> omega
theorem put_loop (a : Int) (m : Nat) (hm : m ≤ 8) (d : Nat) : ∀ i : Nat, i + d = m →
    Ev (fun k => octet_Put.l0 k a (lei (mx a 0) i ++ List.replicate d 0) (m : Int) (i : Int)) (mkS (le (mx a 0) m)) := by
  induction d with
  | zero =>
    intro i hi
    obtain rfl : i = m := by omega
    refine Ev.step (f := fun _ => some (strOfNums (lei (mx a 0) i ++ List.replicate 0 0))) (fun k => by rw [octet_Put.l0, if_neg (by omega)]) ?_
    rw [List.replicate_zero, List.append_nil, nums_mkS]
    exact Ev.now _
  | succ d ih =>
    intro i hi
    refine Ev.step ?_ (ih (i + 1) (by omega))
    intro k
    have hw : wrap64 (8 * (i : Int)) = 8 * (i : Int) := by unfold wrap64; omega
    have hl : (lei (mx a 0) i ++ List.replicate (d + 1) 0).length = m := by rw [List.length_append, lei_length, List.length_replicate]; omega
    rw [octet_Put.l0, if_pos (by omega), hw, if_pos (by omega), if_pos (by omega), hl, if_pos (by omega), shr_bytes _ _ (by omega), i64_nat i (by omega)]
    congr 1
    have e : ((i : Int)).toNat = i := by omega
    rw [e, List.set_append_right _ _ (by rw [lei_length]; omega), lei_length, Nat.sub_self, List.replicate_succ, List.set_cons_zero, lei_snoc, List.append_assoc]
    rfl
theorem put_is (a w : Int) : Ev (fun k => octet_Put.f k a w) (mkS (le (mx a 0) (width w))) := by
  have h := put_loop a (width w) (width_le w) (width w) 0 (by omega)
  have hw := width_le w
  have h0 : 0 ≤ mx 0 (mn w 8) := by unfold mx mn; split <;> split <;> omega
  refine Ev.congr (fun k => ?_) h
  unfold octet_Put.f
  rw [if_pos h0, if_pos (by show width w ≤ _; omega)]
  simp only [Option.bind_some]
  rw [List.length_replicate]
  rfl
def getR (s : List UInt8) (at_ w : Int) : Int × Int × Int :=
  if w < 1 ∨ w > 7 ∨ at_ < 0 ∨ at_ > s.length then (0, 0, 1)
  else if w > s.length - at_ then (0, 0, 8)
  else (num ((s.drop at_.toNat).take w.toNat), at_ + w, 0)
theorem num_drop (l : List UInt8) (i : Nat) (h : i < l.length) : num (l.drop i) = byteAt l i + 256 * num (l.drop (i + 1)) := by
  rw [List.drop_eq_getElem_cons h, num_cons]
  unfold byteAt
  rw [List.getElem?_eq_getElem h]; rfl
theorem num_drop_range (l : List UInt8) (i : Nat) (h7 : l.length ≤ 7) (h : 1 ≤ i) : 0 ≤ num (l.drop i) ∧ num (l.drop i) < 281474976710656 := by
  have h1 := num_range (l.drop i)
  have h2 : ((256 ^ (l.drop i).length : Nat) : Int) ≤ ((256 ^ 6 : Nat) : Int) := Int.ofNat_le.2 (Nat.pow_le_pow_right (by decide) (by rw [List.length_drop]; omega))
  rw [Int.natCast_pow] at h2
  have h3 : ((256 ^ 6 : Nat) : Int) = 281474976710656 := by decide
  have h4 : ((256 : Nat) : Int) = 256 := rfl
  rw [h4] at h2
  omega
theorem byteAt_slice (s : List UInt8) (a w i : Nat) (h : i < w) : byteAt s (a + i) = byteAt ((s.drop a).take w) i := by
  unfold byteAt
  rw [List.getElem?_take, if_pos h, List.getElem?_drop]
theorem get_loop (s : ByteArray) (a w : Nat) (hw : w ≤ 7) (ha : a + w ≤ s.size) (hs : s.size ≤ 9223372036854775807) (d : Nat) : d ≤ w →
    Ev (fun k => octet_Get.l0 k s (a : Int) (w : Int) (num (((((bs s).drop a).take w)).drop d)) ((d : Int) - 1)) (num (((bs s).drop a).take w), (a : Int) + w, 0) := by
  have hlen : (((bs s).drop a).take w).length = w := by rw [List.length_take, List.length_drop, bs_length]; omega
  induction d with
  | zero =>
    intro _
    refine Ev.step (f := fun _ => some (num ((((bs s).drop a).take w).drop 0), wrap64 ((a : Int) + w), 0)) (fun k => by rw [octet_Get.l0, if_neg (by omega)]) ?_
    rw [List.drop_zero, show wrap64 ((a : Int) + w) = (a : Int) + w by unfold wrap64; omega]
    exact Ev.now _
  | succ d ih =>
    intro hd
    refine Ev.step ?_ (ih (by omega))
    intro k
    have e1 : ((d + 1 : Nat) : Int) - 1 = (d : Int) := by omega
    have e2 : wrap64 ((a : Int) + (d : Int)) = (a : Int) + d := by unfold wrap64; omega
    have hr := num_drop_range (((bs s).drop a).take w) (d + 1) (by omega) (by omega)
    have hb := bt_rng s ((a : Int) + d)
    rw [e1, octet_Get.l0, if_pos (by omega), e2, if_pos (by omega), if_pos (by omega)]
    have e3 : wrap64 (num (((bs s).drop a |>.take w).drop (d + 1)) * 256) = num (((bs s).drop a |>.take w).drop (d + 1)) * 256 := by unfold wrap64; omega
    have e4 : wrap64 (bt s ((a : Int) + d)) = bt s ((a : Int) + d) := by unfold wrap64; omega
    rw [e3, e4, or_parts 8 (by omega) (by omega) (by omega) (by omega) (by omega) (by omega), show wrap64 ((d : Int) - 1) = (d : Int) - 1 by unfold wrap64; omega]
    congr 1
    rw [num_drop _ d (by omega), bt_bs, show ((a : Int) + d).toNat = a + d by omega, byteAt_slice (bs s) a w d (by omega)]
    omega
theorem get_is (s : ByteArray) (a w : Int) (hs : s.size ≤ 9223372036854775807) : Ev (fun k => octet_Get.f k s a w) (getR (bs s) a w) := by
  have bad : Ev (fun k => octet_Get.j0 k s a w true) (0, 0, 1) := Ev.step (f := fun _ => some (0, 0, 1)) (fun k => by rw [octet_Get.j0, if_pos rfl]) (Ev.now _)
  unfold getR
  rw [bs_length]
  by_cases h1 : w < 1
  · rw [if_pos (by omega)]; refine Ev.congr (fun k => ?_) bad; unfold octet_Get.f; rw [if_pos h1]
  by_cases h2 : w > 7
  · rw [if_pos (by omega)]; refine Ev.congr (fun k => ?_) bad; unfold octet_Get.f; rw [if_neg h1, if_pos h2]
  by_cases h3 : a < 0
  · rw [if_pos (by omega)]; refine Ev.congr (fun k => ?_) bad; unfold octet_Get.f; rw [if_neg h1, if_neg h2, if_pos h3]
  by_cases h4 : a > (s.size : Int)
  · rw [if_pos (by omega)]; refine Ev.congr (fun k => ?_) bad; unfold octet_Get.f; rw [if_neg h1, if_neg h2, if_neg h3, decide_eq_true h4]
  rw [if_neg (by omega)]
  have hw : wrap64 ((s.size : Int) - a) = (s.size : Int) - a := by unfold wrap64; omega
  by_cases h5 : w > (s.size : Int) - a
  · rw [if_pos h5]
    refine Ev.congr (f := fun k => octet_Get.j0 k s a w false) (fun k => by unfold octet_Get.f; rw [if_neg h1, if_neg h2, if_neg h3, decide_eq_false h4]) ?_
    exact Ev.step (f := fun _ => some (0, 0, 8)) (fun k => by rw [octet_Get.j0, if_neg (by decide), hw, if_pos h5]) (Ev.now _)
  · rw [if_neg h5]
    obtain ⟨a, rfl⟩ := Int.eq_ofNat_of_zero_le (show 0 ≤ a by omega)
    obtain ⟨w, rfl⟩ := Int.eq_ofNat_of_zero_le (show 0 ≤ w by omega)
    refine Ev.congr (f := fun k => octet_Get.j0 k s a w false) (fun k => by unfold octet_Get.f; rw [if_neg h1, if_neg h2, if_neg h3, decide_eq_false h4]) ?_
    have hl := get_loop s a w (by omega) (by omega) hs w (Nat.le_refl _)
    have hlen : (((bs s).drop a).take w).length = w := by rw [List.length_take, List.length_drop, bs_length]; omega
    rw [List.drop_of_length_le (by omega)] at hl
    refine Ev.step ?_ hl
    intro k
    rw [octet_Get.j0, if_neg (by decide), hw, if_neg h5, show wrap64 ((w : Int) - 1) = (w : Int) - 1 by unfold wrap64; omega]
    rfl
theorem u32_mul (c : Nat) (h : c < 4294967296) : ((Go.bits .and .u32 (c : Int) 1) * 3988292384) % 4294967296 = if c % 2 = 1 then ((3988292384 : Nat) : Int) else ((0 : Nat) : Int) := by
  rw [show (1 : Int) = ((1 : Nat) : Int) from rfl, u32_and_nat c 1 h (by decide), Nat.and_one_is_mod]
  rcases Nat.mod_two_eq_zero_or_one c with e | e <;> rw [e] <;> decide
theorem sum_l2 (c : Nat) (hc : c < 4294967296) (s : ByteArray) (l : List ByteArray) (n i z j : Int) (d : Nat) (r : Int) : ∀ e : Nat, e + d = 8 →
    Ev (fun k => octet_sum.l1 k (steps d c : Nat) s l n i z (wrap64 (j + 1))) r → Ev (fun k => octet_sum.l2 k (c : Int) s l n i z j (e : Int)) r := by
  induction d generalizing c with
  | zero =>
    intro e he h
    refine Ev.step ?_ h
    intro k
    rw [octet_sum.l2, if_neg (by omega)]
    rfl
  | succ d ih =>
    intro e he h
    refine Ev.step ?_ (ih (step c) (step_lt c hc) (e + 1) (by omega) h)
    intro k
    rw [octet_sum.l2, if_pos (by omega), u32_mul c hc, i64_nat e (by omega)]
    congr 1
    have e2 : (c : Int) / 2 = ((c / 2 : Nat) : Int) := by omega
    unfold step
    rw [e2]
    split
    · rw [u32_xor_nat _ _ (by omega) (by decide)]
    · rw [u32_xor_nat _ _ (by omega) (by decide), Nat.xor_zero]
theorem crcs_take (c : Nat) (s : List UInt8) (i : Nat) (h : i < s.length) : crcs c (s.take (i + 1)) = crcB (crcs c (s.take i)) s[i] := by
  rw [List.take_succ_eq_append_getElem h, crcs_append]; rfl
theorem sum_l1 (c0 : Nat) (hc : c0 < 4294967296) (s : ByteArray) (hs : s.size ≤ 9223372036854775806) (l : List ByteArray) (n i : Int) (r : Int)
    (h : Ev (fun k => octet_sum.l0 k (crcs c0 (bs s) : Nat) l n (wrap64 (i + 1))) r) (d : Nat) : ∀ j : Nat, j + d = s.size →
    Ev (fun k => octet_sum.l1 k (crcs c0 ((bs s).take j) : Nat) s l n i (s.size : Int) (j : Int)) r := by
  induction d with
  | zero =>
    intro j hj
    refine Ev.step ?_ h
    intro k
    rw [octet_sum.l1, if_neg (by omega), List.take_of_length_le (by rw [bs_length]; omega)]
  | succ d ih =>
    intro j hj
    have hlt := crcs_lt c0 ((bs s).take j) hc
    have hb : j < (bs s).length := by rw [bs_length]; omega
    have h8 := UInt8.toNat_lt (bs s)[j]
    have hx : crcs c0 ((bs s).take j) ^^^ ((bs s)[j]).toNat < 4294967296 := Nat.xor_lt_two_pow (n := 32) hlt (by omega)
    have hn := ih (j + 1) (by omega)
    rw [crcs_take c0 (bs s) j hb] at hn
    have h2 := sum_l2 (crcs c0 ((bs s).take j) ^^^ ((bs s)[j]).toNat) hx s l n i (s.size : Int) (j : Int) 8 r 0 (by omega) (by rw [i64_nat j (by omega)]; exact hn)
    refine Ev.step ?_ h2
    intro k
    rw [octet_sum.l1, if_pos (by omega), if_pos (by omega), if_pos (by omega)]
    congr 1
    have e : bt s (j : Int) % 4294967296 = (((bs s)[j]).toNat : Int) := by
      rw [bt_bs, Int.toNat_natCast]; unfold byteAt; rw [List.getElem?_eq_getElem hb, Option.getD_some]; omega
    rw [e, u32_xor_nat _ _ hlt (by omega)]
def cat (l : List ByteArray) : List UInt8 := l.flatMap bs
theorem rdOf_get (l : List ByteArray) (i : Nat) (h : i < l.length) : rdOf ByteArray.empty l (i : Int) = l[i] := by
  unfold rdOf; rw [Int.toNat_natCast, List.getD_eq_getElem?_getD, List.getElem?_eq_getElem h]; rfl
theorem cat_take (l : List ByteArray) (i : Nat) (h : i < l.length) : cat (l.take (i + 1)) = cat (l.take i) ++ bs l[i] := by
  unfold cat; rw [List.take_succ_eq_append_getElem h, List.flatMap_append]; simp
theorem sum_l0 (l : List ByteArray) (hl : l.length ≤ 9223372036854775806) (hs : ∀ s ∈ l, s.size ≤ 9223372036854775806) (d : Nat) : ∀ i : Nat, i + d = l.length →
    Ev (fun k => octet_sum.l0 k (crcs 4294967295 (cat (l.take i)) : Nat) l (l.length : Int) (i : Int)) (crc (cat l) : Nat) := by
  induction d with
  | zero =>
    intro i hi
    have hlt := crcs_lt 4294967295 (cat l) (by decide)
    refine Ev.step (f := fun _ => some ((crc (cat l) : Nat) : Int)) (fun k => ?_) (Ev.now _)
    rw [octet_sum.l0, if_neg (by omega), List.take_of_length_le (by omega), show (4294967295 : Int) = ((4294967295 : Nat) : Int) from rfl, u32_xor_nat _ _ (by decide) hlt, Nat.xor_comm]
    have := crc_lt (cat l)
    unfold crc at *
    congr 1; unfold wrap64; omega
  | succ d ih =>
    intro i hi
    have hlt := crcs_lt 4294967295 (cat (l.take i)) (by decide)
    have hn := ih (i + 1) (by omega)
    rw [cat_take l i (by omega), crcs_append] at hn
    have h1 := sum_l1 (crcs 4294967295 (cat (l.take i))) hlt l[i] (hs _ (List.getElem_mem _)) l (l.length : Int) (i : Int) _ (by rw [i64_nat i (by omega)]; exact hn) l[i].size 0 (by omega)
    refine Ev.step ?_ h1
    intro k
    rw [octet_sum.l0, if_pos (by omega), if_pos (by omega), if_pos (by omega), rdOf_get l i (by omega)]
    rfl
theorem sum_is (l : List ByteArray) (hl : l.length ≤ 9223372036854775806) (hs : ∀ s ∈ l, s.size ≤ 9223372036854775806) : Ev (fun k => octet_sum.f k l) (crc (cat l) : Nat) :=
  sum_l0 l hl hs l.length 0 (by omega)
theorem cat_one (s : ByteArray) : cat [s] = bs s := by simp [cat]
theorem crc_is (s : ByteArray) (hs : s.size ≤ 9223372036854775806) : Ev (fun k => octet_sum.f k [s]) (crc (bs s) : Nat) := by
  have h := sum_is [s] (by simp) (by intro x hx; rw [List.mem_singleton.1 hx]; exact hs)
  rwa [cat_one] at h
theorem bytesOf_ints (s : ByteArray) : bytesOf s = ints (bs s) := rfl
theorem joined_loop (l : List ByteArray) (hl : l.length ≤ 9223372036854775806) (hs : (cat l).length < 140737488355328) (d : Nat) : ∀ i : Nat, i + d = l.length →
    Ev (fun k => octet_joined.l0 k (ints (cat (l.take i))) l (l.length : Int) (i : Int)) (mkS (cat l)) := by
  induction d with
  | zero =>
    intro i hi
    refine Ev.step (f := fun _ => some (mkS (cat l))) (fun k => ?_) (Ev.now _)
    rw [octet_joined.l0, if_neg (by omega), List.take_of_length_le (by omega), nums_mkS, byt_ints]
  | succ d ih =>
    intro i hi
    have hn := ih (i + 1) (by omega)
    have hlen : (cat (l.take i)).length + l[i].size ≤ (cat l).length := by
      have h1 : cat l = cat (l.take (i + 1)) ++ cat (l.drop (i + 1)) := by unfold cat; rw [← List.flatMap_append, List.take_append_drop]
      rw [h1, cat_take l i (by omega), List.length_append, List.length_append, bs_length]; omega
    rw [cat_take l i (by omega), ints_append] at hn
    refine Ev.step ?_ hn
    intro k
    rw [octet_joined.l0, if_pos (by omega), if_pos (by omega), if_pos (by omega), rdOf_get l i (by omega), if_pos (by rw [ints_length]; omega), i64_nat i (by omega), bytesOf_ints]
theorem joined_is (l : List ByteArray) (hl : l.length ≤ 9223372036854775806) (hs : (cat l).length < 140737488355328) : Ev (fun k => octet_joined.f k l) (mkS (cat l)) :=
  joined_loop l hl hs l.length 0 (by omega)
theorem cat_two (a b : ByteArray) : cat [a, b] = bs a ++ bs b := by simp [cat]
theorem joined_two (a b : ByteArray) (hs : a.size + b.size < 140737488355328) : Ev (fun k => octet_joined.f k [a, b]) (mkS (bs a ++ bs b)) := by
  have h := joined_is [a, b] (by simp) (by rw [cat_two, List.length_append, bs_length, bs_length]; exact hs)
  rwa [cat_two] at h
theorem mx_nonneg (n : Nat) : mx (n : Int) 0 = n := by unfold mx; split <;> omega
def openR (l : List UInt8) : List UInt8 × Int :=
  if l.length < 4 then ([], 8) else if l.drop (l.length - 4) = le (crc (l.take (l.length - 4))) 4 then (l.take (l.length - 4), 0) else ([], 10)
theorem openR_opened (l : List UInt8) (h : opened l) : openR l = (l.take (l.length - 4), 0) := by
  unfold openR; rw [if_neg (by have := h.1; omega), if_pos h.2]
theorem open_is (s : ByteArray) (hs : s.size < 140737488355000) : Ev (fun k => octet_Open.f k s) (mkS (openR (bs s)).1, (openR (bs s)).2) := by
  have hw : wrap64 ((s.size : Int) - 4) = (s.size : Int) - 4 := by unfold wrap64; omega
  unfold octet_Open.f openR
  simp only [hw, bs_length]
  by_cases h : s.size < 4
  · rw [if_pos h]
    refine Ev.congr (fun k => if_pos (by omega)) (Ev.now _)
  · rw [if_neg h]
    have e : ((s.size : Int) - 4).toNat = s.size - 4 := by omega
    rw [e]
    have hx : s.extract 0 (s.size - 4) = mkS ((bs s).take (s.size - 4)) := by rw [extract_mkS, List.drop_zero]
    have hy : s.extract (s.size - 4) s.size = mkS ((bs s).drop (s.size - 4)) := by rw [extract_mkS, List.take_of_length_le (by rw [bs_length]; omega)]
    rw [hx, hy]
    have h1 := crc_is (mkS ((bs s).take (s.size - 4))) (by rw [mkS_size, List.length_take]; omega)
    rw [bs_mkS] at h1
    have h2 := put_is ((crc ((bs s).take (s.size - 4)) : Nat) : Int) 4
    rw [mx_nonneg] at h2
    refine Ev.congr (fun k => by rw [if_neg (by omega), if_pos (by omega), if_pos (by omega)]) ?_
    refine Ev.bind h1 (Ev.bind h2 ?_)
    rw [toList_bs, toList_bs, bs_mkS, bs_mkS]
    by_cases h3 : (bs s).drop (s.size - 4) = le (crc ((bs s).take (s.size - 4)) : Nat) 4
    · rw [if_pos h3]
      exact Ev.congr (fun k => if_pos h3) (Ev.now _)
    · rw [if_neg h3]
      exact Ev.congr (fun k => if_neg h3) (Ev.now _)
end Go.Proofs.Ytenlmckahaniiaa.Oct
end
