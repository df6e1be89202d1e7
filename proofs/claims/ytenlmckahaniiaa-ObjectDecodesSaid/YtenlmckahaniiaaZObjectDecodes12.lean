/- Lemmas for the law ObjectDecodes: what its proof needs of this seat's texts, in one place. -/
import Derived.Test.YtenlmckahaniiaaZObjectDecodes3
import Derived.Test.YtenlmckahaniiaaZObjectDecodes7
import Derived.Test.YtenlmckahaniiaaZObjectDecodes8
import Derived.Test.YtenlmckahaniiaaZObjectDecodes11
section
set_option linter.unusedVariables false
set_option linter.unusedSimpArgs false
namespace Go.Proofs.Ytenlmckahaniiaa.Oct
open Go Go.RowKit Go.Proofs.Ytenlmckahaniiaa.K Go.Proofs.YtenlmckahaniiaaW.PrintWords Go.Proofs.YtenlmckahaniiaaW.PrintMore Go.Proofs.Ytenlmckahaniiaa.MyBits Go.Proofs.Ytenlmckahaniiaa.MyStr
theorem rput_loop (w : Int) (d : Nat) : ∀ (n : Int) (i : Nat) (pre : List Int), 0 ≤ n → n ≤ 9223372036854775807 → i + d = width w → pre.length = i →
    Ev (fun k => emulatorref03_Put.l0 k n w pre (i : Int)) (mkS (byt (pre ++ lei n d))) := by
  have hw := width_le w
  have hx : ∀ i : Nat, i < width w → ((i : Int) < w ∧ (i : Int) < 8) := by intro i hi; unfold width mx mn at hi; split at hi <;> split at hi <;> omega
  have hy : ¬ ((width w : Int) < w ∧ (width w : Int) < 8) := by unfold width mx mn; split <;> split <;> omega
  induction d with
  | zero =>
    intro n i pre h0 h1 hi hp
    obtain rfl : i = width w := by omega
    refine Ev.step (f := fun _ => some (mkS (byt (pre ++ lei n 0)))) (fun k => ?_) (Ev.now _)
    rw [emulatorref03_Put.l0]
    by_cases h : (width w : Int) < w
    · rw [if_pos h, if_neg (fun h2 => hy ⟨h, h2⟩), nums_mkS]; simp [lei]
    · rw [if_neg h, nums_mkS]; simp [lei]
  | succ d ih =>
    intro n i pre h0 h1 hi hp
    have hi2 := hx i (by omega)
    have hn := ih (n / 256) (i + 1) (pre ++ [n % 256]) (by omega) (by omega) (by omega) (by rw [List.length_append]; simp [hp])
    have e : pre ++ lei n (d + 1) = pre ++ [n % 256] ++ lei (n / 256) d := by rw [List.append_assoc]; rfl
    rw [e]
    refine Ev.step ?_ hn
    intro k
    rw [emulatorref03_Put.l0, if_pos hi2.1, if_pos hi2.2, if_pos (by omega), i64_nat i (by omega)]
    have e1 : Int.tdiv n 256 = n / 256 := Int.tdiv_eq_ediv_of_nonneg h0
    have e2 : Int.tmod n 256 = n % 256 := Int.tmod_eq_emod_of_nonneg h0
    rw [e1, e2, show wrap64 (n / 256) = n / 256 by unfold wrap64; omega, show n % 256 % 256 = n % 256 by omega]
theorem rput_is (a w : Int) (h1 : a ≤ 9223372036854775807) : Ev (fun k => emulatorref03_Put.f k a w) (mkS (le (mx a 0) (width w))) := by
  have go : ∀ n : Int, 0 ≤ n → n ≤ 9223372036854775807 → Ev (fun k => emulatorref03_Put.j0 k n w) (mkS (le n (width w))) := by
    intro n h0 h1
    have h := rput_loop w (width w) n 0 [] h0 h1 (by omega) rfl
    exact Ev.step (fun k => by rw [emulatorref03_Put.j0]; rfl) h
  unfold emulatorref03_Put.f
  by_cases h : a < 0
  · rw [show mx a 0 = 0 by unfold mx; rw [if_pos h]]
    exact Ev.congr (fun k => if_pos h) (go 0 (by decide) (by decide))
  · rw [show mx a 0 = a by unfold mx; rw [if_neg h]]
    exact Ev.congr (fun k => if_neg h) (go a (by omega) h1)
theorem rget_loop (s : ByteArray) (a w : Nat) (hw : w ≤ 7) (ha : a + w ≤ s.size) (hs : s.size ≤ 9223372036854775807) (d : Nat) : d ≤ w →
    Ev (fun k => emulatorref03_Get.l0 k s (a : Int) (w : Int) (num (((((bs s).drop a).take w)).drop d)) ((a : Int) + d - 1)) (num (((bs s).drop a).take w), (a : Int) + w, 0) := by
  have hlen : (((bs s).drop a).take w).length = w := by rw [List.length_take, List.length_drop, bs_length]; omega
  induction d with
  | zero =>
    intro _
    refine Ev.step (f := fun _ => some (num ((((bs s).drop a).take w).drop 0), wrap64 ((a : Int) + w), 0)) (fun k => by rw [emulatorref03_Get.l0, if_neg (by omega)]) ?_
    rw [List.drop_zero, show wrap64 ((a : Int) + w) = (a : Int) + w by unfold wrap64; omega]
    exact Ev.now _
  | succ d ih =>
    intro hd
    refine Ev.step ?_ (ih (by omega))
    intro k
    have e1 : (a : Int) + ((d + 1 : Nat) : Int) - 1 = (a : Int) + (d : Int) := by omega
    have hr := num_drop_range (((bs s).drop a).take w) (d + 1) (by omega) (by omega)
    have hb := bt_rng s ((a : Int) + d)
    rw [e1, emulatorref03_Get.l0, if_pos (by omega), if_pos (by omega), if_pos (by omega), show wrap64 ((a : Int) + (d : Int) - 1) = (a : Int) + (d : Int) - 1 by unfold wrap64; omega]
    have e3 : wrap64 (wrap64 (256 * num (((bs s).drop a |>.take w).drop (d + 1))) + wrap64 (bt s ((a : Int) + d))) = num (((bs s).drop a |>.take w).drop d) := by
      rw [num_drop (((bs s).drop a).take w) d (by omega), bt_bs, show ((a : Int) + d).toNat = a + d by omega, byteAt_slice (bs s) a w d (by omega)]
      have := byteAt_range (((bs s).drop a).take w) d
      unfold wrap64; omega
    rw [e3]
theorem rget_is (s : ByteArray) (a w : Int) (hs : s.size ≤ 9223372036854775807) : Ev (fun k => emulatorref03_Get.f k s a w) (getR (bs s) a w) := by
  have bad : Ev (fun k => emulatorref03_Get.j0 k s a w true) (0, 0, 1) := Ev.step (f := fun _ => some (0, 0, 1)) (fun k => by rw [emulatorref03_Get.j0, if_pos rfl]) (Ev.now _)
  unfold getR
  rw [bs_length]
  by_cases h1 : w < 1
  · rw [if_pos (by omega)]; refine Ev.congr (fun k => ?_) bad; unfold emulatorref03_Get.f; rw [if_pos h1]
  by_cases h2 : w > 7
  · rw [if_pos (by omega)]; refine Ev.congr (fun k => ?_) bad; unfold emulatorref03_Get.f; rw [if_neg h1, if_pos h2]
  by_cases h3 : a < 0
  · rw [if_pos (by omega)]; refine Ev.congr (fun k => ?_) bad; unfold emulatorref03_Get.f; rw [if_neg h1, if_neg h2, if_pos h3]
  by_cases h4 : a > (s.size : Int)
  · rw [if_pos (by omega)]; refine Ev.congr (fun k => ?_) bad; unfold emulatorref03_Get.f; rw [if_neg h1, if_neg h2, if_neg h3, decide_eq_true h4]
  rw [if_neg (by omega)]
  have hw : wrap64 ((s.size : Int) - a) = (s.size : Int) - a := by unfold wrap64; omega
  by_cases h5 : w > (s.size : Int) - a
  · rw [if_pos h5]
    refine Ev.congr (f := fun k => emulatorref03_Get.j0 k s a w false) (fun k => by unfold emulatorref03_Get.f; rw [if_neg h1, if_neg h2, if_neg h3, decide_eq_false h4]) ?_
    exact Ev.step (f := fun _ => some (0, 0, 8)) (fun k => by rw [emulatorref03_Get.j0, if_neg (by decide), hw, if_pos (by omega)]) (Ev.now _)
  · rw [if_neg h5]
    obtain ⟨a, rfl⟩ := Int.eq_ofNat_of_zero_le (show 0 ≤ a by omega)
    obtain ⟨w, rfl⟩ := Int.eq_ofNat_of_zero_le (show 0 ≤ w by omega)
    refine Ev.congr (f := fun k => emulatorref03_Get.j0 k s a w false) (fun k => by unfold emulatorref03_Get.f; rw [if_neg h1, if_neg h2, if_neg h3, decide_eq_false h4]) ?_
    have hl := rget_loop s a w (by omega) (by omega) hs w (Nat.le_refl _)
    have hlen : (((bs s).drop a).take w).length = w := by rw [List.length_take, List.length_drop, bs_length]; omega
    rw [List.drop_of_length_le (by omega)] at hl
    refine Ev.step ?_ hl
    intro k
    rw [emulatorref03_Get.j0, if_neg (by decide), hw, if_neg (by omega), show wrap64 (wrap64 ((a : Int) + w) - 1) = (a : Int) + w - 1 by unfold wrap64; omega]
    rfl
theorem rcrc_l1 (c : Nat) (hc : c < 4294967296) (s : ByteArray) (i : Int) (d : Nat) (r : Int) : ∀ e : Nat, e + d = 8 →
    Ev (fun k => emulatorref03_Crc.l0 k s (steps d c : Nat) (wrap64 (i + 1))) r → Ev (fun k => emulatorref03_Crc.l1 k s (c : Int) i (e : Int)) r := by
  induction d generalizing c with
  | zero =>
    intro e he h
    refine Ev.step ?_ h
    intro k
    rw [emulatorref03_Crc.l1, if_neg (by omega)]
    rfl
  | succ d ih =>
    intro e he h
    refine Ev.step ?_ (ih (step c) (step_lt c hc) (e + 1) (by omega) h)
    intro k
    have e2 : (c : Int) / 2 = ((c / 2 : Nat) : Int) := by omega
    have e3 : Int.tmod (c : Int) 2 = ((c % 2 : Nat) : Int) := by rw [Int.tmod_eq_emod_of_nonneg (by omega)]; omega
    rw [emulatorref03_Crc.l1, if_pos (by omega), e2, e3, i64_nat e (by omega)]
    unfold step
    by_cases h2 : c % 2 = 1
    · rw [if_pos (by omega), if_pos h2, show (3988292384 : Int) = ((3988292384 : Nat) : Int) from rfl, u32_xor_nat _ _ (by omega) (by decide)]
    · rw [if_neg (by omega), if_neg h2]
theorem rcrc_l0 (s : ByteArray) (hs : s.size ≤ 9223372036854775806) (d : Nat) : ∀ i : Nat, i + d = s.size →
    Ev (fun k => emulatorref03_Crc.l0 k s (crcs 4294967295 ((bs s).take i) : Nat) (i : Int)) (crc (bs s) : Nat) := by
  induction d with
  | zero =>
    intro i hi
    have hlt := crcs_lt 4294967295 (bs s) (by decide)
    refine Ev.step (f := fun _ => some ((crc (bs s) : Nat) : Int)) (fun k => ?_) (Ev.now _)
    rw [emulatorref03_Crc.l0, if_neg (by omega), List.take_of_length_le (by rw [bs_length]; omega), show (4294967295 : Int) = ((4294967295 : Nat) : Int) from rfl, u32_xor_nat _ _ hlt (by decide)]
    have := crc_lt (bs s)
    unfold crc at *
    congr 1; unfold wrap64; omega
  | succ d ih =>
    intro i hi
    have hlt := crcs_lt 4294967295 ((bs s).take i) (by decide)
    have hb : i < (bs s).length := by rw [bs_length]; omega
    have h8 := UInt8.toNat_lt (bs s)[i]
    have hx : crcs 4294967295 ((bs s).take i) ^^^ ((bs s)[i]).toNat < 4294967296 := Nat.xor_lt_two_pow (n := 32) hlt (by omega)
    have hn := ih (i + 1) (by omega)
    rw [crcs_take _ (bs s) i hb] at hn
    have h2 := rcrc_l1 (crcs 4294967295 ((bs s).take i) ^^^ ((bs s)[i]).toNat) hx s (i : Int) 8 _ 0 (by omega) (by rw [i64_nat i (by omega)]; exact hn)
    refine Ev.step ?_ h2
    intro k
    rw [emulatorref03_Crc.l0, if_pos (by omega), if_pos (by omega)]
    congr 1
    have e : bt s (i : Int) % 4294967296 = (((bs s)[i]).toNat : Int) := by
      rw [bt_bs, Int.toNat_natCast]; unfold byteAt; rw [List.getElem?_eq_getElem hb, Option.getD_some]; omega
    rw [e, u32_xor_nat _ _ hlt (by omega)]
theorem rcrc_is (s : ByteArray) (hs : s.size ≤ 9223372036854775806) : Ev (fun k => emulatorref03_Crc.f k s) (crc (bs s) : Nat) :=
  rcrc_l0 s hs s.size 0 (by omega)
theorem rseal_is (s : ByteArray) (hs : s.size < 140737488355000) : Ev (fun k => emulatorref03_Seal.f k s) (mkS (seal_ (bs s))) := by
  have := crc_lt (bs s)
  unfold emulatorref03_Seal.f
  refine Ev.bind (rcrc_is s (by omega)) (Ev.bind (rput_is _ 4 (by omega)) ?_)
  refine Ev.congr (fun k => if_pos (by rw [mkS_size, le_length]; have := width_le 4; omega)) ?_
  rw [mx_nonneg, ← mkS_bs s, mkS_append, bs_mkS]
  exact Ev.now _
theorem ropen_is (s : ByteArray) (hs : s.size < 140737488355000) : Ev (fun k => emulatorref03_Open.f k s) (mkS (openR (bs s)).1, (openR (bs s)).2) := by
  have hw : wrap64 ((s.size : Int) - 4) = (s.size : Int) - 4 := by unfold wrap64; omega
  unfold emulatorref03_Open.f openR
  simp only [hw, bs_length]
  by_cases h : s.size < 4
  · rw [if_pos h]
    refine Ev.congr (fun k => if_pos (by omega)) (Ev.now _)
  · rw [if_neg h]
    have e : ((s.size : Int) - 4).toNat = s.size - 4 := by omega
    rw [e]
    have hx : s.extract 0 (s.size - 4) = mkS ((bs s).take (s.size - 4)) := by rw [extract_mkS, List.drop_zero]
    have hy : s.extract (s.size - 4) s.size = mkS ((bs s).drop (s.size - 4)) := by rw [extract_mkS, List.take_of_length_le (by rw [bs_length]; omega)]
    rw [hx, hy]
    have h1 := rcrc_is (mkS ((bs s).take (s.size - 4))) (by rw [mkS_size, List.length_take]; omega)
    rw [bs_mkS] at h1
    have hc := crc_lt ((bs s).take (s.size - 4))
    have h2 := rput_is ((crc ((bs s).take (s.size - 4)) : Nat) : Int) 4 (by omega)
    rw [mx_nonneg] at h2
    refine Ev.congr (fun k => by rw [if_neg (by omega), if_pos (by omega), if_pos (by omega)]) ?_
    refine Ev.bind h1 (Ev.bind h2 ?_)
    rw [toList_bs, toList_bs, bs_mkS, bs_mkS]
    by_cases h3 : (bs s).drop (s.size - 4) = le (crc ((bs s).take (s.size - 4)) : Nat) 4
    · rw [if_pos h3]
      exact Ev.congr (fun k => if_pos h3.symm) (Ev.now _)
    · rw [if_neg h3]
      exact Ev.congr (fun k => if_neg (fun h => h3 h.symm)) (Ev.now _)
def putT (l : List UInt8) : List UInt8 := le ((l.take 65535).length : Nat) 2 ++ l.take 65535
theorem putT_small (l : List UInt8) (h : l.length ≤ 65535) : putT l = le (l.length : Nat) 2 ++ l := by unfold putT; rw [List.take_of_length_le h]
theorem putText_is (s : ByteArray) (hs : s.size < 140737488355000) : Ev (fun k => octet_PutText.f k s) (mkS (putT (bs s))) := by
  have hm : mn (s.size : Int) 65535 = (min s.size 65535 : Nat) := by unfold mn; split <;> omega
  unfold octet_PutText.f
  rw [hm]
  have hx : s.extract 0 ((min s.size 65535 : Nat) : Int).toNat = mkS ((bs s).take 65535) := by
    have hb := bs_length s
    rw [extract_mkS, List.drop_zero, Int.toNat_natCast, show (bs s).take (min s.size 65535) = (bs s).take 65535 from List.take_eq_take_iff.2 (by omega)]
  rw [hx]
  have hz : (mkS ((bs s).take 65535)).size ≤ 65535 := by rw [mkS_size, List.length_take]; omega
  refine Ev.congr (fun k => by rw [if_pos (by omega), if_pos (by omega)]) ?_
  refine Ev.bind (put_is _ 2) (Ev.bind (joined_two _ _ ?_) ?_)
  · rw [mkS_size, le_length]; have := width_le 2; omega
  · rw [bs_mkS, bs_mkS, mx_nonneg, mkS_size]
    exact Ev.now _
theorem rputText_is (s : ByteArray) (hs : s.size < 140737488355000) : Ev (fun k => emulatorref03_PutText.f k s) (mkS (putT (bs s))) := by
  have hw := width_le 2
  unfold emulatorref03_PutText.f
  by_cases h : (s.size : Int) > 65535
  · have hx : s.extract 0 65535 = mkS ((bs s).take 65535) := by rw [extract_mkS, List.drop_zero]
    have hz : (mkS ((bs s).take 65535)).size ≤ 65535 := by rw [mkS_size, List.length_take]; omega
    rw [hx]
    refine Ev.congr (fun k => by rw [if_pos h, if_pos (by decide), if_pos (by omega)]) ?_
    refine Ev.bind (rput_is _ 2 (by omega)) ?_
    refine Ev.congr (fun k => if_pos (by rw [mkS_size, le_length]; omega)) ?_
    rw [mx_nonneg, mkS_append, mkS_size]
    exact Ev.now _
  · refine Ev.congr (fun k => if_neg h) ?_
    refine Ev.bind (rput_is _ 2 (by omega)) ?_
    refine Ev.congr (fun k => if_pos (by rw [mkS_size, le_length]; omega)) ?_
    rw [mx_nonneg, putT_small _ (by rw [bs_length]; omega), bs_length]
    have e : mkS (le ((s.size : Nat) : Int) (width 2)) ++ s = mkS (le ((s.size : Nat) : Int) 2 ++ bs s) := by
      apply bs_inj; rw [bs_append]; rfl
    rw [← e]
    exact Ev.now _
def getT (l : List UInt8) (a : Int) : List UInt8 × Int × Int :=
  if (getR l a 2).2.2 = 0 then
    if (getR l a 2).1 > l.length - (a + 2) then ([], 0, 8) else ((l.drop (a + 2).toNat).take (getR l a 2).1.toNat, a + 2 + (getR l a 2).1, 0)
  else ([], 0, (getR l a 2).2.2)
theorem getT_err {l : List UInt8} {a : Int} (h : ¬ (getR l a 2).2.2 = 0) : getT l a = ([], 0, (getR l a 2).2.2) := by unfold getT; rw [if_neg h]
theorem getT_short {l : List UInt8} {a : Int} (h : (getR l a 2).2.2 = 0) (hn : (getR l a 2).1 > l.length - (a + 2)) : getT l a = ([], 0, 8) := by unfold getT; rw [if_pos h, if_pos hn]
theorem getT_ok {l : List UInt8} {a : Int} (h : (getR l a 2).2.2 = 0) (hn : ¬ (getR l a 2).1 > l.length - (a + 2)) : getT l a = ((l.drop (a + 2).toNat).take (getR l a 2).1.toNat, a + 2 + (getR l a 2).1, 0) := by unfold getT; rw [if_pos h, if_neg hn]
theorem getR_ok (l : List UInt8) (a w : Int) (h : (getR l a w).2.2 = 0) : 1 ≤ w ∧ w ≤ 7 ∧ 0 ≤ a ∧ a + w ≤ l.length ∧ getR l a w = (num ((l.drop a.toNat).take w.toNat), a + w, 0) := by
  unfold getR at *
  split at h
  · cases h
  · rename_i h1
    rw [if_neg h1] at *
    split at h
    · cases h
    · rename_i h2
      rw [if_neg h2]
      exact ⟨by omega, by omega, by omega, by omega, rfl⟩
theorem getR2_range (l : List UInt8) (a : Int) (h : (getR l a 2).2.2 = 0) : 0 ≤ (getR l a 2).1 ∧ (getR l a 2).1 < 65536 := by
  obtain ⟨_, _, h3, h4, h5⟩ := getR_ok l a 2 h
  rw [h5]
  have := num_range ((l.drop a.toNat).take (2 : Int).toNat)
  rw [List.length_take, List.length_drop, show min (2 : Int).toNat (l.length - a.toNat) = 2 by omega] at this
  exact ⟨this.1, by have h6 := this.2; rw [show (256 : Int) ^ 2 = 65536 by decide] at h6; exact h6⟩
theorem getText_is (s : ByteArray) (a : Int) (hs : s.size < 140737488355000) : Ev (fun k => octet_GetText.f k s a) (mkS (getT (bs s) a).1, (getT (bs s) a).2) := by
  unfold octet_GetText.f
  refine Ev.bind (get_is s a 2 (by omega)) ?_
  by_cases h : (getR (bs s) a 2).2.2 = 0
  · obtain ⟨_, _, h3, h4, h5⟩ := getR_ok _ a 2 h
    obtain ⟨h6, h7⟩ := getR2_range _ a h
    have h8 : (getR (bs s) a 2).2.1 = a + 2 := by rw [h5]
    have hlen := bs_length s
    have hw : wrap64 ((s.size : Int) - (a + 2)) = (s.size : Int) - (a + 2) := by unfold wrap64; omega
    by_cases hn : (getR (bs s) a 2).1 > ((bs s).length : Int) - (a + 2)
    · rw [getT_short h hn]
      exact Ev.congr (fun k => by rw [if_pos h, h8, hw, if_pos (by omega)]; rfl) (Ev.now _)
    · rw [getT_ok h hn, h8]
      generalize (getR (bs s) a 2).1 = n at *
      have hx : s.extract (a + 2).toNat s.size = mkS ((bs s).drop (a + 2).toNat) := by rw [extract_mkS, List.take_of_length_le (by rw [bs_length]; omega)]
      have hy : (mkS ((bs s).drop (a + 2).toNat)).extract 0 n.toNat = mkS (((bs s).drop (a + 2).toNat).take n.toNat) := by rw [extract_mkS, List.drop_zero, bs_mkS]
      have hz : ((mkS ((bs s).drop (a + 2).toNat)).size : Int) = s.size - (a + 2) := by rw [mkS_size, List.length_drop, bs_length]; omega
      rw [hx, hy, hz]
      exact Ev.congr (fun k => by rw [if_pos h, hw, if_neg (by omega), if_pos (by omega), if_pos (by omega), if_pos (by omega), if_pos (by omega), show wrap64 (a + 2 + n) = a + 2 + n by unfold wrap64; omega]) (Ev.now _)
  · rw [getT_err h]
    exact Ev.congr (fun k => by rw [if_neg h]; rfl) (Ev.now _)
theorem rgetText_is (s : ByteArray) (a : Int) (hs : s.size < 140737488355000) : Ev (fun k => emulatorref03_GetText.f k s a) (mkS (getT (bs s) a).1, (getT (bs s) a).2) := by
  have bad : (a < 0 ∨ a > (s.size : Int)) → getR (bs s) a 2 = (0, 0, 1) := by intro h; unfold getR; rw [bs_length, if_pos (by omega)]
  have bad2 : Ev (fun k => emulatorref03_GetText.j0 k s a true) ((⟨#[]⟩ : ByteArray), 0, 1) := Ev.step (f := fun _ => some _) (fun k => by rw [emulatorref03_GetText.j0, if_pos rfl]) (Ev.now _)
  unfold emulatorref03_GetText.f
  by_cases h1 : a < 0
  · have hT : getT (bs s) a = ([], 0, 1) := by rw [getT_err (by rw [bad (.inl h1)]; decide), bad (.inl h1)]
    rw [hT]
    exact Ev.congr (fun k => if_pos h1) bad2
  by_cases h2 : a > (s.size : Int)
  · have hT : getT (bs s) a = ([], 0, 1) := by rw [getT_err (by rw [bad (.inr h2)]; decide), bad (.inr h2)]
    rw [hT]
    exact Ev.congr (fun k => by rw [if_neg h1, decide_eq_true h2]) bad2
  refine Ev.congr (f := fun k => emulatorref03_GetText.j0 k s a false) (fun k => by rw [if_neg h1, decide_eq_false h2]) ?_
  refine Ev.step (fun k => by rw [emulatorref03_GetText.j0, if_neg (by decide)]) ?_
  refine Ev.bind (rget_is s a 2 (by omega)) ?_
  by_cases h : (getR (bs s) a 2).2.2 = 0
  · obtain ⟨_, _, h3, h4, h5⟩ := getR_ok _ a 2 h
    obtain ⟨h6, h7⟩ := getR2_range _ a h
    have h8 : (getR (bs s) a 2).2.1 = a + 2 := by rw [h5]
    have hlen := bs_length s
    have hw : wrap64 ((s.size : Int) - (a + 2)) = (s.size : Int) - (a + 2) := by unfold wrap64; omega
    by_cases hn : (getR (bs s) a 2).1 > ((bs s).length : Int) - (a + 2)
    · rw [getT_short h hn]
      exact Ev.congr (fun k => by rw [if_pos h, h8, hw, if_pos (by omega)]; rfl) (Ev.now _)
    · rw [getT_ok h hn, h8]
      generalize (getR (bs s) a 2).1 = n at *
      have hwn : wrap64 (a + 2 + n) = a + 2 + n := by unfold wrap64; omega
      have hx : s.extract (a + 2).toNat (a + 2 + n).toNat = mkS (((bs s).drop (a + 2).toNat).take n.toNat) := by
        rw [extract_mkS, List.drop_take, show (a + 2 + n).toNat - (a + 2).toNat = n.toNat by omega]
      rw [← hx]
      exact Ev.congr (fun k => by rw [if_pos h, hw, if_neg (by omega), if_pos (by omega), hwn, if_pos (by omega), if_pos (by omega)]) (Ev.now _)
  · rw [getT_err h]
    exact Ev.congr (fun k => by rw [if_neg h]; rfl) (Ev.now _)
end Go.Proofs.Ytenlmckahaniiaa.Oct
end
section
set_option linter.unusedVariables false
set_option linter.unusedSimpArgs false
namespace Go.Proofs.Ytenlmckahaniiaa.Obj
open Go Go.RowKit Go.Proofs.Ytenlmckahaniiaa.K Go.Proofs.YtenlmckahaniiaaW.PrintWords Go.Proofs.YtenlmckahaniiaaW.PrintMore Go.Proofs.Ytenlmckahaniiaa.MyBits Go.Proofs.Ytenlmckahaniiaa.MyStr Go.Proofs.Ytenlmckahaniiaa.Oct
structure Md where
  a0 : ByteArray
  a1 : ByteArray
  a2 : ByteArray
  a3 : Int
  l4 : List S62
  l5 : List S43
def Md.check (m : Md) : Int := checkR m.a0 m.a1 m.a2 m.a3 m.l4 m.l5
def m0 : Md := ⟨⟨#[]⟩, ⟨#[]⟩, ⟨#[]⟩, 0, [], []⟩
structure SymV (s : S62) : Prop where
  h0 : isNm s.f0 = true
  h1 : 0 ≤ s.f1 ∧ s.f1 ≤ 3
  h2 : 0 ≤ s.f2 ∧ s.f2 ≤ 65535
structure RelV (x : S43) : Prop where
  h0 : x.f0 = 1 ∨ x.f0 = 2
  h1 : 0 ≤ x.f1 ∧ x.f1 ≤ 16384
  h2 : 0 ≤ x.f2 ∧ x.f2 ≤ 4
  h3 : (x.f2 = 4 ∧ isNm x.f3 = true) ∨ (x.f2 ≠ 4 ∧ bs x.f3 = [])
structure Valid (m : Md) : Prop where
  h0 : isNm m.a0 = true
  h1 : m.a1.size ≤ 16384 ∧ m.a1.size % 2 = 0
  h2 : m.a2.size ≤ 16384
  h3 : 0 ≤ m.a3 ∧ m.a3 ≤ 16384
  n4 : m.l4.length ≤ 256
  n5 : m.l5.length ≤ 2048
  h4 : ∀ s ∈ m.l4, SymV s
  h5 : ∀ x ∈ m.l5, RelV x
theorem symsR_valid (l : List S62) : ∀ m, symsR m l = 0 → ∀ s ∈ l, SymV s := by
  induction l with
  | nil => intro _ _ s hs; cases hs
  | cons x l ih =>
    intro m h s hs
    unfold symsR at h
    split at h
    · rename_i h1
      split at h
      · exact absurd h (by decide)
      · split at h
        · rename_i h2
          rw [symOk_iff] at h2
          rcases List.mem_cons.1 hs with rfl | hs
          · exact ⟨h1, ⟨h2.1, h2.2.1⟩, h2.2.2⟩
          · exact ih _ h s hs
        · exact absurd h (by decide)
    · exact absurd h (by decide)
theorem relR_valid {ts ds : Int} {x b : S43} (ht : 0 ≤ ts ∧ ts ≤ 16384) (hd : 0 ≤ ds ∧ ds ≤ 16384) (h : relR ts ds x b = 0) : RelV x := by
  have hz : 0 ≤ (if x.f0 = 2 then ds else ts) ∧ (if x.f0 = 2 then ds else ts) ≤ 16384 := by split <;> omega
  unfold relR at h
  generalize (if x.f0 = 2 then ds else ts) = sz at h hz
  rw [wrap64_id (n := sz - 2) (by omega) (by omega)] at h
  by_cases h1 : x.f0 ≠ 1 ∧ x.f0 ≠ 2
  · rw [if_pos h1] at h; exact absurd h (by decide)
  rw [if_neg h1] at h
  by_cases h2 : x.f1 < 0 ∨ Int.tmod x.f1 2 ≠ 0 ∨ x.f1 > sz - 2
  · rw [if_pos h2] at h; exact absurd h (by decide)
  rw [if_neg h2] at h
  by_cases h3 : x.f0 < b.f0 ∨ (x.f0 = b.f0 ∧ x.f1 ≤ b.f1)
  · rw [if_pos h3] at h; exact absurd h (by decide)
  rw [if_neg h3] at h
  by_cases h4 : x.f2 < 0 ∨ x.f2 > 4 ∨ (x.f2 = 0 ∧ x.f4 = false)
  · rw [if_pos h4] at h; exact absurd h (by decide)
  rw [if_neg h4] at h
  refine ⟨by omega, by omega, by omega, ?_⟩
  by_cases h5 : x.f2 = 4
  · rw [if_pos h5] at h
    by_cases h6 : isNm x.f3 = true
    · exact .inl ⟨h5, h6⟩
    · rw [if_neg h6] at h; exact absurd h (by decide)
  · rw [if_neg h5] at h
    by_cases h6 : bs x.f3 = []
    · exact .inr ⟨h5, h6⟩
    · rw [if_neg h6] at h; exact absurd h (by decide)
theorem relsR_valid {ts ds : Int} (ht : 0 ≤ ts ∧ ts ≤ 16384) (hd : 0 ≤ ds ∧ ds ≤ 16384) (l : List S43) : ∀ b, relsR ts ds b l = 0 → ∀ x ∈ l, RelV x := by
  induction l with
  | nil => intro _ _ s hs; cases hs
  | cons x l ih =>
    intro b h s hs
    unfold relsR at h
    split at h
    · rename_i h1
      rcases List.mem_cons.1 hs with rfl | hs
      · exact relR_valid ht hd h1
      · exact ih _ h s hs
    · rename_i h1; exact absurd h h1
theorem valid_of {m : Md} (h : m.check = 0) : Valid m := by
  unfold Md.check checkR at h
  split at h
  · rename_i h0
    split at h
    · exact absurd h (by decide)
    · rename_i h1
      split at h
      · exact absurd h (by decide)
      · rename_i h2
        split at h
        · rename_i h3
          exact ⟨h0, ⟨by omega, by omega⟩, by omega, ⟨by omega, by omega⟩, by omega, by omega, symsR_valid _ _ h3, relsR_valid ⟨by omega, by omega⟩ ⟨by omega, by omega⟩ _ _ h⟩
        · rename_i h3; exact absurd h h3
  · exact absurd h (by decide)
theorem nm_len {s : ByteArray} (h : isNm s = true) : 1 ≤ s.size ∧ s.size ≤ 14 := by
  have := nameL_len h
  rwa [bs_length] at this
theorem SymV.len {s : S62} (h : SymV s) : s.f0.size ≤ 14 := (nm_len h.h0).2
theorem RelV.len {x : S43} (h : RelV x) : x.f3.size ≤ 14 := by
  rcases h.h3 with h | h
  · exact (nm_len h.2).2
  · rw [← bs_length, h.2]; exact Nat.zero_le _
theorem mx_id {n : Int} (h : 0 ≤ n) : mx n 0 = n := by unfold mx; rw [if_neg (by omega)]
def bitB (b : Bool) : List UInt8 := [if b = true then 1 else 0]
def symB (s : S62) : List UInt8 := ((putT (bs s.f0) ++ le s.f1 1) ++ le s.f2 2) ++ bitB s.f3
def relB (x : S43) : List UInt8 := (((le x.f0 1 ++ le x.f1 2) ++ le x.f2 1) ++ putT (bs x.f3)) ++ bitB x.f4
def headB (m : Md) : List UInt8 := ((([79, 66, 74, 49] ++ putT (bs m.a0)) ++ putT (bs m.a1)) ++ putT (bs m.a2)) ++ le m.a3 2
def symsB (l : List S62) : List UInt8 := l.flatMap symB
def relsB (l : List S43) : List UInt8 := l.flatMap relB
def bodyB (m : Md) : List UInt8 := (((headB m ++ le (m.l4.length : Int) 2) ++ symsB m.l4) ++ le (m.l5.length : Int) 2) ++ relsB m.l5
theorem putT_length (l : List UInt8) : (putT l).length ≤ 65537 := by
  unfold putT; rw [List.length_append, le_length, List.length_take]; omega
theorem symB_length (s : S62) : (symB s).length ≤ 65541 := by
  unfold symB bitB
  have := putT_length (bs s.f0)
  simp only [List.length_append, le_length, List.length_singleton]
  omega
theorem relB_length (x : S43) : (relB x).length ≤ 65542 := by
  unfold relB bitB
  have := putT_length (bs x.f3)
  simp only [List.length_append, le_length, List.length_singleton]
  omega
theorem symsB_length (l : List S62) : (symsB l).length ≤ 65541 * l.length := by
  induction l with
  | nil => simp [symsB]
  | cons s l ih =>
    have h1 := symB_length s
    have h2 : symsB (s :: l) = symB s ++ symsB l := rfl
    rw [h2, List.length_append, List.length_cons]
    omega
theorem relsB_length (l : List S43) : (relsB l).length ≤ 65542 * l.length := by
  induction l with
  | nil => simp [relsB]
  | cons s l ih =>
    have h1 := relB_length s
    have h2 : relsB (s :: l) = relB s ++ relsB l := rfl
    rw [h2, List.length_append, List.length_cons]
    omega
theorem headB_length (m : Md) : (headB m).length ≤ 196617 := by
  unfold headB
  have h1 := putT_length (bs m.a0)
  have h2 := putT_length (bs m.a1)
  have h3 := putT_length (bs m.a2)
  simp only [List.length_append, le_length, List.length_cons, List.length_nil]
  omega
theorem symsB_take (l : List S62) (i : Nat) (h : i < l.length) : symsB (l.take (i + 1)) = symsB (l.take i) ++ symB l[i] := by
  unfold symsB; rw [List.take_succ_eq_append_getElem h, List.flatMap_append]; simp
theorem relsB_take (l : List S43) (i : Nat) (h : i < l.length) : relsB (l.take (i + 1)) = relsB (l.take i) ++ relB l[i] := by
  unfold relsB; rw [List.take_succ_eq_append_getElem h, List.flatMap_append]; simp
abbrev Rd := Int × Bool
def rdT (t : List UInt8) (p : Rd) : List UInt8 × Rd := if (getT t p.1).2.2 = 0 then ((getT t p.1).1, ((getT t p.1).2.1, p.2)) else ([], (p.1, true))
def rdN (t : List UInt8) (p : Rd) (w : Int) : Int × Rd := if (getR t p.1 w).2.2 = 0 then ((getR t p.1 w).1, ((getR t p.1 w).2.1, p.2)) else (0, (p.1, true))
def rdS (t : List UInt8) (p : Rd) : S62 × Rd :=
  (⟨mkS (rdT t p).1, (rdN t (rdT t p).2 1).1, (rdN t (rdN t (rdT t p).2 1).2 2).1, (rdN t (rdN t (rdN t (rdT t p).2 1).2 2).2 1).1 == 1⟩, (rdN t (rdN t (rdN t (rdT t p).2 1).2 2).2 1).2)
def rdX (t : List UInt8) (p : Rd) : S43 × Rd :=
  (⟨(rdN t p 1).1, (rdN t (rdN t p 1).2 2).1, (rdN t (rdN t (rdN t p 1).2 2).2 1).1, mkS (rdT t (rdN t (rdN t (rdN t p 1).2 2).2 1).2).1, (rdN t (rdT t (rdN t (rdN t (rdN t p 1).2 2).2 1).2).2 1).1 == 1⟩, (rdN t (rdT t (rdN t (rdN t (rdN t p 1).2 2).2 1).2).2 1).2)
def rdL {α : Type} (f : Rd → α × Rd) : Nat → Rd → List α × Rd
  | 0, p => ([], p)
  | n + 1, p => if p.2 = true then ([], p) else ((f p).1 :: (rdL f n (f p).2).1, (rdL f n (f p).2).2)
theorem rdL_bad {α : Type} (f : Rd → α × Rd) (n : Nat) (p : Rd) (h : p.2 = true) : rdL f n p = ([], p) := by
  cases n with
  | zero => rfl
  | succ n => unfold rdL; rw [if_pos h]
theorem rdL_length {α : Type} (f : Rd → α × Rd) (n : Nat) : ∀ p : Rd, (rdL f n p).1.length ≤ n := by
  induction n with
  | zero => intro p; exact Nat.le_refl _
  | succ n ih =>
    intro p
    unfold rdL
    split
    · exact Nat.zero_le _
    · have := ih (f p).2; simp; omega
def parseM (t : List UInt8) : Md × Rd :=
  let x0 := rdT t (4, false); let x1 := rdT t x0.2; let x2 := rdT t x1.2; let x3 := rdN t x2.2 2; let n4 := rdN t x3.2 2
  let x4 := rdL (rdS t) n4.1.toNat n4.2; let n5 := rdN t x4.2 2; let x5 := rdL (rdX t) n5.1.toNat n5.2
  (⟨mkS x0.1, mkS x1.1, mkS x2.1, x3.1, x4.1, x5.1⟩, x5.2)
def decR (s : List UInt8) : Md × Int :=
  if (openR s).2 = 0 then
    (if (parseM (openR s).1).2.2 = true ∨ (parseM (openR s).1).1.check ≠ 0 ∨ bodyB (parseM (openR s).1).1 ≠ (openR s).1 then (m0, 9) else ((parseM (openR s).1).1, 0))
  else (m0, (openR s).2)
def encR (m : Md) : List UInt8 × Int := if m.check = 0 then (seal_ (bodyB m), 0) else ([], m.check)
theorem decR_cases (s : List UInt8) : ((decR s).2 ≠ 0 ∧ (decR s).1 = m0) ∨ ((decR s).2 = 0 ∧ (decR s).1.check = 0 ∧ s = seal_ (bodyB (decR s).1) ∧ openR s = (bodyB (decR s).1, 0)) := by
  unfold decR
  by_cases h : (openR s).2 = 0
  · rw [if_pos h]
    split
    · exact .inl ⟨by decide, rfl⟩
    · rename_i h2
      have h3 : (parseM (openR s).1).1.check = 0 := by
        rcases Int.decEq (parseM (openR s).1).1.check 0 with h4 | h4
        · exact absurd (.inr (.inl h4)) h2
        · exact h4
      have h5 : bodyB (parseM (openR s).1).1 = (openR s).1 := by
        by_cases h4 : bodyB (parseM (openR s).1).1 = (openR s).1
        · exact h4
        · exact absurd (.inr (.inr h4)) h2
      refine .inr ⟨rfl, h3, ?_, ?_⟩
      · simp only
        rw [h5]
        have ho : opened s := by
          unfold openR at h
          split at h
          · exact absurd h (by decide)
          · rename_i h6
            split at h
            · rename_i h7; exact ⟨by omega, h7⟩
            · exact absurd h (by decide)
        rw [openR_opened s ho]
        exact (opened_eq s ho).symm
      · simp only
        rw [h5]
        exact Prod.ext rfl h
  · rw [if_neg h]
    exact .inl ⟨h, rfl⟩
end Go.Proofs.Ytenlmckahaniiaa.Obj
end
