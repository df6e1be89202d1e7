/- What the reference's functions of octet answer; texts and words. -/
import Derived.Test.YtenlmckahaniiaaMyOctB
import Derived.Test.YtenlmckahaniiaaKx16
import Derived.Test.YtenlmckahaniiaaKx21
import Derived.Test.YtenlmckahaniiaaKx34
import Derived.Test.YtenlmckahaniiaaKx35
import Derived.Test.YtenlmckahaniiaaKx40
import Derived.Test.YtenlmckahaniiaaKx41
import Derived.Test.YtenlmckahaniiaaKx42
set_option linter.unusedVariables false
set_option linter.unusedSimpArgs false
namespace Go.Proofs.Ytenlmckahaniiaa.Oct
open Go Go.RowKit Go.Proofs.Ytenlmckahaniiaa.K Go.Proofs.YtenlmckahaniiaaW.PrintWords Go.Proofs.YtenlmckahaniiaaW.PrintMore Go.Proofs.Ytenlmckahaniiaa.MyBits Go.Proofs.Ytenlmckahaniiaa.MyStr

/-! Put -/
theorem rput_loop (w : Int) (d : Nat) : ∀ (n : Int) (i : Nat) (pre : List Int), 0 ≤ n → n ≤ 9223372036854775807 → i + d = width w → pre.length = i →
    Ev (fun k => emulatorref03_Put.l0 k n w pre (i : Int)) (mkS (byt (pre ++ lei n d))) := by
  have hw := width_le w
  have hx : ∀ i : Nat, i < width w → ((i : Int) < w ∧ (i : Int) < 8) := by intro i hi; unfold width mx mn at hi; split at hi <;> split at hi <;> omega
  have hy : ¬ ((width w : Int) < w ∧ (width w : Int) < 8) := by unfold width mx mn; split <;> split <;> omega
  induction d with
  | zero =>
    intro n i pre h0 h1 hi hp
    obtain rfl : i = width w := by omega
    refine Ev.step (f := fun _ => some (mkS (byt (pre ++ lei n 0)))) (fun k => ?_) (Ev.now _)
    rw [emulatorref03_Put.l0]
    by_cases h : (width w : Int) < w
    · rw [if_pos h, if_neg (fun h2 => hy ⟨h, h2⟩), nums_mkS]; simp [lei]
    · rw [if_neg h, nums_mkS]; simp [lei]
  | succ d ih =>
    intro n i pre h0 h1 hi hp
    have hi2 := hx i (by omega)
    have hn := ih (n / 256) (i + 1) (pre ++ [n % 256]) (by omega) (by omega) (by omega) (by rw [List.length_append]; simp [hp])
    have e : pre ++ lei n (d + 1) = pre ++ [n % 256] ++ lei (n / 256) d := by rw [List.append_assoc]; rfl
    rw [e]
    refine Ev.step ?_ hn
    intro k
    rw [emulatorref03_Put.l0, if_pos hi2.1, if_pos hi2.2, if_pos (by omega), i64_nat i (by omega)]
    have e1 : Int.tdiv n 256 = n / 256 := Int.tdiv_eq_ediv_of_nonneg h0
    have e2 : Int.tmod n 256 = n % 256 := Int.tmod_eq_emod_of_nonneg h0
    rw [e1, e2, show wrap64 (n / 256) = n / 256 by unfold wrap64; omega, show n % 256 % 256 = n % 256 by omega]
theorem rput_is (a w : Int) (h1 : a ≤ 9223372036854775807) : Ev (fun k => emulatorref03_Put.f k a w) (mkS (le (mx a 0) (width w))) := by
  have go : ∀ n : Int, 0 ≤ n → n ≤ 9223372036854775807 → Ev (fun k => emulatorref03_Put.j0 k n w) (mkS (le n (width w))) := by
    intro n h0 h1
    have h := rput_loop w (width w) n 0 [] h0 h1 (by omega) rfl
    exact Ev.step (fun k => by rw [emulatorref03_Put.j0]; rfl) h
  unfold emulatorref03_Put.f
  by_cases h : a < 0
  · rw [show mx a 0 = 0 by unfold mx; rw [if_pos h]]
    exact Ev.congr (fun k => if_pos h) (go 0 (by decide) (by decide))
  · rw [show mx a 0 = a by unfold mx; rw [if_neg h]]
    exact Ev.congr (fun k => if_neg h) (go a (by omega) h1)

/-! Get -/
theorem rget_loop (s : ByteArray) (a w : Nat) (hw : w ≤ 7) (ha : a + w ≤ s.size) (hs : s.size ≤ 9223372036854775807) (d : Nat) : d ≤ w →
    Ev (fun k => emulatorref03_Get.l0 k s (a : Int) (w : Int) (num (((((bs s).drop a).take w)).drop d)) ((a : Int) + d - 1)) (num (((bs s).drop a).take w), (a : Int) + w, 0) := by
  have hlen : (((bs s).drop a).take w).length = w := by rw [List.length_take, List.length_drop, bs_length]; omega
  induction d with
  | zero =>
    intro _
    refine Ev.step (f := fun _ => some (num ((((bs s).drop a).take w).drop 0), wrap64 ((a : Int) + w), 0)) (fun k => by rw [emulatorref03_Get.l0, if_neg (by omega)]) ?_
    rw [List.drop_zero, show wrap64 ((a : Int) + w) = (a : Int) + w by unfold wrap64; omega]
    exact Ev.now _
  | succ d ih =>
    intro hd
    refine Ev.step ?_ (ih (by omega))
    intro k
    have e1 : (a : Int) + ((d + 1 : Nat) : Int) - 1 = (a : Int) + (d : Int) := by omega
    have hr := num_drop_range (((bs s).drop a).take w) (d + 1) (by omega) (by omega)
    have hb := bt_rng s ((a : Int) + d)
    rw [e1, emulatorref03_Get.l0, if_pos (by omega), if_pos (by omega), if_pos (by omega), show wrap64 ((a : Int) + (d : Int) - 1) = (a : Int) + (d : Int) - 1 by unfold wrap64; omega]
    have e3 : wrap64 (wrap64 (256 * num (((bs s).drop a |>.take w).drop (d + 1))) + wrap64 (bt s ((a : Int) + d))) = num (((bs s).drop a |>.take w).drop d) := by
      rw [num_drop (((bs s).drop a).take w) d (by omega), bt_bs, show ((a : Int) + d).toNat = a + d by omega, byteAt_slice (bs s) a w d (by omega)]
      have := byteAt_range (((bs s).drop a).take w) d
      unfold wrap64; omega
    rw [e3]
theorem rget_is (s : ByteArray) (a w : Int) (hs : s.size ≤ 9223372036854775807) : Ev (fun k => emulatorref03_Get.f k s a w) (getR (bs s) a w) := by
  have bad : Ev (fun k => emulatorref03_Get.j0 k s a w true) (0, 0, 1) := Ev.step (f := fun _ => some (0, 0, 1)) (fun k => by rw [emulatorref03_Get.j0, if_pos rfl]) (Ev.now _)
  unfold getR
  rw [bs_length]
  by_cases h1 : w < 1
  · rw [if_pos (by omega)]; refine Ev.congr (fun k => ?_) bad; unfold emulatorref03_Get.f; rw [if_pos h1]
  by_cases h2 : w > 7
  · rw [if_pos (by omega)]; refine Ev.congr (fun k => ?_) bad; unfold emulatorref03_Get.f; rw [if_neg h1, if_pos h2]
  by_cases h3 : a < 0
  · rw [if_pos (by omega)]; refine Ev.congr (fun k => ?_) bad; unfold emulatorref03_Get.f; rw [if_neg h1, if_neg h2, if_pos h3]
  by_cases h4 : a > (s.size : Int)
  · rw [if_pos (by omega)]; refine Ev.congr (fun k => ?_) bad; unfold emulatorref03_Get.f; rw [if_neg h1, if_neg h2, if_neg h3, decide_eq_true h4]
  rw [if_neg (by omega)]
  have hw : wrap64 ((s.size : Int) - a) = (s.size : Int) - a := by unfold wrap64; omega
  by_cases h5 : w > (s.size : Int) - a
  · rw [if_pos h5]
    refine Ev.congr (f := fun k => emulatorref03_Get.j0 k s a w false) (fun k => by unfold emulatorref03_Get.f; rw [if_neg h1, if_neg h2, if_neg h3, decide_eq_false h4]) ?_
    exact Ev.step (f := fun _ => some (0, 0, 8)) (fun k => by rw [emulatorref03_Get.j0, if_neg (by decide), hw, if_pos (by omega)]) (Ev.now _)
  · rw [if_neg h5]
    obtain ⟨a, rfl⟩ := Int.eq_ofNat_of_zero_le (show 0 ≤ a by omega)
    obtain ⟨w, rfl⟩ := Int.eq_ofNat_of_zero_le (show 0 ≤ w by omega)
    refine Ev.congr (f := fun k => emulatorref03_Get.j0 k s a w false) (fun k => by unfold emulatorref03_Get.f; rw [if_neg h1, if_neg h2, if_neg h3, decide_eq_false h4]) ?_
    have hl := rget_loop s a w (by omega) (by omega) hs w (Nat.le_refl _)
    have hlen : (((bs s).drop a).take w).length = w := by rw [List.length_take, List.length_drop, bs_length]; omega
    rw [List.drop_of_length_le (by omega)] at hl
    refine Ev.step ?_ hl
    intro k
    rw [emulatorref03_Get.j0, if_neg (by decide), hw, if_neg (by omega), show wrap64 (wrap64 ((a : Int) + w) - 1) = (a : Int) + w - 1 by unfold wrap64; omega]
    rfl

/-! Crc -/
theorem rcrc_l1 (c : Nat) (hc : c < 4294967296) (s : ByteArray) (i : Int) (d : Nat) (r : Int) : ∀ e : Nat, e + d = 8 →
    Ev (fun k => emulatorref03_Crc.l0 k s (steps d c : Nat) (wrap64 (i + 1))) r → Ev (fun k => emulatorref03_Crc.l1 k s (c : Int) i (e : Int)) r := by
  induction d generalizing c with
  | zero =>
    intro e he h
    refine Ev.step ?_ h
    intro k
    rw [emulatorref03_Crc.l1, if_neg (by omega)]
    rfl
  | succ d ih =>
    intro e he h
    refine Ev.step ?_ (ih (step c) (step_lt c hc) (e + 1) (by omega) h)
    intro k
    have e2 : (c : Int) / 2 = ((c / 2 : Nat) : Int) := by omega
    have e3 : Int.tmod (c : Int) 2 = ((c % 2 : Nat) : Int) := by rw [Int.tmod_eq_emod_of_nonneg (by omega)]; omega
    rw [emulatorref03_Crc.l1, if_pos (by omega), e2, e3, i64_nat e (by omega)]
    unfold step
    by_cases h2 : c % 2 = 1
    · rw [if_pos (by omega), if_pos h2, show (3988292384 : Int) = ((3988292384 : Nat) : Int) from rfl, u32_xor_nat _ _ (by omega) (by decide)]
    · rw [if_neg (by omega), if_neg h2]
theorem rcrc_l0 (s : ByteArray) (hs : s.size ≤ 9223372036854775806) (d : Nat) : ∀ i : Nat, i + d = s.size →
    Ev (fun k => emulatorref03_Crc.l0 k s (crcs 4294967295 ((bs s).take i) : Nat) (i : Int)) (crc (bs s) : Nat) := by
  induction d with
  | zero =>
    intro i hi
    have hlt := crcs_lt 4294967295 (bs s) (by decide)
    refine Ev.step (f := fun _ => some ((crc (bs s) : Nat) : Int)) (fun k => ?_) (Ev.now _)
    rw [emulatorref03_Crc.l0, if_neg (by omega), List.take_of_length_le (by rw [bs_length]; omega), show (4294967295 : Int) = ((4294967295 : Nat) : Int) from rfl, u32_xor_nat _ _ hlt (by decide)]
    have := crc_lt (bs s)
    unfold crc at *
    congr 1; unfold wrap64; omega
  | succ d ih =>
    intro i hi
    have hlt := crcs_lt 4294967295 ((bs s).take i) (by decide)
    have hb : i < (bs s).length := by rw [bs_length]; omega
    have h8 := UInt8.toNat_lt (bs s)[i]
    have hx : crcs 4294967295 ((bs s).take i) ^^^ ((bs s)[i]).toNat < 4294967296 := Nat.xor_lt_two_pow (n := 32) hlt (by omega)
    have hn := ih (i + 1) (by omega)
    rw [crcs_take _ (bs s) i hb] at hn
    have h2 := rcrc_l1 (crcs 4294967295 ((bs s).take i) ^^^ ((bs s)[i]).toNat) hx s (i : Int) 8 _ 0 (by omega) (by rw [i64_nat i (by omega)]; exact hn)
    refine Ev.step ?_ h2
    intro k
    rw [emulatorref03_Crc.l0, if_pos (by omega), if_pos (by omega)]
    congr 1
    have e : bt s (i : Int) % 4294967296 = (((bs s)[i]).toNat : Int) := by
      rw [bt_bs, Int.toNat_natCast]; unfold byteAt; rw [List.getElem?_eq_getElem hb, Option.getD_some]; omega
    rw [e, u32_xor_nat _ _ hlt (by omega)]
theorem rcrc_is (s : ByteArray) (hs : s.size ≤ 9223372036854775806) : Ev (fun k => emulatorref03_Crc.f k s) (crc (bs s) : Nat) :=
  rcrc_l0 s hs s.size 0 (by omega)

/-! Seal and Open -/
theorem rseal_is (s : ByteArray) (hs : s.size < 140737488355000) : Ev (fun k => emulatorref03_Seal.f k s) (mkS (seal_ (bs s))) := by
  have := crc_lt (bs s)
  unfold emulatorref03_Seal.f
  refine Ev.bind (rcrc_is s (by omega)) (Ev.bind (rput_is _ 4 (by omega)) ?_)
  refine Ev.congr (fun k => if_pos (by rw [mkS_size, le_length]; have := width_le 4; omega)) ?_
  rw [mx_nonneg, ← mkS_bs s, mkS_append, bs_mkS]
  exact Ev.now _
theorem ropen_is (s : ByteArray) (hs : s.size < 140737488355000) : Ev (fun k => emulatorref03_Open.f k s) (mkS (openR (bs s)).1, (openR (bs s)).2) := by
  have hw : wrap64 ((s.size : Int) - 4) = (s.size : Int) - 4 := by unfold wrap64; omega
  unfold emulatorref03_Open.f openR
  simp only [hw, bs_length]
  by_cases h : s.size < 4
  · rw [if_pos h]
    refine Ev.congr (fun k => if_pos (by omega)) (Ev.now _)
  · rw [if_neg h]
    have e : ((s.size : Int) - 4).toNat = s.size - 4 := by omega
    rw [e]
    have hx : s.extract 0 (s.size - 4) = mkS ((bs s).take (s.size - 4)) := by rw [extract_mkS, List.drop_zero]
    have hy : s.extract (s.size - 4) s.size = mkS ((bs s).drop (s.size - 4)) := by rw [extract_mkS, List.take_of_length_le (by rw [bs_length]; omega)]
    rw [hx, hy]
    have h1 := rcrc_is (mkS ((bs s).take (s.size - 4))) (by rw [mkS_size, List.length_take]; omega)
    rw [bs_mkS] at h1
    have hc := crc_lt ((bs s).take (s.size - 4))
    have h2 := rput_is ((crc ((bs s).take (s.size - 4)) : Nat) : Int) 4 (by omega)
    rw [mx_nonneg] at h2
    refine Ev.congr (fun k => by rw [if_neg (by omega), if_pos (by omega), if_pos (by omega)]) ?_
    refine Ev.bind h1 (Ev.bind h2 ?_)
    rw [toList_bs, toList_bs, bs_mkS, bs_mkS]
    by_cases h3 : (bs s).drop (s.size - 4) = le (crc ((bs s).take (s.size - 4)) : Nat) 4
    · rw [if_pos h3]
      exact Ev.congr (fun k => if_pos h3.symm) (Ev.now _)
    · rw [if_neg h3]
      exact Ev.congr (fun k => if_neg (fun h => h3 h.symm)) (Ev.now _)

/-! Texts -/
/-- The bytes of a text: its length, and the text (at most 65535 bytes). -/
def putT (l : List UInt8) : List UInt8 := le ((l.take 65535).length : Nat) 2 ++ l.take 65535
theorem putT_small (l : List UInt8) (h : l.length ≤ 65535) : putT l = le (l.length : Nat) 2 ++ l := by unfold putT; rw [List.take_of_length_le h]
theorem putText_is (s : ByteArray) (hs : s.size < 140737488355000) : Ev (fun k => octet_PutText.f k s) (mkS (putT (bs s))) := by
  have hm : mn (s.size : Int) 65535 = (min s.size 65535 : Nat) := by unfold mn; split <;> omega
  unfold octet_PutText.f
  rw [hm]
  have hx : s.extract 0 ((min s.size 65535 : Nat) : Int).toNat = mkS ((bs s).take 65535) := by
    have hb := bs_length s
    rw [extract_mkS, List.drop_zero, Int.toNat_natCast, show (bs s).take (min s.size 65535) = (bs s).take 65535 from List.take_eq_take_iff.2 (by omega)]
  rw [hx]
  have hz : (mkS ((bs s).take 65535)).size ≤ 65535 := by rw [mkS_size, List.length_take]; omega
  refine Ev.congr (fun k => by rw [if_pos (by omega), if_pos (by omega)]) ?_
  refine Ev.bind (put_is _ 2) (Ev.bind (joined_two _ _ ?_) ?_)
  · rw [mkS_size, le_length]; have := width_le 2; omega
  · rw [bs_mkS, bs_mkS, mx_nonneg, mkS_size]
    exact Ev.now _
theorem rputText_is (s : ByteArray) (hs : s.size < 140737488355000) : Ev (fun k => emulatorref03_PutText.f k s) (mkS (putT (bs s))) := by
  have hw := width_le 2
  unfold emulatorref03_PutText.f
  by_cases h : (s.size : Int) > 65535
  · have hx : s.extract 0 65535 = mkS ((bs s).take 65535) := by rw [extract_mkS, List.drop_zero]
    have hz : (mkS ((bs s).take 65535)).size ≤ 65535 := by rw [mkS_size, List.length_take]; omega
    rw [hx]
    refine Ev.congr (fun k => by rw [if_pos h, if_pos (by decide), if_pos (by omega)]) ?_
    refine Ev.bind (rput_is _ 2 (by omega)) ?_
    refine Ev.congr (fun k => if_pos (by rw [mkS_size, le_length]; omega)) ?_
    rw [mx_nonneg, mkS_append, mkS_size]
    exact Ev.now _
  · refine Ev.congr (fun k => if_neg h) ?_
    refine Ev.bind (rput_is _ 2 (by omega)) ?_
    refine Ev.congr (fun k => if_pos (by rw [mkS_size, le_length]; omega)) ?_
    rw [mx_nonneg, putT_small _ (by rw [bs_length]; omega), bs_length]
    have e : mkS (le ((s.size : Nat) : Int) (width 2)) ++ s = mkS (le ((s.size : Nat) : Int) 2 ++ bs s) := by
      apply bs_inj; rw [bs_append]; rfl
    rw [← e]
    exact Ev.now _
/-- What GetText answers. -/
def getT (l : List UInt8) (a : Int) : List UInt8 × Int × Int :=
  if (getR l a 2).2.2 = 0 then
    if (getR l a 2).1 > l.length - (a + 2) then ([], 0, 8) else ((l.drop (a + 2).toNat).take (getR l a 2).1.toNat, a + 2 + (getR l a 2).1, 0)
  else ([], 0, (getR l a 2).2.2)
theorem getT_err {l : List UInt8} {a : Int} (h : ¬ (getR l a 2).2.2 = 0) : getT l a = ([], 0, (getR l a 2).2.2) := by unfold getT; rw [if_neg h]
theorem getT_short {l : List UInt8} {a : Int} (h : (getR l a 2).2.2 = 0) (hn : (getR l a 2).1 > l.length - (a + 2)) : getT l a = ([], 0, 8) := by unfold getT; rw [if_pos h, if_pos hn]
theorem getT_ok {l : List UInt8} {a : Int} (h : (getR l a 2).2.2 = 0) (hn : ¬ (getR l a 2).1 > l.length - (a + 2)) : getT l a = ((l.drop (a + 2).toNat).take (getR l a 2).1.toNat, a + 2 + (getR l a 2).1, 0) := by unfold getT; rw [if_pos h, if_neg hn]
theorem getR_ok (l : List UInt8) (a w : Int) (h : (getR l a w).2.2 = 0) : 1 ≤ w ∧ w ≤ 7 ∧ 0 ≤ a ∧ a + w ≤ l.length ∧ getR l a w = (num ((l.drop a.toNat).take w.toNat), a + w, 0) := by
  unfold getR at *
  split at h
  · cases h
  · rename_i h1
    rw [if_neg h1] at *
    split at h
    · cases h
    · rename_i h2
      rw [if_neg h2]
      exact ⟨by omega, by omega, by omega, by omega, rfl⟩
theorem getR2_range (l : List UInt8) (a : Int) (h : (getR l a 2).2.2 = 0) : 0 ≤ (getR l a 2).1 ∧ (getR l a 2).1 < 65536 := by
  obtain ⟨_, _, h3, h4, h5⟩ := getR_ok l a 2 h
  rw [h5]
  have := num_range ((l.drop a.toNat).take (2 : Int).toNat)
  rw [List.length_take, List.length_drop, show min (2 : Int).toNat (l.length - a.toNat) = 2 by omega] at this
  exact ⟨this.1, by have h6 := this.2; rw [show (256 : Int) ^ 2 = 65536 by decide] at h6; exact h6⟩
theorem getText_is (s : ByteArray) (a : Int) (hs : s.size < 140737488355000) : Ev (fun k => octet_GetText.f k s a) (mkS (getT (bs s) a).1, (getT (bs s) a).2) := by
  unfold octet_GetText.f
  refine Ev.bind (get_is s a 2 (by omega)) ?_
  by_cases h : (getR (bs s) a 2).2.2 = 0
  · obtain ⟨_, _, h3, h4, h5⟩ := getR_ok _ a 2 h
    obtain ⟨h6, h7⟩ := getR2_range _ a h
    have h8 : (getR (bs s) a 2).2.1 = a + 2 := by rw [h5]
    have hlen := bs_length s
    have hw : wrap64 ((s.size : Int) - (a + 2)) = (s.size : Int) - (a + 2) := by unfold wrap64; omega
    by_cases hn : (getR (bs s) a 2).1 > ((bs s).length : Int) - (a + 2)
    · rw [getT_short h hn]
      exact Ev.congr (fun k => by rw [if_pos h, h8, hw, if_pos (by omega)]; rfl) (Ev.now _)
    · rw [getT_ok h hn, h8]
      generalize (getR (bs s) a 2).1 = n at *
      have hx : s.extract (a + 2).toNat s.size = mkS ((bs s).drop (a + 2).toNat) := by rw [extract_mkS, List.take_of_length_le (by rw [bs_length]; omega)]
      have hy : (mkS ((bs s).drop (a + 2).toNat)).extract 0 n.toNat = mkS (((bs s).drop (a + 2).toNat).take n.toNat) := by rw [extract_mkS, List.drop_zero, bs_mkS]
      have hz : ((mkS ((bs s).drop (a + 2).toNat)).size : Int) = s.size - (a + 2) := by rw [mkS_size, List.length_drop, bs_length]; omega
      rw [hx, hy, hz]
      exact Ev.congr (fun k => by rw [if_pos h, hw, if_neg (by omega), if_pos (by omega), if_pos (by omega), if_pos (by omega), if_pos (by omega), show wrap64 (a + 2 + n) = a + 2 + n by unfold wrap64; omega]) (Ev.now _)
  · rw [getT_err h]
    exact Ev.congr (fun k => by rw [if_neg h]; rfl) (Ev.now _)
theorem rgetText_is (s : ByteArray) (a : Int) (hs : s.size < 140737488355000) : Ev (fun k => emulatorref03_GetText.f k s a) (mkS (getT (bs s) a).1, (getT (bs s) a).2) := by
  have bad : (a < 0 ∨ a > (s.size : Int)) → getR (bs s) a 2 = (0, 0, 1) := by intro h; unfold getR; rw [bs_length, if_pos (by omega)]
  have bad2 : Ev (fun k => emulatorref03_GetText.j0 k s a true) ((⟨#[]⟩ : ByteArray), 0, 1) := Ev.step (f := fun _ => some _) (fun k => by rw [emulatorref03_GetText.j0, if_pos rfl]) (Ev.now _)
  unfold emulatorref03_GetText.f
  by_cases h1 : a < 0
  · have hT : getT (bs s) a = ([], 0, 1) := by rw [getT_err (by rw [bad (.inl h1)]; decide), bad (.inl h1)]
    rw [hT]
    exact Ev.congr (fun k => if_pos h1) bad2
  by_cases h2 : a > (s.size : Int)
  · have hT : getT (bs s) a = ([], 0, 1) := by rw [getT_err (by rw [bad (.inr h2)]; decide), bad (.inr h2)]
    rw [hT]
    exact Ev.congr (fun k => by rw [if_neg h1, decide_eq_true h2]) bad2
  refine Ev.congr (f := fun k => emulatorref03_GetText.j0 k s a false) (fun k => by rw [if_neg h1, decide_eq_false h2]) ?_
  refine Ev.step (fun k => by rw [emulatorref03_GetText.j0, if_neg (by decide)]) ?_
  refine Ev.bind (rget_is s a 2 (by omega)) ?_
  by_cases h : (getR (bs s) a 2).2.2 = 0
  · obtain ⟨_, _, h3, h4, h5⟩ := getR_ok _ a 2 h
    obtain ⟨h6, h7⟩ := getR2_range _ a h
    have h8 : (getR (bs s) a 2).2.1 = a + 2 := by rw [h5]
    have hlen := bs_length s
    have hw : wrap64 ((s.size : Int) - (a + 2)) = (s.size : Int) - (a + 2) := by unfold wrap64; omega
    by_cases hn : (getR (bs s) a 2).1 > ((bs s).length : Int) - (a + 2)
    · rw [getT_short h hn]
      exact Ev.congr (fun k => by rw [if_pos h, h8, hw, if_pos (by omega)]; rfl) (Ev.now _)
    · rw [getT_ok h hn, h8]
      generalize (getR (bs s) a 2).1 = n at *
      have hwn : wrap64 (a + 2 + n) = a + 2 + n := by unfold wrap64; omega
      have hx : s.extract (a + 2).toNat (a + 2 + n).toNat = mkS (((bs s).drop (a + 2).toNat).take n.toNat) := by
        rw [extract_mkS, List.drop_take, show (a + 2 + n).toNat - (a + 2).toNat = n.toNat by omega]
      rw [← hx]
      exact Ev.congr (fun k => by rw [if_pos h, hw, if_neg (by omega), if_pos (by omega), hwn, if_pos (by omega), if_pos (by omega)]) (Ev.now _)
  · rw [getT_err h]
    exact Ev.congr (fun k => by rw [if_neg h]; rfl) (Ev.now _)
end Go.Proofs.Ytenlmckahaniiaa.Oct
