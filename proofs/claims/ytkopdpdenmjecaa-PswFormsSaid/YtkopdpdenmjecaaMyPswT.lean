/- The texts of status words: what Text answers; the two laws on it. -/
import Derived.Test.YtkopdpdenmjecaaMyPswP
import Derived.Test.YtkopdpdenmjecaaMyStr
set_option linter.unusedVariables false
set_option linter.unusedSimpArgs false
namespace Go.Proofs.Ytkopdpdenmjecaa.Pure
open Go Go.RowKit Go.Proofs.Ytkopdpdenmjecaa.K Go.Proofs.YtkopdpdenmjecaaW.PrintWords Go.Proofs.YtkopdpdenmjecaaW.PrintLast Go.Proofs.YtkopdpdenmjecaaW.PrintMore Go.Proofs.Ytkopdpdenmjecaa.MyBits Go.Proofs.Ytkopdpdenmjecaa.MyStr

/-- A letter for a bit. -/
def let1 (x c : Int) : Int := if x % 2 = 0 then 45 else c
def tab : List Int := [84, 78, 90, 86, 67]
theorem shr_pow (a y : Int) (n : Nat) (z : Int) (hy : y.toNat = n) (hn : n ≤ 64) (hz : (2 : Int) ^ n = z) : shr .i64 a y = a / z := by
  unfold shr
  rw [hy, show min n IntKind.i64.bits = n from Nat.min_eq_left hn, hz]
theorem text_step (k : Nat) (a : Int) (xs : List Int) (i : Int) (y c : Int) (h0 : 0 ≤ i) (h5 : i < 5) (hl : xs.length < 100) (hy : shr .i64 a (wrap64 (4 - i)) = y) (hc : rd tab i = c) :
    psw_Text.l0 (k + 1) a xs tab 5 i = psw_Text.l0 k a (xs ++ [let1 y c]) tab 5 (i + 1) := by
  have hw : wrap64 (i + 1) = i + 1 := by unfold wrap64; omega
  have hw4 : 0 ≤ wrap64 (4 - i) := by unfold wrap64; omega
  rw [psw_Text.l0, if_pos h5, if_pos h0, if_pos (show i < (tab.length : Int) from h5), if_pos hw4, hy, and1, hc, hw]
  unfold let1
  by_cases h : y % 2 = 0
  · rw [if_pos h, if_pos (by omega), if_pos h]
  · rw [if_neg h, if_pos (by omega), if_neg h]
def mid (a : Int) : List Int := [let1 (a / 16) 84, let1 (a / 8) 78, let1 (a / 4) 90, let1 (a / 2) 86, let1 a 67]
theorem text_loop (k : Nat) (a : Int) (x y z : Int) : psw_Text.l0 (k + 6) a [x, y, z] tab 5 0 = some (strOfNums ([x, y, z] ++ mid a)) := by
  rw [text_step (k + 5) a [x, y, z] 0 (a / 16) 84 (by decide) (by decide) (by simp) (shr_pow _ _ 4 _ (by decide +kernel) (by decide) (by decide)) (by decide)]
  rw [text_step (k + 4) a _ (0 + 1) (a / 8) 78 (by decide) (by decide) (by simp) (shr_pow _ _ 3 _ (by decide +kernel) (by decide) (by decide)) (by decide)]
  rw [text_step (k + 3) a _ (0 + 1 + 1) (a / 4) 90 (by decide) (by decide) (by simp) (shr_pow _ _ 2 _ (by decide +kernel) (by decide) (by decide)) (by decide)]
  rw [text_step (k + 2) a _ (0 + 1 + 1 + 1) (a / 2) 86 (by decide) (by decide) (by simp) (shr_pow _ _ 1 _ (by decide +kernel) (by decide) (by decide)) (by decide)]
  rw [text_step (k + 1) a _ (0 + 1 + 1 + 1 + 1) (a / 1) 67 (by decide) (by decide) (by simp) (shr_pow _ _ 0 _ (by decide +kernel) (by decide) (by decide)) (by decide), Int.ediv_one]
  rw [psw_Text.l0, if_neg (by decide)]
  rfl
def ku (x : Int) : Int := bt (⟨#[107, 117]⟩ : ByteArray) x
theorem text_is (k : Nat) (a : Int) : psw_Text.f (k + 6) a = some (strOfNums ([ku (a / 32768 % 2), ku (a / 16384 % 2), 48 + a / 32 % 8] ++ mid a)) := by
  unfold psw_Text.f
  rw [mode_is, prev_is, prio_is]
  simp only [Option.bind_some]
  rw [if_pos (by omega), if_pos (by omega), if_pos (by omega), if_pos (by omega)]
  have h : wrap64 (48 + a / 32 % 8) % 256 = 48 + a / 32 % 8 := by unfold wrap64; omega
  rw [h]
  exact text_loop k a _ _ _

theorem ku_bytes (x : Int) (h0 : 0 ≤ x) (h1 : x ≤ 1) : ku x = if x = 0 then 107 else 117 := by
  have : x = 0 ∨ x = 1 := by omega
  rcases this with rfl | rfl <;> rfl
theorem ku_extract (x : Int) (h0 : 0 ≤ x) (h1 : x ≤ 1) : bs ((⟨#[107, 117]⟩ : ByteArray).extract x.toNat (x + 1).toNat) = [UInt8.ofNat (ku x).toNat] := by
  have : x = 0 ∨ x = 1 := by omega
  rcases this with rfl | rfl <;> rfl
theorem digit_extract (x : Int) (h0 : 0 ≤ x) (h1 : x ≤ 7) : bs ((⟨#[48, 49, 50, 51, 52, 53, 54, 55]⟩ : ByteArray).extract x.toNat (x + 1).toNat) = [UInt8.ofNat (48 + x).toNat] := by
  have : x = 0 ∨ x = 1 ∨ x = 2 ∨ x = 3 ∨ x = 4 ∨ x = 5 ∨ x = 6 ∨ x = 7 := by omega
  rcases this with rfl | rfl | rfl | rfl | rfl | rfl | rfl | rfl <;> rfl
theorem letter_is (a i : Int) (y : Int) (c : UInt8) (h0 : 0 ≤ i) (hy : shr .i64 a i = y) : ∃ t, emulatorref04_letter.f a i ⟨#[c]⟩ = some t ∧ bs t = [UInt8.ofNat (let1 y c.toNat).toNat] := by
  unfold emulatorref04_letter.f let1
  rw [if_pos h0, hy, and1]
  by_cases h : y % 2 = 0
  · rw [if_neg (by omega), if_pos h]; exact ⟨_, rfl, rfl⟩
  · rw [if_pos (by omega), if_neg h]
    exact ⟨_, rfl, by simp [bs]⟩
theorem rtext_is (a : Int) : ∃ t, emulatorref04_Text.f a = some t ∧ bs t = ([ku (a / 32768 % 2), ku (a / 16384 % 2), 48 + a / 32 % 8] ++ mid a).map fun n => UInt8.ofNat n.toNat := by
  obtain ⟨t4, h4, b4⟩ := letter_is a 4 (a / 16) 84 (by decide) (shr_pow _ _ 4 _ (by decide +kernel) (by decide) (by decide))
  obtain ⟨t3, h3, b3⟩ := letter_is a 3 (a / 8) 78 (by decide) (shr_pow _ _ 3 _ (by decide +kernel) (by decide) (by decide))
  obtain ⟨t2, h2, b2⟩ := letter_is a 2 (a / 4) 90 (by decide) (shr_pow _ _ 2 _ (by decide +kernel) (by decide) (by decide))
  obtain ⟨t1, h1, b1⟩ := letter_is a 1 (a / 2) 86 (by decide) (shr_pow _ _ 1 _ (by decide +kernel) (by decide) (by decide))
  obtain ⟨t0, h0, b0⟩ := letter_is a 0 (a / 1) 67 (by decide) (shr_pow _ _ 0 _ (by decide +kernel) (by decide) (by decide))
  rw [Int.ediv_one] at b0
  have s4 : t4.size = 1 := by rw [← bs_length, b4]; rfl
  have s3 : t3.size = 1 := by rw [← bs_length, b3]; rfl
  have s2 : t2.size = 1 := by rw [← bs_length, b2]; rfl
  have s1 : t1.size = 1 := by rw [← bs_length, b1]; rfl
  have s0 : t0.size = 1 := by rw [← bs_length, b0]; rfl
  generalize hm : a / 32768 % 2 = m
  generalize hp : a / 16384 % 2 = p
  generalize hq : a / 32 % 8 = q
  have m0 : 0 ≤ m ∧ m ≤ 1 := by omega
  have p0 : 0 ≤ p ∧ p ≤ 1 := by omega
  have q0 : 0 ≤ q ∧ q ≤ 7 := by omega
  have wm : wrap64 (m + 1) = m + 1 := by unfold wrap64; omega
  have wp : wrap64 (p + 1) = p + 1 := by unfold wrap64; omega
  have wq : wrap64 (q + 1) = q + 1 := by unfold wrap64; omega
  have zm := ku_extract m m0.1 m0.2
  have zp := ku_extract p p0.1 p0.2
  have zq := digit_extract q q0.1 q0.2
  generalize hA : (⟨#[107, 117]⟩ : ByteArray).extract m.toNat (m + 1).toNat = A at zm
  generalize hB : (⟨#[107, 117]⟩ : ByteArray).extract p.toNat (p + 1).toNat = B at zp
  generalize hC : (⟨#[48, 49, 50, 51, 52, 53, 54, 55]⟩ : ByteArray).extract q.toNat (q + 1).toNat = C at zq
  have sA : A.size = 1 := by rw [← bs_length, zm]; rfl
  have sB : B.size = 1 := by rw [← bs_length, zp]; rfl
  have sC : C.size = 1 := by rw [← bs_length, zq]; rfl
  refine ⟨A ++ B ++ C ++ t4 ++ t3 ++ t2 ++ t1 ++ t0, ?_, ?_⟩
  · unfold emulatorref04_Text.f
    rw [rmode_is, rprev_is, rprio_is, hm, hp, hq, h4, h3, h2, h1, h0]
    simp only [Option.bind_some, wm, wp, wq]
    rw [hA, hB, hC, if_pos m0.1, if_pos (by omega), if_pos (by omega), if_pos p0.1, if_pos (by omega), if_pos (by omega), if_pos (by omega), if_pos q0.1, if_pos (by omega), if_pos (by omega)]
    simp only [ByteArray.size_append, sA, sB, sC, s4, s3, s2, s1, s0]
    rw [if_pos (by decide), if_pos (by decide), if_pos (by decide), if_pos (by decide), if_pos (by decide), if_pos (by decide)]
  · simp only [bs_append, zm, zp, zq, b4, b3, b2, b1, b0, mid]
    rfl
theorem PswTexts : emulatorlaw04_PswTexts.Pure := by
  intro a ha
  refine ⟨6, ?_⟩
  obtain ⟨t, ht, hb⟩ := rtext_is a
  unfold emulatorlaw04_PswTexts.f
  rw [text_is 0 a, ht, alive6]
  simp only [Option.bind_some]
  rw [if_pos (by rw [toList_bs, toList_bs, bs_nums, hb])]

theorem let1_eq (x y c : Int) (hc : c ≠ 45) : (let1 x c = let1 y c) ↔ x % 2 = y % 2 := by
  unfold let1
  by_cases h : x % 2 = 0 <;> by_cases h2 : y % 2 = 0
  · rw [if_pos h, if_pos h2, h, h2]; exact ⟨fun _ => rfl, fun _ => rfl⟩
  · rw [if_pos h, if_neg h2]; exact ⟨fun e => absurd e.symm hc, fun e => by omega⟩
  · rw [if_neg h, if_pos h2]; exact ⟨fun e => absurd e hc, fun e => by omega⟩
  · rw [if_neg h, if_neg h2]; exact ⟨fun _ => by omega, fun _ => rfl⟩
theorem let1_range (x c : Int) (h0 : 0 ≤ c) (h1 : c < 256) : 0 ≤ let1 x c ∧ let1 x c < 256 := by unfold let1; split <;> omega
theorem u8_iff {x y : Int} (hx : 0 ≤ x ∧ x < 256) (hy : 0 ≤ y ∧ y < 256) : UInt8.ofNat x.toNat = UInt8.ofNat y.toNat ↔ x = y :=
  ⟨ofNat_inj hx.1 hx.2 hy.1 hy.2, fun h => by rw [h]⟩
theorem ku_range (x : Int) : 0 ≤ ku x ∧ ku x < 256 := bt_range _ _
theorem ku_eq (x y : Int) (hx : 0 ≤ x ∧ x ≤ 1) (hy : 0 ≤ y ∧ y ≤ 1) : ku x = ku y ↔ x = y := by
  rw [ku_bytes x hx.1 hx.2, ku_bytes y hy.1 hy.2]
  by_cases h : x = 0 <;> by_cases h2 : y = 0 <;> simp [h, h2] <;> omega
theorem split8 (a : Int) : a % 256 = a / 32 % 8 * 32 + a / 16 % 2 * 16 + a / 8 % 2 * 8 + a / 4 % 2 * 4 + a / 2 % 2 * 2 + a % 2 := by omega
theorem split2 (a : Int) : a / 16384 % 4 = a / 32768 % 2 * 2 + a / 16384 % 2 := by omega
theorem parts_iff (a b : Int) : (a / 32768 % 2 = b / 32768 % 2 ∧ a / 16384 % 2 = b / 16384 % 2 ∧ 48 + a / 32 % 8 = 48 + b / 32 % 8 ∧ a / 16 % 2 = b / 16 % 2 ∧ a / 8 % 2 = b / 8 % 2 ∧ a / 4 % 2 = b / 4 % 2 ∧ a / 2 % 2 = b / 2 % 2 ∧ a % 2 = b % 2) ↔ a / 16384 % 4 * 16384 + a % 256 = b / 16384 % 4 * 16384 + b % 256 := by
  rw [split8 a, split8 b, split2 a, split2 b]
  have r1 := Int.emod_two_eq (a / 32768); have r2 := Int.emod_two_eq (b / 32768)
  have r3 := Int.emod_two_eq (a / 16384); have r4 := Int.emod_two_eq (b / 16384)
  have r5 : 0 ≤ a / 32 % 8 ∧ a / 32 % 8 < 8 := by omega
  have r6 : 0 ≤ b / 32 % 8 ∧ b / 32 % 8 < 8 := by omega
  have r7 := Int.emod_two_eq (a / 16); have r8 := Int.emod_two_eq (b / 16)
  have r9 := Int.emod_two_eq (a / 8); have r10 := Int.emod_two_eq (b / 8)
  have r11 := Int.emod_two_eq (a / 4); have r12 := Int.emod_two_eq (b / 4)
  have r13 := Int.emod_two_eq (a / 2); have r14 := Int.emod_two_eq (b / 2)
  have r15 := Int.emod_two_eq a; have r16 := Int.emod_two_eq b
  generalize a / 32768 % 2 = x1 at *
  generalize b / 32768 % 2 = y1 at *
  generalize a / 16384 % 2 = x2 at *
  generalize b / 16384 % 2 = y2 at *
  generalize a / 32 % 8 = x3 at *
  generalize b / 32 % 8 = y3 at *
  generalize a / 16 % 2 = x4 at *
  generalize b / 16 % 2 = y4 at *
  generalize a / 8 % 2 = x5 at *
  generalize b / 8 % 2 = y5 at *
  generalize a / 4 % 2 = x6 at *
  generalize b / 4 % 2 = y6 at *
  generalize a / 2 % 2 = x7 at *
  generalize b / 2 % 2 = y7 at *
  generalize a % 2 = x8 at *
  generalize b % 2 = y8 at *
  constructor
  · rintro ⟨rfl, rfl, h3, rfl, rfl, rfl, rfl, rfl⟩; omega
  · intro h; refine ⟨?_, ?_, ?_, ?_, ?_, ?_, ?_, ?_⟩ <;> omega
theorem PswSays : emulatorlaw04_PswSays.Pure := by
  intro a b ha hb
  refine ⟨6, ?_⟩
  obtain ⟨ha0, ha1⟩ := wf_bounds ha
  obtain ⟨hb0, hb1⟩ := wf_bounds hb
  unfold emulatorlaw04_PswSays.f
  rw [text_is 0 a, text_is 0 b, alive6]
  simp only [Option.bind_some]
  rw [if_pos (by rw [size_nums]; rfl), if_pos]
  have hx : (Go.bits .and .i64 (Go.bits .xor .i64 a b) 49407 = 0) ↔ (a / 16384 % 4 * 16384 + a % 256 = b / 16384 % 4 * 16384 + b % 256) := by
    have := xor_and_zero a b 49407 (by decide)
    rw [show ((49407 : Nat) : Int) = 49407 from rfl, and49407 a, and49407 b] at this
    exact this
  rw [beq_iff_eq, Bool.eq_iff_iff]
  simp only [beq_iff_eq]
  rw [hx, toList_bs, toList_bs, bs_nums, bs_nums]
  simp only [mid, List.cons_append, List.nil_append, List.map_cons, List.map_nil, List.cons.injEq, and_true]
  rw [u8_iff (ku_range _) (ku_range _), u8_iff (ku_range _) (ku_range _), u8_iff (by omega) (by omega), u8_iff (let1_range _ _ (by decide) (by decide)) (let1_range _ _ (by decide) (by decide)), u8_iff (let1_range _ _ (by decide) (by decide)) (let1_range _ _ (by decide) (by decide)),
    u8_iff (let1_range _ _ (by decide) (by decide)) (let1_range _ _ (by decide) (by decide)), u8_iff (let1_range _ _ (by decide) (by decide)) (let1_range _ _ (by decide) (by decide)), u8_iff (let1_range _ _ (by decide) (by decide)) (let1_range _ _ (by decide) (by decide)),
    ku_eq _ _ (by omega) (by omega), ku_eq _ _ (by omega) (by omega), let1_eq _ _ _ (by decide), let1_eq _ _ _ (by decide), let1_eq _ _ _ (by decide), let1_eq _ _ _ (by decide), let1_eq _ _ _ (by decide)]
  exact parts_iff a b
end Go.Proofs.Ytkopdpdenmjecaa.Pure
