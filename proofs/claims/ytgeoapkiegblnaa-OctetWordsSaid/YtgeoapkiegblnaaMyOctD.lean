/- Words as bytes; what was put is got back. -/
import Derived.Test.YtgeoapkiegblnaaMyOctC
import Derived.Test.YtgeoapkiegblnaaKx2
import Derived.Test.YtgeoapkiegblnaaKx5
import Derived.Test.YtgeoapkiegblnaaKx6
set_option linter.unusedVariables false
set_option linter.unusedSimpArgs false
namespace Go.Proofs.Ytgeoapkiegblnaa.Oct
open Go Go.RowKit Go.Proofs.Ytgeoapkiegblnaa.K Go.Proofs.YtgeoapkiegblnaaW.PrintWords Go.Proofs.YtgeoapkiegblnaaW.PrintMore Go.Proofs.Ytgeoapkiegblnaa.MyBits Go.Proofs.Ytgeoapkiegblnaa.MyStr

/-- The bytes of words. -/
def putW (l : List Int) : List Int := l.flatMap fun x => [x % 256, x / 256 % 256]
theorem putW_length (l : List Int) : (putW l).length = 2 * l.length := by
  induction l with
  | nil => rfl
  | cons x l ih => unfold putW at *; simp only [List.flatMap_cons, List.length_append, ih, List.length_cons, List.length_nil]; omega
theorem putW_take (l : List Int) (i : Nat) (h : i < l.length) : putW (l.take (i + 1)) = putW (l.take i) ++ [l[i] % 256, l[i] / 256 % 256] := by
  unfold putW; rw [List.take_succ_eq_append_getElem h, List.flatMap_append]; simp
theorem putW_range (l : List Int) : ∀ x ∈ putW l, 0 ≤ x ∧ x < 256 := by
  intro x hx
  unfold putW at hx
  obtain ⟨y, _, hy⟩ := List.mem_flatMap.1 hx
  simp only [List.mem_cons, List.not_mem_nil, or_false] at hy
  omega
theorem rd_get (l : List Int) (i : Nat) (h : i < l.length) : rd l (i : Int) = l[i] := by
  unfold rd; rw [Int.toNat_natCast, List.getD_eq_getElem?_getD, List.getElem?_eq_getElem h]; rfl
theorem putWords_is (l : List Int) (hl : l.length ≤ 100000) : Ev (fun k => octet_PutWords.f k l) (mkS (byt (putW l))) := by
  have loop : ∀ (d i : Nat), i + d = l.length → Ev (fun k => octet_PutWords.l0 k (putW (l.take i)) l (l.length : Int) (i : Int)) (mkS (byt (putW l))) := by
    intro d
    induction d with
    | zero =>
      intro i hi
      refine Ev.step (f := fun _ => some (mkS (byt (putW l)))) (fun k => ?_) (Ev.now _)
      rw [octet_PutWords.l0, if_neg (by omega), List.take_of_length_le (by omega), nums_mkS]
    | succ d ih =>
      intro i hi
      have hn := ih (i + 1) (by omega)
      rw [putW_take l i (by omega)] at hn
      refine Ev.step ?_ hn
      intro k
      rw [octet_PutWords.l0, if_pos (by omega), if_pos (by omega), if_pos (by omega), rd_get l i (by omega), Option.bind_some, if_pos, i64_nat i (by omega)]
      rw [putW_length, List.length_take]; simp only [List.length_cons, List.length_nil]; omega
  refine Ev.congr (fun k => ?_) (loop l.length 0 (by omega))
  have hw : wrap64 (2 * (l.length : Int)) = 2 * (l.length : Int) := by unfold wrap64; omega
  unfold octet_PutWords.f
  rw [hw, if_pos (by omega), if_pos (by omega)]
  rfl
theorem word_is (x : Int) (h0 : -9223372036854775808 ≤ x) (h1 : x ≤ 9223372036854775807) : emulatorref03_word.f x = some (x % 65536) := by
  have h2 : Int.tmod x 65536 = if x < 0 then -((-x) % 65536) else x % 65536 := by
    split
    · rename_i h
      have : x = -(-x) := by omega
      rw [this, Int.neg_tmod, Int.tmod_eq_emod_of_nonneg (by omega)]; simp
    · rw [Int.tmod_eq_emod_of_nonneg (by omega)]
  unfold emulatorref03_word.f
  rw [h2]
  by_cases h : x < 0
  · rw [if_pos h]
    by_cases h3 : -(-x % 65536) < 0
    · rw [if_pos h3]; congr 1; unfold wrap64; omega
    · rw [if_neg h3]; congr 1; omega
  · rw [if_neg h, if_neg (by omega)]
theorem rputWords_is (l : List Int) (hl : l.length ≤ 100000) (hx : ∀ x ∈ l, -9223372036854775808 ≤ x ∧ x ≤ 9223372036854775807) : Ev (fun k => emulatorref03_PutWords.f k l) (mkS (byt (putW l))) := by
  have loop : ∀ (d i : Nat), i + d = l.length → Ev (fun k => emulatorref03_PutWords.l0 k l (putW (l.take i)) (i : Int)) (mkS (byt (putW l))) := by
    intro d
    induction d with
    | zero =>
      intro i hi
      refine Ev.step (f := fun _ => some (mkS (byt (putW l)))) (fun k => ?_) (Ev.now _)
      rw [emulatorref03_PutWords.l0, if_neg (by omega), List.take_of_length_le (by omega), nums_mkS]
    | succ d ih =>
      intro i hi
      have hn := ih (i + 1) (by omega)
      rw [putW_take l i (by omega)] at hn
      refine Ev.step ?_ hn
      intro k
      have hr := hx _ (List.getElem_mem (show i < l.length by omega))
      rw [emulatorref03_PutWords.l0, if_pos (by omega), if_pos (by omega), rd_get l i (by omega), word_is _ hr.1 hr.2, Option.bind_some, Option.bind_some, if_pos, i64_nat i (by omega)]
      · congr 2
        rw [Int.tmod_eq_emod_of_nonneg (by omega), Int.tdiv_eq_ediv_of_nonneg (by omega)]
        have e1 : l[i] % 65536 % 256 % 256 = l[i] % 256 := by omega
        have e2 : wrap64 (l[i] % 65536 / 256) % 256 = l[i] / 256 % 256 := by unfold wrap64; omega
        rw [e1, e2]
      · rw [putW_length, List.length_take]; simp only [List.length_cons, List.length_nil]; omega
  exact loop l.length 0 (by omega)

/-- The words of bytes. -/
def wordAt (l : List UInt8) (i : Nat) : Int := byteAt l (2 * i) + 256 * byteAt l (2 * i + 1)
def wordsN (l : List UInt8) (n : Nat) : List Int := (List.range n).map (wordAt l)
theorem wordsN_length (l : List UInt8) (n : Nat) : (wordsN l n).length = n := by unfold wordsN; simp
theorem wordsN_succ (l : List UInt8) (n : Nat) : wordsN l (n + 1) = wordsN l n ++ [wordAt l n] := by unfold wordsN; rw [List.range_succ, List.map_append]; rfl
theorem or_word (a b : Int) (a0 : 0 ≤ a) (a1 : a < 256) (b0 : 0 ≤ b) (b1 : b < 256) : Go.bits .or .i64 (wrap64 a) (wrap64 (wrap64 b * 256)) = a + 256 * b := by
  have e1 : wrap64 a = a := by unfold wrap64; omega
  have e2 : wrap64 (wrap64 b * 256) = b * 256 := by unfold wrap64; omega
  have hc : Go.bits .or .i64 a (b * 256) = Go.bits .or .i64 (b * 256) a := by rw [or_un, or_un, Nat.or_comm]
  rw [e1, e2, hc, or_parts 8 (by omega) (by omega) (by omega) (by omega) (by omega) (by omega)]
  omega
theorem word_sum (a b : Int) (a0 : 0 ≤ a) (a1 : a < 256) (b0 : 0 ≤ b) (b1 : b < 256) : wrap64 (wrap64 a + wrap64 (256 * wrap64 b)) = a + 256 * b := by unfold wrap64; omega
/-- What GetWords answers. -/
def getW (l : List UInt8) : List Int × Int := if l.length % 2 = 1 then ([], 9) else (wordsN l (l.length / 2), 0)
theorem getWords_is (s : ByteArray) (hs : s.size ≤ 100000) : Ev (fun k => octet_GetWords.f k s) (getW (bs s)) := by
  have hlen := bs_length s
  unfold octet_GetWords.f getW
  by_cases h : (bs s).length % 2 = 1
  · rw [if_pos h]; exact Ev.congr (fun k => if_pos (by omega)) (Ev.now _)
  · rw [if_neg h]
    have hw : wrap64 ((s.size : Int) / 2) = (((bs s).length / 2 : Nat) : Int) := by unfold wrap64; omega
    have loop : ∀ (d i : Nat), i + d = (bs s).length / 2 → Ev (fun k => octet_GetWords.l0 k s (wordsN (bs s) i ++ List.replicate d 0) (((bs s).length / 2 : Nat) : Int) (i : Int)) (wordsN (bs s) ((bs s).length / 2), 0) := by
      intro d
      induction d with
      | zero =>
        intro i hi
        obtain rfl : i = (bs s).length / 2 := by omega
        refine Ev.step (f := fun _ => some (wordsN (bs s) ((bs s).length / 2), 0)) (fun k => ?_) (Ev.now _)
        rw [octet_GetWords.l0, if_neg (by omega)]; simp
      | succ d ih =>
        intro i hi
        refine Ev.step ?_ (ih (i + 1) (by omega))
        intro k
        have w1 : wrap64 (2 * (i : Int)) = ((2 * i : Nat) : Int) := by unfold wrap64; omega
        have w2 : wrap64 (((2 * i : Nat) : Int) + 1) = ((2 * i + 1 : Nat) : Int) := by unfold wrap64; omega
        have hl : (wordsN (bs s) i ++ List.replicate (d + 1) 0).length = (bs s).length / 2 := by rw [List.length_append, wordsN_length, List.length_replicate]; omega
        have b1 := byteAt_range (bs s) (2 * i)
        have b2 := byteAt_range (bs s) (2 * i + 1)
        rw [octet_GetWords.l0, if_pos (by omega), w1, if_pos (by omega), if_pos (by omega), w2, if_pos (by omega), if_pos (by omega), if_pos (by omega), hl, if_pos (by omega), bt_bs, bt_bs, Int.toNat_natCast, Int.toNat_natCast, Int.toNat_natCast, i64_nat i (by omega)]
        have e : Go.bits .or .i64 (wrap64 (byteAt (bs s) (2 * i))) (wrap64 (wrap64 (byteAt (bs s) (2 * i + 1)) * 256)) = wordAt (bs s) i := or_word _ _ b1.1 b1.2 b2.1 b2.2
        rw [e, List.set_append_right _ _ (by rw [wordsN_length]; omega), wordsN_length, Nat.sub_self, List.replicate_succ, List.set_cons_zero, wordsN_succ, List.append_assoc]
        rfl
    refine Ev.congr (fun k => ?_) (loop ((bs s).length / 2) 0 (by omega))
    rw [if_neg (by omega), hw, if_pos (by omega), if_pos (by omega), Option.bind_some, List.length_replicate, Int.toNat_natCast]
    rfl
theorem rgetWords_is (s : ByteArray) (hs : s.size ≤ 100000) : Ev (fun k => emulatorref03_GetWords.f k s) (getW (bs s)) := by
  have hlen := bs_length s
  unfold emulatorref03_GetWords.f getW
  by_cases h : (bs s).length % 2 = 1
  · rw [if_pos h]; exact Ev.congr (fun k => if_neg (by omega)) (Ev.now _)
  · rw [if_neg h]
    have loop : ∀ (d i : Nat), i + d = (bs s).length / 2 → Ev (fun k => emulatorref03_GetWords.l0 k s (wordsN (bs s) i) ((2 * i : Nat) : Int)) (wordsN (bs s) ((bs s).length / 2), 0) := by
      intro d
      induction d with
      | zero =>
        intro i hi
        obtain rfl : i = (bs s).length / 2 := by omega
        refine Ev.step (f := fun _ => some (wordsN (bs s) ((bs s).length / 2), 0)) (fun k => ?_) (Ev.now _)
        rw [emulatorref03_GetWords.l0, if_neg (by omega)]
      | succ d ih =>
        intro i hi
        have hn := ih (i + 1) (by omega)
        rw [wordsN_succ] at hn
        refine Ev.step ?_ hn
        intro k
        have w2 : wrap64 (((2 * i : Nat) : Int) + 1) = ((2 * i + 1 : Nat) : Int) := by unfold wrap64; omega
        have w3 : wrap64 (((2 * i : Nat) : Int) + 2) = ((2 * (i + 1) : Nat) : Int) := by unfold wrap64; omega
        have b1 := byteAt_range (bs s) (2 * i)
        have b2 := byteAt_range (bs s) (2 * i + 1)
        rw [emulatorref03_GetWords.l0, if_pos (by omega), if_pos (by omega), w2, if_pos (by omega), if_pos (by omega), if_pos (by rw [wordsN_length]; omega), bt_bs, bt_bs, Int.toNat_natCast, Int.toNat_natCast, w3]
        rw [word_sum _ _ b1.1 b1.2 b2.1 b2.2]
        rfl
    exact Ev.congr (fun k => if_pos (by omega)) (loop ((bs s).length / 2) 0 (by omega))
theorem sameInts_is (l : List Int) (hl : l.length ≤ 100000) : Ev (fun k => emulatorref03_SameInts.f k l l) true := by
  have loop : ∀ (d i : Nat), i + d = l.length → Ev (fun k => emulatorref03_SameInts.l0 k l l (i : Int)) true := by
    intro d
    induction d with
    | zero =>
      intro i hi
      exact Ev.step (f := fun _ => some true) (fun k => by rw [emulatorref03_SameInts.l0, if_neg (by omega)]) (Ev.now _)
    | succ d ih =>
      intro i hi
      refine Ev.step ?_ (ih (i + 1) (by omega))
      intro k
      rw [emulatorref03_SameInts.l0, if_pos (by omega), if_pos (by omega), if_pos (by omega), if_pos rfl, i64_nat i (by omega)]
  exact Ev.congr (fun k => if_pos rfl) (loop l.length 0 (by omega))
/-- Words that were put are got back. -/
theorem getW_putW (l : List Int) (h : ∀ x ∈ l, 0 ≤ x ∧ x < 65536) : getW (byt (putW l)) = (l, 0) := by
  have hlen : (byt (putW l)).length = 2 * l.length := by rw [byt_length, putW_length]
  unfold getW
  rw [if_neg (by omega), hlen, show 2 * l.length / 2 = l.length by omega]
  congr 1
  apply List.ext_getElem
  · rw [wordsN_length]
  · intro i h1 h2
    have e : (wordsN (byt (putW l)) l.length)[i] = wordAt (byt (putW l)) i := by simp [wordsN]
    rw [e]
    unfold wordAt
    rw [byteAt_ints, byteAt_ints, ints_byt _ (putW_range l)]
    have hx := h _ (List.getElem_mem h2)
    have ho : ∀ (l : List Int) (i : Nat) (h : i < l.length), (putW l).getD (2 * i) 0 = l[i] % 256 ∧ (putW l).getD (2 * i + 1) 0 = l[i] / 256 % 256 := by
      intro l
      induction l with
      | nil => intro i h; simp at h
      | cons x l ih =>
        intro i h
        cases i with
        | zero => exact ⟨rfl, rfl⟩
        | succ i =>
          have := ih i (by simpa using h)
          exact this
    rw [(ho l i h2).1, (ho l i h2).2]
    omega
/-- A number that was put is got back. -/
theorem getR_put (a z : List UInt8) (n : Int) (w : Nat) (hw : 1 ≤ w) (hw7 : w ≤ 7) (h0 : 0 ≤ n) (h1 : n < 256 ^ w) : getR (a ++ le n w ++ z) (a.length : Int) (w : Int) = (n, (a.length : Int) + w, 0) := by
  unfold getR
  have hl : (a ++ le n w ++ z).length = a.length + w + z.length := by rw [List.length_append, List.length_append, le_length]
  rw [hl, if_neg (by omega), if_neg (by omega), Int.toNat_natCast, Int.toNat_natCast, List.append_assoc, List.drop_left, List.take_append_of_le_length (by rw [le_length]; omega), List.take_of_length_le (by rw [le_length]; omega), num_le n w h0 h1]
/-- A text that was put is got back. -/
theorem getT_put (a z s : List UInt8) (hs : s.length ≤ 65535) : getT (a ++ putT s ++ z) (a.length : Int) = (s, (a.length : Int) + 2 + s.length, 0) := by
  rw [putT_small s hs]
  have e : a ++ (le (s.length : Nat) 2 ++ s) ++ z = a ++ le (s.length : Nat) 2 ++ (s ++ z) := by simp only [List.append_assoc]
  rw [e]
  have hg := getR_put a (s ++ z) ((s.length : Nat) : Int) 2 (by omega) (by omega) (by omega) (by omega)
  have hg2 : getR (a ++ le (s.length : Nat) 2 ++ (s ++ z)) (a.length : Int) 2 = (((s.length : Nat) : Int), (a.length : Int) + 2, 0) := hg
  have hl : (a ++ le (s.length : Nat) 2 ++ (s ++ z)).length = a.length + 2 + s.length + z.length := by simp only [List.length_append, le_length]; omega
  rw [getT_ok (by rw [hg2]) (by rw [hg2, hl]; simp only; omega), hg2]
  have hd : (a ++ le (s.length : Nat) 2 ++ (s ++ z)).drop ((a.length : Int) + 2).toNat = s ++ z := by
    rw [show ((a.length : Int) + 2).toNat = (a ++ le ((s.length : Nat) : Int) 2).length by rw [List.length_append, le_length]; omega, List.drop_left]
  rw [hd]
  simp only [Int.toNat_natCast, List.take_left]
end Go.Proofs.Ytgeoapkiegblnaa.Oct
