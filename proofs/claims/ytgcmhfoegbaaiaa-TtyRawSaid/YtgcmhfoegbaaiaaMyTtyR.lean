/- tty: Read. -/
import Derived.Test.YtgcmhfoegbaaiaaMyTtyB
import Derived.Test.YtgcmhfoegbaaiaaKx4
import Derived.Test.YtgcmhfoegbaaiaaKx9
import Derived.Test.YtgcmhfoegbaaiaaKx24
set_option linter.unusedVariables false
set_option linter.unusedSimpArgs false
namespace Go.Proofs.Ytgcmhfoegbaaiaa.Tty
open Go Go.RowKit Go.Proofs.Ytgcmhfoegbaaiaa.K Go.Proofs.YtgcmhfoegbaaiaaW.PrintWords Go.Proofs.YtgcmhfoegbaaiaaW.PrintMore Go.Proofs.Ytgcmhfoegbaaiaa.MyBits Go.Proofs.Ytgcmhfoegbaaiaa.MyStr

/-! Read -/
abbrev RdR := Bool × ByteArray × List ByteArray × ByteArray × ByteArray × Int
def rdr (r : Bool) (t : ByteArray) (l : List ByteArray) (o : ByteArray) (n : Int) : RdR :=
  if n < 0 then (false, ByteArray.empty, [], ByteArray.empty, ByteArray.empty, 1)
  else match l with
    | [] => (false, ByteArray.empty, [], ByteArray.empty, ByteArray.empty, 20)
    | s :: q => if n = 0 then (r, t, s :: q, o, ByteArray.empty, 0) else
      if (min n.toNat s.size) < s.size then (r, t, s.extract (min n.toNat s.size) s.size :: q, o, s.extract 0 (min n.toNat s.size), 0) else (r, t, q, o, s.extract 0 s.size, 0)
theorem extract_empty_iff (s : ByteArray) (k : Nat) (h : k ≤ s.size) : (s.extract k s.size).toList = [] ↔ ¬ k < s.size := by
  rw [toList_bs, ← List.length_eq_zero_iff, bs_length, size_extract _ _ _ (by omega)]
  omega
theorem mn_nat {n : Int} (h : 0 ≤ n) (m : Nat) : mn n (m : Int) = ((min n.toNat m : Nat) : Int) := by unfold mn; split <;> omega
theorem rdOf_cons (s : ByteArray) (q : List ByteArray) : rdOf ByteArray.empty (s :: q) 0 = s := rfl
theorem read_is (r : Bool) (t : ByteArray) (l : List ByteArray) (o : ByteArray) (n : Int) (hl : l.length ≤ 1000) (hs : Small l) : tty_Read.f r t l o n = some (rdr r t l o n) := by
  unfold tty_Read.f rdr
  by_cases hn : n < 0
  · rw [if_pos hn, if_pos hn]; rfl
  rw [if_neg hn, if_neg hn]
  cases l with
  | nil => rw [if_pos (by rfl)]; rfl
  | cons s q =>
    rw [if_neg (by rw [List.length_cons]; omega)]
    by_cases h0 : n = 0
    · rw [if_pos h0]; simp only [if_pos h0]; rfl
    rw [if_neg h0]; simp only [if_neg h0]
    have hsz := hs s (by simp)
    unfold slices_Clone_string_string.f
    rw [if_pos (by rw [List.length_cons]; omega), if_pos (by omega)]
    simp only [Option.bind_some]
    rw [rdOf_cons, mn_nat (by omega), if_pos (by omega), if_pos (by omega), if_pos (by rw [List.length_cons]; omega), show (((min n.toNat s.size : Nat) : Int)).toNat = min n.toNat s.size by omega]
    by_cases hk : min n.toNat s.size < s.size
    · rw [if_neg (by rw [extract_empty_iff _ _ (by omega)]; omega), if_pos hk]; rfl
    · rw [if_pos (by rw [extract_empty_iff _ _ (by omega)]; omega), if_neg hk, if_pos (by rw [List.length_cons]; omega), show min n.toNat s.size = s.size by omega]; rfl
theorem rread_is (r : Bool) (t : ByteArray) (l : List ByteArray) (o : ByteArray) (n : Int) (hl : l.length ≤ 1000) (hs : Small l) : emulatorref43_Read.f r t l o n = some (rdr r t l o n) := by
  unfold emulatorref43_Read.f rdr
  by_cases hn : n < 0
  · rw [if_pos hn, if_pos hn]; rfl
  rw [if_neg hn, if_neg hn]
  cases l with
  | nil => rw [if_pos (by rfl)]; rfl
  | cons s q =>
    rw [if_neg (by rw [List.length_cons]; omega)]
    by_cases h0 : n = 0
    · rw [if_pos h0]; simp only [if_pos h0]; rfl
    rw [if_neg h0]; simp only [if_neg h0]
    have hsz := hs s (by simp)
    rw [List.length_cons] at hl
    rw [if_pos (by rw [List.length_cons]; omega)]
    simp only [Option.bind_some, List.length_nil, List.drop_one, List.tail_cons, List.nil_append, List.length_singleton]
    rw [rdOf_cons, mn_nat (by omega), if_pos (by rw [List.length_cons]; omega), if_pos (by omega), show (((min n.toNat s.size : Nat) : Int)).toNat = min n.toNat s.size by omega]
    by_cases hk : min n.toNat s.size < s.size
    · rw [if_pos (by omega), if_pos (by omega), if_pos (by omega), if_pos (by omega), if_pos hk]; rfl
    · rw [if_neg (by omega), if_pos (by omega), if_pos (by omega), if_neg hk, show min n.toNat s.size = s.size by omega]
theorem line_suffix {s : ByteArray} {k : Nat} (h : lineB s = true) (hk : k < s.size) (h1 : 1 ≤ k) : lineB (s.extract k s.size) = true := by
  obtain ⟨ha, hb, hc⟩ := (lineB_iff s).1 h
  have hsz : (s.extract k s.size).size = s.size - k := size_extract _ _ _ (Nat.le_refl _)
  refine (lineB_iff _).2 ⟨by omega, fun j hj => ?_, .inl (by omega)⟩
  have e : bt (s.extract k s.size) (j : Int) = bt s ((k + j : Nat) : Int) := bt_extract _ _ _ _ (by omega)
  rcases hb (k + j) (by omega) with hx | hx
  · left; unfold sh at hx ⊢; rw [e]; exact hx
  · right; rw [e]; exact ⟨hx.1, by omega⟩
theorem read_ok {r : Bool} {t : ByteArray} {l : List ByteArray} {o : ByteArray} (h : Ok r t l o) (n : Int) (h0 : (rdr r t l o n).2.2.2.2.2 = 0) : Ok (rdr r t l o n).1 (rdr r t l o n).2.1 (rdr r t l o n).2.2.1 (rdr r t l o n).2.2.2.1 := by
  unfold rdr at h0 ⊢
  by_cases hn : n < 0
  · rw [if_pos hn] at h0; cases h0
  rw [if_neg hn] at h0 ⊢
  cases l with
  | nil => cases h0
  | cons s q =>
    simp only at h0 ⊢
    by_cases h0' : n = 0
    · rw [if_pos h0']; exact h
    rw [if_neg h0']
    have hq : ∀ x ∈ q, x.size = 1 ∨ lineB x = true := fun x hx => h.hx x (List.mem_cons_of_mem _ hx)
    have hl := h.hl
    rw [List.length_cons] at hl
    by_cases hk : min n.toNat s.size < s.size
    · rw [if_pos hk]
      refine ⟨h.ho, by show (_ :: q).length ≤ 16; rw [List.length_cons]; exact hl, h.ht, h.hr, h.hs, fun x hx => ?_⟩
      rcases List.mem_cons.1 hx with hx | hx
      · rw [hx]
        right
        rcases h.hx s (by simp) with h1 | h1
        · omega
        · exact line_suffix h1 hk (by omega)
      · exact hq x hx
    · rw [if_neg hk]
      exact ⟨h.ho, by show q.length ≤ 16; omega, h.ht, h.hr, h.hs, hq⟩

end Go.Proofs.Ytgcmhfoegbaaiaa.Tty
