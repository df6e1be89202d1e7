/- tty: Input, Read, Write. -/
import Derived.Test.YtgcmhfoegbaaiaaMyTtyB
import Derived.Test.YtgcmhfoegbaaiaaKx7
import Derived.Test.YtgcmhfoegbaaiaaKx22
set_option linter.unusedVariables false
set_option linter.unusedSimpArgs false
namespace Go.Proofs.Ytgcmhfoegbaaiaa.Tty
open Go Go.RowKit Go.Proofs.Ytgcmhfoegbaaiaa.K Go.Proofs.YtgcmhfoegbaaiaaW.PrintWords Go.Proofs.YtgcmhfoegbaaiaaW.PrintMore Go.Proofs.Ytgcmhfoegbaaiaa.MyBits Go.Proofs.Ytgcmhfoegbaaiaa.MyStr

/-! Input -/
def one (c : Int) : ByteArray := strOfNums [c]
theorem one_size (c : Int) : (one c).size = 1 := size_nums [c]
theorem bt_one {c : Int} (h0 : 0 ≤ c) (h1 : c < 256) : bt (one c) 0 = c := by
  rw [bt_bs]; unfold one; rw [bs_nums]
  show ((UInt8.ofNat c.toNat).toNat : Int) = c
  rw [UInt8.toNat_ofNat']; omega
def inp (r : Bool) (t : ByteArray) (l : List ByteArray) (o : ByteArray) (c : Int) : St :=
  if r = true then (if l.length ≥ 16 then (r, t, l, ech o bell) else (r, t, l ++ [one c], o))
  else if shw c = true then (if t.size ≥ 79 then (r, t, l, ech o bell) else (r, t ++ one c, l, ech o (one c)))
  else if c = 8 ∨ c = 127 then (if t.toList = [] then (r, t, l, o) else (r, t.extract 0 (t.size - 1), l, ech o ⟨#[8, 32, 8]⟩))
  else if c = 21 then (r, ByteArray.empty, l, ech o ⟨#[94, 85, 13, 10]⟩)
  else if c = 13 ∨ c = 10 then cmp r l o (t ++ nl) ⟨#[13, 10]⟩
  else if c = 4 then cmp r l o t ByteArray.empty
  else (r, t, l, o)
theorem back_one {t : ByteArray} (h : ¬ t.toList = []) (h1 : t.size ≤ 79) : wrap64 ((t.size : Int) - 1) = ((t.size - 1 : Nat) : Int) := by
  have := pos_of h
  rw [wrap64_id (by omega) (by omega)]; omega
theorem input_is {r : Bool} {t : ByteArray} {l : List ByteArray} {o : ByteArray} (h : Ok r t l o) (b : Int) : Ev (fun k => tty_Input.f k r t l o b) (inp r t l o (b % 256)) := by
  have h0 : 0 ≤ b % 256 := by omega
  have h1 : b % 256 < 256 := by omega
  unfold tty_Input.f inp
  generalize b % 256 = c at h0 h1 ⊢
  have hb := bt_one h0 h1
  have hsz := one_size c
  unfold one at hb hsz
  cases r with
  | true =>
    have ht : t = ByteArray.empty := h.hr rfl
    refine Ev.congr (f := fun _ => some (cmp true l o (strOfNums [c]) ByteArray.empty)) (fun k => ?_) ?_
    · simp only [Option.bind_some]
      rw [if_pos trivial, complete_is _ _ _ _ _ _ h.ho]; rfl
    · rw [if_pos rfl]
      unfold cmp
      by_cases hl : l.length ≥ 16
      · rw [if_pos hl, if_pos hl, ht]; exact Ev.now _
      · rw [if_neg hl, if_neg hl, ht, ech_empty]; exact Ev.now _
  | false =>
    rw [if_neg (by decide)]
    have main : Ev (fun k => tty_Input.j0 k (strOfNums [c]) c (decide (c = 8 ∨ c = 127)) false t l o) (inp false t l o c) := by
      unfold inp
      rw [if_neg (by decide)]
      by_cases h8 : c = 8 ∨ c = 127
      · have hs : ¬ shw c = true := by rcases h8 with rfl | rfl <;> decide
        rw [if_neg hs, if_pos h8, decide_eq_true h8]
        by_cases ht : t.toList = []
        · rw [if_pos ht]
          exact Ev.step (f := fun _ => some (false, t, l, o)) (fun k => by rw [tty_Input.j0, if_pos rfl, if_pos ht]) (Ev.now _)
        · rw [if_neg ht]
          refine Ev.step (f := fun _ => some (false, t.extract 0 (t.size - 1), l, ech o ⟨#[8, 32, 8]⟩)) (fun k => ?_) (Ev.now _)
          rw [tty_Input.j0, if_pos rfl, if_neg ht, back_one ht h.ht, if_pos (by omega), if_pos (by omega), echo_is _ _ _ _ _ h.ho, show (((t.size - 1 : Nat) : Int)).toNat = t.size - 1 by omega]
          rfl
      · rw [if_neg h8, decide_eq_false h8]
        by_cases h21 : c = 21
        · subst h21
          rw [if_neg (by decide), if_pos rfl]
          refine Ev.step (f := fun _ => some (false, ByteArray.empty, l, ech o ⟨#[94, 85, 13, 10]⟩)) (fun k => ?_) (Ev.now _)
          rw [tty_Input.j0, if_neg (by decide), if_pos rfl, echo_is _ _ _ _ _ h.ho]
          rfl
        by_cases h13 : c = 13
        · subst h13
          rw [if_neg (by decide), if_neg (by decide), if_pos (.inl rfl)]
          refine Ev.step (f := fun _ => some (cmp false l o (t ++ nl) ⟨#[13, 10]⟩)) (fun k => ?_) (Ev.now _)
          rw [tty_Input.j0, if_neg (by decide), if_neg (by decide), if_pos rfl, if_pos (by have := h.ht; omega), complete_is _ _ _ _ _ _ h.ho]
          rfl
        by_cases h10 : c = 10
        · subst h10
          rw [if_neg (by decide), if_neg (by decide), if_pos (.inr rfl)]
          refine Ev.step (f := fun _ => some (cmp false l o (t ++ nl) ⟨#[13, 10]⟩)) (fun k => ?_) (Ev.now _)
          rw [tty_Input.j0, if_neg (by decide), if_neg (by decide), if_neg (by decide), if_pos rfl, if_pos (by have := h.ht; omega), complete_is _ _ _ _ _ _ h.ho]
          rfl
        by_cases h4 : c = 4
        · subst h4
          rw [if_neg (by decide), if_neg (by decide), if_neg (by decide), if_pos rfl]
          refine Ev.step (f := fun _ => some (cmp false l o t ByteArray.empty)) (fun k => ?_) (Ev.now _)
          rw [tty_Input.j0, if_neg (by decide), if_neg (by decide), if_neg (by decide), if_neg (by decide), if_pos rfl, complete_is _ _ _ _ _ _ h.ho]
          rfl
        rw [if_neg h21, if_neg (show ¬ (c = 13 ∨ c = 10) by omega), if_neg h4]
        have hz : ((0 : Int) < ((strOfNums [c]).size : Int)) := by rw [hsz]; decide
        by_cases hs : shw c = true
        · rw [if_pos hs]
          by_cases h79 : t.size ≥ 79
          · rw [if_pos h79]
            refine Ev.step (f := fun _ => some (false, t, l, ech o bell)) (fun k => ?_) (Ev.now _)
            rw [tty_Input.j0, if_neg (by decide), if_neg h21, if_neg h13, if_neg h10, if_neg h4, if_pos hz, hb, shown_is, Option.bind_some, if_pos hs, if_pos (by omega), echo_is _ _ _ _ _ h.ho]
            rfl
          · rw [if_neg h79]
            refine Ev.step (f := fun _ => some (false, t ++ one c, l, ech o (one c))) (fun k => ?_) (Ev.now _)
            rw [tty_Input.j0, if_neg (by decide), if_neg h21, if_neg h13, if_neg h10, if_neg h4, if_pos hz, hb, shown_is, Option.bind_some, if_pos hs, if_neg (by omega), hsz, if_pos (by omega), echo_is _ _ _ _ _ h.ho]
            rfl
        · rw [if_neg hs]
          refine Ev.step (f := fun _ => some (false, t, l, o)) (fun k => ?_) (Ev.now _)
          rw [tty_Input.j0, if_neg (by decide), if_neg h21, if_neg h13, if_neg h10, if_neg h4, if_pos hz, hb, shown_is, Option.bind_some, if_neg hs]
    unfold inp at main
    rw [if_neg (by decide)] at main
    refine Ev.congr (fun k => ?_) main
    simp only [Option.bind_some]
    rw [if_neg (by decide), hsz, if_pos (by decide), hb]
    by_cases h8 : c = 8
    · subst h8; rw [if_pos rfl]; rfl
    · rw [if_neg h8]
      congr 1
      by_cases h127 : c = 127
      · subst h127; rfl
      · rw [beq_false_of_ne h127, decide_eq_false (by omega)]
theorem mod_mod256 (b : Int) : b % 256 % 256 = b % 256 := by omega
theorem rinput_is {r : Bool} {t : ByteArray} {l : List ByteArray} {o : ByteArray} (h : Ok r t l o) (b : Int) : Ev (fun k => emulatorref43_Input.f k r t l o b) (inp r t l o (b % 256)) := by
  have h0 : 0 ≤ b % 256 := by omega
  have h1 : b % 256 < 256 := by omega
  have ha : Go.bits .and .i64 b 255 = b % 256 := and_low b 255 8 (by decide) (by decide)
  unfold emulatorref43_Input.f inp
  simp only [ha, mod_mod256, Option.bind_some]
  generalize b % 256 = c at h0 h1 ⊢
  have hsz := one_size c
  unfold one at hsz
  by_cases hr : r = true
  · rw [if_pos hr]
    refine Ev.congr (fun k => if_pos hr) ?_
    by_cases hl : l.length ≥ 16
    · rw [if_pos hl]
      refine Ev.congr (fun k => if_pos (by omega)) ?_
      rw [recho_is _ _ _ _ _ h.ho]; exact Ev.now _
    · rw [if_neg hl]
      refine Ev.congr (fun k => if_neg (by omega)) ?_
      simp only [List.length_nil, List.nil_append]
      refine Ev.congr (fun k => (if_pos (by omega)).trans (if_pos (by omega))) ?_
      exact Ev.now _
  · rw [if_neg hr]
    refine Ev.congr (fun k => if_neg hr) ?_
    rw [rshown_is]
    simp only [Option.bind_some]
    by_cases hs : shw c = true
    · rw [if_pos hs]
      refine Ev.congr (fun k => if_pos hs) ?_
      by_cases h79 : t.size ≥ 79
      · rw [if_pos h79]
        refine Ev.congr (fun k => if_pos (by omega)) ?_
        rw [recho_is _ _ _ _ _ h.ho]; exact Ev.now _
      · rw [if_neg h79]
        refine Ev.congr (fun k => (if_neg (by omega)).trans (if_pos (by omega))) ?_
        rw [recho_is _ _ _ _ _ h.ho]; exact Ev.now _
    rw [if_neg hs]
    refine Ev.congr (fun k => if_neg hs) ?_
    have main : Ev (fun k => emulatorref43_Input.j0 k c (decide (c = 8 ∨ c = 127)) r t l o) (if c = 8 ∨ c = 127 then (if t.toList = [] then (r, t, l, o) else (r, t.extract 0 (t.size - 1), l, ech o ⟨#[8, 32, 8]⟩))
        else if c = 21 then (r, ByteArray.empty, l, ech o ⟨#[94, 85, 13, 10]⟩) else if c = 13 ∨ c = 10 then cmp r l o (t ++ nl) ⟨#[13, 10]⟩ else if c = 4 then cmp r l o t ByteArray.empty else (r, t, l, o)) := by
      by_cases h8 : c = 8 ∨ c = 127
      · rw [if_pos h8, decide_eq_true h8]
        by_cases ht : t.toList = []
        · rw [if_pos ht]
          exact Ev.step (f := fun _ => some (r, t, l, o)) (fun k => by rw [emulatorref43_Input.j0, if_pos rfl, if_pos ht]) (Ev.now _)
        · rw [if_neg ht]
          refine Ev.step (f := fun _ => some (r, t.extract 0 (t.size - 1), l, ech o ⟨#[8, 32, 8]⟩)) (fun k => ?_) (Ev.now _)
          rw [emulatorref43_Input.j0, if_pos rfl, if_neg ht, back_one ht h.ht, if_pos (by omega), if_pos (by omega), recho_is _ _ _ _ _ h.ho, show (((t.size - 1 : Nat) : Int)).toNat = t.size - 1 by omega]
          rfl
      · rw [if_neg h8, decide_eq_false h8]
        by_cases h21 : c = 21
        · rw [if_pos h21]
          refine Ev.step (f := fun _ => some (r, ByteArray.empty, l, ech o ⟨#[94, 85, 13, 10]⟩)) (fun k => ?_) (Ev.now _)
          rw [emulatorref43_Input.j0, if_neg (by decide), if_pos h21, recho_is _ _ _ _ _ h.ho]
          rfl
        rw [if_neg h21]
        refine Ev.step (f := fun k => emulatorref43_Input.j1 k c (decide (c = 13 ∨ c = 10)) r t l o) (fun k => ?_) ?_
        · rw [emulatorref43_Input.j0, if_neg (by decide), if_neg h21]
          by_cases h13 : c = 13
          · rw [if_pos h13, decide_eq_true (.inl h13)]
          · rw [if_neg h13]
            congr 1
            by_cases h10 : c = 10
            · rw [h10]; rfl
            · rw [beq_false_of_ne h10, decide_eq_false (by omega)]
        by_cases hn : c = 13 ∨ c = 10
        · rw [if_pos hn, decide_eq_true hn]
          refine Ev.step (f := fun _ => some (cmp r l o (t ++ nl) ⟨#[13, 10]⟩)) (fun k => ?_) (Ev.now _)
          rw [emulatorref43_Input.j1, if_pos rfl, if_pos (by have := h.ht; omega), rcomplete_is _ _ _ _ _ _ h.ho]
          rfl
        rw [if_neg hn, decide_eq_false hn]
        by_cases h4 : c = 4
        · rw [if_pos h4]
          refine Ev.step (f := fun _ => some (cmp r l o t ByteArray.empty)) (fun k => ?_) (Ev.now _)
          rw [emulatorref43_Input.j1, if_neg (by decide), if_pos h4, rcomplete_is _ _ _ _ _ _ h.ho]
          rfl
        rw [if_neg h4]
        exact Ev.step (f := fun _ => some (r, t, l, o)) (fun k => by rw [emulatorref43_Input.j1, if_neg (by decide), if_neg h4]) (Ev.now _)
    refine Ev.congr (fun k => ?_) main
    by_cases h8 : c = 8
    · rw [if_pos h8, decide_eq_true (.inl h8)]
    · rw [if_neg h8]
      congr 1
      by_cases h127 : c = 127
      · rw [h127]; rfl
      · rw [beq_false_of_ne h127, decide_eq_false (by omega)]
theorem inp_ok {r : Bool} {t : ByteArray} {l : List ByteArray} {o : ByteArray} (h : Ok r t l o) {c : Int} (h0 : 0 ≤ c) (h1 : c < 256) : OkS (inp r t l o c) := by
  have hb := bt_one h0 h1
  unfold inp
  by_cases hr : r = true
  · rw [if_pos hr]
    by_cases hl : l.length ≥ 16
    · rw [if_pos hl]; exact ⟨ech_size _ _ h.ho, h.hl, h.ht, h.hr, h.hs, h.hx⟩
    · rw [if_neg hl]
      refine ⟨h.ho, by show (l ++ [one c]).length ≤ 16; rw [List.length_append, List.length_singleton]; omega, h.ht, h.hr, h.hs, fun x hx => ?_⟩
      rcases List.mem_append.1 hx with hx | hx
      · exact h.hx x hx
      · rw [List.mem_singleton.1 hx]; exact .inl (one_size c)
  rw [if_neg hr]
  by_cases hs : shw c = true
  · rw [if_pos hs]
    by_cases h79 : t.size ≥ 79
    · rw [if_pos h79]; exact ⟨ech_size _ _ h.ho, h.hl, h.ht, h.hr, h.hs, h.hx⟩
    · rw [if_neg h79]
      have hsz : (t ++ one c).size = t.size + 1 := by rw [ByteArray.size_append, one_size]
      refine ⟨ech_size _ _ h.ho, h.hl, by show (t ++ one c).size ≤ 79; omega, fun h' => absurd h' hr, fun j hj => ?_, h.hx⟩
      have hj' : j < t.size + 1 := by rw [← hsz]; exact hj
      show sh (t ++ one c) j = true
      by_cases hjt : j < t.size
      · unfold sh; rw [bt_append_left _ _ _ hjt]; exact h.hs j hjt
      · rw [show j = t.size by omega]
        unfold sh
        have := bt_append_right t (one c) 0
        rw [Nat.add_zero] at this
        rw [this, show (((0 : Nat) : Int)) = 0 from rfl, hb]; exact hs
  rw [if_neg hs]
  by_cases h8 : c = 8 ∨ c = 127
  · rw [if_pos h8]
    by_cases ht : t.toList = []
    · rw [if_pos ht]; exact h
    · rw [if_neg ht]
      have hsz : (t.extract 0 (t.size - 1)).size = t.size - 1 := by rw [size_extract _ _ _ (by omega), Nat.sub_zero]
      have := h.ht
      refine ⟨ech_size _ _ h.ho, h.hl, by show (t.extract 0 (t.size - 1)).size ≤ 79; omega, fun h' => absurd h' hr, fun j hj => ?_, h.hx⟩
      have hj' : j < t.size - 1 := by rw [← hsz]; exact hj
      show sh (t.extract 0 (t.size - 1)) j = true
      unfold sh
      rw [bt_extract _ _ _ _ (by omega), Nat.zero_add]
      exact h.hs j (by omega)
  rw [if_neg h8]
  by_cases h21 : c = 21
  · rw [if_pos h21]; exact ⟨ech_size _ _ h.ho, h.hl, Nat.zero_le _, fun _ => rfl, fun j hj => absurd hj (Nat.not_lt_zero _), h.hx⟩
  rw [if_neg h21]
  by_cases hn : c = 13 ∨ c = 10
  · rw [if_pos hn]; exact cmp_ok h.ho h.hl h.hx (.inr (line_of_nl h.ht h.hs))
  rw [if_neg hn]
  by_cases h4 : c = 4
  · rw [if_pos h4]; exact cmp_ok h.ho h.hl h.hx (.inr (line_of_text h.ht h.hs))
  rw [if_neg h4]; exact h

end Go.Proofs.Ytgcmhfoegbaaiaa.Tty
