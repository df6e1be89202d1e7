/- tty: the program's Right, equal states, echo, complete, SetRaw, Next. -/
import Derived.Test.YtgcmhfoegbaaiaaMyTtyA
import Derived.Test.YtgcmhfoegbaaiaaKx4
import Derived.Test.YtgcmhfoegbaaiaaKx5
import Derived.Test.YtgcmhfoegbaaiaaKx16
import Derived.Test.YtgcmhfoegbaaiaaKx17
import Derived.Test.YtgcmhfoegbaaiaaKx18
import Derived.Test.YtgcmhfoegbaaiaaKx21
set_option linter.unusedVariables false
set_option linter.unusedSimpArgs false
namespace Go.Proofs.Ytgcmhfoegbaaiaa.Tty
open Go Go.RowKit Go.Proofs.Ytgcmhfoegbaaiaa.K Go.Proofs.YtgcmhfoegbaaiaaW.PrintWords Go.Proofs.YtgcmhfoegbaaiaaW.PrintMore Go.Proofs.Ytgcmhfoegbaaiaa.MyBits Go.Proofs.Ytgcmhfoegbaaiaa.MyStr

theorem bs_one (s : ByteArray) (i : Nat) (h : i < s.size) : (s.extract i (i + 1)).toList = [UInt8.ofNat (bt s (i : Int)).toNat] := by
  have hl : i < (bs s).length := by rw [bs_length]; exact h
  rw [toList_bs, bs_extract, bt_bs, List.drop_take, show i + 1 - i = 1 by omega, List.drop_eq_getElem_cons hl, List.take_succ_cons, List.take_zero]
  unfold byteAt
  rw [show ((i : Int)).toNat = i by omega, List.getElem?_eq_getElem hl]
  simp
theorem bt_extract (s : ByteArray) (a b i : Nat) (h : a + i < b) : bt (s.extract a b) (i : Int) = bt s ((a + i : Nat) : Int) := by
  rw [bt_bs, bt_bs, bs_extract]
  unfold byteAt
  rw [show ((i : Int)).toNat = i by omega, show (((a + i : Nat) : Int)).toNat = a + i by omega, List.getElem?_drop, List.getElem?_take, if_pos h]
theorem size_extract (s : ByteArray) (a b : Nat) (h : b ≤ s.size) : (s.extract a b).size = b - a := by
  rw [ByteArray.size_extract]; omega
theorem bt_append_left (a b : ByteArray) (i : Nat) (h : i < a.size) : bt (a ++ b) (i : Int) = bt a (i : Int) := by
  rw [bt_bs, bt_bs, bs_append]
  unfold byteAt
  rw [show ((i : Int)).toNat = i by omega, List.getElem?_append_left (by rw [bs_length]; exact h)]
theorem bt_append_right (a b : ByteArray) (i : Nat) : bt (a ++ b) ((a.size + i : Nat) : Int) = bt b (i : Int) := by
  rw [bt_bs, bt_bs, bs_append]
  unfold byteAt
  rw [show ((i : Int)).toNat = i by omega, show (((a.size + i : Nat) : Int)).toNat = a.size + i by omega, List.getElem?_append_right (by rw [bs_length]; omega), bs_length, show a.size + i - a.size = i by omega]

/-! strings.TrimSuffix(s, "\n") -/
abbrev nl : ByteArray := ⟨#[10]⟩
def ends (s : ByteArray) : Bool := decide (1 ≤ s.size) && bt s ((s.size - 1 : Nat) : Int) == 10
theorem nl_toList : nl.toList = [10] := by rw [toList_bs]; rfl
theorem nl_size : nl.size = 1 := rfl
theorem has_is (s : ByteArray) (h : s.size ≤ 4611686018427387904) : stringslite_HasSuffix.f s nl = some (ends s) := by
  unfold stringslite_HasSuffix.f ends
  rw [nl_size]
  by_cases h1 : 1 ≤ s.size
  · have e : wrap64 ((s.size : Int) - ((1 : Nat) : Int)) = ((s.size - 1 : Nat) : Int) := by rw [wrap64_id (by omega) (by omega)]; omega
    rw [if_pos (by omega), e, if_pos (by omega), if_pos (by omega), decide_eq_true h1, Bool.true_and, nl_toList]
    have hx := bs_one s (s.size - 1) (by omega)
    rw [show s.size - 1 + 1 = s.size by omega] at hx
    rw [show (((s.size - 1 : Nat) : Int)).toNat = s.size - 1 by omega, hx]
    congr 1
    have hr := bt_rng s ((s.size - 1 : Nat) : Int)
    by_cases hb : bt s ((s.size - 1 : Nat) : Int) = 10
    · rw [hb]; rfl
    · rw [beq_false_of_ne hb, beq_false_of_ne]
      intro hc
      injection hc with hc
      exact hb (ofNat_inj hr.1 hr.2 (by omega) (by omega) hc)
  · rw [if_neg (by omega), decide_eq_false h1]; rfl
def trim (s : ByteArray) : ByteArray := if ends s then s.extract 0 (s.size - 1) else s
theorem trim_is (s : ByteArray) (h : s.size ≤ 4611686018427387904) : strings_TrimSuffix.f s nl = some (trim s) := by
  unfold strings_TrimSuffix.f stringslite_TrimSuffix.f
  rw [has_is s h]
  simp only [Option.bind_some]
  unfold trim
  cases he : ends s with
  | false => rw [if_neg (by decide), if_neg (by decide)]; rfl
  | true =>
    have h1 : 1 ≤ s.size := by unfold ends at he; rw [Bool.and_eq_true, decide_eq_true_eq] at he; exact he.1
    have e : wrap64 ((s.size : Int) - (nl.size : Int)) = ((s.size - 1 : Nat) : Int) := by rw [nl_size, wrap64_id (by omega) (by omega)]; omega
    rw [if_pos rfl, if_pos rfl, e, if_pos (by omega), if_pos (by omega), show (((s.size - 1 : Nat) : Int)).toNat = s.size - 1 by omega]
    rfl
theorem lineB_iff (s : ByteArray) : lineB s = true ↔ s.size ≤ 80 ∧ (∀ j, j < s.size → sh s j = true ∨ (bt s (j : Int) = 10 ∧ j + 1 = s.size)) ∧ (s.size < 80 ∨ bt s ((s.size - 1 : Nat) : Int) = 10) := by
  unfold lineB lineOk
  rw [Bool.and_eq_true, Bool.and_eq_true, decide_eq_true_eq, allN_iff, Bool.or_eq_true, decide_eq_true_eq, beq_iff_eq]
  constructor
  · rintro ⟨h1, h2, h3⟩
    refine ⟨h1, fun j hj => ?_, h3⟩
    have := h2 j (by omega) (by omega)
    rwa [Bool.or_eq_true, Bool.and_eq_true, beq_iff_eq, decide_eq_true_eq] at this
  · rintro ⟨h1, h2, h3⟩
    refine ⟨h1, fun j _ hj => ?_, h3⟩
    rw [Bool.or_eq_true, Bool.and_eq_true, beq_iff_eq, decide_eq_true_eq]
    exact h2 j (by omega)
theorem sh10 (s : ByteArray) (j : Nat) (h : bt s (j : Int) = 10) : sh s j = false := by unfold sh; rw [h]; decide
theorem trim_line (s : ByteArray) : (shAll (trim s) && decide ((trim s).size ≤ 79)) = lineB s := by
  rw [Bool.eq_iff_iff, Bool.and_eq_true, decide_eq_true_eq, shAll_iff, lineB_iff]
  unfold trim
  cases he : ends s with
  | true =>
    unfold ends at he
    rw [Bool.and_eq_true, decide_eq_true_eq, beq_iff_eq] at he
    obtain ⟨h1, h10⟩ := he
    rw [if_pos rfl, size_extract _ _ _ (by omega), Nat.sub_zero]
    have hb : ∀ j, j < s.size - 1 → sh (s.extract 0 (s.size - 1)) j = sh s j := fun j hj => by unfold sh; rw [bt_extract _ _ _ _ (by omega), Nat.zero_add]
    constructor
    · rintro ⟨ha, hs⟩
      refine ⟨by omega, fun j hj => ?_, .inr h10⟩
      by_cases hl : j + 1 = s.size
      · right; rw [show j = s.size - 1 by omega]; exact ⟨h10, by omega⟩
      · left; rw [← hb j (by omega)]; exact ha j (by omega)
    · rintro ⟨hs, ha, _⟩
      refine ⟨fun j hj => ?_, by omega⟩
      rw [hb j hj]
      rcases ha j (by omega) with h | h
      · exact h
      · omega
  | false =>
    rw [if_neg (by decide)]
    constructor
    · rintro ⟨ha, hs⟩
      exact ⟨by omega, fun j hj => .inl (ha j hj), .inl (by omega)⟩
    · rintro ⟨hs, ha, hl⟩
      have hne : 1 ≤ s.size → bt s ((s.size - 1 : Nat) : Int) ≠ 10 := by
        intro h1 h10
        unfold ends at he
        rw [decide_eq_true h1, h10] at he
        cases he
      refine ⟨fun j hj => ?_, ?_⟩
      · rcases ha j hj with h | ⟨h, hj1⟩
        · exact h
        · exact absurd (by rw [show s.size - 1 = j by omega]; exact h) (hne (by omega))
      · rcases hl with h | h
        · omega
        · by_cases h1 : 1 ≤ s.size
          · exact absurd h (hne h1)
          · omega
theorem tright_is (r : Bool) (t : ByteArray) (l : List ByteArray) (o : ByteArray) (hs : Small l) (ht : t.size ≤ 4611686018427387904) (hll : l.length ≤ 4611686018427387904) : Ev (fun k => tty_Right.f k r t l o) (okB r t l o) := by
  have great : Ev (fun k => tty_Right.j0 k true r t l o) false := Ev.step (f := fun _ => some false) (fun k => by rw [tty_Right.j0, if_pos rfl]) (Ev.now _)
  have main : Ev (fun k => tty_Right.j0 k false r t l o) (allN (lnB l) 0 l.length) := by
    refine Ev.step (f := fun k => tty_Right.l0 k l (l.length : Int) ((0 : Nat) : Int)) (fun k => by rw [tty_Right.j0, if_neg (by decide)]; rfl) ?_
    rw [← Bool.and_true (allN _ _ _)]
    refine scan (fun k i => tty_Right.l0 k l (l.length : Int) (i : Int)) (lnB l) l.length true ?_ ?_ ?_ l.length 0 (by omega)
    · intro i b hi hp hk
      unfold lnB at hp
      by_cases h1 : (rdOf ByteArray.empty l (i : Int)).size = 1
      · refine Ev.step (fun k => ?_) hk
        rw [tty_Right.l0, if_pos (by omega), if_pos (by omega), if_pos (by omega), if_pos (by omega), i64_nat i (by omega)]
      · rw [beq_false_of_ne h1, Bool.false_or] at hp
        refine Ev.step (f := fun k => ((tty_text.f k (trim (rdOf ByteArray.empty l (i : Int)))).bind fun t416 => (if t416 = true then (tty_Right.l0 k l (l.length : Int) ((i + 1 : Nat) : Int)) else (some false)))) (fun k => ?_) ?_
        · rw [tty_Right.l0, if_pos (by omega), if_pos (by omega), if_pos (by omega), if_neg (by omega), i64_nat i (by omega), trim_is _ (small_at hs i)]
          rfl
        · refine Ev.bind (text_is _ ?_) ?_
          · have := small_at hs i
            unfold trim; split
            · rw [ByteArray.size_extract]; omega
            · exact this
          · exact Ev.congr (fun k => by rw [trim_line, if_pos hp]) hk
    · intro i hi hp
      unfold lnB at hp
      rw [Bool.or_eq_false_iff, beq_eq_false_iff_ne] at hp
      refine Ev.step (f := fun k => ((tty_text.f k (trim (rdOf ByteArray.empty l (i : Int)))).bind fun t416 => (if t416 = true then (tty_Right.l0 k l (l.length : Int) ((i + 1 : Nat) : Int)) else (some false)))) (fun k => ?_) ?_
      · rw [tty_Right.l0, if_pos (by omega), if_pos (by omega), if_pos (by omega), if_neg (by have := hp.1; omega), i64_nat i (by omega), trim_is _ (small_at hs i)]
        rfl
      · refine Ev.bind (text_is _ ?_) ?_
        · have := small_at hs i
          unfold trim; split
          · rw [ByteArray.size_extract]; omega
          · exact this
        · exact Ev.congr (f := fun _ => some false) (fun k => by rw [trim_line, if_neg (by rw [hp.2]; decide)]) (Ev.now _)
    · exact Ev.step (f := fun _ => some true) (fun k => by rw [tty_Right.l0, if_neg (by omega)]) (Ev.now _)
  have hd : decide ((l.length : Int) > 16) = !decide (l.length ≤ 16) := by
    by_cases h : l.length ≤ 16
    · rw [decide_eq_true h, decide_eq_false (by omega)]; rfl
    · rw [decide_eq_false h, decide_eq_true (by omega)]; rfl
  have last : Ev (fun k => tty_Right.j0 k (decide ((l.length : Int) > 16)) r t l o) (decide (l.length ≤ 16) && allN (lnB l) 0 l.length) := by
    rw [hd]
    cases h : decide (l.length ≤ 16) with
    | true => rw [Bool.true_and]; exact main
    | false => rw [Bool.false_and]; exact great
  unfold tty_Right.f okB
  by_cases h1 : o.size ≤ 256
  case neg => rw [decide_eq_false h1]; exact Ev.congr (fun k => by rw [if_pos (by omega)]) great
  rw [decide_eq_true h1, Bool.true_and]
  refine Ev.congr (fun k => if_neg (by omega)) ?_
  refine Ev.bind (text_is t ht) ?_
  cases hx : (shAll t && decide (t.size ≤ 79)) with
  | false =>
    refine Ev.congr (fun k => if_neg (by decide)) ?_
    rw [show (decide (l.length ≤ 16) && (decide (t.size ≤ 79) && ((!r || t.toList == []) && (shAll t && allN (lnB l) 0 l.length)))) = false from ?_]
    · exact great
    · cases h2 : decide (t.size ≤ 79) with
      | false => rw [Bool.false_and, Bool.and_false]
      | true => rw [h2, Bool.and_true] at hx; rw [hx, Bool.false_and, Bool.and_false, Bool.and_false, Bool.and_false]
  | true =>
    rw [Bool.and_eq_true] at hx
    rw [hx.1, hx.2, Bool.true_and, Bool.true_and]
    refine Ev.congr (fun k => if_pos rfl) ?_
    cases r with
    | false => refine Ev.congr (fun k => if_neg (by decide)) ?_; rw [Bool.not_false, Bool.true_or, Bool.true_and]; exact last
    | true =>
      refine Ev.congr (fun k => if_pos rfl) ?_
      by_cases ht0 : t.toList = []
      · refine Ev.congr (fun k => if_pos ht0) ?_
        rw [ht0]
        exact last
      · refine Ev.congr (fun k => if_neg ht0) ?_
        rw [show (!true || t.toList == []) = false by rw [beq_false_of_ne ht0]; rfl, Bool.false_and, Bool.and_false]
        exact great

/-! valid states, as a proposition -/
structure Ok (r : Bool) (t : ByteArray) (l : List ByteArray) (o : ByteArray) : Prop where
  ho : o.size ≤ 256
  hl : l.length ≤ 16
  ht : t.size ≤ 79
  hr : r = true → t = ByteArray.empty
  hs : ∀ j, j < t.size → sh t j = true
  hx : ∀ x ∈ l, x.size = 1 ∨ lineB x = true
theorem empty_of {t : ByteArray} (h : t.toList = []) : t = ByteArray.empty := bs_inj (by rw [← toList_bs, h]; rfl)
theorem ok_iff (r : Bool) (t : ByteArray) (l : List ByteArray) (o : ByteArray) : okB r t l o = true ↔ Ok r t l o := by
  unfold okB
  rw [Bool.and_eq_true, Bool.and_eq_true, Bool.and_eq_true, Bool.and_eq_true, Bool.and_eq_true, decide_eq_true_eq, decide_eq_true_eq, decide_eq_true_eq, shAll_iff, allN_iff]
  have hl : (∀ j, 0 ≤ j → j < 0 + l.length → lnB l j = true) ↔ ∀ x ∈ l, x.size = 1 ∨ lineB x = true := by
    have hg : ∀ j (hj : j < l.length), rdOf ByteArray.empty l ((j : Nat) : Int) = l[j] := fun j hj => by
      unfold rdOf; rw [show ((j : Int)).toNat = j by omega, List.getD_eq_getElem?_getD, List.getElem?_eq_getElem hj]; rfl
    constructor
    · intro h x hx
      obtain ⟨j, hj, rfl⟩ := List.getElem_of_mem hx
      have := h j (by omega) (by omega)
      unfold lnB at this
      rw [hg j hj, Bool.or_eq_true, beq_iff_eq] at this
      exact this
    · intro h j _ hj
      unfold lnB
      rw [hg j (by omega), Bool.or_eq_true, beq_iff_eq]
      exact h _ (List.getElem_mem (by omega))
  rw [hl]
  constructor
  · rintro ⟨h1, h2, h3, h4, h5, h6⟩
    refine ⟨h1, h2, h3, fun hr => ?_, h5, h6⟩
    rw [hr, Bool.not_true, Bool.false_or, beq_iff_eq] at h4
    exact empty_of h4
  · rintro ⟨h1, h2, h3, h4, h5, h6⟩
    refine ⟨h1, h2, h3, ?_, h5, h6⟩
    cases r with
    | false => rfl
    | true => rw [h4 rfl, toList_bs]; rfl
theorem Ok.small {r : Bool} {t : ByteArray} {l : List ByteArray} {o : ByteArray} (h : Ok r t l o) : Small l := fun x hx => by
  rcases h.hx x hx with h | h
  · omega
  · have := ((lineB_iff x).1 h).1; omega
theorem Ok.right {r : Bool} {t : ByteArray} {l : List ByteArray} {o : ByteArray} (h : Ok r t l o) : Ev (fun k => tty_Right.f k r t l o) true := by
  have := tright_is r t l o h.small (by have := h.ht; omega) (by have := h.hl; omega)
  rwa [(ok_iff r t l o).2 h] at this

/-! equal states -/
theorem same_is (r : Bool) (t : ByteArray) (l : List ByteArray) (o : ByteArray) (hl : l.length ≤ 4611686018427387904) : Ev (fun k => emulatorref43_SameTty.f k r t l o r t l o) true := by
  unfold emulatorref43_SameTty.f
  refine Ev.congr (f := fun k => emulatorref43_SameTty.j0 k false r t l o r t l o) (fun k => ?_) ?_
  · rw [if_neg (by rw [bne_self_eq_false]; decide), if_pos rfl, if_pos rfl, bne_self_eq_false]
  refine Ev.step (f := fun k => emulatorref43_SameTty.l0 k ((0 : Nat) : Int) r t l o r t l o) (fun k => by rw [emulatorref43_SameTty.j0, if_neg (by decide)]; rfl) ?_
  have h := scan (fun k i => emulatorref43_SameTty.l0 k (i : Int) r t l o r t l o) (fun _ => true) l.length true ?_ ?_ ?_ l.length 0 (by omega)
  · have e : allN (fun _ => true) 0 l.length = true := (allN_iff _ _ _).2 (fun _ _ _ => rfl)
    rw [e] at h
    exact h
  · intro i b hi _ hk
    refine Ev.step (fun k => ?_) hk
    rw [emulatorref43_SameTty.l0, if_pos (by omega), if_pos (by omega), if_pos (by omega), if_pos rfl, i64_nat i (by omega)]
  · intro i _ h; cases h
  · exact Ev.step (f := fun _ => some true) (fun k => by rw [emulatorref43_SameTty.l0, if_neg (by omega)]) (Ev.now _)

/-! echo, complete -/
def ech (o s : ByteArray) : ByteArray := o ++ s.extract 0 (min s.size (256 - o.size))
theorem ech_size (o s : ByteArray) (h : o.size ≤ 256) : (ech o s).size ≤ 256 := by
  unfold ech; rw [ByteArray.size_append, ByteArray.size_extract]; omega
theorem ech_empty (o : ByteArray) : ech o ByteArray.empty = o := bs_inj (by unfold ech; rw [bs_append, bs_extract]; simp [bs])
theorem mn_mx (s o : Nat) (h : o ≤ 256) : mx 0 (mn (s : Int) (256 - (o : Int))) = ((min s (256 - o) : Nat) : Int) := by unfold mx mn; split <;> split <;> omega
theorem mx_mn (s o : Nat) (h : o ≤ 256) : mn (s : Int) (mx 0 (256 - (o : Int))) = ((min s (256 - o) : Nat) : Int) := by unfold mx mn; split <;> split <;> omega
theorem echo_is (r : Bool) (t : ByteArray) (l : List ByteArray) (o s : ByteArray) (h : o.size ≤ 256) : tty_echo.f r t l o s = some (r, t, l, ech o s) := by
  unfold tty_echo.f
  have e : wrap64 (256 - (o.size : Int)) = 256 - (o.size : Int) := wrap64_id (by omega) (by omega)
  have e2 : (((min s.size (256 - o.size) : Nat) : Int)).toNat = min s.size (256 - o.size) := by omega
  rw [e, mn_mx _ _ h, if_pos (by omega), if_pos (by omega), e2, if_pos (by rw [ByteArray.size_extract]; omega)]
  rfl
theorem recho_is (r : Bool) (t : ByteArray) (l : List ByteArray) (o s : ByteArray) (h : o.size ≤ 256) : emulatorref43_echo.f r t l o s = some (r, t, l, ech o s) := by
  unfold emulatorref43_echo.f
  have e : wrap64 (256 - (o.size : Int)) = 256 - (o.size : Int) := wrap64_id (by omega) (by omega)
  have e2 : (((min s.size (256 - o.size) : Nat) : Int)).toNat = min s.size (256 - o.size) := by omega
  rw [e, mx_mn _ _ h, if_pos (by omega), if_pos (by omega), e2, if_pos (by rw [ByteArray.size_extract]; omega)]
  rfl
abbrev bell : ByteArray := ⟨#[7]⟩
def cmp (r : Bool) (l : List ByteArray) (o s e : ByteArray) : St := if l.length ≥ 16 then (r, ByteArray.empty, l, ech o bell) else (r, ByteArray.empty, l ++ [s], ech o e)
theorem complete_is (r : Bool) (t : ByteArray) (l : List ByteArray) (o s e : ByteArray) (h : o.size ≤ 256) : tty_complete.f r t l o s e = some (cmp r l o s e) := by
  unfold tty_complete.f cmp
  by_cases hl : l.length ≥ 16
  · rw [if_pos (by omega), if_pos hl, echo_is _ _ _ _ _ h]; rfl
  · rw [if_neg (by omega), if_neg hl]
    unfold slices_Clone_string_string.f
    rw [if_pos (by omega), Option.bind_some, if_pos (by omega), echo_is _ _ _ _ _ h]
    rfl
theorem rcomplete_is (r : Bool) (t : ByteArray) (l : List ByteArray) (o s e : ByteArray) (h : o.size ≤ 256) : emulatorref43_complete.f r t l o s e = some (cmp r l o s e) := by
  unfold emulatorref43_complete.f cmp
  by_cases hl : l.length ≥ 16
  · rw [if_pos (by omega), if_pos hl, recho_is _ _ _ _ _ h]; rfl
  · rw [if_neg (by omega), if_neg hl]
    simp only [Option.bind_some, List.length_nil, List.nil_append]
    rw [if_pos (by omega), if_pos (by omega), recho_is _ _ _ _ _ h]
    rfl
def OkS (x : St) : Prop := Ok x.1 x.2.1 x.2.2.1 x.2.2.2
theorem cmp_ok {r : Bool} {l : List ByteArray} {o s e : ByteArray} (ho : o.size ≤ 256) (hl : l.length ≤ 16) (hx : ∀ x ∈ l, x.size = 1 ∨ lineB x = true) (hs : s.size = 1 ∨ lineB s = true) : OkS (cmp r l o s e) := by
  unfold cmp
  by_cases h : l.length ≥ 16
  · rw [if_pos h]
    exact ⟨ech_size _ _ ho, hl, Nat.zero_le _, fun _ => rfl, fun j hj => absurd hj (Nat.not_lt_zero _), hx⟩
  · rw [if_neg h]
    refine ⟨ech_size _ _ ho, by show (l ++ [s]).length ≤ 16; rw [List.length_append, List.length_singleton]; omega, Nat.zero_le _, fun _ => rfl, fun j hj => absurd hj (Nat.not_lt_zero _), fun x h' => ?_⟩
    rcases List.mem_append.1 h' with h' | h'
    · exact hx x h'
    · rw [List.mem_singleton.1 h']; exact hs
theorem line_of_text {t : ByteArray} (ht : t.size ≤ 79) (hs : ∀ j, j < t.size → sh t j = true) : lineB t = true :=
  (lineB_iff t).2 ⟨by omega, fun j hj => .inl (hs j hj), .inl (by omega)⟩
theorem line_of_nl {t : ByteArray} (ht : t.size ≤ 79) (hs : ∀ j, j < t.size → sh t j = true) : lineB (t ++ nl) = true := by
  have hsz : (t ++ nl).size = t.size + 1 := ByteArray.size_append
  have hlast : bt (t ++ nl) ((t.size : Nat) : Int) = 10 := by
    have := bt_append_right t nl 0
    rw [Nat.add_zero] at this
    rw [this]; rfl
  refine (lineB_iff _).2 ⟨by omega, fun j hj => ?_, .inr (by rw [hsz]; exact hlast)⟩
  by_cases h : j < t.size
  · left; unfold sh; rw [bt_append_left _ _ _ h]; exact hs j h
  · right; rw [show j = t.size by omega]; exact ⟨hlast, hsz.symm⟩

theorem pos_of {o : ByteArray} (h : ¬ o.toList = []) : 0 < o.size := by
  rw [toList_bs] at h
  rw [← bs_length]
  exact List.length_pos_iff.2 h
theorem byte_eq {s : ByteArray} {i : Nat} (h : i < (bs s).length) : bt s (i : Int) = ((bs s)[i]).toNat := by
  rw [bt_bs]; unfold byteAt
  rw [show ((i : Int)).toNat = i by omega, List.getElem?_eq_getElem h]; rfl
end Go.Proofs.Ytgcmhfoegbaaiaa.Tty
