/- tty: Write. -/
import Derived.Test.YtgcmhfoegbaaiaaMyTtyB
import Derived.Test.YtgcmhfoegbaaiaaKx10
import Derived.Test.YtgcmhfoegbaaiaaKx26
set_option linter.unusedVariables false
set_option linter.unusedSimpArgs false
namespace Go.Proofs.Ytgcmhfoegbaaiaa.Tty
open Go Go.RowKit Go.Proofs.Ytgcmhfoegbaaiaa.K Go.Proofs.YtgcmhfoegbaaiaaW.PrintWords Go.Proofs.YtgcmhfoegbaaiaaW.PrintMore Go.Proofs.Ytgcmhfoegbaaiaa.MyBits Go.Proofs.Ytgcmhfoegbaaiaa.MyStr

/-! Write -/
abbrev crlf : ByteArray := ⟨#[13, 10]⟩
def wre (c : UInt8) : ByteArray := if c = 10 then crlf else ⟨#[c]⟩
def wr : List UInt8 → ByteArray → ByteArray × Nat
  | [], o => (o, 0)
  | c :: q, o => if o.size + (wre c).size > 256 then (o, 0) else ((wr q (o ++ wre c)).1, (wr q (o ++ wre c)).2 + 1)
theorem wre_size (c : UInt8) : (wre c).size = if c = 10 then 2 else 1 := by unfold wre; split <;> rfl
theorem wr_size : ∀ (l : List UInt8) (o : ByteArray), o.size ≤ 256 → (wr l o).1.size ≤ 256 := by
  intro l
  induction l with
  | nil => intro o h; exact h
  | cons c q ih =>
    intro o h
    unfold wr
    by_cases hc : o.size + (wre c).size > 256
    · rw [if_pos hc]; exact h
    · rw [if_neg hc]; exact ih _ (by rw [ByteArray.size_append]; omega)
theorem wr_le : ∀ (l : List UInt8) (o : ByteArray), (wr l o).2 ≤ l.length := by
  intro l
  induction l with
  | nil => intro o; exact Nat.le_refl _
  | cons c q ih =>
    intro o
    unfold wr
    by_cases hc : o.size + (wre c).size > 256
    · rw [if_pos hc]; exact Nat.zero_le _
    · rw [if_neg hc]; have := ih (o ++ wre c); rw [List.length_cons]; show (wr q (o ++ wre c)).2 + 1 ≤ _; omega
theorem c10 (c : UInt8) : (c.toNat : Int) = 10 ↔ c = 10 := by
  constructor
  · intro h
    apply UInt8.toNat_inj.1
    have : (10 : UInt8).toNat = 10 := rfl
    omega
  · intro h; rw [h]; rfl
theorem one_wre {c : UInt8} (h : ¬ c = 10) : strOfNums [(c.toNat : Int)] = wre c := by
  unfold wre; rw [if_neg h]
  apply bs_inj
  rw [bs_nums]
  show [UInt8.ofNat ((c.toNat : Int)).toNat] = [c]
  rw [ofNat_toNat]
def wres (r : Bool) (t : ByteArray) (l : List ByteArray) (s : ByteArray) (i : Nat) (o : ByteArray) : Bool × ByteArray × List ByteArray × ByteArray × Int :=
  (r, t, l, (wr ((bs s).drop i) o).1, ((i + (wr ((bs s).drop i) o).2 : Nat) : Int))
theorem wres_stop {r : Bool} {t : ByteArray} {l : List ByteArray} {s : ByteArray} {i : Nat} {o : ByteArray} (h : i < (bs s).length) (hc : o.size + (wre (bs s)[i]).size > 256) : wres r t l s i o = (r, t, l, o, (i : Int)) := by
  unfold wres
  rw [List.drop_eq_getElem_cons h]
  unfold wr
  rw [if_pos hc]; rfl
theorem wres_go {r : Bool} {t : ByteArray} {l : List ByteArray} {s : ByteArray} {i : Nat} {o : ByteArray} (h : i < (bs s).length) (hc : ¬ o.size + (wre (bs s)[i]).size > 256) : wres r t l s i o = wres r t l s (i + 1) (o ++ wre (bs s)[i]) := by
  unfold wres
  rw [List.drop_eq_getElem_cons h]
  conv => lhs; unfold wr
  rw [if_neg hc]
  simp only
  rw [show i + ((wr (List.drop (i + 1) (bs s)) (o ++ wre (bs s)[i])).2 + 1) = i + 1 + (wr (List.drop (i + 1) (bs s)) (o ++ wre (bs s)[i])).2 by omega]
theorem wres_end {r : Bool} {t : ByteArray} {l : List ByteArray} {s : ByteArray} {o : ByteArray} : wres r t l s s.size o = (r, t, l, o, (s.size : Int)) := by
  unfold wres
  rw [List.drop_eq_nil_of_le (by rw [bs_length]; omega)]
  rfl
theorem write_step {k : Nat} {r : Bool} {t : ByteArray} {l : List ByteArray} {o s : ByteArray} {bl : List Int} {n : Int} {i : Nat} {b : Int} {e : ByteArray} (ho : o.size ≤ 256) (hn : n = (bl.length : Int)) (hi : i < bl.length) (hb : rd bl (i : Int) = b)
    (hs : bl.length ≤ 4611686018427387904) (he : if b = 10 then e = crlf else strOfNums [b] = e) (hz : e.size ≤ 2) :
    tty_Write.l0 (k + 1) s bl n (i : Int) r t l o = if o.size + e.size > 256 then some (r, t, l, o, (i : Int)) else tty_Write.l0 k s bl n ((i + 1 : Nat) : Int) r t l (o ++ e) := by
  rw [tty_Write.l0, if_pos (by omega), if_pos (by omega), if_pos (by omega), Option.bind_some, hb, i64_nat i (by omega)]
  by_cases h : b = 10
  · rw [if_pos h] at he
    subst he
    rw [if_pos h, wrap64_id (by omega) (by omega)]
    have h2 : crlf.size = 2 := rfl
    by_cases hc : o.size + crlf.size > 256
    · rw [if_pos hc, if_pos (by omega)]
    · rw [if_neg hc, if_neg (by omega), if_pos (by omega)]
  · rw [if_neg h] at he
    rw [if_neg h, he, wrap64_id (by omega) (by omega)]
    by_cases hc : o.size + e.size > 256
    · rw [if_pos hc, if_pos (by omega)]
    · rw [if_neg hc, if_neg (by omega), if_pos (by omega)]
theorem wre_if (c : UInt8) : if (c.toNat : Int) = 10 then wre c = crlf else strOfNums [(c.toNat : Int)] = wre c := by
  by_cases h : c = 10
  · rw [if_pos ((c10 c).2 h)]; unfold wre; rw [if_pos h]
  · rw [if_neg (fun h' => h ((c10 c).1 h'))]; exact one_wre h
theorem wre_two (c : UInt8) : (wre c).size ≤ 2 := by rw [wre_size]; split <;> omega
/-- The common shape of the two loops: one step for one byte. -/
theorem wloop (L : Nat → Nat → ByteArray → Option (Bool × ByteArray × List ByteArray × ByteArray × Int)) (r : Bool) (t : ByteArray) (l : List ByteArray) (s : ByteArray)
    (hstep : ∀ k i (h : i < (bs s).length) o, o.size ≤ 256 → L (k + 1) i o = if o.size + (wre (bs s)[i]).size > 256 then some (r, t, l, o, (i : Int)) else L k (i + 1) (o ++ wre (bs s)[i]))
    (hend : ∀ k o, L (k + 1) s.size o = some (r, t, l, o, (s.size : Int))) : ∀ d i o, i + d = s.size → o.size ≤ 256 → Ev (fun k => L k i o) (wres r t l s i o) := by
  intro d
  induction d with
  | zero =>
    intro i o hi ho
    obtain rfl : i = s.size := by omega
    rw [wres_end]
    exact Ev.step (f := fun _ => some (r, t, l, o, (s.size : Int))) (fun k => hend k o) (Ev.now _)
  | succ d ih =>
    intro i o hi ho
    have hib : i < (bs s).length := by rw [bs_length]; omega
    by_cases hc : o.size + (wre (bs s)[i]).size > 256
    · rw [wres_stop hib hc]
      exact Ev.step (f := fun _ => some (r, t, l, o, (i : Int))) (fun k => by rw [hstep k i hib o ho, if_pos hc]) (Ev.now _)
    · rw [wres_go hib hc]
      refine Ev.step (fun k => ?_) (ih (i + 1) (o ++ wre (bs s)[i]) (by omega) ?_)
      · rw [hstep k i hib o ho, if_neg hc]
      · rw [ByteArray.size_append]; exact Nat.le_of_not_lt hc
theorem write_is (r : Bool) (t : ByteArray) (l : List ByteArray) (o s : ByteArray) (ho : o.size ≤ 256) (hs : s.size ≤ 4611686018427387904) : Ev (fun k => tty_Write.f k r t l o s) (wres r t l s 0 o) := by
  have hl : (bytesOf s).length = s.size := by rw [bytesOf_bs, List.length_map, bs_length]
  refine Ev.congr (f := fun k => tty_Write.l0 k s (bytesOf s) ((bytesOf s).length : Int) ((0 : Nat) : Int) r t l o) (fun k => by unfold tty_Write.f; rw [if_pos (by omega)]; rfl) ?_
  refine wloop (fun k i o => tty_Write.l0 k s (bytesOf s) ((bytesOf s).length : Int) (i : Int) r t l o) r t l s (fun k i h o ho => ?_) (fun k o => ?_) s.size 0 o (Nat.zero_add _) ho
  · have hi : i < (bytesOf s).length := by rw [hl, ← bs_length]; exact h
    have hb : rd (bytesOf s) (i : Int) = ((bs s)[i]).toNat := by rw [rd_bytesOf]; exact byte_eq h
    have hw := wre_if (bs s)[i]
    have hz := wre_two (bs s)[i]
    rw [write_step ho rfl hi hb (by rw [hl]; exact hs) hw hz]
  · show tty_Write.l0 (k + 1) s (bytesOf s) ((bytesOf s).length : Int) (s.size : Int) r t l o = _
    rw [tty_Write.l0, if_neg (by omega)]
theorem rwrite_step {k : Nat} {r : Bool} {t : ByteArray} {l : List ByteArray} {o s : ByteArray} {i : Nat} {c : UInt8} {e : ByteArray} (ho : o.size ≤ 256) (hi : i < s.size) (hx : s.extract i (i + 1) = ⟨#[c]⟩)
    (hs : s.size ≤ 4611686018427387904) (he : if c = 10 then e = crlf else (⟨#[c]⟩ : ByteArray) = e) :
    emulatorref43_Write.l0 (k + 1) s (i : Int) r t l o = if o.size + e.size > 256 then some (r, t, l, o, (i : Int)) else emulatorref43_Write.l0 k s ((i + 1 : Nat) : Int) r t l (o ++ e) := by
  have hxs : (⟨#[c]⟩ : ByteArray).size = 1 := rfl
  have hxl : (⟨#[c]⟩ : ByteArray).toList = [c] := by rw [toList_bs]; rfl
  rw [emulatorref43_Write.l0, if_pos (by omega), if_pos (by omega), i64_nat i (by omega), if_pos (by omega), if_pos (by omega), show ((i : Int)).toNat = i by omega, show (((i + 1 : Nat) : Int)).toNat = i + 1 by omega, hx, hxl, hxs]
  by_cases h : c = 10
  · rw [if_pos h] at he
    subst he
    rw [if_pos (by rw [h]), wrap64_id (by omega) (by omega)]
    have h2 : crlf.size = 2 := rfl
    by_cases hc : o.size + crlf.size > 256
    · rw [if_pos hc, if_pos (by omega)]
    · rw [if_neg hc, if_neg (by omega), if_pos (by omega)]
  · rw [if_neg h] at he
    have hn : ¬ [c] = [10] := fun h' => h (List.cons.inj h').1
    have h1 : e.size = 1 := by rw [← he]; exact hxs
    rw [if_neg hn, he, wrap64_id (by omega) (by omega)]
    by_cases hc : o.size + e.size > 256
    · rw [if_pos hc, if_pos (by omega)]
    · rw [if_neg hc, if_neg (by omega), if_pos (by omega)]
theorem rwre_if (c : UInt8) : if c = 10 then wre c = crlf else (⟨#[c]⟩ : ByteArray) = wre c := by
  by_cases h : c = 10
  · rw [if_pos h]; unfold wre; rw [if_pos h]
  · rw [if_neg h]; unfold wre; rw [if_neg h]
theorem rwrite_is (r : Bool) (t : ByteArray) (l : List ByteArray) (o s : ByteArray) (ho : o.size ≤ 256) (hs : s.size ≤ 4611686018427387904) : Ev (fun k => emulatorref43_Write.f k r t l o s) (wres r t l s 0 o) := by
  refine Ev.congr (f := fun k => emulatorref43_Write.l0 k s ((0 : Nat) : Int) r t l o) (fun k => rfl) ?_
  refine wloop (fun k i o => emulatorref43_Write.l0 k s (i : Int) r t l o) r t l s (fun k i h o ho => ?_) (fun k o => ?_) s.size 0 o (Nat.zero_add _) ho
  · have hi : i < s.size := by rw [← bs_length]; exact h
    have hx : s.extract i (i + 1) = ⟨#[(bs s)[i]]⟩ := by
      apply bs_inj
      rw [← toList_bs, bs_one s i hi, byte_eq h]
      show [UInt8.ofNat (((bs s)[i].toNat : Int)).toNat] = [(bs s)[i]]
      rw [ofNat_toNat]
    exact rwrite_step ho hi hx hs (rwre_if _)
  · show emulatorref43_Write.l0 (k + 1) s (s.size : Int) r t l o = _
    rw [emulatorref43_Write.l0, if_neg (by omega)]
end Go.Proofs.Ytgcmhfoegbaaiaa.Tty
