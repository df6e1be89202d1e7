/- tty: SetRaw, Next. -/
import Derived.Test.YtgcmhfoegbaaiaaMyTtyB
import Derived.Test.YtgcmhfoegbaaiaaKx13
import Derived.Test.YtgcmhfoegbaaiaaKx14
import Derived.Test.YtgcmhfoegbaaiaaKx26
import Derived.Test.YtgcmhfoegbaaiaaKx27
set_option linter.unusedVariables false
set_option linter.unusedSimpArgs false
namespace Go.Proofs.Ytgcmhfoegbaaiaa.Tty
open Go Go.RowKit Go.Proofs.Ytgcmhfoegbaaiaa.K Go.Proofs.YtgcmhfoegbaaiaaW.PrintWords Go.Proofs.YtgcmhfoegbaaiaaW.PrintMore Go.Proofs.Ytgcmhfoegbaaiaa.MyBits Go.Proofs.Ytgcmhfoegbaaiaa.MyStr

/-! SetRaw, Next -/
def sraw (r : Bool) (t : ByteArray) (l : List ByteArray) (o : ByteArray) (b : Bool) : St :=
  if b = true then (if t.toList = [] then (b, t, l, o) else (b, (cmp r l o t ByteArray.empty).2)) else (b, t, l, o)
theorem setraw_is (r : Bool) (t : ByteArray) (l : List ByteArray) (o : ByteArray) (b : Bool) (h : o.size ≤ 256) : tty_SetRaw.f r t l o b = some (sraw r t l o b) := by
  unfold tty_SetRaw.f sraw
  by_cases hb : b = true
  · rw [if_pos hb, if_pos hb]
    by_cases ht : t.toList = []
    · rw [if_pos ht, if_pos ht]
    · rw [if_neg ht, if_neg ht, complete_is _ _ _ _ _ _ h]; rfl
  · rw [if_neg hb, if_neg hb]
theorem rsetraw_is (r : Bool) (t : ByteArray) (l : List ByteArray) (o : ByteArray) (b : Bool) (h : o.size ≤ 256) : emulatorref43_SetRaw.f r t l o b = some (sraw r t l o b) := by
  unfold emulatorref43_SetRaw.f sraw
  by_cases hb : b = true
  · rw [if_pos hb, if_pos hb]
    by_cases ht : t.toList = []
    · rw [if_pos ht, if_pos ht]
    · rw [if_neg ht, if_neg ht, rcomplete_is _ _ _ _ _ _ h]; rfl
  · rw [if_neg hb, if_neg hb]
theorem sraw_ok {r : Bool} {t : ByteArray} {l : List ByteArray} {o : ByteArray} (h : Ok r t l o) (b : Bool) : OkS (sraw r t l o b) := by
  unfold sraw
  by_cases hb : b = true
  · rw [if_pos hb]
    by_cases ht : t.toList = []
    · rw [if_pos ht]; exact ⟨h.ho, h.hl, h.ht, fun _ => empty_of ht, h.hs, h.hx⟩
    · rw [if_neg ht]
      have := cmp_ok (r := b) (e := ByteArray.empty) h.ho h.hl h.hx (.inr (line_of_text h.ht h.hs))
      unfold cmp at this ⊢
      split
      · rename_i hl; rw [if_pos hl] at this; exact this
      · rename_i hl; rw [if_neg hl] at this; exact this
  · rw [if_neg hb]
    exact ⟨h.ho, h.hl, h.ht, fun hb' => absurd hb' hb, h.hs, h.hx⟩
def nxt (r : Bool) (t : ByteArray) (l : List ByteArray) (o : ByteArray) : Bool × ByteArray × List ByteArray × ByteArray × Int × Bool :=
  if o.toList = [] then (r, t, l, o, 0, false) else (r, t, l, o.extract 1 o.size, bt o 0, true)
theorem next_is (r : Bool) (t : ByteArray) (l : List ByteArray) (o : ByteArray) : tty_Next.f r t l o = some (nxt r t l o) := by
  unfold tty_Next.f nxt
  by_cases h : o.toList = []
  · rw [if_pos h, if_pos h]
  · have := pos_of h
    rw [if_neg h, if_neg h, if_pos (by omega), if_pos (by omega), bt64]
theorem rnext_is (r : Bool) (t : ByteArray) (l : List ByteArray) (o : ByteArray) : emulatorref43_Next.f r t l o = some (nxt r t l o) := by
  unfold emulatorref43_Next.f nxt
  by_cases h : o.toList = []
  · rw [if_pos h, if_pos h]
  · have := pos_of h
    rw [if_neg h, if_neg h, if_pos (by omega), if_pos (by omega), bt64]
end Go.Proofs.Ytgcmhfoegbaaiaa.Tty
