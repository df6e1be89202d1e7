/- Lemmas for several laws: what their proofs need of this seat's texts, in one place. -/
import Derived.Test.YtenlmckahaniiaaZcLe15
import Derived.Test.YtenlmckahaniiaaZcLe19
set_option linter.unusedVariables false
set_option linter.unusedSimpArgs false
set_option linter.unusedSectionVars false
section
namespace Go.Proofs.Ytenlmckahaniiaa.Obj
open Go Go.RowKit Go.Proofs.Ytenlmckahaniiaa.K Go.Proofs.YtW.P Go.Proofs.YtW.M Go.Proofs.Ytenlmckahaniiaa.MyBits Go.Proofs.Ytenlmckahaniiaa.MyStr Go.Proofs.Ytenlmckahaniiaa.Oct
theorem y28 (a z : List UInt8) (n : Int) (w : Nat) (hw : 1 ≤ w) (hw7 : w ≤ 7) (h0 : 0 ≤ n) (h1 : n < 256 ^ w) : getR (a ++ le n w ++ z) (a.length : Int) (w : Int) = (n, (a.length : Int) + w, 0) := by
  unfold getR
  have hl : (a ++ le n w ++ z).length = a.length + w + z.length := by rw [List.length_append, List.length_append, y2y]
  rw [hl, if_neg (by omega), if_neg (by omega), Int.toNat_natCast, Int.toNat_natCast, List.append_assoc, List.drop_left, List.take_append_of_le_length (by rw [y2y]; omega), List.take_of_length_le (by rw [y2y]; omega), num_le n w h0 h1]
theorem getT_put (a z s : List UInt8) (hs : s.length ≤ 65535) : getT (a ++ putT s ++ z) (a.length : Int) = (s, (a.length : Int) + 2 + s.length, 0) := by
  rw [y3z s hs]
  have e : a ++ (le (s.length : Nat) 2 ++ s) ++ z = a ++ le (s.length : Nat) 2 ++ (s ++ z) := by simp only [List.append_assoc]
  rw [e]
  have hg := y28 a (s ++ z) ((s.length : Nat) : Int) 2 (by omega) (by omega) (by omega) (by omega)
  have hg2 : getR (a ++ le (s.length : Nat) 2 ++ (s ++ z)) (a.length : Int) 2 = (((s.length : Nat) : Int), (a.length : Int) + 2, 0) := hg
  have hl : (a ++ le (s.length : Nat) 2 ++ (s ++ z)).length = a.length + 2 + s.length + z.length := by simp only [List.length_append, y2y]; omega
  rw [getT_ok (by rw [hg2]) (by rw [hg2, hl]; simp only; omega), hg2]
  have hd : (a ++ le (s.length : Nat) 2 ++ (s ++ z)).drop ((a.length : Int) + 2).toNat = s ++ z := by
    rw [show ((a.length : Int) + 2).toNat = (a ++ le ((s.length : Nat) : Int) 2).length by rw [List.length_append, y2y]; omega, List.drop_left]
  rw [hd]
  simp only [Int.toNat_natCast, List.take_left]
structure Md where
  a0 : ByteArray
  a1 : ByteArray
  a2 : ByteArray
  a3 : Int
  l4 : List S62
  l5 : List S43
def Md.check (m : Md) : Int := checkR m.a0 m.a1 m.a2 m.a3 m.l4 m.l5
def m0 : Md := ⟨⟨#[]⟩, ⟨#[]⟩, ⟨#[]⟩, 0, [], []⟩
structure SymV (s : S62) : Prop where
  h0 : isNm s.f0 = true
  h1 : 0 ≤ s.f1 ∧ s.f1 ≤ 3
  h2 : 0 ≤ s.f2 ∧ s.f2 ≤ 65535
structure RelV (x : S43) : Prop where
  h0 : x.f0 = 1 ∨ x.f0 = 2
  h1 : 0 ≤ x.f1 ∧ x.f1 ≤ 16384
  h2 : 0 ≤ x.f2 ∧ x.f2 ≤ 4
  h3 : (x.f2 = 4 ∧ isNm x.f3 = true) ∨ (x.f2 ≠ 4 ∧ bs x.f3 = [])
structure Valid (m : Md) : Prop where
  h0 : isNm m.a0 = true
  h1 : m.a1.size ≤ 16384 ∧ m.a1.size % 2 = 0
  h2 : m.a2.size ≤ 16384
  h3 : 0 ≤ m.a3 ∧ m.a3 ≤ 16384
  n4 : m.l4.length ≤ 256
  n5 : m.l5.length ≤ 2048
  h4 : ∀ s ∈ m.l4, SymV s
  h5 : ∀ x ∈ m.l5, RelV x
theorem symsR_valid (l : List S62) : ∀ m, symsR m l = 0 → ∀ s ∈ l, SymV s := by
  induction l with
  | nil => intro _ _ s hs; cases hs
  | cons x l ih =>
    intro m h s hs
    unfold symsR at h
    split at h
    · rename_i h1
      split at h
      · exact absurd h (by decide)
      · split at h
        · rename_i h2
          rw [symOk_iff] at h2
          rcases List.mem_cons.1 hs with rfl | hs
          · exact ⟨h1, ⟨h2.1, h2.2.1⟩, h2.2.2⟩
          · exact ih _ h s hs
        · exact absurd h (by decide)
    · exact absurd h (by decide)
theorem relR_valid {ts ds : Int} {x b : S43} (ht : 0 ≤ ts ∧ ts ≤ 16384) (hd : 0 ≤ ds ∧ ds ≤ 16384) (h : relR ts ds x b = 0) : RelV x := by
  have hz : 0 ≤ (if x.f0 = 2 then ds else ts) ∧ (if x.f0 = 2 then ds else ts) ≤ 16384 := by split <;> omega
  unfold relR at h
  generalize (if x.f0 = 2 then ds else ts) = sz at h hz
  rw [y5x (n := sz - 2) (by omega) (by omega)] at h
  by_cases h1 : x.f0 ≠ 1 ∧ x.f0 ≠ 2
  · rw [if_pos h1] at h; exact absurd h (by decide)
  rw [if_neg h1] at h
  by_cases h2 : x.f1 < 0 ∨ Int.tmod x.f1 2 ≠ 0 ∨ x.f1 > sz - 2
  · rw [if_pos h2] at h; exact absurd h (by decide)
  rw [if_neg h2] at h
  by_cases h3 : x.f0 < b.f0 ∨ (x.f0 = b.f0 ∧ x.f1 ≤ b.f1)
  · rw [if_pos h3] at h; exact absurd h (by decide)
  rw [if_neg h3] at h
  by_cases h4 : x.f2 < 0 ∨ x.f2 > 4 ∨ (x.f2 = 0 ∧ x.f4 = false)
  · rw [if_pos h4] at h; exact absurd h (by decide)
  rw [if_neg h4] at h
  refine ⟨by omega, by omega, by omega, ?_⟩
  by_cases h5 : x.f2 = 4
  · rw [if_pos h5] at h
    by_cases h6 : isNm x.f3 = true
    · exact .inl ⟨h5, h6⟩
    · rw [if_neg h6] at h; exact absurd h (by decide)
  · rw [if_neg h5] at h
    by_cases h6 : bs x.f3 = []
    · exact .inr ⟨h5, h6⟩
    · rw [if_neg h6] at h; exact absurd h (by decide)
theorem relsR_valid {ts ds : Int} (ht : 0 ≤ ts ∧ ts ≤ 16384) (hd : 0 ≤ ds ∧ ds ≤ 16384) (l : List S43) : ∀ b, relsR ts ds b l = 0 → ∀ x ∈ l, RelV x := by
  induction l with
  | nil => intro _ _ s hs; cases hs
  | cons x l ih =>
    intro b h s hs
    unfold relsR at h
    split at h
    · rename_i h1
      rcases List.mem_cons.1 hs with rfl | hs
      · exact relR_valid ht hd h1
      · exact ih _ h s hs
    · rename_i h1; exact absurd h h1
theorem y5m {m : Md} (h : m.check = 0) : Valid m := by
  unfold Md.check checkR at h
  split at h
  · rename_i h0
    split at h
    · exact absurd h (by decide)
    · rename_i h1
      split at h
      · exact absurd h (by decide)
      · rename_i h2
        split at h
        · rename_i h3
          exact ⟨h0, ⟨by omega, by omega⟩, by omega, ⟨by omega, by omega⟩, by omega, by omega, symsR_valid _ _ h3, relsR_valid ⟨by omega, by omega⟩ ⟨by omega, by omega⟩ _ _ h⟩
        · rename_i h3; exact absurd h h3
  · exact absurd h (by decide)
theorem y3f {s : ByteArray} (h : isNm s = true) : 1 ≤ s.size ∧ s.size ≤ 14 := by
  have := nameL_len h
  rwa [y0z] at this
theorem SymV.len {s : S62} (h : SymV s) : s.f0.size ≤ 14 := (y3f h.h0).2
theorem RelV.len {x : S43} (h : RelV x) : x.f3.size ≤ 14 := by
  rcases h.h3 with h | h
  · exact (y3f h.2).2
  · rw [← y0z, h.2]; exact Nat.zero_le _
theorem Valid.fine {m : Md} (h : Valid m) : Fine m.a0 m.l4 m.l5 :=
  ⟨by have := (y3f h.h0).2; omega, fun s hs => by have := (h.h4 s hs).len; omega, fun s hs => by have := (h.h5 s hs).len; omega⟩
theorem mx_id {n : Int} (h : 0 ≤ n) : mx n 0 = n := by unfold mx; rw [if_neg (by omega)]
def bitB (b : Bool) : List UInt8 := [if b = true then 1 else 0]
def symB (s : S62) : List UInt8 := ((putT (bs s.f0) ++ le s.f1 1) ++ le s.f2 2) ++ bitB s.f3
def relB (x : S43) : List UInt8 := (((le x.f0 1 ++ le x.f1 2) ++ le x.f2 1) ++ putT (bs x.f3)) ++ bitB x.f4
def headB (m : Md) : List UInt8 := ((([79, 66, 74, 49] ++ putT (bs m.a0)) ++ putT (bs m.a1)) ++ putT (bs m.a2)) ++ le m.a3 2
def symsB (l : List S62) : List UInt8 := l.flatMap symB
def relsB (l : List S43) : List UInt8 := l.flatMap relB
def bodyB (m : Md) : List UInt8 := (((headB m ++ le (m.l4.length : Int) 2) ++ symsB m.l4) ++ le (m.l5.length : Int) 2) ++ relsB m.l5
theorem y3y (l : List UInt8) : (putT l).length ≤ 65537 := by
  unfold putT; rw [List.length_append, y2y, List.length_take]; omega
theorem y5f (s : S62) : (symB s).length ≤ 65541 := by
  unfold symB bitB
  have := y3y (bs s.f0)
  simp only [List.length_append, y2y, List.length_singleton]
  omega
theorem y4f (x : S43) : (relB x).length ≤ 65542 := by
  unfold relB bitB
  have := y3y (bs x.f3)
  simp only [List.length_append, y2y, List.length_singleton]
  omega
theorem y5g (l : List S62) : (symsB l).length ≤ 65541 * l.length := by
  induction l with
  | nil => simp [symsB]
  | cons s l ih =>
    have h1 := y5f s
    have h2 : symsB (s :: l) = symB s ++ symsB l := rfl
    rw [h2, List.length_append, List.length_cons]
    omega
theorem y4g (l : List S43) : (relsB l).length ≤ 65542 * l.length := by
  induction l with
  | nil => simp [relsB]
  | cons s l ih =>
    have h1 := y4f s
    have h2 : relsB (s :: l) = relB s ++ relsB l := rfl
    rw [h2, List.length_append, List.length_cons]
    omega
theorem y2f (m : Md) : (headB m).length ≤ 196617 := by
  unfold headB
  have h1 := y3y (bs m.a0)
  have h2 := y3y (bs m.a1)
  have h3 := y3y (bs m.a2)
  simp only [List.length_append, y2y, List.length_cons, List.length_nil]
  omega
theorem y0v {m : Md} (hV : Valid m) : (bodyB m).length ≤ 200000000 := by
  unfold bodyB
  have h1 := y2f m
  have h2 := y5g m.l4
  have h3 := y4g m.l5
  have h4 := hV.n4
  have h5 := hV.n5
  simp only [List.length_append, y2y]
  omega
theorem y5h (l : List S62) (i : Nat) (h : i < l.length) : symsB (l.take (i + 1)) = symsB (l.take i) ++ symB l[i] := by
  unfold symsB; rw [List.take_succ_eq_append_getElem h, List.flatMap_append]; simp
theorem y4h (l : List S43) (i : Nat) (h : i < l.length) : relsB (l.take (i + 1)) = relsB (l.take i) ++ relB l[i] := by
  unfold relsB; rw [List.take_succ_eq_append_getElem h, List.flatMap_append]; simp
abbrev Rd := Int × Bool
def rdT (t : List UInt8) (p : Rd) : List UInt8 × Rd := if (getT t p.1).2.2 = 0 then ((getT t p.1).1, ((getT t p.1).2.1, p.2)) else ([], (p.1, true))
def rdN (t : List UInt8) (p : Rd) (w : Int) : Int × Rd := if (getR t p.1 w).2.2 = 0 then ((getR t p.1 w).1, ((getR t p.1 w).2.1, p.2)) else (0, (p.1, true))
def rdS (t : List UInt8) (p : Rd) : S62 × Rd :=
  (⟨mkS (rdT t p).1, (rdN t (rdT t p).2 1).1, (rdN t (rdN t (rdT t p).2 1).2 2).1, (rdN t (rdN t (rdN t (rdT t p).2 1).2 2).2 1).1 == 1⟩, (rdN t (rdN t (rdN t (rdT t p).2 1).2 2).2 1).2)
def rdX (t : List UInt8) (p : Rd) : S43 × Rd :=
  (⟨(rdN t p 1).1, (rdN t (rdN t p 1).2 2).1, (rdN t (rdN t (rdN t p 1).2 2).2 1).1, mkS (rdT t (rdN t (rdN t (rdN t p 1).2 2).2 1).2).1, (rdN t (rdT t (rdN t (rdN t (rdN t p 1).2 2).2 1).2).2 1).1 == 1⟩, (rdN t (rdT t (rdN t (rdN t (rdN t p 1).2 2).2 1).2).2 1).2)
def rdL {α : Type} (f : Rd → α × Rd) : Nat → Rd → List α × Rd
  | 0, p => ([], p)
  | n + 1, p => if p.2 = true then ([], p) else ((f p).1 :: (rdL f n (f p).2).1, (rdL f n (f p).2).2)
theorem rdL_bad {α : Type} (f : Rd → α × Rd) (n : Nat) (p : Rd) (h : p.2 = true) : rdL f n p = ([], p) := by
  cases n with
  | zero => rfl
  | succ n => unfold rdL; rw [if_pos h]
def parseM (t : List UInt8) : Md × Rd :=
  let x0 := rdT t (4, false); let x1 := rdT t x0.2; let x2 := rdT t x1.2; let x3 := rdN t x2.2 2; let n4 := rdN t x3.2 2
  let x4 := rdL (rdS t) n4.1.toNat n4.2; let n5 := rdN t x4.2 2; let x5 := rdL (rdX t) n5.1.toNat n5.2
  (⟨mkS x0.1, mkS x1.1, mkS x2.1, x3.1, x4.1, x5.1⟩, x5.2)
def decR (s : List UInt8) : Md × Int :=
  if (openR s).2 = 0 then
    (if (parseM (openR s).1).2.2 = true ∨ (parseM (openR s).1).1.check ≠ 0 ∨ bodyB (parseM (openR s).1).1 ≠ (openR s).1 then (m0, 9) else ((parseM (openR s).1).1, 0))
  else (m0, (openR s).2)
theorem y48 (a z s : List UInt8) (b : Bool) (hs : s.length ≤ 65535) : rdT (a ++ putT s ++ z) ((a.length : Int), b) = (s, (((a ++ putT s).length : Nat) : Int), b) := by
  have h1 := getT_put a z s hs
  have h2 : (((a ++ putT s).length : Nat) : Int) = (a.length : Int) + 2 + s.length := by rw [List.length_append, y3z s hs, List.length_append, y2y]; omega
  unfold rdT
  simp only [h1, ↓reduceIte, h2]
theorem y46 (a z : List UInt8) (n : Int) (w : Nat) (wi : Int) (hwi : wi = (w : Int)) (b : Bool) (hw : 1 ≤ w) (hw7 : w ≤ 7) (h0 : 0 ≤ n) (h1 : n < 256 ^ w) : rdN (a ++ le n w ++ z) ((a.length : Int), b) wi = (n, (((a ++ le n w).length : Nat) : Int), b) := by
  subst hwi
  have h1 := y28 a z n w hw hw7 h0 h1
  have h2 : (((a ++ le n w).length : Nat) : Int) = (a.length : Int) + w := by rw [List.length_append, y2y]; omega
  unfold rdN
  simp only [h1, ↓reduceIte, h2]
theorem rdN_bit (a z : List UInt8) (c b : Bool) : rdN (a ++ bitB c ++ z) ((a.length : Int), b) 1 = (if c = true then 1 else 0, (((a ++ bitB c).length : Nat) : Int), b) := by
  have e : bitB c = le (if c = true then 1 else 0) 1 := by cases c <;> decide
  rw [e]
  exact y46 a z _ 1 1 rfl b (by omega) (by omega) (by split <;> omega) (by split <;> decide)
theorem mkS_id (s : ByteArray) : mkS (bs s) = s := mkS_bs s
theorem at_of {t a p q z : List UInt8} (e : t = a ++ (p ++ q) ++ z) : t = a ++ p ++ (q ++ z) ∧ t = (a ++ p) ++ q ++ z := by
  subst e
  constructor <;> simp only [List.append_assoc]
theorem rdS_put (t a z : List UInt8) (s : S62) (hV : SymV s) (e : t = a ++ symB s ++ z) : rdS t ((a.length : Int), false) = (s, (((a ++ symB s).length : Nat) : Int), false) := by
  unfold symB at e ⊢
  obtain ⟨e3, e4⟩ := at_of e
  obtain ⟨e2, e3b⟩ := at_of (a := a) (z := bitB s.f3 ++ z) e3
  obtain ⟨e1, e2b⟩ := at_of (a := a) (z := le s.f2 2 ++ (bitB s.f3 ++ z)) e2
  have r1 : rdT t ((a.length : Int), false) = (bs s.f0, (((a ++ putT (bs s.f0)).length : Nat) : Int), false) := by
    rw [e1]; exact y48 a _ _ false (by rw [y0z]; have := hV.len; omega)
  have r2 : rdN t ((((a ++ putT (bs s.f0)).length : Nat) : Int), false) 1 = (s.f1, (((a ++ putT (bs s.f0) ++ le s.f1 1).length : Nat) : Int), false) := by
    rw [e2b]; exact y46 _ _ _ 1 1 rfl false (by omega) (by omega) hV.h1.1 (by have := hV.h1.2; omega)
  have r3 : rdN t ((((a ++ putT (bs s.f0) ++ le s.f1 1).length : Nat) : Int), false) 2 = (s.f2, (((a ++ putT (bs s.f0) ++ le s.f1 1 ++ le s.f2 2).length : Nat) : Int), false) := by
    have e3c : t = (a ++ putT (bs s.f0) ++ le s.f1 1) ++ le s.f2 2 ++ (bitB s.f3 ++ z) := by rw [e3b]; simp only [List.append_assoc]
    rw [e3c]; exact y46 _ _ _ 2 2 rfl false (by omega) (by omega) hV.h2.1 (by have := hV.h2.2; omega)
  have r4 : rdN t ((((a ++ putT (bs s.f0) ++ le s.f1 1 ++ le s.f2 2).length : Nat) : Int), false) 1 = (if s.f3 = true then 1 else 0, (((a ++ putT (bs s.f0) ++ le s.f1 1 ++ le s.f2 2 ++ bitB s.f3).length : Nat) : Int), false) := by
    have e4c : t = (a ++ putT (bs s.f0) ++ le s.f1 1 ++ le s.f2 2) ++ bitB s.f3 ++ z := by rw [e4]; simp only [List.append_assoc]
    rw [e4c]; exact rdN_bit _ _ _ _
  unfold rdS
  rw [r1]; simp only; rw [r2]; simp only; rw [r3]; simp only; rw [r4]
  simp only [mkS_id, ← List.append_assoc]
  cases h3 : s.f3 <;> (congr 1; cases s; simp_all)
theorem rdX_put (t a z : List UInt8) (x : S43) (hV : RelV x) (e : t = a ++ relB x ++ z) : rdX t ((a.length : Int), false) = (x, (((a ++ relB x).length : Nat) : Int), false) := by
  unfold relB at e ⊢
  have e1 : t = a ++ le x.f0 1 ++ (le x.f1 2 ++ (le x.f2 1 ++ (putT (bs x.f3) ++ (bitB x.f4 ++ z)))) := by rw [e]; simp only [List.append_assoc]
  have e2 : t = (a ++ le x.f0 1) ++ le x.f1 2 ++ (le x.f2 1 ++ (putT (bs x.f3) ++ (bitB x.f4 ++ z))) := by rw [e]; simp only [List.append_assoc]
  have e3 : t = (a ++ le x.f0 1 ++ le x.f1 2) ++ le x.f2 1 ++ (putT (bs x.f3) ++ (bitB x.f4 ++ z)) := by rw [e]; simp only [List.append_assoc]
  have e4 : t = (a ++ le x.f0 1 ++ le x.f1 2 ++ le x.f2 1) ++ putT (bs x.f3) ++ (bitB x.f4 ++ z) := by rw [e]; simp only [List.append_assoc]
  have e5 : t = (a ++ le x.f0 1 ++ le x.f1 2 ++ le x.f2 1 ++ putT (bs x.f3)) ++ bitB x.f4 ++ z := by rw [e]; simp only [List.append_assoc]
  have h0 := hV.h0
  have h1 := hV.h1
  have h2 := hV.h2
  have r1 : rdN t ((a.length : Int), false) 1 = (x.f0, (((a ++ le x.f0 1).length : Nat) : Int), false) := by
    rw [e1]; exact y46 _ _ _ 1 1 rfl false (by omega) (by omega) (by omega) (by omega)
  have r2 : rdN t ((((a ++ le x.f0 1).length : Nat) : Int), false) 2 = (x.f1, (((a ++ le x.f0 1 ++ le x.f1 2).length : Nat) : Int), false) := by
    rw [e2]; exact y46 _ _ _ 2 2 rfl false (by omega) (by omega) (by omega) (by omega)
  have r3 : rdN t ((((a ++ le x.f0 1 ++ le x.f1 2).length : Nat) : Int), false) 1 = (x.f2, (((a ++ le x.f0 1 ++ le x.f1 2 ++ le x.f2 1).length : Nat) : Int), false) := by
    rw [e3]; exact y46 _ _ _ 1 1 rfl false (by omega) (by omega) (by omega) (by omega)
  have r4 : rdT t ((((a ++ le x.f0 1 ++ le x.f1 2 ++ le x.f2 1).length : Nat) : Int), false) = (bs x.f3, (((a ++ le x.f0 1 ++ le x.f1 2 ++ le x.f2 1 ++ putT (bs x.f3)).length : Nat) : Int), false) := by
    rw [e4]; exact y48 _ _ _ false (by rw [y0z]; have := hV.len; omega)
  have r5 : rdN t ((((a ++ le x.f0 1 ++ le x.f1 2 ++ le x.f2 1 ++ putT (bs x.f3)).length : Nat) : Int), false) 1 = (if x.f4 = true then 1 else 0, (((a ++ le x.f0 1 ++ le x.f1 2 ++ le x.f2 1 ++ putT (bs x.f3) ++ bitB x.f4).length : Nat) : Int), false) := by
    rw [e5]; exact rdN_bit _ _ _ _
  unfold rdX
  rw [r1]; simp only; rw [r2]; simp only; rw [r3]; simp only; rw [r4]; simp only; rw [r5]
  simp only [mkS_id, ← List.append_assoc]
  cases h4 : x.f4 <;> (congr 1; cases x; simp_all)
theorem rdL_put {α : Type} (f : Rd → α × Rd) (g : α → List UInt8) (t : List UInt8) (P : α → Prop) (hf : ∀ a z x, P x → t = a ++ g x ++ z → f ((a.length : Int), false) = (x, (((a ++ g x).length : Nat) : Int), false)) (l : List α) : ∀ a z, (∀ x ∈ l, P x) → t = a ++ l.flatMap g ++ z →
    rdL f l.length ((a.length : Int), false) = (l, (((a ++ l.flatMap g).length : Nat) : Int), false) := by
  induction l with
  | nil => intro a z _ _; simp [rdL]
  | cons x l ih =>
    intro a z hP e
    rw [List.flatMap_cons] at e
    have h1 := hf a (l.flatMap g ++ z) x (hP x List.mem_cons_self) (by rw [e]; simp only [List.append_assoc])
    have h2 := ih (a ++ g x) z (fun y hy => hP y (List.mem_cons_of_mem _ hy)) (by rw [e]; simp only [List.append_assoc])
    rw [List.length_cons]
    unfold rdL
    rw [if_neg Bool.false_ne_true, h1]
    simp only
    rw [h2, List.flatMap_cons]
    simp only [List.append_assoc]
theorem parse_put {m : Md} (hV : Valid m) (z : List UInt8) : parseM (bodyB m ++ z) = (m, (((bodyB m).length : Nat) : Int), false) := by
  obtain ⟨t, ht⟩ : ∃ t, t = bodyB m ++ z := ⟨_, rfl⟩
  rw [← ht]
  have hB : bodyB m = (((((((([79, 66, 74, 49] ++ putT (bs m.a0)) ++ putT (bs m.a1)) ++ putT (bs m.a2)) ++ le m.a3 2) ++ le (m.l4.length : Int) 2) ++ symsB m.l4) ++ le (m.l5.length : Int) 2) ++ relsB m.l5) := rfl
  rw [hB] at ht ⊢
  generalize hA : ([79, 66, 74, 49] : List UInt8) = A at ht ⊢
  have hAl : ((A.length : Nat) : Int) = 4 := by rw [← hA]; rfl
  have n4 := hV.n4
  have n5 := hV.n5
  have r0 : rdT t (4, false) = (bs m.a0, (((A ++ putT (bs m.a0)).length : Nat) : Int), false) := by
    rw [← hAl, ht]
    have := y48 A (putT (bs m.a1) ++ (putT (bs m.a2) ++ (le m.a3 2 ++ (le (m.l4.length : Int) 2 ++ (symsB m.l4 ++ (le (m.l5.length : Int) 2 ++ (relsB m.l5 ++ z))))))) (bs m.a0) false (by rw [y0z]; have := (y3f hV.h0).2; omega)
    simpa only [List.append_assoc] using this
  have r1 : rdT t ((((A ++ putT (bs m.a0)).length : Nat) : Int), false) = (bs m.a1, (((A ++ putT (bs m.a0) ++ putT (bs m.a1)).length : Nat) : Int), false) := by
    rw [ht]
    have := y48 (A ++ putT (bs m.a0)) (putT (bs m.a2) ++ (le m.a3 2 ++ (le (m.l4.length : Int) 2 ++ (symsB m.l4 ++ (le (m.l5.length : Int) 2 ++ (relsB m.l5 ++ z)))))) (bs m.a1) false (by rw [y0z]; have := hV.h1.1; omega)
    simpa only [List.append_assoc] using this
  have r2 : rdT t ((((A ++ putT (bs m.a0) ++ putT (bs m.a1)).length : Nat) : Int), false) = (bs m.a2, (((A ++ putT (bs m.a0) ++ putT (bs m.a1) ++ putT (bs m.a2)).length : Nat) : Int), false) := by
    rw [ht]
    have := y48 (A ++ putT (bs m.a0) ++ putT (bs m.a1)) (le m.a3 2 ++ (le (m.l4.length : Int) 2 ++ (symsB m.l4 ++ (le (m.l5.length : Int) 2 ++ (relsB m.l5 ++ z))))) (bs m.a2) false (by rw [y0z]; have := hV.h2; omega)
    simpa only [List.append_assoc] using this
  have r3 : rdN t ((((A ++ putT (bs m.a0) ++ putT (bs m.a1) ++ putT (bs m.a2)).length : Nat) : Int), false) 2 = (m.a3, (((A ++ putT (bs m.a0) ++ putT (bs m.a1) ++ putT (bs m.a2) ++ le m.a3 2).length : Nat) : Int), false) := by
    rw [ht]
    have := y46 (A ++ putT (bs m.a0) ++ putT (bs m.a1) ++ putT (bs m.a2)) (le (m.l4.length : Int) 2 ++ (symsB m.l4 ++ (le (m.l5.length : Int) 2 ++ (relsB m.l5 ++ z)))) m.a3 2 2 rfl false (by omega) (by omega) hV.h3.1 (by have := hV.h3.2; omega)
    simpa only [List.append_assoc] using this
  have r4 : rdN t ((((A ++ putT (bs m.a0) ++ putT (bs m.a1) ++ putT (bs m.a2) ++ le m.a3 2).length : Nat) : Int), false) 2 = ((m.l4.length : Int), (((A ++ putT (bs m.a0) ++ putT (bs m.a1) ++ putT (bs m.a2) ++ le m.a3 2 ++ le (m.l4.length : Int) 2).length : Nat) : Int), false) := by
    rw [ht]
    have := y46 (A ++ putT (bs m.a0) ++ putT (bs m.a1) ++ putT (bs m.a2) ++ le m.a3 2) (symsB m.l4 ++ (le (m.l5.length : Int) 2 ++ (relsB m.l5 ++ z))) (m.l4.length : Int) 2 2 rfl false (by omega) (by omega) (by omega) (by omega)
    simpa only [List.append_assoc] using this
  have r5 : rdL (rdS t) m.l4.length ((((A ++ putT (bs m.a0) ++ putT (bs m.a1) ++ putT (bs m.a2) ++ le m.a3 2 ++ le (m.l4.length : Int) 2).length : Nat) : Int), false) = (m.l4, (((A ++ putT (bs m.a0) ++ putT (bs m.a1) ++ putT (bs m.a2) ++ le m.a3 2 ++ le (m.l4.length : Int) 2 ++ symsB m.l4).length : Nat) : Int), false) :=
    rdL_put (rdS t) symB t SymV (fun a z x hx e => rdS_put t a z x hx e) m.l4 _ (le (m.l5.length : Int) 2 ++ (relsB m.l5 ++ z)) hV.h4 (by rw [ht]; unfold symsB; simp only [List.append_assoc])
  have r6 : rdN t ((((A ++ putT (bs m.a0) ++ putT (bs m.a1) ++ putT (bs m.a2) ++ le m.a3 2 ++ le (m.l4.length : Int) 2 ++ symsB m.l4).length : Nat) : Int), false) 2 = ((m.l5.length : Int), (((A ++ putT (bs m.a0) ++ putT (bs m.a1) ++ putT (bs m.a2) ++ le m.a3 2 ++ le (m.l4.length : Int) 2 ++ symsB m.l4 ++ le (m.l5.length : Int) 2).length : Nat) : Int), false) := by
    rw [ht]
    have := y46 (A ++ putT (bs m.a0) ++ putT (bs m.a1) ++ putT (bs m.a2) ++ le m.a3 2 ++ le (m.l4.length : Int) 2 ++ symsB m.l4) (relsB m.l5 ++ z) (m.l5.length : Int) 2 2 rfl false (by omega) (by omega) (by omega) (by omega)
    simpa only [List.append_assoc] using this
  have r7 : rdL (rdX t) m.l5.length ((((A ++ putT (bs m.a0) ++ putT (bs m.a1) ++ putT (bs m.a2) ++ le m.a3 2 ++ le (m.l4.length : Int) 2 ++ symsB m.l4 ++ le (m.l5.length : Int) 2).length : Nat) : Int), false) = (m.l5, (((A ++ putT (bs m.a0) ++ putT (bs m.a1) ++ putT (bs m.a2) ++ le m.a3 2 ++ le (m.l4.length : Int) 2 ++ symsB m.l4 ++ le (m.l5.length : Int) 2 ++ relsB m.l5).length : Nat) : Int), false) :=
    rdL_put (rdX t) relB t RelV (fun a z x hx e => rdX_put t a z x hx e) m.l5 _ z hV.h5 (by rw [ht]; unfold relsB; simp only [List.append_assoc])
  unfold parseM
  simp only
  rw [r0]; simp only; rw [r1]; simp only; rw [r2]; simp only; rw [r3]; simp only; rw [r4]; simp only [Int.toNat_natCast]; rw [r5]; simp only; rw [r6]; simp only [Int.toNat_natCast]; rw [r7]
  simp only [mkS_id]
def encR (m : Md) : List UInt8 × Int := if m.check = 0 then (seal_ (bodyB m), 0) else ([], m.check)
theorem dec_enc {m : Md} (h : m.check = 0) : decR (seal_ (bodyB m)) = (m, 0) := by
  have hp := parse_put (y5m h) []
  rw [List.append_nil] at hp
  unfold decR
  rw [y3n]
  simp only
  rw [if_pos trivial, hp]
  simp only
  rw [if_neg]
  rintro (h1 | h1 | h1)
  · exact absurd h1 (by decide)
  · exact h1 h
  · exact h1 rfl
end Go.Proofs.Ytenlmckahaniiaa.Obj
end
section
namespace Go.Proofs.Ytenlmckahaniiaa.Obj
open Go Go.RowKit Go.Proofs.Ytenlmckahaniiaa.K Go.Proofs.YtW.P Go.Proofs.YtW.M Go.Proofs.Ytenlmckahaniiaa.MyBits Go.Proofs.Ytenlmckahaniiaa.MyStr Go.Proofs.Ytenlmckahaniiaa.Oct
theorem truth_is (b : Bool) : zq1q.f b = some (mkS (bitB b)) := by cases b <;> rfl
theorem put1_is (n : Int) (h : 0 ≤ n) : Ev (fun k => zq1w.f k n 1) (mkS (le n 1)) := by
  have := y41 n 1
  rwa [mx_id h] at this
theorem y3x (n : Int) (h : 0 ≤ n) : Ev (fun k => zq1w.f k n 2) (mkS (le n 2)) := by
  have := y41 n 2
  rwa [mx_id h] at this
theorem body_l0 (l : List S62) (hV : ∀ s ∈ l, SymV s) (hn : l.length ≤ 256) (P : List UInt8) (hP : P.length ≤ 1000000) (d : Nat) : ∀ i : Nat, i + d = l.length →
    Ev (fun k => zq1s.l0 k l (mkS (P ++ symsB (l.take i))) (i : Int)) (mkS (P ++ symsB l)) := by
  induction d with
  | zero =>
    intro i hi
    rw [List.take_of_length_le (by omega)]
    exact Ev.step (f := fun _ => some _) (fun k => by rw [zq1s.l0, if_neg (by omega)]) (Ev.now _)
  | succ d ih =>
    intro i hi
    have hlt : i < l.length := by omega
    have hs := hV _ (List.getElem_mem hlt)
    have h1 := y5g (l.take i)
    have h2 := y5f l[i]
    rw [List.length_take] at h1
    have hI := ih (i + 1) (by omega)
    rw [y5h l i hlt, ← List.append_assoc] at hI
    refine Ev.step (fun k => by rw [zq1s.l0, if_pos (by omega), if_pos (by omega), rd62 l i hlt, i64_nat i (by omega)]) ?_
    refine Ev.bind (y40 _ (by have := hs.len; omega)) (Ev.bind (put1_is _ hs.h1.1) (Ev.bind (y3x _ hs.h2.1) ?_))
    refine Ev.congr (fun k => by rw [truth_is, Option.bind_some]) ?_
    rw [y36, y36, y36, y36]
    refine Ev.congr (fun k => if_pos ?_) hI
    rw [y37, y37, List.length_append]
    unfold symB at h2
    omega
theorem body_l1 (l : List S43) (hV : ∀ s ∈ l, RelV s) (hn : l.length ≤ 2048) (P : List UInt8) (hP : P.length ≤ 100000000) (d : Nat) : ∀ i : Nat, i + d = l.length →
    Ev (fun k => zq1s.l1 k l (mkS (P ++ relsB (l.take i))) (i : Int)) (mkS (P ++ relsB l)) := by
  induction d with
  | zero =>
    intro i hi
    rw [List.take_of_length_le (by omega)]
    exact Ev.step (f := fun _ => some _) (fun k => by rw [zq1s.l1, if_neg (by omega)]) (Ev.now _)
  | succ d ih =>
    intro i hi
    have hlt : i < l.length := by omega
    have hs := hV _ (List.getElem_mem hlt)
    have h1 := y4g (l.take i)
    have h2 := y4f l[i]
    have hs0 := hs.h0
    rw [List.length_take] at h1
    have hI := ih (i + 1) (by omega)
    rw [y4h l i hlt, ← List.append_assoc] at hI
    refine Ev.step (fun k => by rw [zq1s.l1, if_pos (by omega), if_pos (by omega), rd43 l i hlt, i64_nat i (by omega)]) ?_
    refine Ev.bind (put1_is _ (by omega)) (Ev.bind (y3x _ hs.h1.1) (Ev.bind (put1_is _ hs.h2.1) (Ev.bind (y40 _ (by have := hs.len; omega)) ?_)))
    refine Ev.congr (fun k => by rw [truth_is, Option.bind_some]) ?_
    rw [y36, y36, y36, y36, y36]
    refine Ev.congr (fun k => if_pos ?_) hI
    rw [y37, y37, List.length_append]
    unfold relB at h2
    omega
theorem body_is {m : Md} (hV : Valid m) : Ev (fun k => zq1s.f k m.a0 m.a1 m.a2 m.a3 m.l4 m.l5) (mkS (bodyB m)) := by
  have hh := y2f m
  have n4 := hV.n4
  have n5 := hV.n5
  have hsl := y5g m.l4
  unfold zq1s.f
  refine Ev.bind (y40 _ (by have := (y3f hV.h0).2; omega)) (Ev.bind (y40 _ (by have := hV.h1.1; omega)) (Ev.bind (y40 _ (by have := hV.h2; omega)) (Ev.bind (y3x _ hV.h3.1) ?_)))
  have e : ((((⟨#[79, 66, 74, 49]⟩ : ByteArray) ++ mkS (putT (bs m.a0))) ++ mkS (putT (bs m.a1))) ++ mkS (putT (bs m.a2))) ++ mkS (le m.a3 2) = mkS (headB m) := by
    rw [show (⟨#[79, 66, 74, 49]⟩ : ByteArray) = mkS [79, 66, 74, 49] from rfl, y36, y36, y36, y36]; rfl
  rw [e]
  refine Ev.congr (fun k => if_pos (by rw [y37]; omega)) ?_
  refine Ev.bind (y3x _ (by omega)) ?_
  refine Ev.congr (fun k => if_pos (by rw [y37, y37, y2y]; omega)) ?_
  rw [y36]
  have h0 := body_l0 m.l4 hV.h4 n4 (headB m ++ le (m.l4.length : Int) 2) (by rw [List.length_append, y2y]; omega) m.l4.length 0 (by omega)
  rw [List.take_zero, show symsB [] = [] from rfl, List.append_nil] at h0
  refine Ev.bind h0 (Ev.bind (y3x _ (by omega)) ?_)
  have hl : ((headB m ++ le (m.l4.length : Int) 2) ++ symsB m.l4).length ≤ 50000000 := by rw [List.length_append, List.length_append, y2y]; omega
  refine Ev.congr (fun k => if_pos (by rw [y37, y37, y2y]; show (headB m ++ le (m.l4.length : Int) 2 ++ symsB m.l4).length + 2 ≤ _; omega)) ?_
  rw [y36]
  have h1 := body_l1 m.l5 hV.h5 n5 (headB m ++ le (m.l4.length : Int) 2 ++ symsB m.l4 ++ le (m.l5.length : Int) 2) (by rw [List.length_append, y2y]; omega) m.l5.length 0 (by omega)
  rw [List.take_zero, show relsB [] = [] from rfl, List.append_nil] at h1
  exact h1
theorem check_m {m : Md} (hf : Fine m.a0 m.l4 m.l5) (h4 : m.l4.length ≤ 1000000) (h5 : m.l5.length ≤ 1000000) : Ev (fun k => zq1o.f k m.a0 m.a1 m.a2 m.a3 m.l4 m.l5) m.check := check_is _ _ _ _ _ _ hf h4 h5
theorem encode_is {m : Md} (hf : Fine m.a0 m.l4 m.l5) (h4 : m.l4.length ≤ 1000000) (h5 : m.l5.length ≤ 1000000) : Ev (fun k => zq1i.f k m.a0 m.a1 m.a2 m.a3 m.l4 m.l5) (mkS (encR m).1, (encR m).2) := by
  unfold zq1i.f encR
  refine Ev.bind (check_m hf h4 h5) ?_
  by_cases h : m.check = 0
  · have hV := y5m h
    have hb := y0v hV
    rw [if_pos h]
    refine Ev.congr (fun k => if_pos h) ?_
    refine Ev.bind (body_is hV) ?_
    refine Ev.bind (seal_is _ (by rw [y37]; omega)) ?_
    rw [y14]
    exact Ev.now _
  · rw [if_neg h]
    exact Ev.congr (fun k => if_neg h) (Ev.now _)
end Go.Proofs.Ytenlmckahaniiaa.Obj
end
section
namespace Go.Proofs.Ytenlmckahaniiaa.Obj
open Go Go.RowKit Go.Proofs.Ytenlmckahaniiaa.K Go.Proofs.YtW.P Go.Proofs.YtW.M Go.Proofs.Ytenlmckahaniiaa.MyBits Go.Proofs.Ytenlmckahaniiaa.MyStr Go.Proofs.Ytenlmckahaniiaa.Oct
theorem y4y (t : ByteArray) (hs : t.size < 140737488355000) (p : Rd) : Ev (fun k => zq11.f k t p.1 p.2) (mkS (rdT (bs t) p).1, t, (rdT (bs t) p).2.1, (rdT (bs t) p).2.2) := by
  unfold zq11.f rdT
  refine Ev.bind (getText_is t p.1 hs) ?_
  refine Ev.ite (fun h => ?_) (fun h => ?_)
  · rw [if_pos h]; exact Ev.now _
  · rw [if_neg h]; exact Ev.now _
theorem y4o (t : ByteArray) (hs : t.size < 140737488355000) (p : Rd) (w : Int) : Ev (fun k => zq17.f k t p.1 p.2 w) ((rdN (bs t) p w).1, t, (rdN (bs t) p w).2.1, (rdN (bs t) p w).2.2) := by
  unfold zq17.f rdN
  refine Ev.bind (y2c t p.1 w (by omega)) ?_
  refine Ev.ite (fun h => ?_) (fun h => ?_)
  · rw [if_pos h]; exact Ev.now _
  · rw [if_neg h]; exact Ev.now _
theorem getT_len (t : List UInt8) (a : Int) : (getT t a).1.length ≤ t.length := by
  unfold getT
  split
  · split
    · exact Nat.zero_le _
    · show (List.take _ (List.drop _ t)).length ≤ _
      rw [List.length_take, List.length_drop]; omega
  · exact Nat.zero_le _
theorem y47 (t : List UInt8) (p : Rd) : (rdT t p).1.length ≤ t.length := by
  unfold rdT
  split
  · exact getT_len t p.1
  · exact Nat.zero_le _
theorem y45 (t : List UInt8) (p : Rd) : 0 ≤ (rdN t p 2).1 ∧ (rdN t p 2).1 < 65536 := by
  unfold rdN
  split
  · rename_i h; exact y25 t p.1 h
  · exact ⟨Int.le_refl _, show (0 : Int) < 65536 by decide⟩
def tup (m : Md) (e : Int) : ByteArray × ByteArray × ByteArray × Int × List S62 × List S43 × Int := (m.a0, m.a1, m.a2, m.a3, m.l4, m.l5, e)
def fin (t : List UInt8) (m : Md) (bad : Bool) : ByteArray × ByteArray × ByteArray × Int × List S62 × List S43 × Int :=
  if bad = true ∨ m.check ≠ 0 ∨ bodyB m ≠ t then tup m0 9 else tup m 0
theorem dec_end (t : ByteArray) (m : Md) (bad : Bool) (hf : Fine m.a0 m.l4 m.l5) (h4 : m.l4.length ≤ 1000000) (h5 : m.l5.length ≤ 1000000) (n a : Int) :
    Ev (fun k => zq1h.j3 k t n false t a bad m.a0 m.a1 m.a2 m.a3 m.l4 m.l5) (fin (bs t) m bad) := by
  unfold fin
  refine Ev.step (fun k => by rw [zq1h.j3, if_neg (by decide)]) ?_
  refine Ev.ite (fun h => ?_) (fun h => ?_)
  · rw [if_pos (.inl h)]; exact Ev.now _
  · refine Ev.bind (check_m hf h4 h5) ?_
    refine Ev.ite (fun h2 => ?_) (fun h2 => ?_)
    · refine Ev.bind (body_is (y5m h2)) ?_
      refine Ev.ite (fun h3 => ?_) (fun h3 => ?_)
      · rw [y5i, y5i, y14] at h3
        rw [if_neg (by rintro (h' | h' | h'); exact h h'; exact h' h2; exact h' h3)]
        exact Ev.now _
      · rw [y5i, y5i, y14] at h3
        rw [if_pos (.inr (.inr h3))]
        exact Ev.now _
    · rw [if_pos (.inr (.inl h2))]; exact Ev.now _
theorem dec_l1 (t : ByteArray) (hs : t.size < 140737488355000) (a0 a1 a2 : ByteArray) (a3 : Int) (l4 : List S62) (h0 : a0.size ≤ 9223372036854775806) (h4 : Fine62 l4) (hn4 : l4.length ≤ 1000000) (n : Nat) : ∀ (p : Rd) (L : List S43), Fine43 L → L.length + n ≤ 65536 →
    Ev (fun k => zq1h.l1 k t (n : Int) t p.1 p.2 a0 a1 a2 a3 l4 L) (fin (bs t) ⟨a0, a1, a2, a3, l4, L ++ (rdL (rdX (bs t)) n p).1⟩ (rdL (rdX (bs t)) n p).2.2) := by
  have hb := y0z t
  induction n with
  | zero =>
    intro p L hL hn
    have := dec_end t ⟨a0, a1, a2, a3, l4, L⟩ p.2 ⟨h0, h4, hL⟩ hn4 (by show L.length ≤ _; omega) 0 p.1
    unfold rdL
    simp only [List.append_nil]
    exact Ev.step (fun k => by rw [zq1h.l1, if_neg (by omega)]; rfl) this
  | succ n ih =>
    intro p L hL hn
    by_cases hp : p.2 = true
    · have := dec_end t ⟨a0, a1, a2, a3, l4, L⟩ p.2 ⟨h0, h4, hL⟩ hn4 (by show L.length ≤ _; omega) ((n + 1 : Nat) : Int) p.1
      rw [rdL_bad _ _ _ hp, List.append_nil]
      exact Ev.step (fun k => by rw [zq1h.l1, if_pos (by omega), hp, Bool.not_true]) (by rw [hp] at this ⊢; exact this)
    · rw [Bool.not_eq_true] at hp
      have hx : (rdX (bs t) p).1.f3.size ≤ 9223372036854775806 := by
        unfold rdX
        simp only
        rw [y37]
        have := y47 (bs t) (rdN (bs t) (rdN (bs t) (rdN (bs t) p 1).2 2).2 1).2
        omega
      have hI := ih (rdX (bs t) p).2 (L ++ [(rdX (bs t) p).1]) (fun s hs => by
        rcases List.mem_append.1 hs with h | h
        · exact hL s h
        · rw [List.mem_singleton.1 h]; exact hx) (by rw [List.length_append, List.length_singleton]; omega)
      have e1 : rdL (rdX (bs t)) (n + 1) p = ((rdX (bs t) p).1 :: (rdL (rdX (bs t)) n (rdX (bs t) p).2).1, (rdL (rdX (bs t)) n (rdX (bs t) p).2).2) := by
        rw [rdL, if_neg (by rw [hp]; exact Bool.false_ne_true)]
      rw [e1]
      simp only
      rw [List.append_cons]
      refine Ev.step (fun k => by rw [zq1h.l1, if_pos (by omega), hp, Bool.not_false]) ?_
      refine Ev.step (fun k => by rw [zq1h.j3, if_pos rfl]) ?_
      have r1 := y4o t hs p 1
      rw [hp] at r1
      refine Ev.bind r1 ?_
      refine Ev.bind (y4o t hs (rdN (bs t) p 1).2 2) ?_
      refine Ev.bind (y4o t hs (rdN (bs t) (rdN (bs t) p 1).2 2).2 1) ?_
      refine Ev.bind (y4y t hs (rdN (bs t) (rdN (bs t) (rdN (bs t) p 1).2 2).2 1).2) ?_
      refine Ev.bind (y4o t hs (rdT (bs t) (rdN (bs t) (rdN (bs t) (rdN (bs t) p 1).2 2).2 1).2).2 1) ?_
      refine Ev.congr (fun k => if_pos (by omega)) ?_
      have e2 : wrap64 (((n + 1 : Nat) : Int) - 1) = (n : Int) := by rw [y5x (by omega) (by omega)]; omega
      rw [e2]
      exact hI
theorem dec_l0 (t : ByteArray) (hs : t.size < 140737488355000) (a0 a1 a2 : ByteArray) (a3 : Int) (h0 : a0.size ≤ 9223372036854775806) (n : Nat) : ∀ (p : Rd) (L : List S62), Fine62 L → L.length + n ≤ 65536 →
    Ev (fun k => zq1h.l0 k t (n : Int) t p.1 p.2 a0 a1 a2 a3 L)
      (fin (bs t) ⟨a0, a1, a2, a3, L ++ (rdL (rdS (bs t)) n p).1, (rdL (rdX (bs t)) (rdN (bs t) (rdL (rdS (bs t)) n p).2 2).1.toNat (rdN (bs t) (rdL (rdS (bs t)) n p).2 2).2).1⟩ (rdL (rdX (bs t)) (rdN (bs t) (rdL (rdS (bs t)) n p).2 2).1.toNat (rdN (bs t) (rdL (rdS (bs t)) n p).2 2).2).2.2) := by
  have hb := y0z t
  have hend : ∀ (p : Rd) (L : List S62) (x : Int), Fine62 L → L.length ≤ 65536 → Ev (fun k => zq1h.j1 k t x false t p.1 p.2 a0 a1 a2 a3 L)
      (fin (bs t) ⟨a0, a1, a2, a3, L, (rdL (rdX (bs t)) (rdN (bs t) p 2).1.toNat (rdN (bs t) p 2).2).1⟩ (rdL (rdX (bs t)) (rdN (bs t) p 2).1.toNat (rdN (bs t) p 2).2).2.2) := by
    intro p L x hL hn
    obtain ⟨r0, r1⟩ := y45 (bs t) p
    refine Ev.step (fun k => by rw [zq1h.j1, if_neg (by decide)]) ?_
    refine Ev.bind (y4o t hs p 2) ?_
    have := dec_l1 t hs a0 a1 a2 a3 L h0 hL (by omega) (rdN (bs t) p 2).1.toNat (rdN (bs t) p 2).2 [] (fun s hs => by cases hs) (by simp; omega)
    rw [List.nil_append, show (((rdN (bs t) p 2).1.toNat : Nat) : Int) = (rdN (bs t) p 2).1 by omega] at this
    exact this
  induction n with
  | zero =>
    intro p L hL hn
    have := hend p L 0 hL (by omega)
    simp only [rdL, List.append_nil]
    exact Ev.step (fun k => by rw [zq1h.l0, if_neg (by omega)]; rfl) this
  | succ n ih =>
    intro p L hL hn
    by_cases hp : p.2 = true
    · have := hend p L ((n + 1 : Nat) : Int) hL (by omega)
      rw [rdL_bad (rdS (bs t)) _ _ hp, List.append_nil]
      exact Ev.step (fun k => by rw [zq1h.l0, if_pos (by omega), hp, Bool.not_true]) (by rw [hp] at this; exact this)
    · rw [Bool.not_eq_true] at hp
      have hx : (rdS (bs t) p).1.f0.size ≤ 9223372036854775806 := by
        unfold rdS
        simp only
        rw [y37]
        have := y47 (bs t) p
        omega
      have hI := ih (rdS (bs t) p).2 (L ++ [(rdS (bs t) p).1]) (fun s hs => by
        rcases List.mem_append.1 hs with h | h
        · exact hL s h
        · rw [List.mem_singleton.1 h]; exact hx) (by rw [List.length_append, List.length_singleton]; omega)
      have e1 : rdL (rdS (bs t)) (n + 1) p = ((rdS (bs t) p).1 :: (rdL (rdS (bs t)) n (rdS (bs t) p).2).1, (rdL (rdS (bs t)) n (rdS (bs t) p).2).2) := by
        rw [rdL, if_neg (by rw [hp]; exact Bool.false_ne_true)]
      rw [e1]
      simp only
      rw [List.append_cons]
      refine Ev.step (fun k => by rw [zq1h.l0, if_pos (by omega), hp, Bool.not_false]) ?_
      refine Ev.step (fun k => by rw [zq1h.j1, if_pos rfl]) ?_
      have r1 := y4y t hs p
      rw [hp] at r1
      refine Ev.bind r1 ?_
      refine Ev.bind (y4o t hs (rdT (bs t) p).2 1) ?_
      refine Ev.bind (y4o t hs (rdN (bs t) (rdT (bs t) p).2 1).2 2) ?_
      refine Ev.bind (y4o t hs (rdN (bs t) (rdN (bs t) (rdT (bs t) p).2 1).2 2).2 1) ?_
      refine Ev.congr (fun k => if_pos (by omega)) ?_
      have e2 : wrap64 (((n + 1 : Nat) : Int) - 1) = (n : Int) := by rw [y5x (by omega) (by omega)]; omega
      rw [e2]
      exact hI
theorem prefix_is (t : ByteArray) : zq18.f t (⟨#[79, 66, 74, 49]⟩ : ByteArray) = some (decide (4 ≤ t.size) && ((bs t).take 4 == [79, 66, 74, 49])) := by
  unfold zq18.f zqd.f
  have e : (((⟨#[79, 66, 74, 49]⟩ : ByteArray).size : Nat) : Int) = 4 := rfl
  rw [e]
  by_cases h : 4 ≤ t.size
  · rw [if_pos (by omega), if_pos (by omega), if_pos (by omega), decide_eq_true h, y5i, y5i, y0x]
    simp only [Option.bind_some, List.drop_zero, Bool.true_and]
    rfl
  · rw [if_neg (by omega), decide_eq_false h]
    rfl
theorem body_prefix (m : Md) : (bodyB m).take 4 = [79, 66, 74, 49] ∧ 4 ≤ (bodyB m).length := by
  have e : ∃ z, bodyB m = [79, 66, 74, 49] ++ z := by
    unfold bodyB headB
    exact ⟨_, by simp only [List.append_assoc]; rfl⟩
  obtain ⟨z, e⟩ := e
  rw [e]
  exact ⟨rfl, by simp⟩
theorem decode_is (s : ByteArray) (hs : s.size < 140737488355000) : Ev (fun k => zq1h.f k s) (tup (decR (bs s)).1 (decR (bs s)).2) := by
  unfold zq1h.f
  refine Ev.bind (open_is s hs) ?_
  have hlen : (mkS (openR (bs s)).1).size < 140737488355000 := by
    rw [y37]
    unfold openR
    have := y0z s
    split
    · simp
    · split
      · rw [List.length_take]; omega
      · simp
  refine Ev.ite (fun h => ?_) (fun h => ?_)
  · rw [prefix_is]
    refine Ev.bind (Ev.now _) ?_
    have hd : tup (decR (bs s)).1 (decR (bs s)).2 = fin (openR (bs s)).1 (parseM (openR (bs s)).1).1 (parseM (openR (bs s)).1).2.2 := by
      unfold decR fin
      have h' : (openR (bs s)).2 = 0 := h
      rw [if_pos h']
      split <;> rfl
    rw [hd]
    have hb : bs (mkS (openR (bs s)).1) = (openR (bs s)).1 := y14 _
    refine Ev.ite (fun h2 => ?_) (fun h2 => ?_)
    · generalize mkS (openR (bs s)).1 = t at hb hlen ⊢
      rw [← hb]
      refine Ev.bind (y4y t hlen (4, false)) ?_
      refine Ev.bind (y4y t hlen (rdT (bs t) (4, false)).2) ?_
      refine Ev.bind (y4y t hlen (rdT (bs t) (rdT (bs t) (4, false)).2).2) ?_
      refine Ev.bind (y4o t hlen (rdT (bs t) (rdT (bs t) (rdT (bs t) (4, false)).2).2).2 2) ?_
      refine Ev.bind (y4o t hlen (rdN (bs t) (rdT (bs t) (rdT (bs t) (rdT (bs t) (4, false)).2).2).2 2).2 2) ?_
      obtain ⟨r0, r1⟩ := y45 (bs t) (rdN (bs t) (rdT (bs t) (rdT (bs t) (rdT (bs t) (4, false)).2).2).2 2).2
      have := dec_l0 t hlen (mkS (rdT (bs t) (4, false)).1) (mkS (rdT (bs t) (rdT (bs t) (4, false)).2).1) (mkS (rdT (bs t) (rdT (bs t) (rdT (bs t) (4, false)).2).2).1) (rdN (bs t) (rdT (bs t) (rdT (bs t) (rdT (bs t) (4, false)).2).2).2 2).1 (by rw [y37]; have := y47 (bs t) (4, false); have := y0z t; omega)
        (rdN (bs t) (rdN (bs t) (rdT (bs t) (rdT (bs t) (rdT (bs t) (4, false)).2).2).2 2).2 2).1.toNat (rdN (bs t) (rdN (bs t) (rdT (bs t) (rdT (bs t) (rdT (bs t) (4, false)).2).2).2 2).2 2).2 [] (fun s hs => by cases hs) (by simp; omega)
      rw [List.nil_append, show (((rdN (bs t) (rdN (bs t) (rdT (bs t) (rdT (bs t) (rdT (bs t) (4, false)).2).2).2 2).2 2).1.toNat : Nat) : Int) = (rdN (bs t) (rdN (bs t) (rdT (bs t) (rdT (bs t) (rdT (bs t) (4, false)).2).2).2 2).2 2).1 by omega] at this
      exact this
    · unfold fin
      rw [if_pos]
      · exact Ev.now _
      · refine .inr (.inr (fun e => h2 ?_))
        obtain ⟨p1, p2⟩ := body_prefix (parseM (openR (bs s)).1).1
        rw [e] at p1 p2
        rw [y37, y14, decide_eq_true p2, p1]
        rfl
  · have h' : ¬ (openR (bs s)).2 = 0 := h
    unfold decR
    rw [if_neg h']
    exact Ev.now _
end Go.Proofs.Ytenlmckahaniiaa.Obj
end
section
namespace Go.Proofs.Ytenlmckahaniiaa.Lb
open Go Go.RowKit Go.Proofs.Ytenlmckahaniiaa.K Go.Proofs.YtW.P Go.Proofs.YtW.M Go.Proofs.Ytenlmckahaniiaa.MyBits Go.Proofs.Ytenlmckahaniiaa.MyStr Go.Proofs.Ytenlmckahaniiaa.Oct Go.Proofs.Ytenlmckahaniiaa.Obj
def md (x : S25) : Md := ⟨x.f0, x.f1, x.f2, x.f3, x.f4, x.f5⟩
def encM (x : S25) : List UInt8 := seal_ (bodyB (md x))
def piece (x : S25) : List UInt8 := le ((encM x).length : Int) 4 ++ encM x
def pieces (l : List S25) : List UInt8 := l.flatMap piece
def hdr (l : List S25) : List UInt8 := [76, 73, 66, 49] ++ le (l.length : Int) 2
def lbody (l : List S25) : List UInt8 := hdr l ++ pieces l
theorem libR_ok : ∀ (l : List S25) (seen : List (List UInt8)), libR seen l = 0 → ∀ x ∈ l, chk x = 0
  | [], _, _ => fun x hx => by cases hx
  | a :: l, seen, h => by
    unfold libR at h
    by_cases h0 : chk a = 0
    · rw [if_pos h0] at h
      by_cases h1 : seen.any (fun n => n == bs a.f0) = true
      · rw [if_pos h1] at h; exact absurd h (by decide)
      · rw [if_neg h1] at h
        intro x hx
        rcases List.mem_cons.1 hx with rfl | hx
        · exact h0
        · exact libR_ok l _ h x hx
    · rw [if_neg h0] at h; exact absurd h h0
theorem libC_ok {l : List S25} (h : libC l = 0) : l.length ≤ 32 ∧ ∀ x ∈ l, chk x = 0 := by
  unfold libC at h
  by_cases h1 : l.length > 32
  · rw [if_pos h1] at h; exact absurd h (by decide)
  · rw [if_neg h1] at h; exact ⟨by omega, libR_ok l [] h⟩
theorem y1v {x : S25} (h : chk x = 0) : (encM x).length ≤ 200000004 := by
  have := y0v (m := md x) (y5m h)
  unfold encM; rw [y50]; omega
theorem y3s (x : S25) : (piece x).length = 4 + (encM x).length := by unfold piece; rw [List.length_append, y2y]
theorem y3t : ∀ (l : List S25), (∀ x ∈ l, chk x = 0) → (pieces l).length ≤ l.length * 200000008
  | [], _ => Nat.zero_le _
  | x :: l, h => by
    have h1 := y1v (h x List.mem_cons_self)
    have h2 := y3t l (fun y hy => h y (List.mem_cons_of_mem _ hy))
    have h3 := y3s x
    have h4 : (pieces (x :: l)).length = (piece x).length + (pieces l).length := by unfold pieces; rw [List.flatMap_cons, List.length_append]
    rw [h4, List.length_cons]; omega
theorem width4 : width 4 = 4 := by decide
theorem width2 : width 2 = 2 := by decide
theorem enc_loop (l : List S25) (hl : l.length ≤ 32) (hs : ∀ x ∈ l, SmM x) (hc : ∀ x ∈ l, chk x = 0) (d : Nat) : ∀ (i : Nat) (acc : List UInt8), i + d = l.length → acc.length + d * 200000008 ≤ 8000000000 →
    Ev (fun k => zq1d.l0 k (mkS acc) l (l.length : Int) (i : Int)) (mkS (seal_ (acc ++ pieces (l.drop i))), 0) := by
  induction d with
  | zero =>
    intro i acc hi ha
    rw [List.drop_eq_nil_of_le (by omega), show pieces [] = [] from rfl, List.append_nil]
    refine Ev.step (f := fun k => (zq1u.f k (mkS acc)).bind fun t => some (t, 0)) (fun k => by rw [zq1d.l0, if_neg (by omega)]) ?_
    have h1 := seal_is (mkS acc) (by rw [y37]; omega)
    rw [y14] at h1
    exact Ev.bind h1 (Ev.now _)
  | succ d ih =>
    intro i acc hi ha
    have hlt : i < l.length := by omega
    have hx := hs l[i] (List.getElem_mem hlt)
    have hk := hc l[i] (List.getElem_mem hlt)
    have hn := y1v hk
    obtain ⟨x, hxe⟩ : ∃ x, x = l[i] := ⟨_, rfl⟩
    have hd : pieces (l.drop i) = piece x ++ pieces (l.drop (i + 1)) := by rw [List.drop_eq_getElem_cons hlt, hxe]; unfold pieces; rw [List.flatMap_cons]
    rw [hd]
    have h2 := ih (i + 1) (acc ++ piece x) (by omega) (by rw [List.length_append, y3s, hxe]; omega)
    rw [List.append_assoc] at h2
    rw [← hxe] at hx hk hn
    refine Ev.step (f := fun k => (zq1i.f k x.f0 x.f1 x.f2 x.f3 x.f4 x.f5).bind fun bt => (if bt.2 = 0 then ((zq1w.f k (bt.1.size : Int) 4).bind fun t => (if t.size + bt.1.size ≤ 9223372036854775807 then (if (mkS acc).size + (t ++ bt.1).size ≤ 9223372036854775807 then (zq1d.l0 k ((mkS acc) ++ (t ++ bt.1)) l (l.length : Int) ((i + 1 : Nat) : Int)) else none) else none)) else some (nB_, bt.2))) (fun k => by rw [zq1d.l0, if_pos (by omega), if_pos (by omega), if_pos (by omega), rd25 l i hlt, Obj.i64_nat i (by omega), hxe]) ?_
    have he : encR (md x) = (encM x, 0) := by unfold encR; rw [if_pos (show (md x).check = 0 from hk)]; rfl
    refine Ev.bind (Ev.eq (r' := (mkS (encM x), 0)) (encode_is (m := md x) hx.fine (by have := hx.n4; show x.f4.length ≤ _; omega) (by have := hx.n5; show x.f5.length ≤ _; omega)) (by rw [he])) ?_
    refine Ev.congr (fun k => if_pos rfl) ?_
    refine Ev.bind (y41 _ _) ?_
    show Ev (fun k => if (mkS (le (mx ((mkS (encM x)).size : Int) 0) (width 4))).size + (mkS (encM x)).size ≤ 9223372036854775807 then _ else _) _
    rw [y3a, width4, y37, y36, y36]
    refine Ev.congr (fun k => by rw [y37, y2y, y37, y37, if_pos (by omega), if_pos (by rw [List.length_append, y2y]; omega)]) ?_
    exact h2
theorem lenc_is (l : List S25) (hs : ∀ x ∈ l, SmM x) (h : libC l = 0) : Ev (fun k => zq1d.f k l) (mkS (seal_ (lbody l)), 0) := by
  obtain ⟨hl, hc⟩ := libC_ok h
  unfold zq1d.f
  refine Ev.bind (h ▸ y30 l hs) ?_
  refine Ev.congr (fun k => if_pos rfl) ?_
  refine Ev.bind (y41 _ _) ?_
  rw [y3a, width2]
  refine Ev.congr (fun k => if_pos (by rw [y37, y2y]; omega)) ?_
  have h1 := enc_loop l hl hs hc l.length 0 (hdr l) (by omega) (by unfold hdr; rw [List.length_append, y2y]; simp only [List.length_cons, List.length_nil]; omega)
  rw [List.drop_zero] at h1
  have e : (⟨#[76, 73, 66, 49]⟩ : ByteArray) ++ mkS (le (l.length : Int) 2) = mkS (hdr l) := y0y (by rw [y0w]; rfl)
  rw [e]
  exact h1
theorem mods_loop (l : List S25) (hl : l.length ≤ 32) (hc : ∀ x ∈ l, chk x = 0) (d : Nat) : ∀ i : Nat, i + d = l.length →
    Ev (fun k => zq1b.l0 k (mkS (lbody l)) (((hdr l ++ pieces (l.take i)).length : Nat) : Int) (l.take i) (l.length : Int) (i : Int)) (l, true) := by
  have hP := y3t l hc
  have hH : (hdr l).length = 6 := by unfold hdr; rw [List.length_append, y2y]; rfl
  have hB : (lbody l).length = 6 + (pieces l).length := by unfold lbody; rw [List.length_append, hH]
  induction d with
  | zero =>
    intro i hi
    rw [List.take_of_length_le (by omega)]
    refine Ev.step (f := fun _ => some (l, true)) (fun k => ?_) (Ev.now _)
    rw [zq1b.l0, if_neg (by omega), y37]
    have : (((hdr l ++ pieces l).length : Nat) : Int) == ((lbody l).length : Int) := by unfold lbody; exact beq_self_eq_true _
    rw [this]
  | succ d ih =>
    intro i hi
    have hlt : i < l.length := by omega
    have hk := hc l[i] (List.getElem_mem hlt)
    have hn := y1v hk
    have h2 := ih (i + 1) (by omega)
    obtain ⟨x, hxe⟩ : ∃ x, x = l[i] := ⟨_, rfl⟩
    have hx := rd25 l i hlt
    rw [List.take_succ_eq_append_getElem hlt] at h2
    rw [← hxe] at hk hn h2
    obtain ⟨a, ha⟩ : ∃ a, a = hdr l ++ pieces (l.take i) := ⟨_, rfl⟩
    obtain ⟨z, hz⟩ : ∃ z, z = pieces (l.drop (i + 1)) := ⟨_, rfl⟩
    have hb : lbody l = a ++ le ((encM x).length : Int) 4 ++ (encM x ++ z) := by
      unfold lbody
      rw [ha, hz]
      conv => lhs; rw [← List.take_append_drop i l, List.drop_eq_getElem_cons hlt, ← hxe]
      unfold hdr pieces
      rw [List.length_append, List.length_take, List.length_cons, List.length_drop, show min i l.length + (l.length - (i + 1) + 1) = l.length by omega, List.flatMap_append, List.flatMap_cons]
      unfold piece
      simp only [List.append_assoc]
    have hb2 : hdr l ++ pieces (l.take i ++ [x]) = a ++ le ((encM x).length : Int) 4 ++ encM x := by
      rw [ha]; unfold pieces; rw [List.flatMap_append, List.flatMap_cons]; unfold piece; simp only [List.flatMap_nil, List.append_nil, List.append_assoc]
    rw [← ha]
    rw [hb2] at h2
    have hlen : (lbody l).length = a.length + 4 + (encM x).length + z.length := by rw [hb]; simp only [List.length_append, y2y]; omega
    have hg := y28 a (encM x ++ z) ((encM x).length : Int) 4 (by omega) (by omega) (by omega) (by omega)
    rw [← hb] at hg
    have hget := y2c (mkS (lbody l)) (a.length : Int) 4 (by rw [y37]; omega)
    rw [y14, show ((4 : Int)) = ((4 : Nat) : Int) from rfl, hg] at hget
    refine Ev.step (f := fun k => (zq1v.f k (mkS (lbody l)) (a.length : Int) 4).bind fun bt => (if bt.2.2 = 0 then (zq1b.j1 k (mkS (lbody l)) (l.take i) bt.1 bt.2.1 (l.length : Int) (i : Int) (decide (bt.1 > (wrap64 (((mkS (lbody l)).size : Int) - bt.2.1))))) else (zq1b.j1 k (mkS (lbody l)) (l.take i) bt.1 bt.2.1 (l.length : Int) (i : Int) true))) (fun k => by rw [zq1b.l0, if_pos (by omega)]) ?_
    refine Ev.bind hget ?_
    refine Ev.congr (fun k => if_pos rfl) ?_
    have hw1 : wrap64 (((mkS (lbody l)).size : Int) - ((a.length : Int) + (4 : Nat))) = (encM x).length + z.length := by rw [y37, hlen]; unfold wrap64; omega
    have hw2 : wrap64 ((a.length : Int) + (4 : Nat) + ((encM x).length : Int)) = (((a ++ le ((encM x).length : Int) 4 ++ encM x).length : Nat) : Int) := by simp only [List.length_append, y2y]; unfold wrap64; omega
    show Ev (fun k => zq1b.j1 k (mkS (lbody l)) (l.take i) ((encM x).length : Int) ((a.length : Int) + (4 : Nat)) (l.length : Int) (i : Int) (decide (((encM x).length : Int) > wrap64 (((mkS (lbody l)).size : Int) - ((a.length : Int) + (4 : Nat)))))) _
    rw [hw1, decide_eq_false (by omega)]
    have hex : (mkS (lbody l)).extract ((a.length : Int) + (4 : Nat)).toNat ((((a ++ le ((encM x).length : Int) 4 ++ encM x).length : Nat) : Int)).toNat = mkS (encM x) := by
      rw [y21, y14, hb, Int.toNat_natCast, ← List.append_assoc, List.take_left, show ((a.length : Int) + (4 : Nat)).toNat = (a ++ le ((encM x).length : Int) 4).length by rw [List.length_append, y2y]; omega, List.drop_left]
    have hdec := decode_is (mkS (encM x)) (by rw [y37]; omega)
    rw [y14, show decR (encM x) = (md x, 0) from dec_enc hk] at hdec
    refine Ev.step (f := fun k => (zq1h.f k (mkS (encM x))).bind fun bt => (if bt.2.2.2.2.2.2 = 0 then (if (l.take i).length < 1353245080339 then (zq1b.l0 k (mkS (lbody l)) (((a ++ le ((encM x).length : Int) 4 ++ encM x).length : Nat) : Int) (l.take i ++ [(⟨bt.1, bt.2.1, bt.2.2.1, bt.2.2.2.1, bt.2.2.2.2.1, bt.2.2.2.2.2.1⟩ : S25)]) (l.length : Int) ((i + 1 : Nat) : Int)) else none) else some (([] : List (S25)), false))) (fun k => ?_) ?_
    · rw [zq1b.j1, if_neg (by decide), if_pos (by omega), hw2, if_pos (by simp only [List.length_append, y2y]; omega), if_pos (by rw [y37, hlen]; simp only [List.length_append, y2y]; omega), hex, Obj.i64_nat i (by omega)]
    refine Ev.bind hdec ?_
    refine Ev.congr (fun k => by rw [if_pos (show (tup (md x) 0).2.2.2.2.2.2 = 0 from rfl), if_pos (by rw [List.length_take]; omega)]) ?_
    exact h2
theorem ldec_is (l : List S25) (hs : ∀ x ∈ l, SmM x) (h : libC l = 0) : Ev (fun k => zq1c.f k (mkS (seal_ (lbody l)))) (l, 0) := by
  obtain ⟨hl, hc⟩ := libC_ok h
  have hP := y3t l hc
  have hH : (hdr l).length = 6 := by unfold hdr; rw [List.length_append, y2y]; rfl
  have hB : (lbody l).length = 6 + (pieces l).length := by unfold lbody; rw [List.length_append, hH]
  have hop := open_is (mkS (seal_ (lbody l))) (by rw [y37, y50]; omega)
  rw [y14, y3n] at hop
  have hop2 : Ev (fun k => zq1t.f k (mkS (seal_ (lbody l)))) (mkS (lbody l), 0) := hop
  unfold zq1c.f
  refine Ev.bind hop2 ?_
  have hex : bs ((mkS (lbody l)).extract 0 4) = [76, 73, 66, 49] := by
    rw [y0x, y14]; unfold lbody hdr; rfl
  refine Ev.congr (fun k => by rw [if_pos rfl, if_neg (by rw [y37]; omega), if_pos (by decide), if_pos (by rw [y37]; omega), y5i, hex, show (([76, 73, 66, 49] : List UInt8) != [76, 73, 66, 49]) = false from rfl]) ?_
  have hg := y28 [76, 73, 66, 49] (pieces l) (l.length : Int) 2 (by omega) (by omega) (by omega) (by omega)
  rw [show [76, 73, 66, 49] ++ le (l.length : Int) 2 ++ pieces l = lbody l from rfl] at hg
  have hget := y2c (mkS (lbody l)) 4 2 (by rw [y37]; omega)
  rw [y14] at hget
  have hget2 : Ev (fun k => zq1v.f k (mkS (lbody l)) 4 2) ((l.length : Int), 6, 0) := Ev.eq hget hg
  refine Ev.step (f := fun k => (zq1v.f k (mkS (lbody l)) 4 2).bind fun bt => (if bt.2.2 = 0 then (zq1c.j1 k (mkS (lbody l)) bt.1 bt.2.1 (decide (bt.1 > 32))) else (zq1c.j1 k (mkS (lbody l)) bt.1 bt.2.1 true))) (fun k => by rw [zq1c.j0, if_neg (by decide)]) ?_
  refine Ev.bind hget2 ?_
  refine Ev.congr (fun k => if_pos rfl) ?_
  have hm := mods_loop l hl hc l.length 0 (by omega)
  rw [List.take_zero, show (((hdr l ++ pieces []).length : Nat) : Int) = 6 by rw [show pieces [] = [] from rfl, List.append_nil, hH]; rfl] at hm
  refine Ev.step (f := fun k => (zq1b.f k (mkS (lbody l)) 6 (l.length : Int)).bind fun bt => (if bt.2 = true then ((zq1g.f k bt.1).bind fun t => (if t = 0 then (some (bt.1, 0)) else (some (([] : List (S25)), 9)))) else (some (([] : List (S25)), 9)))) (fun k => by rw [zq1c.j1, if_neg (by rw [decide_eq_false (by omega)]; decide)]) ?_
  refine Ev.bind hm ?_
  refine Ev.congr (fun k => if_pos rfl) ?_
  refine Ev.bind (h ▸ y30 l hs) ?_
  exact Ev.congr (fun k => if_pos rfl) (Ev.now _)
end Go.Proofs.Ytenlmckahaniiaa.Lb
end
