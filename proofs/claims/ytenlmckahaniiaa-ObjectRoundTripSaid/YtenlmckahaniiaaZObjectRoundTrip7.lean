/- Lemmas for the law ObjectRoundTrip: what its proof needs of this seat's texts, in one place. -/
import Derived.Test.YtenlmckahaniiaaZObjectRoundTrip6
section
set_option linter.unusedVariables false
set_option linter.unusedSimpArgs false
namespace Go.Proofs.Ytenlmckahaniiaa.Obj
open Go Go.RowKit Go.Proofs.Ytenlmckahaniiaa.K Go.Proofs.YtenlmckahaniiaaW.PrintWords Go.Proofs.YtenlmckahaniiaaW.PrintMore Go.Proofs.Ytenlmckahaniiaa.MyBits Go.Proofs.Ytenlmckahaniiaa.MyStr Go.Proofs.Ytenlmckahaniiaa.Oct
theorem getR_put (a z : List UInt8) (n : Int) (w : Nat) (hw : 1 ≤ w) (hw7 : w ≤ 7) (h0 : 0 ≤ n) (h1 : n < 256 ^ w) : getR (a ++ le n w ++ z) (a.length : Int) (w : Int) = (n, (a.length : Int) + w, 0) := by
  unfold getR
  have hl : (a ++ le n w ++ z).length = a.length + w + z.length := by rw [List.length_append, List.length_append, le_length]
  rw [hl, if_neg (by omega), if_neg (by omega), Int.toNat_natCast, Int.toNat_natCast, List.append_assoc, List.drop_left, List.take_append_of_le_length (by rw [le_length]; omega), List.take_of_length_le (by rw [le_length]; omega), num_le n w h0 h1]
theorem getT_put (a z s : List UInt8) (hs : s.length ≤ 65535) : getT (a ++ putT s ++ z) (a.length : Int) = (s, (a.length : Int) + 2 + s.length, 0) := by
  rw [putT_small s hs]
  have e : a ++ (le (s.length : Nat) 2 ++ s) ++ z = a ++ le (s.length : Nat) 2 ++ (s ++ z) := by simp only [List.append_assoc]
  rw [e]
  have hg := getR_put a (s ++ z) ((s.length : Nat) : Int) 2 (by omega) (by omega) (by omega) (by omega)
  have hg2 : getR (a ++ le (s.length : Nat) 2 ++ (s ++ z)) (a.length : Int) 2 = (((s.length : Nat) : Int), (a.length : Int) + 2, 0) := hg
  have hl : (a ++ le (s.length : Nat) 2 ++ (s ++ z)).length = a.length + 2 + s.length + z.length := by simp only [List.length_append, le_length]; omega
  rw [getT_ok (by rw [hg2]) (by rw [hg2, hl]; simp only; omega), hg2]
  have hd : (a ++ le (s.length : Nat) 2 ++ (s ++ z)).drop ((a.length : Int) + 2).toNat = s ++ z := by
    rw [show ((a.length : Int) + 2).toNat = (a ++ le ((s.length : Nat) : Int) 2).length by rw [List.length_append, le_length]; omega, List.drop_left]
  rw [hd]
  simp only [Int.toNat_natCast, List.take_left]
structure Md where
  a0 : ByteArray
  a1 : ByteArray
  a2 : ByteArray
  a3 : Int
  l4 : List S62
  l5 : List S43
def Md.check (m : Md) : Int := checkR m.a0 m.a1 m.a2 m.a3 m.l4 m.l5
def m0 : Md := ⟨⟨#[]⟩, ⟨#[]⟩, ⟨#[]⟩, 0, [], []⟩
structure SymV (s : S62) : Prop where
  h0 : isNm s.f0 = true
  h1 : 0 ≤ s.f1 ∧ s.f1 ≤ 3
  h2 : 0 ≤ s.f2 ∧ s.f2 ≤ 65535
structure RelV (x : S43) : Prop where
  h0 : x.f0 = 1 ∨ x.f0 = 2
  h1 : 0 ≤ x.f1 ∧ x.f1 ≤ 16384
  h2 : 0 ≤ x.f2 ∧ x.f2 ≤ 4
  h3 : (x.f2 = 4 ∧ isNm x.f3 = true) ∨ (x.f2 ≠ 4 ∧ bs x.f3 = [])
structure Valid (m : Md) : Prop where
  h0 : isNm m.a0 = true
  h1 : m.a1.size ≤ 16384 ∧ m.a1.size % 2 = 0
  h2 : m.a2.size ≤ 16384
  h3 : 0 ≤ m.a3 ∧ m.a3 ≤ 16384
  n4 : m.l4.length ≤ 256
  n5 : m.l5.length ≤ 2048
  h4 : ∀ s ∈ m.l4, SymV s
  h5 : ∀ x ∈ m.l5, RelV x
theorem symsR_valid (l : List S62) : ∀ m, symsR m l = 0 → ∀ s ∈ l, SymV s := by
  induction l with
  | nil => intro _ _ s hs; cases hs
  | cons x l ih =>
    intro m h s hs
    unfold symsR at h
    split at h
    · rename_i h1
      split at h
      · exact absurd h (by decide)
      · split at h
        · rename_i h2
          rw [symOk_iff] at h2
          rcases List.mem_cons.1 hs with rfl | hs
          · exact ⟨h1, ⟨h2.1, h2.2.1⟩, h2.2.2⟩
          · exact ih _ h s hs
        · exact absurd h (by decide)
    · exact absurd h (by decide)
theorem relR_valid {ts ds : Int} {x b : S43} (ht : 0 ≤ ts ∧ ts ≤ 16384) (hd : 0 ≤ ds ∧ ds ≤ 16384) (h : relR ts ds x b = 0) : RelV x := by
  have hz : 0 ≤ (if x.f0 = 2 then ds else ts) ∧ (if x.f0 = 2 then ds else ts) ≤ 16384 := by split <;> omega
  unfold relR at h
  generalize (if x.f0 = 2 then ds else ts) = sz at h hz
  rw [wrap64_id (n := sz - 2) (by omega) (by omega)] at h
  by_cases h1 : x.f0 ≠ 1 ∧ x.f0 ≠ 2
  · rw [if_pos h1] at h; exact absurd h (by decide)
  rw [if_neg h1] at h
  by_cases h2 : x.f1 < 0 ∨ Int.tmod x.f1 2 ≠ 0 ∨ x.f1 > sz - 2
  · rw [if_pos h2] at h; exact absurd h (by decide)
  rw [if_neg h2] at h
  by_cases h3 : x.f0 < b.f0 ∨ (x.f0 = b.f0 ∧ x.f1 ≤ b.f1)
  · rw [if_pos h3] at h; exact absurd h (by decide)
  rw [if_neg h3] at h
  by_cases h4 : x.f2 < 0 ∨ x.f2 > 4 ∨ (x.f2 = 0 ∧ x.f4 = false)
  · rw [if_pos h4] at h; exact absurd h (by decide)
  rw [if_neg h4] at h
  refine ⟨by omega, by omega, by omega, ?_⟩
  by_cases h5 : x.f2 = 4
  · rw [if_pos h5] at h
    by_cases h6 : isNm x.f3 = true
    · exact .inl ⟨h5, h6⟩
    · rw [if_neg h6] at h; exact absurd h (by decide)
  · rw [if_neg h5] at h
    by_cases h6 : bs x.f3 = []
    · exact .inr ⟨h5, h6⟩
    · rw [if_neg h6] at h; exact absurd h (by decide)
theorem relsR_valid {ts ds : Int} (ht : 0 ≤ ts ∧ ts ≤ 16384) (hd : 0 ≤ ds ∧ ds ≤ 16384) (l : List S43) : ∀ b, relsR ts ds b l = 0 → ∀ x ∈ l, RelV x := by
  induction l with
  | nil => intro _ _ s hs; cases hs
  | cons x l ih =>
    intro b h s hs
    unfold relsR at h
    split at h
    · rename_i h1
      rcases List.mem_cons.1 hs with rfl | hs
      · exact relR_valid ht hd h1
      · exact ih _ h s hs
    · rename_i h1; exact absurd h h1
theorem valid_of {m : Md} (h : m.check = 0) : Valid m := by
  unfold Md.check checkR at h
  split at h
  · rename_i h0
    split at h
    · exact absurd h (by decide)
    · rename_i h1
      split at h
      · exact absurd h (by decide)
      · rename_i h2
        split at h
        · rename_i h3
          exact ⟨h0, ⟨by omega, by omega⟩, by omega, ⟨by omega, by omega⟩, by omega, by omega, symsR_valid _ _ h3, relsR_valid ⟨by omega, by omega⟩ ⟨by omega, by omega⟩ _ _ h⟩
        · rename_i h3; exact absurd h h3
  · exact absurd h (by decide)
theorem nm_len {s : ByteArray} (h : isNm s = true) : 1 ≤ s.size ∧ s.size ≤ 14 := by
  have := nameL_len h
  rwa [bs_length] at this
theorem SymV.len {s : S62} (h : SymV s) : s.f0.size ≤ 14 := (nm_len h.h0).2
theorem RelV.len {x : S43} (h : RelV x) : x.f3.size ≤ 14 := by
  rcases h.h3 with h | h
  · exact (nm_len h.2).2
  · rw [← bs_length, h.2]; exact Nat.zero_le _
theorem Valid.fine {m : Md} (h : Valid m) : Fine m.a0 m.l4 m.l5 :=
  ⟨by have := (nm_len h.h0).2; omega, fun s hs => by have := (h.h4 s hs).len; omega, fun s hs => by have := (h.h5 s hs).len; omega⟩
theorem mx_id {n : Int} (h : 0 ≤ n) : mx n 0 = n := by unfold mx; rw [if_neg (by omega)]
def bitB (b : Bool) : List UInt8 := [if b = true then 1 else 0]
def symB (s : S62) : List UInt8 := ((putT (bs s.f0) ++ le s.f1 1) ++ le s.f2 2) ++ bitB s.f3
def relB (x : S43) : List UInt8 := (((le x.f0 1 ++ le x.f1 2) ++ le x.f2 1) ++ putT (bs x.f3)) ++ bitB x.f4
def headB (m : Md) : List UInt8 := ((([79, 66, 74, 49] ++ putT (bs m.a0)) ++ putT (bs m.a1)) ++ putT (bs m.a2)) ++ le m.a3 2
def symsB (l : List S62) : List UInt8 := l.flatMap symB
def relsB (l : List S43) : List UInt8 := l.flatMap relB
def bodyB (m : Md) : List UInt8 := (((headB m ++ le (m.l4.length : Int) 2) ++ symsB m.l4) ++ le (m.l5.length : Int) 2) ++ relsB m.l5
theorem putT_length (l : List UInt8) : (putT l).length ≤ 65537 := by
  unfold putT; rw [List.length_append, le_length, List.length_take]; omega
theorem symB_length (s : S62) : (symB s).length ≤ 65541 := by
  unfold symB bitB
  have := putT_length (bs s.f0)
  simp only [List.length_append, le_length, List.length_singleton]
  omega
theorem relB_length (x : S43) : (relB x).length ≤ 65542 := by
  unfold relB bitB
  have := putT_length (bs x.f3)
  simp only [List.length_append, le_length, List.length_singleton]
  omega
theorem symsB_length (l : List S62) : (symsB l).length ≤ 65541 * l.length := by
  induction l with
  | nil => simp [symsB]
  | cons s l ih =>
    have h1 := symB_length s
    have h2 : symsB (s :: l) = symB s ++ symsB l := rfl
    rw [h2, List.length_append, List.length_cons]
    omega
theorem relsB_length (l : List S43) : (relsB l).length ≤ 65542 * l.length := by
  induction l with
  | nil => simp [relsB]
  | cons s l ih =>
    have h1 := relB_length s
    have h2 : relsB (s :: l) = relB s ++ relsB l := rfl
    rw [h2, List.length_append, List.length_cons]
    omega
theorem headB_length (m : Md) : (headB m).length ≤ 196617 := by
  unfold headB
  have h1 := putT_length (bs m.a0)
  have h2 := putT_length (bs m.a1)
  have h3 := putT_length (bs m.a2)
  simp only [List.length_append, le_length, List.length_cons, List.length_nil]
  omega
theorem bodyB_length {m : Md} (hV : Valid m) : (bodyB m).length ≤ 200000000 := by
  unfold bodyB
  have h1 := headB_length m
  have h2 := symsB_length m.l4
  have h3 := relsB_length m.l5
  have h4 := hV.n4
  have h5 := hV.n5
  simp only [List.length_append, le_length]
  omega
theorem symsB_take (l : List S62) (i : Nat) (h : i < l.length) : symsB (l.take (i + 1)) = symsB (l.take i) ++ symB l[i] := by
  unfold symsB; rw [List.take_succ_eq_append_getElem h, List.flatMap_append]; simp
theorem relsB_take (l : List S43) (i : Nat) (h : i < l.length) : relsB (l.take (i + 1)) = relsB (l.take i) ++ relB l[i] := by
  unfold relsB; rw [List.take_succ_eq_append_getElem h, List.flatMap_append]; simp
abbrev Rd := Int × Bool
def rdT (t : List UInt8) (p : Rd) : List UInt8 × Rd := if (getT t p.1).2.2 = 0 then ((getT t p.1).1, ((getT t p.1).2.1, p.2)) else ([], (p.1, true))
def rdN (t : List UInt8) (p : Rd) (w : Int) : Int × Rd := if (getR t p.1 w).2.2 = 0 then ((getR t p.1 w).1, ((getR t p.1 w).2.1, p.2)) else (0, (p.1, true))
def rdS (t : List UInt8) (p : Rd) : S62 × Rd :=
  (⟨mkS (rdT t p).1, (rdN t (rdT t p).2 1).1, (rdN t (rdN t (rdT t p).2 1).2 2).1, (rdN t (rdN t (rdN t (rdT t p).2 1).2 2).2 1).1 == 1⟩, (rdN t (rdN t (rdN t (rdT t p).2 1).2 2).2 1).2)
def rdX (t : List UInt8) (p : Rd) : S43 × Rd :=
  (⟨(rdN t p 1).1, (rdN t (rdN t p 1).2 2).1, (rdN t (rdN t (rdN t p 1).2 2).2 1).1, mkS (rdT t (rdN t (rdN t (rdN t p 1).2 2).2 1).2).1, (rdN t (rdT t (rdN t (rdN t (rdN t p 1).2 2).2 1).2).2 1).1 == 1⟩, (rdN t (rdT t (rdN t (rdN t (rdN t p 1).2 2).2 1).2).2 1).2)
def rdL {α : Type} (f : Rd → α × Rd) : Nat → Rd → List α × Rd
  | 0, p => ([], p)
  | n + 1, p => if p.2 = true then ([], p) else ((f p).1 :: (rdL f n (f p).2).1, (rdL f n (f p).2).2)
theorem rdL_bad {α : Type} (f : Rd → α × Rd) (n : Nat) (p : Rd) (h : p.2 = true) : rdL f n p = ([], p) := by
  cases n with
  | zero => rfl
  | succ n => unfold rdL; rw [if_pos h]
def parseM (t : List UInt8) : Md × Rd :=
  let x0 := rdT t (4, false); let x1 := rdT t x0.2; let x2 := rdT t x1.2; let x3 := rdN t x2.2 2; let n4 := rdN t x3.2 2
  let x4 := rdL (rdS t) n4.1.toNat n4.2; let n5 := rdN t x4.2 2; let x5 := rdL (rdX t) n5.1.toNat n5.2
  (⟨mkS x0.1, mkS x1.1, mkS x2.1, x3.1, x4.1, x5.1⟩, x5.2)
def decR (s : List UInt8) : Md × Int :=
  if (openR s).2 = 0 then
    (if (parseM (openR s).1).2.2 = true ∨ (parseM (openR s).1).1.check ≠ 0 ∨ bodyB (parseM (openR s).1).1 ≠ (openR s).1 then (m0, 9) else ((parseM (openR s).1).1, 0))
  else (m0, (openR s).2)
theorem rdT_put (a z s : List UInt8) (b : Bool) (hs : s.length ≤ 65535) : rdT (a ++ putT s ++ z) ((a.length : Int), b) = (s, (((a ++ putT s).length : Nat) : Int), b) := by
  have h1 := getT_put a z s hs
  have h2 : (((a ++ putT s).length : Nat) : Int) = (a.length : Int) + 2 + s.length := by rw [List.length_append, putT_small s hs, List.length_append, le_length]; omega
  unfold rdT
  simp only [h1, ↓reduceIte, h2]
theorem rdN_put (a z : List UInt8) (n : Int) (w : Nat) (wi : Int) (hwi : wi = (w : Int)) (b : Bool) (hw : 1 ≤ w) (hw7 : w ≤ 7) (h0 : 0 ≤ n) (h1 : n < 256 ^ w) : rdN (a ++ le n w ++ z) ((a.length : Int), b) wi = (n, (((a ++ le n w).length : Nat) : Int), b) := by
  subst hwi
  have h1 := getR_put a z n w hw hw7 h0 h1
  have h2 : (((a ++ le n w).length : Nat) : Int) = (a.length : Int) + w := by rw [List.length_append, le_length]; omega
  unfold rdN
  simp only [h1, ↓reduceIte, h2]
theorem rdN_bit (a z : List UInt8) (c b : Bool) : rdN (a ++ bitB c ++ z) ((a.length : Int), b) 1 = (if c = true then 1 else 0, (((a ++ bitB c).length : Nat) : Int), b) := by
  have e : bitB c = le (if c = true then 1 else 0) 1 := by cases c <;> decide
  rw [e]
  exact rdN_put a z _ 1 1 rfl b (by omega) (by omega) (by split <;> omega) (by split <;> decide)
theorem mkS_id (s : ByteArray) : mkS (bs s) = s := mkS_bs s
theorem at_of {t a p q z : List UInt8} (e : t = a ++ (p ++ q) ++ z) : t = a ++ p ++ (q ++ z) ∧ t = (a ++ p) ++ q ++ z := by
  subst e
  constructor <;> simp only [List.append_assoc]
theorem rdS_put (t a z : List UInt8) (s : S62) (hV : SymV s) (e : t = a ++ symB s ++ z) : rdS t ((a.length : Int), false) = (s, (((a ++ symB s).length : Nat) : Int), false) := by
  unfold symB at e ⊢
  obtain ⟨e3, e4⟩ := at_of e
  obtain ⟨e2, e3b⟩ := at_of (a := a) (z := bitB s.f3 ++ z) e3
  obtain ⟨e1, e2b⟩ := at_of (a := a) (z := le s.f2 2 ++ (bitB s.f3 ++ z)) e2
  have r1 : rdT t ((a.length : Int), false) = (bs s.f0, (((a ++ putT (bs s.f0)).length : Nat) : Int), false) := by
    rw [e1]; exact rdT_put a _ _ false (by rw [bs_length]; have := hV.len; omega)
  have r2 : rdN t ((((a ++ putT (bs s.f0)).length : Nat) : Int), false) 1 = (s.f1, (((a ++ putT (bs s.f0) ++ le s.f1 1).length : Nat) : Int), false) := by
    rw [e2b]; exact rdN_put _ _ _ 1 1 rfl false (by omega) (by omega) hV.h1.1 (by have := hV.h1.2; omega)
  have r3 : rdN t ((((a ++ putT (bs s.f0) ++ le s.f1 1).length : Nat) : Int), false) 2 = (s.f2, (((a ++ putT (bs s.f0) ++ le s.f1 1 ++ le s.f2 2).length : Nat) : Int), false) := by
    have e3c : t = (a ++ putT (bs s.f0) ++ le s.f1 1) ++ le s.f2 2 ++ (bitB s.f3 ++ z) := by rw [e3b]; simp only [List.append_assoc]
    rw [e3c]; exact rdN_put _ _ _ 2 2 rfl false (by omega) (by omega) hV.h2.1 (by have := hV.h2.2; omega)
  have r4 : rdN t ((((a ++ putT (bs s.f0) ++ le s.f1 1 ++ le s.f2 2).length : Nat) : Int), false) 1 = (if s.f3 = true then 1 else 0, (((a ++ putT (bs s.f0) ++ le s.f1 1 ++ le s.f2 2 ++ bitB s.f3).length : Nat) : Int), false) := by
    have e4c : t = (a ++ putT (bs s.f0) ++ le s.f1 1 ++ le s.f2 2) ++ bitB s.f3 ++ z := by rw [e4]; simp only [List.append_assoc]
    rw [e4c]; exact rdN_bit _ _ _ _
  unfold rdS
  rw [r1]; simp only; rw [r2]; simp only; rw [r3]; simp only; rw [r4]
  simp only [mkS_id, ← List.append_assoc]
  cases h3 : s.f3 <;> (congr 1; cases s; simp_all)
theorem rdX_put (t a z : List UInt8) (x : S43) (hV : RelV x) (e : t = a ++ relB x ++ z) : rdX t ((a.length : Int), false) = (x, (((a ++ relB x).length : Nat) : Int), false) := by
  unfold relB at e ⊢
  have e1 : t = a ++ le x.f0 1 ++ (le x.f1 2 ++ (le x.f2 1 ++ (putT (bs x.f3) ++ (bitB x.f4 ++ z)))) := by rw [e]; simp only [List.append_assoc]
  have e2 : t = (a ++ le x.f0 1) ++ le x.f1 2 ++ (le x.f2 1 ++ (putT (bs x.f3) ++ (bitB x.f4 ++ z))) := by rw [e]; simp only [List.append_assoc]
  have e3 : t = (a ++ le x.f0 1 ++ le x.f1 2) ++ le x.f2 1 ++ (putT (bs x.f3) ++ (bitB x.f4 ++ z)) := by rw [e]; simp only [List.append_assoc]
  have e4 : t = (a ++ le x.f0 1 ++ le x.f1 2 ++ le x.f2 1) ++ putT (bs x.f3) ++ (bitB x.f4 ++ z) := by rw [e]; simp only [List.append_assoc]
  have e5 : t = (a ++ le x.f0 1 ++ le x.f1 2 ++ le x.f2 1 ++ putT (bs x.f3)) ++ bitB x.f4 ++ z := by rw [e]; simp only [List.append_assoc]
  have h0 := hV.h0
  have h1 := hV.h1
  have h2 := hV.h2
  have r1 : rdN t ((a.length : Int), false) 1 = (x.f0, (((a ++ le x.f0 1).length : Nat) : Int), false) := by
    rw [e1]; exact rdN_put _ _ _ 1 1 rfl false (by omega) (by omega) (by omega) (by omega)
  have r2 : rdN t ((((a ++ le x.f0 1).length : Nat) : Int), false) 2 = (x.f1, (((a ++ le x.f0 1 ++ le x.f1 2).length : Nat) : Int), false) := by
    rw [e2]; exact rdN_put _ _ _ 2 2 rfl false (by omega) (by omega) (by omega) (by omega)
  have r3 : rdN t ((((a ++ le x.f0 1 ++ le x.f1 2).length : Nat) : Int), false) 1 = (x.f2, (((a ++ le x.f0 1 ++ le x.f1 2 ++ le x.f2 1).length : Nat) : Int), false) := by
    rw [e3]; exact rdN_put _ _ _ 1 1 rfl false (by omega) (by omega) (by omega) (by omega)
  have r4 : rdT t ((((a ++ le x.f0 1 ++ le x.f1 2 ++ le x.f2 1).length : Nat) : Int), false) = (bs x.f3, (((a ++ le x.f0 1 ++ le x.f1 2 ++ le x.f2 1 ++ putT (bs x.f3)).length : Nat) : Int), false) := by
    rw [e4]; exact rdT_put _ _ _ false (by rw [bs_length]; have := hV.len; omega)
  have r5 : rdN t ((((a ++ le x.f0 1 ++ le x.f1 2 ++ le x.f2 1 ++ putT (bs x.f3)).length : Nat) : Int), false) 1 = (if x.f4 = true then 1 else 0, (((a ++ le x.f0 1 ++ le x.f1 2 ++ le x.f2 1 ++ putT (bs x.f3) ++ bitB x.f4).length : Nat) : Int), false) := by
    rw [e5]; exact rdN_bit _ _ _ _
  unfold rdX
  rw [r1]; simp only; rw [r2]; simp only; rw [r3]; simp only; rw [r4]; simp only; rw [r5]
  simp only [mkS_id, ← List.append_assoc]
  cases h4 : x.f4 <;> (congr 1; cases x; simp_all)
theorem rdL_put {α : Type} (f : Rd → α × Rd) (g : α → List UInt8) (t : List UInt8) (P : α → Prop) (hf : ∀ a z x, P x → t = a ++ g x ++ z → f ((a.length : Int), false) = (x, (((a ++ g x).length : Nat) : Int), false)) (l : List α) : ∀ a z, (∀ x ∈ l, P x) → t = a ++ l.flatMap g ++ z →
    rdL f l.length ((a.length : Int), false) = (l, (((a ++ l.flatMap g).length : Nat) : Int), false) := by
  induction l with
  | nil => intro a z _ _; simp [rdL]
  | cons x l ih =>
    intro a z hP e
    rw [List.flatMap_cons] at e
    have h1 := hf a (l.flatMap g ++ z) x (hP x List.mem_cons_self) (by rw [e]; simp only [List.append_assoc])
    have h2 := ih (a ++ g x) z (fun y hy => hP y (List.mem_cons_of_mem _ hy)) (by rw [e]; simp only [List.append_assoc])
    rw [List.length_cons]
    unfold rdL
    rw [if_neg Bool.false_ne_true, h1]
    simp only
    rw [h2, List.flatMap_cons]
    simp only [List.append_assoc]
theorem parse_put {m : Md} (hV : Valid m) (z : List UInt8) : parseM (bodyB m ++ z) = (m, (((bodyB m).length : Nat) : Int), false) := by
  obtain ⟨t, ht⟩ : ∃ t, t = bodyB m ++ z := ⟨_, rfl⟩
  rw [← ht]
  have hB : bodyB m = (((((((([79, 66, 74, 49] ++ putT (bs m.a0)) ++ putT (bs m.a1)) ++ putT (bs m.a2)) ++ le m.a3 2) ++ le (m.l4.length : Int) 2) ++ symsB m.l4) ++ le (m.l5.length : Int) 2) ++ relsB m.l5) := rfl
  rw [hB] at ht ⊢
  generalize hA : ([79, 66, 74, 49] : List UInt8) = A at ht ⊢
  have hAl : ((A.length : Nat) : Int) = 4 := by rw [← hA]; rfl
  have n4 := hV.n4
  have n5 := hV.n5
  have r0 : rdT t (4, false) = (bs m.a0, (((A ++ putT (bs m.a0)).length : Nat) : Int), false) := by
    rw [← hAl, ht]
    have := rdT_put A (putT (bs m.a1) ++ (putT (bs m.a2) ++ (le m.a3 2 ++ (le (m.l4.length : Int) 2 ++ (symsB m.l4 ++ (le (m.l5.length : Int) 2 ++ (relsB m.l5 ++ z))))))) (bs m.a0) false (by rw [bs_length]; have := (nm_len hV.h0).2; omega)
    simpa only [List.append_assoc] using this
  have r1 : rdT t ((((A ++ putT (bs m.a0)).length : Nat) : Int), false) = (bs m.a1, (((A ++ putT (bs m.a0) ++ putT (bs m.a1)).length : Nat) : Int), false) := by
    rw [ht]
    have := rdT_put (A ++ putT (bs m.a0)) (putT (bs m.a2) ++ (le m.a3 2 ++ (le (m.l4.length : Int) 2 ++ (symsB m.l4 ++ (le (m.l5.length : Int) 2 ++ (relsB m.l5 ++ z)))))) (bs m.a1) false (by rw [bs_length]; have := hV.h1.1; omega)
    simpa only [List.append_assoc] using this
  have r2 : rdT t ((((A ++ putT (bs m.a0) ++ putT (bs m.a1)).length : Nat) : Int), false) = (bs m.a2, (((A ++ putT (bs m.a0) ++ putT (bs m.a1) ++ putT (bs m.a2)).length : Nat) : Int), false) := by
    rw [ht]
    have := rdT_put (A ++ putT (bs m.a0) ++ putT (bs m.a1)) (le m.a3 2 ++ (le (m.l4.length : Int) 2 ++ (symsB m.l4 ++ (le (m.l5.length : Int) 2 ++ (relsB m.l5 ++ z))))) (bs m.a2) false (by rw [bs_length]; have := hV.h2; omega)
    simpa only [List.append_assoc] using this
  have r3 : rdN t ((((A ++ putT (bs m.a0) ++ putT (bs m.a1) ++ putT (bs m.a2)).length : Nat) : Int), false) 2 = (m.a3, (((A ++ putT (bs m.a0) ++ putT (bs m.a1) ++ putT (bs m.a2) ++ le m.a3 2).length : Nat) : Int), false) := by
    rw [ht]
    have := rdN_put (A ++ putT (bs m.a0) ++ putT (bs m.a1) ++ putT (bs m.a2)) (le (m.l4.length : Int) 2 ++ (symsB m.l4 ++ (le (m.l5.length : Int) 2 ++ (relsB m.l5 ++ z)))) m.a3 2 2 rfl false (by omega) (by omega) hV.h3.1 (by have := hV.h3.2; omega)
    simpa only [List.append_assoc] using this
  have r4 : rdN t ((((A ++ putT (bs m.a0) ++ putT (bs m.a1) ++ putT (bs m.a2) ++ le m.a3 2).length : Nat) : Int), false) 2 = ((m.l4.length : Int), (((A ++ putT (bs m.a0) ++ putT (bs m.a1) ++ putT (bs m.a2) ++ le m.a3 2 ++ le (m.l4.length : Int) 2).length : Nat) : Int), false) := by
    rw [ht]
    have := rdN_put (A ++ putT (bs m.a0) ++ putT (bs m.a1) ++ putT (bs m.a2) ++ le m.a3 2) (symsB m.l4 ++ (le (m.l5.length : Int) 2 ++ (relsB m.l5 ++ z))) (m.l4.length : Int) 2 2 rfl false (by omega) (by omega) (by omega) (by omega)
    simpa only [List.append_assoc] using this
  have r5 : rdL (rdS t) m.l4.length ((((A ++ putT (bs m.a0) ++ putT (bs m.a1) ++ putT (bs m.a2) ++ le m.a3 2 ++ le (m.l4.length : Int) 2).length : Nat) : Int), false) = (m.l4, (((A ++ putT (bs m.a0) ++ putT (bs m.a1) ++ putT (bs m.a2) ++ le m.a3 2 ++ le (m.l4.length : Int) 2 ++ symsB m.l4).length : Nat) : Int), false) :=
    rdL_put (rdS t) symB t SymV (fun a z x hx e => rdS_put t a z x hx e) m.l4 _ (le (m.l5.length : Int) 2 ++ (relsB m.l5 ++ z)) hV.h4 (by rw [ht]; unfold symsB; simp only [List.append_assoc])
  have r6 : rdN t ((((A ++ putT (bs m.a0) ++ putT (bs m.a1) ++ putT (bs m.a2) ++ le m.a3 2 ++ le (m.l4.length : Int) 2 ++ symsB m.l4).length : Nat) : Int), false) 2 = ((m.l5.length : Int), (((A ++ putT (bs m.a0) ++ putT (bs m.a1) ++ putT (bs m.a2) ++ le m.a3 2 ++ le (m.l4.length : Int) 2 ++ symsB m.l4 ++ le (m.l5.length : Int) 2).length : Nat) : Int), false) := by
    rw [ht]
    have := rdN_put (A ++ putT (bs m.a0) ++ putT (bs m.a1) ++ putT (bs m.a2) ++ le m.a3 2 ++ le (m.l4.length : Int) 2 ++ symsB m.l4) (relsB m.l5 ++ z) (m.l5.length : Int) 2 2 rfl false (by omega) (by omega) (by omega) (by omega)
    simpa only [List.append_assoc] using this
  have r7 : rdL (rdX t) m.l5.length ((((A ++ putT (bs m.a0) ++ putT (bs m.a1) ++ putT (bs m.a2) ++ le m.a3 2 ++ le (m.l4.length : Int) 2 ++ symsB m.l4 ++ le (m.l5.length : Int) 2).length : Nat) : Int), false) = (m.l5, (((A ++ putT (bs m.a0) ++ putT (bs m.a1) ++ putT (bs m.a2) ++ le m.a3 2 ++ le (m.l4.length : Int) 2 ++ symsB m.l4 ++ le (m.l5.length : Int) 2 ++ relsB m.l5).length : Nat) : Int), false) :=
    rdL_put (rdX t) relB t RelV (fun a z x hx e => rdX_put t a z x hx e) m.l5 _ z hV.h5 (by rw [ht]; unfold relsB; simp only [List.append_assoc])
  unfold parseM
  simp only
  rw [r0]; simp only; rw [r1]; simp only; rw [r2]; simp only; rw [r3]; simp only; rw [r4]; simp only [Int.toNat_natCast]; rw [r5]; simp only; rw [r6]; simp only [Int.toNat_natCast]; rw [r7]
  simp only [mkS_id]
def encR (m : Md) : List UInt8 × Int := if m.check = 0 then (seal_ (bodyB m), 0) else ([], m.check)
theorem dec_enc {m : Md} (h : m.check = 0) : decR (seal_ (bodyB m)) = (m, 0) := by
  have hp := parse_put (valid_of h) []
  rw [List.append_nil] at hp
  unfold decR
  rw [openR_seal]
  simp only
  rw [if_pos trivial, hp]
  simp only
  rw [if_neg]
  rintro (h1 | h1 | h1)
  · exact absurd h1 (by decide)
  · exact h1 h
  · exact h1 rfl
theorem decR_cases (s : List UInt8) : ((decR s).2 ≠ 0 ∧ (decR s).1 = m0) ∨ ((decR s).2 = 0 ∧ (decR s).1.check = 0 ∧ s = seal_ (bodyB (decR s).1) ∧ openR s = (bodyB (decR s).1, 0)) := by
  unfold decR
  by_cases h : (openR s).2 = 0
  · rw [if_pos h]
    split
    · exact .inl ⟨by decide, rfl⟩
    · rename_i h2
      have h3 : (parseM (openR s).1).1.check = 0 := by
        rcases Int.decEq (parseM (openR s).1).1.check 0 with h4 | h4
        · exact absurd (.inr (.inl h4)) h2
        · exact h4
      have h5 : bodyB (parseM (openR s).1).1 = (openR s).1 := by
        by_cases h4 : bodyB (parseM (openR s).1).1 = (openR s).1
        · exact h4
        · exact absurd (.inr (.inr h4)) h2
      refine .inr ⟨rfl, h3, ?_, ?_⟩
      · simp only
        rw [h5]
        have ho : opened s := by
          unfold openR at h
          split at h
          · exact absurd h (by decide)
          · rename_i h6
            split at h
            · rename_i h7; exact ⟨by omega, h7⟩
            · exact absurd h (by decide)
        rw [openR_opened s ho]
        exact (opened_eq s ho).symm
      · simp only
        rw [h5]
        exact Prod.ext rfl h
  · rw [if_neg h]
    exact .inl ⟨h, rfl⟩
end Go.Proofs.Ytenlmckahaniiaa.Obj
end
