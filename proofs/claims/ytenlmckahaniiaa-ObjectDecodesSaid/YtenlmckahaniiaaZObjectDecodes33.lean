/- Lemmas for the law ObjectDecodes: what its proof needs of this seat's texts, in one place. -/
import Derived.Test.YtenlmckahaniiaaZObjectDecodes32
section
set_option linter.unusedVariables false
set_option linter.unusedSimpArgs false
namespace Go.Proofs.Ytenlmckahaniiaa.Obj
open Go Go.RowKit Go.Proofs.Ytenlmckahaniiaa.K Go.Proofs.YtenlmckahaniiaaW.PrintWords Go.Proofs.YtenlmckahaniiaaW.PrintMore Go.Proofs.Ytenlmckahaniiaa.MyBits Go.Proofs.Ytenlmckahaniiaa.MyStr Go.Proofs.Ytenlmckahaniiaa.Oct
theorem truth_is (b : Bool) : object_truth.f b = some (mkS (bitB b)) := by cases b <;> rfl
theorem put1_is (n : Int) (h : 0 ≤ n) : Ev (fun k => octet_Put.f k n 1) (mkS (le n 1)) := by
  have := put_is n 1
  rwa [mx_id h] at this
theorem put2_is (n : Int) (h : 0 ≤ n) : Ev (fun k => octet_Put.f k n 2) (mkS (le n 2)) := by
  have := put_is n 2
  rwa [mx_id h] at this
theorem body_l0 (l : List S62) (hV : ∀ s ∈ l, SymV s) (hn : l.length ≤ 256) (P : List UInt8) (hP : P.length ≤ 1000000) (d : Nat) : ∀ i : Nat, i + d = l.length →
    Ev (fun k => object_body.l0 k l (mkS (P ++ symsB (l.take i))) (i : Int)) (mkS (P ++ symsB l)) := by
  induction d with
  | zero =>
    intro i hi
    rw [List.take_of_length_le (by omega)]
    exact Ev.step (f := fun _ => some _) (fun k => by rw [object_body.l0, if_neg (by omega)]) (Ev.now _)
  | succ d ih =>
    intro i hi
    have hlt : i < l.length := by omega
    have hs := hV _ (List.getElem_mem hlt)
    have h1 := symsB_length (l.take i)
    have h2 := symB_length l[i]
    rw [List.length_take] at h1
    have hI := ih (i + 1) (by omega)
    rw [symsB_take l i hlt, ← List.append_assoc] at hI
    refine Ev.step (fun k => by rw [object_body.l0, if_pos (by omega), if_pos (by omega), rd62 l i hlt, i64_nat i (by omega)]) ?_
    refine Ev.bind (putText_is _ (by have := hs.len; omega)) (Ev.bind (put1_is _ hs.h1.1) (Ev.bind (put2_is _ hs.h2.1) ?_))
    refine Ev.congr (fun k => by rw [truth_is, Option.bind_some]) ?_
    rw [mkS_append, mkS_append, mkS_append, mkS_append]
    refine Ev.congr (fun k => if_pos ?_) hI
    rw [mkS_size, mkS_size, List.length_append]
    unfold symB at h2
    omega
theorem body_l1 (l : List S43) (hV : ∀ s ∈ l, RelV s) (hn : l.length ≤ 2048) (P : List UInt8) (hP : P.length ≤ 100000000) (d : Nat) : ∀ i : Nat, i + d = l.length →
    Ev (fun k => object_body.l1 k l (mkS (P ++ relsB (l.take i))) (i : Int)) (mkS (P ++ relsB l)) := by
  induction d with
  | zero =>
    intro i hi
    rw [List.take_of_length_le (by omega)]
    exact Ev.step (f := fun _ => some _) (fun k => by rw [object_body.l1, if_neg (by omega)]) (Ev.now _)
  | succ d ih =>
    intro i hi
    have hlt : i < l.length := by omega
    have hs := hV _ (List.getElem_mem hlt)
    have h1 := relsB_length (l.take i)
    have h2 := relB_length l[i]
    have hs0 := hs.h0
    rw [List.length_take] at h1
    have hI := ih (i + 1) (by omega)
    rw [relsB_take l i hlt, ← List.append_assoc] at hI
    refine Ev.step (fun k => by rw [object_body.l1, if_pos (by omega), if_pos (by omega), rd43 l i hlt, i64_nat i (by omega)]) ?_
    refine Ev.bind (put1_is _ (by omega)) (Ev.bind (put2_is _ hs.h1.1) (Ev.bind (put1_is _ hs.h2.1) (Ev.bind (putText_is _ (by have := hs.len; omega)) ?_)))
    refine Ev.congr (fun k => by rw [truth_is, Option.bind_some]) ?_
    rw [mkS_append, mkS_append, mkS_append, mkS_append, mkS_append]
    refine Ev.congr (fun k => if_pos ?_) hI
    rw [mkS_size, mkS_size, List.length_append]
    unfold relB at h2
    omega
theorem body_is {m : Md} (hV : Valid m) : Ev (fun k => object_body.f k m.a0 m.a1 m.a2 m.a3 m.l4 m.l5) (mkS (bodyB m)) := by
  have hh := headB_length m
  have n4 := hV.n4
  have n5 := hV.n5
  have hsl := symsB_length m.l4
  unfold object_body.f
  refine Ev.bind (putText_is _ (by have := (nm_len hV.h0).2; omega)) (Ev.bind (putText_is _ (by have := hV.h1.1; omega)) (Ev.bind (putText_is _ (by have := hV.h2; omega)) (Ev.bind (put2_is _ hV.h3.1) ?_)))
  have e : ((((⟨#[79, 66, 74, 49]⟩ : ByteArray) ++ mkS (putT (bs m.a0))) ++ mkS (putT (bs m.a1))) ++ mkS (putT (bs m.a2))) ++ mkS (le m.a3 2) = mkS (headB m) := by
    rw [show (⟨#[79, 66, 74, 49]⟩ : ByteArray) = mkS [79, 66, 74, 49] from rfl, mkS_append, mkS_append, mkS_append, mkS_append]; rfl
  rw [e]
  refine Ev.congr (fun k => if_pos (by rw [mkS_size]; omega)) ?_
  refine Ev.bind (put2_is _ (by omega)) ?_
  refine Ev.congr (fun k => if_pos (by rw [mkS_size, mkS_size, le_length]; omega)) ?_
  rw [mkS_append]
  have h0 := body_l0 m.l4 hV.h4 n4 (headB m ++ le (m.l4.length : Int) 2) (by rw [List.length_append, le_length]; omega) m.l4.length 0 (by omega)
  rw [List.take_zero, show symsB [] = [] from rfl, List.append_nil] at h0
  refine Ev.bind h0 (Ev.bind (put2_is _ (by omega)) ?_)
  have hl : ((headB m ++ le (m.l4.length : Int) 2) ++ symsB m.l4).length ≤ 50000000 := by rw [List.length_append, List.length_append, le_length]; omega
  refine Ev.congr (fun k => if_pos (by rw [mkS_size, mkS_size, le_length]; show (headB m ++ le (m.l4.length : Int) 2 ++ symsB m.l4).length + 2 ≤ _; omega)) ?_
  rw [mkS_append]
  have h1 := body_l1 m.l5 hV.h5 n5 (headB m ++ le (m.l4.length : Int) 2 ++ symsB m.l4 ++ le (m.l5.length : Int) 2) (by rw [List.length_append, le_length]; omega) m.l5.length 0 (by omega)
  rw [List.take_zero, show relsB [] = [] from rfl, List.append_nil] at h1
  exact h1
theorem check_m {m : Md} (hf : Fine m.a0 m.l4 m.l5) (h4 : m.l4.length ≤ 1000000) (h5 : m.l5.length ≤ 1000000) : Ev (fun k => object_Check.f k m.a0 m.a1 m.a2 m.a3 m.l4 m.l5) m.check := check_is _ _ _ _ _ _ hf h4 h5
end Go.Proofs.Ytenlmckahaniiaa.Obj
end
section
set_option linter.unusedVariables false
set_option linter.unusedSimpArgs false
namespace Go.Proofs.Ytenlmckahaniiaa.Obj
open Go Go.RowKit Go.Proofs.Ytenlmckahaniiaa.K Go.Proofs.YtenlmckahaniiaaW.PrintWords Go.Proofs.YtenlmckahaniiaaW.PrintMore Go.Proofs.Ytenlmckahaniiaa.MyBits Go.Proofs.Ytenlmckahaniiaa.MyStr Go.Proofs.Ytenlmckahaniiaa.Oct
theorem rtext_is (t : ByteArray) (hs : t.size < 140737488355000) (p : Rd) : Ev (fun k => object_reader_text.f k t p.1 p.2) (mkS (rdT (bs t) p).1, t, (rdT (bs t) p).2.1, (rdT (bs t) p).2.2) := by
  unfold object_reader_text.f rdT
  refine Ev.bind (getText_is t p.1 hs) ?_
  refine Ev.ite (fun h => ?_) (fun h => ?_)
  · rw [if_pos h]; exact Ev.now _
  · rw [if_neg h]; exact Ev.now _
theorem rnum_is (t : ByteArray) (hs : t.size < 140737488355000) (p : Rd) (w : Int) : Ev (fun k => object_reader_num.f k t p.1 p.2 w) ((rdN (bs t) p w).1, t, (rdN (bs t) p w).2.1, (rdN (bs t) p w).2.2) := by
  unfold object_reader_num.f rdN
  refine Ev.bind (get_is t p.1 w (by omega)) ?_
  refine Ev.ite (fun h => ?_) (fun h => ?_)
  · rw [if_pos h]; exact Ev.now _
  · rw [if_neg h]; exact Ev.now _
theorem getT_len (t : List UInt8) (a : Int) : (getT t a).1.length ≤ t.length := by
  unfold getT
  split
  · split
    · exact Nat.zero_le _
    · show (List.take _ (List.drop _ t)).length ≤ _
      rw [List.length_take, List.length_drop]; omega
  · exact Nat.zero_le _
theorem rdT_len (t : List UInt8) (p : Rd) : (rdT t p).1.length ≤ t.length := by
  unfold rdT
  split
  · exact getT_len t p.1
  · exact Nat.zero_le _
theorem rdN2_range (t : List UInt8) (p : Rd) : 0 ≤ (rdN t p 2).1 ∧ (rdN t p 2).1 < 65536 := by
  unfold rdN
  split
  · rename_i h; exact getR2_range t p.1 h
  · exact ⟨Int.le_refl _, show (0 : Int) < 65536 by decide⟩
theorem rdL_all {α : Type} (f : Rd → α × Rd) (P : α → Prop) (h : ∀ p, P (f p).1) (n : Nat) : ∀ p : Rd, ∀ x ∈ (rdL f n p).1, P x := by
  induction n with
  | zero => intro p x hx; cases hx
  | succ n ih =>
    intro p x hx
    unfold rdL at hx
    split at hx
    · cases hx
    · rcases List.mem_cons.1 hx with rfl | hx
      · exact h p
      · exact ih _ x hx
def tup (m : Md) (e : Int) : ByteArray × ByteArray × ByteArray × Int × List S62 × List S43 × Int := (m.a0, m.a1, m.a2, m.a3, m.l4, m.l5, e)
def fin (t : List UInt8) (m : Md) (bad : Bool) : ByteArray × ByteArray × ByteArray × Int × List S62 × List S43 × Int :=
  if bad = true ∨ m.check ≠ 0 ∨ bodyB m ≠ t then tup m0 9 else tup m 0
theorem dec_end (t : ByteArray) (m : Md) (bad : Bool) (hf : Fine m.a0 m.l4 m.l5) (h4 : m.l4.length ≤ 1000000) (h5 : m.l5.length ≤ 1000000) (n a : Int) :
    Ev (fun k => object_Decode.j3 k t n false t a bad m.a0 m.a1 m.a2 m.a3 m.l4 m.l5) (fin (bs t) m bad) := by
  unfold fin
  refine Ev.step (fun k => by rw [object_Decode.j3, if_neg (by decide)]) ?_
  refine Ev.ite (fun h => ?_) (fun h => ?_)
  · rw [if_pos (.inl h)]; exact Ev.now _
  · refine Ev.bind (check_m hf h4 h5) ?_
    refine Ev.ite (fun h2 => ?_) (fun h2 => ?_)
    · refine Ev.bind (body_is (valid_of h2)) ?_
      refine Ev.ite (fun h3 => ?_) (fun h3 => ?_)
      · rw [toList_bs, toList_bs, bs_mkS] at h3
        rw [if_neg (by rintro (h' | h' | h'); exact h h'; exact h' h2; exact h' h3)]
        exact Ev.now _
      · rw [toList_bs, toList_bs, bs_mkS] at h3
        rw [if_pos (.inr (.inr h3))]
        exact Ev.now _
    · rw [if_pos (.inr (.inl h2))]; exact Ev.now _
theorem dec_l1 (t : ByteArray) (hs : t.size < 140737488355000) (a0 a1 a2 : ByteArray) (a3 : Int) (l4 : List S62) (h0 : a0.size ≤ 9223372036854775806) (h4 : Fine62 l4) (hn4 : l4.length ≤ 1000000) (n : Nat) : ∀ (p : Rd) (L : List S43), Fine43 L → L.length + n ≤ 65536 →
    Ev (fun k => object_Decode.l1 k t (n : Int) t p.1 p.2 a0 a1 a2 a3 l4 L) (fin (bs t) ⟨a0, a1, a2, a3, l4, L ++ (rdL (rdX (bs t)) n p).1⟩ (rdL (rdX (bs t)) n p).2.2) := by
  have hb := bs_length t
  induction n with
  | zero =>
    intro p L hL hn
    have := dec_end t ⟨a0, a1, a2, a3, l4, L⟩ p.2 ⟨h0, h4, hL⟩ hn4 (by show L.length ≤ _; omega) 0 p.1
    unfold rdL
    simp only [List.append_nil]
    exact Ev.step (fun k => by rw [object_Decode.l1, if_neg (by omega)]; rfl) this
  | succ n ih =>
    intro p L hL hn
    by_cases hp : p.2 = true
    · have := dec_end t ⟨a0, a1, a2, a3, l4, L⟩ p.2 ⟨h0, h4, hL⟩ hn4 (by show L.length ≤ _; omega) ((n + 1 : Nat) : Int) p.1
      rw [rdL_bad _ _ _ hp, List.append_nil]
      exact Ev.step (fun k => by rw [object_Decode.l1, if_pos (by omega), hp, Bool.not_true]) (by rw [hp] at this ⊢; exact this)
    · rw [Bool.not_eq_true] at hp
      have hx : (rdX (bs t) p).1.f3.size ≤ 9223372036854775806 := by
        unfold rdX
        simp only
        rw [mkS_size]
        have := rdT_len (bs t) (rdN (bs t) (rdN (bs t) (rdN (bs t) p 1).2 2).2 1).2
        omega
      have hI := ih (rdX (bs t) p).2 (L ++ [(rdX (bs t) p).1]) (fun s hs => by
        rcases List.mem_append.1 hs with h | h
        · exact hL s h
        · rw [List.mem_singleton.1 h]; exact hx) (by rw [List.length_append, List.length_singleton]; omega)
      have e1 : rdL (rdX (bs t)) (n + 1) p = ((rdX (bs t) p).1 :: (rdL (rdX (bs t)) n (rdX (bs t) p).2).1, (rdL (rdX (bs t)) n (rdX (bs t) p).2).2) := by
        rw [rdL, if_neg (by rw [hp]; exact Bool.false_ne_true)]
      rw [e1]
      simp only
      rw [List.append_cons]
      refine Ev.step (fun k => by rw [object_Decode.l1, if_pos (by omega), hp, Bool.not_false]) ?_
      refine Ev.step (fun k => by rw [object_Decode.j3, if_pos rfl]) ?_
      have r1 := rnum_is t hs p 1
      rw [hp] at r1
      refine Ev.bind r1 ?_
      refine Ev.bind (rnum_is t hs (rdN (bs t) p 1).2 2) ?_
      refine Ev.bind (rnum_is t hs (rdN (bs t) (rdN (bs t) p 1).2 2).2 1) ?_
      refine Ev.bind (rtext_is t hs (rdN (bs t) (rdN (bs t) (rdN (bs t) p 1).2 2).2 1).2) ?_
      refine Ev.bind (rnum_is t hs (rdT (bs t) (rdN (bs t) (rdN (bs t) (rdN (bs t) p 1).2 2).2 1).2).2 1) ?_
      refine Ev.congr (fun k => if_pos (by omega)) ?_
      have e2 : wrap64 (((n + 1 : Nat) : Int) - 1) = (n : Int) := by rw [wrap64_id (by omega) (by omega)]; omega
      rw [e2]
      exact hI
theorem dec_l0 (t : ByteArray) (hs : t.size < 140737488355000) (a0 a1 a2 : ByteArray) (a3 : Int) (h0 : a0.size ≤ 9223372036854775806) (n : Nat) : ∀ (p : Rd) (L : List S62), Fine62 L → L.length + n ≤ 65536 →
    Ev (fun k => object_Decode.l0 k t (n : Int) t p.1 p.2 a0 a1 a2 a3 L)
      (fin (bs t) ⟨a0, a1, a2, a3, L ++ (rdL (rdS (bs t)) n p).1, (rdL (rdX (bs t)) (rdN (bs t) (rdL (rdS (bs t)) n p).2 2).1.toNat (rdN (bs t) (rdL (rdS (bs t)) n p).2 2).2).1⟩ (rdL (rdX (bs t)) (rdN (bs t) (rdL (rdS (bs t)) n p).2 2).1.toNat (rdN (bs t) (rdL (rdS (bs t)) n p).2 2).2).2.2) := by
  have hb := bs_length t
  have hend : ∀ (p : Rd) (L : List S62) (x : Int), Fine62 L → L.length ≤ 65536 → Ev (fun k => object_Decode.j1 k t x false t p.1 p.2 a0 a1 a2 a3 L)
      (fin (bs t) ⟨a0, a1, a2, a3, L, (rdL (rdX (bs t)) (rdN (bs t) p 2).1.toNat (rdN (bs t) p 2).2).1⟩ (rdL (rdX (bs t)) (rdN (bs t) p 2).1.toNat (rdN (bs t) p 2).2).2.2) := by
    intro p L x hL hn
    obtain ⟨r0, r1⟩ := rdN2_range (bs t) p
    refine Ev.step (fun k => by rw [object_Decode.j1, if_neg (by decide)]) ?_
    refine Ev.bind (rnum_is t hs p 2) ?_
    have := dec_l1 t hs a0 a1 a2 a3 L h0 hL (by omega) (rdN (bs t) p 2).1.toNat (rdN (bs t) p 2).2 [] (fun s hs => by cases hs) (by simp; omega)
    rw [List.nil_append, show (((rdN (bs t) p 2).1.toNat : Nat) : Int) = (rdN (bs t) p 2).1 by omega] at this
    exact this
  induction n with
  | zero =>
    intro p L hL hn
    have := hend p L 0 hL (by omega)
    simp only [rdL, List.append_nil]
    exact Ev.step (fun k => by rw [object_Decode.l0, if_neg (by omega)]; rfl) this
  | succ n ih =>
    intro p L hL hn
    by_cases hp : p.2 = true
    · have := hend p L ((n + 1 : Nat) : Int) hL (by omega)
      rw [rdL_bad (rdS (bs t)) _ _ hp, List.append_nil]
      exact Ev.step (fun k => by rw [object_Decode.l0, if_pos (by omega), hp, Bool.not_true]) (by rw [hp] at this; exact this)
    · rw [Bool.not_eq_true] at hp
      have hx : (rdS (bs t) p).1.f0.size ≤ 9223372036854775806 := by
        unfold rdS
        simp only
        rw [mkS_size]
        have := rdT_len (bs t) p
        omega
      have hI := ih (rdS (bs t) p).2 (L ++ [(rdS (bs t) p).1]) (fun s hs => by
        rcases List.mem_append.1 hs with h | h
        · exact hL s h
        · rw [List.mem_singleton.1 h]; exact hx) (by rw [List.length_append, List.length_singleton]; omega)
      have e1 : rdL (rdS (bs t)) (n + 1) p = ((rdS (bs t) p).1 :: (rdL (rdS (bs t)) n (rdS (bs t) p).2).1, (rdL (rdS (bs t)) n (rdS (bs t) p).2).2) := by
        rw [rdL, if_neg (by rw [hp]; exact Bool.false_ne_true)]
      rw [e1]
      simp only
      rw [List.append_cons]
      refine Ev.step (fun k => by rw [object_Decode.l0, if_pos (by omega), hp, Bool.not_false]) ?_
      refine Ev.step (fun k => by rw [object_Decode.j1, if_pos rfl]) ?_
      have r1 := rtext_is t hs p
      rw [hp] at r1
      refine Ev.bind r1 ?_
      refine Ev.bind (rnum_is t hs (rdT (bs t) p).2 1) ?_
      refine Ev.bind (rnum_is t hs (rdN (bs t) (rdT (bs t) p).2 1).2 2) ?_
      refine Ev.bind (rnum_is t hs (rdN (bs t) (rdN (bs t) (rdT (bs t) p).2 1).2 2).2 1) ?_
      refine Ev.congr (fun k => if_pos (by omega)) ?_
      have e2 : wrap64 (((n + 1 : Nat) : Int) - 1) = (n : Int) := by rw [wrap64_id (by omega) (by omega)]; omega
      rw [e2]
      exact hI
theorem prefix_is (t : ByteArray) : strings_HasPrefix.f t (⟨#[79, 66, 74, 49]⟩ : ByteArray) = some (decide (4 ≤ t.size) && ((bs t).take 4 == [79, 66, 74, 49])) := by
  unfold strings_HasPrefix.f stringslite_HasPrefix.f
  have e : (((⟨#[79, 66, 74, 49]⟩ : ByteArray).size : Nat) : Int) = 4 := rfl
  rw [e]
  by_cases h : 4 ≤ t.size
  · rw [if_pos (by omega), if_pos (by omega), if_pos (by omega), decide_eq_true h, toList_bs, toList_bs, bs_extract]
    simp only [Option.bind_some, List.drop_zero, Bool.true_and]
    rfl
  · rw [if_neg (by omega), decide_eq_false h]
    rfl
theorem body_prefix (m : Md) : (bodyB m).take 4 = [79, 66, 74, 49] ∧ 4 ≤ (bodyB m).length := by
  have e : ∃ z, bodyB m = [79, 66, 74, 49] ++ z := by
    unfold bodyB headB
    exact ⟨_, by simp only [List.append_assoc]; rfl⟩
  obtain ⟨z, e⟩ := e
  rw [e]
  exact ⟨rfl, by simp⟩
theorem decode_is (s : ByteArray) (hs : s.size < 140737488355000) : Ev (fun k => object_Decode.f k s) (tup (decR (bs s)).1 (decR (bs s)).2) := by
  unfold object_Decode.f
  refine Ev.bind (open_is s hs) ?_
  have hlen : (mkS (openR (bs s)).1).size < 140737488355000 := by
    rw [mkS_size]
    unfold openR
    have := bs_length s
    split
    · simp
    · split
      · rw [List.length_take]; omega
      · simp
  refine Ev.ite (fun h => ?_) (fun h => ?_)
  · rw [prefix_is]
    refine Ev.bind (Ev.now _) ?_
    have hd : tup (decR (bs s)).1 (decR (bs s)).2 = fin (openR (bs s)).1 (parseM (openR (bs s)).1).1 (parseM (openR (bs s)).1).2.2 := by
      unfold decR fin
      have h' : (openR (bs s)).2 = 0 := h
      rw [if_pos h']
      split <;> rfl
    rw [hd]
    have hb : bs (mkS (openR (bs s)).1) = (openR (bs s)).1 := bs_mkS _
    refine Ev.ite (fun h2 => ?_) (fun h2 => ?_)
    · generalize mkS (openR (bs s)).1 = t at hb hlen ⊢
      rw [← hb]
      refine Ev.bind (rtext_is t hlen (4, false)) ?_
      refine Ev.bind (rtext_is t hlen (rdT (bs t) (4, false)).2) ?_
      refine Ev.bind (rtext_is t hlen (rdT (bs t) (rdT (bs t) (4, false)).2).2) ?_
      refine Ev.bind (rnum_is t hlen (rdT (bs t) (rdT (bs t) (rdT (bs t) (4, false)).2).2).2 2) ?_
      refine Ev.bind (rnum_is t hlen (rdN (bs t) (rdT (bs t) (rdT (bs t) (rdT (bs t) (4, false)).2).2).2 2).2 2) ?_
      obtain ⟨r0, r1⟩ := rdN2_range (bs t) (rdN (bs t) (rdT (bs t) (rdT (bs t) (rdT (bs t) (4, false)).2).2).2 2).2
      have := dec_l0 t hlen (mkS (rdT (bs t) (4, false)).1) (mkS (rdT (bs t) (rdT (bs t) (4, false)).2).1) (mkS (rdT (bs t) (rdT (bs t) (rdT (bs t) (4, false)).2).2).1) (rdN (bs t) (rdT (bs t) (rdT (bs t) (rdT (bs t) (4, false)).2).2).2 2).1 (by rw [mkS_size]; have := rdT_len (bs t) (4, false); have := bs_length t; omega)
        (rdN (bs t) (rdN (bs t) (rdT (bs t) (rdT (bs t) (rdT (bs t) (4, false)).2).2).2 2).2 2).1.toNat (rdN (bs t) (rdN (bs t) (rdT (bs t) (rdT (bs t) (rdT (bs t) (4, false)).2).2).2 2).2 2).2 [] (fun s hs => by cases hs) (by simp; omega)
      rw [List.nil_append, show (((rdN (bs t) (rdN (bs t) (rdT (bs t) (rdT (bs t) (rdT (bs t) (4, false)).2).2).2 2).2 2).1.toNat : Nat) : Int) = (rdN (bs t) (rdN (bs t) (rdT (bs t) (rdT (bs t) (rdT (bs t) (4, false)).2).2).2 2).2 2).1 by omega] at this
      exact this
    · unfold fin
      rw [if_pos]
      · exact Ev.now _
      · refine .inr (.inr (fun e => h2 ?_))
        obtain ⟨p1, p2⟩ := body_prefix (parseM (openR (bs s)).1).1
        rw [e] at p1 p2
        rw [mkS_size, bs_mkS, decide_eq_true p2, p1]
        rfl
  · have h' : ¬ (openR (bs s)).2 = 0 := h
    unfold decR
    rw [if_neg h']
    exact Ev.now _
end Go.Proofs.Ytenlmckahaniiaa.Obj
end
