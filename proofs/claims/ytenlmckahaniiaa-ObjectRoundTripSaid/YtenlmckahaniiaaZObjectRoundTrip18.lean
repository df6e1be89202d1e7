/- Lemmas for the law ObjectRoundTrip: what its proof needs of this seat's texts, in one place. -/
import Derived.Test.YtenlmckahaniiaaZObjectRoundTrip17
section
set_option linter.unusedVariables false
set_option linter.unusedSimpArgs false
namespace Go.Proofs.Ytenlmckahaniiaa.Obj
open Go Go.RowKit Go.Proofs.Ytenlmckahaniiaa.K Go.Proofs.YtenlmckahaniiaaW.PrintWords Go.Proofs.YtenlmckahaniiaaW.PrintMore Go.Proofs.Ytenlmckahaniiaa.MyBits Go.Proofs.Ytenlmckahaniiaa.MyStr Go.Proofs.Ytenlmckahaniiaa.Oct
theorem rtext_is (t : ByteArray) (hs : t.size < 140737488355000) (p : Rd) : Ev (fun k => object_reader_text.f k t p.1 p.2) (mkS (rdT (bs t) p).1, t, (rdT (bs t) p).2.1, (rdT (bs t) p).2.2) := by
  unfold object_reader_text.f rdT
  refine Ev.bind (getText_is t p.1 hs) ?_
  refine Ev.ite (fun h => ?_) (fun h => ?_)
  · rw [if_pos h]; exact Ev.now _
  · rw [if_neg h]; exact Ev.now _
theorem rnum_is (t : ByteArray) (hs : t.size < 140737488355000) (p : Rd) (w : Int) : Ev (fun k => object_reader_num.f k t p.1 p.2 w) ((rdN (bs t) p w).1, t, (rdN (bs t) p w).2.1, (rdN (bs t) p w).2.2) := by
  unfold object_reader_num.f rdN
  refine Ev.bind (get_is t p.1 w (by omega)) ?_
  refine Ev.ite (fun h => ?_) (fun h => ?_)
  · rw [if_pos h]; exact Ev.now _
  · rw [if_neg h]; exact Ev.now _
theorem getT_len (t : List UInt8) (a : Int) : (getT t a).1.length ≤ t.length := by
  unfold getT
  split
  · split
    · exact Nat.zero_le _
    · show (List.take _ (List.drop _ t)).length ≤ _
      rw [List.length_take, List.length_drop]; omega
  · exact Nat.zero_le _
theorem rdT_len (t : List UInt8) (p : Rd) : (rdT t p).1.length ≤ t.length := by
  unfold rdT
  split
  · exact getT_len t p.1
  · exact Nat.zero_le _
theorem rdN2_range (t : List UInt8) (p : Rd) : 0 ≤ (rdN t p 2).1 ∧ (rdN t p 2).1 < 65536 := by
  unfold rdN
  split
  · rename_i h; exact getR2_range t p.1 h
  · exact ⟨Int.le_refl _, show (0 : Int) < 65536 by decide⟩
def tup (m : Md) (e : Int) : ByteArray × ByteArray × ByteArray × Int × List S62 × List S43 × Int := (m.a0, m.a1, m.a2, m.a3, m.l4, m.l5, e)
def fin (t : List UInt8) (m : Md) (bad : Bool) : ByteArray × ByteArray × ByteArray × Int × List S62 × List S43 × Int :=
  if bad = true ∨ m.check ≠ 0 ∨ bodyB m ≠ t then tup m0 9 else tup m 0
theorem dec_end (t : ByteArray) (m : Md) (bad : Bool) (hf : Fine m.a0 m.l4 m.l5) (h4 : m.l4.length ≤ 1000000) (h5 : m.l5.length ≤ 1000000) (n a : Int) :
    Ev (fun k => object_Decode.j3 k t n false t a bad m.a0 m.a1 m.a2 m.a3 m.l4 m.l5) (fin (bs t) m bad) := by
  unfold fin
  refine Ev.step (fun k => by rw [object_Decode.j3, if_neg (by decide)]) ?_
  refine Ev.ite (fun h => ?_) (fun h => ?_)
  · rw [if_pos (.inl h)]; exact Ev.now _
  · refine Ev.bind (check_m hf h4 h5) ?_
    refine Ev.ite (fun h2 => ?_) (fun h2 => ?_)
    · refine Ev.bind (body_is (valid_of h2)) ?_
      refine Ev.ite (fun h3 => ?_) (fun h3 => ?_)
      · rw [toList_bs, toList_bs, bs_mkS] at h3
        rw [if_neg (by rintro (h' | h' | h'); exact h h'; exact h' h2; exact h' h3)]
        exact Ev.now _
      · rw [toList_bs, toList_bs, bs_mkS] at h3
        rw [if_pos (.inr (.inr h3))]
        exact Ev.now _
    · rw [if_pos (.inr (.inl h2))]; exact Ev.now _
theorem dec_l1 (t : ByteArray) (hs : t.size < 140737488355000) (a0 a1 a2 : ByteArray) (a3 : Int) (l4 : List S62) (h0 : a0.size ≤ 9223372036854775806) (h4 : Fine62 l4) (hn4 : l4.length ≤ 1000000) (n : Nat) : ∀ (p : Rd) (L : List S43), Fine43 L → L.length + n ≤ 65536 →
    Ev (fun k => object_Decode.l1 k t (n : Int) t p.1 p.2 a0 a1 a2 a3 l4 L) (fin (bs t) ⟨a0, a1, a2, a3, l4, L ++ (rdL (rdX (bs t)) n p).1⟩ (rdL (rdX (bs t)) n p).2.2) := by
  have hb := bs_length t
  induction n with
  | zero =>
    intro p L hL hn
    have := dec_end t ⟨a0, a1, a2, a3, l4, L⟩ p.2 ⟨h0, h4, hL⟩ hn4 (by show L.length ≤ _; omega) 0 p.1
    unfold rdL
    simp only [List.append_nil]
    exact Ev.step (fun k => by rw [object_Decode.l1, if_neg (by omega)]; rfl) this
  | succ n ih =>
    intro p L hL hn
    by_cases hp : p.2 = true
    · have := dec_end t ⟨a0, a1, a2, a3, l4, L⟩ p.2 ⟨h0, h4, hL⟩ hn4 (by show L.length ≤ _; omega) ((n + 1 : Nat) : Int) p.1
      rw [rdL_bad _ _ _ hp, List.append_nil]
      exact Ev.step (fun k => by rw [object_Decode.l1, if_pos (by omega), hp, Bool.not_true]) (by rw [hp] at this ⊢; exact this)
    · rw [Bool.not_eq_true] at hp
      have hx : (rdX (bs t) p).1.f3.size ≤ 9223372036854775806 := by
        unfold rdX
        simp only
        rw [mkS_size]
        have := rdT_len (bs t) (rdN (bs t) (rdN (bs t) (rdN (bs t) p 1).2 2).2 1).2
        omega
      have hI := ih (rdX (bs t) p).2 (L ++ [(rdX (bs t) p).1]) (fun s hs => by
        rcases List.mem_append.1 hs with h | h
        · exact hL s h
        · rw [List.mem_singleton.1 h]; exact hx) (by rw [List.length_append, List.length_singleton]; omega)
      have e1 : rdL (rdX (bs t)) (n + 1) p = ((rdX (bs t) p).1 :: (rdL (rdX (bs t)) n (rdX (bs t) p).2).1, (rdL (rdX (bs t)) n (rdX (bs t) p).2).2) := by
        rw [rdL, if_neg (by rw [hp]; exact Bool.false_ne_true)]
      rw [e1]
      simp only
      rw [List.append_cons]
      refine Ev.step (fun k => by rw [object_Decode.l1, if_pos (by omega), hp, Bool.not_false]) ?_
      refine Ev.step (fun k => by rw [object_Decode.j3, if_pos rfl]) ?_
      have r1 := rnum_is t hs p 1
      rw [hp] at r1
      refine Ev.bind r1 ?_
      refine Ev.bind (rnum_is t hs (rdN (bs t) p 1).2 2) ?_
      refine Ev.bind (rnum_is t hs (rdN (bs t) (rdN (bs t) p 1).2 2).2 1) ?_
      refine Ev.bind (rtext_is t hs (rdN (bs t) (rdN (bs t) (rdN (bs t) p 1).2 2).2 1).2) ?_
      refine Ev.bind (rnum_is t hs (rdT (bs t) (rdN (bs t) (rdN (bs t) (rdN (bs t) p 1).2 2).2 1).2).2 1) ?_
      refine Ev.congr (fun k => if_pos (by omega)) ?_
      have e2 : wrap64 (((n + 1 : Nat) : Int) - 1) = (n : Int) := by rw [wrap64_id (by omega) (by omega)]; omega
      rw [e2]
      exact hI
theorem dec_l0 (t : ByteArray) (hs : t.size < 140737488355000) (a0 a1 a2 : ByteArray) (a3 : Int) (h0 : a0.size ≤ 9223372036854775806) (n : Nat) : ∀ (p : Rd) (L : List S62), Fine62 L → L.length + n ≤ 65536 →
    Ev (fun k => object_Decode.l0 k t (n : Int) t p.1 p.2 a0 a1 a2 a3 L)
      (fin (bs t) ⟨a0, a1, a2, a3, L ++ (rdL (rdS (bs t)) n p).1, (rdL (rdX (bs t)) (rdN (bs t) (rdL (rdS (bs t)) n p).2 2).1.toNat (rdN (bs t) (rdL (rdS (bs t)) n p).2 2).2).1⟩ (rdL (rdX (bs t)) (rdN (bs t) (rdL (rdS (bs t)) n p).2 2).1.toNat (rdN (bs t) (rdL (rdS (bs t)) n p).2 2).2).2.2) := by
  have hb := bs_length t
  have hend : ∀ (p : Rd) (L : List S62) (x : Int), Fine62 L → L.length ≤ 65536 → Ev (fun k => object_Decode.j1 k t x false t p.1 p.2 a0 a1 a2 a3 L)
      (fin (bs t) ⟨a0, a1, a2, a3, L, (rdL (rdX (bs t)) (rdN (bs t) p 2).1.toNat (rdN (bs t) p 2).2).1⟩ (rdL (rdX (bs t)) (rdN (bs t) p 2).1.toNat (rdN (bs t) p 2).2).2.2) := by
    intro p L x hL hn
    obtain ⟨r0, r1⟩ := rdN2_range (bs t) p
    refine Ev.step (fun k => by rw [object_Decode.j1, if_neg (by decide)]) ?_
    refine Ev.bind (rnum_is t hs p 2) ?_
    have := dec_l1 t hs a0 a1 a2 a3 L h0 hL (by omega) (rdN (bs t) p 2).1.toNat (rdN (bs t) p 2).2 [] (fun s hs => by cases hs) (by simp; omega)
    rw [List.nil_append, show (((rdN (bs t) p 2).1.toNat : Nat) : Int) = (rdN (bs t) p 2).1 by omega] at this
    exact this
  induction n with
  | zero =>
    intro p L hL hn
    have := hend p L 0 hL (by omega)
    simp only [rdL, List.append_nil]
    exact Ev.step (fun k => by rw [object_Decode.l0, if_neg (by omega)]; rfl) this
  | succ n ih =>
    intro p L hL hn
    by_cases hp : p.2 = true
    · have := hend p L ((n + 1 : Nat) : Int) hL (by omega)
      rw [rdL_bad (rdS (bs t)) _ _ hp, List.append_nil]
      exact Ev.step (fun k => by rw [object_Decode.l0, if_pos (by omega), hp, Bool.not_true]) (by rw [hp] at this; exact this)
    · rw [Bool.not_eq_true] at hp
      have hx : (rdS (bs t) p).1.f0.size ≤ 9223372036854775806 := by
        unfold rdS
        simp only
        rw [mkS_size]
        have := rdT_len (bs t) p
        omega
      have hI := ih (rdS (bs t) p).2 (L ++ [(rdS (bs t) p).1]) (fun s hs => by
        rcases List.mem_append.1 hs with h | h
        · exact hL s h
        · rw [List.mem_singleton.1 h]; exact hx) (by rw [List.length_append, List.length_singleton]; omega)
      have e1 : rdL (rdS (bs t)) (n + 1) p = ((rdS (bs t) p).1 :: (rdL (rdS (bs t)) n (rdS (bs t) p).2).1, (rdL (rdS (bs t)) n (rdS (bs t) p).2).2) := by
        rw [rdL, if_neg (by rw [hp]; exact Bool.false_ne_true)]
      rw [e1]
      simp only
      rw [List.append_cons]
      refine Ev.step (fun k => by rw [object_Decode.l0, if_pos (by omega), hp, Bool.not_false]) ?_
      refine Ev.step (fun k => by rw [object_Decode.j1, if_pos rfl]) ?_
      have r1 := rtext_is t hs p
      rw [hp] at r1
      refine Ev.bind r1 ?_
      refine Ev.bind (rnum_is t hs (rdT (bs t) p).2 1) ?_
      refine Ev.bind (rnum_is t hs (rdN (bs t) (rdT (bs t) p).2 1).2 2) ?_
      refine Ev.bind (rnum_is t hs (rdN (bs t) (rdN (bs t) (rdT (bs t) p).2 1).2 2).2 1) ?_
      refine Ev.congr (fun k => if_pos (by omega)) ?_
      have e2 : wrap64 (((n + 1 : Nat) : Int) - 1) = (n : Int) := by rw [wrap64_id (by omega) (by omega)]; omega
      rw [e2]
      exact hI
theorem prefix_is (t : ByteArray) : strings_HasPrefix.f t (⟨#[79, 66, 74, 49]⟩ : ByteArray) = some (decide (4 ≤ t.size) && ((bs t).take 4 == [79, 66, 74, 49])) := by
  unfold strings_HasPrefix.f stringslite_HasPrefix.f
  have e : (((⟨#[79, 66, 74, 49]⟩ : ByteArray).size : Nat) : Int) = 4 := rfl
  rw [e]
  by_cases h : 4 ≤ t.size
  · rw [if_pos (by omega), if_pos (by omega), if_pos (by omega), decide_eq_true h, toList_bs, toList_bs, bs_extract]
    simp only [Option.bind_some, List.drop_zero, Bool.true_and]
    rfl
  · rw [if_neg (by omega), decide_eq_false h]
    rfl
theorem body_prefix (m : Md) : (bodyB m).take 4 = [79, 66, 74, 49] ∧ 4 ≤ (bodyB m).length := by
  have e : ∃ z, bodyB m = [79, 66, 74, 49] ++ z := by
    unfold bodyB headB
    exact ⟨_, by simp only [List.append_assoc]; rfl⟩
  obtain ⟨z, e⟩ := e
  rw [e]
  exact ⟨rfl, by simp⟩
theorem decode_is (s : ByteArray) (hs : s.size < 140737488355000) : Ev (fun k => object_Decode.f k s) (tup (decR (bs s)).1 (decR (bs s)).2) := by
  unfold object_Decode.f
  refine Ev.bind (open_is s hs) ?_
  have hlen : (mkS (openR (bs s)).1).size < 140737488355000 := by
    rw [mkS_size]
    unfold openR
    have := bs_length s
    split
    · simp
    · split
      · rw [List.length_take]; omega
      · simp
  refine Ev.ite (fun h => ?_) (fun h => ?_)
  · rw [prefix_is]
    refine Ev.bind (Ev.now _) ?_
    have hd : tup (decR (bs s)).1 (decR (bs s)).2 = fin (openR (bs s)).1 (parseM (openR (bs s)).1).1 (parseM (openR (bs s)).1).2.2 := by
      unfold decR fin
      have h' : (openR (bs s)).2 = 0 := h
      rw [if_pos h']
      split <;> rfl
    rw [hd]
    have hb : bs (mkS (openR (bs s)).1) = (openR (bs s)).1 := bs_mkS _
    refine Ev.ite (fun h2 => ?_) (fun h2 => ?_)
    · generalize mkS (openR (bs s)).1 = t at hb hlen ⊢
      rw [← hb]
      refine Ev.bind (rtext_is t hlen (4, false)) ?_
      refine Ev.bind (rtext_is t hlen (rdT (bs t) (4, false)).2) ?_
      refine Ev.bind (rtext_is t hlen (rdT (bs t) (rdT (bs t) (4, false)).2).2) ?_
      refine Ev.bind (rnum_is t hlen (rdT (bs t) (rdT (bs t) (rdT (bs t) (4, false)).2).2).2 2) ?_
      refine Ev.bind (rnum_is t hlen (rdN (bs t) (rdT (bs t) (rdT (bs t) (rdT (bs t) (4, false)).2).2).2 2).2 2) ?_
      obtain ⟨r0, r1⟩ := rdN2_range (bs t) (rdN (bs t) (rdT (bs t) (rdT (bs t) (rdT (bs t) (4, false)).2).2).2 2).2
      have := dec_l0 t hlen (mkS (rdT (bs t) (4, false)).1) (mkS (rdT (bs t) (rdT (bs t) (4, false)).2).1) (mkS (rdT (bs t) (rdT (bs t) (rdT (bs t) (4, false)).2).2).1) (rdN (bs t) (rdT (bs t) (rdT (bs t) (rdT (bs t) (4, false)).2).2).2 2).1 (by rw [mkS_size]; have := rdT_len (bs t) (4, false); have := bs_length t; omega)
        (rdN (bs t) (rdN (bs t) (rdT (bs t) (rdT (bs t) (rdT (bs t) (4, false)).2).2).2 2).2 2).1.toNat (rdN (bs t) (rdN (bs t) (rdT (bs t) (rdT (bs t) (rdT (bs t) (4, false)).2).2).2 2).2 2).2 [] (fun s hs => by cases hs) (by simp; omega)
      rw [List.nil_append, show (((rdN (bs t) (rdN (bs t) (rdT (bs t) (rdT (bs t) (rdT (bs t) (4, false)).2).2).2 2).2 2).1.toNat : Nat) : Int) = (rdN (bs t) (rdN (bs t) (rdT (bs t) (rdT (bs t) (rdT (bs t) (4, false)).2).2).2 2).2 2).1 by omega] at this
      exact this
    · unfold fin
      rw [if_pos]
      · exact Ev.now _
      · refine .inr (.inr (fun e => h2 ?_))
        obtain ⟨p1, p2⟩ := body_prefix (parseM (openR (bs s)).1).1
        rw [e] at p1 p2
        rw [mkS_size, bs_mkS, decide_eq_true p2, p1]
        rfl
  · have h' : ¬ (openR (bs s)).2 = 0 := h
    unfold decR
    rw [if_neg h']
    exact Ev.now _
end Go.Proofs.Ytenlmckahaniiaa.Obj
end
section
set_option linter.unusedVariables false
set_option linter.unusedSimpArgs false
namespace Go.Proofs.Ytenlmckahaniiaa.Obj
open Go Go.RowKit Go.Proofs.Ytenlmckahaniiaa.K Go.Proofs.YtenlmckahaniiaaW.PrintWords Go.Proofs.YtenlmckahaniiaaW.PrintMore Go.Proofs.Ytenlmckahaniiaa.MyStr Go.Proofs.Ytenlmckahaniiaa.Oct
theorem sameSyms_loop (l : List S62) (hn : l.length ≤ 1000000) (d : Nat) : ∀ i : Nat, i + d = l.length → Ev (fun k => emulatorref28_SameSymbols.l0 k l l (i : Int)) true := by
  induction d with
  | zero => exact fun i hi => Ev.step (f := fun _ => some true) (fun k => by rw [emulatorref28_SameSymbols.l0, if_neg (by omega)]) (Ev.now _)
  | succ d ih =>
    intro i hi
    refine Ev.step (fun k => ?_) (ih (i + 1) (by omega))
    rw [emulatorref28_SameSymbols.l0, if_pos (by omega), if_pos (by omega), if_pos (by omega), if_neg (by simp), i64_nat i (by omega)]
theorem sameRels_loop (m : Md) (hn : m.l5.length ≤ 1000000) (d : Nat) : ∀ i : Nat, i + d = m.l5.length → Ev (fun k => emulatorref28_SameModule.l0 k (i : Int) m.a0 m.a1 m.a2 m.a3 m.l4 m.l5 m.a0 m.a1 m.a2 m.a3 m.l4 m.l5) true := by
  induction d with
  | zero => exact fun i hi => Ev.step (f := fun _ => some true) (fun k => by rw [emulatorref28_SameModule.l0, if_neg (by omega)]) (Ev.now _)
  | succ d ih =>
    intro i hi
    refine Ev.step (fun k => ?_) (ih (i + 1) (by omega))
    rw [emulatorref28_SameModule.l0, if_pos (by omega), if_pos (by omega), if_pos (by omega), if_neg (by simp), i64_nat i (by omega)]
theorem same_is (m : Md) (h4 : m.l4.length ≤ 1000000) (h5 : m.l5.length ≤ 1000000) : Ev (fun k => emulatorref28_SameModule.f k m.a0 m.a1 m.a2 m.a3 m.l4 m.l5 m.a0 m.a1 m.a2 m.a3 m.l4 m.l5) true := by
  unfold emulatorref28_SameModule.f
  refine Ev.congr (fun k => by rw [if_pos rfl, if_pos rfl, if_pos rfl, if_pos rfl]) ?_
  have hs : Ev (fun k => emulatorref28_SameSymbols.f k m.l4 m.l4) true := by
    unfold emulatorref28_SameSymbols.f
    exact Ev.congr (fun k => if_pos rfl) (sameSyms_loop m.l4 h4 m.l4.length 0 (by omega))
  refine Ev.bind hs ?_
  refine Ev.congr (fun k => if_pos rfl) ?_
  refine Ev.step (fun k => by rw [emulatorref28_SameModule.j0, if_neg (by simp)]; rfl) (sameRels_loop m h5 m.l5.length 0 (by omega))
end Go.Proofs.Ytenlmckahaniiaa.Obj
end
section
set_option linter.unusedVariables false
set_option linter.unusedSimpArgs false
namespace Go.Proofs.Ytenlmckahaniiaa.Obj
open Go Go.RowKit Go.Proofs.Ytenlmckahaniiaa.K Go.Proofs.YtenlmckahaniiaaW.PrintWords Go.Proofs.YtenlmckahaniiaaW.PrintMore Go.Proofs.Ytenlmckahaniiaa.MyStr Go.Proofs.Ytenlmckahaniiaa.Oct
theorem bodyB_length2 {m : Md} (hV : Valid m) : (bodyB m).length ≤ 160000000 := by
  unfold bodyB
  have h1 := headB_length m
  have h2 := symsB_length m.l4
  have h3 := relsB_length m.l5
  have h4 := hV.n4
  have h5 := hV.n5
  simp only [List.length_append, le_length]
  omega
theorem chg_byte : ∀ (n c : Fin 256), 0 ≤ Go.bits .xor .u8 (n.val : Int) (Go.bits .or .u8 (c.val : Int) 1) ∧ Go.bits .xor .u8 (n.val : Int) (Go.bits .or .u8 (c.val : Int) 1) < 256 ∧ Go.bits .xor .u8 (n.val : Int) (Go.bits .or .u8 (c.val : Int) 1) ≠ n.val := by decide +kernel
theorem chg_ne (s : ByteArray) (q : Nat) (b : Int) (hb : 0 ≤ b ∧ b < 256) (hq : q < (bs s).length) : UInt8.ofNat (chgB s q b).toNat ≠ (bs s)[q] := by
  have hr : rd (bytesOf s) (q : Int) = ((bs s)[q].toNat : Int) := by
    unfold rd
    rw [show bytesOf s = ints (bs s) from rfl, Int.toNat_natCast, List.getD_eq_getElem?_getD]
    unfold ints
    rw [List.getElem?_map, List.getElem?_eq_getElem hq]; rfl
  have hlt := UInt8.toNat_lt (bs s)[q]
  obtain ⟨h0, h1, h2⟩ := chg_byte ⟨(bs s)[q].toNat, hlt⟩ ⟨b.toNat, by omega⟩
  simp only [show ((b.toNat : Nat) : Int) = b by omega] at h0 h1 h2
  unfold chgB
  rw [hr]
  intro e
  have := congrArg UInt8.toNat e
  rw [UInt8.toNat_ofNat'] at this
  omega
theorem chg_bs (s : ByteArray) (q : Nat) (b : Int) : bs (chg s q b) = (bs s).set q (UInt8.ofNat (chgB s q b).toNat) := by
  unfold chg
  rw [bs_nums, List.map_set]
  congr 1
  rw [show bytesOf s = (bs s).map fun b => (b.toNat : Int) from rfl, List.map_map]
  conv => rhs; rw [← List.map_id (bs s)]
  apply List.map_congr_left
  intro x _
  exact ofNat_toNat x
theorem dec_changed (t : List UInt8) (q : Nat) (c : UInt8) (hq : q < (seal_ t).length) (hc : c ≠ (seal_ t)[q]) : (decR ((seal_ t).set q c)).2 ≠ 0 ∧ (decR ((seal_ t).set q c)).1 = m0 := by
  have e : seal_ t = (seal_ t).take q ++ (seal_ t)[q] :: (seal_ t).drop (q + 1) := by
    rw [← List.drop_eq_getElem_cons hq, List.take_append_drop]
  have e2 : (seal_ t).set q c = (seal_ t).take q ++ c :: (seal_ t).drop (q + 1) := by
    rw [List.set_eq_take_append_cons_drop, if_pos hq]
  have hno := seal_one t _ _ _ c (fun h => hc h.symm) e
  rw [← e2] at hno
  rcases decR_cases ((seal_ t).set q c) with ⟨h1, h2⟩ | ⟨_, _, h3, _⟩
  · exact ⟨h1, h2⟩
  · exact absurd (by rw [h3]; exact opened_seal _) hno
theorem dec_cut {m : Md} (h : m.check = 0) (q : Nat) (hq : q < (seal_ (bodyB m)).length) : (decR ((seal_ (bodyB m)).take q)).2 ≠ 0 ∧ (decR ((seal_ (bodyB m)).take q)).1 = m0 := by
  rcases decR_cases ((seal_ (bodyB m)).take q) with ⟨h1, h2⟩ | ⟨_, h2, h3, _⟩
  · exact ⟨h1, h2⟩
  · exfalso
    have hl := congrArg List.length h3
    rw [List.length_take, seal_length] at hl
    rw [seal_length] at hq hl
    generalize hm' : (decR ((seal_ (bodyB m)).take q)).1 = m' at h2 h3 hl
    have hpre : bodyB m' = (bodyB m).take (bodyB m').length := by
      have h5 := congrArg (List.take (bodyB m').length) h3
      unfold seal_ at h5
      rw [List.take_left, List.take_take, List.take_append_of_le_length (by omega)] at h5
      refine h5.symm.trans ?_
      congr 1
      omega
    have e : bodyB m = bodyB m' ++ (bodyB m).drop (bodyB m').length := by
      conv => lhs; rw [← List.take_append_drop (bodyB m').length (bodyB m)]
      rw [← hpre]
    have p1 := parse_put (valid_of h2) ((bodyB m).drop (bodyB m').length)
    rw [← e] at p1
    have p2 := parse_put (valid_of h) []
    rw [List.append_nil, p1] at p2
    have hmm : m' = m := congrArg Prod.fst p2
    subst hmm
    omega
end Go.Proofs.Ytenlmckahaniiaa.Obj
namespace Go.Proofs.Ytenlmckahaniiaa.Pure
open Go Go.RowKit Go.Proofs.Ytenlmckahaniiaa.K Go.Proofs.YtenlmckahaniiaaW.PrintWords Go.Proofs.YtenlmckahaniiaaW.PrintMore Go.Proofs.Ytenlmckahaniiaa.MyStr Go.Proofs.Ytenlmckahaniiaa.Oct Go.Proofs.Ytenlmckahaniiaa.Obj
theorem wf16 {a : Int} (h : (Lit.int .u16 a).wf = true) : 0 ≤ a ∧ a < 65536 := by
  simp only [Lit.wf, IntKind.min, IntKind.max, IntKind.signed, IntKind.bits, Bool.and_eq_true, decide_eq_true_eq] at h
  have h5 := h.1; have h7 := h.2
  simp at h5 h7
  omega
theorem wf8 {a : Int} (h : (Lit.int .u8 a).wf = true) : 0 ≤ a ∧ a < 256 := by
  simp only [Lit.wf, IntKind.min, IntKind.max, IntKind.signed, IntKind.bits, Bool.and_eq_true, decide_eq_true_eq] at h
  have h5 := h.1; have h7 := h.2
  simp at h5 h7
  omega
theorem ObjectRoundTrip : emulatorlaw28_ObjectRoundTrip.Pure := by
  intro a0 a1 a2 a3 l4 l5 b1 b2 _ _ _ _ _ _ hb1 hb2
  have hb1 := wf16 hb1
  have hb2 := wf8 hb2
  refine Ev.rounds ?_
  unfold emulatorlaw28_ObjectRoundTrip.f
  obtain ⟨b, hb, hs⟩ := small_is a0 a1 a2 a3 l4 l5
  refine Ev.bind alive_is ?_
  refine Ev.congr (fun k => if_pos rfl) ?_
  refine Ev.bind hb ?_
  refine Ev.ite (fun h => ?_) (fun h => Ev.now _)
  have hS := hs h
  refine Ev.ite (fun _ => Ev.congr (fun k => if_pos ⟨hS.h1, hS.h2⟩) (Ev.now _)) (fun _ => ?_)
  have n4 : (Md.mk a0 a1 a2 a3 l4 l5).l4.length ≤ 1000000 := by have := hS.h4; show l4.length ≤ _; omega
  have n5 : (Md.mk a0 a1 a2 a3 l4 l5).l5.length ≤ 1000000 := by have := hS.h5; show l5.length ≤ _; omega
  refine Ev.bind (encode_is (m := ⟨a0, a1, a2, a3, l4, l5⟩) hS.fine n4 n5) ?_
  refine Ev.bind (check_m (m := ⟨a0, a1, a2, a3, l4, l5⟩) hS.fine n4 n5) ?_
  obtain ⟨m, hm⟩ : ∃ m : Md, m = ⟨a0, a1, a2, a3, l4, l5⟩ := ⟨_, rfl⟩
  rw [← hm] at n4 n5 ⊢
  by_cases hc : m.check = 0
  · have hV := valid_of hc
    have hL := bodyB_length2 hV
    have he : encR m = (seal_ (bodyB m), 0) := by unfold encR; rw [if_pos hc]
    rw [he]
    have hsz : (mkS (seal_ (bodyB m))).size = (bodyB m).length + 4 := by rw [mkS_size, seal_length]
    refine Ev.congr (fun k => by rw [if_pos hc.symm, if_pos hc]) ?_
    refine Ev.bind (decode_is _ (by rw [hsz]; omega)) ?_
    rw [bs_mkS, dec_enc hc]
    refine Ev.congr (fun k => if_pos rfl) ?_
    have hsame := same_is m n4 n5
    rw [hm] at hsame
    rw [show tup m 0 = tup ⟨a0, a1, a2, a3, l4, l5⟩ 0 by rw [hm]]
    refine Ev.bind hsame ?_
    refine Ev.congr (fun k => if_pos rfl) ?_
    have hpos : (0 : Int) < ((mkS (seal_ (bodyB m))).size : Int) := by omega
    have q0 := Int.emod_nonneg b1 (show ((mkS (seal_ (bodyB m))).size : Int) ≠ 0 by omega)
    have q1 := Int.emod_lt_of_pos b1 hpos
    obtain ⟨q, hq⟩ : ∃ q, q = (b1 % ((mkS (seal_ (bodyB m))).size : Int)).toNat := ⟨_, rfl⟩
    rw [← hq]
    have hq1 : q < (seal_ (bodyB m)).length := by rw [seal_length]; omega
    refine Ev.congr (fun k => if_pos ⟨⟨by rw [hsz]; omega, by rw [hsz]; omega⟩, hb1, hb2⟩) ?_
    have hbs : bs (mkS (seal_ (bodyB m))) = seal_ (bodyB m) := bs_mkS _
    have hz2 : (chg (mkS (seal_ (bodyB m))) q b2).size < 140737488355000 := by
      rw [← bs_length, chg_bs, List.length_set, hbs, seal_length]; omega
    refine Ev.bind (decode_is _ hz2) ?_
    have hx : (mkS (seal_ (bodyB m))).extract 0 q = mkS ((seal_ (bodyB m)).take q) := by
      rw [extract_mkS, hbs, List.drop_zero]
    rw [hx]
    refine Ev.bind (decode_is _ (by rw [mkS_size, List.length_take, seal_length]; omega)) ?_
    have hne := chg_ne (mkS (seal_ (bodyB m))) q b2 hb2 (by rw [hbs]; exact hq1)
    have hch := dec_changed (bodyB m) q (UInt8.ofNat (chgB (mkS (seal_ (bodyB m))) q b2).toNat) hq1 (by simpa only [hbs] using hne)
    have hcu := dec_cut hc q hq1
    have e1 : bs (chg (mkS (seal_ (bodyB m))) q b2) = (seal_ (bodyB m)).set q (UInt8.ofNat (chgB (mkS (seal_ (bodyB m))) q b2).toNat) := by rw [chg_bs, hbs]
    rw [e1, bs_mkS, hch.2, hcu.2]
    exact Ev.congr (fun k => if_pos ⟨⟨rfl, rfl⟩, hch.1, hcu.1⟩) (Ev.now _)
  · have he : encR m = ([], m.check) := by unfold encR; rw [if_neg hc]
    rw [he]
    exact Ev.congr (fun k => by rw [if_pos rfl, if_neg hc]; exact if_pos rfl) (Ev.now _)
end Go.Proofs.Ytenlmckahaniiaa.Pure
end
