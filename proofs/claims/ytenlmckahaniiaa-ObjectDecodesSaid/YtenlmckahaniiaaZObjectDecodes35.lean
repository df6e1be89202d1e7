/- Lemmas for the law ObjectDecodes: what its proof needs of this seat's texts, in one place. -/
import Derived.Test.YtenlmckahaniiaaZObjectDecodes31
import Derived.Test.YtenlmckahaniiaaZObjectDecodes33
import Derived.Test.YtenlmckahaniiaaZObjectDecodes34
section
set_option linter.unusedVariables false
set_option linter.unusedSimpArgs false
namespace Go.Proofs.Ytenlmckahaniiaa.Obj
open Go Go.RowKit Go.Proofs.Ytenlmckahaniiaa.K Go.Proofs.YtenlmckahaniiaaW.PrintWords Go.Proofs.YtenlmckahaniiaaW.PrintMore Go.Proofs.Ytenlmckahaniiaa.MyBits Go.Proofs.Ytenlmckahaniiaa.MyStr Go.Proofs.Ytenlmckahaniiaa.Oct
theorem rrtext_is (t : ByteArray) (hs : t.size < 140737488355000) (p : Rd) : Ev (fun k => emulatorref28_Reader_Text.f k t p.1 p.2) (mkS (rdT (bs t) p).1, t, (rdT (bs t) p).2.1, (rdT (bs t) p).2.2) := by
  unfold emulatorref28_Reader_Text.f rdT
  refine Ev.bind (rgetText_is t p.1 hs) ?_
  refine Ev.ite (fun h => ?_) (fun h => ?_)
  · rw [if_pos h]; exact Ev.now _
  · rw [if_neg h]; exact Ev.now _
theorem rrnum_is (t : ByteArray) (hs : t.size < 140737488355000) (p : Rd) (w : Int) : Ev (fun k => emulatorref28_Reader_Number.f k t p.1 p.2 w) ((rdN (bs t) p w).1, t, (rdN (bs t) p w).2.1, (rdN (bs t) p w).2.2) := by
  unfold emulatorref28_Reader_Number.f rdN
  refine Ev.bind (rget_is t p.1 w (by omega)) ?_
  refine Ev.ite (fun h => ?_) (fun h => ?_)
  · rw [if_pos h]; exact Ev.now _
  · rw [if_neg h]; exact Ev.now _
theorem rrsyms_l0 (t : ByteArray) (hs : t.size < 140737488355000) (n : Nat) : ∀ (p : Rd) (L : List S62) (x : Int), x = (L.length : Int) + n → L.length + n ≤ 65536 →
    Ev (fun k => emulatorref28_Reader_Symbols.l0 k L x t p.1 p.2) (L ++ (rdL (rdS (bs t)) n p).1, t, (rdL (rdS (bs t)) n p).2.1, (rdL (rdS (bs t)) n p).2.2) := by
  induction n with
  | zero =>
    intro p L x hx hn
    simp only [rdL, List.append_nil]
    exact Ev.step (f := fun k => emulatorref28_Reader_Symbols.j1 k L x false t p.1 p.2) (fun k => by rw [emulatorref28_Reader_Symbols.l0, if_neg (by omega)]) (Ev.step (f := fun _ => some (L, t, p.1, p.2)) (fun k => by rw [emulatorref28_Reader_Symbols.j1, if_neg (by decide)]) (Ev.now _))
  | succ n ih =>
    intro p L x hx hn
    by_cases hp : p.2 = true
    · rw [rdL_bad _ _ _ hp, List.append_nil]
      exact Ev.step (f := fun k => emulatorref28_Reader_Symbols.j1 k L x false t p.1 p.2) (fun k => by rw [emulatorref28_Reader_Symbols.l0, if_pos (by omega), hp, Bool.not_true]) (Ev.step (f := fun _ => some (L, t, p.1, p.2)) (fun k => by rw [emulatorref28_Reader_Symbols.j1, if_neg (by decide)]) (Ev.now _))
    · rw [Bool.not_eq_true] at hp
      have hI := ih (rdS (bs t) p).2 (L ++ [(rdS (bs t) p).1]) x (by rw [List.length_append, List.length_singleton]; omega) (by rw [List.length_append, List.length_singleton]; omega)
      have e1 : rdL (rdS (bs t)) (n + 1) p = ((rdS (bs t) p).1 :: (rdL (rdS (bs t)) n (rdS (bs t) p).2).1, (rdL (rdS (bs t)) n (rdS (bs t) p).2).2) := by
        rw [rdL, if_neg (by rw [hp]; exact Bool.false_ne_true)]
      rw [e1]
      simp only
      rw [List.append_cons]
      refine Ev.step (fun k => by rw [emulatorref28_Reader_Symbols.l0, if_pos (by omega), hp, Bool.not_false]) ?_
      refine Ev.step (fun k => by rw [emulatorref28_Reader_Symbols.j1, if_pos rfl]) ?_
      have r1 := rrtext_is t hs p
      rw [hp] at r1
      refine Ev.bind r1 ?_
      refine Ev.bind (rrnum_is t hs (rdT (bs t) p).2 1) ?_
      refine Ev.bind (rrnum_is t hs (rdN (bs t) (rdT (bs t) p).2 1).2 2) ?_
      refine Ev.bind (rrnum_is t hs (rdN (bs t) (rdN (bs t) (rdT (bs t) p).2 1).2 2).2 1) ?_
      refine Ev.congr (fun k => if_pos (by omega)) ?_
      exact hI
theorem rrsyms_is (t : ByteArray) (hs : t.size < 140737488355000) (p : Rd) : Ev (fun k => emulatorref28_Reader_Symbols.f k t p.1 p.2)
    ((rdL (rdS (bs t)) (rdN (bs t) p 2).1.toNat (rdN (bs t) p 2).2).1, t, (rdL (rdS (bs t)) (rdN (bs t) p 2).1.toNat (rdN (bs t) p 2).2).2.1, (rdL (rdS (bs t)) (rdN (bs t) p 2).1.toNat (rdN (bs t) p 2).2).2.2) := by
  obtain ⟨r0, r1⟩ := rdN2_range (bs t) p
  unfold emulatorref28_Reader_Symbols.f
  refine Ev.bind (rrnum_is t hs p 2) ?_
  have := rrsyms_l0 t hs (rdN (bs t) p 2).1.toNat (rdN (bs t) p 2).2 [] (rdN (bs t) p 2).1 (by simp; omega) (by simp; omega)
  rw [List.nil_append] at this
  exact this
theorem seal_inj {a b : List UInt8} (h : seal_ a = seal_ b) : a = b := by
  have hl := congrArg List.length h
  rw [seal_length, seal_length] at hl
  have := congrArg (List.take a.length) h
  unfold seal_ at this
  rwa [List.take_left, List.take_append_of_le_length (by omega), List.take_of_length_le (by omega)] at this
theorem rdec_end (s : ByteArray) (u : List UInt8) (hu : bs s = seal_ u) (t : ByteArray) (m : Md) (bad : Bool) (hf : Fine m.a0 m.l4 m.l5) (h4 : m.l4.length ≤ 1000000) (h5 : m.l5.length ≤ 1000000) (n a : Int) :
    Ev (fun k => emulatorref28_Decode.j1 k s n false t a bad m.a0 m.a1 m.a2 m.a3 m.l4 m.l5) (fin u m bad) := by
  unfold fin
  refine Ev.step (fun k => by rw [emulatorref28_Decode.j1, if_neg (by decide)]) ?_
  refine Ev.bind (rencode_is hf h4 h5) ?_
  unfold encR
  refine Ev.ite (fun h => ?_) (fun h => ?_)
  · rw [if_pos (.inl h)]; exact Ev.now _
  · by_cases h2 : m.check = 0
    · rw [if_pos h2]
      refine Ev.congr (fun k => if_pos rfl) ?_
      refine Ev.ite (fun h3 => ?_) (fun h3 => ?_)
      · rw [toList_bs, toList_bs, bs_mkS, hu] at h3
        rw [if_neg (by rintro (h' | h' | h'); exact h h'; exact h' h2; exact h' (seal_inj h3))]
        exact Ev.now _
      · rw [toList_bs, toList_bs, bs_mkS, hu] at h3
        rw [if_pos (.inr (.inr (fun e => h3 (by rw [e]))))]
        exact Ev.now _
    · rw [if_neg h2]
      refine Ev.congr (fun k => if_neg h2) ?_
      rw [if_pos (.inr (.inl h2))]; exact Ev.now _
theorem rdec_l0 (s : ByteArray) (u : List UInt8) (hu : bs s = seal_ u) (t : ByteArray) (hs : t.size < 140737488355000) (a0 a1 a2 : ByteArray) (a3 : Int) (l4 : List S62) (h0 : a0.size ≤ 9223372036854775806) (h4 : Fine62 l4) (hn4 : l4.length ≤ 1000000) (n : Nat) : ∀ (p : Rd) (L : List S43) (x : Int), Fine43 L → x = (L.length : Int) + n → L.length + n ≤ 65536 →
    Ev (fun k => emulatorref28_Decode.l0 k s x t p.1 p.2 a0 a1 a2 a3 l4 L) (fin u ⟨a0, a1, a2, a3, l4, L ++ (rdL (rdX (bs t)) n p).1⟩ (rdL (rdX (bs t)) n p).2.2) := by
  have hb := bs_length t
  induction n with
  | zero =>
    intro p L x hL hx hn
    have := rdec_end s u hu t ⟨a0, a1, a2, a3, l4, L⟩ p.2 ⟨h0, h4, hL⟩ hn4 (by show L.length ≤ _; omega) x p.1
    unfold rdL
    simp only [List.append_nil]
    exact Ev.step (fun k => by rw [emulatorref28_Decode.l0, if_neg (by omega)]) this
  | succ n ih =>
    intro p L x hL hx hn
    by_cases hp : p.2 = true
    · have := rdec_end s u hu t ⟨a0, a1, a2, a3, l4, L⟩ p.2 ⟨h0, h4, hL⟩ hn4 (by show L.length ≤ _; omega) x p.1
      rw [rdL_bad _ _ _ hp, List.append_nil]
      exact Ev.step (fun k => by rw [emulatorref28_Decode.l0, if_pos (by omega), hp, Bool.not_true]) (by rw [hp] at this ⊢; exact this)
    · rw [Bool.not_eq_true] at hp
      have hx2 : (rdX (bs t) p).1.f3.size ≤ 9223372036854775806 := by
        unfold rdX
        simp only
        rw [mkS_size]
        have := rdT_len (bs t) (rdN (bs t) (rdN (bs t) (rdN (bs t) p 1).2 2).2 1).2
        omega
      have hI := ih (rdX (bs t) p).2 (L ++ [(rdX (bs t) p).1]) x (fun s hs => by
        rcases List.mem_append.1 hs with h | h
        · exact hL s h
        · rw [List.mem_singleton.1 h]; exact hx2) (by rw [List.length_append, List.length_singleton]; omega) (by rw [List.length_append, List.length_singleton]; omega)
      have e1 : rdL (rdX (bs t)) (n + 1) p = ((rdX (bs t) p).1 :: (rdL (rdX (bs t)) n (rdX (bs t) p).2).1, (rdL (rdX (bs t)) n (rdX (bs t) p).2).2) := by
        rw [rdL, if_neg (by rw [hp]; exact Bool.false_ne_true)]
      rw [e1]
      simp only
      rw [List.append_cons]
      refine Ev.step (fun k => by rw [emulatorref28_Decode.l0, if_pos (by omega), hp, Bool.not_false]) ?_
      refine Ev.step (fun k => by rw [emulatorref28_Decode.j1, if_pos rfl]) ?_
      have r1 := rrnum_is t hs p 1
      rw [hp] at r1
      refine Ev.bind r1 ?_
      refine Ev.bind (rrnum_is t hs (rdN (bs t) p 1).2 2) ?_
      refine Ev.bind (rrnum_is t hs (rdN (bs t) (rdN (bs t) p 1).2 2).2 1) ?_
      refine Ev.bind (rrtext_is t hs (rdN (bs t) (rdN (bs t) (rdN (bs t) p 1).2 2).2 1).2) ?_
      refine Ev.bind (rrnum_is t hs (rdT (bs t) (rdN (bs t) (rdN (bs t) (rdN (bs t) p 1).2 2).2 1).2).2 1) ?_
      refine Ev.congr (fun k => if_pos (by omega)) ?_
      exact hI
theorem rdecode_is (s : ByteArray) (hs : s.size < 140737488355000) : Ev (fun k => emulatorref28_Decode.f k s) (tup (decR (bs s)).1 (decR (bs s)).2) := by
  unfold emulatorref28_Decode.f
  refine Ev.bind (ropen_is s hs) ?_
  have hlen : (mkS (openR (bs s)).1).size < 140737488355000 := by
    rw [mkS_size]
    unfold openR
    have := bs_length s
    split
    · simp
    · split
      · rw [List.length_take]; omega
      · simp
  refine Ev.ite (fun h => ?_) (fun h => ?_)
  · have h' : (openR (bs s)).2 = 0 := h
    have hu : bs s = seal_ (openR (bs s)).1 := by
      have ho : opened (bs s) := by
        unfold openR at h'
        split at h'
        · exact absurd h' (by decide)
        · rename_i h6
          split at h'
          · rename_i h7; exact ⟨by omega, h7⟩
          · exact absurd h' (by decide)
      rw [openR_opened _ ho]
      exact (opened_eq _ ho).symm
    have hd : tup (decR (bs s)).1 (decR (bs s)).2 = fin (openR (bs s)).1 (parseM (openR (bs s)).1).1 (parseM (openR (bs s)).1).2.2 := by
      unfold decR fin
      rw [if_pos h']
      split <;> rfl
    rw [hd]
    have hb : bs (mkS (openR (bs s)).1) = (openR (bs s)).1 := bs_mkS _
    generalize mkS (openR (bs s)).1 = t at hb hlen ⊢
    rw [← hb] at hu ⊢
    have hT := bs_length t
    refine Ev.bind (rrtext_is t hlen (4, false)) ?_
    refine Ev.bind (rrtext_is t hlen (rdT (bs t) (4, false)).2) ?_
    refine Ev.bind (rrtext_is t hlen (rdT (bs t) (rdT (bs t) (4, false)).2).2) ?_
    refine Ev.bind (rrnum_is t hlen (rdT (bs t) (rdT (bs t) (rdT (bs t) (4, false)).2).2).2 2) ?_
    obtain ⟨p4, hp4⟩ : ∃ p4, p4 = (rdN (bs t) (rdT (bs t) (rdT (bs t) (rdT (bs t) (4, false)).2).2).2 2).2 := ⟨_, rfl⟩
    obtain ⟨q0, q1⟩ := rdN2_range (bs t) p4
    have hs4 := rrsyms_is t hlen p4
    have hx4 : Fine62 (rdL (rdS (bs t)) (rdN (bs t) p4 2).1.toNat (rdN (bs t) p4 2).2).1 := by
      refine rdL_all (rdS (bs t)) (fun s => s.f0.size ≤ 9223372036854775806) (fun p => ?_) _ _
      unfold rdS
      simp only
      rw [mkS_size]
      have := rdT_len (bs t) p
      omega
    have hl4 := rdL_length (rdS (bs t)) (rdN (bs t) p4 2).1.toNat (rdN (bs t) p4 2).2
    have hl4' := Nat.le_trans hl4 (show (rdN (bs t) p4 2).1.toNat ≤ 1000000 by omega)
    rw [hp4] at hs4 hx4 hl4' q0 q1
    refine Ev.bind hs4 ?_
    refine Ev.bind (rrnum_is t hlen _ 2) ?_
    obtain ⟨w0, w1⟩ := rdN2_range (bs t) (rdL (rdS (bs t)) (rdN (bs t) (rdN (bs t) (rdT (bs t) (rdT (bs t) (rdT (bs t) (4, false)).2).2).2 2).2 2).1.toNat (rdN (bs t) (rdN (bs t) (rdT (bs t) (rdT (bs t) (rdT (bs t) (4, false)).2).2).2 2).2 2).2).2
    have := rdec_l0 s (bs t) hu t hlen (mkS (rdT (bs t) (4, false)).1) (mkS (rdT (bs t) (rdT (bs t) (4, false)).2).1) (mkS (rdT (bs t) (rdT (bs t) (rdT (bs t) (4, false)).2).2).1) (rdN (bs t) (rdT (bs t) (rdT (bs t) (rdT (bs t) (4, false)).2).2).2 2).1 _ (by rw [mkS_size]; have := rdT_len (bs t) (4, false); omega) hx4 hl4'
      (rdN (bs t) (rdL (rdS (bs t)) (rdN (bs t) (rdN (bs t) (rdT (bs t) (rdT (bs t) (rdT (bs t) (4, false)).2).2).2 2).2 2).1.toNat (rdN (bs t) (rdN (bs t) (rdT (bs t) (rdT (bs t) (rdT (bs t) (4, false)).2).2).2 2).2 2).2).2 2).1.toNat (rdN (bs t) (rdL (rdS (bs t)) (rdN (bs t) (rdN (bs t) (rdT (bs t) (rdT (bs t) (rdT (bs t) (4, false)).2).2).2 2).2 2).1.toNat (rdN (bs t) (rdN (bs t) (rdT (bs t) (rdT (bs t) (rdT (bs t) (4, false)).2).2).2 2).2 2).2).2 2).2 [] (rdN (bs t) (rdL (rdS (bs t)) (rdN (bs t) (rdN (bs t) (rdT (bs t) (rdT (bs t) (rdT (bs t) (4, false)).2).2).2 2).2 2).1.toNat (rdN (bs t) (rdN (bs t) (rdT (bs t) (rdT (bs t) (rdT (bs t) (4, false)).2).2).2 2).2 2).2).2 2).1 (fun s hs => by cases hs) (by simp only [List.length_nil]; omega) (by simp only [List.length_nil]; omega)
    rw [List.nil_append] at this
    exact this
  · have h' : ¬ (openR (bs s)).2 = 0 := h
    unfold decR
    rw [if_neg h']
    exact Ev.now _
end Go.Proofs.Ytenlmckahaniiaa.Obj
end
section
set_option linter.unusedVariables false
set_option linter.unusedSimpArgs false
namespace Go.Proofs.Ytenlmckahaniiaa.Obj
open Go Go.RowKit Go.Proofs.Ytenlmckahaniiaa.K Go.Proofs.YtenlmckahaniiaaW.PrintWords Go.Proofs.YtenlmckahaniiaaW.PrintMore Go.Proofs.Ytenlmckahaniiaa.MyStr Go.Proofs.Ytenlmckahaniiaa.Oct
theorem decR_len (s : List UInt8) : (decR s).1.l4.length ≤ 256 ∧ (decR s).1.l5.length ≤ 2048 := by
  rcases decR_cases s with ⟨_, h⟩ | ⟨_, h, _⟩
  · rw [h]; exact ⟨Nat.zero_le _, Nat.zero_le _⟩
  · have hV := valid_of h
    exact ⟨hV.n4, hV.n5⟩
end Go.Proofs.Ytenlmckahaniiaa.Obj
namespace Go.Proofs.Ytenlmckahaniiaa.Pure
open Go Go.RowKit Go.Proofs.Ytenlmckahaniiaa.K Go.Proofs.YtenlmckahaniiaaW.PrintWords Go.Proofs.YtenlmckahaniiaaW.PrintMore Go.Proofs.Ytenlmckahaniiaa.MyStr Go.Proofs.Ytenlmckahaniiaa.Oct Go.Proofs.Ytenlmckahaniiaa.Obj
theorem decodes_loop (xs : List ByteArray) (hx : ∀ x ∈ xs, x.size < 140737488355000) (hn : xs.length ≤ 1000000) (d : Nat) : ∀ i : Nat, i + d = xs.length → Ev (fun k => emulatorlaw28_ObjectDecodes.l0 k xs (xs.length : Int) (i : Int)) true := by
  induction d with
  | zero => exact fun i hi => Ev.step (fun k => by rw [emulatorlaw28_ObjectDecodes.l0, if_neg (by omega)]) alive_end
  | succ d ih =>
    intro i hi
    have hlt : i < xs.length := by omega
    have hsz := hx _ (List.getElem_mem hlt)
    refine Ev.step (fun k => by rw [emulatorlaw28_ObjectDecodes.l0, if_pos (by omega), if_pos (by omega), if_pos (by omega), rdOf_get xs i hlt]) ?_
    refine Ev.bind (decode_is _ hsz) (Ev.bind (rdecode_is _ hsz) ?_)
    obtain ⟨h4, h5⟩ := decR_len (bs xs[i])
    refine Ev.bind (same_is (decR (bs xs[i])).1 (by omega) (by omega)) ?_
    refine Ev.congr (fun k => by rw [if_pos rfl, if_pos rfl, Obj.i64_nat i (by omega)]) (ih (i + 1) (by omega))
theorem ObjectDecodes : emulatorlaw28_ObjectDecodes.Pure := by
  intro s hs
  refine Ev.rounds ?_
  unfold emulatorlaw28_ObjectDecodes.f
  refine Ev.ite (fun _ => alive_end) (fun h => ?_)
  refine Ev.bind (rseal_is s (by omega)) ?_
  have hz : (mkS (seal_ (bs s))).size ≤ 3004 := by rw [mkS_size, seal_length, bs_length]; omega
  have := decodes_loop [s, mkS (seal_ (bs s))] (fun x hx => by
    rcases List.mem_cons.1 hx with rfl | hx
    · omega
    · rw [List.mem_singleton.1 hx]; omega) (by simp) 2 0 (by simp)
  simpa using this
end Go.Proofs.Ytenlmckahaniiaa.Pure
end
