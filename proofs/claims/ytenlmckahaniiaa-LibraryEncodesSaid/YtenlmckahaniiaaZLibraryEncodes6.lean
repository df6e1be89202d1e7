/- Lemmas for the law LibraryEncodes: what its proof needs beyond what it shares. -/
import Derived.Test.YtenlmckahaniiaaZLibraryEncodes5
set_option linter.unusedVariables false
set_option linter.unusedSimpArgs false
set_option linter.unusedSectionVars false
section
namespace Go.Proofs.Ytenlmckahaniiaa.Obj
open Go Go.RowKit Go.Proofs.Ytenlmckahaniiaa.K Go.Proofs.YtW.P Go.Proofs.YtW.M Go.Proofs.Ytenlmckahaniiaa.MyBits Go.Proofs.Ytenlmckahaniiaa.MyStr Go.Proofs.Ytenlmckahaniiaa.Oct
theorem y4u (t : ByteArray) (hs : t.size < 140737488355000) (p : Rd) : Ev (fun k => zq5.f k t p.1 p.2) (mkS (rdT (bs t) p).1, t, (rdT (bs t) p).2.1, (rdT (bs t) p).2.2) := by
  unfold zq5.f rdT
  refine Ev.bind (rgetText_is t p.1 hs) ?_
  refine Ev.ite (fun h => ?_) (fun h => ?_)
  · rw [if_pos h]; exact Ev.now _
  · rw [if_neg h]; exact Ev.now _
theorem y4t (t : ByteArray) (hs : t.size < 140737488355000) (p : Rd) (w : Int) : Ev (fun k => zq4.f k t p.1 p.2 w) ((rdN (bs t) p w).1, t, (rdN (bs t) p w).2.1, (rdN (bs t) p w).2.2) := by
  unfold zq4.f rdN
  refine Ev.bind (rget_is t p.1 w (by omega)) ?_
  refine Ev.ite (fun h => ?_) (fun h => ?_)
  · rw [if_pos h]; exact Ev.now _
  · rw [if_neg h]; exact Ev.now _
theorem rrsyms_l0 (t : ByteArray) (hs : t.size < 140737488355000) (n : Nat) : ∀ (p : Rd) (L : List S62) (x : Int), x = (L.length : Int) + n → L.length + n ≤ 65536 →
    Ev (fun k => zq2.l0 k L x t p.1 p.2) (L ++ (rdL (rdS (bs t)) n p).1, t, (rdL (rdS (bs t)) n p).2.1, (rdL (rdS (bs t)) n p).2.2) := by
  induction n with
  | zero =>
    intro p L x hx hn
    simp only [rdL, List.append_nil]
    exact Ev.step (f := fun k => zq2.j1 k L x false t p.1 p.2) (fun k => by rw [zq2.l0, if_neg (by omega)]) (Ev.step (f := fun _ => some (L, t, p.1, p.2)) (fun k => by rw [zq2.j1, if_neg (by decide)]) (Ev.now _))
  | succ n ih =>
    intro p L x hx hn
    by_cases hp : p.2 = true
    · rw [rdL_bad _ _ _ hp, List.append_nil]
      exact Ev.step (f := fun k => zq2.j1 k L x false t p.1 p.2) (fun k => by rw [zq2.l0, if_pos (by omega), hp, Bool.not_true]) (Ev.step (f := fun _ => some (L, t, p.1, p.2)) (fun k => by rw [zq2.j1, if_neg (by decide)]) (Ev.now _))
    · rw [Bool.not_eq_true] at hp
      have hI := ih (rdS (bs t) p).2 (L ++ [(rdS (bs t) p).1]) x (by rw [List.length_append, List.length_singleton]; omega) (by rw [List.length_append, List.length_singleton]; omega)
      have e1 : rdL (rdS (bs t)) (n + 1) p = ((rdS (bs t) p).1 :: (rdL (rdS (bs t)) n (rdS (bs t) p).2).1, (rdL (rdS (bs t)) n (rdS (bs t) p).2).2) := by
        rw [rdL, if_neg (by rw [hp]; exact Bool.false_ne_true)]
      rw [e1]
      simp only
      rw [List.append_cons]
      refine Ev.step (fun k => by rw [zq2.l0, if_pos (by omega), hp, Bool.not_false]) ?_
      refine Ev.step (fun k => by rw [zq2.j1, if_pos rfl]) ?_
      have r1 := y4u t hs p
      rw [hp] at r1
      refine Ev.bind r1 ?_
      refine Ev.bind (y4t t hs (rdT (bs t) p).2 1) ?_
      refine Ev.bind (y4t t hs (rdN (bs t) (rdT (bs t) p).2 1).2 2) ?_
      refine Ev.bind (y4t t hs (rdN (bs t) (rdN (bs t) (rdT (bs t) p).2 1).2 2).2 1) ?_
      refine Ev.congr (fun k => if_pos (by omega)) ?_
      exact hI
theorem rrsyms_is (t : ByteArray) (hs : t.size < 140737488355000) (p : Rd) : Ev (fun k => zq2.f k t p.1 p.2)
    ((rdL (rdS (bs t)) (rdN (bs t) p 2).1.toNat (rdN (bs t) p 2).2).1, t, (rdL (rdS (bs t)) (rdN (bs t) p 2).1.toNat (rdN (bs t) p 2).2).2.1, (rdL (rdS (bs t)) (rdN (bs t) p 2).1.toNat (rdN (bs t) p 2).2).2.2) := by
  obtain ⟨r0, r1⟩ := y45 (bs t) p
  unfold zq2.f
  refine Ev.bind (y4t t hs p 2) ?_
  have := rrsyms_l0 t hs (rdN (bs t) p 2).1.toNat (rdN (bs t) p 2).2 [] (rdN (bs t) p 2).1 (by simp; omega) (by simp; omega)
  rw [List.nil_append] at this
  exact this
theorem seal_inj {a b : List UInt8} (h : seal_ a = seal_ b) : a = b := by
  have hl := congrArg List.length h
  rw [y50, y50] at hl
  have := congrArg (List.take a.length) h
  unfold seal_ at this
  rwa [List.take_left, List.take_append_of_le_length (by omega), List.take_of_length_le (by omega)] at this
theorem rdec_end (s : ByteArray) (u : List UInt8) (hu : bs s = seal_ u) (t : ByteArray) (m : Md) (bad : Bool) (hf : Fine m.a0 m.l4 m.l5) (h4 : m.l4.length ≤ 1000000) (h5 : m.l5.length ≤ 1000000) (n a : Int) :
    Ev (fun k => zqf.j1 k s n false t a bad m.a0 m.a1 m.a2 m.a3 m.l4 m.l5) (fin u m bad) := by
  unfold fin
  refine Ev.step (fun k => by rw [zqf.j1, if_neg (by decide)]) ?_
  refine Ev.bind (y4i hf h4 h5) ?_
  unfold encR
  refine Ev.ite (fun h => ?_) (fun h => ?_)
  · rw [if_pos (.inl h)]; exact Ev.now _
  · by_cases h2 : m.check = 0
    · rw [if_pos h2]
      refine Ev.congr (fun k => if_pos rfl) ?_
      refine Ev.ite (fun h3 => ?_) (fun h3 => ?_)
      · rw [y5i, y5i, y14, hu] at h3
        rw [if_neg (by rintro (h' | h' | h'); exact h h'; exact h' h2; exact h' (seal_inj h3))]
        exact Ev.now _
      · rw [y5i, y5i, y14, hu] at h3
        rw [if_pos (.inr (.inr (fun e => h3 (by rw [e]))))]
        exact Ev.now _
    · rw [if_neg h2]
      refine Ev.congr (fun k => if_neg h2) ?_
      rw [if_pos (.inr (.inl h2))]; exact Ev.now _
theorem rdec_l0 (s : ByteArray) (u : List UInt8) (hu : bs s = seal_ u) (t : ByteArray) (hs : t.size < 140737488355000) (a0 a1 a2 : ByteArray) (a3 : Int) (l4 : List S62) (h0 : a0.size ≤ 9223372036854775806) (h4 : Fine62 l4) (hn4 : l4.length ≤ 1000000) (n : Nat) : ∀ (p : Rd) (L : List S43) (x : Int), Fine43 L → x = (L.length : Int) + n → L.length + n ≤ 65536 →
    Ev (fun k => zqf.l0 k s x t p.1 p.2 a0 a1 a2 a3 l4 L) (fin u ⟨a0, a1, a2, a3, l4, L ++ (rdL (rdX (bs t)) n p).1⟩ (rdL (rdX (bs t)) n p).2.2) := by
  have hb := y0z t
  induction n with
  | zero =>
    intro p L x hL hx hn
    have := rdec_end s u hu t ⟨a0, a1, a2, a3, l4, L⟩ p.2 ⟨h0, h4, hL⟩ hn4 (by show L.length ≤ _; omega) x p.1
    unfold rdL
    simp only [List.append_nil]
    exact Ev.step (fun k => by rw [zqf.l0, if_neg (by omega)]) this
  | succ n ih =>
    intro p L x hL hx hn
    by_cases hp : p.2 = true
    · have := rdec_end s u hu t ⟨a0, a1, a2, a3, l4, L⟩ p.2 ⟨h0, h4, hL⟩ hn4 (by show L.length ≤ _; omega) x p.1
      rw [rdL_bad _ _ _ hp, List.append_nil]
      exact Ev.step (fun k => by rw [zqf.l0, if_pos (by omega), hp, Bool.not_true]) (by rw [hp] at this ⊢; exact this)
    · rw [Bool.not_eq_true] at hp
      have hx2 : (rdX (bs t) p).1.f3.size ≤ 9223372036854775806 := by
        unfold rdX
        simp only
        rw [y37]
        have := y47 (bs t) (rdN (bs t) (rdN (bs t) (rdN (bs t) p 1).2 2).2 1).2
        omega
      have hI := ih (rdX (bs t) p).2 (L ++ [(rdX (bs t) p).1]) x (fun s hs => by
        rcases List.mem_append.1 hs with h | h
        · exact hL s h
        · rw [List.mem_singleton.1 h]; exact hx2) (by rw [List.length_append, List.length_singleton]; omega) (by rw [List.length_append, List.length_singleton]; omega)
      have e1 : rdL (rdX (bs t)) (n + 1) p = ((rdX (bs t) p).1 :: (rdL (rdX (bs t)) n (rdX (bs t) p).2).1, (rdL (rdX (bs t)) n (rdX (bs t) p).2).2) := by
        rw [rdL, if_neg (by rw [hp]; exact Bool.false_ne_true)]
      rw [e1]
      simp only
      rw [List.append_cons]
      refine Ev.step (fun k => by rw [zqf.l0, if_pos (by omega), hp, Bool.not_false]) ?_
      refine Ev.step (fun k => by rw [zqf.j1, if_pos rfl]) ?_
      have r1 := y4t t hs p 1
      rw [hp] at r1
      refine Ev.bind r1 ?_
      refine Ev.bind (y4t t hs (rdN (bs t) p 1).2 2) ?_
      refine Ev.bind (y4t t hs (rdN (bs t) (rdN (bs t) p 1).2 2).2 1) ?_
      refine Ev.bind (y4u t hs (rdN (bs t) (rdN (bs t) (rdN (bs t) p 1).2 2).2 1).2) ?_
      refine Ev.bind (y4t t hs (rdT (bs t) (rdN (bs t) (rdN (bs t) (rdN (bs t) p 1).2 2).2 1).2).2 1) ?_
      refine Ev.congr (fun k => if_pos (by omega)) ?_
      exact hI
theorem rdecode_is (s : ByteArray) (hs : s.size < 140737488355000) : Ev (fun k => zqf.f k s) (tup (decR (bs s)).1 (decR (bs s)).2) := by
  unfold zqf.f
  refine Ev.bind (ropen_is s hs) ?_
  have hlen : (mkS (openR (bs s)).1).size < 140737488355000 := by
    rw [y37]
    unfold openR
    have := y0z s
    split
    · simp
    · split
      · rw [List.length_take]; omega
      · simp
  refine Ev.ite (fun h => ?_) (fun h => ?_)
  · have h' : (openR (bs s)).2 = 0 := h
    have hu : bs s = seal_ (openR (bs s)).1 := by
      have ho : opened (bs s) := by
        unfold openR at h'
        split at h'
        · exact absurd h' (by decide)
        · rename_i h6
          split at h'
          · rename_i h7; exact ⟨by omega, h7⟩
          · exact absurd h' (by decide)
      rw [y3m _ ho]
      exact (opened_eq _ ho).symm
    have hd : tup (decR (bs s)).1 (decR (bs s)).2 = fin (openR (bs s)).1 (parseM (openR (bs s)).1).1 (parseM (openR (bs s)).1).2.2 := by
      unfold decR fin
      rw [if_pos h']
      split <;> rfl
    rw [hd]
    have hb : bs (mkS (openR (bs s)).1) = (openR (bs s)).1 := y14 _
    generalize mkS (openR (bs s)).1 = t at hb hlen ⊢
    rw [← hb] at hu ⊢
    have hT := y0z t
    refine Ev.bind (y4u t hlen (4, false)) ?_
    refine Ev.bind (y4u t hlen (rdT (bs t) (4, false)).2) ?_
    refine Ev.bind (y4u t hlen (rdT (bs t) (rdT (bs t) (4, false)).2).2) ?_
    refine Ev.bind (y4t t hlen (rdT (bs t) (rdT (bs t) (rdT (bs t) (4, false)).2).2).2 2) ?_
    obtain ⟨p4, hp4⟩ : ∃ p4, p4 = (rdN (bs t) (rdT (bs t) (rdT (bs t) (rdT (bs t) (4, false)).2).2).2 2).2 := ⟨_, rfl⟩
    obtain ⟨q0, q1⟩ := y45 (bs t) p4
    have hs4 := rrsyms_is t hlen p4
    have hx4 : Fine62 (rdL (rdS (bs t)) (rdN (bs t) p4 2).1.toNat (rdN (bs t) p4 2).2).1 := by
      refine rdL_all (rdS (bs t)) (fun s => s.f0.size ≤ 9223372036854775806) (fun p => ?_) _ _
      unfold rdS
      simp only
      rw [y37]
      have := y47 (bs t) p
      omega
    have hl4 := rdL_length (rdS (bs t)) (rdN (bs t) p4 2).1.toNat (rdN (bs t) p4 2).2
    have hl4' := Nat.le_trans hl4 (show (rdN (bs t) p4 2).1.toNat ≤ 1000000 by omega)
    rw [hp4] at hs4 hx4 hl4' q0 q1
    refine Ev.bind hs4 ?_
    refine Ev.bind (y4t t hlen _ 2) ?_
    obtain ⟨w0, w1⟩ := y45 (bs t) (rdL (rdS (bs t)) (rdN (bs t) (rdN (bs t) (rdT (bs t) (rdT (bs t) (rdT (bs t) (4, false)).2).2).2 2).2 2).1.toNat (rdN (bs t) (rdN (bs t) (rdT (bs t) (rdT (bs t) (rdT (bs t) (4, false)).2).2).2 2).2 2).2).2
    have := rdec_l0 s (bs t) hu t hlen (mkS (rdT (bs t) (4, false)).1) (mkS (rdT (bs t) (rdT (bs t) (4, false)).2).1) (mkS (rdT (bs t) (rdT (bs t) (rdT (bs t) (4, false)).2).2).1) (rdN (bs t) (rdT (bs t) (rdT (bs t) (rdT (bs t) (4, false)).2).2).2 2).1 _ (by rw [y37]; have := y47 (bs t) (4, false); omega) hx4 hl4'
      (rdN (bs t) (rdL (rdS (bs t)) (rdN (bs t) (rdN (bs t) (rdT (bs t) (rdT (bs t) (rdT (bs t) (4, false)).2).2).2 2).2 2).1.toNat (rdN (bs t) (rdN (bs t) (rdT (bs t) (rdT (bs t) (rdT (bs t) (4, false)).2).2).2 2).2 2).2).2 2).1.toNat (rdN (bs t) (rdL (rdS (bs t)) (rdN (bs t) (rdN (bs t) (rdT (bs t) (rdT (bs t) (rdT (bs t) (4, false)).2).2).2 2).2 2).1.toNat (rdN (bs t) (rdN (bs t) (rdT (bs t) (rdT (bs t) (rdT (bs t) (4, false)).2).2).2 2).2 2).2).2 2).2 [] (rdN (bs t) (rdL (rdS (bs t)) (rdN (bs t) (rdN (bs t) (rdT (bs t) (rdT (bs t) (rdT (bs t) (4, false)).2).2).2 2).2 2).1.toNat (rdN (bs t) (rdN (bs t) (rdT (bs t) (rdT (bs t) (rdT (bs t) (4, false)).2).2).2 2).2 2).2).2 2).1 (fun s hs => by cases hs) (by simp only [List.length_nil]; omega) (by simp only [List.length_nil]; omega)
    rw [List.nil_append] at this
    exact this
  · have h' : ¬ (openR (bs s)).2 = 0 := h
    unfold decR
    rw [if_neg h']
    exact Ev.now _
end Go.Proofs.Ytenlmckahaniiaa.Obj
end
section
namespace Go.Proofs.Ytenlmckahaniiaa.Lb
open Go Go.RowKit Go.Proofs.Ytenlmckahaniiaa.K Go.Proofs.YtW.P Go.Proofs.YtW.M Go.Proofs.Ytenlmckahaniiaa.MyBits Go.Proofs.Ytenlmckahaniiaa.MyStr Go.Proofs.Ytenlmckahaniiaa.Oct Go.Proofs.Ytenlmckahaniiaa.Obj
theorem ok_of {x : S25} (h : chk x = 0) : OkM x := by
  have hV := y5m (m := md x) h
  have h4 : x.f4.length ≤ 256 := hV.n4
  have h5 : x.f5.length ≤ 2048 := hV.n5
  exact ⟨hV.fine, by omega, by omega⟩
theorem rparts_l0 (l : List S25) (hl : l.length ≤ 32) (hc : ∀ x ∈ l, chk x = 0) (d : Nat) : ∀ (i : Nat) (acc : List UInt8), i + d = l.length → acc.length + d * 200000008 ≤ 8000000000 →
    Ev (fun k => zqs.l0 k l (mkS acc) (i : Int)) (mkS (acc ++ pieces (l.drop i))) := by
  induction d with
  | zero =>
    intro i acc hi ha
    rw [List.drop_eq_nil_of_le (by omega), show pieces [] = [] from rfl, List.append_nil]
    exact Ev.step (f := fun _ => some (mkS acc)) (fun k => by rw [zqs.l0, if_neg (by omega)]) (Ev.now _)
  | succ d ih =>
    intro i acc hi ha
    have hlt : i < l.length := by omega
    have hk := hc l[i] (List.getElem_mem hlt)
    have hn := y1v hk
    obtain ⟨x, hxe⟩ : ∃ x, x = l[i] := ⟨_, rfl⟩
    have hd : pieces (l.drop i) = piece x ++ pieces (l.drop (i + 1)) := by rw [List.drop_eq_getElem_cons hlt, hxe]; unfold pieces; rw [List.flatMap_cons]
    rw [hd]
    have h2 := ih (i + 1) (acc ++ piece x) (by omega) (by rw [List.length_append, y3s, hxe]; omega)
    rw [List.append_assoc] at h2
    rw [← hxe] at hk hn
    have hx := ok_of hk
    refine Ev.step (f := fun k => (zqg.f k x.f0 x.f1 x.f2 x.f3 x.f4 x.f5).bind fun bt => ((zq14.f k (bt.1.size : Int) 4).bind fun t => (if (mkS acc).size + t.size ≤ 9223372036854775807 then (if (mkS acc ++ t).size + bt.1.size ≤ 9223372036854775807 then (zqs.l0 k l ((mkS acc ++ t) ++ bt.1) ((i + 1 : Nat) : Int)) else none) else none))) (fun k => by rw [zqs.l0, if_pos (by omega), if_pos (by omega), rd25 l i hlt, Obj.i64_nat i (by omega), hxe]) ?_
    have he : encR (md x) = (encM x, 0) := by unfold encR; rw [if_pos (show (md x).check = 0 from hk)]; rfl
    refine Ev.bind (Ev.eq (r' := (mkS (encM x), 0)) (y4i (m := md x) hx.fine hx.n4 hx.n5) (by rw [he])) ?_
    refine Ev.bind (y4s _ _ (by show ((mkS (encM x)).size : Int) ≤ _; rw [y37]; omega)) ?_
    show Ev (fun k => if (mkS acc).size + (mkS (le (mx ((mkS (encM x)).size : Int) 0) (width 4))).size ≤ 9223372036854775807 then (if (mkS acc ++ mkS (le (mx ((mkS (encM x)).size : Int) 0) (width 4))).size + (mkS (encM x)).size ≤ 9223372036854775807 then _ else _) else _) _
    rw [y3a, width4, y37 (encM x), y36, y36]
    refine Ev.congr (fun k => by rw [y37, y37, y2y, if_pos (by omega), if_pos (by rw [y37, List.length_append, y2y]; omega)]) ?_
    rw [List.append_assoc]
    exact h2
theorem rparts_is (l : List S25) (hl : l.length ≤ 32) (hc : ∀ x ∈ l, chk x = 0) : Ev (fun k => zqs.f k l) (mkS (lbody l)) := by
  unfold zqs.f
  refine Ev.bind (y4s _ _ (by omega)) ?_
  rw [y3a, width2]
  refine Ev.congr (fun k => if_pos (by rw [y37, y2y]; omega)) ?_
  have h1 := rparts_l0 l hl hc l.length 0 (hdr l) (by omega) (by unfold hdr; rw [List.length_append, y2y]; simp only [List.length_cons, List.length_nil]; omega)
  rw [List.drop_zero] at h1
  have e : (⟨#[76, 73, 66, 49]⟩ : ByteArray) ++ mkS (le (l.length : Int) 2) = mkS (hdr l) := y0y (by rw [y0w]; rfl)
  rw [e]
  exact h1
theorem rlenc_is (l : List S25) (hs : ∀ x ∈ l, SmM x) (h : libC l = 0) : Ev (fun k => zqj.f k l) (mkS (seal_ (lbody l)), 0) := by
  obtain ⟨hl, hc⟩ := libC_ok h
  have hP := y3t l hc
  unfold zqj.f
  refine Ev.bind (h ▸ y4m l (by omega) hs) ?_
  refine Ev.congr (fun k => if_pos rfl) ?_
  refine Ev.bind (rparts_is l hl hc) ?_
  have h1 := rseal_is (mkS (lbody l)) (by rw [y37]; unfold lbody hdr; rw [List.length_append, List.length_append, y2y]; simp only [List.length_cons, List.length_nil]; omega)
  rw [y14] at h1
  exact Ev.bind h1 (Ev.now _)
theorem rlenc_err (l : List S25) (hl : l.length ≤ 1000000) (hs : ∀ x ∈ l, SmM x) (h : libC l ≠ 0) : Ev (fun k => zqj.f k l) (nB_, libC l) := by
  unfold zqj.f
  refine Ev.bind (y4m l hl hs) ?_
  exact Ev.congr (fun k => if_neg h) (Ev.now _)
def mdS (m : Md) : S25 := ⟨m.a0, m.a1, m.a2, m.a3, m.l4, m.l5⟩
def pc (t : List UInt8) (a : Int) : List UInt8 := (t.drop (a + 4).toNat).take (getR t a 4).1.toNat
def rdMs (t : List UInt8) : Nat → Int → List S25 → List S25 × Bool
  | 0, a, acc => (acc, a == (t.length : Int))
  | n + 1, a, acc => if (getR t a 4).2.2 = 0 then (if (getR t a 4).1 > t.length - (a + 4) then ([], false) else if (decR (pc t a)).2 = 0 then rdMs t n (a + 4 + (getR t a 4).1) (acc ++ [mdS (decR (pc t a)).1]) else ([], false)) else ([], false)
theorem y26 (l : List UInt8) (a : Int) (h : (getR l a 4).2.2 = 0) : 0 ≤ (getR l a 4).1 ∧ (getR l a 4).1 < 4294967296 := by
  obtain ⟨_, _, h3, h4, h5⟩ := y27 l a 4 h
  rw [h5]
  have := y3i ((l.drop a.toNat).take (4 : Int).toNat)
  rw [List.length_take, List.length_drop, show min (4 : Int).toNat (l.length - a.toNat) = 4 by omega] at this
  exact ⟨this.1, by have h6 := this.2; rw [show (256 : Int) ^ 4 = 4294967296 by decide] at h6; exact h6⟩
theorem mods_is (t : ByteArray) (ht : t.size ≤ 1000000000) (n : Int) (hn : n ≤ 65536) (d : Nat) : ∀ (i : Nat) (a : Int) (acc : List S25), (i : Int) + d = n → acc.length + d ≤ 65536 →
    Ev (fun k => zq1b.l0 k t a acc n (i : Int)) (rdMs (bs t) d a acc) := by
  induction d with
  | zero =>
    intro i a acc hi ha
    refine Ev.step (f := fun _ => some (acc, (a == ((bs t).length : Int)))) (fun k => by rw [zq1b.l0, if_neg (by omega), y0z]) (Ev.now _)
  | succ d ih =>
    intro i a acc hi ha
    unfold rdMs
    refine Ev.step (f := fun k => (zq1v.f k t a 4).bind fun bt => (if bt.2.2 = 0 then (zq1b.j1 k t acc bt.1 bt.2.1 n (i : Int) (decide (bt.1 > (wrap64 ((t.size : Int) - bt.2.1))))) else (zq1b.j1 k t acc bt.1 bt.2.1 n (i : Int) true))) (fun k => by rw [zq1b.l0, if_pos (by omega)]) ?_
    refine Ev.bind (y2c t a 4 (by omega)) ?_
    by_cases h0 : (getR (bs t) a 4).2.2 = 0
    · obtain ⟨_, _, h3, h4, h5⟩ := y27 (bs t) a 4 h0
      have hr := y26 (bs t) a h0
      have h6 : (getR (bs t) a 4).2.1 = a + 4 := by rw [h5]
      rw [y0z] at h4
      refine Ev.congr (fun k => if_pos h0) ?_
      rw [if_pos h0, h6, show wrap64 ((t.size : Int) - (a + 4)) = (t.size : Int) - (a + 4) by unfold wrap64; omega, y0z]
      by_cases h1 : (getR (bs t) a 4).1 > (t.size : Int) - (a + 4)
      · rw [if_pos h1, decide_eq_true h1]
        exact Ev.step (f := fun _ => some (([] : List S25), false)) (fun k => by rw [zq1b.j1, if_pos rfl]) (Ev.now _)
      · rw [if_neg h1, decide_eq_false h1]
        have hw : wrap64 (a + 4 + (getR (bs t) a 4).1) = a + 4 + (getR (bs t) a 4).1 := by unfold wrap64; omega
        have hex : t.extract (a + 4).toNat (a + 4 + (getR (bs t) a 4).1).toNat = mkS (pc (bs t) a) := by
          rw [y21]; congr 1; unfold pc; rw [List.drop_take]; congr 1; omega
        refine Ev.step (f := fun k => (zq1h.f k (mkS (pc (bs t) a))).bind fun bt => (if bt.2.2.2.2.2.2 = 0 then (if acc.length < 1353245080339 then (zq1b.l0 k t (a + 4 + (getR (bs t) a 4).1) (acc ++ [(⟨bt.1, bt.2.1, bt.2.2.1, bt.2.2.2.1, bt.2.2.2.2.1, bt.2.2.2.2.2.1⟩ : S25)]) n ((i + 1 : Nat) : Int)) else none) else some (([] : List (S25)), false))) (fun k => ?_) ?_
        · rw [zq1b.j1, if_neg (by decide), if_pos (by omega), hw, if_pos (by omega), if_pos (by omega), hex, Obj.i64_nat i (by omega)]
        have hpl : (pc (bs t) a).length ≤ t.size := by unfold pc; rw [List.length_take, List.length_drop, y0z]; omega
        have hdec := decode_is (mkS (pc (bs t) a)) (by rw [y37]; omega)
        rw [y14] at hdec
        refine Ev.bind hdec ?_
        by_cases h2 : (decR (pc (bs t) a)).2 = 0
        · rw [if_pos h2]
          refine Ev.congr (fun k => by rw [if_pos (show (tup (decR (pc (bs t) a)).1 (decR (pc (bs t) a)).2).2.2.2.2.2.2 = 0 from h2), if_pos (by omega)]) ?_
          exact ih (i + 1) _ _ (by omega) (by rw [List.length_append]; simp only [List.length_cons, List.length_nil]; omega)
        · rw [if_neg h2]
          exact Ev.congr (fun k => if_neg (show ¬ (tup (decR (pc (bs t) a)).1 (decR (pc (bs t) a)).2).2.2.2.2.2.2 = 0 from h2)) (Ev.now _)
    · rw [if_neg h0]
      refine Ev.congr (fun k => if_neg h0) ?_
      exact Ev.step (f := fun _ => some (([] : List S25), false)) (fun k => by rw [zq1b.j1, if_pos rfl]) (Ev.now _)
theorem rmods_is (t : ByteArray) (ht : t.size ≤ 1000000000) (n : Int) (hn : n ≤ 65536) (d : Nat) : ∀ (i : Nat) (a : Int) (acc : List S25), (i : Int) + d = n → acc.length + d ≤ 65536 →
    Ev (fun k => zq10.l0 k t n a acc (i : Int)) (rdMs (bs t) d a acc) := by
  induction d with
  | zero =>
    intro i a acc hi ha
    refine Ev.step (f := fun _ => some (acc, (a == ((bs t).length : Int)))) (fun k => by rw [zq10.l0, if_neg (by omega), y0z]) (Ev.now _)
  | succ d ih =>
    intro i a acc hi ha
    unfold rdMs
    refine Ev.step (f := fun k => (zq13.f k t a 4).bind fun bt => (if bt.2.2 = 0 then (zq10.j2 k t n acc (i : Int) bt.1 bt.2.1 (decide (bt.1 > (wrap64 ((t.size : Int) - bt.2.1))))) else (zq10.j2 k t n acc (i : Int) bt.1 bt.2.1 true))) (fun k => by rw [zq10.l0, if_pos (by omega)]) ?_
    refine Ev.bind (rget_is t a 4 (by omega)) ?_
    by_cases h0 : (getR (bs t) a 4).2.2 = 0
    · obtain ⟨_, _, h3, h4, h5⟩ := y27 (bs t) a 4 h0
      have hr := y26 (bs t) a h0
      have h6 : (getR (bs t) a 4).2.1 = a + 4 := by rw [h5]
      rw [y0z] at h4
      refine Ev.congr (fun k => if_pos h0) ?_
      rw [if_pos h0, h6, show wrap64 ((t.size : Int) - (a + 4)) = (t.size : Int) - (a + 4) by unfold wrap64; omega, y0z]
      by_cases h1 : (getR (bs t) a 4).1 > (t.size : Int) - (a + 4)
      · rw [if_pos h1, decide_eq_true h1]
        exact Ev.step (f := fun _ => some (([] : List S25), false)) (fun k => by rw [zq10.j2, if_pos rfl]) (Ev.now _)
      · rw [if_neg h1, decide_eq_false h1]
        have hw : wrap64 (a + 4 + (getR (bs t) a 4).1) = a + 4 + (getR (bs t) a 4).1 := by unfold wrap64; omega
        have hex : t.extract (a + 4).toNat (a + 4 + (getR (bs t) a 4).1).toNat = mkS (pc (bs t) a) := by
          rw [y21]; congr 1; unfold pc; rw [List.drop_take]; congr 1; omega
        refine Ev.step (f := fun k => (zqf.f k (mkS (pc (bs t) a))).bind fun bt => (if bt.2.2.2.2.2.2 = 0 then (if acc.length < 1353245080339 then (zq10.l0 k t n (a + 4 + (getR (bs t) a 4).1) (acc ++ [(⟨bt.1, bt.2.1, bt.2.2.1, bt.2.2.2.1, bt.2.2.2.2.1, bt.2.2.2.2.2.1⟩ : S25)]) ((i + 1 : Nat) : Int)) else none) else some (([] : List (S25)), false))) (fun k => ?_) ?_
        · rw [zq10.j2, if_neg (by decide), if_pos (by omega), hw, if_pos (by omega), if_pos (by omega), hex, Obj.i64_nat i (by omega)]
        have hpl : (pc (bs t) a).length ≤ t.size := by unfold pc; rw [List.length_take, List.length_drop, y0z]; omega
        have hdec := rdecode_is (mkS (pc (bs t) a)) (by rw [y37]; omega)
        rw [y14] at hdec
        refine Ev.bind hdec ?_
        by_cases h2 : (decR (pc (bs t) a)).2 = 0
        · rw [if_pos h2]
          refine Ev.congr (fun k => by rw [if_pos (show (tup (decR (pc (bs t) a)).1 (decR (pc (bs t) a)).2).2.2.2.2.2.2 = 0 from h2), if_pos (by omega)]) ?_
          exact ih (i + 1) _ _ (by omega) (by rw [List.length_append]; simp only [List.length_cons, List.length_nil]; omega)
        · rw [if_neg h2]
          exact Ev.congr (fun k => if_neg (show ¬ (tup (decR (pc (bs t) a)).1 (decR (pc (bs t) a)).2).2.2.2.2.2.2 = 0 from h2)) (Ev.now _)
    · rw [if_neg h0]
      refine Ev.congr (fun k => if_neg h0) ?_
      exact Ev.step (f := fun _ => some (([] : List S25), false)) (fun k => by rw [zq10.j2, if_pos rfl]) (Ev.now _)
theorem rdMs_ok (t : List UInt8) (d : Nat) : ∀ (a : Int) (acc : List S25), 0 ≤ a → (rdMs t d a acc).2 = true → ∃ M : List S25, (rdMs t d a acc).1 = acc ++ M ∧ M.length = d ∧ (∀ x ∈ M, chk x = 0) ∧ t.drop a.toNat = pieces M := by
  induction d with
  | zero =>
    intro a acc ha h
    have h1 : a = (t.length : Int) := by simpa [rdMs] using h
    exact ⟨[], by simp [rdMs], rfl, (fun x hx => by cases hx), by rw [List.drop_eq_nil_of_le (by omega)]; rfl⟩
  | succ d ih =>
    intro a acc ha h
    unfold rdMs at h ⊢
    by_cases h0 : (getR t a 4).2.2 = 0
    · rw [if_pos h0] at h ⊢
      by_cases h1 : (getR t a 4).1 > t.length - (a + 4)
      · rw [if_pos h1] at h; cases h
      · rw [if_neg h1] at h ⊢
        by_cases h2 : (decR (pc t a)).2 = 0
        · rw [if_pos h2] at h ⊢
          obtain ⟨_, _, h3, h4, h5⟩ := y27 t a 4 h0
          have hr := y26 t a h0
          obtain ⟨M, hM, hl, hc, hd⟩ := ih _ _ (by omega) h
          refine ⟨mdS (decR (pc t a)).1 :: M, by rw [hM, List.append_assoc]; rfl, by rw [List.length_cons, hl], ?_, ?_⟩
          · rcases y1q (pc t a) with ⟨hx, _⟩ | ⟨_, hx, _, _⟩
            · exact absurd h2 hx
            · intro x hx'
              rcases List.mem_cons.1 hx' with rfl | hx'
              · exact hx
              · exact hc x hx'
          · rcases y1q (pc t a) with ⟨hx, _⟩ | ⟨_, _, hx, _⟩
            · exact absurd h2 hx
            · have hp : pc t a = encM (mdS (decR (pc t a)).1) := hx
              have hpl : (pc t a).length = (getR t a 4).1.toNat := by unfold pc; rw [List.length_take, List.length_drop]; omega
              have h41 : (t.drop a.toNat).take 4 = le (((encM (mdS (decR (pc t a)).1)).length : Nat) : Int) 4 := by
                rw [← hp, hpl]
                have h7 : (getR t a 4).1 = num ((t.drop a.toNat).take 4) := by rw [h5]; rfl
                have h8 : ((t.drop a.toNat).take 4).length = 4 := by rw [List.length_take, List.length_drop]; omega
                have h9 := le_num ((t.drop a.toNat).take 4)
                rw [h8, ← h7] at h9
                rw [show (((getR t a 4).1.toNat : Nat) : Int) = (getR t a 4).1 by omega, h9]
              have h10 : t.drop a.toNat = (t.drop a.toNat).take 4 ++ (pc t a ++ t.drop (a + 4 + (getR t a 4).1).toNat) := by
                conv => lhs; rw [← List.take_append_drop 4 (t.drop a.toNat)]
                rw [List.drop_drop, show a.toNat + 4 = (a + 4).toNat by omega]
                congr 1
                unfold pc
                conv => lhs; rw [← List.take_append_drop (getR t a 4).1.toNat (t.drop (a + 4).toNat)]
                rw [List.drop_drop, show (a + 4).toNat + (getR t a 4).1.toNat = (a + 4 + (getR t a 4).1).toNat by omega]
              rw [h10, hd, h41]
              unfold pieces
              rw [List.flatMap_cons]
              unfold piece
              rw [List.append_assoc, ← hp]
        · rw [if_neg h2] at h; cases h
    · rw [if_neg h0] at h; cases h
theorem getR_hd (t : List UInt8) (h : 6 ≤ t.length) : getR t 4 2 = (num ((t.drop 4).take 2), 6, 0) := by
  unfold getR
  rw [if_neg (by omega), if_neg (by omega)]
  rfl
theorem ldec_both (s : ByteArray) (hs : s.size ≤ 1000000) : ∃ (L : List S25) (e : Int), Ev (fun k => zq1c.f k s) (L, e) ∧ Ev (fun k => zqi.f k s) (L, e) ∧ L.length ≤ 32 ∧ ∀ x ∈ L, x.f4.length ≤ 1000000 ∧ x.f5.length ≤ 1000000 := by
  have hop := open_is s (by omega)
  have rop := ropen_is s (by omega)
  by_cases h0 : (openR (bs s)).2 = 0
  · obtain ⟨t, ht⟩ : ∃ t, t = (openR (bs s)).1 := ⟨_, rfl⟩
    have htl : t.length ≤ s.size := by
      rw [ht]; unfold openR
      split
      · simp
      · split
        · simp only [List.length_take, y0z]; omega
        · simp
    rw [h0, ← ht] at hop rop
    unfold zq1c.f zqi.f
    suffices H : ∃ (L : List S25) (e : Int), Ev (fun k => (if ((mkS t).size : Int) < 6 then (zq1c.j0 k (mkS t) true) else (if 0 ≤ 4 then (if 4 ≤ ((mkS t).size : Int) then (zq1c.j0 k (mkS t) (((mkS t).extract 0 4).toList != ([76, 73, 66, 49] : List UInt8))) else (none)) else (none)))) (L, e) ∧ Ev (fun k => ((zq10.f k (mkS t)).bind fun bt979 => (if bt979.2 = true then ((zqq.f k bt979.1).bind fun t983 => (if t983 = 0 then ((zqs.f k bt979.1).bind fun t984 => (if t984.toList = (mkS t).toList then (some (bt979.1, 0)) else (some (([] : List (S25)), 9)))) else (some (([] : List (S25)), 9)))) else (some (([] : List (S25)), 9))))) (L, e) ∧ L.length ≤ 32 ∧ ∀ x ∈ L, x.f4.length ≤ 1000000 ∧ x.f5.length ≤ 1000000 by
      obtain ⟨L, e, h1, h2, h3⟩ := H
      exact ⟨L, e, Ev.bind hop (Ev.congr (fun k => if_pos rfl) h1), Ev.bind rop (Ev.congr (fun k => if_pos rfl) h2), h3⟩
    have hj : Ev (fun k => zq1c.j0 k (mkS t) true) (([] : List S25), 9) := Ev.step (f := fun _ => some (([] : List S25), 9)) (fun k => by rw [zq1c.j0, if_pos rfl]) (Ev.now _)
    have rj : Ev (fun k => zq10.j0 k (mkS t) true) (([] : List S25), false) := Ev.step (f := fun _ => some (([] : List S25), false)) (fun k => by rw [zq10.j0, if_pos rfl]) (Ev.now _)
    unfold zq10.f
    by_cases h6 : ((mkS t).size : Int) < 6
    · exact ⟨[], 9, Ev.congr (fun k => if_pos h6) hj, Ev.bind (Ev.congr (fun k => if_pos h6) rj) (Ev.congr (fun k => if_neg (by decide)) (Ev.now _)), by simp, fun x hx => by cases hx⟩
    · have h6' : 6 ≤ t.length := by rw [y37] at h6; omega
      have hex : ((mkS t).extract 0 4).toList = t.take 4 := by rw [y5i, y0x, y14]; rfl
      by_cases hm : t.take 4 = [76, 73, 66, 49]
      · have hne : (((mkS t).extract 0 4).toList != ([76, 73, 66, 49] : List UInt8)) = false := by rw [hex, hm]; decide
        have hg := getR_hd t h6'
        have hr := y25 t 4 (by rw [hg])
        rw [hg] at hr
        obtain ⟨n, hn⟩ : ∃ n : Nat, (n : Int) = num ((t.drop 4).take 2) := ⟨(num ((t.drop 4).take 2)).toNat, by have := hr.1; simp only at this; omega⟩
        rw [← hn] at hg hr
        simp only at hr
        have hget := y2c (mkS t) 4 2 (by rw [y37]; omega)
        have rget := rget_is (mkS t) 4 2 (by rw [y37]; omega)
        rw [y14, hg] at hget rget
        have hM := mods_is (mkS t) (by rw [y37]; omega) (n : Int) (by omega) n 0 6 [] (by omega) (by simp only [List.length_nil]; omega)
        have rM := rmods_is (mkS t) (by rw [y37]; omega) (n : Int) (by omega) n 0 6 [] (by omega) (by simp only [List.length_nil]; omega)
        rw [y14] at hM rM
        have rF : Ev (fun k => if ((mkS t).size : Int) < 6 then (zq10.j0 k (mkS t) true) else (if 0 ≤ 4 then (if 4 ≤ ((mkS t).size : Int) then (zq10.j0 k (mkS t) (((mkS t).extract 0 4).toList != ([76, 73, 66, 49] : List UInt8))) else (none)) else (none))) (rdMs t n 6 []) := by
          refine Ev.congr (fun k => by rw [if_neg h6, if_pos (by decide), if_pos (by omega), hne]) ?_
          refine Ev.step (f := fun k => (zq13.f k (mkS t) 4 2).bind fun bt => zq10.l0 k (mkS t) bt.1 bt.2.1 ([] : List S25) 0) (fun k => by rw [zq10.j0, if_neg (by decide)]) ?_
          exact Ev.bind rget rM
        have hF : ∀ r, Ev (fun k => zq1c.j1 k (mkS t) (n : Int) 6 (decide ((n : Int) > 32))) r → Ev (fun k => (if ((mkS t).size : Int) < 6 then (zq1c.j0 k (mkS t) true) else (if 0 ≤ 4 then (if 4 ≤ ((mkS t).size : Int) then (zq1c.j0 k (mkS t) (((mkS t).extract 0 4).toList != ([76, 73, 66, 49] : List UInt8))) else (none)) else (none)))) r := by
          intro r hr
          refine Ev.congr (fun k => by rw [if_neg h6, if_pos (by decide), if_pos (by omega), hne]) ?_
          refine Ev.step (f := fun k => (zq1v.f k (mkS t) 4 2).bind fun bt => (if bt.2.2 = 0 then (zq1c.j1 k (mkS t) bt.1 bt.2.1 (decide (bt.1 > 32))) else (zq1c.j1 k (mkS t) bt.1 bt.2.1 true))) (fun k => by rw [zq1c.j0, if_neg (by decide)]) ?_
          exact Ev.bind hget (Ev.congr (fun k => if_pos rfl) hr)
        by_cases h2 : (rdMs t n 6 []).2 = true
        · obtain ⟨M, hML, hMn, hMc, hMd⟩ := rdMs_ok t n 6 [] (by omega) h2
          rw [List.nil_append] at hML
          have hok : ∀ x ∈ M, OkM x := fun x hx => ok_of (hMc x hx)
          have rC := y4n M (by omega) hok
          by_cases hC : libC M = 0
          · obtain ⟨hM32, _⟩ := libC_ok hC
            have hb : lbody M = t := by
              unfold lbody hdr
              rw [← hMd, hMn, hn]
              have h11 : ((t.drop 4).take 2).length = 2 := by rw [List.length_take, List.length_drop]; omega
              have h12 := le_num ((t.drop 4).take 2)
              rw [h11] at h12
              rw [h12, ← hm]
              conv => rhs; rw [← List.take_append_drop 4 t, ← List.take_append_drop 2 (t.drop 4), List.drop_drop]
              rw [List.append_assoc]
              rfl
            refine ⟨M, 0, hF _ ?_, Ev.bind rF ?_, hM32, fun x hx => ⟨(hok x hx).n4, (hok x hx).n5⟩⟩
            · rw [decide_eq_false (by omega)]
              refine Ev.step (f := fun k => (zq1b.f k (mkS t) 6 (n : Int)).bind fun bt => (if bt.2 = true then ((zq1g.f k bt.1).bind fun t => (if t = 0 then (some (bt.1, 0)) else (some (([] : List (S25)), 9)))) else (some (([] : List (S25)), 9)))) (fun k => by rw [zq1c.j1, if_neg (by decide)]) ?_
              refine Ev.bind (show Ev (fun k => zq1b.f k (mkS t) 6 (n : Int)) (rdMs t n 6 []) from hM) ?_
              refine Ev.congr (fun k => if_pos h2) ?_
              rw [hML]
              refine Ev.bind (hC ▸ y31 M hok) ?_
              exact Ev.congr (fun k => if_pos rfl) (Ev.now _)
            · refine Ev.congr (fun k => if_pos h2) ?_
              rw [hML]
              refine Ev.bind (hC ▸ rC) ?_
              refine Ev.congr (fun k => if_pos rfl) ?_
              refine Ev.bind (rparts_is M hM32 hMc) ?_
              rw [hb]
              exact Ev.congr (fun k => if_pos rfl) (Ev.now _)
          · refine ⟨[], 9, hF _ ?_, Ev.bind rF ?_, by simp, fun x hx => by cases hx⟩
            · by_cases h32 : (n : Int) > 32
              · rw [decide_eq_true h32]
                exact Ev.step (f := fun _ => some (([] : List S25), 9)) (fun k => by rw [zq1c.j1, if_pos rfl]) (Ev.now _)
              · rw [decide_eq_false h32]
                refine Ev.step (f := fun k => (zq1b.f k (mkS t) 6 (n : Int)).bind fun bt => (if bt.2 = true then ((zq1g.f k bt.1).bind fun t => (if t = 0 then (some (bt.1, 0)) else (some (([] : List (S25)), 9)))) else (some (([] : List (S25)), 9)))) (fun k => by rw [zq1c.j1, if_neg (by decide)]) ?_
                refine Ev.bind (show Ev (fun k => zq1b.f k (mkS t) 6 (n : Int)) (rdMs t n 6 []) from hM) ?_
                refine Ev.congr (fun k => if_pos h2) ?_
                rw [hML]
                refine Ev.bind (y31 M hok) ?_
                exact Ev.congr (fun k => if_neg hC) (Ev.now _)
            · refine Ev.congr (fun k => if_pos h2) ?_
              rw [hML]
              refine Ev.bind rC ?_
              exact Ev.congr (fun k => if_neg hC) (Ev.now _)
        · refine ⟨[], 9, hF _ ?_, Ev.bind rF (Ev.congr (fun k => if_neg h2) (Ev.now _)), by simp, fun x hx => by cases hx⟩
          by_cases h32 : (n : Int) > 32
          · rw [decide_eq_true h32]
            exact Ev.step (f := fun _ => some (([] : List S25), 9)) (fun k => by rw [zq1c.j1, if_pos rfl]) (Ev.now _)
          · rw [decide_eq_false h32]
            refine Ev.step (f := fun k => (zq1b.f k (mkS t) 6 (n : Int)).bind fun bt => (if bt.2 = true then ((zq1g.f k bt.1).bind fun t => (if t = 0 then (some (bt.1, 0)) else (some (([] : List (S25)), 9)))) else (some (([] : List (S25)), 9)))) (fun k => by rw [zq1c.j1, if_neg (by decide)]) ?_
            exact Ev.bind (show Ev (fun k => zq1b.f k (mkS t) 6 (n : Int)) (rdMs t n 6 []) from hM) (Ev.congr (fun k => if_neg h2) (Ev.now _))
      · have hne : (((mkS t).extract 0 4).toList != ([76, 73, 66, 49] : List UInt8)) = true := by rw [hex]; exact bne_iff_ne.mpr hm
        refine ⟨[], 9, Ev.congr (fun k => by rw [if_neg h6, if_pos (by decide), if_pos (by omega), hne]) hj, Ev.bind (Ev.congr (fun k => by rw [if_neg h6, if_pos (by decide), if_pos (by omega), hne]) rj) (Ev.congr (fun k => if_neg (by decide)) (Ev.now _)), by simp, fun x hx => by cases hx⟩
  · refine ⟨[], (openR (bs s)).2, ?_, ?_, by simp, fun x hx => by cases hx⟩
    · unfold zq1c.f; exact Ev.bind hop (Ev.congr (fun k => if_neg h0) (Ev.now _))
    · unfold zqi.f; exact Ev.bind rop (Ev.congr (fun k => if_neg h0) (Ev.now _))
end Go.Proofs.Ytenlmckahaniiaa.Lb
end
section
namespace Go.Proofs.Ytenlmckahaniiaa.Pure
open Go Go.RowKit Go.Proofs.Ytenlmckahaniiaa.K Go.Proofs.YtW.P Go.Proofs.YtW.M Go.Proofs.Ytenlmckahaniiaa.MyBits Go.Proofs.Ytenlmckahaniiaa.MyStr Go.Proofs.Ytenlmckahaniiaa.Oct Go.Proofs.Ytenlmckahaniiaa.Obj Go.Proofs.Ytenlmckahaniiaa.Lb
theorem LibraryEncodes : zq1.Pure := by
  intro l0 s _ hsz
  refine Ev.rounds ?_
  unfold zq1.f
  obtain ⟨b, hb, hs⟩ := great_is l0
  refine Ev.bind hb ?_
  refine Ev.ite (fun h => Ev.now _) (fun h => ?_)
  have hS := hs (Bool.eq_false_iff.mpr h)
  refine Ev.ite (fun h => Ev.now _) (fun h => ?_)
  obtain ⟨x, e, hp, hr⟩ : ∃ (x : ByteArray) (e : Int), Ev (fun k => zq1d.f k l0) (x, e) ∧ Ev (fun k => zqj.f k l0) (x, e) := by
    by_cases hc : libC l0 = 0
    · exact ⟨_, _, lenc_is l0 hS.m hc, rlenc_is l0 hS.m hc⟩
    · exact ⟨_, _, lenc_err l0 hS.m hc, rlenc_err l0 (by have := hS.n; omega) hS.m hc⟩
  obtain ⟨L, g, dp, dr, hL, hx⟩ := ldec_both s (by omega)
  refine Ev.bind hp (Ev.bind hr (Ev.bind dp (Ev.bind dr ?_)))
  refine Ev.congr (fun k => by rw [if_pos rfl, if_pos rfl]) ?_
  refine Ev.bind (y4z L (by omega) hx) ?_
  exact Ev.congr (fun k => by rw [if_pos rfl, if_pos rfl]) Lb.alive_end
end Go.Proofs.Ytenlmckahaniiaa.Pure
end
