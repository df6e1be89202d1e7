/- Lemmas for several laws: what their proofs need of this seat's texts, in one place. -/
import Derived.Test.YtenlmckahaniiaaZcLe14
import Derived.Test.YtenlmckahaniiaaZcLe18
set_option linter.unusedVariables false
set_option linter.unusedSimpArgs false
set_option linter.unusedSectionVars false
section
namespace Go.Proofs.Ytenlmckahaniiaa.Lb
open Go Go.RowKit Go.Proofs.Ytenlmckahaniiaa.K Go.Proofs.YtW.P Go.Proofs.YtW.M Go.Proofs.Ytenlmckahaniiaa.MyBits Go.Proofs.Ytenlmckahaniiaa.MyStr Go.Proofs.Ytenlmckahaniiaa.Oct Go.Proofs.Ytenlmckahaniiaa.Obj
def ndM (x : S25) : List (List UInt8) := needsL x.f5
def nstep (l hv : List S25) (st : Int × List UInt8) (n : List UInt8) : Int × List UInt8 :=
  if 0 ≤ st.1 ∧ ¬ n < st.2 then st else if 0 ≤ fndB hv n then st else if 0 ≤ fndB l n then (fndB l n, n) else st
def nxt (l hv : List S25) : Int := ((hv.flatMap ndM).foldl (nstep l hv) (-1, [])).1
theorem fndB_def (l : List S25) (n : List UInt8) (h : 0 ≤ fndB l n) : ∃ i : Nat, ∃ hi : i < l.length, fndB l n = i ∧ defM l[i] n = true := by
  unfold fndB idxF at h ⊢
  cases h2 : l.findIdx? (fun x => defM x n) with
  | none => rw [h2] at h; exact absurd h (by decide)
  | some i =>
    rw [List.findIdx?_eq_some_iff_getElem] at h2
    obtain ⟨h3, h4, _⟩ := h2
    exact ⟨i, h3, rfl, h4⟩
theorem fndB_any (l : List S25) (n : List UInt8) : (0 ≤ fndB l n) ↔ ∃ x ∈ l, defM x n = true := by
  have h := idxF_any (fun x => defM x n) l
  constructor
  · intro h1
    have h2 : l.any (fun x => defM x n) = true := by rw [← h]; exact decide_eq_true h1
    simpa using h2
  · intro h1
    have h2 : l.any (fun x => defM x n) = true := by simpa using h1
    rw [← h] at h2
    exact of_decide_eq_true h2
theorem next_l1 (l hv : List S25) (hn : hv.length ≤ 1000000) (i : Nat) (hi : i < hv.length) (R : Int × List UInt8 → Int)
    (hr : ∀ b m, Ev (fun k => zq1n.l0 k l hv b m hv (hv.length : Int) ((i + 1 : Nat) : Int)) (R (b, bs m))) (L : List (List UInt8)) (hL : L.length ≤ 1000000) (d : Nat) :
    ∀ (j : Nat) b m, j + d = L.length → Ev (fun k => zq1n.l1 k l hv b m hv (hv.length : Int) (i : Int) (sofl L) (L.length : Int) (j : Int)) (R ((L.drop j).foldl (nstep l hv) (b, bs m))) := by
  induction d with
  | zero =>
    intro j b m hj
    rw [List.drop_eq_nil_of_le (by omega)]
    exact Ev.step (f := fun k => zq1n.l0 k l hv b m hv (hv.length : Int) ((i + 1 : Nat) : Int)) (fun k => by rw [zq1n.l1, if_neg (by omega), Obj.i64_nat i (by omega)]) (hr b m)
  | succ d ih =>
    intro j b m hj
    have hlt : j < L.length := by omega
    rw [List.drop_eq_getElem_cons hlt, List.foldl_cons]
    have hg := sofl_get L j hlt
    obtain ⟨nm, hnm⟩ : ∃ nm, nm = rdOf ByteArray.empty (sofl L) (j : Int) := ⟨_, rfl⟩
    rw [← hnm] at hg
    have tail : ∀ b m, Ev (fun k => zq1n.l1 k l hv b m hv (hv.length : Int) (i : Int) (sofl L) (L.length : Int) (wrap64 ((j : Int) + 1))) (R ((L.drop (j + 1)).foldl (nstep l hv) (b, bs m))) := by
      intro b m
      rw [Obj.i64_nat j (by omega)]
      exact ih (j + 1) b m (by omega)
    have j2 : ∀ c : Bool, (c = true ↔ (0 ≤ b ∧ ¬ bs nm < bs m)) → Ev (fun k => zq1n.j2 k l hv b m nm hv (hv.length : Int) (i : Int) (sofl L) (L.length : Int) (j : Int) c) (R ((L.drop (j + 1)).foldl (nstep l hv) (nstep l hv (b, bs m) L[j]))) := by
      intro c hc
      rw [← hg]
      refine Ev.step (f := fun k => if c = true then zq1n.l1 k l hv b m hv (hv.length : Int) (i : Int) (sofl L) (L.length : Int) (wrap64 ((j : Int) + 1)) else (zq1m.f hv nm).bind fun t => if t.2 = true then zq1n.l1 k l hv b m hv (hv.length : Int) (i : Int) (sofl L) (L.length : Int) (wrap64 ((j : Int) + 1)) else (zq1m.f l nm).bind fun u => if u.2 = true then zq1n.l1 k l hv u.1 nm hv (hv.length : Int) (i : Int) (sofl L) (L.length : Int) (wrap64 ((j : Int) + 1)) else zq1n.l1 k l hv b m hv (hv.length : Int) (i : Int) (sofl L) (L.length : Int) (wrap64 ((j : Int) + 1))) (fun k => by rw [zq1n.j2]) ?_
      rw [find_is, find_is]
      unfold nstep
      by_cases h1 : c = true
      · refine Ev.congr (fun k => if_pos h1) ?_
        rw [if_pos (hc.1 h1)]; exact tail b m
      · refine Ev.congr (fun k => if_neg h1) ?_
        rw [if_neg (fun h => h1 (hc.2 h))]
        show Ev (fun k => if (findR hv (bs nm)).2 = true then _ else _) _
        by_cases h2 : 0 ≤ fndB hv (bs nm)
        · refine Ev.congr (fun k => if_pos (decide_eq_true h2)) ?_
          rw [if_pos h2]; exact tail b m
        · refine Ev.congr (fun k => if_neg (fun h => h2 (of_decide_eq_true h))) ?_
          rw [if_neg h2]
          show Ev (fun k => if (findR l (bs nm)).2 = true then _ else _) _
          by_cases h3 : 0 ≤ fndB l (bs nm)
          · refine Ev.congr (fun k => if_pos (decide_eq_true h3)) ?_
            rw [if_pos h3]
            have := tail (fndB l (bs nm)) nm
            rw [show (findR l (bs nm)).1 = fndB l (bs nm) from Int.max_eq_left h3]
            exact this
          · refine Ev.congr (fun k => if_neg (fun h => h3 (of_decide_eq_true h))) ?_
            rw [if_neg h3]; exact tail b m
    by_cases hb : b ≥ 0
    · refine Ev.step (fun k => by rw [zq1n.l1, if_pos (by omega), if_pos (by omega), y57, if_pos (by omega), if_pos hb, ← hnm]) (j2 _ ?_)
      rw [y5i, y5i, y19]
      simp only [Bool.not_eq_true', decide_eq_false_iff_not]
      exact ⟨fun h => ⟨hb, h⟩, fun h => h.2⟩
    · refine Ev.step (fun k => by rw [zq1n.l1, if_pos (by omega), if_pos (by omega), y57, if_pos (by omega), if_neg hb, ← hnm]) (j2 false ?_)
      exact ⟨fun h => (by cases h), fun h => absurd h.1 hb⟩
theorem next_l0 (l hv : List S25) (hn : hv.length ≤ 1000000) (hs : ∀ x ∈ hv, x.f5.length ≤ 1000000) (d : Nat) :
    ∀ (i : Nat) b m, i + d = hv.length → Ev (fun k => zq1n.l0 k l hv b m hv (hv.length : Int) (i : Int)) ((((hv.drop i).flatMap ndM).foldl (nstep l hv) (b, bs m)).1) := by
  induction d with
  | zero =>
    intro i b m hi
    rw [List.drop_eq_nil_of_le (by omega)]
    exact Ev.step (f := fun _ => some b) (fun k => by rw [zq1n.l0, if_neg (by omega)]) (Ev.now _)
  | succ d ih =>
    intro i b m hi
    have hlt : i < hv.length := by omega
    rw [List.drop_eq_getElem_cons hlt, List.flatMap_cons, List.foldl_append]
    have h5 := hs hv[i] (List.getElem_mem hlt)
    have hl1 := next_l1 l hv hn i hlt (fun st => (((hv.drop (i + 1)).flatMap ndM).foldl (nstep l hv) st).1) (fun b m => ih (i + 1) b m (by omega)) (ndM hv[i]) (by have := y3d hv[i].f5; unfold ndM; omega) (ndM hv[i]).length 0 b m (by omega)
    rw [List.drop_zero] at hl1
    refine Ev.step (f := fun k => (zq1p.f k hv[i].f0 hv[i].f1 hv[i].f2 hv[i].f3 hv[i].f4 hv[i].f5).bind fun t => zq1n.l1 k l hv b m hv (hv.length : Int) (i : Int) t (t.length : Int) 0) (fun k => by rw [zq1n.l0, if_pos (by omega), if_pos (by omega), if_pos (by omega), rd25 hv i hlt]) ?_
    refine Ev.bind (needs_is _ _ _ _ _ _ h5) ?_
    rw [y57]
    exact hl1
theorem next_is (l hv : List S25) (hn : hv.length ≤ 1000000) (hs : ∀ x ∈ hv, x.f5.length ≤ 1000000) : Ev (fun k => zq1n.f k l hv) (nxt l hv) := by
  have := next_l0 l hv hn hs hv.length 0 (-1) ⟨#[]⟩ (by omega)
  rw [List.drop_zero] at this
  exact this
theorem y3g (l hv : List S25) (st : Int × List UInt8) (n : List UInt8) : nstep l hv st n = st ∨ (nstep l hv st n = (fndB l n, n) ∧ ¬ 0 ≤ fndB hv n ∧ 0 ≤ fndB l n) := by
  unfold nstep
  by_cases h1 : 0 ≤ st.1 ∧ ¬ n < st.2
  · rw [if_pos h1]; exact Or.inl rfl
  · rw [if_neg h1]
    by_cases h2 : 0 ≤ fndB hv n
    · rw [if_pos h2]; exact Or.inl rfl
    · rw [if_neg h2]
      by_cases h3 : 0 ≤ fndB l n
      · rw [if_pos h3]; exact Or.inr ⟨rfl, h2, h3⟩
      · rw [if_neg h3]; exact Or.inl rfl
theorem fold_found (l hv : List S25) (N : List (List UInt8)) : ∀ (st : Int × List UInt8), N.foldl (nstep l hv) st = st ∨ ∃ n ∈ N, N.foldl (nstep l hv) st = (fndB l n, n) ∧ ¬ 0 ≤ fndB hv n ∧ 0 ≤ fndB l n := by
  induction N with
  | nil => intro st; exact Or.inl rfl
  | cons n N ih =>
    intro st
    rw [List.foldl_cons]
    rcases ih (nstep l hv st n) with h | ⟨n2, h2, h3⟩
    · rcases y3g l hv st n with e | ⟨e, h4⟩
      · rw [e] at h; rw [e]; exact Or.inl h
      · rw [h, e]; exact Or.inr ⟨n, List.mem_cons_self, rfl, h4⟩
    · exact Or.inr ⟨n2, List.mem_cons_of_mem _ h2, h3⟩
theorem nxt_found (l hv : List S25) (h : 0 ≤ nxt l hv) : ∃ n ∈ hv.flatMap ndM, nxt l hv = fndB l n ∧ ¬ 0 ≤ fndB hv n ∧ 0 ≤ fndB l n := by
  unfold nxt at h ⊢
  rcases fold_found l hv (hv.flatMap ndM) (-1, []) with h1 | ⟨n, hn, h1, h2, h3⟩
  · rw [h1] at h; exact absurd h (by decide)
  · exact ⟨n, hn, by rw [h1], h2, h3⟩
def sel (l : List S25) : Nat → List S25 → List Int → List Int
  | 0, _, out => out
  | f + 1, hv, out => if 0 ≤ nxt l hv then sel l f (hv ++ [y49 l (nxt l hv)]) (out ++ [nxt l hv]) else out
theorem y52 (l : List S25) (f : Nat) (hv : List S25) (out : List Int) : sel l (f + 1) hv out = if 0 ≤ nxt l hv then sel l f (hv ++ [y49 l (nxt l hv)]) (out ++ [nxt l hv]) else out := rfl
def freeN (l : List S25) (out : List Int) : Nat := ((List.range l.length).filter fun i : Nat => !(out.contains (i : Int))).length
theorem filter_lt {α : Type} (L : List α) (p q : α → Bool) (hq : ∀ y, q y = true → p y = true) (x : α) (hx : x ∈ L) (h1 : p x = true) (h2 : q x = false) : (L.filter q).length < (L.filter p).length := by
  induction L with
  | nil => cases hx
  | cons y L ih =>
    have hle : ∀ M : List α, (M.filter q).length ≤ (M.filter p).length := by
      intro M
      induction M with
      | nil => exact Nat.le_refl _
      | cons z M ihM =>
        by_cases hz : q z = true
        · rw [List.filter_cons_of_pos hz, List.filter_cons_of_pos (hq z hz)]; simpa using ihM
        · rw [List.filter_cons_of_neg hz]
          by_cases hz2 : p z = true
          · rw [List.filter_cons_of_pos hz2]; rw [List.length_cons]; omega
          · rw [List.filter_cons_of_neg hz2]; exact ihM
    rcases List.mem_cons.1 hx with rfl | hx
    · rw [List.filter_cons_of_pos h1, List.filter_cons_of_neg (by rw [h2]; decide)]
      have := hle L
      rw [List.length_cons]; omega
    · have := ih hx
      by_cases hz : q y = true
      · rw [List.filter_cons_of_pos hz, List.filter_cons_of_pos (hq y hz), List.length_cons, List.length_cons]; omega
      · rw [List.filter_cons_of_neg hz]
        by_cases hz2 : p y = true
        · rw [List.filter_cons_of_pos hz2, List.length_cons]; omega
        · rw [List.filter_cons_of_neg hz2]; exact this
theorem free_lt (l : List S25) (out : List Int) (i : Nat) (hi : i < l.length) (h : (i : Int) ∉ out) : freeN l (out ++ [(i : Int)]) < freeN l out := by
  refine filter_lt _ _ _ (fun y hy => ?_) i (List.mem_range.2 hi) (by simpa using h) (by simp)
  simp only [Bool.not_eq_true', List.contains_eq_mem, decide_eq_false_iff_not, List.mem_append] at hy ⊢
  exact fun h2 => hy (Or.inl h2)
def SelInv (l hv : List S25) (out : List Int) : Prop := (∀ i ∈ out, 0 ≤ i ∧ i < l.length ∧ y49 l i ∈ hv) ∧ out.Nodup
theorem SelInv.new {l hv : List S25} {out : List Int} (h : SelInv l hv out) (hn : 0 ≤ nxt l hv) : nxt l hv ∉ out ∧ nxt l hv < l.length := by
  obtain ⟨n, _, h1, h2, h3⟩ := nxt_found l hv hn
  obtain ⟨i, hi, h4, h5⟩ := fndB_def l n h3
  refine ⟨fun hm => h2 ?_, by rw [h1, h4]; omega⟩
  have := (h.1 _ hm).2.2
  rw [h1, h4, rd25 l i hi] at this
  exact (fndB_any hv n).2 ⟨_, this, h5⟩
theorem SelInv.next {l hv : List S25} {out : List Int} (h : SelInv l hv out) (hn : 0 ≤ nxt l hv) : SelInv l (hv ++ [y49 l (nxt l hv)]) (out ++ [nxt l hv]) := by
  obtain ⟨h1, h2⟩ := h.new hn
  refine ⟨fun i hi => ?_, ?_⟩
  · rcases List.mem_append.1 hi with hi | hi
    · exact ⟨(h.1 i hi).1, (h.1 i hi).2.1, List.mem_append_left _ (h.1 i hi).2.2⟩
    · rw [List.mem_singleton.1 hi]; exact ⟨hn, h2, List.mem_append_right _ (List.mem_singleton.2 rfl)⟩
  · rw [List.nodup_append]
    refine ⟨h.2, by simp, fun a ha b hb => ?_⟩
    rw [List.mem_singleton.1 hb]
    exact fun e => h1 (e ▸ ha)
theorem free_le (l : List S25) (out : List Int) : freeN l out ≤ l.length := by
  unfold freeN
  have := List.length_filter_le (fun i : Nat => !(out.contains (i : Int))) (List.range l.length)
  rwa [List.length_range] at this
theorem select_l0 (l : List S25) (hl : l.length ≤ 1000) (hs : ∀ x ∈ l, x.f5.length ≤ 1000000) (f : Nat) : ∀ (hv : List S25) (out : List Int), SelInv l hv out → freeN l out ≤ f → hv.length + f ≤ 10000 → out.length + f ≤ 10000 → (∀ x ∈ hv, x.f5.length ≤ 1000000) →
    Ev (fun k => zq1e.l0 k l hv out (nxt l hv)) (sel l (f + 1) hv out) := by
  induction f with
  | zero =>
    intro hv out hI hf h1 h2 h3
    have hno : ¬ 0 ≤ nxt l hv := fun hn => by
      obtain ⟨h1, h2⟩ := hI.new hn
      have := free_lt l out (nxt l hv).toNat (by omega) (by rwa [show (((nxt l hv).toNat : Nat) : Int) = nxt l hv by omega])
      omega
    rw [y52 l 0 hv out, if_neg hno]
    exact Ev.step (f := fun _ => some out) (fun k => by rw [zq1e.l0, if_neg (by omega)]) (Ev.now _)
  | succ f ih =>
    intro hv out hI hf h1 h2 h3
    by_cases hn : 0 ≤ nxt l hv
    · obtain ⟨h4, h5⟩ := hI.new hn
      have h6 := free_lt l out (nxt l hv).toNat (by omega) (by rwa [show (((nxt l hv).toNat : Nat) : Int) = nxt l hv by omega])
      rw [show (((nxt l hv).toNat : Nat) : Int) = nxt l hv by omega] at h6
      rw [y52 l (f + 1) hv out, if_pos hn]
      have hm : y49 l (nxt l hv) ∈ l := by
        have := rd25 l (nxt l hv).toNat (by omega)
        rw [show (((nxt l hv).toNat : Nat) : Int) = nxt l hv by omega] at this
        rw [this]; exact List.getElem_mem _
      have h7 : ∀ x ∈ hv ++ [y49 l (nxt l hv)], x.f5.length ≤ 1000000 := by
        intro x hx
        rcases List.mem_append.1 hx with hx | hx
        · exact h3 x hx
        · rw [List.mem_singleton.1 hx]; exact hs _ hm
      have h8 := ih _ _ (hI.next hn) (by omega) (by rw [List.length_append, List.length_singleton]; omega) (by rw [List.length_append, List.length_singleton]; omega) h7
      refine Ev.step (f := fun k => (zq1n.f k l (hv ++ [y49 l (nxt l hv)])).bind fun t => zq1e.l0 k l (hv ++ [y49 l (nxt l hv)]) (out ++ [nxt l hv]) t) (fun k => ?_) (Ev.bind (next_is l _ (by rw [List.length_append, List.length_singleton]; omega) h7) h8)
      rw [zq1e.l0, if_pos (by omega), if_pos (by omega), if_pos hn, if_pos h5, if_pos (by omega)]; rfl
    · rw [y52 l (f + 1) hv out, if_neg hn]
      exact Ev.step (f := fun _ => some out) (fun k => by rw [zq1e.l0, if_neg (by omega)]) (Ev.now _)
def selR (l hv : List S25) : List Int := sel l (l.length + 1) hv []
theorem select_is (l hv : List S25) (hl : l.length ≤ 1000) (hh : hv.length ≤ 1000) (hs : ∀ x ∈ l, x.f5.length ≤ 1000000) (h3 : ∀ x ∈ hv, x.f5.length ≤ 1000000) : Ev (fun k => zq1e.f k l hv) (selR l hv) := by
  unfold zq1e.f
  refine Ev.congr (f := fun k => (zq1n.f k l hv).bind fun t => zq1e.l0 k l hv [] t) (fun k => by rw [if_pos (by simp only [List.length_nil]; omega)]; rfl) ?_
  refine Ev.bind (next_is l hv (by omega) h3) ?_
  exact select_l0 l hl hs l.length hv [] ⟨fun i hi => (by cases hi), List.nodup_nil⟩ (free_le l []) (by omega) (by simp only [List.length_nil]; omega) h3
end Go.Proofs.Ytenlmckahaniiaa.Lb
end
section
namespace Go.Proofs.Ytenlmckahaniiaa.Oct
open Go Go.RowKit Go.Proofs.Ytenlmckahaniiaa.K Go.Proofs.YtW.P Go.Proofs.YtW.M Go.Proofs.Ytenlmckahaniiaa.MyBits Go.Proofs.Ytenlmckahaniiaa.MyStr
def mkS (l : List UInt8) : ByteArray := ⟨l.toArray⟩
theorem y14 (l : List UInt8) : bs (mkS l) = l := rfl
theorem mkS_bs (s : ByteArray) : mkS (bs s) = s := y0y rfl
theorem y37 (l : List UInt8) : (mkS l).size = l.length := by rw [← y0z, y14]
theorem y36 (a b : List UInt8) : mkS a ++ mkS b = mkS (a ++ b) := y0y (by rw [y0w]; rfl)
theorem y3j (l : List Int) : strOfNums l = mkS (byt l) := y0y (bs_nums' l)
theorem y21 (s : ByteArray) (i j : Nat) : s.extract i j = mkS (((bs s).take j).drop i) := y0y (y0x s i j)
theorem i64_nat (i : Nat) (h : i < 9223372036854775807) : wrap64 ((i : Int) + 1) = ((i + 1 : Nat) : Int) := by unfold wrap64; omega
theorem shr_bytes (n : Int) (i : Nat) (h : i ≤ 8) : shr .i64 n (8 * (i : Int)) = n / 256 ^ i := by
  refine shr_pow n _ (8 * i) _ (by omega) (by omega) ?_
  rw [Int.pow_mul]; rfl
def width (w : Int) : Nat := (mx 0 (mn w 8)).toNat
theorem y5n (w : Int) : width w ≤ 8 := by unfold width mx mn; split <;> split <;> omega
theorem put_loop (a : Int) (m : Nat) (hm : m ≤ 8) (d : Nat) : ∀ i : Nat, i + d = m →
    Ev (fun k => zq1w.l0 k a (lei (mx a 0) i ++ List.replicate d 0) (m : Int) (i : Int)) (mkS (le (mx a 0) m)) := by
  induction d with
  | zero =>
    intro i hi
    obtain rfl : i = m := by omega
    refine Ev.step (f := fun _ => some (strOfNums (lei (mx a 0) i ++ List.replicate 0 0))) (fun k => by rw [zq1w.l0, if_neg (by omega)]) ?_
    rw [List.replicate_zero, List.append_nil, y3j]
    exact Ev.now _
  | succ d ih =>
    intro i hi
    refine Ev.step ?_ (ih (i + 1) (by omega))
    intro k
    have hw : wrap64 (8 * (i : Int)) = 8 * (i : Int) := by unfold wrap64; omega
    have hl : (lei (mx a 0) i ++ List.replicate (d + 1) 0).length = m := by rw [List.length_append, y2z, List.length_replicate]; omega
    rw [zq1w.l0, if_pos (by omega), hw, if_pos (by omega), if_pos (by omega), hl, if_pos (by omega), shr_bytes _ _ (by omega), i64_nat i (by omega)]
    congr 1
    have e : ((i : Int)).toNat = i := by omega
    rw [e, List.set_append_right _ _ (by rw [y2z]; omega), y2z, Nat.sub_self, List.replicate_succ, List.set_cons_zero, lei_snoc, List.append_assoc]
    rfl
theorem y41 (a w : Int) : Ev (fun k => zq1w.f k a w) (mkS (le (mx a 0) (width w))) := by
  have h := put_loop a (width w) (y5n w) (width w) 0 (by omega)
  have hw := y5n w
  have h0 : 0 ≤ mx 0 (mn w 8) := by unfold mx mn; split <;> split <;> omega
  refine Ev.congr (fun k => ?_) h
  unfold zq1w.f
  rw [if_pos h0, if_pos (by show width w ≤ _; omega)]
  simp only [Option.bind_some]
  rw [List.length_replicate]
  rfl
def getR (s : List UInt8) (at_ w : Int) : Int × Int × Int :=
  if w < 1 ∨ w > 7 ∨ at_ < 0 ∨ at_ > s.length then (0, 0, 1)
  else if w > s.length - at_ then (0, 0, 8)
  else (num ((s.drop at_.toNat).take w.toNat), at_ + w, 0)
theorem num_drop (l : List UInt8) (i : Nat) (h : i < l.length) : num (l.drop i) = byteAt l i + 256 * num (l.drop (i + 1)) := by
  rw [List.drop_eq_getElem_cons h, num_cons]
  unfold byteAt
  rw [List.getElem?_eq_getElem h]; rfl
theorem y3h (l : List UInt8) (i : Nat) (h7 : l.length ≤ 7) (h : 1 ≤ i) : 0 ≤ num (l.drop i) ∧ num (l.drop i) < 281474976710656 := by
  have h1 := y3i (l.drop i)
  have h2 : ((256 ^ (l.drop i).length : Nat) : Int) ≤ ((256 ^ 6 : Nat) : Int) := Int.ofNat_le.2 (Nat.pow_le_pow_right (by decide) (by rw [List.length_drop]; omega))
  rw [Int.natCast_pow] at h2
  have h3 : ((256 ^ 6 : Nat) : Int) = 281474976710656 := by decide
  have h4 : ((256 : Nat) : Int) = 256 := rfl
  rw [h4] at h2
  omega
theorem y18 (s : List UInt8) (a w i : Nat) (h : i < w) : byteAt s (a + i) = byteAt ((s.drop a).take w) i := by
  unfold byteAt
  rw [List.getElem?_take, if_pos h, List.getElem?_drop]
theorem get_loop (s : ByteArray) (a w : Nat) (hw : w ≤ 7) (ha : a + w ≤ s.size) (hs : s.size ≤ 9223372036854775807) (d : Nat) : d ≤ w →
    Ev (fun k => zq1v.l0 k s (a : Int) (w : Int) (num (((((bs s).drop a).take w)).drop d)) ((d : Int) - 1)) (num (((bs s).drop a).take w), (a : Int) + w, 0) := by
  have hlen : (((bs s).drop a).take w).length = w := by rw [List.length_take, List.length_drop, y0z]; omega
  induction d with
  | zero =>
    intro _
    refine Ev.step (f := fun _ => some (num ((((bs s).drop a).take w).drop 0), wrap64 ((a : Int) + w), 0)) (fun k => by rw [zq1v.l0, if_neg (by omega)]) ?_
    rw [List.drop_zero, show wrap64 ((a : Int) + w) = (a : Int) + w by unfold wrap64; omega]
    exact Ev.now _
  | succ d ih =>
    intro hd
    refine Ev.step ?_ (ih (by omega))
    intro k
    have e1 : ((d + 1 : Nat) : Int) - 1 = (d : Int) := by omega
    have e2 : wrap64 ((a : Int) + (d : Int)) = (a : Int) + d := by unfold wrap64; omega
    have hr := y3h (((bs s).drop a).take w) (d + 1) (by omega) (by omega)
    have hb := bt_rng s ((a : Int) + d)
    rw [e1, zq1v.l0, if_pos (by omega), e2, if_pos (by omega), if_pos (by omega)]
    have e3 : wrap64 (num (((bs s).drop a |>.take w).drop (d + 1)) * 256) = num (((bs s).drop a |>.take w).drop (d + 1)) * 256 := by unfold wrap64; omega
    have e4 : wrap64 (bt s ((a : Int) + d)) = bt s ((a : Int) + d) := by unfold wrap64; omega
    rw [e3, e4, or_parts 8 (by omega) (by omega) (by omega) (by omega) (by omega) (by omega), show wrap64 ((d : Int) - 1) = (d : Int) - 1 by unfold wrap64; omega]
    congr 1
    rw [num_drop _ d (by omega), bt_bs, show ((a : Int) + d).toNat = a + d by omega, y18 (bs s) a w d (by omega)]
    omega
theorem y2c (s : ByteArray) (a w : Int) (hs : s.size ≤ 9223372036854775807) : Ev (fun k => zq1v.f k s a w) (getR (bs s) a w) := by
  have bad : Ev (fun k => zq1v.j0 k s a w true) (0, 0, 1) := Ev.step (f := fun _ => some (0, 0, 1)) (fun k => by rw [zq1v.j0, if_pos rfl]) (Ev.now _)
  unfold getR
  rw [y0z]
  by_cases h1 : w < 1
  · rw [if_pos (by omega)]; refine Ev.congr (fun k => ?_) bad; unfold zq1v.f; rw [if_pos h1]
  by_cases h2 : w > 7
  · rw [if_pos (by omega)]; refine Ev.congr (fun k => ?_) bad; unfold zq1v.f; rw [if_neg h1, if_pos h2]
  by_cases h3 : a < 0
  · rw [if_pos (by omega)]; refine Ev.congr (fun k => ?_) bad; unfold zq1v.f; rw [if_neg h1, if_neg h2, if_pos h3]
  by_cases h4 : a > (s.size : Int)
  · rw [if_pos (by omega)]; refine Ev.congr (fun k => ?_) bad; unfold zq1v.f; rw [if_neg h1, if_neg h2, if_neg h3, decide_eq_true h4]
  rw [if_neg (by omega)]
  have hw : wrap64 ((s.size : Int) - a) = (s.size : Int) - a := by unfold wrap64; omega
  by_cases h5 : w > (s.size : Int) - a
  · rw [if_pos h5]
    refine Ev.congr (f := fun k => zq1v.j0 k s a w false) (fun k => by unfold zq1v.f; rw [if_neg h1, if_neg h2, if_neg h3, decide_eq_false h4]) ?_
    exact Ev.step (f := fun _ => some (0, 0, 8)) (fun k => by rw [zq1v.j0, if_neg (by decide), hw, if_pos h5]) (Ev.now _)
  · rw [if_neg h5]
    obtain ⟨a, rfl⟩ := Int.eq_ofNat_of_zero_le (show 0 ≤ a by omega)
    obtain ⟨w, rfl⟩ := Int.eq_ofNat_of_zero_le (show 0 ≤ w by omega)
    refine Ev.congr (f := fun k => zq1v.j0 k s a w false) (fun k => by unfold zq1v.f; rw [if_neg h1, if_neg h2, if_neg h3, decide_eq_false h4]) ?_
    have hl := get_loop s a w (by omega) (by omega) hs w (Nat.le_refl _)
    have hlen : (((bs s).drop a).take w).length = w := by rw [List.length_take, List.length_drop, y0z]; omega
    rw [List.drop_of_length_le (by omega)] at hl
    refine Ev.step ?_ hl
    intro k
    rw [zq1v.j0, if_neg (by decide), hw, if_neg h5, show wrap64 ((w : Int) - 1) = (w : Int) - 1 by unfold wrap64; omega]
    rfl
theorem u32_mul (c : Nat) (h : c < 4294967296) : ((Go.bits .and .u32 (c : Int) 1) * 3988292384) % 4294967296 = if c % 2 = 1 then ((3988292384 : Nat) : Int) else ((0 : Nat) : Int) := by
  rw [show (1 : Int) = ((1 : Nat) : Int) from rfl, u32_and_nat c 1 h (by decide), Nat.and_one_is_mod]
  rcases Nat.mod_two_eq_zero_or_one c with e | e <;> rw [e] <;> decide
theorem sum_l2 (c : Nat) (hc : c < 4294967296) (s : ByteArray) (l : List ByteArray) (n i z j : Int) (d : Nat) (r : Int) : ∀ e : Nat, e + d = 8 →
    Ev (fun k => zq1x.l1 k (steps d c : Nat) s l n i z (wrap64 (j + 1))) r → Ev (fun k => zq1x.l2 k (c : Int) s l n i z j (e : Int)) r := by
  induction d generalizing c with
  | zero =>
    intro e he h
    refine Ev.step ?_ h
    intro k
    rw [zq1x.l2, if_neg (by omega)]
    rfl
  | succ d ih =>
    intro e he h
    refine Ev.step ?_ (ih (step c) (y5a c hc) (e + 1) (by omega) h)
    intro k
    rw [zq1x.l2, if_pos (by omega), u32_mul c hc, i64_nat e (by omega)]
    congr 1
    have e2 : (c : Int) / 2 = ((c / 2 : Nat) : Int) := by omega
    unfold step
    rw [e2]
    split
    · rw [u32_xor_nat _ _ (by omega) (by decide)]
    · rw [u32_xor_nat _ _ (by omega) (by decide), Nat.xor_zero]
theorem crcs_take (c : Nat) (s : List UInt8) (i : Nat) (h : i < s.length) : crcs c (s.take (i + 1)) = crcB (crcs c (s.take i)) s[i] := by
  rw [List.take_succ_eq_append_getElem h, y1n]; rfl
theorem sum_l1 (c0 : Nat) (hc : c0 < 4294967296) (s : ByteArray) (hs : s.size ≤ 9223372036854775806) (l : List ByteArray) (n i : Int) (r : Int)
    (h : Ev (fun k => zq1x.l0 k (crcs c0 (bs s) : Nat) l n (wrap64 (i + 1))) r) (d : Nat) : ∀ j : Nat, j + d = s.size →
    Ev (fun k => zq1x.l1 k (crcs c0 ((bs s).take j) : Nat) s l n i (s.size : Int) (j : Int)) r := by
  induction d with
  | zero =>
    intro j hj
    refine Ev.step ?_ h
    intro k
    rw [zq1x.l1, if_neg (by omega), List.take_of_length_le (by rw [y0z]; omega)]
  | succ d ih =>
    intro j hj
    have hlt := y1o c0 ((bs s).take j) hc
    have hb : j < (bs s).length := by rw [y0z]; omega
    have h8 := UInt8.toNat_lt (bs s)[j]
    have hx : crcs c0 ((bs s).take j) ^^^ ((bs s)[j]).toNat < 4294967296 := Nat.xor_lt_two_pow (n := 32) hlt (by omega)
    have hn := ih (j + 1) (by omega)
    rw [crcs_take c0 (bs s) j hb] at hn
    have h2 := sum_l2 (crcs c0 ((bs s).take j) ^^^ ((bs s)[j]).toNat) hx s l n i (s.size : Int) (j : Int) 8 r 0 (by omega) (by rw [i64_nat j (by omega)]; exact hn)
    refine Ev.step ?_ h2
    intro k
    rw [zq1x.l1, if_pos (by omega), if_pos (by omega), if_pos (by omega)]
    congr 1
    have e : bt s (j : Int) % 4294967296 = (((bs s)[j]).toNat : Int) := by
      rw [bt_bs, Int.toNat_natCast]; unfold byteAt; rw [List.getElem?_eq_getElem hb, Option.getD_some]; omega
    rw [e, u32_xor_nat _ _ hlt (by omega)]
def cat (l : List ByteArray) : List UInt8 := l.flatMap bs
theorem rdOf_get (l : List ByteArray) (i : Nat) (h : i < l.length) : rdOf ByteArray.empty l (i : Int) = l[i] := by
  unfold rdOf; rw [Int.toNat_natCast, List.getD_eq_getElem?_getD, List.getElem?_eq_getElem h]; rfl
theorem cat_take (l : List ByteArray) (i : Nat) (h : i < l.length) : cat (l.take (i + 1)) = cat (l.take i) ++ bs l[i] := by
  unfold cat; rw [List.take_succ_eq_append_getElem h, List.flatMap_append]; simp
theorem sum_l0 (l : List ByteArray) (hl : l.length ≤ 9223372036854775806) (hs : ∀ s ∈ l, s.size ≤ 9223372036854775806) (d : Nat) : ∀ i : Nat, i + d = l.length →
    Ev (fun k => zq1x.l0 k (crcs 4294967295 (cat (l.take i)) : Nat) l (l.length : Int) (i : Int)) (crc (cat l) : Nat) := by
  induction d with
  | zero =>
    intro i hi
    have hlt := y1o 4294967295 (cat l) (by decide)
    refine Ev.step (f := fun _ => some ((crc (cat l) : Nat) : Int)) (fun k => ?_) (Ev.now _)
    rw [zq1x.l0, if_neg (by omega), List.take_of_length_le (by omega), show (4294967295 : Int) = ((4294967295 : Nat) : Int) from rfl, u32_xor_nat _ _ (by decide) hlt, Nat.xor_comm]
    have := y1m (cat l)
    unfold crc at *
    congr 1; unfold wrap64; omega
  | succ d ih =>
    intro i hi
    have hlt := y1o 4294967295 (cat (l.take i)) (by decide)
    have hn := ih (i + 1) (by omega)
    rw [cat_take l i (by omega), y1n] at hn
    have h1 := sum_l1 (crcs 4294967295 (cat (l.take i))) hlt l[i] (hs _ (List.getElem_mem _)) l (l.length : Int) (i : Int) _ (by rw [i64_nat i (by omega)]; exact hn) l[i].size 0 (by omega)
    refine Ev.step ?_ h1
    intro k
    rw [zq1x.l0, if_pos (by omega), if_pos (by omega), if_pos (by omega), rdOf_get l i (by omega)]
    rfl
theorem sum_is (l : List ByteArray) (hl : l.length ≤ 9223372036854775806) (hs : ∀ s ∈ l, s.size ≤ 9223372036854775806) : Ev (fun k => zq1x.f k l) (crc (cat l) : Nat) :=
  sum_l0 l hl hs l.length 0 (by omega)
theorem cat_one (s : ByteArray) : cat [s] = bs s := by simp [cat]
theorem crc_is (s : ByteArray) (hs : s.size ≤ 9223372036854775806) : Ev (fun k => zq1x.f k [s]) (crc (bs s) : Nat) := by
  have h := sum_is [s] (by simp) (by intro x hx; rw [List.mem_singleton.1 hx]; exact hs)
  rwa [cat_one] at h
theorem bytesOf_ints (s : ByteArray) : bytesOf s = ints (bs s) := rfl
theorem joined_loop (l : List ByteArray) (hl : l.length ≤ 9223372036854775806) (hs : (cat l).length < 140737488355328) (d : Nat) : ∀ i : Nat, i + d = l.length →
    Ev (fun k => zq1r.l0 k (ints (cat (l.take i))) l (l.length : Int) (i : Int)) (mkS (cat l)) := by
  induction d with
  | zero =>
    intro i hi
    refine Ev.step (f := fun _ => some (mkS (cat l))) (fun k => ?_) (Ev.now _)
    rw [zq1r.l0, if_neg (by omega), List.take_of_length_le (by omega), y3j, byt_ints]
  | succ d ih =>
    intro i hi
    have hn := ih (i + 1) (by omega)
    have hlen : (cat (l.take i)).length + l[i].size ≤ (cat l).length := by
      have h1 : cat l = cat (l.take (i + 1)) ++ cat (l.drop (i + 1)) := by unfold cat; rw [← List.flatMap_append, List.take_append_drop]
      rw [h1, cat_take l i (by omega), List.length_append, List.length_append, y0z]; omega
    rw [cat_take l i (by omega), ints_append] at hn
    refine Ev.step ?_ hn
    intro k
    rw [zq1r.l0, if_pos (by omega), if_pos (by omega), if_pos (by omega), rdOf_get l i (by omega), if_pos (by rw [y2l]; omega), i64_nat i (by omega), bytesOf_ints]
theorem joined_is (l : List ByteArray) (hl : l.length ≤ 9223372036854775806) (hs : (cat l).length < 140737488355328) : Ev (fun k => zq1r.f k l) (mkS (cat l)) :=
  joined_loop l hl hs l.length 0 (by omega)
theorem cat_two (a b : ByteArray) : cat [a, b] = bs a ++ bs b := by simp [cat]
theorem y2r (a b : ByteArray) (hs : a.size + b.size < 140737488355328) : Ev (fun k => zq1r.f k [a, b]) (mkS (bs a ++ bs b)) := by
  have h := joined_is [a, b] (by simp) (by rw [cat_two, List.length_append, y0z, y0z]; exact hs)
  rwa [cat_two] at h
theorem y3a (n : Nat) : mx (n : Int) 0 = n := by unfold mx; split <;> omega
theorem seal_is (s : ByteArray) (hs : s.size < 140737488355000) : Ev (fun k => zq1u.f k s) (mkS (seal_ (bs s))) := by
  unfold zq1u.f
  refine Ev.bind (crc_is s (by omega)) (Ev.bind (y41 _ 4) (Ev.bind (y2r s _ ?_) ?_))
  · rw [y37, y2y]; have := y5n 4; omega
  · rw [y14, y3a]
    exact Ev.now _
def openR (l : List UInt8) : List UInt8 × Int :=
  if l.length < 4 then ([], 8) else if l.drop (l.length - 4) = le (crc (l.take (l.length - 4))) 4 then (l.take (l.length - 4), 0) else ([], 10)
theorem y3m (l : List UInt8) (h : opened l) : openR l = (l.take (l.length - 4), 0) := by
  unfold openR; rw [if_neg (by have := h.1; omega), if_pos h.2]
theorem y3n (l : List UInt8) : openR (seal_ l) = (l, 0) := by
  rw [y3m _ (opened_seal l), y50]; unfold seal_
  rw [show l.length + 4 - 4 = l.length by omega, List.take_left]
theorem open_is (s : ByteArray) (hs : s.size < 140737488355000) : Ev (fun k => zq1t.f k s) (mkS (openR (bs s)).1, (openR (bs s)).2) := by
  have hw : wrap64 ((s.size : Int) - 4) = (s.size : Int) - 4 := by unfold wrap64; omega
  unfold zq1t.f openR
  simp only [hw, y0z]
  by_cases h : s.size < 4
  · rw [if_pos h]
    refine Ev.congr (fun k => if_pos (by omega)) (Ev.now _)
  · rw [if_neg h]
    have e : ((s.size : Int) - 4).toNat = s.size - 4 := by omega
    rw [e]
    have hx : s.extract 0 (s.size - 4) = mkS ((bs s).take (s.size - 4)) := by rw [y21, List.drop_zero]
    have hy : s.extract (s.size - 4) s.size = mkS ((bs s).drop (s.size - 4)) := by rw [y21, List.take_of_length_le (by rw [y0z]; omega)]
    rw [hx, hy]
    have h1 := crc_is (mkS ((bs s).take (s.size - 4))) (by rw [y37, List.length_take]; omega)
    rw [y14] at h1
    have h2 := y41 ((crc ((bs s).take (s.size - 4)) : Nat) : Int) 4
    rw [y3a] at h2
    refine Ev.congr (fun k => by rw [if_neg (by omega), if_pos (by omega), if_pos (by omega)]) ?_
    refine Ev.bind h1 (Ev.bind h2 ?_)
    rw [y5i, y5i, y14, y14]
    by_cases h3 : (bs s).drop (s.size - 4) = le (crc ((bs s).take (s.size - 4)) : Nat) 4
    · rw [if_pos h3]
      exact Ev.congr (fun k => if_pos h3) (Ev.now _)
    · rw [if_neg h3]
      exact Ev.congr (fun k => if_neg h3) (Ev.now _)
end Go.Proofs.Ytenlmckahaniiaa.Oct
end
section
namespace Go.Proofs.Ytenlmckahaniiaa.K
open Go.RowKit Go.Proofs.YtW.P Go.Proofs.YtW.L
def IsS79 (w0 W : World) (g : Nat) (f0 : ByteArray) (f1 : Int) (f2 : Bool) : Prop := W.heap[g]? = some (.cells #[.string f0, .int .i64 f1, .bool f2] 79 (0, 0)) ∧ w0.heap.size ≤ g
theorem IsS79.grown {w0 W : World} {g : Nat} {f0 : ByteArray} {f1 : Int} {f2 : Bool} {W1 : World} {row : Option Nat} (h : IsS79 w0 W g f0 f1 f2) (hw : W.grownBy W1 row) (hne : some g ≠ row) : IsS79 w0 W1 g f0 f1 f2 := by
 obtain ⟨hb, hg⟩ := h
 exact ⟨y0r hb hw hne, hg⟩
theorem IsS79.kept {w0 W : World} {g : Nat} {f0 : ByteArray} {f1 : Int} {f2 : Bool} {W1 : World} {S : Nat → Prop} (h : IsS79 w0 W g f0 f1 f2) (hk : Kept W W1 S) (hne : ¬ S g) : IsS79 w0 W1 g f0 f1 f2 := by
 obtain ⟨hb, hg⟩ := h
 exact ⟨blk_kept hb hk hne, hg⟩
theorem IsS79.below {w0 W : World} {g : Nat} {f0 : ByteArray} {f1 : Int} {f2 : Bool} {W1 : World} (h : IsS79 w0 W g f0 f1 f2) (hw : Below W.heap.size W W1) : IsS79 w0 W1 g f0 f1 f2 := h.grown (y2e hw none) (by simp)
theorem IsS79.alloc {w0 W : World} {g : Nat} {f0 : ByteArray} {f1 : Int} {f2 : Bool} (h : IsS79 w0 W g f0 f1 f2) (o : Obj) : IsS79 w0 (W.alloc o) g f0 f1 f2 := h.below (y0f (Below.refl _ _) o)
theorem IsS79.drewN {w0 W : World} {g : Nat} {f0 : ByteArray} {f1 : Int} {f2 : Bool} (h : IsS79 w0 W g f0 f1 f2) (m : Nat) : IsS79 w0 (W.drewN m) g f0 f1 f2 := h
theorem IsS79.drew {w0 W : World} {g : Nat} {f0 : ByteArray} {f1 : Int} {f2 : Bool} (h : IsS79 w0 W g f0 f1 f2) : IsS79 w0 W.drew g f0 f1 f2 := h
theorem IsS79.at_ {w0 W : World} {g : Nat} {f0 : ByteArray} {f1 : Int} {f2 : Bool} {w' : World} {m : Nat} (hq : W.drewN m = w') (h : IsS79 w0 W g f0 f1 f2) : IsS79 w0 w' g f0 f1 f2 := by subst hq; exact IsS79.drewN h m
theorem IsS79.apart {w0 W : World} {g : Nat} {f0 : ByteArray} {f1 : Int} {f2 : Bool} {α : Type} {d : Kd α} {e : Nat} {base : Nat} {ok : Nat → Prop} {v : Value} {xs : List α} (h : IsS79 w0 W g f0 f1 f2) (ho : d.R e W base ok v xs) (ht : ∀ q, q ∈ e :: d.E → q ≠ 79) : d.R e W base (fun k => ok k ∧ k ≠ g) v xs := by
 obtain ⟨hb, hg⟩ := h
 exact Kd.R_types ho hb ht
theorem IsS79.lt {w0 W : World} {g : Nat} {f0 : ByteArray} {f1 : Int} {f2 : Bool} (h : IsS79 w0 W g f0 f1 f2) : g < W.heap.size := by
 obtain ⟨hb, hg⟩ := h
 exact y0s hb
theorem IsS79.ge {w0 W : World} {g : Nat} {f0 : ByteArray} {f1 : Int} {f2 : Bool} (h : IsS79 w0 W g f0 f1 f2) : w0.heap.size ≤ g := by
 obtain ⟨hb, hg⟩ := h
 exact hg
theorem IsS79.new (w0 W : World) (f0 : ByteArray) (f1 : Int) (f2 : Bool) (hB : Below w0.heap.size w0 W) : IsS79 w0 (W.alloc (.cells #[.string f0, .int .i64 f1, .bool f2] 79)) W.heap.size f0 f1 f2 := ⟨by simpa using heap_alloc_new W _, hB.size⟩
end Go.Proofs.Ytenlmckahaniiaa.K
end
section
namespace Go.Proofs.Ytenlmckahaniiaa.Oct
open Go Go.RowKit Go.Proofs.Ytenlmckahaniiaa.K Go.Proofs.YtW.P Go.Proofs.YtW.M Go.Proofs.Ytenlmckahaniiaa.MyBits Go.Proofs.Ytenlmckahaniiaa.MyStr
def putT (l : List UInt8) : List UInt8 := le ((l.take 65535).length : Nat) 2 ++ l.take 65535
theorem y3z (l : List UInt8) (h : l.length ≤ 65535) : putT l = le (l.length : Nat) 2 ++ l := by unfold putT; rw [List.take_of_length_le h]
theorem y40 (s : ByteArray) (hs : s.size < 140737488355000) : Ev (fun k => zq1l.f k s) (mkS (putT (bs s))) := by
  have hm : mn (s.size : Int) 65535 = (min s.size 65535 : Nat) := by unfold mn; split <;> omega
  unfold zq1l.f
  rw [hm]
  have hx : s.extract 0 ((min s.size 65535 : Nat) : Int).toNat = mkS ((bs s).take 65535) := by
    have hb := y0z s
    rw [y21, List.drop_zero, Int.toNat_natCast, show (bs s).take (min s.size 65535) = (bs s).take 65535 from List.take_eq_take_iff.2 (by omega)]
  rw [hx]
  have hz : (mkS ((bs s).take 65535)).size ≤ 65535 := by rw [y37, List.length_take]; omega
  refine Ev.congr (fun k => by rw [if_pos (by omega), if_pos (by omega)]) ?_
  refine Ev.bind (y41 _ 2) (Ev.bind (y2r _ _ ?_) ?_)
  · rw [y37, y2y]; have := y5n 2; omega
  · rw [y14, y14, y3a, y37]
    exact Ev.now _
def getT (l : List UInt8) (a : Int) : List UInt8 × Int × Int :=
  if (getR l a 2).2.2 = 0 then
    if (getR l a 2).1 > l.length - (a + 2) then ([], 0, 8) else ((l.drop (a + 2).toNat).take (getR l a 2).1.toNat, a + 2 + (getR l a 2).1, 0)
  else ([], 0, (getR l a 2).2.2)
theorem y29 {l : List UInt8} {a : Int} (h : ¬ (getR l a 2).2.2 = 0) : getT l a = ([], 0, (getR l a 2).2.2) := by unfold getT; rw [if_neg h]
theorem y2a {l : List UInt8} {a : Int} (h : (getR l a 2).2.2 = 0) (hn : (getR l a 2).1 > l.length - (a + 2)) : getT l a = ([], 0, 8) := by unfold getT; rw [if_pos h, if_pos hn]
theorem getT_ok {l : List UInt8} {a : Int} (h : (getR l a 2).2.2 = 0) (hn : ¬ (getR l a 2).1 > l.length - (a + 2)) : getT l a = ((l.drop (a + 2).toNat).take (getR l a 2).1.toNat, a + 2 + (getR l a 2).1, 0) := by unfold getT; rw [if_pos h, if_neg hn]
theorem y27 (l : List UInt8) (a w : Int) (h : (getR l a w).2.2 = 0) : 1 ≤ w ∧ w ≤ 7 ∧ 0 ≤ a ∧ a + w ≤ l.length ∧ getR l a w = (num ((l.drop a.toNat).take w.toNat), a + w, 0) := by
  unfold getR at *
  split at h
  · cases h
  · rename_i h1
    rw [if_neg h1] at *
    split at h
    · cases h
    · rename_i h2
      rw [if_neg h2]
      exact ⟨by omega, by omega, by omega, by omega, rfl⟩
theorem y25 (l : List UInt8) (a : Int) (h : (getR l a 2).2.2 = 0) : 0 ≤ (getR l a 2).1 ∧ (getR l a 2).1 < 65536 := by
  obtain ⟨_, _, h3, h4, h5⟩ := y27 l a 2 h
  rw [h5]
  have := y3i ((l.drop a.toNat).take (2 : Int).toNat)
  rw [List.length_take, List.length_drop, show min (2 : Int).toNat (l.length - a.toNat) = 2 by omega] at this
  exact ⟨this.1, by have h6 := this.2; rw [show (256 : Int) ^ 2 = 65536 by decide] at h6; exact h6⟩
theorem getText_is (s : ByteArray) (a : Int) (hs : s.size < 140737488355000) : Ev (fun k => zq1k.f k s a) (mkS (getT (bs s) a).1, (getT (bs s) a).2) := by
  unfold zq1k.f
  refine Ev.bind (y2c s a 2 (by omega)) ?_
  by_cases h : (getR (bs s) a 2).2.2 = 0
  · obtain ⟨_, _, h3, h4, h5⟩ := y27 _ a 2 h
    obtain ⟨h6, h7⟩ := y25 _ a h
    have h8 : (getR (bs s) a 2).2.1 = a + 2 := by rw [h5]
    have hlen := y0z s
    have hw : wrap64 ((s.size : Int) - (a + 2)) = (s.size : Int) - (a + 2) := by unfold wrap64; omega
    by_cases hn : (getR (bs s) a 2).1 > ((bs s).length : Int) - (a + 2)
    · rw [y2a h hn]
      exact Ev.congr (fun k => by rw [if_pos h, h8, hw, if_pos (by omega)]; rfl) (Ev.now _)
    · rw [getT_ok h hn, h8]
      generalize (getR (bs s) a 2).1 = n at *
      have hx : s.extract (a + 2).toNat s.size = mkS ((bs s).drop (a + 2).toNat) := by rw [y21, List.take_of_length_le (by rw [y0z]; omega)]
      have hy : (mkS ((bs s).drop (a + 2).toNat)).extract 0 n.toNat = mkS (((bs s).drop (a + 2).toNat).take n.toNat) := by rw [y21, List.drop_zero, y14]
      have hz : ((mkS ((bs s).drop (a + 2).toNat)).size : Int) = s.size - (a + 2) := by rw [y37, List.length_drop, y0z]; omega
      rw [hx, hy, hz]
      exact Ev.congr (fun k => by rw [if_pos h, hw, if_neg (by omega), if_pos (by omega), if_pos (by omega), if_pos (by omega), if_pos (by omega), show wrap64 (a + 2 + n) = a + 2 + n by unfold wrap64; omega]) (Ev.now _)
  · rw [y29 h]
    exact Ev.congr (fun k => by rw [if_neg h]; rfl) (Ev.now _)
end Go.Proofs.Ytenlmckahaniiaa.Oct
end
