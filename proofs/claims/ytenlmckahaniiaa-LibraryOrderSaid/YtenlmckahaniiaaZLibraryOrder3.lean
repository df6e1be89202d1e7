/- Lemmas for the law LibraryOrder: what its proof needs beyond what it shares. -/
import Derived.Test.YtenlmckahaniiaaZLibraryOrder2
import Derived.Test.YtenlmckahaniiaaZcLib20
set_option linter.unusedVariables false
set_option linter.unusedSimpArgs false
set_option linter.unusedSectionVars false
section
namespace Go.Proofs.Ytenlmckahaniiaa.Lb
open Go Go.RowKit Go.Proofs.Ytenlmckahaniiaa.K Go.Proofs.YtenlmckahaniiaaW.PrintWords Go.Proofs.YtenlmckahaniiaaW.PrintMore Go.Proofs.Ytenlmckahaniiaa.MyBits Go.Proofs.Ytenlmckahaniiaa.MyStr Go.Proofs.Ytenlmckahaniiaa.Oct Go.Proofs.Ytenlmckahaniiaa.Obj
def ApS (l : List S25) (i : Nat) (x : S25) (s : S62) : Prop := 0 ≤ fndB l (bs s.f0) → fndB l (bs s.f0) = i ∨ defM x (bs s.f0) = false
theorem apart_l1 (l : List S25) (hl : l.length ≤ 1000000) (h4 : ∀ x ∈ l, x.f4.length ≤ 1000000) (i : Nat) (hi : i < l.length) (r : Bool) (hr : Ev (fun k => zqs.l0 k l ((i + 1 : Nat) : Int)) r) (d : Nat) :
    ∀ j : Nat, j + d = l[i].f4.length → ∃ b, Ev (fun k => zqs.l1 k l (i : Int) (j : Int)) b ∧ (b = true → r = true ∧ ∀ s ∈ l[i].f4.drop j, ApS l i l[i] s) := by
  have hn4 := h4 l[i] (List.getElem_mem hi)
  have hrd := rd25 l i hi
  induction d with
  | zero =>
    intro j hj
    refine ⟨r, Ev.step (f := fun k => zqs.l0 k l ((i + 1 : Nat) : Int)) (fun k => by rw [zqs.l1, if_pos (by omega), if_pos (by omega), hrd, if_neg (by omega), Obj.i64_nat i (by omega)]) hr, fun h => ⟨h, ?_⟩⟩
    rw [List.drop_eq_nil_of_le (by omega)]
    intro s hs; cases hs
  | succ d ih =>
    intro j hj
    have hlt : j < l[i].f4.length := by omega
    obtain ⟨b, hb, hs⟩ := ih (j + 1) (by omega)
    have hsj := rd62 l[i].f4 j hlt
    rw [List.drop_eq_getElem_cons hlt]
    obtain ⟨s, hse⟩ : ∃ s, s = l[i].f4[j] := ⟨_, rfl⟩
    rw [← hse] at hsj ⊢
    have hstep : ∀ c, Ev (fun k => if (findR l (bs s.f0)).2 = true then (if (findR l (bs s.f0)).1 = (i : Int) then zqs.l1 k l (i : Int) ((j + 1 : Nat) : Int) else (zqe.f k l[i].f0 l[i].f1 l[i].f2 l[i].f3 l[i].f4 l[i].f5 s.f0).bind fun t => if t = true then some false else zqs.l1 k l (i : Int) ((j + 1 : Nat) : Int)) else zqs.l1 k l (i : Int) ((j + 1 : Nat) : Int)) c → Ev (fun k => zqs.l1 k l (i : Int) (j : Int)) c := by
      intro c hc
      refine Ev.step (f := fun k => (zq15.f k l s.f0).bind fun a => if a.2 = true then (if a.1 = (i : Int) then zqs.l1 k l (i : Int) ((j + 1 : Nat) : Int) else (zqe.f k l[i].f0 l[i].f1 l[i].f2 l[i].f3 l[i].f4 l[i].f5 s.f0).bind fun t => if t = true then some false else zqs.l1 k l (i : Int) ((j + 1 : Nat) : Int)) else zqs.l1 k l (i : Int) ((j + 1 : Nat) : Int)) (fun k => by rw [zqs.l1, if_pos (by omega), if_pos (by omega), hrd, if_pos (by omega), if_pos (by omega), hsj, Obj.i64_nat j (by omega)]) ?_
      exact Ev.bind (rfind_is l hl h4 s.f0) hc
    have done : (b = true → ApS l i l[i] s) → (b = true → r = true ∧ ∀ y ∈ s :: l[i].f4.drop (j + 1), ApS l i l[i] y) := by
      intro h hb
      refine ⟨(hs hb).1, fun y hy => ?_⟩
      rcases List.mem_cons.1 hy with rfl | hy
      · exact h hb
      · exact (hs hb).2 y hy
    by_cases h2 : 0 ≤ fndB l (bs s.f0)
    · by_cases h3 : fndB l (bs s.f0) = i
      · exact ⟨b, hstep b (Ev.congr (fun k => by rw [if_pos (show (findR l (bs s.f0)).2 = true from decide_eq_true h2), if_pos (by unfold findR; rw [Int.max_eq_left h2]; exact h3)]) hb), done fun _ _ => Or.inl h3⟩
      · have hdef := rdefines_is l[i].f0 l[i].f1 l[i].f2 l[i].f3 l[i].f4 l[i].f5 s.f0 hn4
        have hne : ¬ (findR l (bs s.f0)).1 = (i : Int) := by unfold findR; rw [Int.max_eq_left h2]; exact h3
        have hdd : definesB l[i].f4 s.f0 = defM l[i] (bs s.f0) := defM_is _ _
        rw [hdd] at hdef
        by_cases h4 : defM l[i] (bs s.f0) = true
        · rw [h4] at hdef
          exact ⟨false, hstep false (Ev.congr (fun k => by rw [if_pos (show (findR l (bs s.f0)).2 = true from decide_eq_true h2), if_neg hne]) (Ev.bind hdef (Ev.congr (fun k => if_pos rfl) (Ev.now _)))), fun h => by cases h⟩
        · rw [Bool.not_eq_true _ |>.mp h4] at hdef
          exact ⟨b, hstep b (Ev.congr (fun k => by rw [if_pos (show (findR l (bs s.f0)).2 = true from decide_eq_true h2), if_neg hne]) (Ev.bind hdef (Ev.congr (fun k => if_neg (show ¬ (false = true) by decide)) hb))), done fun _ _ => Or.inr (Bool.not_eq_true _ |>.mp h4)⟩
    · exact ⟨b, hstep b (Ev.congr (fun k => if_neg (fun h => h2 (of_decide_eq_true h))) hb), done fun _ h => absurd h h2⟩
theorem apart_l0 (l : List S25) (hl : l.length ≤ 1000000) (h4 : ∀ x ∈ l, x.f4.length ≤ 1000000) (d : Nat) : ∀ i : Nat, i + d = l.length → ∃ b, Ev (fun k => zqs.l0 k l (i : Int)) b ∧ (b = true → ∀ q (hq : q < l.length), i ≤ q → ∀ s ∈ l[q].f4, ApS l q l[q] s) := by
  induction d with
  | zero => intro i hi; exact ⟨true, Ev.step (f := fun _ => some true) (fun k => by rw [zqs.l0, if_neg (by omega)]) (Ev.now _), fun _ q hq hiq => by omega⟩
  | succ d ih =>
    intro i hi
    have hlt : i < l.length := by omega
    obtain ⟨r, hr, hs⟩ := ih (i + 1) (by omega)
    obtain ⟨b, hb, hs2⟩ := apart_l1 l hl h4 i hlt r hr l[i].f4.length 0 (by omega)
    refine ⟨b, Ev.step (f := fun k => zqs.l1 k l (i : Int) 0) (fun k => by rw [zqs.l0, if_pos (by omega)]) hb, fun h q hq hiq s hsq => ?_⟩
    obtain ⟨h1, h2⟩ := hs2 h
    by_cases e : q = i
    · subst e; exact h2 s (by rw [List.drop_zero]; exact hsq)
    · exact hs h1 q hq (by omega) s hsq
def Uniq (l : List S25) : Prop := ∀ q (hq : q < l.length) n, defM l[q] n = true → fndB l n = q
theorem apart_is (l : List S25) (hl : l.length ≤ 1000000) (h4 : ∀ x ∈ l, x.f4.length ≤ 1000000) : ∃ b, Ev (fun k => zqs.f k l) b ∧ (b = true → Uniq l) := by
  obtain ⟨b, hb, hs⟩ := apart_l0 l hl h4 l.length 0 (by omega)
  refine ⟨b, hb, fun h q hq n hn => ?_⟩
  have hd := hn
  unfold defM at hd
  rw [List.any_eq_true] at hd
  obtain ⟨s, hs1, hs2⟩ := hd
  simp only [Bool.and_eq_true, beq_iff_eq] at hs2
  have := hs h q hq (Nat.zero_le _) s hs1
  unfold ApS at this
  rw [hs2.2] at this
  rcases this ((fndB_any l n).2 ⟨_, List.getElem_mem hq, hn⟩) with h1 | h1
  · exact h1
  · rw [hn] at h1; cases h1
theorem fnd_rev {l : List S25} (hu : Uniq l) (n : List UInt8) : (0 ≤ fndB l.reverse n ↔ 0 ≤ fndB l n) ∧ (0 ≤ fndB l n → fndB l.reverse n = l.length - 1 - fndB l n) := by
  have h1 : 0 ≤ fndB l.reverse n ↔ 0 ≤ fndB l n := by rw [fndB_any, fndB_any]; simp only [List.mem_reverse]
  refine ⟨h1, fun h => ?_⟩
  obtain ⟨i, hi, e1, e2⟩ := fndB_def l.reverse n (h1.2 h)
  rw [List.getElem_reverse] at e2
  rw [List.length_reverse] at hi
  have := hu (l.length - 1 - i) (by omega) n e2
  omega
def RelR (l : List S25) (p r : Int × List UInt8) : Prop := (¬ 0 ≤ p.1 ∧ ¬ 0 ≤ r.1) ∨ (0 ≤ p.1 ∧ 0 ≤ r.1 ∧ r.1 = l.length - 1 - p.1 ∧ p.2 = r.2)
theorem relR_step {l : List S25} (hu : Uniq l) (hv : List S25) (p r : Int × List UInt8) (n : List UInt8) (h : RelR l p r) : RelR l (nstep l hv p n) (nstep l.reverse hv r n) := by
  obtain ⟨f1, f2⟩ := fnd_rev hu n
  unfold nstep
  have hc : (0 ≤ p.1 ∧ ¬ n < p.2) ↔ (0 ≤ r.1 ∧ ¬ n < r.2) := by
    rcases h with h | h
    · exact ⟨fun a => absurd a.1 h.1, fun a => absurd a.1 h.2⟩
    · rw [h.2.2.2]; exact ⟨fun a => ⟨h.2.1, a.2⟩, fun a => ⟨h.1, a.2⟩⟩
  by_cases h1 : 0 ≤ p.1 ∧ ¬ n < p.2
  · rw [if_pos h1, if_pos (hc.1 h1)]; exact h
  · rw [if_neg h1, if_neg (fun a => h1 (hc.2 a))]
    by_cases h2 : 0 ≤ fndB hv n
    · rw [if_pos h2, if_pos h2]; exact h
    · rw [if_neg h2, if_neg h2]
      by_cases h3 : 0 ≤ fndB l n
      · rw [if_pos h3, if_pos (f1.2 h3)]
        exact Or.inr ⟨h3, f1.2 h3, f2 h3, rfl⟩
      · rw [if_neg h3, if_neg (fun a => h3 (f1.1 a))]; exact h
theorem nxt_rev {l : List S25} (hu : Uniq l) (hv : List S25) : (¬ 0 ≤ nxt l hv ∧ ¬ 0 ≤ nxt l.reverse hv) ∨ (0 ≤ nxt l hv ∧ nxt l.reverse hv = l.length - 1 - nxt l hv ∧ 0 ≤ nxt l.reverse hv) := by
  have h : ∀ (N : List (List UInt8)) p r, RelR l p r → RelR l (N.foldl (nstep l hv) p) (N.foldl (nstep l.reverse hv) r) := by
    intro N
    induction N with
    | nil => intro p r h; exact h
    | cons n N ih => intro p r h; exact ih _ _ (relR_step hu hv p r n h)
  rcases h (hv.flatMap ndM) (-1, []) (-1, []) (Or.inl ⟨by decide, by decide⟩) with h | h
  · exact Or.inl h
  · exact Or.inr ⟨h.1, h.2.2.1, h.2.1⟩
theorem sel_rev {l : List S25} (hu : Uniq l) : ∀ (f : Nat) hv out, sel l.reverse f hv (out.map fun i => (l.length : Int) - 1 - i) = (sel l f hv out).map fun i => (l.length : Int) - 1 - i := by
  intro f
  induction f with
  | zero => intro hv out; rfl
  | succ f ih =>
    intro hv out
    rw [sel_succ, sel_succ]
    rcases nxt_rev hu hv with ⟨h1, h2⟩ | ⟨h1, h2, h3⟩
    · rw [if_neg h1, if_neg h2]
    · rw [if_pos h1, if_pos h3, ← ih, List.map_append, List.map_cons, List.map_nil, ← h2]
      obtain ⟨n, _, e1, _, e3⟩ := nxt_found l hv h1
      have hlt := fndB_lt l n e3
      rw [← e1] at hlt
      have : rd_T25 l.reverse (nxt l.reverse hv) = rd_T25 l (nxt l hv) := by
        have a1 := rd25 l.reverse (nxt l.reverse hv).toNat (by rw [List.length_reverse]; omega)
        have a2 := rd25 l (nxt l hv).toNat (by omega)
        rw [show (((nxt l.reverse hv).toNat : Nat) : Int) = nxt l.reverse hv by omega] at a1
        rw [show (((nxt l hv).toNat : Nat) : Int) = nxt l hv by omega] at a2
        rw [a1, a2, List.getElem_reverse]
        congr 1
        omega
      rw [this]
theorem rd_get' (xs : List Int) (i : Nat) (h : i < xs.length) : rd xs (i : Int) = xs[i] := by
  unfold rd
  rw [Int.toNat_natCast, List.getD_eq_getElem?_getD, List.getElem?_eq_getElem h]; rfl
theorem or_l1 (l : List S25) (hl : l.length ≤ 1000) (a : List Int) (ha : a.length ≤ 1000000) (hr : ∀ i : Int, i ∈ a → 0 ≤ i ∧ i < (l.length : Int)) (d : Nat) : ∀ i : Nat, i + d = a.length → Ev (fun k => zq8.l1 k l a (a.map fun i => (l.length : Int) - 1 - i) (i : Int)) true := by
  induction d with
  | zero => intro i hi; exact Ev.step (f := fun k => (zqr.f k).bind fun t => some t) (fun k => by rw [zq8.l1, if_neg (by omega)]) alive_end
  | succ d ih =>
    intro i hi
    have hlt : i < a.length := by omega
    have hb := hr a[i] (List.getElem_mem hlt)
    refine Ev.step (fun k => ?_) (ih (i + 1) (by omega))
    rw [zq8.l1, if_pos (by omega), if_pos (by omega), if_pos (by rw [List.length_map]; omega), if_pos (by rw [rd_get' a i hlt, rd_get' _ i (by rw [List.length_map]; exact hlt), List.getElem_map]; unfold wrap64; omega), Obj.i64_nat i (by omega)]
theorem sel_range (l : List S25) : ∀ (f : Nat) (hv : List S25) (out : List Int), (∀ i : Int, i ∈ out → 0 ≤ i ∧ i < (l.length : Int)) → ∀ i : Int, i ∈ sel l f hv out → 0 ≤ i ∧ i < (l.length : Int) := by
  intro f
  induction f with
  | zero => intro hv out h; exact h
  | succ f ih =>
    intro hv out h
    rw [sel_succ]
    by_cases hn : 0 ≤ nxt l hv
    · rw [if_pos hn]
      refine ih _ _ (fun i hi => ?_)
      rcases List.mem_append.1 hi with hi | hi
      · exact h i hi
      · obtain ⟨n, _, e1, _, e3⟩ := nxt_found l hv hn
        have hlt := fndB_lt l n e3
        rw [List.mem_singleton.1 hi]; omega
    · rw [if_neg hn]; exact h
theorem or_l0 (l hv : List S25) (hl : l.length ≤ 1000) (r : Bool) (hr : Ev (fun k => (zq1l.f k l hv).bind fun a => (zq1l.f k l.reverse hv).bind fun b => if (a.length : Int) = (b.length : Int) then zq8.l1 k l a b 0 else none) r) (d : Nat) :
    ∀ (out : List S25), d ≤ l.length → out = (l.drop d).reverse → Ev (fun k => zq8.l0 k l hv out ((d : Int) - 1)) r := by
  induction d with
  | zero =>
    intro out hd ho
    rw [List.drop_zero] at ho
    subst ho
    exact Ev.step (f := fun k => (zq1l.f k l hv).bind fun a => (zq1l.f k l.reverse hv).bind fun b => if (a.length : Int) = (b.length : Int) then zq8.l1 k l a b 0 else none) (fun k => by rw [zq8.l0, if_neg (by omega)]) hr
  | succ d ih =>
    intro out hd ho
    have hlt : d < l.length := by omega
    have hlen : out.length ≤ 1000 := by rw [ho, List.length_reverse, List.length_drop]; omega
    refine Ev.step (fun k => ?_) (ih (out ++ [l[d]]) (by omega) (by rw [ho, List.drop_eq_getElem_cons hlt, List.reverse_cons]))
    rw [zq8.l0, if_pos (by omega), if_pos (by omega), if_pos (by omega), if_pos (by omega), show (((d + 1 : Nat) : Int) - 1) = (d : Int) by omega, rd25 l d hlt, show wrap64 ((d : Int) - 1) = (d : Int) - 1 by unfold wrap64; omega]
end Go.Proofs.Ytenlmckahaniiaa.Lb
namespace Go.Proofs.Ytenlmckahaniiaa.Pure
open Go Go.RowKit Go.Proofs.Ytenlmckahaniiaa.K Go.Proofs.YtenlmckahaniiaaW.PrintWords Go.Proofs.YtenlmckahaniiaaW.PrintMore Go.Proofs.Ytenlmckahaniiaa.MyBits Go.Proofs.Ytenlmckahaniiaa.MyStr Go.Proofs.Ytenlmckahaniiaa.Oct Go.Proofs.Ytenlmckahaniiaa.Obj Go.Proofs.Ytenlmckahaniiaa.Lb
theorem LibraryOrder : zq8.Pure := by
  intro l0 l1 _ _
  refine Ev.rounds ?_
  unfold zq8.f
  obtain ⟨b, hb, hs⟩ := great_is l0
  refine Ev.bind hb ?_
  refine Ev.ite (fun h => Ev.now _) (fun h => ?_)
  have hS := hs (Bool.eq_false_iff.mpr h)
  obtain ⟨b1, hb1, hs1⟩ := great_is l1
  refine Ev.bind hb1 ?_
  refine Ev.ite (fun h => Ev.now _) (fun h1 => ?_)
  have hS1 := hs1 (Bool.eq_false_iff.mpr h1)
  have n0 := hS.n
  have n1 := hS1.n
  have f4 : ∀ x ∈ l0, x.f4.length ≤ 1000000 := fun x hx => by have := (hS.m x hx).n4; omega
  have f5 : ∀ x ∈ l0, x.f5.length ≤ 1000000 := fun x hx => by have := (hS.m x hx).n5; omega
  have g5 : ∀ x ∈ l1, x.f5.length ≤ 1000000 := fun x hx => by have := (hS1.m x hx).n5; omega
  obtain ⟨c, hc, hcs⟩ := apart_is l0 (by omega) f4
  refine Ev.bind hc ?_
  refine Ev.ite (fun h => ?_) (fun h => Ev.now _)
  have hu := hcs h
  rw [show wrap64 ((l0.length : Int) - 1) = (l0.length : Int) - 1 by unfold wrap64; omega]
  refine or_l0 l0 l1 (by omega) true ?_ l0.length [] (Nat.le_refl _) (by rw [List.drop_eq_nil_of_le (Nat.le_refl _)]; rfl)
  refine Ev.bind (select_is l0 l1 (by omega) (by omega) f5 g5) ?_
  refine Ev.bind (select_is l0.reverse l1 (by rw [List.length_reverse]; omega) (by omega) (fun x hx => f5 x (List.mem_reverse.1 hx)) g5) ?_
  have he : selR l0.reverse l1 = (selR l0 l1).map fun i => (l0.length : Int) - 1 - i := by
    unfold selR
    rw [List.length_reverse]
    exact sel_rev hu (l0.length + 1) l1 []
  rw [he]
  refine Ev.congr (fun k => if_pos (by rw [List.length_map])) ?_
  have hlen : (selR l0 l1).length ≤ 1000000 := by
    have := congrArg List.length he
    have h3 : ∀ (f : Nat) hv out, (sel l0 f hv out).length ≤ out.length + f := by
      intro f
      induction f with
      | zero => intro hv out; exact Nat.le_refl _
      | succ f ih =>
        intro hv out
        rw [sel_succ]
        by_cases h : 0 ≤ nxt l0 hv
        · rw [if_pos h]
          have := ih (hv ++ [rd_T25 l0 (nxt l0 hv)]) (out ++ [nxt l0 hv])
          rw [List.length_append, List.length_singleton] at this
          omega
        · rw [if_neg h]; omega
    have := h3 (l0.length + 1) l1 []
    unfold selR
    simp only [List.length_nil] at this
    omega
  exact or_l1 l0 (by omega) (selR l0 l1) hlen (sel_range l0 _ l1 [] (fun i hi => (by cases hi))) (selR l0 l1).length 0 (by omega)
end Go.Proofs.Ytenlmckahaniiaa.Pure
end
