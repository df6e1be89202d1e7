/- Lemmas for the law LibraryCloses: what its proof needs beyond what it shares. -/
import Derived.Test.YtenlmckahaniiaaZLibraryCloses1
import Derived.Test.YtenlmckahaniiaaZcLib20
set_option linter.unusedVariables false
set_option linter.unusedSimpArgs false
set_option linter.unusedSectionVars false
section
namespace Go.Proofs.Ytenlmckahaniiaa.K
open Go.RowKit Go.Proofs.YtenlmckahaniiaaW.PrintWords Go.Proofs.YtenlmckahaniiaaW.PrintLast
def zq6.Pure : Prop := ∀ (l0 : List (S25)) (l1 : List (S25)), (WfL wf25) l0 → (WfL wf25) l1 → ∃ k, zq6.f k l0 l1 = some true
end Go.Proofs.Ytenlmckahaniiaa.K
end
section
namespace Go.Proofs.Ytenlmckahaniiaa.Lb
open Go Go.RowKit Go.Proofs.Ytenlmckahaniiaa.K Go.Proofs.YtenlmckahaniiaaW.PrintWords Go.Proofs.YtenlmckahaniiaaW.PrintMore Go.Proofs.Ytenlmckahaniiaa.MyBits Go.Proofs.Ytenlmckahaniiaa.MyStr Go.Proofs.Ytenlmckahaniiaa.Oct Go.Proofs.Ytenlmckahaniiaa.Obj
theorem sel_prefix (l : List S25) : ∀ (f : Nat) hv out, ∃ t, sel l f hv out = out ++ t := by
  intro f
  induction f with
  | zero => intro hv out; exact ⟨[], by rw [List.append_nil]; rfl⟩
  | succ f ih =>
    intro hv out
    rw [sel_succ]
    by_cases h : 0 ≤ nxt l hv
    · rw [if_pos h]
      obtain ⟨t, ht⟩ := ih (hv ++ [rd_T25 l (nxt l hv)]) (out ++ [nxt l hv])
      exact ⟨[nxt l hv] ++ t, by rw [ht, List.append_assoc]⟩
    · rw [if_neg h]; exact ⟨[], by rw [List.append_nil]⟩
theorem sel_length' (l : List S25) : ∀ (f : Nat) hv out, (sel l f hv out).length ≤ out.length + f := by
  intro f
  induction f with
  | zero => intro hv out; exact Nat.le_refl _
  | succ f ih =>
    intro hv out
    rw [sel_succ]
    by_cases h : 0 ≤ nxt l hv
    · rw [if_pos h]
      have := ih (hv ++ [rd_T25 l (nxt l hv)]) (out ++ [nxt l hv])
      rw [List.length_append, List.length_singleton] at this
      omega
    · rw [if_neg h]; omega
theorem rd_get (xs : List Int) (i : Nat) (h : i < xs.length) : rd xs (i : Int) = xs[i] := by
  unfold rd
  rw [Int.toNat_natCast, List.getD_eq_getElem?_getD, List.getElem?_eq_getElem h]; rfl
theorem cl_l5 (l hv : List S25) (hn : hv.length ≤ 1000000) (i : Nat) (hi : i < hv.length) (r : Bool) (hr : Ev (fun k => zq6.l4 k l hv ((i + 1 : Nat) : Int)) r) (L : List (List UInt8)) (hL : L.length ≤ 1000000) (hno : ∀ n ∈ L, 0 ≤ fndB hv n ∨ ¬ 0 ≤ fndB l n) (d : Nat) :
    ∀ j : Nat, j + d = L.length → Ev (fun k => zq6.l5 k l hv (i : Int) (sofl L) (j : Int)) r := by
  induction d with
  | zero =>
    intro j hj
    exact Ev.step (f := fun k => zq6.l4 k l hv ((i + 1 : Nat) : Int)) (fun k => by rw [zq6.l5, sofl_length, if_neg (by omega), Obj.i64_nat i (by omega)]) hr
  | succ d ih =>
    intro j hj
    have hlt : j < L.length := by omega
    have hg := sofl_get L j hlt
    have h := ih (j + 1) (by omega)
    have hL2 := hno L[j] (List.getElem_mem hlt)
    refine Ev.step (f := fun k => if (findR hv L[j]).2 = true then zq6.l5 k l hv (i : Int) (sofl L) ((j + 1 : Nat) : Int) else if (findR l L[j]).2 = true then none else zq6.l5 k l hv (i : Int) (sofl L) ((j + 1 : Nat) : Int)) (fun k => by rw [zq6.l5, sofl_length, if_pos (by omega), if_pos (by omega), find_is, find_is, hg, Obj.i64_nat j (by omega)]; rfl) ?_
    by_cases h2 : 0 ≤ fndB hv L[j]
    · exact Ev.congr (fun k => if_pos (decide_eq_true h2)) h
    · refine Ev.congr (fun k => if_neg (fun h => h2 (of_decide_eq_true h))) ?_
      refine Ev.congr (fun k => if_neg (fun h => ?_)) h
      rcases hL2 with h3 | h3
      · exact h2 h3
      · exact h3 (of_decide_eq_true h)
theorem cl_l4 (l hv : List S25) (hn : hv.length ≤ 1000000) (hs : ∀ x ∈ hv, x.f5.length ≤ 1000000) (hno : ∀ n ∈ hv.flatMap ndM, 0 ≤ fndB hv n ∨ ¬ 0 ≤ fndB l n) (d : Nat) : ∀ i : Nat, i + d = hv.length → Ev (fun k => zq6.l4 k l hv (i : Int)) true := by
  induction d with
  | zero => intro i hi; exact Ev.step (f := fun k => (zqr.f k).bind fun t => some t) (fun k => by rw [zq6.l4, if_neg (by omega)]) alive_end
  | succ d ih =>
    intro i hi
    have hlt : i < hv.length := by omega
    have h5 := hs hv[i] (List.getElem_mem hlt)
    refine Ev.step (f := fun k => (zq1w.f k hv[i].f0 hv[i].f1 hv[i].f2 hv[i].f3 hv[i].f4 hv[i].f5).bind fun t => zq6.l5 k l hv (i : Int) t 0) (fun k => by rw [zq6.l4, if_pos (by omega), if_pos (by omega), rd25 hv i hlt]) ?_
    refine Ev.bind (needs_is _ _ _ _ _ _ h5) ?_
    exact cl_l5 l hv hn i hlt true (ih (i + 1) (by omega)) (ndM hv[i]) (by have := needsL_length hv[i].f5; unfold ndM; omega) (fun n hm => hno n (List.mem_flatMap.2 ⟨_, List.getElem_mem hlt, hm⟩)) (ndM hv[i]).length 0 (by omega)
theorem cl_l3 (l hv : List S25) (ch : List Int) (i q : Nat) (hi : i < ch.length) (hil : ch.length ≤ 1000000) (hq : q < l.length) (hc : ch[i] = (q : Int)) (hn : hv.length ≤ 1000000) (p : Nat) (hp : p < hv.length) (L : List (List UInt8)) (hL : L.length ≤ 1000000) (c r : Bool)
    (hr : Ev (fun k => zq6.l2 k l hv ch (i : Int) c ((p + 1 : Nat) : Int)) r) (d : Nat) :
    ∀ (j : Nat) b, j + d = L.length → (b || (L.drop j).any (defM l[q])) = c → Ev (fun k => zq6.l3 k l hv ch (i : Int) b (p : Int) (sofl L) (j : Int)) r := by
  induction d with
  | zero =>
    intro j b hj hb
    rw [List.drop_eq_nil_of_le (by omega), List.any_nil, Bool.or_false] at hb
    subst hb
    exact Ev.step (f := fun k => zq6.l2 k l hv ch (i : Int) b ((p + 1 : Nat) : Int)) (fun k => by rw [zq6.l3, sofl_length, if_neg (by omega), Obj.i64_nat p (by omega)]) hr
  | succ d ih =>
    intro j b hj hb
    have hlt : j < L.length := by omega
    have hg := sofl_get L j hlt
    have hrd : rd ch (i : Int) = (q : Int) := by rw [rd_get ch i hi, hc]
    rw [List.drop_eq_getElem_cons hlt, List.any_cons] at hb
    cases b with
    | true =>
      have h := ih (j + 1) true (by omega) (by rw [Bool.true_or] at hb ⊢; exact hb)
      exact Ev.step (fun k => by rw [zq6.l3, sofl_length, if_pos (by omega), if_pos rfl, Obj.i64_nat j (by omega)]) h
    | false =>
      rw [Bool.false_or] at hb
      have h := ih (j + 1) (defM l[q] L[j]) (by omega) hb
      refine Ev.step (fun k => ?_) h
      rw [zq6.l3, sofl_length, if_pos (by omega), if_neg (by decide), if_pos (by omega), if_pos (by omega), hrd, if_pos (by omega), if_pos (by omega), if_pos (by omega), rd25 l q hq, defines_is, Obj.i64_nat j (by omega)]
      unfold definesB
      rw [defM_is, hg]; rfl
theorem cl_l2 (l hv : List S25) (ch : List Int) (i q : Nat) (hi : i < ch.length) (hil : ch.length ≤ 1000000) (hq : q < l.length) (hc : ch[i] = (q : Int)) (hn : hv.length ≤ 1000000) (hs : ∀ x ∈ hv, x.f5.length ≤ 1000000) (r : Bool)
    (hr : Ev (fun k => zq6.l0 k l (hv ++ [l[q]]) ch ((i + 1 : Nat) : Int)) r) (d : Nat) :
    ∀ (p : Nat) b, p + d = hv.length → (b || ((hv.drop p).flatMap ndM).any (defM l[q])) = true → Ev (fun k => zq6.l2 k l hv ch (i : Int) b (p : Int)) r := by
  have hrd : rd ch (i : Int) = (q : Int) := by rw [rd_get ch i hi, hc]
  induction d with
  | zero =>
    intro p b hp hb
    rw [List.drop_eq_nil_of_le (by omega)] at hb
    simp only [List.flatMap_nil, List.any_nil, Bool.or_false] at hb
    refine Ev.step (f := fun k => zq6.l0 k l (hv ++ [l[q]]) ch ((i + 1 : Nat) : Int)) (fun k => ?_) hr
    rw [zq6.l2, if_neg (by omega), if_pos hb, if_pos (by omega), if_pos (by omega), hrd, if_pos (by omega), if_pos (by omega), if_pos (by omega), rd25 l q hq, Obj.i64_nat i (by omega)]
  | succ d ih =>
    intro p b hp hb
    have hlt : p < hv.length := by omega
    have h5 := hs hv[p] (List.getElem_mem hlt)
    rw [List.drop_eq_getElem_cons hlt, List.flatMap_cons, List.any_append, ← Bool.or_assoc] at hb
    refine Ev.step (f := fun k => (zq1w.f k hv[p].f0 hv[p].f1 hv[p].f2 hv[p].f3 hv[p].f4 hv[p].f5).bind fun t => zq6.l3 k l hv ch (i : Int) b (p : Int) t 0) (fun k => by rw [zq6.l2, if_pos (by omega), if_pos (by omega), rd25 hv p hlt]) ?_
    refine Ev.bind (needs_is _ _ _ _ _ _ h5) ?_
    exact cl_l3 l hv ch i q hi hil hq hc hn p hlt (ndM hv[p]) (by have := needsL_length hv[p].f5; unfold ndM; omega) _ r (ih (p + 1) _ (by omega) hb) (ndM hv[p]).length 0 b (by omega) (by rw [List.drop_zero])
theorem cl_l1 (l hv : List S25) (ch : List Int) (i : Nat) (hi : i < ch.length) (hil : ch.length ≤ 1000000) (hd : ∀ j (hj : j < i), ch[j] ≠ ch[i]) (r : Bool) (hr : Ev (fun k => zq6.l2 k l hv ch (i : Int) false 0) r) (d : Nat) :
    ∀ j : Nat, j + d = i → Ev (fun k => zq6.l1 k l hv ch (i : Int) (j : Int)) r := by
  induction d with
  | zero => intro j hj; exact Ev.step (f := fun k => zq6.l2 k l hv ch (i : Int) false 0) (fun k => by rw [zq6.l1, if_neg (by omega)]) hr
  | succ d ih =>
    intro j hj
    have hji : j < i := by omega
    refine Ev.step (fun k => ?_) (ih (j + 1) (by omega))
    rw [zq6.l1, if_pos (by omega), if_pos (by omega), if_pos (by omega), if_pos (by omega), if_pos (by omega), if_neg (by rw [rd_get ch j (by omega), rd_get ch i hi]; exact hd j hji), Obj.i64_nat j (by omega)]
theorem cl_l0 (l : List S25) (hl : l.length ≤ 1000) (hs : ∀ x ∈ l, x.f5.length ≤ 1000000) (f : Nat) : ∀ (hv : List S25) (out : List Int), SelInv l hv out → freeN l out ≤ f → hv.length + f ≤ 10000 → out.length + f ≤ 10000 → (∀ x ∈ hv, x.f5.length ≤ 1000000) →
    Ev (fun k => zq6.l0 k l hv (sel l (f + 1) hv out) (out.length : Int)) true := by
  induction f with
  | zero =>
    intro hv out hI hf h1 h2 h3
    have hno : ¬ 0 ≤ nxt l hv := fun hn => by
      obtain ⟨h1, h2⟩ := hI.new hn
      have := free_lt l out (nxt l hv).toNat (by omega) (by rwa [show (((nxt l hv).toNat : Nat) : Int) = nxt l hv by omega])
      omega
    rw [sel_succ l 0 hv out, if_neg hno]
    refine Ev.step (f := fun k => zq6.l4 k l hv 0) (fun k => by rw [zq6.l0, if_neg (by omega)]) ?_
    exact cl_l4 l hv (by omega) h3 (nxt_none l hv hno) hv.length 0 (by omega)
  | succ f ih =>
    intro hv out hI hf h1 h2 h3
    by_cases hn : 0 ≤ nxt l hv
    · obtain ⟨h4, h5⟩ := hI.new hn
      have h6 := free_lt l out (nxt l hv).toNat (by omega) (by rwa [show (((nxt l hv).toNat : Nat) : Int) = nxt l hv by omega])
      rw [show (((nxt l hv).toNat : Nat) : Int) = nxt l hv by omega] at h6
      obtain ⟨q, hq⟩ : ∃ q : Nat, nxt l hv = q := ⟨(nxt l hv).toNat, by omega⟩
      have hql : q < l.length := by omega
      have hrd : rd_T25 l (nxt l hv) = l[q] := by rw [hq, rd25 l q hql]
      obtain ⟨t, ht⟩ := sel_prefix l (f + 1) (hv ++ [rd_T25 l (nxt l hv)]) (out ++ [nxt l hv])
      rw [sel_succ l (f + 1) hv out, if_pos hn]
      have hlen := sel_length' l (f + 1) (hv ++ [rd_T25 l (nxt l hv)]) (out ++ [nxt l hv])
      rw [List.length_append, List.length_singleton] at hlen
      have h7 : ∀ x ∈ hv ++ [rd_T25 l (nxt l hv)], x.f5.length ≤ 1000000 := by
        intro x hx
        rcases List.mem_append.1 hx with hx | hx
        · exact h3 x hx
        · rw [List.mem_singleton.1 hx, hrd]; exact hs _ (List.getElem_mem hql)
      have h8 := ih _ _ (hI.next hn) (by omega) (by rw [List.length_append, List.length_singleton]; omega) (by rw [List.length_append, List.length_singleton]; omega) h7
      generalize sel l (f + 1) (hv ++ [rd_T25 l (nxt l hv)]) (out ++ [nxt l hv]) = ch at ht hlen h8 ⊢
      have hil : out.length < ch.length := by rw [ht]; simp only [List.length_append, List.length_singleton]; omega
      have hci : ch[out.length] = (q : Int) := by
        subst ht
        rw [List.getElem_append_left (by rw [List.length_append, List.length_singleton]; omega), List.getElem_append_right (Nat.le_refl _)]
        simp [hq]
      have hcj : ∀ j (hj : j < out.length), ch[j] ≠ ch[out.length] := by
        intro j hj
        rw [hci]
        subst ht
        rw [List.getElem_append_left (by rw [List.length_append, List.length_singleton]; omega), List.getElem_append_left hj]
        intro e
        exact h4 (by rw [hq, ← e]; exact List.getElem_mem hj)
      rw [hrd, List.length_append, List.length_singleton] at h8
      have hneed : (false || ((hv.drop 0).flatMap ndM).any (defM l[q])) = true := by
        obtain ⟨n, hm, e1, _, e3⟩ := nxt_found l hv hn
        obtain ⟨i', hi', e4, e5⟩ := fndB_def l n e3
        have : i' = q := by omega
        subst this
        rw [Bool.false_or, List.drop_zero, List.any_eq_true]
        exact ⟨n, hm, e5⟩
      have hr2 := cl_l2 l hv ch out.length q hil (by omega) hql hci (by omega) h3 true h8 hv.length 0 false (by omega) hneed
      have hr1 := cl_l1 l hv ch out.length hil (by omega) hcj true hr2 out.length 0 (by omega)
      refine Ev.step (f := fun k => zq6.l1 k l hv ch (out.length : Int) 0) (fun k => ?_) hr1
      rw [zq6.l0, if_pos (by omega), if_pos (by omega), if_neg (by rw [rd_get ch _ hil, hci]; omega), if_neg (by rw [rd_get ch _ hil, hci]; omega)]
    · rw [sel_succ l (f + 1) hv out, if_neg hn]
      refine Ev.step (f := fun k => zq6.l4 k l hv 0) (fun k => by rw [zq6.l0, if_neg (by omega)]) ?_
      exact cl_l4 l hv (by omega) h3 (nxt_none l hv hn) hv.length 0 (by omega)
end Go.Proofs.Ytenlmckahaniiaa.Lb
namespace Go.Proofs.Ytenlmckahaniiaa.Pure
open Go Go.RowKit Go.Proofs.Ytenlmckahaniiaa.K Go.Proofs.YtenlmckahaniiaaW.PrintWords Go.Proofs.YtenlmckahaniiaaW.PrintMore Go.Proofs.Ytenlmckahaniiaa.MyBits Go.Proofs.Ytenlmckahaniiaa.MyStr Go.Proofs.Ytenlmckahaniiaa.Oct Go.Proofs.Ytenlmckahaniiaa.Obj Go.Proofs.Ytenlmckahaniiaa.Lb
theorem LibraryCloses : zq6.Pure := by
  intro l0 l1 _ _
  refine Ev.rounds ?_
  unfold zq6.f
  obtain ⟨b, hb, hs⟩ := great_is l0
  refine Ev.bind hb ?_
  refine Ev.ite (fun h => Ev.now _) (fun h => ?_)
  have hS := hs (Bool.eq_false_iff.mpr h)
  obtain ⟨b1, hb1, hs1⟩ := great_is l1
  refine Ev.bind hb1 ?_
  refine Ev.ite (fun h => Ev.now _) (fun h1 => ?_)
  have hS1 := hs1 (Bool.eq_false_iff.mpr h1)
  have n0 := hS.n
  have n1 := hS1.n
  have f5 : ∀ x ∈ l0, x.f5.length ≤ 1000000 := fun x hx => by have := (hS.m x hx).n5; omega
  have g5 : ∀ x ∈ l1, x.f5.length ≤ 1000000 := fun x hx => by have := (hS1.m x hx).n5; omega
  refine Ev.bind (show Ev (fun _ => some ([] : List S25)) [] from Ev.now _) ?_
  refine Ev.congr (fun k => if_pos (by simp only [List.length_nil]; omega)) ?_
  refine Ev.bind (select_is l0 l1 (by omega) (by omega) f5 g5) ?_
  exact cl_l0 l0 (by omega) f5 l0.length l1 [] ⟨fun i hi => (by cases hi), List.nodup_nil⟩ (free_le l0 []) (by omega) (by simp only [List.length_nil]; omega) g5
end Go.Proofs.Ytenlmckahaniiaa.Pure
end
