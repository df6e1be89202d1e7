/- Lemmas for the law LibraryReplaces: what its proof needs beyond what it shares. -/
import Derived.Test.YtenlmckahaniiaaZLibraryReplaces2
import Derived.Test.YtenlmckahaniiaaZcLe21
set_option linter.unusedVariables false
set_option linter.unusedSimpArgs false
set_option linter.unusedSectionVars false
section
namespace Go.Proofs.Ytenlmckahaniiaa.K
open Go.RowKit Go.Proofs.YtW.P Go.Proofs.YtW.L
def zq0.Pure : Prop := ∀ (l0 : List (S25)) (a1_0 : ByteArray) (a1_1 : ByteArray) (a1_2 : ByteArray) (a1_3 : Int) (l1_4 : List (S62)) (l1_5 : List (S43)) (a2 : Int), (WfL wf25) l0 → a1_0.size ≤ 9223372036854775807 → a1_1.size ≤ 9223372036854775807 → a1_2.size ≤ 9223372036854775807 → (Lit.int .i64 a1_3).wf = true → (WfL wf62) l1_4 → (WfL wf43) l1_5 → (Lit.int .u8 a2).wf = true → ∃ k, zq0.f k l0 a1_0 a1_1 a1_2 a1_3 l1_4 l1_5 a2 = some true
end Go.Proofs.Ytenlmckahaniiaa.K
end
section
namespace Go.Proofs.Ytenlmckahaniiaa.Lb
open Go Go.RowKit Go.Proofs.Ytenlmckahaniiaa.K Go.Proofs.YtW.P Go.Proofs.YtW.M Go.Proofs.Ytenlmckahaniiaa.MyBits Go.Proofs.Ytenlmckahaniiaa.MyStr Go.Proofs.Ytenlmckahaniiaa.Oct Go.Proofs.Ytenlmckahaniiaa.Obj
theorem idxF_cons {α : Type} (p : α → Bool) (x : α) (l : List α) : idxF p (x :: l) = if p x = true then 0 else if 0 ≤ idxF p l then idxF p l + 1 else -1 := by
  unfold idxF
  rw [List.findIdx?_cons]
  by_cases h : p x = true
  · rw [if_pos h, if_pos h]; rfl
  · rw [if_neg h, if_neg h]
    cases h2 : l.findIdx? p with
    | none => simp
    | some i => simp only [Option.map_some]; rw [if_pos (by omega)]; omega
end Go.Proofs.Ytenlmckahaniiaa.Lb
end
section
namespace Go.Proofs.Ytenlmckahaniiaa.Lb
open Go Go.RowKit Go.Proofs.Ytenlmckahaniiaa.K Go.Proofs.YtW.P Go.Proofs.YtW.M Go.Proofs.Ytenlmckahaniiaa.MyBits Go.Proofs.Ytenlmckahaniiaa.MyStr Go.Proofs.Ytenlmckahaniiaa.Oct Go.Proofs.Ytenlmckahaniiaa.Obj
def putM (l : List S25) (m : S25) : List S25 := if 0 ≤ idxF (pNam m.f0) l then l.set (idxF (pNam m.f0) l).toNat m else l ++ [m]
def finR (o : List S25) : List S25 × Int := if libC o = 0 then (o, 0) else ([], libC o)
theorem idxF_lt {α : Type} (p : α → Bool) (l : List α) (h : 0 ≤ idxF p l) : idxF p l < l.length := by
  unfold idxF at h ⊢
  cases h2 : l.findIdx? p with
  | none => rw [h2] at h; exact absurd h (by decide)
  | some i =>
    rw [List.findIdx?_eq_some_iff_getElem] at h2
    obtain ⟨h3, _⟩ := h2
    show (i : Int) < _
    omega
theorem putM_sm {l : List S25} {m : S25} (hs : ∀ x ∈ l, SmM x) (hm : SmM m) : ∀ x ∈ putM l m, SmM x := by
  intro x hx
  unfold putM at hx
  by_cases h : 0 ≤ idxF (pNam m.f0) l
  · rw [if_pos h] at hx
    rcases List.mem_or_eq_of_mem_set hx with hx | rfl
    · exact hs x hx
    · exact hm
  · rw [if_neg h] at hx
    rcases List.mem_append.1 hx with hx | hx
    · exact hs x hx
    · rw [List.mem_singleton.1 hx]; exact hm
theorem putM_cons (x : S25) (l : List S25) (m : S25) : putM (x :: l) m = if pNam m.f0 x = true then m :: l else x :: putM l m := by
  unfold putM
  rw [idxF_cons]
  by_cases h : pNam m.f0 x = true
  · rw [if_pos h, if_pos h, if_pos (by decide)]; rfl
  · rw [if_neg h, if_neg h]
    generalize idxF (pNam m.f0) l = q
    by_cases h2 : 0 ≤ q
    · rw [if_pos h2, if_pos h2, if_pos (by omega), show (q + 1).toNat = q.toNat + 1 by omega]; rfl
    · rw [if_neg h2, if_neg h2, if_neg (by decide)]; rfl
theorem y4j (l : List S25) (m : S25) (hl : l.length ≤ 1000) (hs : ∀ x ∈ l, SmM x) (hm : SmM m) : Ev (fun k => zq1a.f k l m.f0 m.f1 m.f2 m.f3 m.f4 m.f5) (finR (putM l m)) := by
  unfold zq1a.f
  refine Ev.congr (fun k => if_pos (by simp only [List.length_nil]; omega)) ?_
  refine Ev.bind (show Ev (fun _ => some l) l from Ev.now l) ?_
  refine Ev.bind (show Ev (fun k => zq1y.f k l m.f0) (idxF (pNam m.f0) l) from Ev.is rfl) ?_
  have hsm := putM_sm hs hm
  by_cases h : 0 ≤ idxF (pNam m.f0) l
  · have hlt := idxF_lt _ _ h
    have hp : putM l m = l.set (idxF (pNam m.f0) l).toNat m := if_pos h
    refine Ev.congr (fun k => by rw [if_pos h, if_pos h, if_pos hlt]) ?_
    refine Ev.bind (show Ev (fun _ => some (l.set (idxF (pNam m.f0) l).toNat m)) (putM l m) by rw [hp]; exact Ev.now _) ?_
    refine Ev.bind (y30 (putM l m) hsm) ?_
    unfold finR
    exact Ev.ite (fun h => by rw [if_pos h]; exact Ev.now _) (fun h => by rw [if_neg h]; exact Ev.now _)
  · have hp : putM l m = l ++ [m] := if_neg h
    refine Ev.congr (fun k => by rw [if_neg h, if_pos (by omega)]) ?_
    refine Ev.bind (show Ev (fun _ => some (l ++ [m])) (putM l m) by rw [hp]; exact Ev.now _) ?_
    refine Ev.bind (y30 (putM l m) hsm) ?_
    unfold finR
    exact Ev.ite (fun h => by rw [if_pos h]; exact Ev.now _) (fun h => by rw [if_neg h]; exact Ev.now _)
theorem rrepl_l0 (l : List S25) (m : S25) (hl : l.length ≤ 1000) (hs : ∀ x ∈ l, SmM x) (hm : SmM m) (d : Nat) : ∀ (i : Nat) (out : List S25) (dn : Bool), i + d = l.length → out.length ≤ i → (∀ x ∈ out, SmM x) →
    Ev (fun k => zqc.l0 k l out dn (i : Int) m.f0 m.f1 m.f2 m.f3 m.f4 m.f5) (finR (out ++ (if dn = true then l.drop i else putM (l.drop i) m))) := by
  induction d with
  | zero =>
    intro i out dn hi ho hsm
    rw [List.drop_eq_nil_of_le (by omega)]
    by_cases h : dn = true
    · rw [if_pos h, List.append_nil]
      refine Ev.step (f := fun k => (zqq.f k out).bind fun t => if t = 0 then some (out, 0) else some (([] : List S25), t)) (fun k => by rw [zqc.l0, if_neg (by omega), if_pos h]) ?_
      refine Ev.bind (y4m out (by omega) hsm) ?_
      unfold finR
      exact Ev.ite (fun h => by rw [if_pos h]; exact Ev.now _) (fun h => by rw [if_neg h]; exact Ev.now _)
    · rw [if_neg h, show putM [] m = [m] from rfl]
      have hsm2 : ∀ x ∈ out ++ [m], SmM x := by
        intro x hx
        rcases List.mem_append.1 hx with hx | hx
        · exact hsm x hx
        · rw [List.mem_singleton.1 hx]; exact hm
      refine Ev.step (f := fun k => (some (out ++ [m])).bind fun y => (zqq.f k y).bind fun t => if t = 0 then some (y, 0) else some (([] : List S25), t)) (fun k => by rw [zqc.l0, if_neg (by omega), if_neg h, if_pos (by omega)]) ?_
      refine Ev.bind (Ev.now (out ++ [m])) ?_
      refine Ev.bind (y4m (out ++ [m]) (by rw [List.length_append, List.length_singleton]; omega) hsm2) ?_
      unfold finR
      exact Ev.ite (fun h => by rw [if_pos h]; exact Ev.now _) (fun h => by rw [if_neg h]; exact Ev.now _)
  | succ d ih =>
    intro i out dn hi ho hsm
    have hlt : i < l.length := by omega
    have hx := rd25 l i hlt
    have hsx := hs l[i] (List.getElem_mem hlt)
    have app : ∀ y, SmM y → (∀ x ∈ out ++ [y], SmM x) := by
      intro y hy x hx
      rcases List.mem_append.1 hx with hx | hx
      · exact hsm x hx
      · rw [List.mem_singleton.1 hx]; exact hy
    have h1 := ih (i + 1) (out ++ [l[i]]) dn (by omega) (by rw [List.length_append, List.length_singleton]; omega) (app _ hsx)
    have h2 := ih (i + 1) (out ++ [m]) true (by omega) (by rw [List.length_append, List.length_singleton]; omega) (app _ hm)
    rw [List.append_assoc] at h1 h2
    rw [List.drop_eq_getElem_cons hlt, putM_cons, y3r]
    by_cases hn : bs l[i].f0 = bs m.f0
    · by_cases hd : dn = true
      · rw [if_pos hd] at h1 ⊢
        refine Ev.step (fun k => ?_) h1
        rw [zqc.l0, if_pos (by omega), if_pos (by omega), hx, if_pos (by rw [y5i, y5i]; exact hn), if_pos hd, if_pos (by omega), Obj.i64_nat i (by omega)]
      · rw [if_neg hd, if_pos (by rw [hn]; exact beq_self_eq_true _)]
        rw [if_pos rfl] at h2
        refine Ev.step (fun k => ?_) h2
        rw [zqc.l0, if_pos (by omega), if_pos (by omega), hx, if_pos (by rw [y5i, y5i]; exact hn), if_neg hd, if_pos (by omega), Obj.i64_nat i (by omega)]
    · have hstep : Ev (fun k => zqc.l0 k l out dn (i : Int) m.f0 m.f1 m.f2 m.f3 m.f4 m.f5) _ := Ev.step (fun k => by rw [zqc.l0, if_pos (by omega), if_pos (by omega), hx, if_neg (by rw [y5i, y5i]; exact hn), if_pos (by omega), Obj.i64_nat i (by omega)]) h1
      refine Ev.eq hstep ?_
      by_cases hd : dn = true
      · rw [if_pos hd, if_pos hd]; rfl
      · rw [if_neg hd, if_neg hd, if_neg (by rw [beq_eq_false_iff_ne.2 hn]; decide)]; rfl
theorem rreplace_is (l : List S25) (m : S25) (hl : l.length ≤ 1000) (hs : ∀ x ∈ l, SmM x) (hm : SmM m) : Ev (fun k => zqc.f k l m.f0 m.f1 m.f2 m.f3 m.f4 m.f5) (finR (putM l m)) := by
  have h := rrepl_l0 l m hl hs hm l.length 0 [] false (by omega) (Nat.le_refl _) (fun x hx => by cases hx)
  rw [List.drop_zero, if_neg (by decide), List.nil_append] at h
  exact h
theorem y32 : ∀ (l : List S25) (seen : List (List UInt8)), libR seen l = 0 → ∀ q (hq : q < l.length), bs l[q].f0 ∉ seen ∧ ∀ j (hj : j < q), bs l[j].f0 ≠ bs l[q].f0
  | [], _, _ => fun q hq => absurd hq (Nat.not_lt_zero _)
  | a :: l, seen, h => by
    unfold libR at h
    by_cases h0 : chk a = 0
    · rw [if_pos h0] at h
      by_cases h1 : seen.any (fun n => n == bs a.f0) = true
      · rw [if_pos h1] at h; exact absurd h (by decide)
      · rw [if_neg h1] at h
        have ih := y32 l _ h
        intro q hq
        cases q with
        | zero =>
          refine ⟨fun hm => h1 ?_, fun j hj => absurd hj (Nat.not_lt_zero _)⟩
          rw [List.any_eq_true]
          exact ⟨_, hm, beq_self_eq_true _⟩
        | succ q =>
          have hq2 : q < l.length := by simpa using hq
          obtain ⟨i1, i2⟩ := ih q hq2
          refine ⟨fun hm => i1 (List.mem_append_left _ hm), fun j hj => ?_⟩
          cases j with
          | zero => exact fun e => i1 (List.mem_append_right _ (List.mem_singleton.2 e.symm))
          | succ j => exact i2 j (by omega)
    · rw [if_neg h0] at h; exact absurd h h0
theorem putM_self {l : List S25} (h : libC l = 0) (q : Nat) (hq : q < l.length) : putM l l[q] = l := by
  have h0 : libR [] l = 0 := by
    unfold libC at h
    by_cases h1 : l.length > 32
    · rw [if_pos h1] at h; exact absurd h (by decide)
    · rwa [if_neg h1] at h
  obtain ⟨_, hn⟩ := y32 l [] h0 q hq
  have hi : idxF (pNam l[q].f0) l = q := y2i _ _ q hq (fun j hj hjq => by rw [y3r]; exact beq_eq_false_iff_ne.2 (hn j hjq)) (by rw [y3r]; exact beq_self_eq_true _)
  unfold putM
  rw [hi, if_pos (by omega), Int.toNat_natCast, List.set_getElem_self]
end Go.Proofs.Ytenlmckahaniiaa.Lb
end
section
namespace Go.Proofs.Ytenlmckahaniiaa.Lb
open Go Go.RowKit Go.Proofs.Ytenlmckahaniiaa.K Go.Proofs.YtW.P Go.Proofs.YtW.M Go.Proofs.Ytenlmckahaniiaa.MyBits Go.Proofs.Ytenlmckahaniiaa.MyStr Go.Proofs.Ytenlmckahaniiaa.Oct Go.Proofs.Ytenlmckahaniiaa.Obj
theorem finR_sm {o : List S25} (h : ∀ x ∈ o, SmM x) : ∀ x ∈ (finR o).1, x.f4.length ≤ 1000000 ∧ x.f5.length ≤ 1000000 := by
  unfold finR
  intro x hx
  by_cases hc : libC o = 0
  · rw [if_pos hc] at hx
    exact ⟨by have := (h x hx).n4; omega, by have := (h x hx).n5; omega⟩
  · rw [if_neg hc] at hx; cases hx
theorem finR_len (o : List S25) : (finR o).1.length ≤ o.length := by
  unfold finR
  by_cases hc : libC o = 0
  · rw [if_pos hc]; exact Nat.le_refl _
  · rw [if_neg hc]; exact Nat.zero_le _
theorem putM_len (l : List S25) (m : S25) : (putM l m).length ≤ l.length + 1 := by
  unfold putM
  split
  · rw [List.length_set]; omega
  · rw [List.length_append, List.length_singleton]; omega
end Go.Proofs.Ytenlmckahaniiaa.Lb
namespace Go.Proofs.Ytenlmckahaniiaa.Pure
open Go Go.RowKit Go.Proofs.Ytenlmckahaniiaa.K Go.Proofs.YtW.P Go.Proofs.YtW.M Go.Proofs.Ytenlmckahaniiaa.MyBits Go.Proofs.Ytenlmckahaniiaa.MyStr Go.Proofs.Ytenlmckahaniiaa.Oct Go.Proofs.Ytenlmckahaniiaa.Obj Go.Proofs.Ytenlmckahaniiaa.Lb
theorem LibraryReplaces : zq0.Pure := by
  intro l0 a0 a1 a2 a3 l4 l5 at_ _ _ _ _ _ _ _ hat
  refine Ev.rounds ?_
  unfold zq0.f
  obtain ⟨b, hb, hs⟩ := great_is l0
  refine Ev.bind hb ?_
  refine Ev.ite (fun h => Ev.now _) (fun h => ?_)
  have hS := hs (Bool.eq_false_iff.mpr h)
  obtain ⟨b1, hb1, hs1⟩ := great_is [(⟨a0, a1, a2, a3, l4, l5⟩ : S25)]
  refine Ev.bind hb1 ?_
  refine Ev.ite (fun h => Ev.now _) (fun h1 => ?_)
  have hS1 := hs1 (Bool.eq_false_iff.mpr h1)
  have hm : SmM ⟨a0, a1, a2, a3, l4, l5⟩ := hS1.m _ List.mem_cons_self
  have n0 := hS.n
  obtain ⟨m, hmm⟩ : ∃ m : S25, m = ⟨a0, a1, a2, a3, l4, l5⟩ := ⟨_, rfl⟩
  rw [← hmm] at hm
  have hsm := putM_sm hS.m hm
  have hrep := y4j l0 m (by omega) hS.m hm
  have hrrep := rreplace_is l0 m (by omega) hS.m hm
  rw [hmm] at hrep hrrep
  rw [hmm] at hsm
  refine Ev.bind hrep ?_
  refine Ev.bind hrrep ?_
  refine Ev.bind (y4z (finR (putM l0 ⟨a0, a1, a2, a3, l4, l5⟩)).1 (by have := finR_len (putM l0 ⟨a0, a1, a2, a3, l4, l5⟩); have := putM_len l0 ⟨a0, a1, a2, a3, l4, l5⟩; omega) (finR_sm hsm)) ?_
  refine Ev.congr (fun k => by rw [if_pos rfl, if_pos rfl]) ?_
  by_cases hn : (l0.length : Int) = 0
  · exact Ev.congr (fun k => if_pos hn) Lb.alive_end
  refine Ev.congr (fun k => if_neg hn) ?_
  refine Ev.bind (y4m l0 (by omega) hS.m) ?_
  by_cases hc : libC l0 = 0
  · refine Ev.congr (fun k => if_pos hc) ?_
    have h8 : 0 ≤ at_ ∧ at_ < 256 := by
      simp only [Lit.wf, IntKind.min, IntKind.max, IntKind.signed, IntKind.bits, Bool.and_eq_true, decide_eq_true_eq] at hat
      have h5 := hat.1; have h7 := hat.2
      simp at h5 h7
      omega
    have hw : wrap64 at_ = at_ := by unfold wrap64; omega
    rw [hw]
    obtain ⟨q, hq⟩ : ∃ q : Nat, (q : Int) = Int.tmod at_ (l0.length : Int) := ⟨(Int.tmod at_ (l0.length : Int)).toNat, by have := Int.tmod_nonneg (l0.length : Int) h8.1; omega⟩
    have hql : q < l0.length := by have := Int.tmod_lt_of_pos at_ (show (0 : Int) < l0.length by omega); omega
    rw [← hq, rd25 l0 q hql]
    refine Ev.congr (fun k => by rw [if_pos (by omega), if_pos (by omega)]) ?_
    have hself := y4j l0 l0[q] (by omega) hS.m (hS.m _ (List.getElem_mem hql))
    rw [putM_self hc q hql, show finR l0 = (l0, 0) from if_pos hc] at hself
    refine Ev.bind hself ?_
    refine Ev.congr (fun k => if_pos rfl) ?_
    refine Ev.bind (y4z l0 (by omega) (fun x hx => ⟨by have := (hS.m x hx).n4; omega, by have := (hS.m x hx).n5; omega⟩)) ?_
    exact Ev.congr (fun k => if_pos rfl) Lb.alive_end
  · exact Ev.congr (fun k => if_neg hc) Lb.alive_end
end Go.Proofs.Ytenlmckahaniiaa.Pure
end
