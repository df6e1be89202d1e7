/- Lemmas for several laws: what their proofs need of this seat's texts, in one place. -/
import Derived.Test.YtenlmckahaniiaaZcLess15
set_option linter.unusedVariables false
set_option linter.unusedSimpArgs false
set_option linter.unusedSectionVars false
section
namespace Go.Proofs.Ytenlmckahaniiaa.Obj
open Go Go.RowKit Go.Proofs.Ytenlmckahaniiaa.K Go.Proofs.YtenlmckahaniiaaW.PrintWords Go.Proofs.YtenlmckahaniiaaW.PrintMore Go.Proofs.Ytenlmckahaniiaa.MyStr Go.Proofs.Ytenlmckahaniiaa.Oct
theorem symsR_less (l : List S62) : ∀ (m : List (List UInt8)) (n : Nat), symsR m l = 0 → symsR m (l.take n) = 0 := by
  induction l with
  | nil => intro m n _; rw [List.take_nil]; rfl
  | cons s r ih =>
    intro m n h
    cases n with
    | zero => rfl
    | succ n =>
      rw [List.take_succ_cons]
      unfold symsR at h ⊢
      split at h
      · rename_i h1
        rw [if_pos h1]
        split at h
        · exact absurd h (by decide)
        · rename_i h2
          rw [if_neg h2]
          split at h
          · rename_i h3; rw [if_pos h3]; exact ih _ n h
          · exact absurd h (by decide)
      · exact absurd h (by decide)
def behind (x b : S43) : Prop := x.f0 < b.f0 ∨ (x.f0 = b.f0 ∧ x.f1 ≤ b.f1)
theorem relR_lt {ts ds : Int} {x b : S43} (h : relR ts ds x b = 0) : ¬ behind x b := by
  intro hc
  unfold behind at hc
  unfold relR at h
  rw [if_pos hc] at h
  have two : ∀ (p q : Prop) [Decidable p] [Decidable q], (if p then (2 : Int) else if q then 2 else 2) ≠ 0 := by
    intro p q _ _
    by_cases h1 : p
    · rw [if_pos h1]; decide
    · rw [if_neg h1]
      by_cases h2 : q
      · rw [if_pos h2]; decide
      · rw [if_neg h2]; decide
  exact two _ _ h
theorem relR_swap {ts ds : Int} {y x b : S43} (hb : ¬ behind y b) (h : relR ts ds y x = 0) : relR ts ds y b = 0 := by
  have hx := relR_lt h
  unfold behind at hb hx
  unfold relR at h ⊢
  rw [if_neg hx] at h
  rw [if_neg hb]
  exact h
theorem relsR_less {ts ds : Int} (l : List S43) : ∀ (b : S43) (q : Nat), relsR ts ds b l = 0 → relsR ts ds b (l.take q ++ l.drop (q + 1)) = 0 := by
  induction l with
  | nil => intro b q _; rw [List.take_nil, List.drop_nil]; rfl
  | cons x r ih =>
    intro b q h
    unfold relsR at h
    split at h
    · rename_i h1
      cases q with
      | zero =>
        rw [List.take_zero, List.nil_append, List.drop_succ_cons, List.drop_zero]
        cases r with
        | nil => rfl
        | cons y r =>
          unfold relsR at h ⊢
          split at h
          · rename_i h2
            have h3 := relR_lt h1
            have h4 := relR_lt h2
            rw [if_pos (relR_swap (by unfold behind at *; omega) h2)]
            exact h
          · rename_i h2; exact absurd h h2
      | succ q =>
        rw [List.take_succ_cons, List.drop_succ_cons, List.cons_append]
        unfold relsR
        rw [if_pos h1]
        exact ih x q h
    · rename_i h1; exact absurd h h1
theorem chkLess {a0 a1 a2 : ByteArray} {a3 : Int} {l4 : List S62} {l5 : List S43} (h : checkR a0 a1 a2 a3 l4 l5 = 0) (n q : Nat) : checkR a0 a1 a2 a3 (l4.take n) (l5.take q ++ l5.drop (q + 1)) = 0 := by
  have hn : (l4.take n).length ≤ l4.length := by rw [List.length_take]; omega
  have hq : (l5.take q ++ l5.drop (q + 1)).length ≤ l5.length := by rw [List.length_append, List.length_take, List.length_drop]; omega
  unfold checkR at h ⊢
  split at h
  · rename_i h0
    rw [if_pos h0]
    split at h
    · exact absurd h (by decide)
    · rename_i h1
      rw [if_neg (by omega)]
      split at h
      · exact absurd h (by decide)
      · rename_i h2
        rw [if_neg h2]
        split at h
        · rename_i h3
          rw [if_pos (symsR_less l4 [] n h3)]
          exact relsR_less l5 b0 q h
        · rename_i h3; exact absurd h h3
  · exact absurd h (by decide)
theorem sofl_get (xs : List (List UInt8)) (i : Nat) (h : i < xs.length) : (rdOf ByteArray.empty (sofl xs) (i : Int)).toList = xs[i] := by
  rw [rdOf_get _ _ (by rw [sofl_length]; exact h), toList_bs]
  unfold sofl
  rw [List.getElem_map]; rfl
def fits (xs : List (List UInt8)) (x : S43) : Prop := (xs.any (fun n => n == bs x.f3)) = (x.f2 == 4)
theorem less_l2 (xs : List (List UInt8)) (hx : xs.length ≤ 1000000) (l : List S43) (hl : l.length ≤ 1000000) (i : Nat) (hi : i < l.length) (f0 f1 f2 : Int) (f3 : ByteArray) (f4 : Bool) (hr : Ev (fun k => zq2.l1 k (sofl xs) l (l.length : Int) ((i + 1 : Nat) : Int)) true) (d : Nat) : ∀ (j : Nat) (b : Bool), j + d = xs.length → (b || (xs.drop j).any (fun n => n == bs f3)) = (f2 == 4) →
    Ev (fun k => zq2.l2 k (sofl xs) b l (l.length : Int) (i : Int) (sofl xs) ((sofl xs).length : Int) (j : Int) f0 f1 f2 f3 f4) true := by
  induction d with
  | zero =>
    intro j b hj hb
    rw [List.drop_eq_nil_of_le (by omega), List.any_nil, Bool.or_false] at hb
    exact Ev.step (f := fun k => zq2.l1 k (sofl xs) l (l.length : Int) ((i + 1 : Nat) : Int)) (fun k => by rw [zq2.l2, if_neg (by rw [sofl_length]; omega), hb, if_neg (by simp), i64_nat i (by omega)]) hr
  | succ d ih =>
    intro j b hj hb
    have hlt : j < xs.length := by omega
    rw [List.drop_eq_getElem_cons hlt, List.any_cons] at hb
    cases b with
    | true =>
      refine Ev.step (f := fun k => zq2.l2 k (sofl xs) true l (l.length : Int) (i : Int) (sofl xs) ((sofl xs).length : Int) ((j + 1 : Nat) : Int) f0 f1 f2 f3 f4) (fun k => by rw [zq2.l2, if_pos (by rw [sofl_length]; omega), if_pos (by omega), if_pos (by rw [sofl_length]; omega), if_pos rfl, i64_nat j (by omega)]) (ih (j + 1) true (by omega) ?_)
      rw [← hb, Bool.true_or, Bool.true_or]
    | false =>
      refine Ev.step (f := fun k => zq2.l2 k (sofl xs) (xs[j] == bs f3) l (l.length : Int) (i : Int) (sofl xs) ((sofl xs).length : Int) ((j + 1 : Nat) : Int) f0 f1 f2 f3 f4) (fun k => by rw [zq2.l2, if_pos (by rw [sofl_length]; omega), if_pos (by omega), if_pos (by rw [sofl_length]; omega), if_neg (by decide), sofl_get xs j hlt, toList_bs, i64_nat j (by omega)]) (ih (j + 1) _ (by omega) ?_)
      rw [← hb, Bool.false_or]
theorem less_l1 (xs : List (List UInt8)) (hx : xs.length ≤ 1000000) (l : List S43) (hl : l.length ≤ 1000000) (hf : ∀ x ∈ l, fits xs x) (d : Nat) : ∀ i : Nat, i + d = l.length → Ev (fun k => zq2.l1 k (sofl xs) l (l.length : Int) (i : Int)) true := by
  induction d with
  | zero =>
    intro i hi
    exact Ev.step (f := fun k => (zq6.f k).bind fun t => some t) (fun k => by rw [zq2.l1, if_neg (by omega)]) alive_end
  | succ d ih =>
    intro i hi
    have hlt : i < l.length := by omega
    have h := less_l2 xs hx l hl i hlt l[i].f0 l[i].f1 l[i].f2 l[i].f3 l[i].f4 (ih (i + 1) (by omega)) xs.length 0 false (by omega) (by rw [Bool.false_or, List.drop_zero]; exact hf l[i] (List.getElem_mem hlt))
    exact Ev.step (fun k => by rw [zq2.l1, if_pos (by omega), if_pos (by omega), if_pos (by omega), rd43 l i hlt]; rfl) h
theorem less_l0 (xs : List (List UInt8)) (hx : xs.length ≤ 1000000) (ha : Asc xs) (a0 a1 a2 : ByteArray) (a3 : Int) (l4 : List S62) (l : List S43) (hl : l.length ≤ 1000000) (hf : ∀ x ∈ l, fits xs x) (d : Nat) : ∀ i : Nat, 1 ≤ i → xs.length ≤ i + d → i ≤ 1000001 → Ev (fun k => zq2.l0 k (sofl xs) (i : Int) a0 a1 a2 a3 l4 l) true := by
  have hend : ∀ i : Nat, xs.length ≤ i → Ev (fun k => zq2.l0 k (sofl xs) (i : Int) a0 a1 a2 a3 l4 l) true := fun i hi =>
    Ev.step (f := fun k => zq2.l1 k (sofl xs) l (l.length : Int) ((0 : Nat) : Int)) (fun k => by rw [zq2.l0, if_neg (by rw [sofl_length]; omega)]; rfl) (less_l1 xs hx l hl hf l.length 0 (by omega))
  induction d with
  | zero => intro i h1 hi _; exact hend i (by omega)
  | succ d ih =>
    intro i h1 hi h2
    by_cases hlt : i < xs.length
    · have hw : wrap64 ((i : Int) - 1) = ((i - 1 : Nat) : Int) := by unfold wrap64; omega
      have hp : Op.bytesLess (xs[i - 1]) xs[i] = true := by rw [bytesLess_lt]; exact decide_eq_true (List.pairwise_iff_getElem.1 ha (i - 1) i (by omega) hlt (by omega))
      exact Ev.step (fun k => by rw [zq2.l0, if_pos (by rw [sofl_length]; omega), hw, if_pos (by omega), if_pos (by rw [sofl_length]; omega), if_pos (by omega), sofl_get xs (i - 1) (by omega), sofl_get xs i hlt, if_pos hp, i64_nat i (by omega)]) (ih (i + 1) (by omega) (by omega) (by omega))
    · exact hend i (by omega)
theorem fits_of {a0 a1 a2 : ByteArray} {a3 : Int} {l4 : List S62} {l5 : List S43} (h : checkR a0 a1 a2 a3 l4 l5 = 0) : ∀ x ∈ l5, fits (needsL l5) x := by
  have hV := valid_of (m := ⟨a0, a1, a2, a3, l4, l5⟩) h
  intro x hx
  unfold fits
  have hR := hV.h5 x hx
  by_cases h4 : x.f2 = 4
  · rw [h4, beq_self_eq_true, List.any_eq_true]
    exact ⟨bs x.f3, (needsL_mem l5 _).2 (by unfold extL; exact List.mem_map.2 ⟨x, List.mem_filter.2 ⟨hx, decide_eq_true h4⟩, rfl⟩), beq_self_eq_true _⟩
  · rw [beq_eq_false_iff_ne.2 h4, List.any_eq_false]
    intro n hn he
    have hn := (needsL_mem l5 n).1 hn
    unfold extL at hn
    obtain ⟨y, hy, rfl⟩ := List.mem_map.1 hn
    obtain ⟨hy, hy4⟩ := List.mem_filter.1 hy
    have e : bs y.f3 = bs x.f3 := eq_of_beq he
    rcases (hV.h5 y hy).h3 with ⟨_, h5⟩ | ⟨h5, _⟩
    · rcases hR.h3 with ⟨h6, _⟩ | ⟨_, h6⟩
      · exact h4 h6
      · have := (nm_len h5).1
        rw [← y0f, e, h6] at this
        exact absurd this (by decide)
    · exact h5 (of_decide_eq_true hy4)
theorem less_rest {a0 a1 a2 : ByteArray} {a3 : Int} {l4 : List S62} {l5 : List S43} (h : checkR a0 a1 a2 a3 l4 l5 = 0) (x4 : List S62) (x5 : List S43) (hx : checkR a0 a1 a2 a3 x4 x5 = 0) : Ev (fun k => (zqo.f k a0 a1 a2 a3 x4 x5).bind fun t => (if t = 0 then ((zqp.f k a0 a1 a2 a3 l4 l5).bind fun t => (zq2.l0 k t 1 a0 a1 a2 a3 l4 l5)) else none)) true := by
  have hV := valid_of (m := ⟨a0, a1, a2, a3, l4, l5⟩) h
  have hX := valid_of (m := ⟨a0, a1, a2, a3, x4, x5⟩) hx
  have n5 : l5.length ≤ 2048 := hV.n5
  have m4 : x4.length ≤ 256 := hX.n4
  have m5 : x5.length ≤ 2048 := hX.n5
  refine Ev.bind (hx ▸ check_is a0 a1 a2 a3 x4 x5 hX.fine (by omega) (by omega)) ?_
  refine Ev.congr (fun k => if_pos rfl) ?_
  refine Ev.bind (needs_is a0 a1 a2 a3 l4 l5 (by omega)) ?_
  have hn := needsL_length l5
  exact less_l0 (needsL l5) (by omega) (needsL_asc l5) a0 a1 a2 a3 l4 l5 (by omega) (fits_of h) (needsL l5).length 1 (Nat.le_refl _) (by omega) (by omega)
theorem less_of {a0 a1 a2 : ByteArray} {a3 : Int} {l4 : List S62} {l5 : List S43} (R : Nat → Option Bool) (hR : checkR a0 a1 a2 a3 l4 l5 = 0 → Ev R true) : Ev (fun k => (zq7.f k a0 a1 a2 a3 l4 l5).bind fun t => (if t = true then ((zqo.f k a0 a1 a2 a3 l4 l5).bind fun t => (if t = 0 then R k else ((zq6.f k).bind fun t => some t))) else ((zq6.f k).bind fun t => some t))) true := by
  obtain ⟨b, hb, hs⟩ := small_is a0 a1 a2 a3 l4 l5
  refine Ev.bind hb ?_
  refine Ev.ite (fun h => ?_) (fun h => alive_end)
  have hS := hs h
  refine Ev.bind (check_is a0 a1 a2 a3 l4 l5 hS.fine (by have := hS.h4; omega) (by have := hS.h5; omega)) ?_
  exact Ev.ite (fun h => hR h) (fun _ => alive_end)
end Go.Proofs.Ytenlmckahaniiaa.Obj
namespace Go.Proofs.Ytenlmckahaniiaa.Pure
open Go Go.RowKit Go.Proofs.Ytenlmckahaniiaa.K Go.Proofs.YtenlmckahaniiaaW.PrintWords Go.Proofs.YtenlmckahaniiaaW.PrintMore Go.Proofs.Ytenlmckahaniiaa.MyStr Go.Proofs.Ytenlmckahaniiaa.Oct Go.Proofs.Ytenlmckahaniiaa.Obj
theorem wfu16 {a : Int} (h : (Lit.int .u16 a).wf = true) : 0 ≤ a ∧ a < 65536 := by
  simp only [Lit.wf, IntKind.min, IntKind.max, IntKind.signed, IntKind.bits, Bool.and_eq_true, decide_eq_true_eq] at h
  have h5 := h.1; have h7 := h.2
  simp at h5 h7
  omega
theorem ObjectLess : zq2.Pure := by
  intro a0 a1 a2 a3 l4 l5 b1 _ _ _ _ _ _ hb1
  have hb1 := wfu16 hb1
  refine Ev.rounds ?_
  unfold zq2.f
  have hw4 : (0 : Int) < l4.length → l4.length ≤ 1000000 → wrap64 ((l4.length : Int) - 1) = ((l4.length - 1 : Nat) : Int) := fun h1 h2 => by unfold wrap64; omega
  have hq5 : (0 : Int) < l5.length → l5.length ≤ 1000000 → ∃ q : Nat, Int.tmod (wrap64 b1) (l5.length : Int) = (q : Int) ∧ q < l5.length ∧ wrap64 ((q : Int) + 1) = ((q + 1 : Nat) : Int) := by
    intro h1 h2
    have e : wrap64 b1 = b1 := by unfold wrap64; omega
    have e2 := Int.tmod_eq_emod_of_nonneg (b := (l5.length : Int)) hb1.1
    have e3 := Int.emod_nonneg b1 (show (l5.length : Int) ≠ 0 by omega)
    have e4 := Int.emod_lt_of_pos b1 h1
    refine ⟨(b1 % (l5.length : Int)).toNat, by rw [e, e2]; omega, by omega, by unfold wrap64; omega⟩
  by_cases h4 : (0 : Int) < l4.length
  · by_cases h5 : (0 : Int) < l5.length
    · refine Ev.congr (fun k => by rw [if_pos h4, if_pos h5]) ?_
      unfold zq2.fpp
      refine less_of _ (fun hc => ?_)
      have hV := valid_of (m := ⟨a0, a1, a2, a3, l4, l5⟩) hc
      have n4 : l4.length ≤ 256 := hV.n4
      have n5 : l5.length ≤ 2048 := hV.n5
      obtain ⟨q, e1, e2, e3⟩ := hq5 h5 (by omega)
      refine Ev.congr (fun k => ?_) (less_rest hc (l4.take (l4.length - 1)) (l5.take q ++ l5.drop (q + 1)) (chkLess hc _ _))
      rw [hw4 h4 (by omega), e1, e3, if_pos (by omega), if_pos (by omega), if_neg (by omega), Option.bind_some, if_pos (by omega), if_pos (by omega), Option.bind_some, if_pos (by simp only [List.length_nil, List.length_take]; omega), Option.bind_some, if_pos (by omega), if_pos (by omega), Option.bind_some, if_pos (by simp only [List.length_append, List.length_nil, List.length_take, List.length_drop]; omega)]
      rfl
    · refine Ev.congr (fun k => by rw [if_pos h4, if_neg h5]) ?_
      unfold zq2.fpn
      refine less_of _ (fun hc => ?_)
      have hV := valid_of (m := ⟨a0, a1, a2, a3, l4, l5⟩) hc
      have n4 : l4.length ≤ 256 := hV.n4
      have hl := chkLess hc (l4.length - 1) l5.length
      rw [List.take_length, List.drop_eq_nil_of_le (by omega), List.append_nil] at hl
      refine Ev.congr (fun k => ?_) (less_rest hc (l4.take (l4.length - 1)) l5 hl)
      rw [hw4 h4 (by omega), if_pos (by omega), if_pos (by omega)]
      rfl
  · by_cases h5 : (0 : Int) < l5.length
    · refine Ev.congr (fun k => by rw [if_neg h4, if_pos h5]) ?_
      unfold zq2.fnp
      refine less_of _ (fun hc => ?_)
      have hV := valid_of (m := ⟨a0, a1, a2, a3, l4, l5⟩) hc
      have n5 : l5.length ≤ 2048 := hV.n5
      obtain ⟨q, e1, e2, e3⟩ := hq5 h5 (by omega)
      have hl := chkLess hc l4.length q
      rw [List.take_length] at hl
      refine Ev.congr (fun k => ?_) (less_rest hc l4 (l5.take q ++ l5.drop (q + 1)) hl)
      rw [e1, e3, if_neg (by omega), Option.bind_some, if_pos (by omega), if_pos (by omega), Option.bind_some, if_pos (by simp only [List.length_nil, List.length_take]; omega), Option.bind_some, if_pos (by omega), if_pos (by omega), Option.bind_some, if_pos (by simp only [List.length_append, List.length_nil, List.length_take, List.length_drop]; omega)]
      rfl
    · refine Ev.congr (fun k => by rw [if_neg h4, if_neg h5]) ?_
      unfold zq2.fnn
      exact less_of _ (fun hc => less_rest hc l4 l5 hc)
end Go.Proofs.Ytenlmckahaniiaa.Pure
end
