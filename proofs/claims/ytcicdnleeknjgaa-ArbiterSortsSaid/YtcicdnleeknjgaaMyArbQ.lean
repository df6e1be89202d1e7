/- arbiter: the reference's functions. -/
import Derived.Test.YtcicdnleeknjgaaMyArbP
import Derived.Test.YtcicdnleeknjgaaKx5
import Derived.Test.YtcicdnleeknjgaaKx6
import Derived.Test.YtcicdnleeknjgaaKx7
set_option linter.unusedVariables false
set_option linter.unusedSimpArgs false
namespace Go.Proofs.Ytcicdnleeknjgaa.Pure
open Go Go.RowKit Go.Sort Go.Proofs.Ytcicdnleeknjgaa.K Go.Proofs.Ytcicdnleeknjgaa.Stab Go.Proofs.Ytcicdnleeknjgaa.ArbW Go.Proofs.YtcicdnleeknjgaaW.PrintWords Go.Proofs.YtcicdnleeknjgaaW.PrintMore Go.Proofs.Ytcicdnleeknjgaa.MyBits

theorem vld_252 (x : S23) : vld x = true → x.f1 ≤ 252 := by
  unfold vld
  rw [Bool.and_eq_true, Bool.and_eq_true, Bool.and_eq_true, Bool.and_eq_true, decide_eq_true_eq, decide_eq_true_eq, decide_eq_true_eq, decide_eq_true_eq]
  intro h; exact h.2.2.2.1
def rk (v : Int) : Int := if v = 64 then 0 else if v = 160 then 1 else if v = 164 then 2 else wrap64 (3 + v)
theorem rank_is (v : Int) : emulatorref12_rank.f v = some (rk v) := by
  unfold emulatorref12_rank.f rk
  repeat' split
  all_goals rfl
theorem rk_lt {a b : Int} (ha : 4 ≤ a) (ha2 : a ≤ 252) (hb : 4 ≤ b) (hb2 : b ≤ 252) : rk a < rk b ↔ placeZ a < placeZ b := by
  have ea : wrap64 (3 + a) = 3 + a := wrap64_id (by omega) (by omega)
  have eb : wrap64 (3 + b) = 3 + b := wrap64_id (by omega) (by omega)
  unfold rk placeZ
  rw [ea, eb]
  repeat' split
  all_goals omega
theorem before_is {x y : S23} (hx : vld x = true) (hy : vld y = true) : emulatorref12_Before.f x.f0 x.f1 y.f0 y.f1 = some (ltOf cfS x y) := by
  have a := vld_iff x hx
  have b := vld_iff y hy
  have h := rk_lt a.2.2 (vld_252 x hx) b.2.2 (vld_252 y hy)
  unfold emulatorref12_Before.f
  by_cases he : x.f0 = y.f0
  · rw [if_pos he, rank_is, rank_is, Option.bind_some, Option.bind_some]
    congr 1
    rw [Bool.eq_iff_iff, decide_eq_true_eq, h, lt_iff]
    omega
  · rw [if_neg he]
    congr 1
    rw [Bool.eq_iff_iff, decide_eq_true_eq, lt_iff]
    omega
theorem ins_sorted {out : List S23} {x : S23} {q : Nat} (hs : out.Pairwise LE) (h1 : ∀ j (hj : j < out.length), q ≤ j → ltOf cfS x out[j] = true) (h2 : ∀ (h : 0 < q) (hq : q - 1 < out.length), ltOf cfS x out[q - 1] = false) (hq : q ≤ out.length) :
    (([] ++ out.take q) ++ [x] ++ out.drop q).Pairwise LE := by
  rw [List.nil_append]
  have hs' := hs
  rw [← List.take_append_drop q out, List.pairwise_append] at hs'
  obtain ⟨p1, p2, p3⟩ := hs'
  have hidx := List.pairwise_iff_getElem.1 hs
  have ax : ∀ a ∈ out.take q, LE a x := by
    intro a ha
    obtain ⟨j, hj, rfl⟩ := List.getElem_of_mem ha
    rw [List.length_take] at hj
    rw [List.getElem_take]
    have hl := h2 (by omega) (by omega)
    by_cases hjq : j = q - 1
    · subst hjq; exact hl
    · exact le_trans (hidx j (q - 1) (by omega) (by omega) (by omega)) hl
  have xb : ∀ b ∈ out.drop q, LE x b := by
    intro b hb
    obtain ⟨j, hj, rfl⟩ := List.getElem_of_mem hb
    rw [List.length_drop] at hj
    rw [List.getElem_drop]
    exact swo.asymmA (h1 (q + j) (by omega) (by omega))
  rw [List.pairwise_append, List.pairwise_append]
  refine ⟨⟨p1, List.pairwise_singleton _ _, fun a ha b hb => ?_⟩, p2, fun a ha b hb => ?_⟩
  · rw [List.mem_singleton.1 hb]; exact ax a ha
  · rcases List.mem_append.1 ha with h | h
    · exact p3 a h b hb
    · rw [List.mem_singleton.1 h]; exact xb b hb
theorem ins_perm (out : List S23) (x : S23) (q : Nat) : (([] ++ out.take q) ++ [x] ++ out.drop q).Perm (out ++ [x]) := by
  rw [List.nil_append, List.append_assoc, List.singleton_append]
  refine List.perm_middle.trans ?_
  rw [List.take_append_drop]
  exact (List.perm_append_singleton x out).symm
theorem rsort_is (l : List S23) (hl : l.length ≤ 1000) : Ev (fun k => emulatorref12_Sort.f k l) (srt l) := by
  unfold emulatorref12_Sort.f
  have key : ∀ d i out, i + d = l.length → out.Perm ((l.take i).filter vld) → out.Pairwise LE → Ev (fun k => emulatorref12_Sort.l0 k l out (i : Int)) (srt l) := by
    intro d
    induction d with
    | zero =>
      intro i out hi hp hs
      rw [List.take_of_length_le (by omega)] at hp
      rw [← srt_eq hp hs]
      exact Ev.step (f := fun _ => some out) (fun k => by rw [emulatorref12_Sort.l0, if_neg (by omega)]) (Ev.now _)
    | succ d ih =>
      intro i out hi hp hs
      have hil : i < l.length := by omega
      have htk : l.take (i + 1) = l.take i ++ [l[i]] := List.take_succ_eq_append_getElem hil
      have hol : out.length ≤ 1000 := by
        have h1 := hp.length_eq
        have h2 := List.length_filter_le vld (l.take i)
        rw [List.length_take] at h2
        omega
      cases hv : vld l[i] with
      | false =>
        refine Ev.step (fun k => ?_) (ih (i + 1) out (by omega) (by rw [htk, List.filter_append, List.filter_cons, if_neg (by rw [hv]; decide), List.filter_nil, List.append_nil]; exact hp) hs)
        rw [emulatorref12_Sort.l0, if_pos (by omega), if_pos (by omega), rvalid_at, rd_at l i hil, Option.bind_some, if_neg (by show ¬ vld l[i] = true; rw [hv]; decide), i64_nat i (by omega)]
      | true =>
        have hov : ∀ y ∈ out, vld y = true := fun y hy => (List.mem_filter.1 (hp.subset hy)).2
        have inner : ∀ q, q ≤ out.length → (∀ j (hj : j < out.length), q ≤ j → ltOf cfS l[i] out[j] = true) → Ev (fun k => emulatorref12_Sort.l1 k l out (i : Int) (q : Int)) (srt l) := by
          have fin : ∀ q, q ≤ out.length → (∀ j (hj : j < out.length), q ≤ j → ltOf cfS l[i] out[j] = true) → (∀ (h : 0 < q) (hq : q - 1 < out.length), ltOf cfS l[i] out[q - 1] = false) →
              Ev (fun k => emulatorref12_Sort.l0 k l (([] ++ out.take q) ++ [l[i]] ++ out.drop q) ((i + 1 : Nat) : Int)) (srt l) := by
            intro q hq h1 h2
            refine ih (i + 1) _ (by omega) ?_ (ins_sorted hs h1 h2 hq)
            rw [htk, List.filter_append, List.filter_cons, if_pos hv, List.filter_nil]
            exact (ins_perm out l[i] q).trans (hp.append_right _)
          intro q
          induction q with
          | zero =>
            intro hq h1
            refine Ev.step (fun k => ?_) (fin 0 hq h1 (fun h => absurd h (by decide)))
            rw [emulatorref12_Sort.l1, if_neg (by omega), if_pos (by omega), if_pos (by omega), Option.bind_some]
            simp only [show ((((0 : Nat) : Int)).toNat) = 0 by rfl]
            rw [if_pos (by simp), Option.bind_some, if_pos (by omega), if_pos (by omega), if_pos (by simp), rd_at l i hil, Option.bind_some, Option.bind_some, if_pos (by simp; omega), i64_nat i (by omega)]
          | succ q ihq =>
            intro hq h1
            have hqo : q < out.length := by omega
            have e1 : wrap64 (((q + 1 : Nat) : Int) - 1) = (q : Int) := by unfold wrap64; omega
            have hb := before_is hv (hov _ (List.getElem_mem hqo))
            cases hlt : ltOf cfS l[i] out[q] with
            | true =>
              refine Ev.step (fun k => ?_) (ihq (by omega) (fun j hj hqj => if h : j = q then by subst h; exact hlt else h1 j hj (by omega)))
              rw [emulatorref12_Sort.l1, if_pos (by omega), if_pos (by omega), if_pos (by omega), e1, if_pos (by omega), if_pos (by omega), rd_at l i hil, rd_at out q hqo, hb, Option.bind_some, if_pos hlt]
            | false =>
              refine Ev.step (fun k => ?_) (fin (q + 1) hq h1 (fun _ _ => hlt))
              rw [emulatorref12_Sort.l1, if_pos (by omega), if_pos (by omega), if_pos (by omega), e1, if_pos (by omega), if_pos (by omega), rd_at l i hil, rd_at out q hqo, hb, Option.bind_some, if_neg (by rw [hlt]; decide), if_pos (by omega), if_pos (by omega), Option.bind_some]
              simp only [show (((q + 1 : Nat) : Int)).toNat = q + 1 by omega]
              rw [if_pos (by simp; omega), Option.bind_some, if_pos (by simp; omega), Option.bind_some, Option.bind_some, if_pos (by simp; omega), i64_nat i (by omega)]
        refine Ev.step (fun k => ?_) (inner out.length (Nat.le_refl _) (fun j hj h => by omega))
        rw [emulatorref12_Sort.l0, if_pos (by omega), if_pos (by omega), rvalid_at, rd_at l i hil, Option.bind_some, if_pos hv]
  exact key l.length 0 [] (by omega) (List.Perm.refl _) List.Pairwise.nil
theorem rbest_is (l : List S23) (hl : l.length ≤ 1000) : Ev (fun k => emulatorref12_Best.f k l) (bst (srt l)) := by
  unfold emulatorref12_Best.f
  refine Ev.bind (rsort_is l hl) ?_
  cases h : srt l with
  | nil => exact Ev.congr (f := fun _ => some (bst [])) (fun k => if_pos (by rfl)) (Ev.now _)
  | cons x q => exact Ev.congr (f := fun _ => some (bst (x :: q))) (fun k => (if_neg (by rw [List.length_cons]; omega)).trans (if_pos (by rw [List.length_cons]; omega))) (Ev.now _)
theorem rgrant_is (l : List S23) (hl : l.length ≤ 1000) (a : Int) : Ev (fun k => emulatorref12_Grant.f k l a) (grt (srt l) (prio a)) := by
  unfold emulatorref12_Grant.f
  refine Ev.bind (rbest_is l hl) ?_
  cases h : srt l with
  | nil => exact Ev.congr (f := fun _ => some (grt [] (prio a))) (fun k => if_neg (by show ¬ (false : Bool) = true; decide)) (Ev.now _)
  | cons x q =>
    refine Ev.congr (f := fun _ => some (grt (x :: q) (prio a))) (fun k => (if_pos rfl).trans ?_) (Ev.now _)
    rw [rprio_is, Option.bind_some]
    unfold grt bst
    dsimp only
    by_cases hp : x.f0 > prio a
    · rw [if_neg (by omega), if_pos hp]
    · rw [if_pos (by omega), if_neg hp]
end Go.Proofs.Ytcicdnleeknjgaa.Pure
