/- The law ArbiterOrder. -/
import Derived.Test.YtcicdnleeknjgaaMyArbP
import Derived.Test.YtcicdnleeknjgaaKlArbiterOrder
import Derived.Test.YtcicdnleeknjgaaKx2
import Derived.Test.YtcicdnleeknjgaaKx3
import Derived.Test.YtcicdnleeknjgaaKx4
import Derived.Test.YtcicdnleeknjgaaKx9
set_option linter.unusedVariables false
set_option linter.unusedSimpArgs false
namespace Go.Proofs.Ytcicdnleeknjgaa.Pure
open Go Go.RowKit Go.Sort Go.Proofs.Ytcicdnleeknjgaa.K Go.Proofs.Ytcicdnleeknjgaa.Stab Go.Proofs.Ytcicdnleeknjgaa.ArbW Go.Proofs.YtcicdnleeknjgaaW.PrintWords Go.Proofs.YtcicdnleeknjgaaW.PrintMore Go.Proofs.Ytcicdnleeknjgaa.MyBits

theorem ArbiterOrder : emulatorlaw12_ArbiterOrder.Pure := by
  intro l hl
  refine Ev.rounds ?_
  unfold emulatorlaw12_ArbiterOrder.f
  by_cases h : (l.length : Int) > 60
  · exact Ev.congr (fun k => if_pos h) alive_end
  refine Ev.congr (fun k => if_neg h) ?_
  have h6 := len_of h
  have hs := srt_le l
  have hsl := srt_length l
  -- the count of the valid ones, then the last tests
  have count : ∀ d i, i + d = l.length → Ev (fun k => emulatorlaw12_ArbiterOrder.l1 k l (srt l) (bst (srt l)).2.2 (((l.take i).filter vld).length : Int) (i : Int) (bst (srt l)).1 (bst (srt l)).2.1) true := by
    intro d
    induction d with
    | zero =>
      intro i hi
      rw [List.take_of_length_le (by omega), ← hsl]
      refine Ev.step (f := fun k => (emulatorlaw12_alive.f k).bind fun t => some t) (fun k => ?_) alive_end
      rw [emulatorlaw12_ArbiterOrder.l1, if_neg (by omega), if_pos rfl]
      cases hc : srt l with
      | nil => rw [if_pos (by rfl), if_pos (by rfl)]
      | cons x q =>
        rw [if_pos (by show (true == decide _) = true; rw [decide_eq_true (by rw [List.length_cons]; omega)]; rfl), if_neg (by rw [List.length_cons]; omega), if_pos (by rw [List.length_cons]; omega), if_pos]
        have : rd_T23 (x :: q) 0 = x := rfl
        rw [this]
        simp [bst]
    | succ d ih =>
      intro i hi
      have hil : i < l.length := by omega
      have htk : l.take (i + 1) = l.take i ++ [l[i]] := List.take_succ_eq_append_getElem hil
      have hle := List.length_filter_le vld (l.take i)
      rw [List.length_take] at hle
      have := ih (i + 1) (by omega)
      rw [htk, List.filter_append] at this
      cases hv : vld l[i] with
      | true =>
        rw [List.filter_cons, if_pos hv, List.filter_nil, List.length_append, List.length_singleton] at this
        refine Ev.step (fun k => ?_) this
        rw [emulatorlaw12_ArbiterOrder.l1, if_pos (by omega), if_pos (by omega), valid_at, rd_at l i hil, Option.bind_some, if_pos hv, i64_nat i (by omega), i64_nat _ (by omega)]
      | false =>
        rw [List.filter_cons, if_neg (by rw [hv]; decide), List.filter_nil, List.append_nil] at this
        refine Ev.step (fun k => ?_) this
        rw [emulatorlaw12_ArbiterOrder.l1, if_pos (by omega), if_pos (by omega), valid_at, rd_at l i hil, Option.bind_some, if_neg (by show ¬ vld l[i] = true; rw [hv]; decide), i64_nat i (by omega)]
  -- the list backwards
  have back : ∀ i acc, i ≤ l.length → acc = (l.drop i).reverse → Ev (fun k => emulatorlaw12_ArbiterOrder.l0 k l acc ((i : Int) - 1)) true := by
    intro i
    induction i with
    | zero =>
      intro acc hi ha
      rw [List.drop_zero] at ha
      subst ha
      refine Ev.step (f := fun k => (arbiter_Sort.f k l).bind fun t226 => ((arbiter_Best.f k l).bind fun bt229 => ((arbiter_Best.f k l.reverse).bind fun bt233 => ((arbiter_Sort.f k l.reverse).bind fun t237 => ((emulatorref12_Same.f k t226 t237).bind fun t240 => (if t240 = true then ((arbiter_Sort.f k t226).bind fun t241 => ((emulatorref12_Same.f k t226 t241).bind fun t244 => (if t244 = true then (if (!(bt229.1 == bt233.1) || (!(bt229.2.1 == bt233.2.1))) = true then (none) else (if (bt229.2.2 != bt233.2.2) = true then (none) else (emulatorlaw12_ArbiterOrder.l1 k l t226 bt229.2.2 0 0 bt229.1 bt229.2.1))) else (none)))) else (none))))))) (fun k => by rw [emulatorlaw12_ArbiterOrder.l0, if_neg (by omega)]) ?_
      have hr : l.reverse.length ≤ 1000 := by rw [List.length_reverse]; omega
      have e := srt_reverse l
      refine Ev.bind (sort_is l (by omega)) (Ev.bind (best_is l (by omega)) (Ev.bind (best_is l.reverse hr) (Ev.bind (sort_is l.reverse hr) ?_)))
      rw [e]
      refine Ev.bind (same_is _ (by omega)) (Ev.congr (fun k => if_pos rfl) ?_)
      refine Ev.bind (sort_is (srt l) (by omega)) ?_
      rw [srt_srt]
      refine Ev.bind (same_is _ (by omega)) (Ev.congr (fun k => (if_pos rfl).trans ((if_neg (by simp)).trans (if_neg (by simp)))) ?_)
      exact count l.length 0 (by omega)
    | succ i ih =>
      intro acc hi ha
      have hil : i < l.length := by omega
      have hd : (l.drop i).reverse = (l.drop (i + 1)).reverse ++ [l[i]] := by rw [List.drop_eq_getElem_cons hil, List.reverse_cons]
      have hal : acc.length ≤ l.length := by rw [ha, List.length_reverse, List.length_drop]; omega
      have e1 : ((i + 1 : Nat) : Int) - 1 = (i : Int) := by omega
      have e2 : wrap64 ((i : Int) - 1) = (i : Int) - 1 := by unfold wrap64; omega
      refine Ev.step (fun k => ?_) (ih (acc ++ [l[i]]) (by omega) (by rw [hd, ha]))
      rw [e1, emulatorlaw12_ArbiterOrder.l0, if_pos (by omega), if_pos (by omega), if_pos (by omega), if_pos (by omega), rd_at l i hil, e2]
  have e3 : wrap64 ((l.length : Int) - 1) = (l.length : Int) - 1 := by unfold wrap64; omega
  rw [e3]
  exact back l.length [] (Nat.le_refl _) (by rw [List.drop_eq_nil_of_le (Nat.le_refl _)]; rfl)
end Go.Proofs.Ytcicdnleeknjgaa.Pure
