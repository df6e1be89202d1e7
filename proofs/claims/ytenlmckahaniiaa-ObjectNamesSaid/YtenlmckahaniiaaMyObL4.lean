/- The law ObjectNames. -/
import Derived.Test.YtenlmckahaniiaaMyObL0
import Derived.Test.YtenlmckahaniiaaMyObM
import Derived.Test.YtenlmckahaniiaaKlObjectNames
import Derived.Test.YtenlmckahaniiaaKx51
set_option linter.unusedVariables false
set_option linter.unusedSimpArgs false
namespace Go.Proofs.Ytenlmckahaniiaa.Pure
open Go Go.RowKit Go.Proofs.Ytenlmckahaniiaa.K Go.Proofs.YtenlmckahaniiaaW.PrintWords Go.Proofs.YtenlmckahaniiaaW.PrintMore Go.Proofs.Ytenlmckahaniiaa.MyStr Go.Proofs.Ytenlmckahaniiaa.Oct Go.Proofs.Ytenlmckahaniiaa.Obj

theorem names_loop (a0 a1 a2 : ByteArray) (a3 : Int) (l4 : List S62) (l5 : List S43) (name : ByteArray) (h4 : l4.length ≤ 1000000) (xs : List ByteArray) (hn : xs.length ≤ 1000000) (d : Nat) : ∀ i : Nat, i + d = xs.length →
    Ev (fun k => emulatorlaw28_ObjectNames.l0 k name xs xs (xs.length : Int) (i : Int) a0 a1 a2 a3 l4 l5) true := by
  induction d with
  | zero =>
    intro i hi
    refine Ev.step (fun k => by rw [emulatorlaw28_ObjectNames.l0, if_neg (by omega), defines_is, Option.bind_some]) ?_
    refine Ev.bind (rdefines_is a0 a1 a2 a3 l4 l5 name h4) ?_
    exact Ev.congr (fun k => if_pos (beq_self_eq_true _)) alive_end
  | succ d ih =>
    intro i hi
    refine Ev.step (fun k => ?_) (ih (i + 1) (by omega))
    rw [emulatorlaw28_ObjectNames.l0, if_pos (by omega), if_pos (by omega), if_pos (by omega), if_pos (by omega), if_pos rfl, Obj.i64_nat i (by omega)]
theorem ObjectNames : emulatorlaw28_ObjectNames.Pure := by
  intro a0 a1 a2 a3 l4 l5 name _ _ _ _ _ _ _
  refine Ev.rounds ?_
  unfold emulatorlaw28_ObjectNames.f
  obtain ⟨b, hb, hs⟩ := small_is a0 a1 a2 a3 l4 l5
  refine Ev.bind hb ?_
  refine Ev.ite (fun h => ?_) (fun h => alive_end)
  have hS := hs h
  refine Ev.ite (fun _ => alive_end) (fun _ => ?_)
  refine Ev.bind (needs_is a0 a1 a2 a3 l4 l5 (by have := hS.h5; omega)) ?_
  refine Ev.bind (rneeds_is a0 a1 a2 a3 l4 l5 (by have := hS.h5; omega)) ?_
  refine Ev.congr (fun k => if_pos rfl) ?_
  have hl : (sofl (needsL l5)).length ≤ 1000000 := by rw [sofl_length]; have := needsL_length l5; have := hS.h5; omega
  have := names_loop a0 a1 a2 a3 l4 l5 name (by have := hS.h4; omega) (sofl (needsL l5)) hl (sofl (needsL l5)).length 0 (by omega)
  exact this
end Go.Proofs.Ytenlmckahaniiaa.Pure
