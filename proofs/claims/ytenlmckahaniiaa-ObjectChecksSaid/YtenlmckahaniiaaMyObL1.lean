/- The law ObjectChecks. -/
import Derived.Test.YtenlmckahaniiaaMyObL0
import Derived.Test.YtenlmckahaniiaaMyObA
import Derived.Test.YtenlmckahaniiaaMyObR
import Derived.Test.YtenlmckahaniiaaKlObjectChecks
import Derived.Test.YtenlmckahaniiaaKx33
set_option linter.unusedVariables false
set_option linter.unusedSimpArgs false
namespace Go.Proofs.Ytenlmckahaniiaa.Pure
open Go Go.RowKit Go.Proofs.Ytenlmckahaniiaa.K Go.Proofs.YtenlmckahaniiaaW.PrintWords Go.Proofs.YtenlmckahaniiaaW.PrintMore Go.Proofs.Ytenlmckahaniiaa.MyStr Go.Proofs.Ytenlmckahaniiaa.Oct Go.Proofs.Ytenlmckahaniiaa.Obj

theorem ObjectChecks : emulatorlaw28_ObjectChecks.Pure := by
  intro a0 a1 a2 a3 l4 l5 _ _ _ _ _ _
  refine Ev.rounds ?_
  unfold emulatorlaw28_ObjectChecks.f
  obtain ⟨b, hb, hs⟩ := small_is a0 a1 a2 a3 l4 l5
  refine Ev.bind hb ?_
  refine Ev.ite (fun h => ?_) (fun h => Ev.now _)
  have hS := hs h
  refine Ev.bind (check_is a0 a1 a2 a3 l4 l5 hS.fine (by have := hS.h4; omega) (by have := hS.h5; omega)) ?_
  refine Ev.bind (rcheck_is a0 a1 a2 a3 l4 l5 hS.fine (by have := hS.h4; omega) (by have := hS.h5; omega)) ?_
  exact Ev.congr (fun k => if_pos rfl) alive_end
end Go.Proofs.Ytenlmckahaniiaa.Pure
