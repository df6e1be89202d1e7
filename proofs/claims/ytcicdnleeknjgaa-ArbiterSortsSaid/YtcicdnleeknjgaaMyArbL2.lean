/- The law ArbiterSorts. -/
import Derived.Test.YtcicdnleeknjgaaMyArbQ
import Derived.Test.YtcicdnleeknjgaaKlArbiterSorts
import Derived.Test.YtcicdnleeknjgaaKx7
set_option linter.unusedVariables false
set_option linter.unusedSimpArgs false
namespace Go.Proofs.Ytcicdnleeknjgaa.Pure
open Go Go.RowKit Go.Sort Go.Proofs.Ytcicdnleeknjgaa.K Go.Proofs.Ytcicdnleeknjgaa.Stab Go.Proofs.Ytcicdnleeknjgaa.ArbW Go.Proofs.YtcicdnleeknjgaaW.PrintWords Go.Proofs.YtcicdnleeknjgaaW.PrintMore Go.Proofs.Ytcicdnleeknjgaa.MyBits

theorem ArbiterSorts : emulatorlaw12_ArbiterSorts.Pure := by
  intro l hl
  refine Ev.rounds ?_
  unfold emulatorlaw12_ArbiterSorts.f
  by_cases h : (l.length : Int) > 60
  · exact Ev.congr (fun k => if_pos h) alive_end
  refine Ev.congr (fun k => if_neg h) ?_
  have h6 : l.length ≤ 1000 := by have := len_of h; omega
  have hs := srt_le l
  refine Ev.bind (best_is l h6) (Ev.bind (rbest_is l h6) (Ev.bind (sort_is l h6) (Ev.bind (rsort_is l h6) (Ev.bind (same_is _ (by omega)) ?_))))
  exact Ev.congr (fun k => (if_pos rfl).trans ((if_pos (by simp)).trans (if_pos (by simp)))) alive_end
end Go.Proofs.Ytcicdnleeknjgaa.Pure
