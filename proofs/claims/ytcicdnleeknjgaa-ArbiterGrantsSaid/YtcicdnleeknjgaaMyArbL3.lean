/- The law ArbiterGrants. -/
import Derived.Test.YtcicdnleeknjgaaMyArbQ
import Derived.Test.YtcicdnleeknjgaaKlArbiterGrants
import Derived.Test.YtcicdnleeknjgaaKx8
set_option linter.unusedVariables false
set_option linter.unusedSimpArgs false
namespace Go.Proofs.Ytcicdnleeknjgaa.Pure
open Go Go.RowKit Go.Sort Go.Proofs.Ytcicdnleeknjgaa.K Go.Proofs.Ytcicdnleeknjgaa.Stab Go.Proofs.Ytcicdnleeknjgaa.ArbW Go.Proofs.YtcicdnleeknjgaaW.PrintWords Go.Proofs.YtcicdnleeknjgaaW.PrintMore Go.Proofs.Ytcicdnleeknjgaa.MyBits

theorem ArbiterGrants : emulatorlaw12_ArbiterGrants.Pure := by
  intro l a hl ha
  refine Ev.rounds ?_
  unfold emulatorlaw12_ArbiterGrants.f
  by_cases h : (l.length : Int) > 60
  · exact Ev.congr (fun k => if_pos h) alive_end
  refine Ev.congr (fun k => if_neg h) ?_
  have h6 : l.length ≤ 1000 := by have := len_of h; omega
  refine Ev.bind (grant_is l h6 a) (Ev.bind (rgrant_is l h6 a) ?_)
  exact Ev.congr (fun k => (if_pos (by simp)).trans (if_pos (by simp))) alive_end
end Go.Proofs.Ytcicdnleeknjgaa.Pure
