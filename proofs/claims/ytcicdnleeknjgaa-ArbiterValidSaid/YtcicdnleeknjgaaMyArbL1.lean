/- The law ArbiterValid. -/
import Derived.Test.YtcicdnleeknjgaaMyArbP
import Derived.Test.YtcicdnleeknjgaaKlArbiterValid
import Derived.Test.YtcicdnleeknjgaaKx4
set_option linter.unusedVariables false
set_option linter.unusedSimpArgs false
namespace Go.Proofs.Ytcicdnleeknjgaa.Pure
open Go Go.RowKit Go.Sort Go.Proofs.Ytcicdnleeknjgaa.K Go.Proofs.Ytcicdnleeknjgaa.Stab Go.Proofs.Ytcicdnleeknjgaa.ArbW Go.Proofs.YtcicdnleeknjgaaW.PrintWords Go.Proofs.YtcicdnleeknjgaaW.PrintMore Go.Proofs.Ytcicdnleeknjgaa.MyBits

theorem ArbiterValid : emulatorlaw12_ArbiterValid.Pure := by
  intro a b ha hb
  refine Ev.rounds ?_
  unfold emulatorlaw12_ArbiterValid.f
  refine Ev.congr (f := fun k => (emulatorlaw12_alive.f k).bind fun t => some t) (fun k => ?_) alive_end
  rw [valid_at, rvalid_at, Option.bind_some, Option.bind_some, if_pos (by simp)]
end Go.Proofs.Ytcicdnleeknjgaa.Pure
