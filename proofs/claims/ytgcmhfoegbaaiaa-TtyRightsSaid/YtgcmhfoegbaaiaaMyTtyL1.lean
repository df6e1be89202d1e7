/- The law TtyRights. -/
import Derived.Test.YtgcmhfoegbaaiaaMyTtyL
import Derived.Test.YtgcmhfoegbaaiaaKlTtyRights
import Derived.Test.YtgcmhfoegbaaiaaKx20
set_option linter.unusedVariables false
set_option linter.unusedSimpArgs false
namespace Go.Proofs.Ytgcmhfoegbaaiaa.Pure
open Go Go.RowKit Go.Proofs.Ytgcmhfoegbaaiaa.K Go.Proofs.YtgcmhfoegbaaiaaW.PrintWords Go.Proofs.YtgcmhfoegbaaiaaW.PrintMore Go.Proofs.Ytgcmhfoegbaaiaa.MyBits Go.Proofs.Ytgcmhfoegbaaiaa.MyStr Go.Proofs.Ytgcmhfoegbaaiaa.Tty

theorem TtyRights : emulatorlaw43_TtyRights.Pure := by
  intro r t l o ht hl ho
  refine Ev.rounds ?_
  unfold emulatorlaw43_TtyRights.f
  refine Ev.bind (fair_is r t l o) ?_
  cases h : fairB t l o with
  | false => exact Ev.congr (fun k => if_neg (by decide)) alive_end
  | true =>
    obtain ⟨h1, h2, h3, h4⟩ := fair_small h
    refine Ev.congr (fun k => if_pos rfl) ?_
    refine Ev.bind (tright_is r t l o h4 (by omega) (by omega)) (Ev.bind (right_is r t l o h4) ?_)
    refine Ev.congr (fun k => if_pos (by simp)) ?_
    refine Ev.bind (Ev.now _) (Ev.bind (Ev.now _) (Ev.bind (same_is _ _ _ _ (Nat.zero_le _)) ?_))
    exact Ev.congr (fun k => if_pos rfl) alive_end
end Go.Proofs.Ytgcmhfoegbaaiaa.Pure
