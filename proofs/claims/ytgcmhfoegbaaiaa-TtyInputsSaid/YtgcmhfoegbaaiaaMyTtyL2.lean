/- The law TtyInputs. -/
import Derived.Test.YtgcmhfoegbaaiaaMyTtyL
import Derived.Test.YtgcmhfoegbaaiaaMyTtyC
import Derived.Test.YtgcmhfoegbaaiaaKlTtyInputs
import Derived.Test.YtgcmhfoegbaaiaaKx23
set_option linter.unusedVariables false
set_option linter.unusedSimpArgs false
namespace Go.Proofs.Ytgcmhfoegbaaiaa.Pure
open Go Go.RowKit Go.Proofs.Ytgcmhfoegbaaiaa.K Go.Proofs.YtgcmhfoegbaaiaaW.PrintWords Go.Proofs.YtgcmhfoegbaaiaaW.PrintMore Go.Proofs.Ytgcmhfoegbaaiaa.MyBits Go.Proofs.Ytgcmhfoegbaaiaa.MyStr Go.Proofs.Ytgcmhfoegbaaiaa.Tty

theorem ok_len {x : St} (h : OkS x) : x.2.2.1.length ≤ 4611686018427387904 := by have := h.hl; omega
theorem TtyInputs : emulatorlaw43_TtyInputs.Pure := by
  intro r t l o b ht hl ho hb
  refine Ev.rounds ?_
  unfold emulatorlaw43_TtyInputs.f
  refine Ev.bind (good_is r t l o) ?_
  cases h : (fairB t l o && okB r t l o) with
  | false => exact Ev.congr (fun k => if_neg (by decide)) alive_end
  | true =>
    rw [Bool.and_eq_true, ok_iff] at h
    have hi := inp_ok h.2 (c := b % 256) (by omega) (by omega)
    refine Ev.congr (fun k => if_pos rfl) ?_
    refine Ev.bind (input_is h.2 b) (Ev.bind (rinput_is h.2 b) (Ev.bind (same_is _ _ _ _ (ok_len hi)) ?_))
    refine Ev.congr (fun k => if_pos rfl) ?_
    refine Ev.bind (Ok.right hi) ?_
    exact Ev.congr (fun k => if_pos rfl) alive_end
end Go.Proofs.Ytgcmhfoegbaaiaa.Pure
