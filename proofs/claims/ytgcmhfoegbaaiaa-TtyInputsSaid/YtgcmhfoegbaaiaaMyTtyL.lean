/- tty: the examples, whether a state is good. -/
import Derived.Test.YtgcmhfoegbaaiaaMyTtyB
import Derived.Test.YtgcmhfoegbaaiaaKx4
import Derived.Test.YtgcmhfoegbaaiaaKx11
set_option linter.unusedVariables false
set_option linter.unusedSimpArgs false
namespace Go.Proofs.Ytgcmhfoegbaaiaa.Pure
open Go Go.RowKit Go.Proofs.Ytgcmhfoegbaaiaa.K Go.Proofs.YtgcmhfoegbaaiaaW.PrintWords Go.Proofs.YtgcmhfoegbaaiaaW.PrintMore Go.Proofs.Ytgcmhfoegbaaiaa.MyBits Go.Proofs.Ytgcmhfoegbaaiaa.MyStr Go.Proofs.Ytgcmhfoegbaaiaa.Tty

theorem alive_k : emulatorlaw43_alive.f 400 = some true := by decide +kernel
theorem alive_is : Ev (fun k => emulatorlaw43_alive.f k) true := Ev.of (fun k => emulatorlaw43_alive.mono k) alive_k
theorem alive_end : Ev (fun k => (emulatorlaw43_alive.f k).bind fun t => some t) true := Ev.bind alive_is (Ev.now true)
theorem fair_small {t : ByteArray} {l : List ByteArray} {o : ByteArray} (h : fairB t l o = true) : l.length ≤ 20 ∧ t.size ≤ 300 ∧ o.size ≤ 300 ∧ Small l := by
  unfold fairB at h
  rw [Bool.and_eq_true, Bool.and_eq_true, Bool.and_eq_true, decide_eq_true_eq, decide_eq_true_eq, decide_eq_true_eq, allN_iff] at h
  refine ⟨h.1, h.2.1, h.2.2.1, fun x hx => ?_⟩
  obtain ⟨j, hj, rfl⟩ := List.getElem_of_mem hx
  have := h.2.2.2 j (by omega) (by omega)
  rw [decide_eq_true_eq] at this
  unfold rdOf at this
  rw [show ((j : Int)).toNat = j by omega, List.getD_eq_getElem?_getD, List.getElem?_eq_getElem hj] at this
  have h2 : (l[j]).size ≤ 100 := this
  omega
/-- Whether a state is fair and valid. -/
theorem good_is (r : Bool) (t : ByteArray) (l : List ByteArray) (o : ByteArray) : Ev (fun k => emulatorlaw43_good.f k r t l o) (fairB t l o && okB r t l o) := by
  unfold emulatorlaw43_good.f
  refine Ev.bind (fair_is r t l o) ?_
  cases h : fairB t l o with
  | false => exact Ev.congr (f := fun _ => some false) (fun k => by rw [if_neg (by decide)]) (Ev.now _)
  | true =>
    refine Ev.congr (fun k => if_pos rfl) ?_
    rw [Bool.true_and]
    exact Ev.bind (right_is r t l o (fair_small h).2.2.2) (Ev.now _)
end Go.Proofs.Ytgcmhfoegbaaiaa.Pure
