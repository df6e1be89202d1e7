/- The law TtyReads. -/
import Derived.Test.YtgcmhfoegbaaiaaMyTtyL
import Derived.Test.YtgcmhfoegbaaiaaMyTtyR
import Derived.Test.YtgcmhfoegbaaiaaKlTtyReads
import Derived.Test.YtgcmhfoegbaaiaaKx25
set_option linter.unusedVariables false
set_option linter.unusedSimpArgs false
namespace Go.Proofs.Ytgcmhfoegbaaiaa.Pure
open Go Go.RowKit Go.Proofs.Ytgcmhfoegbaaiaa.K Go.Proofs.YtgcmhfoegbaaiaaW.PrintWords Go.Proofs.YtgcmhfoegbaaiaaW.PrintMore Go.Proofs.Ytgcmhfoegbaaiaa.MyBits Go.Proofs.Ytgcmhfoegbaaiaa.MyStr Go.Proofs.Ytgcmhfoegbaaiaa.Tty

theorem TtyReads : emulatorlaw43_TtyReads.Pure := by
  intro r t l o n ht hl ho hn
  refine Ev.rounds ?_
  unfold emulatorlaw43_TtyReads.f
  refine Ev.bind (good_is r t l o) ?_
  cases h : (fairB t l o && okB r t l o) with
  | false => exact Ev.congr (fun k => if_neg (by decide)) alive_end
  | true =>
    rw [Bool.and_eq_true, ok_iff] at h
    have hl16 := h.2.hl
    refine Ev.congr (fun k => if_pos rfl) ?_
    have hlen : (rdr r t l o n).2.2.1.length ≤ 1000 := by
      unfold rdr
      split
      · exact Nat.zero_le _
      · split
        · exact Nat.zero_le _
        · rw [List.length_cons] at hl16
          split
          · show (_ :: _).length ≤ 1000; rw [List.length_cons]; omega
          · split
            · show (_ :: _).length ≤ 1000; rw [List.length_cons]; omega
            · exact Nat.le_trans (Nat.le_of_succ_le hl16) (by decide)
    refine Ev.bind (a := rdr r t l o n) (Ev.congr (fun k => read_is r t l o n (by omega) h.2.small) (Ev.now _)) (Ev.bind (a := rdr r t l o n) (Ev.congr (fun k => rread_is r t l o n (by omega) h.2.small) (Ev.now _)) (Ev.bind (same_is _ _ _ _ (by omega)) ?_))
    refine Ev.congr (fun k => (if_pos rfl).trans ((if_pos rfl).trans (if_pos rfl))) ?_
    by_cases h0 : (rdr r t l o n).2.2.2.2.2 = 0
    · refine Ev.congr (fun k => if_pos h0) ?_
      refine Ev.bind (Ok.right (read_ok h.2 n h0)) ?_
      exact Ev.congr (fun k => if_pos rfl) alive_end
    · exact Ev.congr (fun k => if_neg h0) alive_end
end Go.Proofs.Ytgcmhfoegbaaiaa.Pure
