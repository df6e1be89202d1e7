/- The law ObjectCanonical. -/
import Derived.Test.YtenlmckahaniiaaMyObL0
import Derived.Test.YtenlmckahaniiaaMyObF
import Derived.Test.YtenlmckahaniiaaKx48
set_option linter.unusedVariables false
set_option linter.unusedSimpArgs false
namespace Go.Proofs.Ytenlmckahaniiaa.Pure
open Go Go.RowKit Go.Proofs.Ytenlmckahaniiaa.K Go.Proofs.YtenlmckahaniiaaW.PrintWords Go.Proofs.YtenlmckahaniiaaW.PrintMore Go.Proofs.Ytenlmckahaniiaa.MyStr Go.Proofs.Ytenlmckahaniiaa.Oct Go.Proofs.Ytenlmckahaniiaa.Obj
theorem ObjectCanonical : emulatorlaw28_ObjectCanonical.Pure := by
  intro s hs
  refine Ev.rounds ?_
  unfold emulatorlaw28_ObjectCanonical.f
  refine Ev.ite (fun _ => alive_end) (fun h => ?_)
  refine Ev.bind (rseal_is s (by omega)) ?_
  have hz : (mkS (seal_ (bs s))).size ≤ 3004 := by rw [mkS_size, seal_length, bs_length]; omega
  refine Ev.bind (decode_is _ (by omega)) ?_
  rw [bs_mkS]
  rcases decR_cases (seal_ (bs s)) with ⟨h1, h2⟩ | ⟨h1, h2, h3, _⟩
  · exact Ev.congr (fun k => if_neg h1) alive_end
  · have hV := valid_of h2
    refine Ev.congr (fun k => if_pos h1) ?_
    refine Ev.bind (encode_is (m := (decR (seal_ (bs s))).1) hV.fine (Nat.le_trans hV.n4 (by omega)) (Nat.le_trans hV.n5 (by omega))) ?_
    have he : encR (decR (seal_ (bs s))).1 = (seal_ (bs s), 0) := by
      unfold encR; rw [if_pos h2, ← h3]
    rw [he]
    refine Ev.congr (fun k => by rw [if_pos rfl, if_pos rfl]) ?_
    refine Ev.bind (check_m (m := (decR (seal_ (bs s))).1) hV.fine (Nat.le_trans hV.n4 (by omega)) (Nat.le_trans hV.n5 (by omega))) ?_
    exact Ev.congr (fun k => if_pos h2) alive_end
end Go.Proofs.Ytenlmckahaniiaa.Pure
