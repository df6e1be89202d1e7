/- object: the chapter's examples, as the laws run them. -/
import Derived.Test.YtenlmckahaniiaaMyObN
import Derived.Test.YtenlmckahaniiaaKx8
import Derived.Test.YtenlmckahaniiaaKx18
import Derived.Test.YtenlmckahaniiaaKx22
import Derived.Test.YtenlmckahaniiaaKx32
set_option linter.unusedVariables false
set_option linter.unusedSimpArgs false
namespace Go.Proofs.Ytenlmckahaniiaa.Obj
open Go Go.RowKit Go.Proofs.Ytenlmckahaniiaa.K Go.Proofs.YtenlmckahaniiaaW.PrintWords Go.Proofs.YtenlmckahaniiaaW.PrintMore Go.Proofs.Ytenlmckahaniiaa.MyStr Go.Proofs.Ytenlmckahaniiaa.Oct

theorem alive_enc : object_Encode.f 300 (⟨#[109]⟩ : ByteArray) (⟨#[]⟩ : ByteArray) (⟨#[]⟩ : ByteArray) 0 ([] : List (S62)) ([] : List (S43)) = some ((⟨#[79, 66, 74, 49, 1, 0, 109, 0, 0, 0, 0, 0, 0, 0, 0, 0, 0, 22, 213, 14, 38]⟩ : ByteArray), 0) := by decide +kernel
theorem alive_dec : (object_Decode.f 300 (⟨#[79, 66, 74, 49, 1, 0, 109, 0, 0, 0, 0, 0, 0, 0, 0, 0, 0, 22, 213, 14, 38]⟩ : ByteArray)).map (fun bt => (bt.1, bt.2.2.2.2.2.2)) = some ((⟨#[109]⟩ : ByteArray), 0) := by decide +kernel
theorem alive_c1 : object_Check.f 300 (⟨#[109]⟩ : ByteArray) (⟨#[120]⟩ : ByteArray) (⟨#[]⟩ : ByteArray) 0 ([] : List (S62)) ([] : List (S43)) = some 1 := by decide +kernel
theorem alive_c2 : object_Check.f 300 (⟨#[109]⟩ : ByteArray) (⟨#[120, 120]⟩ : ByteArray) (⟨#[]⟩ : ByteArray) 0 ([] : List (S62)) (([(⟨1, 2, 1, (⟨#[]⟩ : ByteArray), false⟩ : S43)] : List (S43))) = some 2 := by decide +kernel
def aliveR : List S43 := [(⟨0, 0, 4, (⟨#[98]⟩ : ByteArray), false⟩ : S43), (⟨0, 0, 4, (⟨#[97]⟩ : ByteArray), false⟩ : S43), (⟨0, 0, 4, (⟨#[98]⟩ : ByteArray), false⟩ : S43)]
theorem alive_needs : needsL aliveR = [[97], [98]] := by
  refine Asc.unique (needsL_asc _) (by unfold Asc; simp only [List.pairwise_cons]; exact ⟨by simp; decide, by simp, List.Pairwise.nil⟩) (fun x => ?_)
  rw [needsL_mem, show extL aliveR = [[98], [97], [98]] by decide]
  simp only [List.mem_cons, List.not_mem_nil, or_false]
  constructor
  · rintro (h | h | h) <;> simp [h]
  · rintro (h | h) <;> simp [h]
theorem alive_is : Ev (fun k => emulatorlaw28_alive.f k) true := by
  unfold emulatorlaw28_alive.f
  refine Ev.bind (Ev.of (fun k => object_Encode.mono _ _ _ _ _ _ k) alive_enc) ?_
  obtain ⟨bt, hbt, he⟩ := Option.map_eq_some_iff.1 alive_dec
  refine Ev.bind (Ev.of (fun k => object_Decode.mono _ k) hbt) ?_
  have e1 : bt.1 = ⟨#[109]⟩ := congrArg Prod.fst he
  have e2 : bt.2.2.2.2.2.2 = 0 := congrArg Prod.snd he
  refine Ev.bind (needs_is _ _ _ _ [] aliveR (by decide)) ?_
  rw [alive_needs]
  refine Ev.congr (fun k => by rw [if_pos (by decide), if_pos (by decide), if_pos (by rw [e1, toList_bs]; rfl), if_pos e2, if_pos (by decide), if_pos (by decide), if_pos (by rw [toList_bs]; rfl), if_pos (by decide), if_pos (by rw [toList_bs]; rfl)]) ?_
  refine Ev.bind (Ev.of (fun k => object_Check.mono _ _ _ _ _ _ k) alive_c1) ?_
  refine Ev.congr (fun k => if_pos rfl) ?_
  refine Ev.bind (Ev.of (fun k => object_Check.mono _ _ _ _ _ _ k) alive_c2) ?_
  exact Ev.now _
theorem alive_end : Ev (fun k => (emulatorlaw28_alive.f k).bind fun t => some t) true := Ev.bind alive_is (Ev.now true)
end Go.Proofs.Ytenlmckahaniiaa.Obj
