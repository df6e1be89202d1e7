-- Printed by a program of this session: the row of the law ArbiterValid.
import Derived.Test.YtcicdnleeknjgaaRows
import Derived.Test.YtcicdnleeknjgaaKlArbiterValid
import Derived.Test.YtcicdnleeknjgaaPureArbiterValid
import Derived.WalkKit
import Derived.ProofKit
import Derived.OpenShut
import Derived.ShutString
import Derived.ChangeOld
import Derived.Below
import Derived.Carry
import Derived.SizedLaws
import Derived.WideShapes
namespace Go.Proofs.Ytcicdnleeknjgaa.arbiterValid
open Go.ChangeShapes Go.WideShapes Go.ChangeAt Go.RowKit Go.Proofs.Ytcicdnleeknjgaa.K
open Go.Proofs.YtcicdnleeknjgaaW.PrintWords
open Go.ChangeMaps (open_string shut_string)
set_option linter.unusedVariables false
theorem own : ownKnob Try.prog.godebug = none := by kernel_rfl
theorem laidOut : laidOutB Try.prog = true := by kernel_rfl
set_option maxRecDepth 100000 in
theorem lifted (os : Os) (started : os.Started) (H : Type) (enc : TypeId × Value → H) :
    ReturnsInHanded {} Try.checked os 3 .any (Rows.arbiterValidSpec.pre6 enc Try.prog Try.f3 Rows.arbiterValidRow.domain false) (Rows.arbiterValidSpec.post enc Try.prog Try.f3 false true false false) := by
  refine returnsInHanded_of_change_sized (C := Try.checked) own started (by kernel_rfl) Try.func3
    (ChangeSpec.witness6 (enc := enc) (C := Try.checked) false ⟨#[], #[.agg #[(.int .i64 0), (.int .i64 0)]], []⟩ 8 (by kernel_rfl) (by kernel_rfl) (by kernel_rfl) (by kernel_rfl)) ?_
  intro W base args ds gs before hval0 hW hcnd hsz0 _
  have hsz : (DataW.weightsEach Try.prog (Try.f3.params.toList ++ Rows.arbiterValidSpec.plain.varTypes Try.prog) (ds ++ gs)).all (· ≤ reachBytes) = true := hsz0
  have hval : ∀ (j : Nat) t v, Try.f3.params[j]? = some t → args[j]? = some v → Value.okWide Try.prog W .any base t v := hval0
  have hW' := hW
  obtain ⟨p, q, hA0, hV, rfl, hfz, hnd⟩ := hW
  have hA : DataW.TrodAll enc Try.prog W 0 (fun _ => true) true Try.f3.params.toList args.toList ds p := hA0
  rw [Try.params3] at hA hval hsz
  obtain ⟨v0, vs0, d0, ds0, p0, q0, hargs, rfl, rfl, h0, r0⟩ := trodAll_cons hA
  obtain ⟨rfl, rfl, rfl⟩ := trodAll_nil r0
  obtain rfl : args = #[v0] := by cases args; simp_all
  obtain ⟨rfl, rfl⟩ := trodVars_none hV
  have k0 := h0
  have lt0 : ∀ x ∈ p0, x.block < W.heap.size := by obtain ⟨m, hm⟩ := k0; exact DataW.trod_lt m _ _ _ hm
  obtain ⟨a0_0, a0_1, hcs0, wf0_0, wf0_1⟩ : ∃ (a0_0 : Int) (a0_1 : Int), v0.cells.toList = [.int .i64 a0_0, .int .i64 a0_1] ∧ (WfI .i64) a0_0 ∧ (WfI .i64) a0_1 := by
    obtain ⟨fuel, hf⟩ := h0
    obtain ⟨⟨y0, y1⟩, hk, ⟨w0, w1⟩⟩ := (Opens.struct (d := (Kd.pair (Kd.int .i64) (Kd.int .i64))) (wf := (WfP (WfI .i64) (WfI .i64))) Try.underlying23 (by kernel_rfl) (OpensF.cons (off := 0) (off' := 1) (Opens.int Try.underlying3 (by kernel_rfl)) rfl (by kernel_rfl) (OpensF.last (off := 1) (Opens.int Try.underlying3 (by kernel_rfl)) rfl))).op hf
    generalize v0.cells.toList = cs_ at hk ⊢
    obtain ⟨_, _, rfl, rfl, rfl⟩ := hk
    exact ⟨y0, y1, rfl, w0, w1⟩
  obtain ⟨cs0, rfl, hz0⟩ := okWide_struct Try.underlying23 (hval 0 23 v0 rfl rfl)
  obtain rfl : cs0 = #[.int .i64 a0_0, .int .i64 a0_1] := by cases cs0; exact congrArg Array.mk hcs0
  clear hA0 hval0 hsz0 hsz
  obtain ⟨k, h⟩ := Pure.ArbiterValid a0_0 a0_1 wf0_0 wf0_1
  refine (K.emulatorlaw12_ArbiterValid.calls k a0_0 a0_1 true W  h).mono fun e W' ⟨he, bel0⟩ => ?_
  have bel : Below W.heap.size W W' := bel0
  subst he
  exact ⟨_, rfl, _, _, _, [], _, [], hW', trodAll_mk1 (shut_bool Try.underlying4 _), (trodAll_cons_mk (Below.trod laidOut (by kernel_rfl) (of_decide_eq_true (by kernel_rfl)) k0 bel lt0) trodAll_mk0), rfl, bel.frame _, fun h => by cases h⟩
theorem over : Rows.arbiterValidRow.holds Try.pinned (OpenSpec.ofChange Rows.arbiterValidSpec) :=
  OpenClaim.holds_of_wide 3 Try.f3 rfl rfl rfl rfl rfl rfl rfl ⟨rfl, rfl, rfl, rfl, rfl⟩ rfl rfl rfl rfl rfl (by kernel_rfl) Try.func3 (by kernel_rfl)
    (of_decide_eq_true (by kernel_rfl)) (by unfold Func.isWrapper; first | (rw [if_pos (by decide +kernel)]; kernel_rfl) | (rw [if_neg (by decide +kernel)]; exact ⟨rfl, rfl⟩))
    (fun os started H enc _ => lifted os started H enc)
theorem proved : Rows.ArbiterValidSaid := over
#print axioms proved
end Go.Proofs.Ytcicdnleeknjgaa.arbiterValid
namespace Go.Proofs.Ytcicdnleeknjgaa
/-- The row, under a short name, for the claim. -/
theorem arbiterValid_holds : Rows.ArbiterValidSaid := arbiterValid.proved
end Go.Proofs.Ytcicdnleeknjgaa
