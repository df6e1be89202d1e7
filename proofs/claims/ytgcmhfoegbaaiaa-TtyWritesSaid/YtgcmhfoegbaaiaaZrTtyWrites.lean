/- The law TtyWrites, as it is stated: the program's functions are walked, the rest is plain Lean. -/
import Derived.OpenShut
import Derived.ProofKit
import Derived.ShutString
import Derived.Test.YtgcmhfoegbaaiaaRows
import Derived.WideShapes
import Derived.Test.YtgcmhfoegbaaiaaZcTw12
set_option linter.unusedVariables false
set_option linter.unusedSimpArgs false
set_option linter.unusedSectionVars false
set_option maxRecDepth 100000
section
namespace Go.Proofs.Ytgcmhfoegbaaiaa.ttyWrites
open Go.ChangeShapes Go.WideShapes Go.ChangeAt Go.RowKit Go.Proofs.Ytgcmhfoegbaaiaa.K
open Go.Proofs.YtW.P
open Go.ChangeMaps (open_string shut_string)
theorem own : ownKnob Try.prog.godebug = none := by kernel_rfl
theorem laidOut : laidOutB Try.prog = true := by kernel_rfl
theorem lifted (os : Os) (started : os.Started) (H : Type) (enc : TypeId × Value → H) :
    ReturnsInHanded {} Try.checked os 9 .any (Rows.ttyWritesSpec.pre6 enc Try.prog Try.f9 Rows.ttyWritesRow.domain false) (Rows.ttyWritesSpec.post enc Try.prog Try.f9 false true false false) := by
  refine returnsInHanded_of_change_sized (C := Try.checked) own started (by kernel_rfl) Try.func9
    (ChangeSpec.witness6 (enc := enc) (C := Try.checked) false ⟨#[], #[.agg #[(.bool false), (.string ⟨#[]⟩), (.slice none 0 0), (.string ⟨#[]⟩)], .string ByteArray.empty, .bool false], []⟩ 8 (by kernel_rfl) (by kernel_rfl) (by kernel_rfl) (by kernel_rfl)) ?_
  intro W base args ds gs before hval0 hW hcnd hsz0 _
  have hsz : (DataW.weightsEach Try.prog (Try.f9.params.toList ++ Rows.ttyWritesSpec.plain.varTypes Try.prog) (ds ++ gs)).all (· ≤ reachBytes) = true := hsz0
  have hval : ∀ (j : Nat) t v, Try.f9.params[j]? = some t → args[j]? = some v → Value.okWide Try.prog W .any base t v := hval0
  have hW' := hW
  obtain ⟨p, q, hA0, hV, rfl, hfz, hnd⟩ := hW
  have hA : DataW.TrodAll enc Try.prog W 0 (fun _ => true) true Try.f9.params.toList args.toList ds p := hA0
  rw [Try.params9] at hA hval hsz
  obtain ⟨v0, vs0, d0, ds0, p0, q0, hargs, rfl, rfl, h0, r0⟩ := trodAll_cons hA
  obtain ⟨v1, vs1, d1, ds1, p1, q1, rfl, rfl, rfl, h1, r1⟩ := trodAll_cons r0
  obtain ⟨v2, vs2, d2, ds2, p2, q2, rfl, rfl, rfl, h2, r2⟩ := trodAll_cons r1
  obtain ⟨rfl, rfl, rfl⟩ := trodAll_nil r2
  obtain rfl : args = #[v0, v1, v2] := by cases args; simp_all
  obtain ⟨rfl, rfl⟩ := trodVars_none hV
  have k0 := h0
  have lt0 : ∀ x ∈ p0, x.block < W.heap.size := by obtain ⟨m, hm⟩ := k0; exact DataW.trod_lt m _ _ _ hm
  obtain ⟨a0_0, a0_1, l0_2, A0_2, c0_2, a0_3, hcs0, hc0_2, hr0_2, wf0_0, wf0_1, wf0_2, wf0_3⟩ : ∃ (a0_0 : Bool) (a0_1 : ByteArray) (l0_2 : List ByteArray) (A0_2 : Option Addr) (c0_2 : Nat) (a0_3 : ByteArray), v0.cells.toList = [.bool a0_0, .string a0_1, .slice A0_2 l0_2.length c0_2, .string a0_3] ∧ l0_2.length ≤ c0_2 ∧ Kd.C Kd.string W A0_2 l0_2.length l0_2 ∧ WfB a0_0 ∧ WfS a0_1 ∧ (WfL WfS) l0_2 ∧ WfS a0_3 := by
    obtain ⟨fuel, hf⟩ := h0
    obtain ⟨⟨y0, y1, y2, y3⟩, hk, ⟨w0, w1, w2, w3⟩⟩ := (Opens.struct (d := (Kd.pair Kd.bool (Kd.pair Kd.string (Kd.pair (Kd.slice 9 Kd.string) Kd.string)))) (wf := (WfP WfB (WfP WfS (WfP (WfL WfS) WfS)))) Try.underlying24 (by kernel_rfl) (OpensF.cons (off := 0) (off' := 1) (Opens.bool Try.underlying4 (by kernel_rfl)) rfl (by kernel_rfl) (OpensF.cons (off := 1) (off' := 2) (Opens.string Try.underlying9 (by kernel_rfl)) rfl (by kernel_rfl) (OpensF.cons (off := 2) (off' := 3) (Opens.slice Try.underlying22 (by kernel_rfl) (Opens.string Try.underlying9 (by kernel_rfl))) rfl (by kernel_rfl) (OpensF.last (off := 3) (Opens.string Try.underlying9 (by kernel_rfl)) rfl))))).op hf
    generalize v0.cells.toList = cs_ at hk ⊢
    obtain ⟨_, _, rfl, rfl, ⟨_, _, rfl, rfl, ⟨_, _, rfl, ⟨A_2, c_2, rfl, l_2, g_2⟩, rfl⟩⟩⟩ := hk
    exact ⟨y0, y1, y2, A_2, c_2, y3, rfl, l_2, g_2, w0, w1, w2, w3⟩
  obtain ⟨cs0, rfl, hz0⟩ := okWide_struct Try.underlying24 (hval 0 24 v0 rfl rfl)
  obtain rfl : cs0 = #[.bool a0_0, .string a0_1, .slice A0_2 l0_2.length c0_2, .string a0_3] := by cases cs0; exact congrArg Array.mk hcs0
  obtain ⟨a1, rfl, rfl, rfl, y1⟩ := open_string Try.underlying9 (hval 1 9 v1 rfl rfl) h1
  have w1 : a1.size ≤ 140737488351232 := by
    have z := sized_string hsz (j := 1) (t := 9) rfl rfl
    rw [Array.length_toList] at z
    exact z
  obtain ⟨a2, rfl, rfl, rfl⟩ := open_bool Try.underlying4 (hval 2 4 v2 rfl rfl) h2
  clear hA0 hval0 hsz0 hsz
  obtain ⟨k, h⟩ := Pure.TtyWrites a0_0 a0_1 l0_2 a0_3 a1 a2 wf0_1 wf0_2 wf0_3 w1
  refine (K.zq1.calls k a0_0 a0_1 _ _ l0_2 a0_3 a1 a2 true W hr0_2 hc0_2 h).mono fun e W' ⟨he, bel0⟩ => ?_
  have bel : Below W.heap.size W W' := bel0
  subst he
  exact ⟨_, rfl, _, _, _, [], _, [], hW', trodAll_mk1 (shut_bool Try.underlying4 _), (trodAll_cons_mk (Below.trod laidOut (by kernel_rfl) (of_decide_eq_true (by kernel_rfl)) k0 bel lt0) (trodAll_cons_mk (shut_string Try.underlying9 y1) (trodAll_cons_mk (shut_bool Try.underlying4 _) trodAll_mk0))), rfl, bel.frame _, fun h => by cases h⟩
theorem over : Rows.ttyWritesRow.holds Try.pinned (OpenSpec.ofChange Rows.ttyWritesSpec) :=
  OpenClaim.holds_of_wide 9 Try.f9 rfl rfl rfl rfl rfl rfl rfl ⟨rfl, rfl, rfl, rfl, rfl⟩ rfl rfl rfl rfl rfl (by kernel_rfl) Try.func9 (by kernel_rfl)
    (of_decide_eq_true (by kernel_rfl)) (by unfold Func.isWrapper; first | (rw [if_pos (by decide +kernel)]; kernel_rfl) | (rw [if_neg (by decide +kernel)]; exact ⟨rfl, rfl⟩))
    (fun os started H enc _ => lifted os started H enc)
theorem proved : Rows.TtyWritesSaid := over
end Go.Proofs.Ytgcmhfoegbaaiaa.ttyWrites
namespace Go.Proofs.Ytgcmhfoegbaaiaa
theorem ttyWrites_holds : Rows.TtyWritesSaid := ttyWrites.proved
end Go.Proofs.Ytgcmhfoegbaaiaa
end
