/- The law ObjectLess, as it is stated: the program's functions are walked, the rest is plain Lean. -/
import Derived.OpenShut
import Derived.ProofKit
import Derived.ShutString
import Derived.Test.YtenlmckahaniiaaRows
import Derived.WideShapes
import Derived.Test.YtenlmckahaniiaaZcLess16
set_option linter.unusedVariables false
set_option linter.unusedSimpArgs false
set_option linter.unusedSectionVars false
set_option maxRecDepth 100000
section
namespace Go.Proofs.Ytenlmckahaniiaa.objectLess
open Go.ChangeShapes Go.WideShapes Go.ChangeAt Go.RowKit Go.Proofs.Ytenlmckahaniiaa.K
open Go.Proofs.YtenlmckahaniiaaW.PrintWords
open Go.ChangeMaps (open_string shut_string)
theorem own : ownKnob Try.prog.godebug = none := by kernel_rfl
theorem laidOut : laidOutB Try.prog = true := by kernel_rfl
theorem lifted (os : Os) (started : os.Started) (H : Type) (enc : TypeId × Value → H) :
    ReturnsInHanded {} Try.checked os 8 .any (Rows.objectLessSpec.pre6 enc Try.prog Try.f8 Rows.objectLessRow.domain false) (Rows.objectLessSpec.post enc Try.prog Try.f8 false true false false) := by
  refine returnsInHanded_of_change_sized (C := Try.checked) own started (by kernel_rfl) Try.func8
    (ChangeSpec.witness6 (enc := enc) (C := Try.checked) false ⟨#[], #[.agg #[(.string ⟨#[]⟩), (.string ⟨#[]⟩), (.string ⟨#[]⟩), (.int .i64 0), (.slice none 0 0), (.slice none 0 0)], .int .u16 0], []⟩ 8 (by kernel_rfl) (by kernel_rfl) (by kernel_rfl) (by kernel_rfl)) ?_
  intro W base args ds gs before hval0 hW hcnd hsz0 _
  have hsz : (DataW.weightsEach Try.prog (Try.f8.params.toList ++ Rows.objectLessSpec.plain.varTypes Try.prog) (ds ++ gs)).all (· ≤ reachBytes) = true := hsz0
  have hval : ∀ (j : Nat) t v, Try.f8.params[j]? = some t → args[j]? = some v → Value.okWide Try.prog W .any base t v := hval0
  have hW' := hW
  obtain ⟨p, q, hA0, hV, rfl, hfz, hnd⟩ := hW
  have hA : DataW.TrodAll enc Try.prog W 0 (fun _ => true) true Try.f8.params.toList args.toList ds p := hA0
  rw [Try.params8] at hA hval hsz
  obtain ⟨v0, vs0, d0, ds0, p0, q0, hargs, rfl, rfl, h0, r0⟩ := trodAll_cons hA
  obtain ⟨v1, vs1, d1, ds1, p1, q1, rfl, rfl, rfl, h1, r1⟩ := trodAll_cons r0
  obtain ⟨rfl, rfl, rfl⟩ := trodAll_nil r1
  obtain rfl : args = #[v0, v1] := by cases args; simp_all
  obtain ⟨rfl, rfl⟩ := trodVars_none hV
  have k0 := h0
  have lt0 : ∀ x ∈ p0, x.block < W.heap.size := by obtain ⟨m, hm⟩ := k0; exact DataW.trod_lt m _ _ _ hm
  obtain ⟨a0_0, a0_1, a0_2, a0_3, l0_4, A0_4, c0_4, l0_5, A0_5, c0_5, hcs0, hc0_4, hr0_4, hc0_5, hr0_5, wf0_0, wf0_1, wf0_2, wf0_3, wf0_4, wf0_5⟩ : ∃ (a0_0 : ByteArray) (a0_1 : ByteArray) (a0_2 : ByteArray) (a0_3 : Int) (l0_4 : List (S62)) (A0_4 : Option Addr) (c0_4 : Nat) (l0_5 : List (S43)) (A0_5 : Option Addr) (c0_5 : Nat), v0.cells.toList = [.string a0_0, .string a0_1, .string a0_2, .int .i64 a0_3, .slice A0_4 l0_4.length c0_4, .slice A0_5 l0_5.length c0_5] ∧ l0_4.length ≤ c0_4 ∧ Kd.C k62 W A0_4 l0_4.length l0_4 ∧ l0_5.length ≤ c0_5 ∧ Kd.C k43 W A0_5 l0_5.length l0_5 ∧ WfS a0_0 ∧ WfS a0_1 ∧ WfS a0_2 ∧ (WfI .i64) a0_3 ∧ (WfL wf62) l0_4 ∧ (WfL wf43) l0_5 := by
    obtain ⟨fuel, hf⟩ := h0
    obtain ⟨⟨y0, y1, y2, y3, y4, y5⟩, hk, ⟨w0, w1, w2, w3, w4, w5⟩⟩ := (Opens.struct (d := (Kd.pair Kd.string (Kd.pair Kd.string (Kd.pair Kd.string (Kd.pair (Kd.int .i64) (Kd.pair (Kd.slice 62 k62) (Kd.slice 43 k43))))))) (wf := (WfP WfS (WfP WfS (WfP WfS (WfP (WfI .i64) (WfP (WfL wf62) (WfL wf43))))))) Try.underlying25 (by kernel_rfl) (OpensF.cons (off := 0) (off' := 1) (Opens.string Try.underlying9 (by kernel_rfl)) rfl (by kernel_rfl) (OpensF.cons (off := 1) (off' := 2) (Opens.string Try.underlying9 (by kernel_rfl)) rfl (by kernel_rfl) (OpensF.cons (off := 2) (off' := 3) (Opens.string Try.underlying9 (by kernel_rfl)) rfl (by kernel_rfl) (OpensF.cons (off := 3) (off' := 4) (Opens.int Try.underlying3 (by kernel_rfl)) rfl (by kernel_rfl) (OpensF.cons (off := 4) (off' := 5) (Opens.slice Try.underlying22 (by kernel_rfl) opens62) rfl (by kernel_rfl) (OpensF.last (off := 5) (Opens.slice Try.underlying23 (by kernel_rfl) opens43) rfl))))))).op hf
    generalize v0.cells.toList = cs_ at hk ⊢
    obtain ⟨_, _, rfl, rfl, ⟨_, _, rfl, rfl, ⟨_, _, rfl, rfl, ⟨_, _, rfl, rfl, ⟨_, _, rfl, ⟨A_4, c_4, rfl, l_4, g_4⟩, ⟨A_5, c_5, rfl, l_5, g_5⟩⟩⟩⟩⟩⟩ := hk
    exact ⟨y0, y1, y2, y3, y4, A_4, c_4, y5, A_5, c_5, rfl, l_4, g_4, l_5, g_5, w0, w1, w2, w3, w4, w5⟩
  obtain ⟨cs0, rfl, hz0⟩ := okWide_struct Try.underlying25 (hval 0 25 v0 rfl rfl)
  obtain rfl : cs0 = #[.string a0_0, .string a0_1, .string a0_2, .int .i64 a0_3, .slice A0_4 l0_4.length c0_4, .slice A0_5 l0_5.length c0_5] := by cases cs0; exact congrArg Array.mk hcs0
  obtain ⟨a1, rfl, rfl, rfl, w1⟩ := open_int Try.underlying38 (hval 1 38 v1 rfl rfl) h1
  clear hA0 hval0 hsz0 hsz
  obtain ⟨k, h⟩ := Pure.ObjectLess a0_0 a0_1 a0_2 a0_3 l0_4 l0_5 a1 wf0_0 wf0_1 wf0_2 wf0_3 wf0_4 wf0_5 w1
  refine (K.zq2.calls k a0_0 a0_1 a0_2 a0_3 _ _ l0_4 _ _ l0_5 a1 true W hr0_4 hc0_4 hr0_5 hc0_5 h).mono fun e W' ⟨he, bel0⟩ => ?_
  have bel : Below W.heap.size W W' := bel0
  subst he
  exact ⟨_, rfl, _, _, _, [], _, [], hW', trodAll_mk1 (shut_bool Try.underlying4 _), (trodAll_cons_mk (Below.trod laidOut (by kernel_rfl) (of_decide_eq_true (by kernel_rfl)) k0 bel lt0) (trodAll_cons_mk (shut_int Try.underlying38 w1) trodAll_mk0)), rfl, bel.frame _, fun h => by cases h⟩
theorem over : Rows.objectLessRow.holds Try.pinned (OpenSpec.ofChange Rows.objectLessSpec) :=
  OpenClaim.holds_of_wide 8 Try.f8 rfl rfl rfl rfl rfl rfl rfl ⟨rfl, rfl, rfl, rfl, rfl⟩ rfl rfl rfl rfl rfl (by kernel_rfl) Try.func8 (by kernel_rfl)
    (of_decide_eq_true (by kernel_rfl)) (by unfold Func.isWrapper; first | (rw [if_pos (by decide +kernel)]; kernel_rfl) | (rw [if_neg (by decide +kernel)]; exact ⟨rfl, rfl⟩))
    (fun os started H enc _ => lifted os started H enc)
theorem proved : Rows.ObjectLessSaid := over
end Go.Proofs.Ytenlmckahaniiaa.objectLess
namespace Go.Proofs.Ytenlmckahaniiaa
theorem objectLess_holds : Rows.ObjectLessSaid := objectLess.proved
end Go.Proofs.Ytenlmckahaniiaa
end
