/- The law LibraryReplaces, as it is stated: the program's functions are walked, the rest is plain Lean. -/
import Derived.OpenShut
import Derived.ProofKit
import Derived.ShutString
import Derived.Test.YtenlmckahaniiaaRows
import Derived.WideShapes
import Derived.Test.YtenlmckahaniiaaZLibraryReplaces3
set_option linter.unusedVariables false
set_option linter.unusedSimpArgs false
set_option linter.unusedSectionVars false
set_option maxRecDepth 100000
section
namespace Go.Proofs.Ytenlmckahaniiaa.libraryReplaces
open Go.ChangeShapes Go.WideShapes Go.ChangeAt Go.RowKit Go.Proofs.Ytenlmckahaniiaa.K
open Go.Proofs.YtW.P
open Go.ChangeMaps (open_string shut_string)
theorem own : ownKnob Try.prog.godebug = none := by kernel_rfl
theorem laidOut : laidOutB Try.prog = true := by kernel_rfl
theorem lifted (os : Os) (started : os.Started) (H : Type) (enc : TypeId × Value → H) :
    ReturnsInHanded {} Try.checked os 13 .any (Rows.libraryReplacesSpec.pre6 enc Try.prog Try.f13 Rows.libraryReplacesRow.domain false) (Rows.libraryReplacesSpec.post enc Try.prog Try.f13 false true false false) := by
  refine returnsInHanded_of_change_sized (C := Try.checked) own started (by kernel_rfl) Try.func13
    (ChangeSpec.witness6 (enc := enc) (C := Try.checked) false ⟨#[], #[.slice none 0 0, .agg #[(.string ⟨#[]⟩), (.string ⟨#[]⟩), (.string ⟨#[]⟩), (.int .i64 0), (.slice none 0 0), (.slice none 0 0)], .int .u8 0], []⟩ 8 (by kernel_rfl) (by kernel_rfl) (by kernel_rfl) (by kernel_rfl)) ?_
  intro W base args ds gs before hval0 hW hcnd hsz0 _
  have hsz : (DataW.weightsEach Try.prog (Try.f13.params.toList ++ Rows.libraryReplacesSpec.plain.varTypes Try.prog) (ds ++ gs)).all (· ≤ reachBytes) = true := hsz0
  have hval : ∀ (j : Nat) t v, Try.f13.params[j]? = some t → args[j]? = some v → Value.okWide Try.prog W .any base t v := hval0
  have hW' := hW
  obtain ⟨p, q, hA0, hV, rfl, hfz, hnd⟩ := hW
  have hA : DataW.TrodAll enc Try.prog W 0 (fun _ => true) true Try.f13.params.toList args.toList ds p := hA0
  rw [Try.params13] at hA hval hsz
  obtain ⟨v0, vs0, d0, ds0, p0, q0, hargs, rfl, rfl, h0, r0⟩ := trodAll_cons hA
  obtain ⟨v1, vs1, d1, ds1, p1, q1, rfl, rfl, rfl, h1, r1⟩ := trodAll_cons r0
  obtain ⟨v2, vs2, d2, ds2, p2, q2, rfl, rfl, rfl, h2, r2⟩ := trodAll_cons r1
  obtain ⟨rfl, rfl, rfl⟩ := trodAll_nil r2
  obtain rfl : args = #[v0, v1, v2] := by cases args; simp_all
  obtain ⟨rfl, rfl⟩ := trodVars_none hV
  have k0 := h0
  have lt0 : ∀ x ∈ p0, x.block < W.heap.size := by obtain ⟨m, hm⟩ := k0; exact DataW.trod_lt m _ _ _ hm
  obtain ⟨l0, A0, c0, hcs0, hc0, hr0, wf0⟩ : ∃ (l0 : List (S25)) (A0 : Option Addr) (c0 : Nat), v0.cells.toList = [.slice A0 l0.length c0] ∧ l0.length ≤ c0 ∧ Kd.C k25 W A0 l0.length l0 ∧ (WfL wf25) l0 := by
    obtain ⟨fuel, hf⟩ := h0
    obtain ⟨y, ⟨A_, c_, hk, hl_, hc_⟩, hw⟩ := (Opens.slice Try.underlying46 (by kernel_rfl) opens25).op hf
    exact ⟨y, A_, c_, hk, hl_, hc_, hw⟩
  obtain ⟨b0, len0, cap0, rfl⟩ := okWide_slice Try.underlying46 (hval 0 46 v0 rfl rfl)
  obtain ⟨rfl, rfl, rfl⟩ : b0 = A0 ∧ len0 = l0.length ∧ cap0 = c0 := by simpa [Value.cells] using hcs0
  have k1 := h1
  have lt1 : ∀ x ∈ p1, x.block < W.heap.size := by obtain ⟨m, hm⟩ := k1; exact DataW.trod_lt m _ _ _ hm
  obtain ⟨a1_0, a1_1, a1_2, a1_3, l1_4, A1_4, c1_4, l1_5, A1_5, c1_5, hcs1, hc1_4, hr1_4, hc1_5, hr1_5, wf1_0, wf1_1, wf1_2, wf1_3, wf1_4, wf1_5⟩ : ∃ (a1_0 : ByteArray) (a1_1 : ByteArray) (a1_2 : ByteArray) (a1_3 : Int) (l1_4 : List (S62)) (A1_4 : Option Addr) (c1_4 : Nat) (l1_5 : List (S43)) (A1_5 : Option Addr) (c1_5 : Nat), v1.cells.toList = [.string a1_0, .string a1_1, .string a1_2, .int .i64 a1_3, .slice A1_4 l1_4.length c1_4, .slice A1_5 l1_5.length c1_5] ∧ l1_4.length ≤ c1_4 ∧ Kd.C k62 W A1_4 l1_4.length l1_4 ∧ l1_5.length ≤ c1_5 ∧ Kd.C k43 W A1_5 l1_5.length l1_5 ∧ WfS a1_0 ∧ WfS a1_1 ∧ WfS a1_2 ∧ (WfI .i64) a1_3 ∧ (WfL wf62) l1_4 ∧ (WfL wf43) l1_5 := by
    obtain ⟨fuel, hf⟩ := h1
    obtain ⟨⟨y0, y1, y2, y3, y4, y5⟩, hk, ⟨w0, w1, w2, w3, w4, w5⟩⟩ := (Opens.struct (d := (Kd.pair Kd.string (Kd.pair Kd.string (Kd.pair Kd.string (Kd.pair (Kd.int .i64) (Kd.pair (Kd.slice 62 k62) (Kd.slice 43 k43))))))) (wf := (WfP WfS (WfP WfS (WfP WfS (WfP (WfI .i64) (WfP (WfL wf62) (WfL wf43))))))) Try.underlying25 (by kernel_rfl) (OpensF.cons (off := 0) (off' := 1) (Opens.string Try.underlying9 (by kernel_rfl)) rfl (by kernel_rfl) (OpensF.cons (off := 1) (off' := 2) (Opens.string Try.underlying9 (by kernel_rfl)) rfl (by kernel_rfl) (OpensF.cons (off := 2) (off' := 3) (Opens.string Try.underlying9 (by kernel_rfl)) rfl (by kernel_rfl) (OpensF.cons (off := 3) (off' := 4) (Opens.int Try.underlying3 (by kernel_rfl)) rfl (by kernel_rfl) (OpensF.cons (off := 4) (off' := 5) (Opens.slice Try.underlying22 (by kernel_rfl) opens62) rfl (by kernel_rfl) (OpensF.last (off := 5) (Opens.slice Try.underlying23 (by kernel_rfl) opens43) rfl))))))).op hf
    generalize v1.cells.toList = cs_ at hk ⊢
    obtain ⟨_, _, rfl, rfl, ⟨_, _, rfl, rfl, ⟨_, _, rfl, rfl, ⟨_, _, rfl, rfl, ⟨_, _, rfl, ⟨A_4, c_4, rfl, l_4, g_4⟩, ⟨A_5, c_5, rfl, l_5, g_5⟩⟩⟩⟩⟩⟩ := hk
    exact ⟨y0, y1, y2, y3, y4, A_4, c_4, y5, A_5, c_5, rfl, l_4, g_4, l_5, g_5, w0, w1, w2, w3, w4, w5⟩
  obtain ⟨cs1, rfl, hz1⟩ := okWide_struct Try.underlying25 (hval 1 25 v1 rfl rfl)
  obtain rfl : cs1 = #[.string a1_0, .string a1_1, .string a1_2, .int .i64 a1_3, .slice A1_4 l1_4.length c1_4, .slice A1_5 l1_5.length c1_5] := by cases cs1; exact congrArg Array.mk hcs1
  obtain ⟨a2, rfl, rfl, rfl, w2⟩ := open_int Try.underlying5 (hval 2 5 v2 rfl rfl) h2
  clear hA0 hval0 hsz0 hsz
  obtain ⟨k, h⟩ := Pure.LibraryReplaces l0 a1_0 a1_1 a1_2 a1_3 l1_4 l1_5 a2 wf0 wf1_0 wf1_1 wf1_2 wf1_3 wf1_4 wf1_5 w2
  refine (K.zq0.calls k (fun k_ => k_ < W.heap.size) _ _ l0 a1_0 a1_1 a1_2 a1_3 (fun k_ => k_ < W.heap.size) _ _ l1_4 (fun k_ => k_ < W.heap.size) _ _ l1_5 a2 true W (Kd.V_mk hc0 (Kd.C_F k25_heap hr0)) (Kd.V_mk hc1_4 (Kd.C_F k62_heap hr1_4)) (Kd.V_mk hc1_5 (Kd.C_F k43_heap hr1_5)) h).mono fun e W' ⟨he, bel0⟩ => ?_
  have bel : Below W.heap.size W W' := bel0
  subst he
  exact ⟨_, rfl, _, _, _, [], _, [], hW', trodAll_mk1 (shut_bool Try.underlying4 _), (trodAll_cons_mk (Below.trod laidOut (by kernel_rfl) (of_decide_eq_true (by kernel_rfl)) k0 bel lt0) (trodAll_cons_mk (Below.trod laidOut (by kernel_rfl) (of_decide_eq_true (by kernel_rfl)) k1 bel lt1) (trodAll_cons_mk (shut_int Try.underlying5 w2) trodAll_mk0))), rfl, bel.frame _, fun h => by cases h⟩
theorem over : Rows.libraryReplacesRow.holds Try.pinned (OpenSpec.ofChange Rows.libraryReplacesSpec) :=
  OpenClaim.holds_of_wide 13 Try.f13 rfl rfl rfl rfl rfl rfl rfl ⟨rfl, rfl, rfl, rfl, rfl⟩ rfl rfl rfl rfl rfl (by kernel_rfl) Try.func13 (by kernel_rfl)
    (of_decide_eq_true (by kernel_rfl)) (by unfold Func.isWrapper; first | (rw [if_pos (by decide +kernel)]; kernel_rfl) | (rw [if_neg (by decide +kernel)]; exact ⟨rfl, rfl⟩))
    (fun os started H enc _ => lifted os started H enc)
theorem proved : Rows.LibraryReplacesSaid := over
end Go.Proofs.Ytenlmckahaniiaa.libraryReplaces
namespace Go.Proofs.Ytenlmckahaniiaa
theorem libraryReplaces_holds : Rows.LibraryReplacesSaid := libraryReplaces.proved
end Go.Proofs.Ytenlmckahaniiaa
end
