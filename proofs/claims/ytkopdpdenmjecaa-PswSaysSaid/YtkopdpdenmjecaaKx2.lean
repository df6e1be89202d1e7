-- Printed by a program of this session out of Lean's print of the translation. Lean checks it.
import Derived.Test.YtkopdpdenmjecaaKx0
import Derived.Test.YtkopdpdenmjecaaKx1
namespace Go.Proofs.Ytkopdpdenmjecaa.K
open Go.RowKit Go.Proofs.YtkopdpdenmjecaaW.PrintWords Go.Proofs.YtkopdpdenmjecaaW.PrintLast Go.Proofs.YtkopdpdenmjecaaW.PrintMore
attribute [local go_sem] max2_int min2_int max_two min_two max_three min_three max_four min_four   -- for this text's walks alone
set_option linter.unusedVariables false
set_option linter.unusedSimpArgs false

/-! ### emulatorref04_Text: function 16 -/
def emulatorref04_Text.f (a0 : Int) : Option (ByteArray) := (emulatorref04_Mode.f a0).bind fun t133 => ((emulatorref04_Mode.f a0).bind fun t134 => (if 0 ≤ t133 then (if t133 ≤ (wrap64 (t134 + 1)) then (if (wrap64 (t134 + 1)) ≤ 2 then ((emulatorref04_Previous.f a0).bind fun t135 => ((emulatorref04_Previous.f a0).bind fun t136 => (if 0 ≤ t135 then (if t135 ≤ (wrap64 (t136 + 1)) then (if (wrap64 (t136 + 1)) ≤ 2 then (if ((⟨#[107, 117]⟩ : ByteArray).extract (t133 : Int).toNat ((wrap64 (t134 + 1)) : Int).toNat).size + ((⟨#[107, 117]⟩ : ByteArray).extract (t135 : Int).toNat ((wrap64 (t136 + 1)) : Int).toNat).size ≤ 9223372036854775807 then ((emulatorref04_Priority.f a0).bind fun t137 => ((emulatorref04_Priority.f a0).bind fun t138 => (if 0 ≤ t137 then (if t137 ≤ (wrap64 (t138 + 1)) then (if (wrap64 (t138 + 1)) ≤ 8 then (if (((⟨#[107, 117]⟩ : ByteArray).extract (t133 : Int).toNat ((wrap64 (t134 + 1)) : Int).toNat) ++ ((⟨#[107, 117]⟩ : ByteArray).extract (t135 : Int).toNat ((wrap64 (t136 + 1)) : Int).toNat)).size + ((⟨#[48, 49, 50, 51, 52, 53, 54, 55]⟩ : ByteArray).extract (t137 : Int).toNat ((wrap64 (t138 + 1)) : Int).toNat).size ≤ 9223372036854775807 then ((emulatorref04_letter.f a0 4 (⟨#[84]⟩ : ByteArray)).bind fun t139 => (if ((((⟨#[107, 117]⟩ : ByteArray).extract (t133 : Int).toNat ((wrap64 (t134 + 1)) : Int).toNat) ++ ((⟨#[107, 117]⟩ : ByteArray).extract (t135 : Int).toNat ((wrap64 (t136 + 1)) : Int).toNat)) ++ ((⟨#[48, 49, 50, 51, 52, 53, 54, 55]⟩ : ByteArray).extract (t137 : Int).toNat ((wrap64 (t138 + 1)) : Int).toNat)).size + t139.size ≤ 9223372036854775807 then ((emulatorref04_letter.f a0 3 (⟨#[78]⟩ : ByteArray)).bind fun t140 => (if (((((⟨#[107, 117]⟩ : ByteArray).extract (t133 : Int).toNat ((wrap64 (t134 + 1)) : Int).toNat) ++ ((⟨#[107, 117]⟩ : ByteArray).extract (t135 : Int).toNat ((wrap64 (t136 + 1)) : Int).toNat)) ++ ((⟨#[48, 49, 50, 51, 52, 53, 54, 55]⟩ : ByteArray).extract (t137 : Int).toNat ((wrap64 (t138 + 1)) : Int).toNat)) ++ t139).size + t140.size ≤ 9223372036854775807 then ((emulatorref04_letter.f a0 2 (⟨#[90]⟩ : ByteArray)).bind fun t141 => (if ((((((⟨#[107, 117]⟩ : ByteArray).extract (t133 : Int).toNat ((wrap64 (t134 + 1)) : Int).toNat) ++ ((⟨#[107, 117]⟩ : ByteArray).extract (t135 : Int).toNat ((wrap64 (t136 + 1)) : Int).toNat)) ++ ((⟨#[48, 49, 50, 51, 52, 53, 54, 55]⟩ : ByteArray).extract (t137 : Int).toNat ((wrap64 (t138 + 1)) : Int).toNat)) ++ t139) ++ t140).size + t141.size ≤ 9223372036854775807 then ((emulatorref04_letter.f a0 1 (⟨#[86]⟩ : ByteArray)).bind fun t142 => (if (((((((⟨#[107, 117]⟩ : ByteArray).extract (t133 : Int).toNat ((wrap64 (t134 + 1)) : Int).toNat) ++ ((⟨#[107, 117]⟩ : ByteArray).extract (t135 : Int).toNat ((wrap64 (t136 + 1)) : Int).toNat)) ++ ((⟨#[48, 49, 50, 51, 52, 53, 54, 55]⟩ : ByteArray).extract (t137 : Int).toNat ((wrap64 (t138 + 1)) : Int).toNat)) ++ t139) ++ t140) ++ t141).size + t142.size ≤ 9223372036854775807 then ((emulatorref04_letter.f a0 0 (⟨#[67]⟩ : ByteArray)).bind fun t143 => (if ((((((((⟨#[107, 117]⟩ : ByteArray).extract (t133 : Int).toNat ((wrap64 (t134 + 1)) : Int).toNat) ++ ((⟨#[107, 117]⟩ : ByteArray).extract (t135 : Int).toNat ((wrap64 (t136 + 1)) : Int).toNat)) ++ ((⟨#[48, 49, 50, 51, 52, 53, 54, 55]⟩ : ByteArray).extract (t137 : Int).toNat ((wrap64 (t138 + 1)) : Int).toNat)) ++ t139) ++ t140) ++ t141) ++ t142).size + t143.size ≤ 9223372036854775807 then (some (((((((((⟨#[107, 117]⟩ : ByteArray).extract (t133 : Int).toNat ((wrap64 (t134 + 1)) : Int).toNat) ++ ((⟨#[107, 117]⟩ : ByteArray).extract (t135 : Int).toNat ((wrap64 (t136 + 1)) : Int).toNat)) ++ ((⟨#[48, 49, 50, 51, 52, 53, 54, 55]⟩ : ByteArray).extract (t137 : Int).toNat ((wrap64 (t138 + 1)) : Int).toNat)) ++ t139) ++ t140) ++ t141) ++ t142) ++ t143)) else (none))) else (none))) else (none))) else (none))) else (none))) else (none)) else (none)) else (none)) else (none)))) else (none)) else (none)) else (none)) else (none)))) else (none)) else (none)) else (none)))
set_option maxHeartbeats 8000000 in
set_option maxRecDepth 100000 in
theorem emulatorref04_Text.calls (a0 : Int) (r : ByteArray) (w : World) (h : emulatorref04_Text.f a0 = some r) :
    Calls Try.prog 16 #[.int .i64 a0] w fun e w' => e = .returned (.string r) ∧ Drawn0 w w' := by
  unfold emulatorref04_Text.f at h
  obtain ⟨m, hM, h⟩ := Option.bind_eq_some_iff.1 h
  obtain ⟨m', hM', h⟩ := Option.bind_eq_some_iff.1 h
  obtain rfl : m = m' := Option.some.inj (hM.symm.trans hM')
  obtain ⟨m0, h⟩ := ite_some h
  obtain ⟨ma, h⟩ := ite_some h
  obtain ⟨mb, h⟩ := ite_some h
  obtain ⟨p, hP, h⟩ := Option.bind_eq_some_iff.1 h
  obtain ⟨p', hP', h⟩ := Option.bind_eq_some_iff.1 h
  obtain rfl : p = p' := Option.some.inj (hP.symm.trans hP')
  obtain ⟨p0, h⟩ := ite_some h
  obtain ⟨pa, h⟩ := ite_some h
  obtain ⟨pb, h⟩ := ite_some h
  obtain ⟨_, h⟩ := ite_some h
  obtain ⟨q, hR, h⟩ := Option.bind_eq_some_iff.1 h
  obtain ⟨q', hR', h⟩ := Option.bind_eq_some_iff.1 h
  obtain rfl : q = q' := Option.some.inj (hR.symm.trans hR')
  obtain ⟨q0, h⟩ := ite_some h
  obtain ⟨qa, h⟩ := ite_some h
  obtain ⟨qb, h⟩ := ite_some h
  obtain ⟨_, h⟩ := ite_some h
  obtain ⟨t4, h4, h⟩ := Option.bind_eq_some_iff.1 h
  obtain ⟨z4, h⟩ := ite_some h
  obtain ⟨t3, h3, h⟩ := Option.bind_eq_some_iff.1 h
  obtain ⟨z3, h⟩ := ite_some h
  obtain ⟨t2, h2, h⟩ := Option.bind_eq_some_iff.1 h
  obtain ⟨z2, h⟩ := ite_some h
  obtain ⟨t1, h1, h⟩ := Option.bind_eq_some_iff.1 h
  obtain ⟨z1, h⟩ := ite_some h
  obtain ⟨t0, h0, h⟩ := Option.bind_eq_some_iff.1 h
  obtain ⟨z0, h⟩ := ite_some h
  obtain rfl := Option.some.inj h
  have em0 : wrap64 (m + 1) = m + 1 := by unfold wrap64 at *; omega
  have ep0 : wrap64 (p + 1) = p + 1 := by unfold wrap64 at *; omega
  have eq0 : wrap64 (q + 1) = q + 1 := by unfold wrap64 at *; omega
  rw [em0] at ma mb
  rw [ep0] at pa pb
  rw [eq0] at qa qb
  rw [em0, ep0, eq0] at z4 z3 z2 z1 z0 ⊢
  have em : IntKind.i64.wrap (m + 1) = m + 1 := by rw [i64_w]; exact em0
  have ep : IntKind.i64.wrap (p + 1) = p + 1 := by rw [i64_w]; exact ep0
  have eq : IntKind.i64.wrap (q + 1) = q + 1 := by rw [i64_w]; exact eq0
  simp only [ByteArray.size_append, ByteArray.size_extract, show (⟨#[107, 117]⟩ : ByteArray).size = 2 from rfl, show (⟨#[48, 49, 50, 51, 52, 53, 54, 55]⟩ : ByteArray).size = 8 from rfl] at z4 z3 z2 z1 z0
  have S := Aside0.mk (show (m + 1).toNat - m.toNat + ((p + 1).toNat - p.toNat) + ((q + 1).toNat - q.toNat) + t4.size + t3.size + t2.size + t1.size + t0.size ≤ 9223372036854775807 by omega)
  have AM := Aside0.mk hM
  have AP := Aside0.mk hP
  have AR := Aside0.mk hR
  have A4 := Aside0.mk h4
  have A3 := Aside0.mk h3
  have A2 := Aside0.mk h2
  have A1 := Aside0.mk h1
  have A0 := Aside0.mk h0
  clear hM hM' hP hP' hR hR' h4 h3 h2 h1 h0 z4 z3 z2 z1 z0 em0 ep0 eq0
  go_enter Try.func16, Try.ntmps16
  go_wp2_with (fail)
  repeat (go_quiet (first | (go_at_call 20; (with_reducible refine (emulatorref04_Mode.calls a0 m _ AM.out).mono ?_); rintro e w' ⟨rfl, ⟨nd, rfl⟩⟩; (try first | exact ⟨rfl, _, World.drewN_drewN _ _ _⟩ | exact ⟨rfl, _, Eq.trans (World.drewN_drewN _ _ _) (congrArg (World.drewN _) (Nat.add_assoc _ _ _))⟩)) | (go_at_call 22; (with_reducible refine (emulatorref04_Previous.calls a0 p _ AP.out).mono ?_); rintro e w' ⟨rfl, ⟨nd, rfl⟩⟩; (try first | exact ⟨rfl, _, World.drewN_drewN _ _ _⟩ | exact ⟨rfl, _, Eq.trans (World.drewN_drewN _ _ _) (congrArg (World.drewN _) (Nat.add_assoc _ _ _))⟩)) | (go_at_call 24; (with_reducible refine (emulatorref04_Priority.calls a0 q _ AR.out).mono ?_); rintro e w' ⟨rfl, ⟨nd, rfl⟩⟩; (try first | exact ⟨rfl, _, World.drewN_drewN _ _ _⟩ | exact ⟨rfl, _, Eq.trans (World.drewN_drewN _ _ _) (congrArg (World.drewN _) (Nat.add_assoc _ _ _))⟩))))
  go_wp2_with (first | (go_at_call 29; (with_reducible refine (emulatorref04_letter.calls a0 4 ⟨#[84]⟩ t4 _ A4.out).mono ?_); rintro e w' ⟨rfl, ⟨nd, rfl⟩⟩; (try first | exact ⟨rfl, _, World.drewN_drewN _ _ _⟩ | exact ⟨rfl, _, Eq.trans (World.drewN_drewN _ _ _) (congrArg (World.drewN _) (Nat.add_assoc _ _ _))⟩)) | (go_at_call 29; (with_reducible refine (emulatorref04_letter.calls a0 3 ⟨#[78]⟩ t3 _ A3.out).mono ?_); rintro e w' ⟨rfl, ⟨nd, rfl⟩⟩; (try first | exact ⟨rfl, _, World.drewN_drewN _ _ _⟩ | exact ⟨rfl, _, Eq.trans (World.drewN_drewN _ _ _) (congrArg (World.drewN _) (Nat.add_assoc _ _ _))⟩)) | (go_at_call 29; (with_reducible refine (emulatorref04_letter.calls a0 2 ⟨#[90]⟩ t2 _ A2.out).mono ?_); rintro e w' ⟨rfl, ⟨nd, rfl⟩⟩; (try first | exact ⟨rfl, _, World.drewN_drewN _ _ _⟩ | exact ⟨rfl, _, Eq.trans (World.drewN_drewN _ _ _) (congrArg (World.drewN _) (Nat.add_assoc _ _ _))⟩)) | (go_at_call 29; (with_reducible refine (emulatorref04_letter.calls a0 1 ⟨#[86]⟩ t1 _ A1.out).mono ?_); rintro e w' ⟨rfl, ⟨nd, rfl⟩⟩; (try first | exact ⟨rfl, _, World.drewN_drewN _ _ _⟩ | exact ⟨rfl, _, Eq.trans (World.drewN_drewN _ _ _) (congrArg (World.drewN _) (Nat.add_assoc _ _ _))⟩)) | (go_at_call 29; (with_reducible refine (emulatorref04_letter.calls a0 0 ⟨#[67]⟩ t0 _ A0.out).mono ?_); rintro e w' ⟨rfl, ⟨nd, rfl⟩⟩; (try first | exact ⟨rfl, _, World.drewN_drewN _ _ _⟩ | exact ⟨rfl, _, Eq.trans (World.drewN_drewN _ _ _) (congrArg (World.drewN _) (Nat.add_assoc _ _ _))⟩)))
  repeat (go_quiet (first | (go_at_call 29; (with_reducible refine (emulatorref04_letter.calls a0 4 ⟨#[84]⟩ t4 _ A4.out).mono ?_); rintro e w' ⟨rfl, ⟨nd, rfl⟩⟩; (try first | exact ⟨rfl, _, World.drewN_drewN _ _ _⟩ | exact ⟨rfl, _, Eq.trans (World.drewN_drewN _ _ _) (congrArg (World.drewN _) (Nat.add_assoc _ _ _))⟩)) | (go_at_call 29; (with_reducible refine (emulatorref04_letter.calls a0 3 ⟨#[78]⟩ t3 _ A3.out).mono ?_); rintro e w' ⟨rfl, ⟨nd, rfl⟩⟩; (try first | exact ⟨rfl, _, World.drewN_drewN _ _ _⟩ | exact ⟨rfl, _, Eq.trans (World.drewN_drewN _ _ _) (congrArg (World.drewN _) (Nat.add_assoc _ _ _))⟩)) | (go_at_call 29; (with_reducible refine (emulatorref04_letter.calls a0 2 ⟨#[90]⟩ t2 _ A2.out).mono ?_); rintro e w' ⟨rfl, ⟨nd, rfl⟩⟩; (try first | exact ⟨rfl, _, World.drewN_drewN _ _ _⟩ | exact ⟨rfl, _, Eq.trans (World.drewN_drewN _ _ _) (congrArg (World.drewN _) (Nat.add_assoc _ _ _))⟩)) | (go_at_call 29; (with_reducible refine (emulatorref04_letter.calls a0 1 ⟨#[86]⟩ t1 _ A1.out).mono ?_); rintro e w' ⟨rfl, ⟨nd, rfl⟩⟩; (try first | exact ⟨rfl, _, World.drewN_drewN _ _ _⟩ | exact ⟨rfl, _, Eq.trans (World.drewN_drewN _ _ _) (congrArg (World.drewN _) (Nat.add_assoc _ _ _))⟩)) | (go_at_call 29; (with_reducible refine (emulatorref04_letter.calls a0 0 ⟨#[67]⟩ t0 _ A0.out).mono ?_); rintro e w' ⟨rfl, ⟨nd, rfl⟩⟩; (try first | exact ⟨rfl, _, World.drewN_drewN _ _ _⟩ | exact ⟨rfl, _, Eq.trans (World.drewN_drewN _ _ _) (congrArg (World.drewN _) (Nat.add_assoc _ _ _))⟩))); try go_wp2_with (fail))
  all_goals first
    | (exfalso; have := S.out; omega)
    | (go_ret; exact ⟨rfl, by repeat (first | exact Drawn0.refl _ | apply Drawn0.step)⟩)

/-! ### emulatorlaw04_PswTexts: function 4 -/
def emulatorlaw04_PswTexts.f (k : Nat) (a0 : Int) : Option (Bool) := (psw_Text.f k a0).bind fun t144 => ((emulatorref04_Text.f a0).bind fun t145 => (if t144.toList = t145.toList then ((emulatorlaw04_alive.f k).bind fun t146 => (some t146)) else (some false)))
theorem emulatorlaw04_PswTexts.mono : ∀ a0 k, LeO (emulatorlaw04_PswTexts.f k a0) (emulatorlaw04_PswTexts.f (k + 1) a0) := by
  intro a0 k
  unfold emulatorlaw04_PswTexts.f
  repeat' first
      | (with_reducible exact emulatorlaw04_alive.mono _)
      | (with_reducible exact psw_Text.mono _ _)
      | (with_reducible exact LeO.refl _)
      | (with_reducible exact LeO.none _)
      | (with_reducible refine LeO.ite ?_ ?_)
      | (with_reducible refine LeO.bind ?_ (fun _ => ?_))
      | exact emulatorlaw04_alive.mono _
      | exact psw_Text.mono _ _
      | exact LeO.none _
      | refine LeO.ite ?_ ?_
      | refine LeO.bind ?_ (fun _ => ?_)
set_option maxHeartbeats 8000000 in
set_option maxRecDepth 100000 in
theorem emulatorlaw04_PswTexts.calls (k : Nat) (a0 : Int) (r : Bool) (w : World) (h : emulatorlaw04_PswTexts.f k a0 = some r) :
    Calls Try.prog 4 #[.int .i64 a0] w fun e w' => e = .returned (.bool r) ∧ Below w.heap.size w w' := by
  have HB := Aside0.mk (Below.refl w.heap.size w)
  have H : ((psw_Text.f k a0).bind fun t144 => ((emulatorref04_Text.f a0).bind fun t145 => (if t144.toList = t145.toList then ((emulatorlaw04_alive.f k).bind fun t146 => (some t146)) else (some false)))) = some r := h
  clear h
  replace H := Option.bind_eq_some_iff.mp H
  obtain ⟨t144, A20, H⟩ := H
  replace H : ((emulatorref04_Text.f a0).bind fun t145 => (if t144.toList = t145.toList then ((emulatorlaw04_alive.f k).bind fun t146 => (some t146)) else (some false))) = some r := H
  have A2 := Aside0.mk A20
  clear A20
  replace H := Option.bind_eq_some_iff.mp H
  obtain ⟨t145, A30, H⟩ := H
  replace H : (if t144.toList = t145.toList then ((emulatorlaw04_alive.f k).bind fun t146 => (some t146)) else (some false)) = some r := H
  have A3 := Aside0.mk A30
  clear A30
  by_cases c4 : t144.toList = t145.toList
  · rw [if_pos c4] at H
    have c4b0 : (t144.toList == t145.toList) = true := beq_iff_eq.mpr c4
    have c4b1 : (t144.toList != t145.toList) = false := bne_eq_false_iff_eq.mpr c4
    clear c4
    replace H := Option.bind_eq_some_iff.mp H
    obtain ⟨t146, A50, H⟩ := H
    replace H : (some t146) = some r := H
    have A5 := Aside0.mk A50
    clear A50
    obtain rfl := Option.some.inj H
    go_enter Try.func4, Try.ntmps4
    go_wp2_with (first | ((with_reducible refine gate_callee (f := 15) rfl ?_); refine goesL_ (some 4) rfl rfl Try.func15 (by kernel_rfl) rfl #[.int .i64 a0] rfl (by (try simp only [List.map_toArray, List.map_cons, List.map_nil]); first | done | rfl | (simp only [List.length_drop, List.length_take]; rfl) | (simp only [ByteArray.size_extract, Nat.sub_zero]; rfl) | (simp only [ByteArray.size_extract, Nat.sub_zero]; done)) ?_; (with_reducible refine (psw_Text.calls k a0 t144 _ A2.out).mono ?_); rintro e w6 ⟨rfl, hb⟩; refine ⟨_, rfl, ?_⟩; have n0_ := Aside0.mk (below_step (by repeat (first | (with_reducible first | exact HB.out | apply below_alloc | apply pw_below_drewN | apply below_drew1) | exact HB.out)) hb); clear HB; have HB := n0_; clear n0_; (try clear hb); (try clear hb2); (try clear hk); (try clear hi)) | ((with_reducible refine gate_callee (f := 16) rfl ?_); refine goesL_ (some 6) rfl rfl Try.func16 (by kernel_rfl) rfl #[.int .i64 a0] rfl (by (try simp only [List.map_toArray, List.map_cons, List.map_nil]); first | done | rfl | (simp only [List.length_drop, List.length_take]; rfl) | (simp only [ByteArray.size_extract, Nat.sub_zero]; rfl) | (simp only [ByteArray.size_extract, Nat.sub_zero]; done)) ?_; (with_reducible refine (emulatorref04_Text.calls a0 t145 _ A3.out).mono ?_); rintro e w' ⟨rfl, ⟨nd, rfl⟩⟩; refine ⟨_, rfl, ?_⟩) | (go_at_call 14; (with_reducible refine (emulatorlaw04_alive.calls k  t146 _ A5.out).mono ?_); rintro e w7 ⟨rfl, hb⟩; have n0_ := Aside0.mk (below_step (by repeat (first | (with_reducible first | exact HB.out | apply below_alloc | apply pw_below_drewN | apply below_drew1) | exact HB.out)) hb); clear HB; have HB := n0_; clear n0_; (try clear hb); (try clear hb2); (try clear hk); (try clear hi)))
    go_ret
    exact ⟨by first | rfl | (simp [errW_none, errW_some] <;> rfl) | (simp [*, errW_none, errW_some] <;> rfl), by repeat (first | (with_reducible first | exact HB.out | apply below_alloc | apply pw_below_drewN | apply below_drew1) | exact HB.out)⟩
  · rw [if_neg c4] at H
    have c4b0 : (t144.toList == t145.toList) = false := beq_eq_false_iff_ne.mpr c4
    have c4b1 : (t144.toList != t145.toList) = true := bne_iff_ne.mpr c4
    obtain rfl := Option.some.inj H
    go_enter Try.func4, Try.ntmps4
    go_wp2_with (first | ((with_reducible refine gate_callee (f := 15) rfl ?_); refine goesL_ (some 4) rfl rfl Try.func15 (by kernel_rfl) rfl #[.int .i64 a0] rfl (by (try simp only [List.map_toArray, List.map_cons, List.map_nil]); first | done | rfl | (simp only [List.length_drop, List.length_take]; rfl) | (simp only [ByteArray.size_extract, Nat.sub_zero]; rfl) | (simp only [ByteArray.size_extract, Nat.sub_zero]; done)) ?_; (with_reducible refine (psw_Text.calls k a0 t144 _ A2.out).mono ?_); rintro e w8 ⟨rfl, hb⟩; refine ⟨_, rfl, ?_⟩; have n0_ := Aside0.mk (below_step (by repeat (first | (with_reducible first | exact HB.out | apply below_alloc | apply pw_below_drewN | apply below_drew1) | exact HB.out)) hb); clear HB; have HB := n0_; clear n0_; (try clear hb); (try clear hb2); (try clear hk); (try clear hi)) | ((with_reducible refine gate_callee (f := 16) rfl ?_); refine goesL_ (some 6) rfl rfl Try.func16 (by kernel_rfl) rfl #[.int .i64 a0] rfl (by (try simp only [List.map_toArray, List.map_cons, List.map_nil]); first | done | rfl | (simp only [List.length_drop, List.length_take]; rfl) | (simp only [ByteArray.size_extract, Nat.sub_zero]; rfl) | (simp only [ByteArray.size_extract, Nat.sub_zero]; done)) ?_; (with_reducible refine (emulatorref04_Text.calls a0 t145 _ A3.out).mono ?_); rintro e w' ⟨rfl, ⟨nd, rfl⟩⟩; refine ⟨_, rfl, ?_⟩))
    go_ret
    exact ⟨by first | rfl | (simp [errW_none, errW_some] <;> rfl) | (simp [*, errW_none, errW_some] <;> rfl), by repeat (first | (with_reducible first | exact HB.out | apply below_alloc | apply pw_below_drewN | apply below_drew1) | exact HB.out)⟩

/-- THE ONE PURE STATEMENT of emulatorlaw04_PswTexts: yours. -/
def emulatorlaw04_PswTexts.Pure : Prop := ∀ (a0 : Int), (Lit.int .i64 a0).wf = true → ∃ k, emulatorlaw04_PswTexts.f k a0 = some true
theorem emulatorlaw04_PswTexts.walk (P : emulatorlaw04_PswTexts.Pure) (a0 : Int) (w : World) (w0 : (Lit.int .i64 a0).wf = true) :
    Calls Try.prog 4 #[.int .i64 a0] w fun e w' => e = .returned (.bool true) ∧ Below w.heap.size w w' := by
  obtain ⟨k, h⟩ := P a0 w0
  refine (emulatorlaw04_PswTexts.calls k a0 true w h).mono ?_
  rintro e w' ⟨rfl, hd⟩
  exact ⟨rfl, hd⟩

/-! ### emulatorlaw04_PswSays: function 5 -/
def emulatorlaw04_PswSays.f (k : Nat) (a0 : Int) (a1 : Int) : Option (Bool) := (psw_Text.f k a0).bind fun t147 => ((psw_Text.f k a1).bind fun t148 => (if (t147.size : Int) = 8 then (if ((t147.toList == t148.toList) == ((Go.bits .and .i64 (Go.bits .xor .i64 a0 a1) 49407) == 0)) = true then ((emulatorlaw04_alive.f k).bind fun t149 => (some t149)) else (some false)) else (some false)))
theorem emulatorlaw04_PswSays.mono : ∀ a0 a1 k, LeO (emulatorlaw04_PswSays.f k a0 a1) (emulatorlaw04_PswSays.f (k + 1) a0 a1) := by
  intro a0 a1 k
  unfold emulatorlaw04_PswSays.f
  repeat' first
      | (with_reducible exact emulatorlaw04_alive.mono _)
      | (with_reducible exact psw_Text.mono _ _)
      | (with_reducible exact LeO.refl _)
      | (with_reducible exact LeO.none _)
      | (with_reducible refine LeO.ite ?_ ?_)
      | (with_reducible refine LeO.bind ?_ (fun _ => ?_))
      | exact emulatorlaw04_alive.mono _
      | exact psw_Text.mono _ _
      | exact LeO.none _
      | refine LeO.ite ?_ ?_
      | refine LeO.bind ?_ (fun _ => ?_)
set_option maxHeartbeats 8000000 in
set_option maxRecDepth 100000 in
theorem emulatorlaw04_PswSays.calls (k : Nat) (a0 : Int) (a1 : Int) (r : Bool) (w : World) (h : emulatorlaw04_PswSays.f k a0 a1 = some r) :
    Calls Try.prog 5 #[.int .i64 a0, .int .i64 a1] w fun e w' => e = .returned (.bool r) ∧ Below w.heap.size w w' := by
  have HB := Aside0.mk (Below.refl w.heap.size w)
  have H : ((psw_Text.f k a0).bind fun t147 => ((psw_Text.f k a1).bind fun t148 => (if (t147.size : Int) = 8 then (if ((t147.toList == t148.toList) == ((Go.bits .and .i64 (Go.bits .xor .i64 a0 a1) 49407) == 0)) = true then ((emulatorlaw04_alive.f k).bind fun t149 => (some t149)) else (some false)) else (some false)))) = some r := h
  clear h
  replace H := Option.bind_eq_some_iff.mp H
  obtain ⟨t147, A30, H⟩ := H
  replace H : ((psw_Text.f k a1).bind fun t148 => (if (t147.size : Int) = 8 then (if ((t147.toList == t148.toList) == ((Go.bits .and .i64 (Go.bits .xor .i64 a0 a1) 49407) == 0)) = true then ((emulatorlaw04_alive.f k).bind fun t149 => (some t149)) else (some false)) else (some false))) = some r := H
  have A3 := Aside0.mk A30
  clear A30
  replace H := Option.bind_eq_some_iff.mp H
  obtain ⟨t148, A40, H⟩ := H
  replace H : (if (t147.size : Int) = 8 then (if ((t147.toList == t148.toList) == ((Go.bits .and .i64 (Go.bits .xor .i64 a0 a1) 49407) == 0)) = true then ((emulatorlaw04_alive.f k).bind fun t149 => (some t149)) else (some false)) else (some false)) = some r := H
  have A4 := Aside0.mk A40
  clear A40
  by_cases c5 : (t147.size : Int) = 8
  · rw [if_pos c5] at H
    have c5b0 : ((t147.size : Int) == 8) = true := beq_iff_eq.mpr c5
    have c5b1 : ((t147.size : Int) != 8) = false := bne_eq_false_iff_eq.mpr c5
    clear c5
    by_cases c6 : ((t147.toList == t148.toList) == ((Go.bits .and .i64 (Go.bits .xor .i64 a0 a1) 49407) == 0)) = true
    · rw [if_pos c6] at H
      have c6b0 : ((t147.toList == t148.toList) == ((Go.bits .and .i64 (Go.bits .xor .i64 a0 a1) 49407) == 0)) = true := c6
      (try (have c6b1 : decide ((t147.toList == t148.toList) = ((Go.bits .and .i64 (Go.bits .xor .i64 a0 a1) 49407) == 0)) = true := by simpa using c6))
      (try (have c6b2 : ((t147.toList == t148.toList) == ((Go.bits .and .i64 (Go.bits .xor .i64 a0 a1) 49407) == 0)) = true := by simpa using c6))
      clear c6
      replace H := Option.bind_eq_some_iff.mp H
      obtain ⟨t149, A70, H⟩ := H
      replace H : (some t149) = some r := H
      have A7 := Aside0.mk A70
      clear A70
      obtain rfl := Option.some.inj H
      go_enter Try.func5, Try.ntmps5
      go_wp2_with (first | ((with_reducible refine gate_callee (f := 15) rfl ?_); refine goesL_ (some 8) rfl rfl Try.func15 (by kernel_rfl) rfl #[.int .i64 a0] rfl (by (try simp only [List.map_toArray, List.map_cons, List.map_nil]); first | done | rfl | (simp only [List.length_drop, List.length_take]; rfl) | (simp only [ByteArray.size_extract, Nat.sub_zero]; rfl) | (simp only [ByteArray.size_extract, Nat.sub_zero]; done)) ?_; (with_reducible refine (psw_Text.calls k a0 t147 _ A3.out).mono ?_); rintro e w8 ⟨rfl, hb⟩; refine ⟨_, rfl, ?_⟩; have n0_ := Aside0.mk (below_step (by repeat (first | (with_reducible first | exact HB.out | apply below_alloc | apply pw_below_drewN | apply below_drew1) | exact HB.out)) hb); clear HB; have HB := n0_; clear n0_; (try clear hb); (try clear hb2); (try clear hk); (try clear hi)) | ((with_reducible refine gate_callee (f := 15) rfl ?_); refine goesL_ (some 10) rfl rfl Try.func15 (by kernel_rfl) rfl #[.int .i64 a1] rfl (by (try simp only [List.map_toArray, List.map_cons, List.map_nil]); first | done | rfl | (simp only [List.length_drop, List.length_take]; rfl) | (simp only [ByteArray.size_extract, Nat.sub_zero]; rfl) | (simp only [ByteArray.size_extract, Nat.sub_zero]; done)) ?_; (with_reducible refine (psw_Text.calls k a1 t148 _ A4.out).mono ?_); rintro e w9 ⟨rfl, hb⟩; refine ⟨_, rfl, ?_⟩; have n0_ := Aside0.mk (below_step (by repeat (first | (with_reducible first | exact HB.out | apply below_alloc | apply pw_below_drewN | apply below_drew1) | exact HB.out)) hb); clear HB; have HB := n0_; clear n0_; (try clear hb); (try clear hb2); (try clear hk); (try clear hi)) | (go_at_call 14; (with_reducible refine (emulatorlaw04_alive.calls k  t149 _ A7.out).mono ?_); rintro e w10 ⟨rfl, hb⟩; have n0_ := Aside0.mk (below_step (by repeat (first | (with_reducible first | exact HB.out | apply below_alloc | apply pw_below_drewN | apply below_drew1) | exact HB.out)) hb); clear HB; have HB := n0_; clear n0_; (try clear hb); (try clear hb2); (try clear hk); (try clear hi)))
      go_ret
      exact ⟨by first | rfl | (simp [errW_none, errW_some] <;> rfl) | (simp [*, errW_none, errW_some] <;> rfl), by repeat (first | (with_reducible first | exact HB.out | apply below_alloc | apply pw_below_drewN | apply below_drew1) | exact HB.out)⟩
    · rw [if_neg c6] at H
      have c6b0 : ((t147.toList == t148.toList) == ((Go.bits .and .i64 (Go.bits .xor .i64 a0 a1) 49407) == 0)) = false := by simpa using c6
      (try (have c6b1 : decide ((t147.toList == t148.toList) = ((Go.bits .and .i64 (Go.bits .xor .i64 a0 a1) 49407) == 0)) = false := by simpa using c6))
      (try (have c6b2 : ((t147.toList == t148.toList) == ((Go.bits .and .i64 (Go.bits .xor .i64 a0 a1) 49407) == 0)) = false := by simpa using c6))
      (try (have c6b3 : ¬ ((t147.toList == t148.toList) = ((Go.bits .and .i64 (Go.bits .xor .i64 a0 a1) 49407) == 0)) := by simpa using c6))
      clear c6
      obtain rfl := Option.some.inj H
      go_enter Try.func5, Try.ntmps5
      go_wp2_with (first | ((with_reducible refine gate_callee (f := 15) rfl ?_); refine goesL_ (some 8) rfl rfl Try.func15 (by kernel_rfl) rfl #[.int .i64 a0] rfl (by (try simp only [List.map_toArray, List.map_cons, List.map_nil]); first | done | rfl | (simp only [List.length_drop, List.length_take]; rfl) | (simp only [ByteArray.size_extract, Nat.sub_zero]; rfl) | (simp only [ByteArray.size_extract, Nat.sub_zero]; done)) ?_; (with_reducible refine (psw_Text.calls k a0 t147 _ A3.out).mono ?_); rintro e w11 ⟨rfl, hb⟩; refine ⟨_, rfl, ?_⟩; have n0_ := Aside0.mk (below_step (by repeat (first | (with_reducible first | exact HB.out | apply below_alloc | apply pw_below_drewN | apply below_drew1) | exact HB.out)) hb); clear HB; have HB := n0_; clear n0_; (try clear hb); (try clear hb2); (try clear hk); (try clear hi)) | ((with_reducible refine gate_callee (f := 15) rfl ?_); refine goesL_ (some 10) rfl rfl Try.func15 (by kernel_rfl) rfl #[.int .i64 a1] rfl (by (try simp only [List.map_toArray, List.map_cons, List.map_nil]); first | done | rfl | (simp only [List.length_drop, List.length_take]; rfl) | (simp only [ByteArray.size_extract, Nat.sub_zero]; rfl) | (simp only [ByteArray.size_extract, Nat.sub_zero]; done)) ?_; (with_reducible refine (psw_Text.calls k a1 t148 _ A4.out).mono ?_); rintro e w12 ⟨rfl, hb⟩; refine ⟨_, rfl, ?_⟩; have n0_ := Aside0.mk (below_step (by repeat (first | (with_reducible first | exact HB.out | apply below_alloc | apply pw_below_drewN | apply below_drew1) | exact HB.out)) hb); clear HB; have HB := n0_; clear n0_; (try clear hb); (try clear hb2); (try clear hk); (try clear hi)))
      go_ret
      exact ⟨by first | rfl | (simp [errW_none, errW_some] <;> rfl) | (simp [*, errW_none, errW_some] <;> rfl), by repeat (first | (with_reducible first | exact HB.out | apply below_alloc | apply pw_below_drewN | apply below_drew1) | exact HB.out)⟩
  · rw [if_neg c5] at H
    have c5b0 : ((t147.size : Int) == 8) = false := beq_eq_false_iff_ne.mpr c5
    have c5b1 : ((t147.size : Int) != 8) = true := bne_iff_ne.mpr c5
    obtain rfl := Option.some.inj H
    go_enter Try.func5, Try.ntmps5
    go_wp2_with (first | ((with_reducible refine gate_callee (f := 15) rfl ?_); refine goesL_ (some 8) rfl rfl Try.func15 (by kernel_rfl) rfl #[.int .i64 a0] rfl (by (try simp only [List.map_toArray, List.map_cons, List.map_nil]); first | done | rfl | (simp only [List.length_drop, List.length_take]; rfl) | (simp only [ByteArray.size_extract, Nat.sub_zero]; rfl) | (simp only [ByteArray.size_extract, Nat.sub_zero]; done)) ?_; (with_reducible refine (psw_Text.calls k a0 t147 _ A3.out).mono ?_); rintro e w13 ⟨rfl, hb⟩; refine ⟨_, rfl, ?_⟩; have n0_ := Aside0.mk (below_step (by repeat (first | (with_reducible first | exact HB.out | apply below_alloc | apply pw_below_drewN | apply below_drew1) | exact HB.out)) hb); clear HB; have HB := n0_; clear n0_; (try clear hb); (try clear hb2); (try clear hk); (try clear hi)) | ((with_reducible refine gate_callee (f := 15) rfl ?_); refine goesL_ (some 10) rfl rfl Try.func15 (by kernel_rfl) rfl #[.int .i64 a1] rfl (by (try simp only [List.map_toArray, List.map_cons, List.map_nil]); first | done | rfl | (simp only [List.length_drop, List.length_take]; rfl) | (simp only [ByteArray.size_extract, Nat.sub_zero]; rfl) | (simp only [ByteArray.size_extract, Nat.sub_zero]; done)) ?_; (with_reducible refine (psw_Text.calls k a1 t148 _ A4.out).mono ?_); rintro e w14 ⟨rfl, hb⟩; refine ⟨_, rfl, ?_⟩; have n0_ := Aside0.mk (below_step (by repeat (first | (with_reducible first | exact HB.out | apply below_alloc | apply pw_below_drewN | apply below_drew1) | exact HB.out)) hb); clear HB; have HB := n0_; clear n0_; (try clear hb); (try clear hb2); (try clear hk); (try clear hi)))
    go_ret
    exact ⟨by first | rfl | (simp [errW_none, errW_some] <;> rfl) | (simp [*, errW_none, errW_some] <;> rfl), by repeat (first | (with_reducible first | exact HB.out | apply below_alloc | apply pw_below_drewN | apply below_drew1) | exact HB.out)⟩

/-- THE ONE PURE STATEMENT of emulatorlaw04_PswSays: yours. -/
def emulatorlaw04_PswSays.Pure : Prop := ∀ (a0 : Int) (a1 : Int), (Lit.int .i64 a0).wf = true → (Lit.int .i64 a1).wf = true → ∃ k, emulatorlaw04_PswSays.f k a0 a1 = some true
theorem emulatorlaw04_PswSays.walk (P : emulatorlaw04_PswSays.Pure) (a0 : Int) (a1 : Int) (w : World) (w0 : (Lit.int .i64 a0).wf = true) (w1 : (Lit.int .i64 a1).wf = true) :
    Calls Try.prog 5 #[.int .i64 a0, .int .i64 a1] w fun e w' => e = .returned (.bool true) ∧ Below w.heap.size w w' := by
  obtain ⟨k, h⟩ := P a0 a1 w0 w1
  refine (emulatorlaw04_PswSays.calls k a0 a1 true w h).mono ?_
  rintro e w' ⟨rfl, hd⟩
  exact ⟨rfl, hd⟩

/-! ### emulatorref04_Valid: function 18 -/
def emulatorref04_Valid.f (a0 : Int) : Option (Bool) := if a0 ≥ 0 then (if a0 ≤ 65535 then (some ((Go.bits .andNot .i64 a0 49407) == 0)) else (some false)) else (some false)
set_option maxHeartbeats 8000000 in
set_option maxRecDepth 100000 in
theorem emulatorref04_Valid.calls (a0 : Int) (r : Bool) (w : World) (h : emulatorref04_Valid.f a0 = some r) :
    Calls Try.prog 18 #[.int .i64 a0] w fun e w' => e = .returned (.bool r) ∧ Drawn0 w w' := by
  have H : (if a0 ≥ 0 then (if a0 ≤ 65535 then (some ((Go.bits .andNot .i64 a0 49407) == 0)) else (some false)) else (some false)) = some r := h
  clear h
  by_cases c2 : a0 ≥ 0
  · rw [if_pos c2] at H
    have c2b0 : decide (0 ≤ a0) = true := decide_eq_true c2
    clear c2
    by_cases c3 : a0 ≤ 65535
    · rw [if_pos c3] at H
      have c3b0 : decide (a0 ≤ 65535) = true := decide_eq_true c3
      clear c3
      obtain rfl := Option.some.inj H
      go_enter Try.func18, Try.ntmps18
      go_wp2
      go_ret
      exact ⟨by first | rfl | (simp; done) | (simp [*]; done), by repeat (first | exact Drawn0.refl _ | apply Drawn0.step)⟩
    · rw [if_neg c3] at H
      have c3b0 : decide (a0 ≤ 65535) = false := decide_eq_false c3
      clear c3
      obtain rfl := Option.some.inj H
      go_enter Try.func18, Try.ntmps18
      go_wp2
      go_ret
      exact ⟨by first | rfl | (simp; done) | (simp [*]; done), by repeat (first | exact Drawn0.refl _ | apply Drawn0.step)⟩
  · rw [if_neg c2] at H
    have c2b0 : decide (0 ≤ a0) = false := decide_eq_false c2
    clear c2
    obtain rfl := Option.some.inj H
    go_enter Try.func18, Try.ntmps18
    go_wp2
    go_ret
    exact ⟨by first | rfl | (simp; done) | (simp [*]; done), by repeat (first | exact Drawn0.refl _ | apply Drawn0.step)⟩

/-! ### psw_Flags: function 25 -/
def psw_Flags.f (a0 : Int) : Option (Int) := some (Go.bits .and .i64 a0 15)
set_option maxHeartbeats 8000000 in
set_option maxRecDepth 100000 in
theorem psw_Flags.calls (a0 : Int) (r : Int) (w : World) (h : psw_Flags.f a0 = some r) :
    Calls Try.prog 25 #[.int .i64 a0] w fun e w' => e = .returned (.int .i64 r) ∧ Drawn0 w w' := by
  have H : (some (Go.bits .and .i64 a0 15)) = some r := h
  clear h
  obtain rfl := Option.some.inj H
  go_enter Try.func25, Try.ntmps25
  go_wp2
  go_ret
  exact ⟨by first | rfl | (simp; done) | (simp [*]; done), by repeat (first | exact Drawn0.refl _ | apply Drawn0.step)⟩

/-! ### emulatorref04_Flags: function 26 -/
def emulatorref04_Flags.f (a0 : Int) : Option (Int) := some (Go.bits .and .i64 a0 15)
set_option maxHeartbeats 8000000 in
set_option maxRecDepth 100000 in
theorem emulatorref04_Flags.calls (a0 : Int) (r : Int) (w : World) (h : emulatorref04_Flags.f a0 = some r) :
    Calls Try.prog 26 #[.int .i64 a0] w fun e w' => e = .returned (.int .i64 r) ∧ Drawn0 w w' := by
  have H : (some (Go.bits .and .i64 a0 15)) = some r := h
  clear h
  obtain rfl := Option.some.inj H
  go_enter Try.func26, Try.ntmps26
  go_wp2
  go_ret
  exact ⟨by first | rfl | (simp; done) | (simp [*]; done), by repeat (first | exact Drawn0.refl _ | apply Drawn0.step)⟩

/-! ### psw_Trace: function 27 -/
def psw_Trace.f (a0 : Int) : Option (Bool) := some ((Go.bits .and .i64 a0 16) != 0)
set_option maxHeartbeats 8000000 in
set_option maxRecDepth 100000 in
theorem psw_Trace.calls (a0 : Int) (r : Bool) (w : World) (h : psw_Trace.f a0 = some r) :
    Calls Try.prog 27 #[.int .i64 a0] w fun e w' => e = .returned (.bool r) ∧ Drawn0 w w' := by
  have H : (some ((Go.bits .and .i64 a0 16) != 0)) = some r := h
  clear h
  obtain rfl := Option.some.inj H
  go_enter Try.func27, Try.ntmps27
  go_wp2
  go_ret
  exact ⟨by first | rfl | (simp; done) | (simp [*]; done), by repeat (first | exact Drawn0.refl _ | apply Drawn0.step)⟩

/-! ### emulatorref04_Trace: function 28 -/
def emulatorref04_Trace.f (a0 : Int) : Option (Bool) := some ((Go.bits .and .i64 a0 16) != 0)
set_option maxHeartbeats 8000000 in
set_option maxRecDepth 100000 in
theorem emulatorref04_Trace.calls (a0 : Int) (r : Bool) (w : World) (h : emulatorref04_Trace.f a0 = some r) :
    Calls Try.prog 28 #[.int .i64 a0] w fun e w' => e = .returned (.bool r) ∧ Drawn0 w w' := by
  have H : (some ((Go.bits .and .i64 a0 16) != 0)) = some r := h
  clear h
  obtain rfl := Option.some.inj H
  go_enter Try.func28, Try.ntmps28
  go_wp2
  go_ret
  exact ⟨by first | rfl | (simp; done) | (simp [*]; done), by repeat (first | exact Drawn0.refl _ | apply Drawn0.step)⟩

/-! ### emulatorlaw04_PswGets: function 6 -/
def emulatorlaw04_PswGets.f (k : Nat) (a0 : Int) : Option (Bool) := (psw_Valid.f a0).bind fun t150 => ((emulatorref04_Valid.f a0).bind fun t151 => (if (t150 == t151) = true then ((psw_Mode.f a0).bind fun t152 => ((emulatorref04_Mode.f a0).bind fun t153 => (if t152 = t153 then ((psw_Previous.f a0).bind fun t154 => ((emulatorref04_Previous.f a0).bind fun t155 => (if t154 = t155 then ((psw_Priority.f a0).bind fun t156 => ((emulatorref04_Priority.f a0).bind fun t157 => (if t156 = t157 then ((psw_Flags.f a0).bind fun t158 => ((emulatorref04_Flags.f a0).bind fun t159 => (if t158 = t159 then ((psw_Trace.f a0).bind fun t160 => ((emulatorref04_Trace.f a0).bind fun t161 => (if (t160 == t161) = true then ((emulatorlaw04_alive.f k).bind fun t162 => (some t162)) else (some false)))) else (some false)))) else (some false)))) else (some false)))) else (some false)))) else (some false)))
theorem emulatorlaw04_PswGets.mono : ∀ a0 k, LeO (emulatorlaw04_PswGets.f k a0) (emulatorlaw04_PswGets.f (k + 1) a0) := by
  intro a0 k
  unfold emulatorlaw04_PswGets.f
  repeat' first
      | (with_reducible exact emulatorlaw04_alive.mono _)
      | (with_reducible exact LeO.refl _)
      | (with_reducible exact LeO.none _)
      | (with_reducible refine LeO.ite ?_ ?_)
      | (with_reducible refine LeO.bind ?_ (fun _ => ?_))
      | exact emulatorlaw04_alive.mono _
      | exact LeO.none _
      | refine LeO.ite ?_ ?_
      | refine LeO.bind ?_ (fun _ => ?_)
set_option maxHeartbeats 8000000 in
set_option maxRecDepth 100000 in
theorem emulatorlaw04_PswGets.calls (k : Nat) (a0 : Int) (r : Bool) (w : World) (h : emulatorlaw04_PswGets.f k a0 = some r) :
    Calls Try.prog 6 #[.int .i64 a0] w fun e w' => e = .returned (.bool r) ∧ Below w.heap.size w w' := by
  have HB := Aside0.mk (Below.refl w.heap.size w)
  have H : ((psw_Valid.f a0).bind fun t150 => ((emulatorref04_Valid.f a0).bind fun t151 => (if (t150 == t151) = true then ((psw_Mode.f a0).bind fun t152 => ((emulatorref04_Mode.f a0).bind fun t153 => (if t152 = t153 then ((psw_Previous.f a0).bind fun t154 => ((emulatorref04_Previous.f a0).bind fun t155 => (if t154 = t155 then ((psw_Priority.f a0).bind fun t156 => ((emulatorref04_Priority.f a0).bind fun t157 => (if t156 = t157 then ((psw_Flags.f a0).bind fun t158 => ((emulatorref04_Flags.f a0).bind fun t159 => (if t158 = t159 then ((psw_Trace.f a0).bind fun t160 => ((emulatorref04_Trace.f a0).bind fun t161 => (if (t160 == t161) = true then ((emulatorlaw04_alive.f k).bind fun t162 => (some t162)) else (some false)))) else (some false)))) else (some false)))) else (some false)))) else (some false)))) else (some false)))) = some r := h
  clear h
  replace H := Option.bind_eq_some_iff.mp H
  obtain ⟨t150, A20, H⟩ := H
  replace H : ((emulatorref04_Valid.f a0).bind fun t151 => (if (t150 == t151) = true then ((psw_Mode.f a0).bind fun t152 => ((emulatorref04_Mode.f a0).bind fun t153 => (if t152 = t153 then ((psw_Previous.f a0).bind fun t154 => ((emulatorref04_Previous.f a0).bind fun t155 => (if t154 = t155 then ((psw_Priority.f a0).bind fun t156 => ((emulatorref04_Priority.f a0).bind fun t157 => (if t156 = t157 then ((psw_Flags.f a0).bind fun t158 => ((emulatorref04_Flags.f a0).bind fun t159 => (if t158 = t159 then ((psw_Trace.f a0).bind fun t160 => ((emulatorref04_Trace.f a0).bind fun t161 => (if (t160 == t161) = true then ((emulatorlaw04_alive.f k).bind fun t162 => (some t162)) else (some false)))) else (some false)))) else (some false)))) else (some false)))) else (some false)))) else (some false))) = some r := H
  have A2 := Aside0.mk A20
  clear A20
  replace H := Option.bind_eq_some_iff.mp H
  obtain ⟨t151, A30, H⟩ := H
  replace H : (if (t150 == t151) = true then ((psw_Mode.f a0).bind fun t152 => ((emulatorref04_Mode.f a0).bind fun t153 => (if t152 = t153 then ((psw_Previous.f a0).bind fun t154 => ((emulatorref04_Previous.f a0).bind fun t155 => (if t154 = t155 then ((psw_Priority.f a0).bind fun t156 => ((emulatorref04_Priority.f a0).bind fun t157 => (if t156 = t157 then ((psw_Flags.f a0).bind fun t158 => ((emulatorref04_Flags.f a0).bind fun t159 => (if t158 = t159 then ((psw_Trace.f a0).bind fun t160 => ((emulatorref04_Trace.f a0).bind fun t161 => (if (t160 == t161) = true then ((emulatorlaw04_alive.f k).bind fun t162 => (some t162)) else (some false)))) else (some false)))) else (some false)))) else (some false)))) else (some false)))) else (some false)) = some r := H
  have A3 := Aside0.mk A30
  clear A30
  by_cases c4 : (t150 == t151) = true
  · rw [if_pos c4] at H
    have c4b0 : (t150 == t151) = true := c4
    (try (have c4b1 : decide (t150 = t151) = true := by simpa using c4))
    (try (have c4b2 : (t150 == t151) = true := by simpa using c4))
    clear c4
    replace H := Option.bind_eq_some_iff.mp H
    obtain ⟨t152, A50, H⟩ := H
    replace H : ((emulatorref04_Mode.f a0).bind fun t153 => (if t152 = t153 then ((psw_Previous.f a0).bind fun t154 => ((emulatorref04_Previous.f a0).bind fun t155 => (if t154 = t155 then ((psw_Priority.f a0).bind fun t156 => ((emulatorref04_Priority.f a0).bind fun t157 => (if t156 = t157 then ((psw_Flags.f a0).bind fun t158 => ((emulatorref04_Flags.f a0).bind fun t159 => (if t158 = t159 then ((psw_Trace.f a0).bind fun t160 => ((emulatorref04_Trace.f a0).bind fun t161 => (if (t160 == t161) = true then ((emulatorlaw04_alive.f k).bind fun t162 => (some t162)) else (some false)))) else (some false)))) else (some false)))) else (some false)))) else (some false))) = some r := H
    have A5 := Aside0.mk A50
    clear A50
    replace H := Option.bind_eq_some_iff.mp H
    obtain ⟨t153, A60, H⟩ := H
    replace H : (if t152 = t153 then ((psw_Previous.f a0).bind fun t154 => ((emulatorref04_Previous.f a0).bind fun t155 => (if t154 = t155 then ((psw_Priority.f a0).bind fun t156 => ((emulatorref04_Priority.f a0).bind fun t157 => (if t156 = t157 then ((psw_Flags.f a0).bind fun t158 => ((emulatorref04_Flags.f a0).bind fun t159 => (if t158 = t159 then ((psw_Trace.f a0).bind fun t160 => ((emulatorref04_Trace.f a0).bind fun t161 => (if (t160 == t161) = true then ((emulatorlaw04_alive.f k).bind fun t162 => (some t162)) else (some false)))) else (some false)))) else (some false)))) else (some false)))) else (some false)) = some r := H
    have A6 := Aside0.mk A60
    clear A60
    by_cases c7 : t152 = t153
    · rw [if_pos c7] at H
      have c7b0 : (t152 == t153) = true := beq_iff_eq.mpr c7
      have c7b1 : (t152 != t153) = false := bne_eq_false_iff_eq.mpr c7
      clear c7
      replace H := Option.bind_eq_some_iff.mp H
      obtain ⟨t154, A80, H⟩ := H
      replace H : ((emulatorref04_Previous.f a0).bind fun t155 => (if t154 = t155 then ((psw_Priority.f a0).bind fun t156 => ((emulatorref04_Priority.f a0).bind fun t157 => (if t156 = t157 then ((psw_Flags.f a0).bind fun t158 => ((emulatorref04_Flags.f a0).bind fun t159 => (if t158 = t159 then ((psw_Trace.f a0).bind fun t160 => ((emulatorref04_Trace.f a0).bind fun t161 => (if (t160 == t161) = true then ((emulatorlaw04_alive.f k).bind fun t162 => (some t162)) else (some false)))) else (some false)))) else (some false)))) else (some false))) = some r := H
      have A8 := Aside0.mk A80
      clear A80
      replace H := Option.bind_eq_some_iff.mp H
      obtain ⟨t155, A90, H⟩ := H
      replace H : (if t154 = t155 then ((psw_Priority.f a0).bind fun t156 => ((emulatorref04_Priority.f a0).bind fun t157 => (if t156 = t157 then ((psw_Flags.f a0).bind fun t158 => ((emulatorref04_Flags.f a0).bind fun t159 => (if t158 = t159 then ((psw_Trace.f a0).bind fun t160 => ((emulatorref04_Trace.f a0).bind fun t161 => (if (t160 == t161) = true then ((emulatorlaw04_alive.f k).bind fun t162 => (some t162)) else (some false)))) else (some false)))) else (some false)))) else (some false)) = some r := H
      have A9 := Aside0.mk A90
      clear A90
      by_cases c10 : t154 = t155
      · rw [if_pos c10] at H
        have c10b0 : (t154 == t155) = true := beq_iff_eq.mpr c10
        have c10b1 : (t154 != t155) = false := bne_eq_false_iff_eq.mpr c10
        clear c10
        replace H := Option.bind_eq_some_iff.mp H
        obtain ⟨t156, A110, H⟩ := H
        replace H : ((emulatorref04_Priority.f a0).bind fun t157 => (if t156 = t157 then ((psw_Flags.f a0).bind fun t158 => ((emulatorref04_Flags.f a0).bind fun t159 => (if t158 = t159 then ((psw_Trace.f a0).bind fun t160 => ((emulatorref04_Trace.f a0).bind fun t161 => (if (t160 == t161) = true then ((emulatorlaw04_alive.f k).bind fun t162 => (some t162)) else (some false)))) else (some false)))) else (some false))) = some r := H
        have A11 := Aside0.mk A110
        clear A110
        replace H := Option.bind_eq_some_iff.mp H
        obtain ⟨t157, A120, H⟩ := H
        replace H : (if t156 = t157 then ((psw_Flags.f a0).bind fun t158 => ((emulatorref04_Flags.f a0).bind fun t159 => (if t158 = t159 then ((psw_Trace.f a0).bind fun t160 => ((emulatorref04_Trace.f a0).bind fun t161 => (if (t160 == t161) = true then ((emulatorlaw04_alive.f k).bind fun t162 => (some t162)) else (some false)))) else (some false)))) else (some false)) = some r := H
        have A12 := Aside0.mk A120
        clear A120
        by_cases c13 : t156 = t157
        · rw [if_pos c13] at H
          have c13b0 : (t156 == t157) = true := beq_iff_eq.mpr c13
          have c13b1 : (t156 != t157) = false := bne_eq_false_iff_eq.mpr c13
          clear c13
          replace H := Option.bind_eq_some_iff.mp H
          obtain ⟨t158, A140, H⟩ := H
          replace H : ((emulatorref04_Flags.f a0).bind fun t159 => (if t158 = t159 then ((psw_Trace.f a0).bind fun t160 => ((emulatorref04_Trace.f a0).bind fun t161 => (if (t160 == t161) = true then ((emulatorlaw04_alive.f k).bind fun t162 => (some t162)) else (some false)))) else (some false))) = some r := H
          have A14 := Aside0.mk A140
          clear A140
          replace H := Option.bind_eq_some_iff.mp H
          obtain ⟨t159, A150, H⟩ := H
          replace H : (if t158 = t159 then ((psw_Trace.f a0).bind fun t160 => ((emulatorref04_Trace.f a0).bind fun t161 => (if (t160 == t161) = true then ((emulatorlaw04_alive.f k).bind fun t162 => (some t162)) else (some false)))) else (some false)) = some r := H
          have A15 := Aside0.mk A150
          clear A150
          by_cases c16 : t158 = t159
          · rw [if_pos c16] at H
            have c16b0 : (t158 == t159) = true := beq_iff_eq.mpr c16
            have c16b1 : (t158 != t159) = false := bne_eq_false_iff_eq.mpr c16
            clear c16
            replace H := Option.bind_eq_some_iff.mp H
            obtain ⟨t160, A170, H⟩ := H
            replace H : ((emulatorref04_Trace.f a0).bind fun t161 => (if (t160 == t161) = true then ((emulatorlaw04_alive.f k).bind fun t162 => (some t162)) else (some false))) = some r := H
            have A17 := Aside0.mk A170
            clear A170
            replace H := Option.bind_eq_some_iff.mp H
            obtain ⟨t161, A180, H⟩ := H
            replace H : (if (t160 == t161) = true then ((emulatorlaw04_alive.f k).bind fun t162 => (some t162)) else (some false)) = some r := H
            have A18 := Aside0.mk A180
            clear A180
            by_cases c19 : (t160 == t161) = true
            · rw [if_pos c19] at H
              have c19b0 : (t160 == t161) = true := c19
              (try (have c19b1 : decide (t160 = t161) = true := by simpa using c19))
              (try (have c19b2 : (t160 == t161) = true := by simpa using c19))
              clear c19
              replace H := Option.bind_eq_some_iff.mp H
              obtain ⟨t162, A200, H⟩ := H
              replace H : (some t162) = some r := H
              have A20 := Aside0.mk A200
              clear A200
              obtain rfl := Option.some.inj H
              go_enter Try.func6, Try.ntmps6
              go_wp2_with (first | ((with_reducible refine gate_callee (f := 17) rfl ?_); refine goesL_ (some 4) rfl rfl Try.func17 (by kernel_rfl) rfl #[.int .i64 a0] rfl (by (try simp only [List.map_toArray, List.map_cons, List.map_nil]); first | done | rfl | (simp only [List.length_drop, List.length_take]; rfl) | (simp only [ByteArray.size_extract, Nat.sub_zero]; rfl) | (simp only [ByteArray.size_extract, Nat.sub_zero]; done)) ?_; (with_reducible refine (psw_Valid.calls a0 t150 _ A2.out).mono ?_); rintro e w' ⟨rfl, ⟨nd, rfl⟩⟩; refine ⟨_, rfl, ?_⟩) | ((with_reducible refine gate_callee (f := 18) rfl ?_); refine goesL_ (some 6) rfl rfl Try.func18 (by kernel_rfl) rfl #[.int .i64 a0] rfl (by (try simp only [List.map_toArray, List.map_cons, List.map_nil]); first | done | rfl | (simp only [List.length_drop, List.length_take]; rfl) | (simp only [ByteArray.size_extract, Nat.sub_zero]; rfl) | (simp only [ByteArray.size_extract, Nat.sub_zero]; done)) ?_; (with_reducible refine (emulatorref04_Valid.calls a0 t151 _ A3.out).mono ?_); rintro e w' ⟨rfl, ⟨nd, rfl⟩⟩; refine ⟨_, rfl, ?_⟩) | (go_at_call 19; (with_reducible refine (psw_Mode.calls a0 t152 _ A5.out).mono ?_); rintro e w' ⟨rfl, ⟨nd, rfl⟩⟩) | (go_at_call 20; (with_reducible refine (emulatorref04_Mode.calls a0 t153 _ A6.out).mono ?_); rintro e w' ⟨rfl, ⟨nd, rfl⟩⟩) | (go_at_call 21; (with_reducible refine (psw_Previous.calls a0 t154 _ A8.out).mono ?_); rintro e w' ⟨rfl, ⟨nd, rfl⟩⟩) | (go_at_call 22; (with_reducible refine (emulatorref04_Previous.calls a0 t155 _ A9.out).mono ?_); rintro e w' ⟨rfl, ⟨nd, rfl⟩⟩) | (go_at_call 23; (with_reducible refine (psw_Priority.calls a0 t156 _ A11.out).mono ?_); rintro e w' ⟨rfl, ⟨nd, rfl⟩⟩) | (go_at_call 24; (with_reducible refine (emulatorref04_Priority.calls a0 t157 _ A12.out).mono ?_); rintro e w' ⟨rfl, ⟨nd, rfl⟩⟩) | (go_at_call 25; (with_reducible refine (psw_Flags.calls a0 t158 _ A14.out).mono ?_); rintro e w' ⟨rfl, ⟨nd, rfl⟩⟩) | (go_at_call 26; (with_reducible refine (emulatorref04_Flags.calls a0 t159 _ A15.out).mono ?_); rintro e w' ⟨rfl, ⟨nd, rfl⟩⟩) | (go_at_call 27; (with_reducible refine (psw_Trace.calls a0 t160 _ A17.out).mono ?_); rintro e w' ⟨rfl, ⟨nd, rfl⟩⟩) | (go_at_call 28; (with_reducible refine (emulatorref04_Trace.calls a0 t161 _ A18.out).mono ?_); rintro e w' ⟨rfl, ⟨nd, rfl⟩⟩) | (go_at_call 14; (with_reducible refine (emulatorlaw04_alive.calls k  t162 _ A20.out).mono ?_); rintro e w21 ⟨rfl, hb⟩; have n0_ := Aside0.mk (below_step (by repeat (first | (with_reducible first | exact HB.out | apply below_alloc | apply pw_below_drewN | apply below_drew1) | exact HB.out)) hb); clear HB; have HB := n0_; clear n0_; (try clear hb); (try clear hb2); (try clear hk); (try clear hi)))
              go_ret
              exact ⟨by first | rfl | (simp [errW_none, errW_some] <;> rfl) | (simp [*, errW_none, errW_some] <;> rfl), by repeat (first | (with_reducible first | exact HB.out | apply below_alloc | apply pw_below_drewN | apply below_drew1) | exact HB.out)⟩
            · rw [if_neg c19] at H
              have c19b0 : (t160 == t161) = false := by simpa using c19
              (try (have c19b1 : decide (t160 = t161) = false := by simpa using c19))
              (try (have c19b2 : (t160 == t161) = false := by simpa using c19))
              (try (have c19b3 : ¬ (t160 = t161) := by simpa using c19))
              clear c19
              obtain rfl := Option.some.inj H
              go_enter Try.func6, Try.ntmps6
              go_wp2_with (first | ((with_reducible refine gate_callee (f := 17) rfl ?_); refine goesL_ (some 4) rfl rfl Try.func17 (by kernel_rfl) rfl #[.int .i64 a0] rfl (by (try simp only [List.map_toArray, List.map_cons, List.map_nil]); first | done | rfl | (simp only [List.length_drop, List.length_take]; rfl) | (simp only [ByteArray.size_extract, Nat.sub_zero]; rfl) | (simp only [ByteArray.size_extract, Nat.sub_zero]; done)) ?_; (with_reducible refine (psw_Valid.calls a0 t150 _ A2.out).mono ?_); rintro e w' ⟨rfl, ⟨nd, rfl⟩⟩; refine ⟨_, rfl, ?_⟩) | ((with_reducible refine gate_callee (f := 18) rfl ?_); refine goesL_ (some 6) rfl rfl Try.func18 (by kernel_rfl) rfl #[.int .i64 a0] rfl (by (try simp only [List.map_toArray, List.map_cons, List.map_nil]); first | done | rfl | (simp only [List.length_drop, List.length_take]; rfl) | (simp only [ByteArray.size_extract, Nat.sub_zero]; rfl) | (simp only [ByteArray.size_extract, Nat.sub_zero]; done)) ?_; (with_reducible refine (emulatorref04_Valid.calls a0 t151 _ A3.out).mono ?_); rintro e w' ⟨rfl, ⟨nd, rfl⟩⟩; refine ⟨_, rfl, ?_⟩) | (go_at_call 19; (with_reducible refine (psw_Mode.calls a0 t152 _ A5.out).mono ?_); rintro e w' ⟨rfl, ⟨nd, rfl⟩⟩) | (go_at_call 20; (with_reducible refine (emulatorref04_Mode.calls a0 t153 _ A6.out).mono ?_); rintro e w' ⟨rfl, ⟨nd, rfl⟩⟩) | (go_at_call 21; (with_reducible refine (psw_Previous.calls a0 t154 _ A8.out).mono ?_); rintro e w' ⟨rfl, ⟨nd, rfl⟩⟩) | (go_at_call 22; (with_reducible refine (emulatorref04_Previous.calls a0 t155 _ A9.out).mono ?_); rintro e w' ⟨rfl, ⟨nd, rfl⟩⟩) | (go_at_call 23; (with_reducible refine (psw_Priority.calls a0 t156 _ A11.out).mono ?_); rintro e w' ⟨rfl, ⟨nd, rfl⟩⟩) | (go_at_call 24; (with_reducible refine (emulatorref04_Priority.calls a0 t157 _ A12.out).mono ?_); rintro e w' ⟨rfl, ⟨nd, rfl⟩⟩) | (go_at_call 25; (with_reducible refine (psw_Flags.calls a0 t158 _ A14.out).mono ?_); rintro e w' ⟨rfl, ⟨nd, rfl⟩⟩) | (go_at_call 26; (with_reducible refine (emulatorref04_Flags.calls a0 t159 _ A15.out).mono ?_); rintro e w' ⟨rfl, ⟨nd, rfl⟩⟩) | (go_at_call 27; (with_reducible refine (psw_Trace.calls a0 t160 _ A17.out).mono ?_); rintro e w' ⟨rfl, ⟨nd, rfl⟩⟩) | (go_at_call 28; (with_reducible refine (emulatorref04_Trace.calls a0 t161 _ A18.out).mono ?_); rintro e w' ⟨rfl, ⟨nd, rfl⟩⟩))
              go_ret
              exact ⟨by first | rfl | (simp [errW_none, errW_some] <;> rfl) | (simp [*, errW_none, errW_some] <;> rfl), by repeat (first | (with_reducible first | exact HB.out | apply below_alloc | apply pw_below_drewN | apply below_drew1) | exact HB.out)⟩
          · rw [if_neg c16] at H
            have c16b0 : (t158 == t159) = false := beq_eq_false_iff_ne.mpr c16
            have c16b1 : (t158 != t159) = true := bne_iff_ne.mpr c16
            obtain rfl := Option.some.inj H
            go_enter Try.func6, Try.ntmps6
            go_wp2_with (first | ((with_reducible refine gate_callee (f := 17) rfl ?_); refine goesL_ (some 4) rfl rfl Try.func17 (by kernel_rfl) rfl #[.int .i64 a0] rfl (by (try simp only [List.map_toArray, List.map_cons, List.map_nil]); first | done | rfl | (simp only [List.length_drop, List.length_take]; rfl) | (simp only [ByteArray.size_extract, Nat.sub_zero]; rfl) | (simp only [ByteArray.size_extract, Nat.sub_zero]; done)) ?_; (with_reducible refine (psw_Valid.calls a0 t150 _ A2.out).mono ?_); rintro e w' ⟨rfl, ⟨nd, rfl⟩⟩; refine ⟨_, rfl, ?_⟩) | ((with_reducible refine gate_callee (f := 18) rfl ?_); refine goesL_ (some 6) rfl rfl Try.func18 (by kernel_rfl) rfl #[.int .i64 a0] rfl (by (try simp only [List.map_toArray, List.map_cons, List.map_nil]); first | done | rfl | (simp only [List.length_drop, List.length_take]; rfl) | (simp only [ByteArray.size_extract, Nat.sub_zero]; rfl) | (simp only [ByteArray.size_extract, Nat.sub_zero]; done)) ?_; (with_reducible refine (emulatorref04_Valid.calls a0 t151 _ A3.out).mono ?_); rintro e w' ⟨rfl, ⟨nd, rfl⟩⟩; refine ⟨_, rfl, ?_⟩) | (go_at_call 19; (with_reducible refine (psw_Mode.calls a0 t152 _ A5.out).mono ?_); rintro e w' ⟨rfl, ⟨nd, rfl⟩⟩) | (go_at_call 20; (with_reducible refine (emulatorref04_Mode.calls a0 t153 _ A6.out).mono ?_); rintro e w' ⟨rfl, ⟨nd, rfl⟩⟩) | (go_at_call 21; (with_reducible refine (psw_Previous.calls a0 t154 _ A8.out).mono ?_); rintro e w' ⟨rfl, ⟨nd, rfl⟩⟩) | (go_at_call 22; (with_reducible refine (emulatorref04_Previous.calls a0 t155 _ A9.out).mono ?_); rintro e w' ⟨rfl, ⟨nd, rfl⟩⟩) | (go_at_call 23; (with_reducible refine (psw_Priority.calls a0 t156 _ A11.out).mono ?_); rintro e w' ⟨rfl, ⟨nd, rfl⟩⟩) | (go_at_call 24; (with_reducible refine (emulatorref04_Priority.calls a0 t157 _ A12.out).mono ?_); rintro e w' ⟨rfl, ⟨nd, rfl⟩⟩) | (go_at_call 25; (with_reducible refine (psw_Flags.calls a0 t158 _ A14.out).mono ?_); rintro e w' ⟨rfl, ⟨nd, rfl⟩⟩) | (go_at_call 26; (with_reducible refine (emulatorref04_Flags.calls a0 t159 _ A15.out).mono ?_); rintro e w' ⟨rfl, ⟨nd, rfl⟩⟩))
            go_ret
            exact ⟨by first | rfl | (simp [errW_none, errW_some] <;> rfl) | (simp [*, errW_none, errW_some] <;> rfl), by repeat (first | (with_reducible first | exact HB.out | apply below_alloc | apply pw_below_drewN | apply below_drew1) | exact HB.out)⟩
        · rw [if_neg c13] at H
          have c13b0 : (t156 == t157) = false := beq_eq_false_iff_ne.mpr c13
          have c13b1 : (t156 != t157) = true := bne_iff_ne.mpr c13
          obtain rfl := Option.some.inj H
          go_enter Try.func6, Try.ntmps6
          go_wp2_with (first | ((with_reducible refine gate_callee (f := 17) rfl ?_); refine goesL_ (some 4) rfl rfl Try.func17 (by kernel_rfl) rfl #[.int .i64 a0] rfl (by (try simp only [List.map_toArray, List.map_cons, List.map_nil]); first | done | rfl | (simp only [List.length_drop, List.length_take]; rfl) | (simp only [ByteArray.size_extract, Nat.sub_zero]; rfl) | (simp only [ByteArray.size_extract, Nat.sub_zero]; done)) ?_; (with_reducible refine (psw_Valid.calls a0 t150 _ A2.out).mono ?_); rintro e w' ⟨rfl, ⟨nd, rfl⟩⟩; refine ⟨_, rfl, ?_⟩) | ((with_reducible refine gate_callee (f := 18) rfl ?_); refine goesL_ (some 6) rfl rfl Try.func18 (by kernel_rfl) rfl #[.int .i64 a0] rfl (by (try simp only [List.map_toArray, List.map_cons, List.map_nil]); first | done | rfl | (simp only [List.length_drop, List.length_take]; rfl) | (simp only [ByteArray.size_extract, Nat.sub_zero]; rfl) | (simp only [ByteArray.size_extract, Nat.sub_zero]; done)) ?_; (with_reducible refine (emulatorref04_Valid.calls a0 t151 _ A3.out).mono ?_); rintro e w' ⟨rfl, ⟨nd, rfl⟩⟩; refine ⟨_, rfl, ?_⟩) | (go_at_call 19; (with_reducible refine (psw_Mode.calls a0 t152 _ A5.out).mono ?_); rintro e w' ⟨rfl, ⟨nd, rfl⟩⟩) | (go_at_call 20; (with_reducible refine (emulatorref04_Mode.calls a0 t153 _ A6.out).mono ?_); rintro e w' ⟨rfl, ⟨nd, rfl⟩⟩) | (go_at_call 21; (with_reducible refine (psw_Previous.calls a0 t154 _ A8.out).mono ?_); rintro e w' ⟨rfl, ⟨nd, rfl⟩⟩) | (go_at_call 22; (with_reducible refine (emulatorref04_Previous.calls a0 t155 _ A9.out).mono ?_); rintro e w' ⟨rfl, ⟨nd, rfl⟩⟩) | (go_at_call 23; (with_reducible refine (psw_Priority.calls a0 t156 _ A11.out).mono ?_); rintro e w' ⟨rfl, ⟨nd, rfl⟩⟩) | (go_at_call 24; (with_reducible refine (emulatorref04_Priority.calls a0 t157 _ A12.out).mono ?_); rintro e w' ⟨rfl, ⟨nd, rfl⟩⟩))
          go_ret
          exact ⟨by first | rfl | (simp [errW_none, errW_some] <;> rfl) | (simp [*, errW_none, errW_some] <;> rfl), by repeat (first | (with_reducible first | exact HB.out | apply below_alloc | apply pw_below_drewN | apply below_drew1) | exact HB.out)⟩
      · rw [if_neg c10] at H
        have c10b0 : (t154 == t155) = false := beq_eq_false_iff_ne.mpr c10
        have c10b1 : (t154 != t155) = true := bne_iff_ne.mpr c10
        obtain rfl := Option.some.inj H
        go_enter Try.func6, Try.ntmps6
        go_wp2_with (first | ((with_reducible refine gate_callee (f := 17) rfl ?_); refine goesL_ (some 4) rfl rfl Try.func17 (by kernel_rfl) rfl #[.int .i64 a0] rfl (by (try simp only [List.map_toArray, List.map_cons, List.map_nil]); first | done | rfl | (simp only [List.length_drop, List.length_take]; rfl) | (simp only [ByteArray.size_extract, Nat.sub_zero]; rfl) | (simp only [ByteArray.size_extract, Nat.sub_zero]; done)) ?_; (with_reducible refine (psw_Valid.calls a0 t150 _ A2.out).mono ?_); rintro e w' ⟨rfl, ⟨nd, rfl⟩⟩; refine ⟨_, rfl, ?_⟩) | ((with_reducible refine gate_callee (f := 18) rfl ?_); refine goesL_ (some 6) rfl rfl Try.func18 (by kernel_rfl) rfl #[.int .i64 a0] rfl (by (try simp only [List.map_toArray, List.map_cons, List.map_nil]); first | done | rfl | (simp only [List.length_drop, List.length_take]; rfl) | (simp only [ByteArray.size_extract, Nat.sub_zero]; rfl) | (simp only [ByteArray.size_extract, Nat.sub_zero]; done)) ?_; (with_reducible refine (emulatorref04_Valid.calls a0 t151 _ A3.out).mono ?_); rintro e w' ⟨rfl, ⟨nd, rfl⟩⟩; refine ⟨_, rfl, ?_⟩) | (go_at_call 19; (with_reducible refine (psw_Mode.calls a0 t152 _ A5.out).mono ?_); rintro e w' ⟨rfl, ⟨nd, rfl⟩⟩) | (go_at_call 20; (with_reducible refine (emulatorref04_Mode.calls a0 t153 _ A6.out).mono ?_); rintro e w' ⟨rfl, ⟨nd, rfl⟩⟩) | (go_at_call 21; (with_reducible refine (psw_Previous.calls a0 t154 _ A8.out).mono ?_); rintro e w' ⟨rfl, ⟨nd, rfl⟩⟩) | (go_at_call 22; (with_reducible refine (emulatorref04_Previous.calls a0 t155 _ A9.out).mono ?_); rintro e w' ⟨rfl, ⟨nd, rfl⟩⟩))
        go_ret
        exact ⟨by first | rfl | (simp [errW_none, errW_some] <;> rfl) | (simp [*, errW_none, errW_some] <;> rfl), by repeat (first | (with_reducible first | exact HB.out | apply below_alloc | apply pw_below_drewN | apply below_drew1) | exact HB.out)⟩
    · rw [if_neg c7] at H
      have c7b0 : (t152 == t153) = false := beq_eq_false_iff_ne.mpr c7
      have c7b1 : (t152 != t153) = true := bne_iff_ne.mpr c7
      obtain rfl := Option.some.inj H
      go_enter Try.func6, Try.ntmps6
      go_wp2_with (first | ((with_reducible refine gate_callee (f := 17) rfl ?_); refine goesL_ (some 4) rfl rfl Try.func17 (by kernel_rfl) rfl #[.int .i64 a0] rfl (by (try simp only [List.map_toArray, List.map_cons, List.map_nil]); first | done | rfl | (simp only [List.length_drop, List.length_take]; rfl) | (simp only [ByteArray.size_extract, Nat.sub_zero]; rfl) | (simp only [ByteArray.size_extract, Nat.sub_zero]; done)) ?_; (with_reducible refine (psw_Valid.calls a0 t150 _ A2.out).mono ?_); rintro e w' ⟨rfl, ⟨nd, rfl⟩⟩; refine ⟨_, rfl, ?_⟩) | ((with_reducible refine gate_callee (f := 18) rfl ?_); refine goesL_ (some 6) rfl rfl Try.func18 (by kernel_rfl) rfl #[.int .i64 a0] rfl (by (try simp only [List.map_toArray, List.map_cons, List.map_nil]); first | done | rfl | (simp only [List.length_drop, List.length_take]; rfl) | (simp only [ByteArray.size_extract, Nat.sub_zero]; rfl) | (simp only [ByteArray.size_extract, Nat.sub_zero]; done)) ?_; (with_reducible refine (emulatorref04_Valid.calls a0 t151 _ A3.out).mono ?_); rintro e w' ⟨rfl, ⟨nd, rfl⟩⟩; refine ⟨_, rfl, ?_⟩) | (go_at_call 19; (with_reducible refine (psw_Mode.calls a0 t152 _ A5.out).mono ?_); rintro e w' ⟨rfl, ⟨nd, rfl⟩⟩) | (go_at_call 20; (with_reducible refine (emulatorref04_Mode.calls a0 t153 _ A6.out).mono ?_); rintro e w' ⟨rfl, ⟨nd, rfl⟩⟩))
      go_ret
      exact ⟨by first | rfl | (simp [errW_none, errW_some] <;> rfl) | (simp [*, errW_none, errW_some] <;> rfl), by repeat (first | (with_reducible first | exact HB.out | apply below_alloc | apply pw_below_drewN | apply below_drew1) | exact HB.out)⟩
  · rw [if_neg c4] at H
    have c4b0 : (t150 == t151) = false := by simpa using c4
    (try (have c4b1 : decide (t150 = t151) = false := by simpa using c4))
    (try (have c4b2 : (t150 == t151) = false := by simpa using c4))
    (try (have c4b3 : ¬ (t150 = t151) := by simpa using c4))
    clear c4
    obtain rfl := Option.some.inj H
    go_enter Try.func6, Try.ntmps6
    go_wp2_with (first | ((with_reducible refine gate_callee (f := 17) rfl ?_); refine goesL_ (some 4) rfl rfl Try.func17 (by kernel_rfl) rfl #[.int .i64 a0] rfl (by (try simp only [List.map_toArray, List.map_cons, List.map_nil]); first | done | rfl | (simp only [List.length_drop, List.length_take]; rfl) | (simp only [ByteArray.size_extract, Nat.sub_zero]; rfl) | (simp only [ByteArray.size_extract, Nat.sub_zero]; done)) ?_; (with_reducible refine (psw_Valid.calls a0 t150 _ A2.out).mono ?_); rintro e w' ⟨rfl, ⟨nd, rfl⟩⟩; refine ⟨_, rfl, ?_⟩) | ((with_reducible refine gate_callee (f := 18) rfl ?_); refine goesL_ (some 6) rfl rfl Try.func18 (by kernel_rfl) rfl #[.int .i64 a0] rfl (by (try simp only [List.map_toArray, List.map_cons, List.map_nil]); first | done | rfl | (simp only [List.length_drop, List.length_take]; rfl) | (simp only [ByteArray.size_extract, Nat.sub_zero]; rfl) | (simp only [ByteArray.size_extract, Nat.sub_zero]; done)) ?_; (with_reducible refine (emulatorref04_Valid.calls a0 t151 _ A3.out).mono ?_); rintro e w' ⟨rfl, ⟨nd, rfl⟩⟩; refine ⟨_, rfl, ?_⟩))
    go_ret
    exact ⟨by first | rfl | (simp [errW_none, errW_some] <;> rfl) | (simp [*, errW_none, errW_some] <;> rfl), by repeat (first | (with_reducible first | exact HB.out | apply below_alloc | apply pw_below_drewN | apply below_drew1) | exact HB.out)⟩

/-- THE ONE PURE STATEMENT of emulatorlaw04_PswGets: yours. -/
def emulatorlaw04_PswGets.Pure : Prop := ∀ (a0 : Int), (Lit.int .i64 a0).wf = true → ∃ k, emulatorlaw04_PswGets.f k a0 = some true
theorem emulatorlaw04_PswGets.walk (P : emulatorlaw04_PswGets.Pure) (a0 : Int) (w : World) (w0 : (Lit.int .i64 a0).wf = true) :
    Calls Try.prog 6 #[.int .i64 a0] w fun e w' => e = .returned (.bool true) ∧ Below w.heap.size w w' := by
  obtain ⟨k, h⟩ := P a0 w0
  refine (emulatorlaw04_PswGets.calls k a0 true w h).mono ?_
  rintro e w' ⟨rfl, hd⟩
  exact ⟨rfl, hd⟩

end Go.Proofs.Ytkopdpdenmjecaa.K
