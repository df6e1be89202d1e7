/- What the functions of layer 4 answer, in plain numbers; the five laws. -/
import Derived.Test.YtkopdpdenmjecaaKx3
import Derived.Test.YtkopdpdenmjecaaKx2
import Derived.Test.YtkopdpdenmjecaaKx1
import Derived.Test.YtkopdpdenmjecaaMyPswB
set_option linter.unusedVariables false
set_option linter.unusedSimpArgs false
namespace Go.Proofs.Ytkopdpdenmjecaa.Pure
open Go Go.RowKit Go.Proofs.Ytkopdpdenmjecaa.K Go.Proofs.YtkopdpdenmjecaaW.PrintWords Go.Proofs.YtkopdpdenmjecaaW.PrintLast Go.Proofs.YtkopdpdenmjecaaW.PrintMore Go.Proofs.Ytkopdpdenmjecaa.MyBits

theorem alive6 : emulatorlaw04_alive.f 6 = some true := by decide +kernel
theorem mode_is (a : Int) : psw_Mode.f a = some (a / 32768 % 2) := by unfold psw_Mode.f; rw [and1]
theorem prev_is (a : Int) : psw_Previous.f a = some (a / 16384 % 2) := by unfold psw_Previous.f; rw [and1]
theorem prio_is (a : Int) : psw_Priority.f a = some (a / 32 % 8) := by unfold psw_Priority.f; rw [and224]; congr 1; omega
theorem flags_is (a : Int) : psw_Flags.f a = some (a % 16) := by unfold psw_Flags.f; rw [and15]
theorem trace_is (a : Int) : psw_Trace.f a = some (a / 16 % 2 != 0) := by
  unfold psw_Trace.f; rw [and16]; congr 1
  rw [Bool.eq_iff_iff]; simp only [bne_iff_ne, ne_eq]; omega
theorem valid_is (a : Int) : psw_Valid.f a = some (a / 16384 % 4 * 16384 + a % 256 == a) := by unfold psw_Valid.f; rw [and49407]
theorem withF_is (a b : Int) : psw_WithFlags.f a b = some (withF a b) := by unfold psw_WithFlags.f; rw [or_withF]
theorem enter_is (a b : Int) : psw_Enter.f a b = some (entW a b) := by unfold psw_Enter.f; rw [or_entW]
theorem return_is (a b : Int) : psw_Return.f a b = some (if a / 32768 % 2 = 0 then b / 16384 % 4 * 16384 + b % 256 else retW a b) := by
  unfold psw_Return.f; rw [mode_is, and49407, or_retW]; simp only [Option.bind_some]
  split <;> rfl
theorem rmode_is (a : Int) : emulatorref04_Mode.f a = some (a / 32768 % 2) := by unfold emulatorref04_Mode.f; rw [and1]
theorem rprev_is (a : Int) : emulatorref04_Previous.f a = some (a / 16384 % 2) := by unfold emulatorref04_Previous.f; rw [and1]
theorem rprio_is (a : Int) : emulatorref04_Priority.f a = some (a / 32 % 8) := by unfold emulatorref04_Priority.f; rw [and7]

theorem PswForms : emulatorlaw04_PswForms.Pure := by
  intro a b ha hb
  refine ⟨6, ?_⟩
  unfold emulatorlaw04_PswForms.f emulatorref04_WithFlags.f emulatorref04_Enter.f emulatorref04_Return.f
  rw [alive6, withF_is, ref_withF, enter_is, return_is, rmode_is]
  simp only [Option.bind_some, if_true]
  have e1 : wrap64 (Go.bits .and .i64 b 33023 + wrap64 (a / 32768 % 2 * 16384)) = entW a b := by rw [← ref_entW, and1]
  rw [e1, if_pos rfl]
  by_cases h : a / 32768 % 2 = 0
  · simp only [h, if_true, Option.bind_some, and49407]
  · simp only [h, if_false, ref_retW, Option.bind_some, if_true]

theorem PswGets : emulatorlaw04_PswGets.Pure := by
  intro a ha
  refine ⟨6, ?_⟩
  have hv : emulatorref04_Valid.f a = some (a / 16384 % 4 * 16384 + a % 256 == a) := by
    unfold emulatorref04_Valid.f
    by_cases h0 : a ≥ 0
    · by_cases h1 : a ≤ 65535
      · rw [if_pos h0, if_pos h1, ref_valid a h0 h1, and49407]
      · rw [if_pos h0, if_neg h1]; congr 1; symm; rw [beq_eq_false_iff_ne]; omega
    · rw [if_neg h0]; congr 1; symm; rw [beq_eq_false_iff_ne]; omega
  have hf : emulatorref04_Flags.f a = some (a % 16) := by unfold emulatorref04_Flags.f; rw [and15]
  have ht : emulatorref04_Trace.f a = some (a / 16 % 2 != 0) := by
    unfold emulatorref04_Trace.f; rw [and16]; congr 1
    rw [Bool.eq_iff_iff]; simp only [bne_iff_ne, ne_eq]; omega
  unfold emulatorlaw04_PswGets.f
  rw [alive6, valid_is, hv, mode_is, rmode_is, prev_is, rprev_is, prio_is, rprio_is, flags_is, hf, trace_is, ht]
  simp only [Option.bind_some, if_true, BEq.rfl]

theorem w1 (a b : Int) : withF a b / 16384 % 4 * 16384 + withF a b % 256 = withF a b := by unfold withF; omega
theorem w2 (a b : Int) : entW a b / 16384 % 4 * 16384 + entW a b % 256 = entW a b := by unfold entW; omega
theorem w3 (a b : Int) : retW a b / 16384 % 4 * 16384 + retW a b % 256 = retW a b := by unfold retW; omega
theorem w4 (a b : Int) : withF a b % 16 = b % 16 := by unfold withF; omega
theorem w5 (a b : Int) : withF a b / 32768 % 2 = a / 32768 % 2 := by unfold withF; omega
theorem w6 (a b : Int) : withF a b / 16384 % 2 = a / 16384 % 2 := by unfold withF; omega
theorem w7 (a b : Int) : withF a b / 32 % 8 = a / 32 % 8 := by unfold withF; omega
theorem w8 (a b : Int) : withF a b / 16 % 2 = a / 16 % 2 := by unfold withF; omega
theorem e1 (a b : Int) : entW a b / 16384 % 2 = a / 32768 % 2 := by unfold entW; omega
theorem e2 (a b : Int) : entW a b / 32768 % 2 = b / 32768 % 2 := by unfold entW; omega
theorem e3 (a b : Int) : entW a b / 32 % 8 = b / 32 % 8 := by unfold entW; omega
theorem e4 (a b : Int) : entW a b % 16 = b % 16 := by unfold entW; omega
theorem e5 (a b : Int) : entW a b / 16 % 2 = b / 16 % 2 := by unfold entW; omega
theorem r1 (b : Int) : (b / 16384 % 4 * 16384 + b % 256) % 16 = b % 16 := by omega
theorem r2 (b : Int) : (b / 16384 % 4 * 16384 + b % 256) / 16 % 2 = b / 16 % 2 := by omega
theorem r3 (a b : Int) : retW a b % 16 = b % 16 := by unfold retW; omega
theorem q3 (a b : Int) : retW a b / 16 % 2 = b / 16 % 2 := by unfold retW; omega
theorem q4 (a b : Int) : retW a b / 32768 % 2 = a / 32768 % 2 := by unfold retW; omega
theorem q5 (a b : Int) : retW a b / 16384 % 2 = a / 16384 % 2 := by unfold retW; omega
theorem q6 (a b : Int) : retW a b / 32 % 8 = a / 32 % 8 := by unfold retW; omega
theorem p3 (b : Int) : (b / 16384 % 4 * 16384 + b % 256) / 32768 % 2 = b / 32768 % 2 := by omega
theorem p4 (b : Int) : (b / 16384 % 4 * 16384 + b % 256) / 16384 % 2 = b / 16384 % 2 := by omega
theorem p5 (b : Int) : (b / 16384 % 4 * 16384 + b % 256) / 32 % 8 = b / 32 % 8 := by omega
theorem p6 (b : Int) : (b / 16384 % 4 * 16384 + b % 256) / 16384 % 4 * 16384 + (b / 16384 % 4 * 16384 + b % 256) % 256 = b / 16384 % 4 * 16384 + b % 256 := by omega

theorem keeps_j3 (k : Nat) (a b c : Int) (hal : emulatorlaw04_alive.f k = some true) (h1 : a / 32768 % 2 = 1 → c / 32768 % 2 = 1 ∧ c / 16384 % 2 = a / 16384 % 2 ∧ c / 32 % 8 = a / 32 % 8)
    (h0 : ¬ a / 32768 % 2 = 1 → c / 32768 % 2 = b / 32768 % 2 ∧ c / 16384 % 2 = b / 16384 % 2 ∧ c / 32 % 8 = b / 32 % 8) : emulatorlaw04_PswKeeps.j3 (k + 1) a b c false = some true := by
  rw [emulatorlaw04_PswKeeps.j3]
  rw [if_neg (by decide), mode_is, Option.bind_some]
  by_cases h : a / 32768 % 2 = 1
  · obtain ⟨x, y, z⟩ := h1 h
    rw [if_pos h, mode_is, Option.bind_some, if_pos x, prev_is, prev_is, Option.bind_some, Option.bind_some, if_pos y, prio_is, prio_is, Option.bind_some, Option.bind_some, if_pos z, hal]; rfl
  · obtain ⟨x, y, z⟩ := h0 h
    rw [if_neg h, mode_is, mode_is, Option.bind_some, Option.bind_some, if_pos x, prev_is, prev_is, Option.bind_some, Option.bind_some, if_pos y, prio_is, prio_is, Option.bind_some, Option.bind_some, if_pos z, hal]; rfl
theorem same_ne (x : Bool) : (x != x) = false := by cases x <;> rfl
theorem keeps_j2 (k : Nat) (a b c : Int) (hf : c % 16 = b % 16) (ht : c / 16 % 2 = b / 16 % 2) (h : emulatorlaw04_PswKeeps.j3 k a b c false = some true) : emulatorlaw04_PswKeeps.j2 (k + 1) a b c false = some true := by
  rw [emulatorlaw04_PswKeeps.j2]
  rw [if_neg (by decide), flags_is, flags_is, Option.bind_some, Option.bind_some, if_pos hf, trace_is, trace_is, Option.bind_some, Option.bind_some, ht, same_ne, h]
theorem keeps_j1 (k : Nat) (a b c : Int) (h : emulatorlaw04_PswKeeps.j2 k a b c false = some true) : emulatorlaw04_PswKeeps.j1 (k + 1) a b (entW a b) c false = some true := by
  rw [emulatorlaw04_PswKeeps.j1]
  rw [if_neg (by decide), prev_is, mode_is, Option.bind_some, Option.bind_some, if_pos (e1 a b), mode_is, mode_is, Option.bind_some, Option.bind_some, if_pos (e2 a b), prio_is, prio_is, Option.bind_some, Option.bind_some, if_pos (e3 a b),
    flags_is, flags_is, Option.bind_some, Option.bind_some, if_pos (e4 a b), trace_is, trace_is, Option.bind_some, Option.bind_some, e5, same_ne, h]
theorem keeps_j0 (k : Nat) (a b d c : Int) (h : emulatorlaw04_PswKeeps.j1 k a b d c false = some true) : emulatorlaw04_PswKeeps.j0 (k + 1) a b (withF a b) d c false = some true := by
  rw [emulatorlaw04_PswKeeps.j0]
  rw [if_neg (by decide), flags_is, Option.bind_some, and15, if_pos (w4 a b), mode_is, mode_is, Option.bind_some, Option.bind_some, if_pos (w5 a b), prev_is, prev_is, Option.bind_some, Option.bind_some, if_pos (w6 a b),
    prio_is, prio_is, Option.bind_some, Option.bind_some, if_pos (w7 a b), trace_is, trace_is, Option.bind_some, Option.bind_some, w8, same_ne, h]

theorem PswKeeps : emulatorlaw04_PswKeeps.Pure := by
  intro a b ha hb
  obtain ⟨k, hal⟩ : ∃ k, emulatorlaw04_alive.f k = some true := ⟨6, alive6⟩
  refine ⟨k + 4, ?_⟩
  have v1 : psw_Valid.f (withF a b) = some true := by rw [valid_is, w1]; exact congrArg some BEq.rfl
  have v2 : psw_Valid.f (entW a b) = some true := by rw [valid_is, w2]; exact congrArg some BEq.rfl
  have v3 : ∀ c, (c = b / 16384 % 4 * 16384 + b % 256 ∨ c = retW a b) → psw_Valid.f c = some true := by
    rintro c (rfl | rfl)
    · rw [valid_is, p6]; exact congrArg some BEq.rfl
    · rw [valid_is, w3]; exact congrArg some BEq.rfl
  have hc : ∃ c, psw_Return.f a b = some c ∧ (c = b / 16384 % 4 * 16384 + b % 256 ∧ ¬ a / 32768 % 2 = 1 ∨ c = retW a b ∧ a / 32768 % 2 = 1) := by
    rw [return_is]
    by_cases h : a / 32768 % 2 = 0
    · rw [if_pos h]; exact ⟨_, rfl, .inl ⟨rfl, by omega⟩⟩
    · rw [if_neg h]; exact ⟨_, rfl, .inr ⟨rfl, by omega⟩⟩
  obtain ⟨c, hr, hc⟩ := hc
  have hv : psw_Valid.f c = some true := v3 c (hc.imp (fun h => h.1) (fun h => h.1))
  have hj : emulatorlaw04_PswKeeps.j0 (k + 4) a b (withF a b) (entW a b) c false = some true := by
    refine keeps_j0 _ _ _ _ _ (keeps_j1 _ _ _ _ (keeps_j2 _ _ _ _ ?_ ?_ (keeps_j3 _ _ _ _ hal ?_ ?_)))
    · rcases hc with ⟨rfl, _⟩ | ⟨rfl, _⟩
      · exact r1 b
      · exact r3 a b
    · rcases hc with ⟨rfl, _⟩ | ⟨rfl, _⟩
      · exact r2 b
      · exact q3 a b
    · intro h
      rcases hc with ⟨rfl, h2⟩ | ⟨rfl, _⟩
      · exact absurd h h2
      · exact ⟨by rw [q4]; exact h, q5 a b, q6 a b⟩
    · intro h
      rcases hc with ⟨rfl, h2⟩ | ⟨rfl, h2⟩
      · exact ⟨p3 b, p4 b, p5 b⟩
      · exact absurd h2 h
  unfold emulatorlaw04_PswKeeps.f
  rw [withF_is, enter_is, hr, Option.bind_some, Option.bind_some, Option.bind_some, v1, Option.bind_some, if_pos rfl, v2, Option.bind_some, if_pos rfl, hv, Option.bind_some]
  exact hj
end Go.Proofs.Ytkopdpdenmjecaa.Pure
