/- object: slices.ContainsFunc at symbols, and the closure of object.Defines. -/
import Derived.Test.YtenlmckahaniiaaKx0
import Derived.Test.YtenlmckahaniiaaMyOlA
set_option linter.unusedVariables false
set_option linter.unusedSimpArgs false
namespace Go.Proofs.Ytenlmckahaniiaa.K
open Go Go.Proofs Go.RowKit Go.Lib Go.Proofs.YtenlmckahaniiaaW.PrintWords Go.Proofs.YtenlmckahaniiaaW.PrintLast
def pSym (name : ByteArray) (x : S62) : Bool := x.f3 && x.f0.toList == name.toList
set_option maxHeartbeats 1000000 in
set_option maxRecDepth 100000 in
theorem definesF_calls (x : S62) (q : Nat) (name : ByteArray) (w : World) (hq : w.cell? ⟨q, 0, none⟩ = some (.string name)) :
    Calls Try.prog 73 #[.agg #[.string x.f0, .int .i64 x.f1, .int .i64 x.f2, .bool x.f3], .pointer (some ⟨q, 0, none⟩)] w fun e w' => e = .returned (.bool (pSym name x)) ∧ Below w.heap.size w w' := by
  have hlt := World.block_lt_of_cell? w _ hq
  unfold pSym
  cases hx : x.f3 with
  | true =>
    go_enter Try.func73, Try.ntmps73
    go_wp2
    go_ret
    exact ⟨rfl, (Below.refl _ _).alloc (Nat.le_refl _) _⟩
  | false =>
    go_enter Try.func73, Try.ntmps73
    go_wp2
    go_ret
    exact ⟨rfl, (Below.refl _ _).alloc (Nat.le_refl _) _⟩
/-- The place of the first element for which p holds, or -1. -/
def idxF {α : Type} (p : α → Bool) (l : List α) : Int := match l.findIdx? p with | some i => i | none => -1
theorem idxF_found {α : Type} (p : α → Bool) (l : List α) (i : Nat) (h : i < l.length) (h0 : ∀ j (hj : j < l.length), j < i → p l[j] = false) (h1 : p l[i] = true) : idxF p l = i := by
  have : l.findIdx? p = some i := by
    rw [List.findIdx?_eq_some_iff_getElem]
    exact ⟨h, h1, fun j hj => by simp [h0 j (by omega) hj]⟩
  unfold idxF; rw [this]
theorem idxF_none {α : Type} (p : α → Bool) (l : List α) (h0 : ∀ j (hj : j < l.length), p l[j] = false) : idxF p l = -1 := by
  have : l.findIdx? p = none := by
    rw [List.findIdx?_eq_none_iff]
    intro x hx
    obtain ⟨j, hj, rfl⟩ := List.getElem_of_mem hx
    exact h0 j hj
  unfold idxF; rw [this]
theorem rd62_get (l : List S62) (i : Nat) (h : i < l.length) : rd_T62 l (i : Int) = l[i] := by
  simp [rd_T62, List.getD_eq_getElem?_getD, h]
set_option maxHeartbeats 2000000 in
set_option maxRecDepth 100000 in
theorem indexFunc_calls (p : S62 → Bool) (g q : Nat) (hg : ∀ args w, (callFunc g args).run Try.prog w = .ok (.enter g args) w) (A : Option Addr) (c : Nat) (l : List S62) (w : World) (hC : Kd.C k62 w A l.length l)
    (hp : ∀ x w1, Below w.heap.size w w1 → Calls Try.prog g #[.agg #[.string x.f0, .int .i64 x.f1, .int .i64 x.f2, .bool x.f3], .pointer (some ⟨q, 0, none⟩)] w1 fun e w' => e = .returned (.bool (p x)) ∧ Below w1.heap.size w1 w') :
    Calls Try.prog 101 #[.slice A l.length c, .func (.func g) #[] #[.pointer (some ⟨q, 0, none⟩)]] w fun e w' => e = .returned (.int .i64 (idxF p l)) ∧ Below w.heap.size w w' := by
  have HC := Aside0.mk hC
  have HP := Aside0.mk hp
  have HL := Aside0.mk (show l.length ≤ 9223372036854775807 from hC.2.1)
  clear hC hp
  go_enter Try.func101, Try.ntmps101
  go_wp2
  go_loopg [8] l.length (fun gk v8 w' => ∃ i : Nat, v8 = .int .i64 i ∧ i ≤ l.length ∧ l.length - i ≤ gk ∧ Aside0 (∀ j (hj : j < l.length), j < i → p l[j] = false) ∧ Aside0 (Below w.heap.size w w'))
  case atStart => exact ⟨0, rfl, by omega, by omega, ⟨fun j hj h => by omega⟩, ⟨Below.refl _ _⟩⟩
  case round =>
    obtain ⟨i, rfl, hi, hk, HN, HB⟩ := hrel
    by_cases h2 : i < l.length
    · have c2 : decide ((i : Int) < (l.length : Int)) = true := by simpa using h2
      have c3 : (0 ≤ (i : Int)) = True := by simp
      obtain ⟨ad, ead, hx_0, hx_1, hx_2, hx_3⟩ := at_T62 HC.out i (by omega) (by omega)
      cases ead
      replace hx_0 := (HB.out.cell (World.block_lt_of_cell? w _ hx_0)).trans hx_0
      replace hx_1 := (HB.out.cell (World.block_lt_of_cell? w _ hx_1)).trans hx_1
      replace hx_2 := (HB.out.cell (World.block_lt_of_cell? w _ hx_2)).trans hx_2
      replace hx_3 := (HB.out.cell (World.block_lt_of_cell? w _ hx_3)).trans hx_3
      have hrd := rd62_get l i h2
      obtain ⟨sy, hsy⟩ : ∃ sy, sy = l[i] := ⟨_, rfl⟩
      rw [hrd, ← hsy] at hx_0 hx_1 hx_2 hx_3
      simp only [Int.toNat_natCast] at hx_0 hx_1 hx_2 hx_3
      clear hrd
      have HSY := Aside0.mk hsy
      clear hsy
      cases hpx : p sy with
      | true =>
        have HPX := Aside0.mk hpx
        have HQ := Aside0.mk (show Calls Try.prog g _ wr _ from hpx ▸ HP.out sy wr HB.out)
        clear hpx
        go_wp2_with ((with_reducible refine HQ.out.mono ?_); rintro e w2 ⟨rfl, hb⟩; have HB2 := Aside0.mk (below_step HB.out hb); clear hb)
        go_ret
        refine ⟨?_, HB2.out⟩
        rw [idxF_found p l i h2 HN.out (by rw [← HSY.out]; exact HPX.out)]; rfl
      | false =>
        have HPX := Aside0.mk hpx
        have HQ := Aside0.mk (show Calls Try.prog g _ wr _ from hpx ▸ HP.out sy wr HB.out)
        clear hpx
        have HLI := HL.out
        go_wp2_with ((with_reducible refine HQ.out.mono ?_); rintro e w2 ⟨rfl, hb⟩; have HB2 := Aside0.mk (below_step HB.out hb); clear hb)
        go_roundg (l.length - (i + 1))
        case measure => omega
        case rel =>
          refine ⟨i + 1, by go_num, by omega, by omega, ⟨fun j hj hji => ?_⟩, HB2⟩
          by_cases e : j = i
          · subst e; have := HPX.out; rw [HSY.out] at this; exact this
          · exact HN.out j hj (by omega)
    · have c2 : decide ((i : Int) < (l.length : Int)) = false := by simpa using h2
      go_wp2
      go_ret
      exact ⟨by rw [idxF_none p l (fun j hj => HN.out j hj (by omega))]; rfl, HB.out⟩

theorem idxF_any {α : Type} (p : α → Bool) (l : List α) : decide (0 ≤ idxF p l) = l.any p := by
  unfold idxF
  cases h : l.findIdx? p with
  | none =>
    rw [List.findIdx?_eq_none_iff] at h
    have : l.any p = false := by rw [List.any_eq_false]; intro x hx; simp [h x hx]
    rw [this]; rfl
  | some i =>
    rw [List.findIdx?_eq_some_iff_getElem] at h
    obtain ⟨h1, h2, _⟩ := h
    have : l.any p = true := by rw [List.any_eq_true]; exact ⟨_, List.getElem_mem h1, h2⟩
    rw [this]; simp
set_option maxHeartbeats 1000000 in
set_option maxRecDepth 100000 in
theorem containsFunc_calls (p : S62 → Bool) (g q : Nat) (hg : ∀ args w, (callFunc g args).run Try.prog w = .ok (.enter g args) w) (A : Option Addr) (c : Nat) (l : List S62) (w : World) (hC : Kd.C k62 w A l.length l)
    (hp : ∀ x w1, Below w.heap.size w w1 → Calls Try.prog g #[.agg #[.string x.f0, .int .i64 x.f1, .int .i64 x.f2, .bool x.f3], .pointer (some ⟨q, 0, none⟩)] w1 fun e w' => e = .returned (.bool (p x)) ∧ Below w1.heap.size w1 w') :
    Calls Try.prog 72 #[.slice A l.length c, .func (.func g) #[] #[.pointer (some ⟨q, 0, none⟩)]] w fun e w' => e = .returned (.bool (l.any p)) ∧ Below w.heap.size w w' := by
  have HQ := Aside0.mk (indexFunc_calls p g q hg A c l w hC hp)
  clear hC hp hg
  rw [← idxF_any]
  generalize idxF p l = r at HQ ⊢
  go_enter Try.func72, Try.ntmps72
  go_wp2_with (go_at_call 101; (with_reducible refine HQ.out.mono ?_); rintro e w2 ⟨rfl, hb⟩; have HB2 := Aside0.mk hb; clear hb)
  go_ret
  exact ⟨rfl, HB2.out⟩
end Go.Proofs.Ytenlmckahaniiaa.K
