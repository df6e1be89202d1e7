/- Lemmas for several laws: what their proofs need of this seat's texts, in one place. -/
import Derived.Test.YtenlmckahaniiaaZcLe5
set_option linter.unusedVariables false
set_option linter.unusedSimpArgs false
set_option linter.unusedSectionVars false
set_option maxHeartbeats 8000000
set_option maxRecDepth 100000
section
namespace Go.Proofs.Ytenlmckahaniiaa.K
open Go Go.Proofs Go.RowKit Go.Lib Go.Proofs.YtW.P Go.Proofs.YtW.L
def pSym (name : ByteArray) (x : S62) : Bool := x.f3 && x.f0.toList == name.toList
theorem y1r (x : S62) (q : Nat) (name : ByteArray) (w : World) (hq : w.cell? ⟨q, 0, none⟩ = some (.string name)) :
    Calls Try.prog 73 #[.agg #[.string x.f0, .int .i64 x.f1, .int .i64 x.f2, .bool x.f3], .pointer (some ⟨q, 0, none⟩)] w fun e w' => e = .returned (.bool (pSym name x)) ∧ Below w.heap.size w w' := by
  have hlt := World.block_lt_of_cell? w _ hq
  unfold pSym
  cases hx : x.f3 with
  | true =>
    go_enter Try.func73, Try.ntmps73
    go_wp2
    go_ret
    exact ⟨rfl, (Below.refl _ _).alloc (Nat.le_refl _) _⟩
  | false =>
    go_enter Try.func73, Try.ntmps73
    go_wp2
    go_ret
    exact ⟨rfl, (Below.refl _ _).alloc (Nat.le_refl _) _⟩
def idxF {α : Type} (p : α → Bool) (l : List α) : Int := match l.findIdx? p with | some i => i | none => -1
theorem y2i {α : Type} (p : α → Bool) (l : List α) (i : Nat) (h : i < l.length) (h0 : ∀ j (hj : j < l.length), j < i → p l[j] = false) (h1 : p l[i] = true) : idxF p l = i := by
  have : l.findIdx? p = some i := by
    rw [List.findIdx?_eq_some_iff_getElem]
    exact ⟨h, h1, fun j hj => by simp [h0 j (by omega) hj]⟩
  unfold idxF; rw [this]
theorem idxF_none {α : Type} (p : α → Bool) (l : List α) (h0 : ∀ j (hj : j < l.length), p l[j] = false) : idxF p l = -1 := by
  have : l.findIdx? p = none := by
    rw [List.findIdx?_eq_none_iff]
    intro x hx
    obtain ⟨j, hj, rfl⟩ := List.getElem_of_mem hx
    exact h0 j hj
  unfold idxF; rw [this]
theorem rd62_get (l : List S62) (i : Nat) (h : i < l.length) : y4b l (i : Int) = l[i] := by
  simp [y4b, List.getD_eq_getElem?_getD, h]
theorem y2j (p : S62 → Bool) (g q : Nat) (hg : ∀ args w, (callFunc g args).run Try.prog w = .ok (.enter g args) w) (A : Option Addr) (c : Nat) (l : List S62) (w : World) (hC : Kd.C k62 w A l.length l)
    (hp : ∀ x w1, Below w.heap.size w w1 → Calls Try.prog g #[.agg #[.string x.f0, .int .i64 x.f1, .int .i64 x.f2, .bool x.f3], .pointer (some ⟨q, 0, none⟩)] w1 fun e w' => e = .returned (.bool (p x)) ∧ Below w1.heap.size w1 w') :
    Calls Try.prog 101 #[.slice A l.length c, .func (.func g) #[] #[.pointer (some ⟨q, 0, none⟩)]] w fun e w' => e = .returned (.int .i64 (idxF p l)) ∧ Below w.heap.size w w' := by
  have HC := Aside0.mk hC
  have HP := Aside0.mk hp
  have HL := Aside0.mk (show l.length ≤ 9223372036854775807 from hC.2.1)
  clear hC hp
  go_enter Try.func101, Try.ntmps101
  go_wp2
  go_loopg [8] l.length (fun gk v8 w' => ∃ i : Nat, v8 = .int .i64 i ∧ i ≤ l.length ∧ l.length - i ≤ gk ∧ Aside0 (∀ j (hj : j < l.length), j < i → p l[j] = false) ∧ Aside0 (Below w.heap.size w w'))
  case atStart => exact ⟨0, rfl, by omega, by omega, ⟨fun j hj h => by omega⟩, ⟨Below.refl _ _⟩⟩
  case round =>
    obtain ⟨i, rfl, hi, hk, HN, HB⟩ := hrel
    by_cases h2 : i < l.length
    · have c2 : decide ((i : Int) < (l.length : Int)) = true := by simpa using h2
      have c3 : (0 ≤ (i : Int)) = True := by simp
      obtain ⟨ad, ead, hx_0, hx_1, hx_2, hx_3⟩ := y0e HC.out i (by omega) (by omega)
      cases ead
      replace hx_0 := (HB.out.cell (World.block_lt_of_cell? w _ hx_0)).trans hx_0
      replace hx_1 := (HB.out.cell (World.block_lt_of_cell? w _ hx_1)).trans hx_1
      replace hx_2 := (HB.out.cell (World.block_lt_of_cell? w _ hx_2)).trans hx_2
      replace hx_3 := (HB.out.cell (World.block_lt_of_cell? w _ hx_3)).trans hx_3
      have hrd := rd62_get l i h2
      obtain ⟨sy, hsy⟩ : ∃ sy, sy = l[i] := ⟨_, rfl⟩
      rw [hrd, ← hsy] at hx_0 hx_1 hx_2 hx_3
      simp only [Int.toNat_natCast] at hx_0 hx_1 hx_2 hx_3
      clear hrd
      have HSY := Aside0.mk hsy
      clear hsy
      cases hpx : p sy with
      | true =>
        have HPX := Aside0.mk hpx
        have HQ := Aside0.mk (show Calls Try.prog g _ wr _ from hpx ▸ HP.out sy wr HB.out)
        clear hpx
        go_wp2_with ((with_reducible refine HQ.out.mono ?_); rintro e w2 ⟨rfl, hb⟩; have HB2 := Aside0.mk (y0k HB.out hb); clear hb)
        go_ret
        refine ⟨?_, HB2.out⟩
        rw [y2i p l i h2 HN.out (by rw [← HSY.out]; exact HPX.out)]; rfl
      | false =>
        have HPX := Aside0.mk hpx
        have HQ := Aside0.mk (show Calls Try.prog g _ wr _ from hpx ▸ HP.out sy wr HB.out)
        clear hpx
        have HLI := HL.out
        go_wp2_with ((with_reducible refine HQ.out.mono ?_); rintro e w2 ⟨rfl, hb⟩; have HB2 := Aside0.mk (y0k HB.out hb); clear hb)
        go_roundg (l.length - (i + 1))
        case measure => omega
        case rel =>
          refine ⟨i + 1, by go_num, by omega, by omega, ⟨fun j hj hji => ?_⟩, HB2⟩
          by_cases e : j = i
          · subst e; have := HPX.out; rw [HSY.out] at this; exact this
          · exact HN.out j hj (by omega)
    · have c2 : decide ((i : Int) < (l.length : Int)) = false := by simpa using h2
      go_wp2
      go_ret
      exact ⟨by rw [idxF_none p l (fun j hj => HN.out j hj (by omega))]; rfl, HB.out⟩
theorem idxF_any {α : Type} (p : α → Bool) (l : List α) : decide (0 ≤ idxF p l) = l.any p := by
  unfold idxF
  cases h : l.findIdx? p with
  | none =>
    rw [List.findIdx?_eq_none_iff] at h
    have : l.any p = false := by rw [List.any_eq_false]; intro x hx; simp [h x hx]
    rw [this]; rfl
  | some i =>
    rw [List.findIdx?_eq_some_iff_getElem] at h
    obtain ⟨h1, h2, _⟩ := h
    have : l.any p = true := by rw [List.any_eq_true]; exact ⟨_, List.getElem_mem h1, h2⟩
    rw [this]; simp
theorem y1k (p : S62 → Bool) (g q : Nat) (hg : ∀ args w, (callFunc g args).run Try.prog w = .ok (.enter g args) w) (A : Option Addr) (c : Nat) (l : List S62) (w : World) (hC : Kd.C k62 w A l.length l)
    (hp : ∀ x w1, Below w.heap.size w w1 → Calls Try.prog g #[.agg #[.string x.f0, .int .i64 x.f1, .int .i64 x.f2, .bool x.f3], .pointer (some ⟨q, 0, none⟩)] w1 fun e w' => e = .returned (.bool (p x)) ∧ Below w1.heap.size w1 w') :
    Calls Try.prog 72 #[.slice A l.length c, .func (.func g) #[] #[.pointer (some ⟨q, 0, none⟩)]] w fun e w' => e = .returned (.bool (l.any p)) ∧ Below w.heap.size w w' := by
  have HQ := Aside0.mk (y2j p g q hg A c l w hC hp)
  clear hC hp hg
  rw [← idxF_any]
  generalize idxF p l = r at HQ ⊢
  go_enter Try.func72, Try.ntmps72
  go_wp2_with (go_at_call 101; (with_reducible refine HQ.out.mono ?_); rintro e w2 ⟨rfl, hb⟩; have HB2 := Aside0.mk hb; clear hb)
  go_ret
  exact ⟨rfl, HB2.out⟩
end Go.Proofs.Ytenlmckahaniiaa.K
end
section
namespace Go.Proofs.Ytenlmckahaniiaa.K
open Go Go.Proofs Go.RowKit Go.Lib Go.Proofs.YtW.P Go.Proofs.YtW.L
theorem rd25_get (l : List S25) (i : Nat) (h : i < l.length) : y49 l (i : Int) = l[i] := by
  simp [y49, List.getD_eq_getElem?_getD, h]
abbrev mv (x : S25) (A4 : Option Addr) (c4 : Nat) (A5 : Option Addr) (c5 : Nat) : Value := .agg #[.string x.f0, .string x.f1, .string x.f2, .int .i64 x.f3, .slice A4 x.f4.length c4, .slice A5 x.f5.length c5]
theorem y2k (p : S25 → Bool) (g q : Nat) (hg : ∀ args w, (callFunc g args).run Try.prog w = .ok (.enter g args) w) (A : Option Addr) (c : Nat) (l : List S25) (w : World) (hC : Kd.C k25 w A l.length l)
    (hp : ∀ (x : S25) A4 c4 A5 c5 w1, Below w.heap.size w w1 → x.f4.length ≤ c4 → Kd.C k62 w1 A4 x.f4.length x.f4 → x.f5.length ≤ c5 → Kd.C k43 w1 A5 x.f5.length x.f5 → Calls Try.prog g #[.agg #[.string x.f0, .string x.f1, .string x.f2, .int .i64 x.f3, .slice A4 x.f4.length c4, .slice A5 x.f5.length c5], .pointer (some ⟨q, 0, none⟩)] w1 fun e w' => e = .returned (.bool (p x)) ∧ Below w1.heap.size w1 w') :
    Calls Try.prog 74 #[.slice A l.length c, .func (.func g) #[] #[.pointer (some ⟨q, 0, none⟩)]] w fun e w' => e = .returned (.int .i64 (idxF p l)) ∧ Below w.heap.size w w' := by
  have hu25 := Try.underlying25
  have HC := Aside0.mk hC
  have HP := Aside0.mk hp
  have HL := Aside0.mk (show l.length ≤ 9223372036854775807 from hC.2.1)
  clear hC hp
  go_enter Try.func74, Try.ntmps74
  go_wp2
  go_loopg [9] l.length (fun gk v9 w' => ∃ i : Nat, v9 = .int .i64 i ∧ i ≤ l.length ∧ l.length - i ≤ gk ∧ Aside0 (∀ j (hj : j < l.length), j < i → p l[j] = false) ∧ Aside0 (Below w.heap.size w w'))
  case atStart => exact ⟨0, rfl, by omega, by omega, ⟨fun j hj h => by omega⟩, ⟨Below.refl _ _⟩⟩
  case round =>
    obtain ⟨i, rfl, hi, hk, HN, HB⟩ := hrel
    by_cases h2 : i < l.length
    · have c2 : decide ((i : Int) < (l.length : Int)) = true := by simpa using h2
      have c3 : (0 ≤ (i : Int)) = True := by simp
      obtain ⟨ad, A4, c4, A5, c5, ead, hx_0, hx_1, hx_2, hx_3, hx_4, hx_5, hl4, hi4, hl5, hi5⟩ := y0c HC.out i (by omega) (by omega)
      cases ead
      replace hx_0 := (HB.out.cell (World.block_lt_of_cell? w _ hx_0)).trans hx_0
      replace hx_1 := (HB.out.cell (World.block_lt_of_cell? w _ hx_1)).trans hx_1
      replace hx_2 := (HB.out.cell (World.block_lt_of_cell? w _ hx_2)).trans hx_2
      replace hx_3 := (HB.out.cell (World.block_lt_of_cell? w _ hx_3)).trans hx_3
      replace hx_4 := (HB.out.cell (World.block_lt_of_cell? w _ hx_4)).trans hx_4
      replace hx_5 := (HB.out.cell (World.block_lt_of_cell? w _ hx_5)).trans hx_5
      have hrd := rd25_get l i h2
      obtain ⟨sy, hsy⟩ : ∃ sy, sy = l[i] := ⟨_, rfl⟩
      rw [hrd, ← hsy] at hx_0 hx_1 hx_2 hx_3 hx_4 hx_5 hl4 hi4 hl5 hi5
      simp only [Int.toNat_natCast] at hx_0 hx_1 hx_2 hx_3 hx_4 hx_5
      clear hrd
      have HSY := Aside0.mk hsy
      clear hsy
      have HQ := Aside0.mk (fun w1 (hb1 : Below wr.heap.size wr w1) => HP.out sy A4 c4 A5 c5 w1 (y0k HB.out hb1) hl4 (Kd.C_below (Kd.C_below hi4 HB.out) hb1) hl5 (Kd.C_below (Kd.C_below hi5 HB.out) hb1))
      clear hi4 hi5 hl4 hl5
      cases hpx : p sy with
      | true =>
        rw [hpx] at HQ
        have HPX := Aside0.mk hpx
        clear hpx
        go_wp2_with ((with_reducible refine (HQ.out _ (y0f (Below.refl _ _) _)).mono ?_); rintro e w2 ⟨rfl, hb⟩; have HB2 := Aside0.mk (y0k (y0f HB.out _) hb); clear hb)
        go_ret
        refine ⟨?_, HB2.out⟩
        rw [y2i p l i h2 HN.out (by rw [← HSY.out]; exact HPX.out)]; rfl
      | false =>
        rw [hpx] at HQ
        have HPX := Aside0.mk hpx
        clear hpx
        have HLI := HL.out
        go_wp2_with ((with_reducible refine (HQ.out _ (y0f (Below.refl _ _) _)).mono ?_); rintro e w2 ⟨rfl, hb⟩; have HB2 := Aside0.mk (y0k (y0f HB.out _) hb); clear hb)
        go_roundg (l.length - (i + 1))
        case measure => omega
        case rel =>
          refine ⟨i + 1, by go_num, by omega, by omega, ⟨fun j hj hji => ?_⟩, HB2⟩
          by_cases e : j = i
          · subst e; have := HPX.out; rw [HSY.out] at this; exact this
          · exact HN.out j hj (by omega)
    · have c2 : decide ((i : Int) < (l.length : Int)) = false := by simpa using h2
      go_wp2
      go_ret
      exact ⟨by rw [idxF_none p l (fun j hj => HN.out j hj (by omega))]; rfl, HB.out⟩
def pNam (name : ByteArray) (x : S25) : Bool := x.f0.toList == name.toList
theorem namedF_calls (x : S25) A4 c4 A5 c5 (q : Nat) (name : ByteArray) (w : World) (hq : w.cell? ⟨q, 0, none⟩ = some (.string name)) :
    Calls Try.prog 76 #[mv x A4 c4 A5 c5, .pointer (some ⟨q, 0, none⟩)] w fun e w' => e = .returned (.bool (pNam name x)) ∧ Below w.heap.size w w' := by
  have hlt := World.block_lt_of_cell? w _ hq
  unfold pNam
  go_enter Try.func76, Try.ntmps76
  go_wp2
  go_ret
  exact ⟨rfl, (Below.refl _ _).alloc (Nat.le_refl _) _⟩
theorem namedG_calls (x : S25) A4 c4 A5 c5 (q : Nat) (name : ByteArray) (w : World) (hq : w.cell? ⟨q, 0, none⟩ = some (.string name)) :
    Calls Try.prog 86 #[mv x A4 c4 A5 c5, .pointer (some ⟨q, 0, none⟩)] w fun e w' => e = .returned (.bool (pNam name x)) ∧ Below w.heap.size w w' := by
  have hlt := World.block_lt_of_cell? w _ hq
  unfold pNam
  go_enter Try.func86, Try.ntmps86
  go_wp2
  go_ret
  exact ⟨rfl, (Below.refl _ _).alloc (Nat.le_refl _) _⟩
def zq1y.f (_k : Nat) (l0 : List S25) (name : ByteArray) : Option Int := some (idxF (pNam name) l0)
theorem zq1y.mono (a : List S25) (b : ByteArray) (k : Nat) : LeO (zq1y.f k a b) (zq1y.f (k + 1) a b) := LeO.refl _
theorem zq1y.calls (k : Nat) (A0 : Option Addr) (c0 : Nat) (l0 : List S25) (name : ByteArray) (r : Int) (q : Nat) (w : World) (aA : Kd.C k25 w A0 l0.length l0) (aC : l0.length ≤ c0) (hq : w.cell? ⟨q, 0, none⟩ = some (.string name)) (h : zq1y.f k l0 name = some r) :
    Calls Try.prog 74 #[.slice A0 l0.length c0, .func (.func 86) #[] #[.pointer (some ⟨q, 0, none⟩)]] w fun e w' => e = .returned (.int .i64 r) ∧ Below w.heap.size w w' := by
  obtain rfl := Option.some.inj h
  exact y2k (pNam name) 86 q (fun args w => enters_ Try.func86 (by kernel_rfl) rfl args w) A0 c0 l0 w aA (fun x A4 c4 A5 c5 w1 aB _ _ _ _ => namedG_calls x A4 c4 A5 c5 q name w1 ((aB.cell (World.block_lt_of_cell? w _ hq)).trans hq))
end Go.Proofs.Ytenlmckahaniiaa.K
end
section
namespace Go.Proofs.Ytenlmckahaniiaa.K
open Go.RowKit Go.Proofs.YtW.P Go.Proofs.YtW.L
def zq19.f (a0 : ByteArray) (a1 : Int) : Option Int := some (idxB a0 a1)
theorem zq19.calls (a0 : ByteArray) (a1 : Int) (r : Int) (w : World) (h : zq19.f a0 a1 = some r) :
    Calls Try.prog 87 #[.string a0, .int .u8 a1] w fun e w' => e = .returned (.int .i64 r) ∧ Drawn0 w w' := by
  obtain rfl := Option.some.inj h
  refine (y5d a0 a1 w).mono ?_
  rintro e w' ⟨rfl, rfl⟩
  exact ⟨rfl, Drawn0.refl _⟩
end Go.Proofs.Ytenlmckahaniiaa.K
end
section
namespace Go.Proofs.Ytenlmckahaniiaa.K
open Go.RowKit Go.Proofs.YtW.P Go.Proofs.YtW.L
mutual
def zq1j.j0 : Nat → ByteArray → Bool → Option (Bool)
  | 0, _, _ => none
  | k + 1, x0, x21 => if x21 = true then (some false) else (if (x0.size : Int) ≤ 9223372036854775807 then ((some (bytesOf x0 : List Int)).bind fun y106 => (zq1j.l0 k y106 (y106.length : Int) 0)) else (none))
def zq1j.l0 : Nat → List Int → Int → Int → Option (Bool)
  | 0, _, _, _ => none
  | k + 1, x23, x24, x25 => if x25 < x24 then (if 0 ≤ x25 then (if x25 < (x23.length : Int) then (if (rd x23 x25) ≥ 97 then (if (rd x23 x25) ≤ 122 then (zq1j.l0 k x23 x24 (wrap64 (x25 + 1))) else (if (rd x23 x25) ≥ 65 then (if (rd x23 x25) ≤ 90 then (zq1j.l0 k x23 x24 (wrap64 (x25 + 1))) else (if (rd x23 x25) ≥ 48 then (if (rd x23 x25) ≤ 57 then (zq1j.l0 k x23 x24 (wrap64 (x25 + 1))) else ((zq19.f (⟨#[95, 46, 36]⟩ : ByteArray) (rd x23 x25)).bind fun t110 => (if t110 ≥ 0 then (zq1j.l0 k x23 x24 (wrap64 (x25 + 1))) else (some false)))) else ((zq19.f (⟨#[95, 46, 36]⟩ : ByteArray) (rd x23 x25)).bind fun t111 => (if t111 ≥ 0 then (zq1j.l0 k x23 x24 (wrap64 (x25 + 1))) else (some false))))) else (if (rd x23 x25) ≥ 48 then (if (rd x23 x25) ≤ 57 then (zq1j.l0 k x23 x24 (wrap64 (x25 + 1))) else ((zq19.f (⟨#[95, 46, 36]⟩ : ByteArray) (rd x23 x25)).bind fun t112 => (if t112 ≥ 0 then (zq1j.l0 k x23 x24 (wrap64 (x25 + 1))) else (some false)))) else ((zq19.f (⟨#[95, 46, 36]⟩ : ByteArray) (rd x23 x25)).bind fun t113 => (if t113 ≥ 0 then (zq1j.l0 k x23 x24 (wrap64 (x25 + 1))) else (some false)))))) else (if (rd x23 x25) ≥ 65 then (if (rd x23 x25) ≤ 90 then (zq1j.l0 k x23 x24 (wrap64 (x25 + 1))) else (if (rd x23 x25) ≥ 48 then (if (rd x23 x25) ≤ 57 then (zq1j.l0 k x23 x24 (wrap64 (x25 + 1))) else ((zq19.f (⟨#[95, 46, 36]⟩ : ByteArray) (rd x23 x25)).bind fun t114 => (if t114 ≥ 0 then (zq1j.l0 k x23 x24 (wrap64 (x25 + 1))) else (some false)))) else ((zq19.f (⟨#[95, 46, 36]⟩ : ByteArray) (rd x23 x25)).bind fun t115 => (if t115 ≥ 0 then (zq1j.l0 k x23 x24 (wrap64 (x25 + 1))) else (some false))))) else (if (rd x23 x25) ≥ 48 then (if (rd x23 x25) ≤ 57 then (zq1j.l0 k x23 x24 (wrap64 (x25 + 1))) else ((zq19.f (⟨#[95, 46, 36]⟩ : ByteArray) (rd x23 x25)).bind fun t116 => (if t116 ≥ 0 then (zq1j.l0 k x23 x24 (wrap64 (x25 + 1))) else (some false)))) else ((zq19.f (⟨#[95, 46, 36]⟩ : ByteArray) (rd x23 x25)).bind fun t117 => (if t117 ≥ 0 then (zq1j.l0 k x23 x24 (wrap64 (x25 + 1))) else (some false)))))) else (none)) else (none)) else (some true)
end
def zq1j.f (k : Nat) (a0 : ByteArray) : Option (Bool) := if a0.toList = ([] : List UInt8) then (zq1j.j0 k a0 true) else (if (a0.size : Int) > 14 then (zq1j.j0 k a0 true) else (if 0 < (a0.size : Int) then (if (bt a0 0) ≥ 48 then (zq1j.j0 k a0 (decide ((bt a0 0) ≤ 57))) else (zq1j.j0 k a0 false)) else (none)))
theorem zq1j.mono_l : ∀ k, (∀ y0 y1, LeO (zq1j.j0 k y0 y1) (zq1j.j0 (k + 1) y0 y1)) ∧ (∀ y0 y1 y2, LeO (zq1j.l0 k y0 y1 y2) (zq1j.l0 (k + 1) y0 y1 y2))
 | 0 => ⟨fun _ _ r h => by simp [zq1j.j0] at h, fun _ _ _ r h => by simp [zq1j.l0] at h⟩
 | k + 1 => by
  obtain ⟨ih0, ih1⟩ := zq1j.mono_l k
  refine ⟨?_, ?_⟩
  ·intro y0 y1
   unfold zq1j.j0
   with_reducible repeat' first | apply ih0 | apply ih1 | exact LeO.refl _ | exact LeO.none _ | refine LeO.ite ?_ ?_ | refine LeO.bind ?_ (fun _ => ?_)
  ·intro y0 y1 y2
   unfold zq1j.l0
   with_reducible repeat' first | apply ih0 | apply ih1 | exact LeO.refl _ | exact LeO.none _ | refine LeO.ite ?_ ?_ | refine LeO.bind ?_ (fun _ => ?_)
theorem zq1j.mono : ∀ a0 k, LeO (zq1j.f k a0) (zq1j.f (k + 1) a0) := by
 intro a0 k
 obtain ⟨ih0, ih1⟩ := zq1j.mono_l k
 unfold zq1j.f
 with_reducible repeat' first | apply ih0 | apply ih1 | exact LeO.refl _ | exact LeO.none _ | refine LeO.ite ?_ ?_ | refine LeO.bind ?_ (fun _ => ?_)
theorem zq1j.calls (k : Nat) (a0 : ByteArray) (r : Bool) (w : World) (h : zq1j.f k a0 = some r) :
  Calls Try.prog 48 #[.string a0] w fun e w' => e = .returned (.bool r) ∧ Below w.heap.size w w' := by
 have HB := q_ (Below.refl w.heap.size w)
 have H : (if a0.toList = ([] : List UInt8) then (zq1j.j0 k a0 true) else (if (a0.size : Int) > 14 then (zq1j.j0 k a0 true) else (if 0 < (a0.size : Int) then (if (bt a0 0) ≥ 48 then (zq1j.j0 k a0 (decide ((bt a0 0) ≤ 57))) else (zq1j.j0 k a0 false)) else (none)))) = some r := h
 clear h
 have cG := q_ H
 clear H
 go_enter Try.func48, Try.ntmps48
 go_upto_region 1 with (fail)
 go_cut [21] (fun cY wc => ∃ (kq : Nat) (aL : Bool), cY = .bool aL ∧ Aside0 (zq1j.j0 kq a0 aL = some r) ∧ Aside0 (kq ≤ k) ∧ Aside0 (Below w.heap.size w wc))
 case first =>
  have H := cG.out
  clear cG
  by_cases c3 : a0.toList = ([] : List UInt8)
  ·rw [if_pos c3] at H
   have aM := et_ c3
   have cF := nf_ c3
   clear c3
   (first | rw [aM] | (simp only [y2h, y2g]; rw [aM]) | skip)
   have H' := q_ H
   clear H
   go_wp2
   go_meet
   case rel => exact ⟨_, (true), cl_, H', ⟨oz_⟩, ⟨hb_⟩⟩
  rw [if_neg c3] at H
  have aM := ef_ c3
  have cF := nt_ c3
  (first | rw [aM] | (simp only [y2h, y2g]; rw [aM]) | skip)
  by_cases c4 : (a0.size : Int) > 14
  ·rw [if_pos c4] at H
   have cE := dt_ c4
   have cH : decide (14 < a0.size) = true := decide_eq_true (by omega)
   clear c4
   have H' := q_ H
   clear H
   go_wp2
   go_meet
   case rel => exact ⟨_, (true), cl_, H', ⟨oz_⟩, ⟨hb_⟩⟩
  rw [if_neg c4] at H
  have cE := df_ c4
  have cH : decide (14 < a0.size) = false := decide_eq_false (by omega)
  clear c4
  by_cases c5 : 0 < (a0.size : Int)
  rotate_left
  ·rw [if_neg c5] at H
   exact absurd H (by simp)
  rw [if_pos c5] at H
  have c0 := dt_ c5
  have c1 : decide (0 < a0.size) = true := decide_eq_true (by omega)
  clear c5
  by_cases c7 : (bt a0 0) ≥ 48
  rotate_left
  ·rw [if_neg c7] at H
   have cJ := df_ c7
   clear c7
   have H' := q_ H
   clear H
   have p6 : 0 ≤ (0 : Int) := (by omega)
   have q6 : 0 < a0.size := (by have : (0 : Int) < (a0.size : Int) := oa_; omega)
   have c8 : ∀ h : 0 < a0.size, ((a0[0]'h).toNat : Int) = bt a0 0 := y15 a0 0
   clear p6
   have c2 : (0 < (a0.size : Int)) = True := eq_true (oa_)
   replace q6 := eq_true q6
   go_wp2
   go_meet
   case rel => exact ⟨_, (false), cl_, H', ⟨oz_⟩, ⟨hb_⟩⟩
  rw [if_pos c7] at H
  have cJ := dt_ c7
  clear c7
  have H' := q_ H
  clear H
  have p6 : 0 ≤ (0 : Int) := (by omega)
  have q6 : 0 < a0.size := (by have : (0 : Int) < (a0.size : Int) := oa_; omega)
  have c8 : ∀ h : 0 < a0.size, ((a0[0]'h).toNat : Int) = bt a0 0 := y15 a0 0
  clear p6
  have c2 : (0 < (a0.size : Int)) = True := eq_true (oa_)
  replace q6 := eq_true q6
  have p8 : 0 ≤ (0 : Int) := (by omega)
  have q8 : 0 < a0.size := (by have : (0 : Int) < (a0.size : Int) := oa_; omega)
  have dA : ∀ h : 0 < a0.size, ((a0[0]'h).toNat : Int) = bt a0 0 := y15 a0 0
  clear p8
  have dC : (0 < (a0.size : Int)) = True := eq_true (oa_)
  replace q8 := eq_true q8
  go_wp2
  go_meet
  case rel => exact ⟨_, (decide ((bt a0 0) ≤ 57)), cl_, H', ⟨oz_⟩, ⟨hb_⟩⟩
 clear cG
 obtain ⟨kq, aL, rfl, HA, aI, HB⟩ := hcut
 obtain _ | kj1 := kq
 ·exact nn_ HA
 have H := HA.out
 clear HA
 simp only [zq1j.j0] at H
 by_cases c9 : aL = true
 ·subst c9
  rw [if_pos rfl] at H
  obtain rfl := Option.some.inj H
  go_wp2
  go_ret
  exact ⟨ew_, hb_⟩
 replace c9 := Bool.eq_false_iff.mpr c9
 subst c9
 rw [if_neg (show ¬ (false = true) by decide)] at H
 by_cases bE : (a0.size : Int) ≤ 9223372036854775807
 rotate_left
 ·rw [if_neg bE] at H
  exact absurd H (by simp)
 rw [if_pos bE] at H
 have cU := eq_true bE
 have cP := dt_ bE
 try have cN : (9223372036854775807 < (a0.size : Int)) = False := eq_false (Nat.not_lt.2 bE)
 clear bE
 obtain ⟨aD, aK⟩ : ∃ y_ : List Int, y_ = (bytesOf a0) := ⟨_, rfl⟩
 replace H : (zq1j.l0 kj1 aD (aD.length : Int) 0) = some r := by first | (rw [aK]; with_reducible exact H) | (have cI := (Option.bind_some _ _).symm.trans H; rw [aK]; with_reducible exact cI) | (have cI := (Option.bind_some _ _).symm.trans H; with_reducible exact cI) | with_reducible exact H | (rw [aK]; exact H) | exact H
 have aO := q_ aK
 clear aK
 have H' := q_ H
 clear H
 go_wp2_with (first | (refine gd_ 23 ?_; (try (refine y23 (by rfl) ?_; dsimp only)); refine Kd.V_conv _ 5 rfl (N := 23) rfl 9 39 _ rfl a0 (by go_simp) Try.underlying9 Try.underlying39 Try.underlying5 (oa_) (Below.refl _ _) (Nat.le_refl _) ?_; intro cZ dB aN hb hg_ hnew_; clear hg_ hnew_; (first | rw [← aO.out] at aN | (simp only [Int.reduceToNat] at aN; rw [← aO.out] at aN)); have aP := q_ (Kd.V_lower (Kd.V_mono (ok' := fun k_ => True) aN (fun k_ hk_ => trivial)) (y0j hb_)); replace HB := q_ (y0k hb_ hb); clear hb aN; obtain ⟨cK, cD, cC⟩ := Kd.V_slice aP.out; subst cC))
 go_loopg [25] kj1 (fun kq c6 w' => ∃ (aA : Int), c6 = .int .i64 aA ∧ Aside0 (zq1j.l0 kq aD (aD.length : Int) aA = some r) ∧ Aside0 (kq ≤ kj1) ∧ Aside0 (Kd.V (Kd.int .u8) 5 w' w.heap.size (fun _ => True) (.slice cK aD.length cD) aD) ∧ Aside0 (Below w.heap.size w w'))
 case atStart => exact ⟨(0), cl_, H', ⟨Nat.le_refl _⟩, ⟨vk_ aP.out⟩, ⟨hb_⟩⟩
 case round =>
  clear H'
  obtain ⟨aA, rfl, HA, aJ, aE, HB⟩ := hrel
  obtain _ | k2 := gk
  ·exact nn_ HA
  have H := HA.out
  clear HA
  simp only [zq1j.l0] at H
  by_cases bG : aA < (aD.length : Int)
  rotate_left
  ·rw [if_neg bG] at H
   have bR := df_ bG
   clear bG
   obtain rfl := Option.some.inj H
   go_wp2
   go_ret
   exact ⟨ew_, hb_⟩
  rw [if_pos bG] at H
  have bR := dt_ bG
  clear bG
  by_cases cA : 0 ≤ aA
  rotate_left
  ·rw [if_neg cA] at H
   exact absurd H (by simp)
  rw [if_pos cA] at H
  have cR := dt_ cA
  clear cA
  by_cases cB : aA < (aD.length : Int)
  rotate_left
  ·rw [if_neg cB] at H
   exact absurd H (by simp)
  rw [if_pos cB] at H
  have cX := dt_ cB
  clear cB
  by_cases a1 : (rd aD aA) ≥ 97
  rotate_left
  ·rw [if_neg a1] at H
   have bV := df_ a1
   clear a1
   by_cases bF : (rd aD aA) ≥ 65
   rotate_left
   ·rw [if_neg bF] at H
    have bT := df_ bF
    clear bF
    by_cases a7 : (rd aD aA) ≥ 48
    rotate_left
    ·rw [if_neg a7] at H
     have b3 := df_ a7
     clear a7
     obtain ⟨aQ, cO, H⟩ := bq_ H
     (try dsimp only at H)
     by_cases bB : aQ ≥ 0
     rotate_left
     ·rw [if_neg bB] at H
      have bZ := df_ bB
      clear bB
      obtain rfl := Option.some.inj H
      have aB : 0 ≤ (aA : Int) := oa_
      have aC : aA < (aD.length : Int) := oa_
      obtain ⟨aH, aG, aF⟩ := Kd.at_int (Kd.V_reads' aE.out).2.2 aA aB aC
      cases aG
      replace aB := eq_true aB
      replace aC := eq_true aC
      go_wp2_with (first | (go_at_call 87; (with_reducible refine (zq19.calls (⟨#[95, 46, 36]⟩ : ByteArray) (rd aD aA) aQ _ cO.out).mono ?_); rintro e w' ⟨rfl, ⟨nd, rfl⟩⟩))
      go_ret
      exact ⟨ew_, hb_⟩
     rw [if_pos bB] at H
     have bZ := dt_ bB
     clear bB
     have H' := q_ H
     clear H
     have aB : 0 ≤ (aA : Int) := oa_
     have aC : aA < (aD.length : Int) := oa_
     obtain ⟨aH, aG, aF⟩ := Kd.at_int (Kd.V_reads' aE.out).2.2 aA aB aC
     cases aG
     replace aB := eq_true aB
     replace aC := eq_true aC
     go_wp2_with (first | (go_at_call 87; (with_reducible refine (zq19.calls (⟨#[95, 46, 36]⟩ : ByteArray) (rd aD aA) aQ _ cO.out).mono ?_); rintro e w' ⟨rfl, ⟨nd, rfl⟩⟩))
     go_roundg k2
     case measure => have := aI.out; have := aJ.out; omega
     case rel => exact ⟨(wrap64 (aA + 1)), cl_, H', ⟨by have := aI.out; have := aJ.out; omega⟩, ⟨vk_ aE.out⟩, ⟨hb_⟩⟩
    rw [if_pos a7] at H
    have b3 := dt_ a7
    clear a7
    by_cases bA : (rd aD aA) ≤ 57
    ·rw [if_pos bA] at H
     have b8 := dt_ bA
     clear bA
     have H' := q_ H
     clear H
     have aB : 0 ≤ (aA : Int) := oa_
     have aC : aA < (aD.length : Int) := oa_
     obtain ⟨aH, aG, aF⟩ := Kd.at_int (Kd.V_reads' aE.out).2.2 aA aB aC
     cases aG
     replace aB := eq_true aB
     replace aC := eq_true aC
     go_wp2
     go_roundg k2
     case measure => have := aI.out; have := aJ.out; omega
     case rel => exact ⟨(wrap64 (aA + 1)), cl_, H', ⟨by have := aI.out; have := aJ.out; omega⟩, ⟨vk_ aE.out⟩, ⟨hb_⟩⟩
    rw [if_neg bA] at H
    have b8 := df_ bA
    clear bA
    obtain ⟨aU, cS, H⟩ := bq_ H
    (try dsimp only at H)
    by_cases bC : aU ≥ 0
    rotate_left
    ·rw [if_neg bC] at H
     have b4 := df_ bC
     clear bC
     obtain rfl := Option.some.inj H
     have aB : 0 ≤ (aA : Int) := oa_
     have aC : aA < (aD.length : Int) := oa_
     obtain ⟨aH, aG, aF⟩ := Kd.at_int (Kd.V_reads' aE.out).2.2 aA aB aC
     cases aG
     replace aB := eq_true aB
     replace aC := eq_true aC
     go_wp2_with (first | (go_at_call 87; (with_reducible refine (zq19.calls (⟨#[95, 46, 36]⟩ : ByteArray) (rd aD aA) aU _ cS.out).mono ?_); rintro e w' ⟨rfl, ⟨nd, rfl⟩⟩))
     go_ret
     exact ⟨ew_, hb_⟩
    rw [if_pos bC] at H
    have b4 := dt_ bC
    clear bC
    have H' := q_ H
    clear H
    have aB : 0 ≤ (aA : Int) := oa_
    have aC : aA < (aD.length : Int) := oa_
    obtain ⟨aH, aG, aF⟩ := Kd.at_int (Kd.V_reads' aE.out).2.2 aA aB aC
    cases aG
    replace aB := eq_true aB
    replace aC := eq_true aC
    go_wp2_with (first | (go_at_call 87; (with_reducible refine (zq19.calls (⟨#[95, 46, 36]⟩ : ByteArray) (rd aD aA) aU _ cS.out).mono ?_); rintro e w' ⟨rfl, ⟨nd, rfl⟩⟩))
    go_roundg k2
    case measure => have := aI.out; have := aJ.out; omega
    case rel => exact ⟨(wrap64 (aA + 1)), cl_, H', ⟨by have := aI.out; have := aJ.out; omega⟩, ⟨vk_ aE.out⟩, ⟨hb_⟩⟩
   rw [if_pos bF] at H
   have bT := dt_ bF
   clear bF
   by_cases bD : (rd aD aA) ≤ 90
   ·rw [if_pos bD] at H
    have b6 := dt_ bD
    clear bD
    have H' := q_ H
    clear H
    have aB : 0 ≤ (aA : Int) := oa_
    have aC : aA < (aD.length : Int) := oa_
    obtain ⟨aH, aG, aF⟩ := Kd.at_int (Kd.V_reads' aE.out).2.2 aA aB aC
    cases aG
    replace aB := eq_true aB
    replace aC := eq_true aC
    go_wp2
    go_roundg k2
    case measure => have := aI.out; have := aJ.out; omega
    case rel => exact ⟨(wrap64 (aA + 1)), cl_, H', ⟨by have := aI.out; have := aJ.out; omega⟩, ⟨vk_ aE.out⟩, ⟨hb_⟩⟩
   rw [if_neg bD] at H
   have b6 := df_ bD
   clear bD
   by_cases bH : (rd aD aA) ≥ 48
   rotate_left
   ·rw [if_neg bH] at H
    have bU := df_ bH
    clear bH
    obtain ⟨aR, cT, H⟩ := bq_ H
    (try dsimp only at H)
    by_cases a4 : aR ≥ 0
    rotate_left
    ·rw [if_neg a4] at H
     have bN := df_ a4
     clear a4
     obtain rfl := Option.some.inj H
     have aB : 0 ≤ (aA : Int) := oa_
     have aC : aA < (aD.length : Int) := oa_
     obtain ⟨aH, aG, aF⟩ := Kd.at_int (Kd.V_reads' aE.out).2.2 aA aB aC
     cases aG
     replace aB := eq_true aB
     replace aC := eq_true aC
     go_wp2_with (first | (go_at_call 87; (with_reducible refine (zq19.calls (⟨#[95, 46, 36]⟩ : ByteArray) (rd aD aA) aR _ cT.out).mono ?_); rintro e w' ⟨rfl, ⟨nd, rfl⟩⟩))
     go_ret
     exact ⟨ew_, hb_⟩
    rw [if_pos a4] at H
    have bN := dt_ a4
    clear a4
    have H' := q_ H
    clear H
    have aB : 0 ≤ (aA : Int) := oa_
    have aC : aA < (aD.length : Int) := oa_
    obtain ⟨aH, aG, aF⟩ := Kd.at_int (Kd.V_reads' aE.out).2.2 aA aB aC
    cases aG
    replace aB := eq_true aB
    replace aC := eq_true aC
    go_wp2_with (first | (go_at_call 87; (with_reducible refine (zq19.calls (⟨#[95, 46, 36]⟩ : ByteArray) (rd aD aA) aR _ cT.out).mono ?_); rintro e w' ⟨rfl, ⟨nd, rfl⟩⟩))
    go_roundg k2
    case measure => have := aI.out; have := aJ.out; omega
    case rel => exact ⟨(wrap64 (aA + 1)), cl_, H', ⟨by have := aI.out; have := aJ.out; omega⟩, ⟨vk_ aE.out⟩, ⟨hb_⟩⟩
   rw [if_pos bH] at H
   have bU := dt_ bH
   clear bH
   by_cases bJ : (rd aD aA) ≤ 57
   ·rw [if_pos bJ] at H
    have bO := dt_ bJ
    clear bJ
    have H' := q_ H
    clear H
    have aB : 0 ≤ (aA : Int) := oa_
    have aC : aA < (aD.length : Int) := oa_
    obtain ⟨aH, aG, aF⟩ := Kd.at_int (Kd.V_reads' aE.out).2.2 aA aB aC
    cases aG
    replace aB := eq_true aB
    replace aC := eq_true aC
    go_wp2
    go_roundg k2
    case measure => have := aI.out; have := aJ.out; omega
    case rel => exact ⟨(wrap64 (aA + 1)), cl_, H', ⟨by have := aI.out; have := aJ.out; omega⟩, ⟨vk_ aE.out⟩, ⟨hb_⟩⟩
   rw [if_neg bJ] at H
   have bO := df_ bJ
   clear bJ
   obtain ⟨aW, cL, H⟩ := bq_ H
   (try dsimp only at H)
   by_cases bL : aW ≥ 0
   rotate_left
   ·rw [if_neg bL] at H
    have b9 := df_ bL
    clear bL
    obtain rfl := Option.some.inj H
    have aB : 0 ≤ (aA : Int) := oa_
    have aC : aA < (aD.length : Int) := oa_
    obtain ⟨aH, aG, aF⟩ := Kd.at_int (Kd.V_reads' aE.out).2.2 aA aB aC
    cases aG
    replace aB := eq_true aB
    replace aC := eq_true aC
    go_wp2_with (first | (go_at_call 87; (with_reducible refine (zq19.calls (⟨#[95, 46, 36]⟩ : ByteArray) (rd aD aA) aW _ cL.out).mono ?_); rintro e w' ⟨rfl, ⟨nd, rfl⟩⟩))
    go_ret
    exact ⟨ew_, hb_⟩
   rw [if_pos bL] at H
   have b9 := dt_ bL
   clear bL
   have H' := q_ H
   clear H
   have aB : 0 ≤ (aA : Int) := oa_
   have aC : aA < (aD.length : Int) := oa_
   obtain ⟨aH, aG, aF⟩ := Kd.at_int (Kd.V_reads' aE.out).2.2 aA aB aC
   cases aG
   replace aB := eq_true aB
   replace aC := eq_true aC
   go_wp2_with (first | (go_at_call 87; (with_reducible refine (zq19.calls (⟨#[95, 46, 36]⟩ : ByteArray) (rd aD aA) aW _ cL.out).mono ?_); rintro e w' ⟨rfl, ⟨nd, rfl⟩⟩))
   go_roundg k2
   case measure => have := aI.out; have := aJ.out; omega
   case rel => exact ⟨(wrap64 (aA + 1)), cl_, H', ⟨by have := aI.out; have := aJ.out; omega⟩, ⟨vk_ aE.out⟩, ⟨hb_⟩⟩
  rw [if_pos a1] at H
  have bV := dt_ a1
  clear a1
  by_cases a6 : (rd aD aA) ≤ 122
  ·rw [if_pos a6] at H
   have b0 := dt_ a6
   clear a6
   have H' := q_ H
   clear H
   have aB : 0 ≤ (aA : Int) := oa_
   have aC : aA < (aD.length : Int) := oa_
   obtain ⟨aH, aG, aF⟩ := Kd.at_int (Kd.V_reads' aE.out).2.2 aA aB aC
   cases aG
   replace aB := eq_true aB
   replace aC := eq_true aC
   go_wp2
   go_roundg k2
   case measure => have := aI.out; have := aJ.out; omega
   case rel => exact ⟨(wrap64 (aA + 1)), cl_, H', ⟨by have := aI.out; have := aJ.out; omega⟩, ⟨vk_ aE.out⟩, ⟨hb_⟩⟩
  rw [if_neg a6] at H
  have b0 := df_ a6
  clear a6
  by_cases a8 : (rd aD aA) ≥ 65
  rotate_left
  ·rw [if_neg a8] at H
   have bS := df_ a8
   clear a8
   by_cases a9 : (rd aD aA) ≥ 48
   rotate_left
   ·rw [if_neg a9] at H
    have b5 := df_ a9
    clear a9
    obtain ⟨aT, cQ, H⟩ := bq_ H
    (try dsimp only at H)
    by_cases bI : aT ≥ 0
    rotate_left
    ·rw [if_neg bI] at H
     have bQ := df_ bI
     clear bI
     obtain rfl := Option.some.inj H
     have aB : 0 ≤ (aA : Int) := oa_
     have aC : aA < (aD.length : Int) := oa_
     obtain ⟨aH, aG, aF⟩ := Kd.at_int (Kd.V_reads' aE.out).2.2 aA aB aC
     cases aG
     replace aB := eq_true aB
     replace aC := eq_true aC
     go_wp2_with (first | (go_at_call 87; (with_reducible refine (zq19.calls (⟨#[95, 46, 36]⟩ : ByteArray) (rd aD aA) aT _ cQ.out).mono ?_); rintro e w' ⟨rfl, ⟨nd, rfl⟩⟩))
     go_ret
     exact ⟨ew_, hb_⟩
    rw [if_pos bI] at H
    have bQ := dt_ bI
    clear bI
    have H' := q_ H
    clear H
    have aB : 0 ≤ (aA : Int) := oa_
    have aC : aA < (aD.length : Int) := oa_
    obtain ⟨aH, aG, aF⟩ := Kd.at_int (Kd.V_reads' aE.out).2.2 aA aB aC
    cases aG
    replace aB := eq_true aB
    replace aC := eq_true aC
    go_wp2_with (first | (go_at_call 87; (with_reducible refine (zq19.calls (⟨#[95, 46, 36]⟩ : ByteArray) (rd aD aA) aT _ cQ.out).mono ?_); rintro e w' ⟨rfl, ⟨nd, rfl⟩⟩))
    go_roundg k2
    case measure => have := aI.out; have := aJ.out; omega
    case rel => exact ⟨(wrap64 (aA + 1)), cl_, H', ⟨by have := aI.out; have := aJ.out; omega⟩, ⟨vk_ aE.out⟩, ⟨hb_⟩⟩
   rw [if_pos a9] at H
   have b5 := dt_ a9
   clear a9
   by_cases a3 : (rd aD aA) ≤ 57
   ·rw [if_pos a3] at H
    have bY := dt_ a3
    clear a3
    have H' := q_ H
    clear H
    have aB : 0 ≤ (aA : Int) := oa_
    have aC : aA < (aD.length : Int) := oa_
    obtain ⟨aH, aG, aF⟩ := Kd.at_int (Kd.V_reads' aE.out).2.2 aA aB aC
    cases aG
    replace aB := eq_true aB
    replace aC := eq_true aC
    go_wp2
    go_roundg k2
    case measure => have := aI.out; have := aJ.out; omega
    case rel => exact ⟨(wrap64 (aA + 1)), cl_, H', ⟨by have := aI.out; have := aJ.out; omega⟩, ⟨vk_ aE.out⟩, ⟨hb_⟩⟩
   rw [if_neg a3] at H
   have bY := df_ a3
   clear a3
   obtain ⟨aX, cW, H⟩ := bq_ H
   (try dsimp only at H)
   by_cases bM : aX ≥ 0
   rotate_left
   ·rw [if_neg bM] at H
    have bP := df_ bM
    clear bM
    obtain rfl := Option.some.inj H
    have aB : 0 ≤ (aA : Int) := oa_
    have aC : aA < (aD.length : Int) := oa_
    obtain ⟨aH, aG, aF⟩ := Kd.at_int (Kd.V_reads' aE.out).2.2 aA aB aC
    cases aG
    replace aB := eq_true aB
    replace aC := eq_true aC
    go_wp2_with (first | (go_at_call 87; (with_reducible refine (zq19.calls (⟨#[95, 46, 36]⟩ : ByteArray) (rd aD aA) aX _ cW.out).mono ?_); rintro e w' ⟨rfl, ⟨nd, rfl⟩⟩))
    go_ret
    exact ⟨ew_, hb_⟩
   rw [if_pos bM] at H
   have bP := dt_ bM
   clear bM
   have H' := q_ H
   clear H
   have aB : 0 ≤ (aA : Int) := oa_
   have aC : aA < (aD.length : Int) := oa_
   obtain ⟨aH, aG, aF⟩ := Kd.at_int (Kd.V_reads' aE.out).2.2 aA aB aC
   cases aG
   replace aB := eq_true aB
   replace aC := eq_true aC
   go_wp2_with (first | (go_at_call 87; (with_reducible refine (zq19.calls (⟨#[95, 46, 36]⟩ : ByteArray) (rd aD aA) aX _ cW.out).mono ?_); rintro e w' ⟨rfl, ⟨nd, rfl⟩⟩))
   go_roundg k2
   case measure => have := aI.out; have := aJ.out; omega
   case rel => exact ⟨(wrap64 (aA + 1)), cl_, H', ⟨by have := aI.out; have := aJ.out; omega⟩, ⟨vk_ aE.out⟩, ⟨hb_⟩⟩
  rw [if_pos a8] at H
  have bS := dt_ a8
  clear a8
  by_cases bK : (rd aD aA) ≤ 90
  ·rw [if_pos bK] at H
   have b2 := dt_ bK
   clear bK
   have H' := q_ H
   clear H
   have aB : 0 ≤ (aA : Int) := oa_
   have aC : aA < (aD.length : Int) := oa_
   obtain ⟨aH, aG, aF⟩ := Kd.at_int (Kd.V_reads' aE.out).2.2 aA aB aC
   cases aG
   replace aB := eq_true aB
   replace aC := eq_true aC
   go_wp2
   go_roundg k2
   case measure => have := aI.out; have := aJ.out; omega
   case rel => exact ⟨(wrap64 (aA + 1)), cl_, H', ⟨by have := aI.out; have := aJ.out; omega⟩, ⟨vk_ aE.out⟩, ⟨hb_⟩⟩
  rw [if_neg bK] at H
  have b2 := df_ bK
  clear bK
  by_cases a5 : (rd aD aA) ≥ 48
  rotate_left
  ·rw [if_neg a5] at H
   have bX := df_ a5
   clear a5
   obtain ⟨aV, cV, H⟩ := bq_ H
   (try dsimp only at H)
   by_cases a2 : aV ≥ 0
   rotate_left
   ·rw [if_neg a2] at H
    have b7 := df_ a2
    clear a2
    obtain rfl := Option.some.inj H
    have aB : 0 ≤ (aA : Int) := oa_
    have aC : aA < (aD.length : Int) := oa_
    obtain ⟨aH, aG, aF⟩ := Kd.at_int (Kd.V_reads' aE.out).2.2 aA aB aC
    cases aG
    replace aB := eq_true aB
    replace aC := eq_true aC
    go_wp2_with (first | (go_at_call 87; (with_reducible refine (zq19.calls (⟨#[95, 46, 36]⟩ : ByteArray) (rd aD aA) aV _ cV.out).mono ?_); rintro e w' ⟨rfl, ⟨nd, rfl⟩⟩))
    go_ret
    exact ⟨ew_, hb_⟩
   rw [if_pos a2] at H
   have b7 := dt_ a2
   clear a2
   have H' := q_ H
   clear H
   have aB : 0 ≤ (aA : Int) := oa_
   have aC : aA < (aD.length : Int) := oa_
   obtain ⟨aH, aG, aF⟩ := Kd.at_int (Kd.V_reads' aE.out).2.2 aA aB aC
   cases aG
   replace aB := eq_true aB
   replace aC := eq_true aC
   go_wp2_with (first | (go_at_call 87; (with_reducible refine (zq19.calls (⟨#[95, 46, 36]⟩ : ByteArray) (rd aD aA) aV _ cV.out).mono ?_); rintro e w' ⟨rfl, ⟨nd, rfl⟩⟩))
   go_roundg k2
   case measure => have := aI.out; have := aJ.out; omega
   case rel => exact ⟨(wrap64 (aA + 1)), cl_, H', ⟨by have := aI.out; have := aJ.out; omega⟩, ⟨vk_ aE.out⟩, ⟨hb_⟩⟩
  rw [if_pos a5] at H
  have bX := dt_ a5
  clear a5
  by_cases aY : (rd aD aA) ≤ 57
  ·rw [if_pos aY] at H
   have b1 := dt_ aY
   clear aY
   have H' := q_ H
   clear H
   have aB : 0 ≤ (aA : Int) := oa_
   have aC : aA < (aD.length : Int) := oa_
   obtain ⟨aH, aG, aF⟩ := Kd.at_int (Kd.V_reads' aE.out).2.2 aA aB aC
   cases aG
   replace aB := eq_true aB
   replace aC := eq_true aC
   go_wp2
   go_roundg k2
   case measure => have := aI.out; have := aJ.out; omega
   case rel => exact ⟨(wrap64 (aA + 1)), cl_, H', ⟨by have := aI.out; have := aJ.out; omega⟩, ⟨vk_ aE.out⟩, ⟨hb_⟩⟩
  rw [if_neg aY] at H
  have b1 := df_ aY
  clear aY
  obtain ⟨aS, cM, H⟩ := bq_ H
  (try dsimp only at H)
  by_cases aZ : aS ≥ 0
  rotate_left
  ·rw [if_neg aZ] at H
   have bW := df_ aZ
   clear aZ
   obtain rfl := Option.some.inj H
   have aB : 0 ≤ (aA : Int) := oa_
   have aC : aA < (aD.length : Int) := oa_
   obtain ⟨aH, aG, aF⟩ := Kd.at_int (Kd.V_reads' aE.out).2.2 aA aB aC
   cases aG
   replace aB := eq_true aB
   replace aC := eq_true aC
   go_wp2_with (first | (go_at_call 87; (with_reducible refine (zq19.calls (⟨#[95, 46, 36]⟩ : ByteArray) (rd aD aA) aS _ cM.out).mono ?_); rintro e w' ⟨rfl, ⟨nd, rfl⟩⟩))
   go_ret
   exact ⟨ew_, hb_⟩
  rw [if_pos aZ] at H
  have bW := dt_ aZ
  clear aZ
  have H' := q_ H
  clear H
  have aB : 0 ≤ (aA : Int) := oa_
  have aC : aA < (aD.length : Int) := oa_
  obtain ⟨aH, aG, aF⟩ := Kd.at_int (Kd.V_reads' aE.out).2.2 aA aB aC
  cases aG
  replace aB := eq_true aB
  replace aC := eq_true aC
  go_wp2_with (first | (go_at_call 87; (with_reducible refine (zq19.calls (⟨#[95, 46, 36]⟩ : ByteArray) (rd aD aA) aS _ cM.out).mono ?_); rintro e w' ⟨rfl, ⟨nd, rfl⟩⟩))
  go_roundg k2
  case measure => have := aI.out; have := aJ.out; omega
  case rel => exact ⟨(wrap64 (aA + 1)), cl_, H', ⟨by have := aI.out; have := aJ.out; omega⟩, ⟨vk_ aE.out⟩, ⟨hb_⟩⟩
end Go.Proofs.Ytenlmckahaniiaa.K
end
