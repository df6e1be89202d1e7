/- Lemmas for several laws: what their proofs need of this seat's texts, in one place. -/
import Derived.Lib.Bytealg
import Derived.Maps.OwnSet
import Derived.Test.YtenlmckahaniiaaZcLc1
set_option linter.unusedVariables false
set_option linter.unusedSimpArgs false
set_option linter.unusedSectionVars false
set_option maxHeartbeats 8000000
set_option maxRecDepth 100000
section
namespace Go.Proofs.Ytenlmckahaniiaa.K
open Go Go.Proofs Go.RowKit Go.Maps Go.Lib
def idxB (s : ByteArray) (c : Int) : Int := Lib.indexByte s.data.toList c.toNat.toUInt8
theorem stringslite_IndexByte_calls (s : ByteArray) (c : Int) (w : World) :
    Calls Try.prog 102 #[.string s, .int .u8 c] w fun e w' => e = .returned (.int .i64 (idxB s c)) ∧ w' = w := by
  go_enter Try.func102, Try.ntmps102
  go_wp2
  rw [run_callFunc_extern Try.func115 (by kernel_rfl) (by kernel_rfl) (by kernel_rfl) (e := Extern.BytealgIndexByte.indexByte) (by kernel_rfl), Lib.run_indexByteString]
  simp only [Result.andThen]
  rw [Oper.upon_value]
  go_wp2
  go_ret
  exact ⟨rfl, rfl⟩
theorem strings_IndexByte_calls (s : ByteArray) (c : Int) (w : World) :
    Calls Try.prog 87 #[.string s, .int .u8 c] w fun e w' => e = .returned (.int .i64 (idxB s c)) ∧ w' = w := by
  go_enter Try.func87, Try.ntmps87
  go_wp2_with (go_at_call 102; refine (stringslite_IndexByte_calls s c _).mono ?_; rintro e w' ⟨rfl, rfl⟩)
  go_ret
  exact ⟨rfl, rfl⟩
def Seen (w : World) (b : Nat) (l : List (List UInt8)) : Prop :=
  ∃ D : DataW Unit, w.ownsMap Try.prog 9 (plainElem Try.prog 4) b l.length D ∧ IsMap D ∧ ∀ s : ByteArray, D.atKey (.string s.data.toList) (.lit (.bool false)) = .lit (.bool (decide (s.data.toList ∈ l)))
theorem Seen.made (w : World) : Seen (w.alloc (.map #[] 0)) w.heap.size [] :=
  ⟨.map [], World.ownsMap_made _ _ _ _, ⟨[], rfl⟩, fun s => rfl⟩
theorem Seen.below {w w' : World} {b : Nat} {l : List (List UInt8)} (h : Seen w b l) (hb : Below w.heap.size w w') : Seen w' b l := by
  obtain ⟨D, ⟨es, clock, hh, F, hs, hD⟩, h2, h3⟩ := h
  exact ⟨D, ⟨es, clock, (hb.block b ((Array.getElem?_eq_some_iff.1 hh).1)).trans hh, F, hs, hD⟩, h2, h3⟩
theorem Seen.set {w : World} {b : Nat} {l : List (List UInt8)} (h : Seen w b l) {p : Addr} (hp : b ≠ p.block) (u : Value) : Seen (w.setCell p u) b l := by
  obtain ⟨D, ⟨es, clock, hh, F, hs, hD⟩, h2, h3⟩ := h
  exact ⟨D, ⟨es, clock, (Below.heap_setCell w p u b hp).trans hh, F, hs, hD⟩, h2, h3⟩
theorem Seen.lt {w : World} {b : Nat} {l : List (List UInt8)} (h : Seen w b l) : b < w.heap.size := by
  obtain ⟨D, h1, _⟩ := h
  exact h1.lt
theorem key_ne {s t : List UInt8} (h : s ≠ t) : Lit.string s ≠ Lit.string t := by
  intro e
  injection e with e
  exact h e
theorem plainElem_bool_inv {P : Program} {e : TypeId} (he : P.underlying e = some .bool) {v : Value} {x : Bool} {ps : List MemPlace} (h : plainElem (H := Unit) P e v = some (.lit (.bool x), ps)) : v = .bool x := by
  unfold plainElem at h
  rw [he] at h
  cases v <;> simp at h
  rw [h.1]
theorem wpList_lookup_run {P : Program} {w : World} {ops : Array Oper} {rest : List Oper} {o : Oper} {a : Act} {Q : Exit → Act → World → Prop} (hg : o.guard = none) (m x : Operand) (t : TypeId) (hop : o.op = Op.lookup t m x false)
    {M X v : Value} (hm : a.eval m = M) (hx : a.eval x = X) (hrun : (Instr.lookup t M X false).run P w = .ok v w)
    (hK : wpList P ops Q rest (a.put o.dst v) w) : wpList P ops Q (o :: rest) a w := by
  refine wpList_plain hg fun K' hK' => ?_
  unfold Oper.wp
  simp [execOp, hop, hm, hx, hrun, Result.andThen]
  exact hK' _ _ hK
section
variable {ops : Array Oper} {rest : List Oper} {o : Oper} {a : Act} {Q : Exit → Act → World → Prop}
theorem zero4 (w : World) : (zeroValue 4).run Try.prog w = .ok (.bool false) w := by kernel_rfl
theorem law9 : Keyed Try.prog 9 := string_keyed Try.underlying9
theorem wpList_seen {w : World} (hg : o.guard = none) (m x : Operand) (hop : o.op = Op.lookup 98 m x false) (b : Nat) (l : List (List UInt8))
    (hm : a.eval m = .map (some b)) (hs : Seen w b l) (s : ByteArray) (hx : a.eval x = .string s) (hsz : s.size ≤ maxLen)
    (hK : wpList Try.prog ops Q rest (a.put o.dst (.bool (decide (s.data.toList ∈ l)))) w) : wpList Try.prog ops Q (o :: rest) a w := by
  obtain ⟨D, h1, _, h3⟩ := hs
  obtain ⟨v, ps, hrun, hv⟩ := h1.lookup law9 Try.underlying98 (zero4 w) (plainElem_bool Try.underlying4 false) (WideMaps.keyOf_string_mk Try.underlying9 hsz)
  rw [h3] at hv
  obtain rfl := plainElem_bool_inv Try.underlying4 hv
  exact wpList_lookup_run hg m x 98 hop hm hx hrun hK
theorem wpList_see {w : World} (hg : o.guard = none) (m x v : Operand) (hop : o.op = Op.mapUpdate 98 m x v) (b : Nat) (l : List (List UInt8))
    (hm : a.eval m = .map (some b)) (hs : Seen w b l) (hn : l.length < maxLen) (s : ByteArray) (hx : a.eval x = .string s) (hv : a.eval v = .bool true) (hsz : s.size ≤ maxLen)
    (hK : ∀ w', Seen w' b (l ++ [s.data.toList]) → w.grownBy w' (some b) → wpList Try.prog ops Q rest (a.put o.dst undef) w') : wpList Try.prog ops Q (o :: rest) a w := by
  obtain ⟨D, h1, h2, h3⟩ := hs
  refine wpList_mapUpdate_own w hg m x v 98 hop 9 4 law9 Try.underlying98 (plainElem (H := Unit) Try.prog 4) b l.length D hm h1 hn _ _ _ hx hv (WideMaps.keyOf_string_mk Try.underlying9 hsz) _ [] (plainElem_bool Try.underlying4 true) ?_
  intro w' hown hgrow
  refine hK w' ⟨_, by simpa using hown, ?_, ?_⟩ hgrow
  · obtain ⟨es, rfl⟩ := h2
    exact ⟨_, rfl⟩
  · intro t
    by_cases ht : t.data.toList = s.data.toList
    · rw [ht, atKey_put_same h2 (show WideAt.IsKeyLit (.string s.data.toList) from trivial)]
      simp
    · rw [atKey_put_other (key_ne ht), h3 t]
      simp [ht]
end
end Go.Proofs.Ytenlmckahaniiaa.K
end
section
namespace Go.Proofs.Ytenlmckahaniiaa.K
open Go Go.Proofs Go.RowKit Go.Lib Go.Proofs.YtenlmckahaniiaaW.PrintWords Go.Proofs.YtenlmckahaniiaaW.PrintLast
def pSym (name : ByteArray) (x : S62) : Bool := x.f3 && x.f0.toList == name.toList
theorem definesF_calls (x : S62) (q : Nat) (name : ByteArray) (w : World) (hq : w.cell? ⟨q, 0, none⟩ = some (.string name)) :
    Calls Try.prog 73 #[.agg #[.string x.f0, .int .i64 x.f1, .int .i64 x.f2, .bool x.f3], .pointer (some ⟨q, 0, none⟩)] w fun e w' => e = .returned (.bool (pSym name x)) ∧ Below w.heap.size w w' := by
  have hlt := World.block_lt_of_cell? w _ hq
  unfold pSym
  cases hx : x.f3 with
  | true =>
    go_enter Try.func73, Try.ntmps73
    go_wp2
    go_ret
    exact ⟨rfl, (Below.refl _ _).alloc (Nat.le_refl _) _⟩
  | false =>
    go_enter Try.func73, Try.ntmps73
    go_wp2
    go_ret
    exact ⟨rfl, (Below.refl _ _).alloc (Nat.le_refl _) _⟩
def idxF {α : Type} (p : α → Bool) (l : List α) : Int := match l.findIdx? p with | some i => i | none => -1
theorem idxF_found {α : Type} (p : α → Bool) (l : List α) (i : Nat) (h : i < l.length) (h0 : ∀ j (hj : j < l.length), j < i → p l[j] = false) (h1 : p l[i] = true) : idxF p l = i := by
  have : l.findIdx? p = some i := by
    rw [List.findIdx?_eq_some_iff_getElem]
    exact ⟨h, h1, fun j hj => by simp [h0 j (by omega) hj]⟩
  unfold idxF; rw [this]
theorem idxF_none {α : Type} (p : α → Bool) (l : List α) (h0 : ∀ j (hj : j < l.length), p l[j] = false) : idxF p l = -1 := by
  have : l.findIdx? p = none := by
    rw [List.findIdx?_eq_none_iff]
    intro x hx
    obtain ⟨j, hj, rfl⟩ := List.getElem_of_mem hx
    exact h0 j hj
  unfold idxF; rw [this]
theorem rd62_get (l : List S62) (i : Nat) (h : i < l.length) : y0s l (i : Int) = l[i] := by
  simp [y0s, List.getD_eq_getElem?_getD, h]
theorem indexFunc_calls (p : S62 → Bool) (g q : Nat) (hg : ∀ args w, (callFunc g args).run Try.prog w = .ok (.enter g args) w) (A : Option Addr) (c : Nat) (l : List S62) (w : World) (hC : Kd.C k62 w A l.length l)
    (hp : ∀ x w1, Below w.heap.size w w1 → Calls Try.prog g #[.agg #[.string x.f0, .int .i64 x.f1, .int .i64 x.f2, .bool x.f3], .pointer (some ⟨q, 0, none⟩)] w1 fun e w' => e = .returned (.bool (p x)) ∧ Below w1.heap.size w1 w') :
    Calls Try.prog 101 #[.slice A l.length c, .func (.func g) #[] #[.pointer (some ⟨q, 0, none⟩)]] w fun e w' => e = .returned (.int .i64 (idxF p l)) ∧ Below w.heap.size w w' := by
  have HC := Aside0.mk hC
  have HP := Aside0.mk hp
  have HL := Aside0.mk (show l.length ≤ 9223372036854775807 from hC.2.1)
  clear hC hp
  go_enter Try.func101, Try.ntmps101
  go_wp2
  go_loopg [8] l.length (fun gk v8 w' => ∃ i : Nat, v8 = .int .i64 i ∧ i ≤ l.length ∧ l.length - i ≤ gk ∧ Aside0 (∀ j (hj : j < l.length), j < i → p l[j] = false) ∧ Aside0 (Below w.heap.size w w'))
  case atStart => exact ⟨0, rfl, by omega, by omega, ⟨fun j hj h => by omega⟩, ⟨Below.refl _ _⟩⟩
  case round =>
    obtain ⟨i, rfl, hi, hk, HN, HB⟩ := hrel
    by_cases h2 : i < l.length
    · have c2 : decide ((i : Int) < (l.length : Int)) = true := by simpa using h2
      have c3 : (0 ≤ (i : Int)) = True := by simp
      obtain ⟨ad, ead, hx_0, hx_1, hx_2, hx_3⟩ := at_T62 HC.out i (by omega) (by omega)
      cases ead
      replace hx_0 := (HB.out.cell (World.block_lt_of_cell? w _ hx_0)).trans hx_0
      replace hx_1 := (HB.out.cell (World.block_lt_of_cell? w _ hx_1)).trans hx_1
      replace hx_2 := (HB.out.cell (World.block_lt_of_cell? w _ hx_2)).trans hx_2
      replace hx_3 := (HB.out.cell (World.block_lt_of_cell? w _ hx_3)).trans hx_3
      have hrd := rd62_get l i h2
      obtain ⟨sy, hsy⟩ : ∃ sy, sy = l[i] := ⟨_, rfl⟩
      rw [hrd, ← hsy] at hx_0 hx_1 hx_2 hx_3
      simp only [Int.toNat_natCast] at hx_0 hx_1 hx_2 hx_3
      clear hrd
      have HSY := Aside0.mk hsy
      clear hsy
      cases hpx : p sy with
      | true =>
        have HPX := Aside0.mk hpx
        have HQ := Aside0.mk (show Calls Try.prog g _ wr _ from hpx ▸ HP.out sy wr HB.out)
        clear hpx
        go_wp2_with ((with_reducible refine HQ.out.mono ?_); rintro e w2 ⟨rfl, hb⟩; have HB2 := Aside0.mk (y05 HB.out hb); clear hb)
        go_ret
        refine ⟨?_, HB2.out⟩
        rw [idxF_found p l i h2 HN.out (by rw [← HSY.out]; exact HPX.out)]; rfl
      | false =>
        have HPX := Aside0.mk hpx
        have HQ := Aside0.mk (show Calls Try.prog g _ wr _ from hpx ▸ HP.out sy wr HB.out)
        clear hpx
        have HLI := HL.out
        go_wp2_with ((with_reducible refine HQ.out.mono ?_); rintro e w2 ⟨rfl, hb⟩; have HB2 := Aside0.mk (y05 HB.out hb); clear hb)
        go_roundg (l.length - (i + 1))
        case measure => omega
        case rel =>
          refine ⟨i + 1, by go_num, by omega, by omega, ⟨fun j hj hji => ?_⟩, HB2⟩
          by_cases e : j = i
          · subst e; have := HPX.out; rw [HSY.out] at this; exact this
          · exact HN.out j hj (by omega)
    · have c2 : decide ((i : Int) < (l.length : Int)) = false := by simpa using h2
      go_wp2
      go_ret
      exact ⟨by rw [idxF_none p l (fun j hj => HN.out j hj (by omega))]; rfl, HB.out⟩
theorem idxF_any {α : Type} (p : α → Bool) (l : List α) : decide (0 ≤ idxF p l) = l.any p := by
  unfold idxF
  cases h : l.findIdx? p with
  | none =>
    rw [List.findIdx?_eq_none_iff] at h
    have : l.any p = false := by rw [List.any_eq_false]; intro x hx; simp [h x hx]
    rw [this]; rfl
  | some i =>
    rw [List.findIdx?_eq_some_iff_getElem] at h
    obtain ⟨h1, h2, _⟩ := h
    have : l.any p = true := by rw [List.any_eq_true]; exact ⟨_, List.getElem_mem h1, h2⟩
    rw [this]; simp
theorem containsFunc_calls (p : S62 → Bool) (g q : Nat) (hg : ∀ args w, (callFunc g args).run Try.prog w = .ok (.enter g args) w) (A : Option Addr) (c : Nat) (l : List S62) (w : World) (hC : Kd.C k62 w A l.length l)
    (hp : ∀ x w1, Below w.heap.size w w1 → Calls Try.prog g #[.agg #[.string x.f0, .int .i64 x.f1, .int .i64 x.f2, .bool x.f3], .pointer (some ⟨q, 0, none⟩)] w1 fun e w' => e = .returned (.bool (p x)) ∧ Below w1.heap.size w1 w') :
    Calls Try.prog 72 #[.slice A l.length c, .func (.func g) #[] #[.pointer (some ⟨q, 0, none⟩)]] w fun e w' => e = .returned (.bool (l.any p)) ∧ Below w.heap.size w w' := by
  have HQ := Aside0.mk (indexFunc_calls p g q hg A c l w hC hp)
  clear hC hp hg
  rw [← idxF_any]
  generalize idxF p l = r at HQ ⊢
  go_enter Try.func72, Try.ntmps72
  go_wp2_with (go_at_call 101; (with_reducible refine HQ.out.mono ?_); rintro e w2 ⟨rfl, hb⟩; have HB2 := Aside0.mk hb; clear hb)
  go_ret
  exact ⟨rfl, HB2.out⟩
end Go.Proofs.Ytenlmckahaniiaa.K
end
section
namespace Go.Proofs.Ytenlmckahaniiaa.K
open Go Go.Proofs Go.RowKit Go.Lib Go.Proofs.YtenlmckahaniiaaW.PrintWords Go.Proofs.YtenlmckahaniiaaW.PrintLast
theorem rd25_get (l : List S25) (i : Nat) (h : i < l.length) : y0q l (i : Int) = l[i] := by
  simp [y0q, List.getD_eq_getElem?_getD, h]
abbrev mv (x : S25) (A4 : Option Addr) (c4 : Nat) (A5 : Option Addr) (c5 : Nat) : Value := .agg #[.string x.f0, .string x.f1, .string x.f2, .int .i64 x.f3, .slice A4 x.f4.length c4, .slice A5 x.f5.length c5]
theorem index_calls (p : S25 → Bool) (g q : Nat) (hg : ∀ args w, (callFunc g args).run Try.prog w = .ok (.enter g args) w) (A : Option Addr) (c : Nat) (l : List S25) (w : World) (hC : Kd.C k25 w A l.length l)
    (hp : ∀ (x : S25) A4 c4 A5 c5 w1, Below w.heap.size w w1 → x.f4.length ≤ c4 → Kd.C k62 w1 A4 x.f4.length x.f4 → x.f5.length ≤ c5 → Kd.C k43 w1 A5 x.f5.length x.f5 → Calls Try.prog g #[.agg #[.string x.f0, .string x.f1, .string x.f2, .int .i64 x.f3, .slice A4 x.f4.length c4, .slice A5 x.f5.length c5], .pointer (some ⟨q, 0, none⟩)] w1 fun e w' => e = .returned (.bool (p x)) ∧ Below w1.heap.size w1 w') :
    Calls Try.prog 74 #[.slice A l.length c, .func (.func g) #[] #[.pointer (some ⟨q, 0, none⟩)]] w fun e w' => e = .returned (.int .i64 (idxF p l)) ∧ Below w.heap.size w w' := by
  have hu25 := Try.underlying25
  have HC := Aside0.mk hC
  have HP := Aside0.mk hp
  have HL := Aside0.mk (show l.length ≤ 9223372036854775807 from hC.2.1)
  clear hC hp
  go_enter Try.func74, Try.ntmps74
  go_wp2
  go_loopg [9] l.length (fun gk v9 w' => ∃ i : Nat, v9 = .int .i64 i ∧ i ≤ l.length ∧ l.length - i ≤ gk ∧ Aside0 (∀ j (hj : j < l.length), j < i → p l[j] = false) ∧ Aside0 (Below w.heap.size w w'))
  case atStart => exact ⟨0, rfl, by omega, by omega, ⟨fun j hj h => by omega⟩, ⟨Below.refl _ _⟩⟩
  case round =>
    obtain ⟨i, rfl, hi, hk, HN, HB⟩ := hrel
    by_cases h2 : i < l.length
    · have c2 : decide ((i : Int) < (l.length : Int)) = true := by simpa using h2
      have c3 : (0 ≤ (i : Int)) = True := by simp
      obtain ⟨ad, A4, c4, A5, c5, ead, hx_0, hx_1, hx_2, hx_3, hx_4, hx_5, hl4, hi4, hl5, hi5⟩ := at_T25 HC.out i (by omega) (by omega)
      cases ead
      replace hx_0 := (HB.out.cell (World.block_lt_of_cell? w _ hx_0)).trans hx_0
      replace hx_1 := (HB.out.cell (World.block_lt_of_cell? w _ hx_1)).trans hx_1
      replace hx_2 := (HB.out.cell (World.block_lt_of_cell? w _ hx_2)).trans hx_2
      replace hx_3 := (HB.out.cell (World.block_lt_of_cell? w _ hx_3)).trans hx_3
      replace hx_4 := (HB.out.cell (World.block_lt_of_cell? w _ hx_4)).trans hx_4
      replace hx_5 := (HB.out.cell (World.block_lt_of_cell? w _ hx_5)).trans hx_5
      have hrd := rd25_get l i h2
      obtain ⟨sy, hsy⟩ : ∃ sy, sy = l[i] := ⟨_, rfl⟩
      rw [hrd, ← hsy] at hx_0 hx_1 hx_2 hx_3 hx_4 hx_5 hl4 hi4 hl5 hi5
      simp only [Int.toNat_natCast] at hx_0 hx_1 hx_2 hx_3 hx_4 hx_5
      clear hrd
      have HSY := Aside0.mk hsy
      clear hsy
      have HQ := Aside0.mk (fun w1 (hb1 : Below wr.heap.size wr w1) => HP.out sy A4 c4 A5 c5 w1 (y05 HB.out hb1) hl4 (Kd.C_below (Kd.C_below hi4 HB.out) hb1) hl5 (Kd.C_below (Kd.C_below hi5 HB.out) hb1))
      clear hi4 hi5 hl4 hl5
      cases hpx : p sy with
      | true =>
        rw [hpx] at HQ
        have HPX := Aside0.mk hpx
        clear hpx
        go_wp2_with ((with_reducible refine (HQ.out _ (y01 (Below.refl _ _) _)).mono ?_); rintro e w2 ⟨rfl, hb⟩; have HB2 := Aside0.mk (y05 (y01 HB.out _) hb); clear hb)
        go_ret
        refine ⟨?_, HB2.out⟩
        rw [idxF_found p l i h2 HN.out (by rw [← HSY.out]; exact HPX.out)]; rfl
      | false =>
        rw [hpx] at HQ
        have HPX := Aside0.mk hpx
        clear hpx
        have HLI := HL.out
        go_wp2_with ((with_reducible refine (HQ.out _ (y01 (Below.refl _ _) _)).mono ?_); rintro e w2 ⟨rfl, hb⟩; have HB2 := Aside0.mk (y05 (y01 HB.out _) hb); clear hb)
        go_roundg (l.length - (i + 1))
        case measure => omega
        case rel =>
          refine ⟨i + 1, by go_num, by omega, by omega, ⟨fun j hj hji => ?_⟩, HB2⟩
          by_cases e : j = i
          · subst e; have := HPX.out; rw [HSY.out] at this; exact this
          · exact HN.out j hj (by omega)
    · have c2 : decide ((i : Int) < (l.length : Int)) = false := by simpa using h2
      go_wp2
      go_ret
      exact ⟨by rw [idxF_none p l (fun j hj => HN.out j hj (by omega))]; rfl, HB.out⟩
def pNam (name : ByteArray) (x : S25) : Bool := x.f0.toList == name.toList
theorem namedF_calls (x : S25) A4 c4 A5 c5 (q : Nat) (name : ByteArray) (w : World) (hq : w.cell? ⟨q, 0, none⟩ = some (.string name)) :
    Calls Try.prog 76 #[mv x A4 c4 A5 c5, .pointer (some ⟨q, 0, none⟩)] w fun e w' => e = .returned (.bool (pNam name x)) ∧ Below w.heap.size w w' := by
  have hlt := World.block_lt_of_cell? w _ hq
  unfold pNam
  go_enter Try.func76, Try.ntmps76
  go_wp2
  go_ret
  exact ⟨rfl, (Below.refl _ _).alloc (Nat.le_refl _) _⟩
theorem namedG_calls (x : S25) A4 c4 A5 c5 (q : Nat) (name : ByteArray) (w : World) (hq : w.cell? ⟨q, 0, none⟩ = some (.string name)) :
    Calls Try.prog 86 #[mv x A4 c4 A5 c5, .pointer (some ⟨q, 0, none⟩)] w fun e w' => e = .returned (.bool (pNam name x)) ∧ Below w.heap.size w w' := by
  have hlt := World.block_lt_of_cell? w _ hq
  unfold pNam
  go_enter Try.func86, Try.ntmps86
  go_wp2
  go_ret
  exact ⟨rfl, (Below.refl _ _).alloc (Nat.le_refl _) _⟩
def zq1s.f (_k : Nat) (l0 : List S25) (name : ByteArray) : Option Int := some (idxF (pNam name) l0)
theorem zq1s.calls (k : Nat) (A0 : Option Addr) (c0 : Nat) (l0 : List S25) (name : ByteArray) (r : Int) (q : Nat) (w : World) (hr0 : Kd.C k25 w A0 l0.length l0) (hc0 : l0.length ≤ c0) (hq : w.cell? ⟨q, 0, none⟩ = some (.string name)) (h : zq1s.f k l0 name = some r) :
    Calls Try.prog 74 #[.slice A0 l0.length c0, .func (.func 86) #[] #[.pointer (some ⟨q, 0, none⟩)]] w fun e w' => e = .returned (.int .i64 r) ∧ Below w.heap.size w w' := by
  obtain rfl := Option.some.inj h
  exact index_calls (pNam name) 86 q (fun args w => enters_ Try.func86 (by kernel_rfl) rfl args w) A0 c0 l0 w hr0 (fun x A4 c4 A5 c5 w1 hb1 _ _ _ _ => namedG_calls x A4 c4 A5 c5 q name w1 ((hb1.cell (World.block_lt_of_cell? w _ hq)).trans hq))
end Go.Proofs.Ytenlmckahaniiaa.K
end
section
namespace Go.Proofs.Ytenlmckahaniiaa.K
open Go.RowKit Go.Proofs.YtenlmckahaniiaaW.PrintWords Go.Proofs.YtenlmckahaniiaaW.PrintLast
def zq19.f (a0_0 : ByteArray) (a0_1 : ByteArray) (a0_2 : ByteArray) (a0_3 : Int) (l0_4 : List (S62)) (l0_5 : List (S43)) (a1 : ByteArray) : Option Bool := some (l0_4.any (pSym a1))
theorem zq19.calls (a0_0 : ByteArray) (a0_1 : ByteArray) (a0_2 : ByteArray) (a0_3 : Int) (A0_4 : Option Addr) (c0_4 : Nat) (l0_4 : List (S62)) (A0_5 : Option Addr) (c0_5 : Nat) (l0_5 : List (S43)) (a1 : ByteArray) (r : Bool) (w : World) (hr0_4 : Kd.C k62 w A0_4 l0_4.length l0_4) (hc0_4 : l0_4.length ≤ c0_4) (hr0_5 : Kd.C k43 w A0_5 l0_5.length l0_5) (hc0_5 : l0_5.length ≤ c0_5) (h : zq19.f a0_0 a0_1 a0_2 a0_3 l0_4 l0_5 a1 = some r) :
  Calls Try.prog 29 #[.agg #[.string a0_0, .string a0_1, .string a0_2, .int .i64 a0_3, .slice A0_4 l0_4.length c0_4, .slice A0_5 l0_5.length c0_5], .string a1] w fun e w' => e = .returned (.bool r) ∧ Below w.heap.size w w' := by
 obtain rfl := Option.some.inj h
 clear h
 have HR4 := q_ hr0_4
 clear hr0_4 hr0_5 hc0_4 hc0_5
 have HC := q_ (Kd.C_alloc (Kd.C_alloc HR4.out (.cells #[.string a0_0, .string a0_1, .string a0_2, .int .i64 a0_3, .slice A0_4 l0_4.length c0_4, .slice A0_5 l0_5.length c0_5] 25)) (.cells #[.string a1] 9))
 have HB := q_ (((Below.refl w.heap.size w).alloc (Nat.le_refl _) (.cells #[.string a0_0, .string a0_1, .string a0_2, .int .i64 a0_3, .slice A0_4 l0_4.length c0_4, .slice A0_5 l0_5.length c0_5] 25)).alloc (by simp) (.cells #[.string a1] 9))
 have HQ : Aside0 ((World.alloc (w.alloc (.cells #[.string a0_0, .string a0_1, .string a0_2, .int .i64 a0_3, .slice A0_4 l0_4.length c0_4, .slice A0_5 l0_5.length c0_5] 25)) (.cells #[.string a1] 9)).heap[w.heap.size + 1]? = some (.cells #[.string a1] 9)) := ⟨by have h_ := blk_new (w.alloc (.cells #[.string a0_0, .string a0_1, .string a0_2, .int .i64 a0_3, .slice A0_4 l0_4.length c0_4, .slice A0_5 l0_5.length c0_5] 25)) (.cells #[.string a1] 9); rwa [show ((w.alloc (.cells #[.string a0_0, .string a0_1, .string a0_2, .int .i64 a0_3, .slice A0_4 l0_4.length c0_4, .slice A0_5 l0_5.length c0_5] 25))).heap.size = w.heap.size + 1 by simp] at h_⟩
 go_enter Try.func29, Try.ntmps29
 go_wp2_with (go_at_call 72; (with_reducible refine (containsFunc_calls (pSym a1) 73 _ (fun args w => enters_ Try.func73 (by kernel_rfl) rfl args w) A0_4 c0_4 l0_4 _ HC.out (fun x w1 hb1 => definesF_calls x _ a1 w1 ((y08 (y07 HQ.out hb1) 0).trans rfl))).mono ?_); rintro e w2 ⟨rfl, hb⟩; have HB2 := q_ (y05 HB.out hb); clear hb)
 go_ret
 exact ⟨rfl, HB2.out⟩
def zq7.l0 : Nat → ByteArray → Int → ByteArray → ByteArray → ByteArray → Int → List (S62) → List (S43) → Option (Bool)
  | 0, _, _, _, _, _, _, _, _ => none
  | k + 1, x1, x5, x679000, x679001, x679002, x679003, x679004, x679005 => if x5 < (x679004.length : Int) then (if 0 ≤ x5 then (if ((y0s x679004 x5).f0).toList = x1.toList then (if (y0s x679004 x5).f3 = true then (some true) else (zq7.l0 k x1 (wrap64 (x5 + 1)) x679000 x679001 x679002 x679003 x679004 x679005)) else (zq7.l0 k x1 (wrap64 (x5 + 1)) x679000 x679001 x679002 x679003 x679004 x679005)) else (none)) else (some false)
def zq7.f (k : Nat) (a0_0 : ByteArray) (a0_1 : ByteArray) (a0_2 : ByteArray) (a0_3 : Int) (l0_4 : List (S62)) (l0_5 : List (S43)) (a1 : ByteArray) : Option (Bool) := zq7.l0 k a1 0 a0_0 a0_1 a0_2 a0_3 l0_4 l0_5
theorem zq7.calls (k : Nat) (a0_0 : ByteArray) (a0_1 : ByteArray) (a0_2 : ByteArray) (a0_3 : Int) (A0_4 : Option Addr) (c0_4 : Nat) (l0_4 : List (S62)) (A0_5 : Option Addr) (c0_5 : Nat) (l0_5 : List (S43)) (a1 : ByteArray) (r : Bool) (w : World) (hr0_4 : Kd.C k62 w A0_4 l0_4.length l0_4) (hc0_4 : l0_4.length ≤ c0_4) (hr0_5 : Kd.C k43 w A0_5 l0_5.length l0_5) (hc0_5 : l0_5.length ≤ c0_5) (h : zq7.f k a0_0 a0_1 a0_2 a0_3 l0_4 l0_5 a1 = some r) :
  Calls Try.prog 30 #[.agg #[.string a0_0, .string a0_1, .string a0_2, .int .i64 a0_3, .slice A0_4 l0_4.length c0_4, .slice A0_5 l0_5.length c0_5], .string a1] w fun e w' => e = .returned (.bool r) ∧ Below w.heap.size w w' := by
 have hu25 := Try.underlying25
 have HR0_4 := q_ hr0_4
 have HC0_4 := q_ hc0_4
 clear hr0_4 hc0_4
 have HR0_5 := q_ hr0_5
 have HC0_5 := q_ hc0_5
 clear hr0_5 hc0_5
 have HB := q_ (Below.refl w.heap.size w)
 have H : (zq7.l0 k a1 0 a0_0 a0_1 a0_2 a0_3 l0_4 l0_5) = some r := h
 clear h
 have H' := q_ H
 clear H
 go_enter Try.func30, Try.ntmps30
 go_wp2_with (first | ((with_reducible refine y0k (N := 2) rfl ?_); refine y0g ?hg (N := 2) ?hd (cs := #[.string a0_0, .string a0_1, .string a0_2, .int .i64 a0_3, .slice A0_4 l0_4.length c0_4, .slice A0_5 l0_5.length c0_5]) (t := 25) ?hr ?_; (case hd => rfl); (case hg => rfl); (case hr => first | (go_simp; done) | (go_simp; rfl)); intro gb678 hg w3 hbox hb; have n0_ := q_ (y05 hb_ hb); have n1_ := q_ (hbox); have n2_ := q_ ((by rw [hg]; exact (y04 hb_) : w.heap.size ≤ gb678)); have n3_ := q_ ((by rw [hg]; exact (y04 hb_) : w.heap.size ≤ gb678)); clear HB; have HB := n0_; have BK678 := n1_; have GW678 := n2_; have GE678 := n3_; clear n0_ n1_ n2_ n3_; clear hb hbox hg))
 go_loopg [5] k (fun kq v5 w' => ∃ (x5_1 : Int), v5 = .int .i64 x5_1 ∧ Aside0 (zq7.l0 kq a1 x5_1 a0_0 a0_1 a0_2 a0_3 l0_4 l0_5 = some r) ∧ Aside0 (kq ≤ k) ∧ Aside0 (w'.heap[gb678]? = some (.cells #[.string a0_0, .string a0_1, .string a0_2, .int .i64 a0_3, (.slice A0_4 l0_4.length c0_4), (.slice A0_5 l0_5.length c0_5)] 25 (0, 0))) ∧ Aside0 (Below w.heap.size w w'))
 case atStart => exact ⟨(0), cl_, H', ⟨Nat.le_refl _⟩, ⟨bk_ BK678.out⟩, ⟨hb_⟩⟩
 case round =>
  clear H'
  (try clear p2); (try clear c3)
  obtain ⟨x5_1, rfl, HA, HK1, BK678, HB⟩ := hrel
  cases gk with
  | zero => exact absurd HA.out (by simp [zq7.l0])
  | succ k1 =>
   have H := HA.out
   clear HA
   simp only [zq7.l0] at H
   by_cases c4 : x5_1 < (l0_4.length : Int)
   rotate_left
   ·rw [if_neg c4] at H
    have c4b0 : decide (x5_1 < (l0_4.length : Int)) = false := decide_eq_false c4
    clear c4
    obtain rfl := Option.some.inj H
    obtain ⟨hcz12_0, hfz12_0, hcz12_1, hfz12_1, hcz12_2, hfz12_2, hcz12_3, hfz12_3, hcz12_4, hfz12_4, hcz12_5, hfz12_5⟩ := b6_ BK678.out
    go_wp2
    go_ret
    exact ⟨ew_, hb_⟩
   rw [if_pos c4] at H
   have c4b0 : decide (x5_1 < (l0_4.length : Int)) = true := decide_eq_true c4
   clear c4
   by_cases c5 : 0 ≤ x5_1
   rotate_left
   ·rw [if_neg c5] at H
    exact absurd H (by simp)
   rw [if_pos c5] at H
   have c5b0 : decide (0 ≤ x5_1) = true := decide_eq_true c5
   clear c5
   by_cases c6 : ((y0s l0_4 x5_1).f0).toList = a1.toList
   rotate_left
   ·rw [if_neg c6] at H
    have c6b0 : (((y0s l0_4 x5_1).f0).toList == a1.toList) = false := beq_eq_false_iff_ne.mpr c6
    have c6b1 : (((y0s l0_4 x5_1).f0).toList != a1.toList) = true := bne_iff_ne.mpr c6
    have H' := q_ H
    clear H
    obtain ⟨hcz11_0, hfz11_0, hcz11_1, hfz11_1, hcz11_2, hfz11_2, hcz11_3, hfz11_3, hcz11_4, hfz11_4, hcz11_5, hfz11_5⟩ := b6_ BK678.out
    have p679 : 0 ≤ (x5_1 : Int) := oa_
    have q679 : x5_1 < (l0_4.length : Int) := oa_
    obtain ⟨ad679, e679, hx679_0, hx679_1, hx679_2, hx679_3⟩ := at_T62 HR0_4.out x5_1 p679 q679
    cases e679
    replace hx679_0 := cb_ HB.out hx679_0
    replace hx679_1 := cb_ HB.out hx679_1
    replace hx679_2 := cb_ HB.out hx679_2
    replace hx679_3 := cb_ HB.out hx679_3
    replace p679 := eq_true p679
    replace q679 := eq_true q679
    go_wp2
    go_roundg k1
    case measure => have := HK1.out; omega
    case rel => exact ⟨(wrap64 (x5_1 + 1)), cl_, H', ⟨by have := HK1.out; omega⟩, ⟨bk_ BK678.out⟩, ⟨hb_⟩⟩
   rw [if_pos c6] at H
   have c6b0 : (((y0s l0_4 x5_1).f0).toList == a1.toList) = true := beq_iff_eq.mpr c6
   have c6b1 : (((y0s l0_4 x5_1).f0).toList != a1.toList) = false := bne_eq_false_iff_eq.mpr c6
   clear c6
   obtain ⟨bq7, hbq7⟩ : ∃ b_ : Bool, b_ = ((y0s l0_4 x5_1).f3) := ⟨_, rfl⟩
   replace H : (if bq7 = true then (some true) else (zq7.l0 k1 a1 (wrap64 (x5_1 + 1)) a0_0 a0_1 a0_2 a0_3 l0_4 l0_5)) = some r := by rw [← hbq7] at H; exact H
   have Nbq7 := q_ hbq7
   clear hbq7
   by_cases c8 : bq7 = true
   ·subst c8
    rw [if_pos rfl] at H
    obtain rfl := Option.some.inj H
    obtain ⟨hcz9_0, hfz9_0, hcz9_1, hfz9_1, hcz9_2, hfz9_2, hcz9_3, hfz9_3, hcz9_4, hfz9_4, hcz9_5, hfz9_5⟩ := b6_ BK678.out
    have p679 : 0 ≤ (x5_1 : Int) := oa_
    have q679 : x5_1 < (l0_4.length : Int) := oa_
    obtain ⟨ad679, e679, hx679_0, hx679_1, hx679_2, hx679_3⟩ := at_T62 HR0_4.out x5_1 p679 q679
    (try rw [← Nbq7.out] at hx679_3)
    cases e679
    replace hx679_0 := cb_ HB.out hx679_0
    replace hx679_1 := cb_ HB.out hx679_1
    replace hx679_2 := cb_ HB.out hx679_2
    replace hx679_3 := cb_ HB.out hx679_3
    replace p679 := eq_true p679
    replace q679 := eq_true q679
    have p680 : 0 ≤ (x5_1 : Int) := oa_
    have q680 : x5_1 < (l0_4.length : Int) := oa_
    obtain ⟨ad680, e680, hx680_0, hx680_1, hx680_2, hx680_3⟩ := at_T62 HR0_4.out x5_1 p680 q680
    (try rw [← Nbq7.out] at hx680_3)
    obtain rfl : ad679 = ad680 := (by injection e680)
    replace hx680_0 := cb_ HB.out hx680_0
    replace hx680_1 := cb_ HB.out hx680_1
    replace hx680_2 := cb_ HB.out hx680_2
    replace hx680_3 := cb_ HB.out hx680_3
    replace p680 := eq_true p680
    replace q680 := eq_true q680
    go_wp2
    go_ret
    exact ⟨ew_, hb_⟩
   replace c8 := Bool.eq_false_iff.mpr c8
   subst c8
   rw [if_neg (show ¬ (false = true) by decide)] at H
   have H' := q_ H
   clear H
   obtain ⟨hcz10_0, hfz10_0, hcz10_1, hfz10_1, hcz10_2, hfz10_2, hcz10_3, hfz10_3, hcz10_4, hfz10_4, hcz10_5, hfz10_5⟩ := b6_ BK678.out
   have p679 : 0 ≤ (x5_1 : Int) := oa_
   have q679 : x5_1 < (l0_4.length : Int) := oa_
   obtain ⟨ad679, e679, hx679_0, hx679_1, hx679_2, hx679_3⟩ := at_T62 HR0_4.out x5_1 p679 q679
   (try rw [← Nbq7.out] at hx679_3)
   cases e679
   replace hx679_0 := cb_ HB.out hx679_0
   replace hx679_1 := cb_ HB.out hx679_1
   replace hx679_2 := cb_ HB.out hx679_2
   replace hx679_3 := cb_ HB.out hx679_3
   replace p679 := eq_true p679
   replace q679 := eq_true q679
   have p680 : 0 ≤ (x5_1 : Int) := oa_
   have q680 : x5_1 < (l0_4.length : Int) := oa_
   obtain ⟨ad680, e680, hx680_0, hx680_1, hx680_2, hx680_3⟩ := at_T62 HR0_4.out x5_1 p680 q680
   (try rw [← Nbq7.out] at hx680_3)
   obtain rfl : ad679 = ad680 := (by injection e680)
   replace hx680_0 := cb_ HB.out hx680_0
   replace hx680_1 := cb_ HB.out hx680_1
   replace hx680_2 := cb_ HB.out hx680_2
   replace hx680_3 := cb_ HB.out hx680_3
   replace p680 := eq_true p680
   replace q680 := eq_true q680
   go_wp2
   go_roundg k1
   case measure => have := HK1.out; omega
   case rel => exact ⟨(wrap64 (x5_1 + 1)), cl_, H', ⟨by have := HK1.out; omega⟩, ⟨bk_ BK678.out⟩, ⟨hb_⟩⟩
end Go.Proofs.Ytenlmckahaniiaa.K
end
section
namespace Go.Proofs.Ytenlmckahaniiaa.K
open Go.RowKit Go.Proofs.YtenlmckahaniiaaW.PrintWords Go.Proofs.YtenlmckahaniiaaW.PrintLast
theorem findF_calls (x : S25) A4 c4 A5 c5 (q : Nat) (name : ByteArray) (w : World) (hq : w.cell? ⟨q, 0, none⟩ = some (.string name)) (hl4 : x.f4.length ≤ c4) (hi4 : Kd.C k62 w A4 x.f4.length x.f4) (hl5 : x.f5.length ≤ c5) (hi5 : Kd.C k43 w A5 x.f5.length x.f5) :
  Calls Try.prog 75 #[mv x A4 c4 A5 c5, .pointer (some ⟨q, 0, none⟩)] w fun e w' => e = .returned (.bool (x.f4.any (pSym name))) ∧ Below w.heap.size w w' := by
 have hlt := World.block_lt_of_cell? w _ hq
 have hB := y01 (Below.refl w.heap.size w) (.cells #[.string x.f0, .string x.f1, .string x.f2, .int .i64 x.f3, .slice A4 x.f4.length c4, .slice A5 x.f5.length c5] 25)
 have HQ := q_ (zq19.calls x.f0 x.f1 x.f2 x.f3 A4 c4 x.f4 A5 c5 x.f5 name _ _ (Kd.C_below hi4 hB) hl4 (Kd.C_below hi5 hB) hl5 rfl)
 have HB := q_ hB
 clear hB hi4 hi5 hl4 hl5
 generalize x.f4.any (pSym name) = r at HQ ⊢
 go_enter Try.func75, Try.ntmps75
 go_wp2_with (go_at_call 29; (with_reducible refine HQ.out.mono ?_); rintro e w2 ⟨rfl, hb⟩; have HB2 := q_ (y05 HB.out hb); clear hb)
 go_ret
 exact ⟨rfl, HB2.out⟩
abbrev fnd (l : List S25) (name : ByteArray) : Int := idxF (fun x : S25 => x.f4.any (pSym name)) l
def zq1g.f (l0 : List S25) (a1 : ByteArray) : Option (Int × Bool) := some (max (fnd l0 a1) 0, decide (0 ≤ fnd l0 a1))
theorem zq1g.calls (A0 : Option Addr) (c0 : Nat) (l0 : List S25) (a1 : ByteArray) (r1 : Int) (r2 : Bool) (w : World) (hr0 : Kd.C k25 w A0 l0.length l0) (hc0 : l0.length ≤ c0) (h : zq1g.f l0 a1 = some (r1, r2)) :
  Calls Try.prog 32 #[.slice A0 l0.length c0, .string a1] w fun e w' => e = .returned (.tuple #[.int .i64 r1, .bool r2]) ∧ Below w.heap.size w w' := by
 have h1 : max (fnd l0 a1) 0 = r1 := (Prod.mk.inj (Option.some.inj h)).1
 have h2 : decide (0 ≤ fnd l0 a1) = r2 := (Prod.mk.inj (Option.some.inj h)).2
 subst h1
 subst h2
 clear h
 have HQ := q_ (index_calls (fun x : S25 => x.f4.any (pSym a1)) 75 w.heap.size (fun args w => enters_ Try.func75 (by kernel_rfl) rfl args w) A0 c0 l0 (w.alloc (.cells #[.string a1] 9)) (Kd.C_alloc hr0 _) (fun x A4 c4 A5 c5 w1 hb1 hl4 hi4 hl5 hi5 => findF_calls x A4 c4 A5 c5 _ a1 w1 ((y08 (y07 (blk_new w (.cells #[.string a1] 9)) hb1) 0).trans rfl) hl4 hi4 hl5 hi5))
 have HB := q_ (y01 (Below.refl w.heap.size w) (.cells #[.string a1] 9))
 clear hr0 hc0
 unfold fnd
 generalize idxF (fun x : S25 => x.f4.any (pSym a1)) l0 = r at HQ ⊢
 go_enter Try.func32, Try.ntmps32
 go_wp2_with (go_at_call 74; (with_reducible refine HQ.out.mono ?_); rintro e w2 ⟨rfl, hb⟩; have HB2 := q_ (y05 HB.out hb); clear hb)
 all_goals (go_ret2; refine ⟨?_, HB2.out⟩; first | rfl | (rw [Int.max_eq_left (by omega)]; done) | (rw [Int.max_eq_left (by omega)]; rfl) | (rw [Int.max_eq_right (by omega)]; done) | (rw [Int.max_eq_right (by omega)]; rfl) | (simp [Int.max_def] <;> omega))
def zqt.l0 : Nat → List (S25) → ByteArray → Int → Option (Int × Bool)
  | 0, _, _, _ => none
  | k + 1, x0, x1, x6 => if x6 < (x0.length : Int) then (if 0 ≤ x6 then ((zq7.f k ((y0q x0 x6).f0) ((y0q x0 x6).f1) ((y0q x0 x6).f2) ((y0q x0 x6).f3) ((y0q x0 x6).f4) ((y0q x0 x6).f5) x1).bind fun t701 => (if t701 = true then (some (x6, true)) else (zqt.l0 k x0 x1 (wrap64 (x6 + 1))))) else (none)) else (some (0, false))
def zqt.f (k : Nat) (l0 : List (S25)) (a1 : ByteArray) : Option (Int × Bool) := zqt.l0 k l0 a1 0
theorem zqt.calls (k : Nat) (A0 : Option Addr) (c0 : Nat) (l0 : List (S25)) (a1 : ByteArray) (r1 : Int) (r2 : Bool) (w : World) (hr0 : Kd.C k25 w A0 l0.length l0) (hc0 : l0.length ≤ c0) (h : zqt.f k l0 a1 = some (r1, r2)) :
  Calls Try.prog 33 #[.slice A0 l0.length c0, .string a1] w fun e w' => e = .returned (.tuple #[.int .i64 r1, .bool r2]) ∧ Below w.heap.size w w' := by
 have hu25 := Try.underlying25
 have HR0 := q_ hr0
 have HC0 := q_ hc0
 clear hr0 hc0
 have HB := q_ (Below.refl w.heap.size w)
 have H : (zqt.l0 k l0 a1 0) = some (r1, r2) := h
 clear h
 have H' := q_ H
 clear H
 go_enter Try.func33, Try.ntmps33
 go_wp2
 go_loopg [6] k (fun kq v6 w' => ∃ (x6_1 : Int), v6 = .int .i64 x6_1 ∧ Aside0 (zqt.l0 kq l0 a1 x6_1 = some (r1, r2)) ∧ Aside0 (kq ≤ k) ∧ Aside0 (Below w.heap.size w w'))
 case atStart => exact ⟨(0), cl_, H', ⟨Nat.le_refl _⟩, ⟨hb_⟩⟩
 case round =>
  clear H'
  (try clear p2)
  obtain ⟨x6_1, rfl, HA, HK1, HB⟩ := hrel
  cases gk with
  | zero => exact absurd HA.out (by simp [zqt.l0])
  | succ k1 =>
   have H := HA.out
   clear HA
   simp only [zqt.l0] at H
   by_cases c3 : x6_1 < (l0.length : Int)
   rotate_left
   ·rw [if_neg c3] at H
    have c3b0 : decide (x6_1 < (l0.length : Int)) = false := decide_eq_false c3
    clear c3
    simp only [Option.some.injEq, Prod.mk.injEq] at H
    obtain ⟨rfl, rfl⟩ := H
    go_wp2
    go_ret2
    exact ⟨ew_, hb_⟩
   rw [if_pos c3] at H
   have c3b0 : decide (x6_1 < (l0.length : Int)) = true := decide_eq_true c3
   clear c3
   by_cases c4 : 0 ≤ x6_1
   rotate_left
   ·rw [if_neg c4] at H
    exact absurd H (by simp)
   rw [if_pos c4] at H
   have c4b0 : decide (0 ≤ x6_1) = true := decide_eq_true c4
   clear c4
   replace H := Option.bind_eq_some_iff.mp H
   obtain ⟨t701, A50, H⟩ := H
   (try dsimp only at H)
   have A5 := q_ A50
   clear A50
   by_cases c6 : t701 = true
   ·subst c6
    rw [if_pos rfl] at H
    simp only [Option.some.injEq, Prod.mk.injEq] at H
    obtain ⟨rfl, rfl⟩ := H
    have p700 : 0 ≤ (x6_1 : Int) := oa_
    have q700 : x6_1 < (l0.length : Int) := oa_
    obtain ⟨ad700, A700_4, c700_4, A700_5, c700_5, e700, hx700_0, hx700_1, hx700_2, hx700_3, hx700_4, hx700_5, hl700_4, hi700_4, hl700_5, hi700_5⟩ := at_T25 HR0.out x6_1 p700 q700
    cases e700
    replace hx700_0 := cb_ HB.out hx700_0
    replace hx700_1 := cb_ HB.out hx700_1
    replace hx700_2 := cb_ HB.out hx700_2
    replace hx700_3 := cb_ HB.out hx700_3
    replace hx700_4 := cb_ HB.out hx700_4
    replace hx700_5 := cb_ HB.out hx700_5
    have HR700_4 := q_ hi700_4
    have HC700_4 := q_ hl700_4
    clear hi700_4 hl700_4
    have HR700_5 := q_ hi700_5
    have HC700_5 := q_ hl700_5
    clear hi700_5 hl700_5
    replace p700 := eq_true p700
    replace q700 := eq_true q700
    go_wp2_with (first | ((with_reducible refine y0j (f := 30) rfl ?_); refine goesL_ (some 18) rfl rfl Try.func30 (by kernel_rfl) rfl #[.agg #[.string ((y0q l0 x6_1).f0), .string ((y0q l0 x6_1).f1), .string ((y0q l0 x6_1).f2), .int .i64 ((y0q l0 x6_1).f3), .slice A700_4 ((y0q l0 x6_1).f4).length c700_4, .slice A700_5 ((y0q l0 x6_1).f5).length c700_5], .string a1] rfl ar_ ?_; (with_reducible refine (zq7.calls k1 ((y0q l0 x6_1).f0) ((y0q l0 x6_1).f1) ((y0q l0 x6_1).f2) ((y0q l0 x6_1).f3) _ _ ((y0q l0 x6_1).f4) _ _ ((y0q l0 x6_1).f5) a1 true _ ?side1 ?side2 ?side3 ?side4 A5.out).mono ?_); (case side1 => exact ck_ (Kd.C_below HR700_4.out HB.out)); (case side2 => exact HC700_4.out); (case side3 => exact ck_ (Kd.C_below HR700_5.out HB.out)); (case side4 => exact HC700_5.out); rintro e w7 ⟨rfl, hb⟩; refine ⟨_, rfl, ?_⟩; have n0_ := q_ (y05 hb_ hb); clear HB; have HB := n0_; clear n0_; (try clear hb); (try clear hb2); (try clear hk); (try clear hi)))
    go_ret2
    exact ⟨ew_, hb_⟩
   replace c6 := Bool.eq_false_iff.mpr c6
   subst c6
   rw [if_neg (show ¬ (false = true) by decide)] at H
   have H' := q_ H
   clear H
   have p700 : 0 ≤ (x6_1 : Int) := oa_
   have q700 : x6_1 < (l0.length : Int) := oa_
   obtain ⟨ad700, A700_4, c700_4, A700_5, c700_5, e700, hx700_0, hx700_1, hx700_2, hx700_3, hx700_4, hx700_5, hl700_4, hi700_4, hl700_5, hi700_5⟩ := at_T25 HR0.out x6_1 p700 q700
   cases e700
   replace hx700_0 := cb_ HB.out hx700_0
   replace hx700_1 := cb_ HB.out hx700_1
   replace hx700_2 := cb_ HB.out hx700_2
   replace hx700_3 := cb_ HB.out hx700_3
   replace hx700_4 := cb_ HB.out hx700_4
   replace hx700_5 := cb_ HB.out hx700_5
   have HR700_4 := q_ hi700_4
   have HC700_4 := q_ hl700_4
   clear hi700_4 hl700_4
   have HR700_5 := q_ hi700_5
   have HC700_5 := q_ hl700_5
   clear hi700_5 hl700_5
   replace p700 := eq_true p700
   replace q700 := eq_true q700
   go_wp2_with (first | ((with_reducible refine y0j (f := 30) rfl ?_); refine goesL_ (some 18) rfl rfl Try.func30 (by kernel_rfl) rfl #[.agg #[.string ((y0q l0 x6_1).f0), .string ((y0q l0 x6_1).f1), .string ((y0q l0 x6_1).f2), .int .i64 ((y0q l0 x6_1).f3), .slice A700_4 ((y0q l0 x6_1).f4).length c700_4, .slice A700_5 ((y0q l0 x6_1).f5).length c700_5], .string a1] rfl ar_ ?_; (with_reducible refine (zq7.calls k1 ((y0q l0 x6_1).f0) ((y0q l0 x6_1).f1) ((y0q l0 x6_1).f2) ((y0q l0 x6_1).f3) _ _ ((y0q l0 x6_1).f4) _ _ ((y0q l0 x6_1).f5) a1 false _ ?side1 ?side2 ?side3 ?side4 A5.out).mono ?_); (case side1 => exact ck_ (Kd.C_below HR700_4.out HB.out)); (case side2 => exact HC700_4.out); (case side3 => exact ck_ (Kd.C_below HR700_5.out HB.out)); (case side4 => exact HC700_5.out); rintro e w8 ⟨rfl, hb⟩; refine ⟨_, rfl, ?_⟩; have n0_ := q_ (y05 hb_ hb); clear HB; have HB := n0_; clear n0_; (try clear hb); (try clear hb2); (try clear hk); (try clear hi)))
   go_roundg k1
   case measure => have := HK1.out; omega
   case rel => exact ⟨(wrap64 (x6_1 + 1)), cl_, H', ⟨by have := HK1.out; omega⟩, ⟨hb_⟩⟩
end Go.Proofs.Ytenlmckahaniiaa.K
end
section
namespace Go.Proofs.Ytenlmckahaniiaa.K
open Go.RowKit Go.Proofs.YtenlmckahaniiaaW.PrintWords Go.Proofs.YtenlmckahaniiaaW.PrintLast
def zq13.f (a0 : ByteArray) (a1 : Int) : Option Int := some (idxB a0 a1)
theorem zq13.calls (a0 : ByteArray) (a1 : Int) (r : Int) (w : World) (h : zq13.f a0 a1 = some r) :
    Calls Try.prog 87 #[.string a0, .int .u8 a1] w fun e w' => e = .returned (.int .i64 r) ∧ Drawn0 w w' := by
  obtain rfl := Option.some.inj h
  refine (strings_IndexByte_calls a0 a1 w).mono ?_
  rintro e w' ⟨rfl, rfl⟩
  exact ⟨rfl, Drawn0.refl _⟩
end Go.Proofs.Ytenlmckahaniiaa.K
end
