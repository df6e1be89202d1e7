/- tty: bytes that are typed. -/
import Derived.Test.YtgcmhfoegbaaiaaMyTtyL
import Derived.Test.YtgcmhfoegbaaiaaMyTtyC
import Derived.Test.YtgcmhfoegbaaiaaKx7
import Derived.Test.YtgcmhfoegbaaiaaKx8
set_option linter.unusedVariables false
set_option linter.unusedSimpArgs false
namespace Go.Proofs.Ytgcmhfoegbaaiaa.Pure
open Go Go.RowKit Go.Proofs.Ytgcmhfoegbaaiaa.K Go.Proofs.YtgcmhfoegbaaiaaW.PrintWords Go.Proofs.YtgcmhfoegbaaiaaW.PrintMore Go.Proofs.Ytgcmhfoegbaaiaa.MyBits Go.Proofs.Ytgcmhfoegbaaiaa.MyStr Go.Proofs.Ytgcmhfoegbaaiaa.Tty

theorem te : ByteArray.empty.toList = [] := by rw [toList_bs]; rfl
theorem te' : (⟨#[]⟩ : ByteArray).toList = [] := by rw [toList_bs]; rfl
/-! typed bytes -/
def inpS (x : St) (c : UInt8) : St := inp x.1 x.2.1 x.2.2.1 x.2.2.2 ((c.toNat : Nat) : Int)
def typ (x : St) (l : List UInt8) : St := l.foldl inpS x
theorem inpS_ok {x : St} (h : OkS x) (c : UInt8) : OkS (inpS x c) := inp_ok h (by omega) (by have := UInt8.toNat_lt c; omega)
theorem typ_ok : ∀ (l : List UInt8) {x : St}, OkS x → OkS (typ x l)
  | [], _, h => h
  | c :: l, _, h => typ_ok l (inpS_ok h c)
theorem typed_is {x : St} (h : OkS x) (s : ByteArray) (hs : s.size ≤ 4611686018427387904) : Ev (fun k => emulatorlaw43_typed.f k x.1 x.2.1 x.2.2.1 x.2.2.2 s) (typ x (bs s)) := by
  have key : ∀ d i (x : St), OkS x → i + d = s.size → Ev (fun k => emulatorlaw43_typed.l0 k s (i : Int) x.1 x.2.1 x.2.2.1 x.2.2.2) (typ x ((bs s).drop i)) := by
    intro d
    induction d with
    | zero =>
      intro i x h hi
      obtain rfl : i = s.size := by omega
      rw [List.drop_eq_nil_of_le (by rw [bs_length]; omega)]
      exact Ev.step (f := fun _ => some x) (fun k => by rw [emulatorlaw43_typed.l0, if_neg (by omega)]) (Ev.now _)
    | succ d ih =>
      intro i x h hi
      have hib : i < (bs s).length := by rw [bs_length]; omega
      have hb := byte_eq hib
      rw [List.drop_eq_getElem_cons hib]
      have e : (((bs s)[i].toNat : Nat) : Int) % 256 = (((bs s)[i].toNat : Nat) : Int) := by have := UInt8.toNat_lt (bs s)[i]; omega
      have hin := input_is (show Ok x.1 x.2.1 x.2.2.1 x.2.2.2 from h) (bt s (i : Int))
      rw [hb, e] at hin
      refine Ev.step (f := fun k => (tty_Input.f k x.1 x.2.1 x.2.2.1 x.2.2.2 (((bs s)[i].toNat : Nat) : Int)).bind fun b => emulatorlaw43_typed.l0 k s ((i + 1 : Nat) : Int) b.1 b.2.1 b.2.2.1 b.2.2.2) (fun k => ?_) ?_
      · rw [emulatorlaw43_typed.l0, if_pos (by omega), if_pos (by omega), bt64, hb, i64_nat i (by omega)]
      · exact Ev.bind hin (ih (i + 1) (inpS x (bs s)[i]) (inpS_ok h _) (by omega))
  exact key s.size 0 x h (by omega)
theorem bs_one' (c : UInt8) : bs (one ((c.toNat : Nat) : Int)) = [c] := by
  unfold one; rw [bs_nums]
  show [UInt8.ofNat (((c.toNat : Nat) : Int)).toNat] = [c]
  rw [ofNat_toNat]
/-- Shown bytes in line mode. -/
theorem typ_shown : ∀ (L : List UInt8) (t : ByteArray) (l : List ByteArray) (o : ByteArray), (∀ c ∈ L, shw ((c.toNat : Nat) : Int) = true) → t.size + L.length ≤ 79 →
    ∃ u o', typ (false, t, l, o) L = (false, u, l, o') ∧ bs u = bs t ++ L
  | [], t, l, o, _, _ => ⟨t, o, rfl, by rw [List.append_nil]⟩
  | c :: L, t, l, o, h, hs => by
    have e : inpS (false, t, l, o) c = (false, t ++ one ((c.toNat : Nat) : Int), l, ech o (one ((c.toNat : Nat) : Int))) := by
      unfold inpS inp
      dsimp only
      rw [List.length_cons] at hs
      rw [if_neg (by decide), if_pos (h c (by simp)), if_neg (by show ¬ t.size ≥ 79; omega)]
    rw [List.length_cons] at hs
    obtain ⟨u, o', h1, h2⟩ := typ_shown L (t ++ one ((c.toNat : Nat) : Int)) l (ech o (one ((c.toNat : Nat) : Int))) (fun c hc => h c (by simp [hc])) (by rw [ByteArray.size_append, one_size]; omega)
    refine ⟨u, o', ?_, ?_⟩
    · show typ (inpS (false, t, l, o) c) L = _
      rw [e]; exact h1
    · rw [h2, bs_append, bs_one', List.append_assoc]; rfl
/-- Bytes in raw mode. -/
theorem typ_raw : ∀ (L : List UInt8) (l : List ByteArray), l.length + L.length ≤ 16 → typ (true, ByteArray.empty, l, ByteArray.empty) L = (true, ByteArray.empty, l ++ L.map (fun c => one ((c.toNat : Nat) : Int)), ByteArray.empty)
  | [], l, _ => by rw [List.map_nil, List.append_nil]; rfl
  | c :: L, l, h => by
    rw [List.length_cons] at h
    have e : inpS (true, ByteArray.empty, l, ByteArray.empty) c = (true, ByteArray.empty, l ++ [one ((c.toNat : Nat) : Int)], ByteArray.empty) := by
      unfold inpS inp
      dsimp only
      rw [if_pos rfl, if_neg (by show ¬ l.length ≥ 16; omega)]
    have := typ_raw L (l ++ [one ((c.toNat : Nat) : Int)]) (by rw [List.length_append, List.length_singleton]; omega)
    show typ (inpS (true, ByteArray.empty, l, ByteArray.empty) c) L = _
    rw [e, this, List.map_cons, List.append_assoc]; rfl

end Go.Proofs.Ytgcmhfoegbaaiaa.Pure
