/- The law TtyRaw. -/
import Derived.Test.YtgcmhfoegbaaiaaMyTtyE
import Derived.Test.YtgcmhfoegbaaiaaMyTtyN
import Derived.Test.YtgcmhfoegbaaiaaMyTtyR
import Derived.Test.YtgcmhfoegbaaiaaKx11
import Derived.Test.YtgcmhfoegbaaiaaKx13
set_option linter.unusedVariables false
set_option linter.unusedSimpArgs false
namespace Go.Proofs.Ytgcmhfoegbaaiaa.Pure
open Go Go.RowKit Go.Proofs.Ytgcmhfoegbaaiaa.K Go.Proofs.YtgcmhfoegbaaiaaW.PrintWords Go.Proofs.YtgcmhfoegbaaiaaW.PrintMore Go.Proofs.Ytgcmhfoegbaaiaa.MyBits Go.Proofs.Ytgcmhfoegbaaiaa.MyStr Go.Proofs.Ytgcmhfoegbaaiaa.Tty

/-! raw mode -/
theorem read_raw (c : UInt8) (q : List ByteArray) : rdr true ByteArray.empty (one ((c.toNat : Nat) : Int) :: q) ByteArray.empty 10 = (true, ByteArray.empty, q, ByteArray.empty, (one ((c.toNat : Nat) : Int)).extract 0 1, 0) := by
  unfold rdr
  have := one_size ((c.toNat : Nat) : Int)
  rw [if_neg (by decide)]
  simp only [this]
  rfl
theorem TtyRaw : emulatorlaw43_TtyRaw.Pure := by
  intro s hs0
  refine Ev.rounds ?_
  unfold emulatorlaw43_TtyRaw.f
  by_cases h16 : (s.size : Int) > 16
  · exact Ev.congr (fun k => if_pos h16) alive_end
  refine Ev.congr (fun k => if_neg h16) ?_
  have h0 : Ok false (⟨#[]⟩ : ByteArray) [] (⟨#[]⟩ : ByteArray) := ⟨Nat.zero_le _, Nat.zero_le _, Nat.zero_le _, fun h => rfl, fun j hj => absurd hj (Nat.not_lt_zero _), fun x hx => by cases hx⟩
  have h1 : OkS (true, ByteArray.empty, [], ByteArray.empty) := ⟨Nat.zero_le _, Nat.zero_le _, Nat.zero_le _, fun h => rfl, fun j hj => absurd hj (Nat.not_lt_zero _), fun x hx => by cases hx⟩
  refine Ev.bind (a := (false, (⟨#[]⟩ : ByteArray), [], (⟨#[]⟩ : ByteArray))) (Ev.now _) ?_
  refine Ev.bind (a := ((true, ByteArray.empty, [], ByteArray.empty) : St)) (Ev.congr (fun k => ?_) (Ev.now _)) ?_
  · rw [setraw_is _ _ _ _ _ (Nat.zero_le _)]; unfold sraw; dsimp only; rw [if_pos rfl, if_pos te']; rfl
  have hT := typed_is h1 s (by omega)
  have hbl := bs_length s
  rw [typ_raw (bs s) [] (by rw [List.length_nil]; omega), List.nil_append] at hT
  refine Ev.bind hT ?_
  refine Ev.congr (fun k => (if_pos te).trans (if_pos (by rw [List.length_map]; omega))) ?_
  have key : ∀ d i, i + d = s.size → Ev (fun k => emulatorlaw43_TtyRaw.l0 k s (i : Int) true ByteArray.empty ((bs s).map (fun c => one ((c.toNat : Nat) : Int)) |>.drop i) ByteArray.empty) true := by
    intro d
    induction d with
    | zero =>
      intro i hi
      obtain rfl : i = s.size := by omega
      rw [List.drop_eq_nil_of_le (by rw [List.length_map]; omega)]
      refine Ev.step (f := fun k => (emulatorlaw43_alive.f k).bind fun t374 => (some t374)) (fun k => ?_) alive_end
      rw [emulatorlaw43_TtyRaw.l0, if_neg (by omega), read_is _ _ _ _ _ (Nat.zero_le _) (fun x hx => by cases hx)]
      rfl
    | succ d ih =>
      intro i hi
      have hib : i < (bs s).length := by omega
      refine Ev.step (fun k => ?_) (ih (i + 1) (by omega))
      rw [List.drop_eq_getElem_cons (by rw [List.length_map]; exact hib), List.getElem_map, emulatorlaw43_TtyRaw.l0, if_pos (by omega)]
      rw [read_is _ _ _ _ _ (by rw [List.length_cons, List.length_drop, List.length_map]; omega) ?_, read_raw, Option.bind_some, i64_nat i (by omega)]
      · rw [if_pos rfl, if_pos (by omega), if_pos (by omega), if_pos (by omega), if_pos]
        rw [toList_bs, toList_bs, bs_extract, bs_one', show ((i : Int)).toNat = i by omega, show (((i + 1 : Nat) : Int)).toNat = i + 1 by omega, bs_extract]
        have e1 : ((bs s).take (i + 1)).drop i = [(bs s)[i]] := by
          rw [List.take_succ_eq_append_getElem hib, List.drop_append_of_le_length (by rw [List.length_take]; omega), List.drop_eq_nil_of_le (by rw [List.length_take]; omega)]
          rfl
        rw [e1]; rfl
      · intro x hx
        have hx' : x ∈ (bs s).map (fun c => one ((c.toNat : Nat) : Int)) := by
          rcases List.mem_cons.1 hx with h | h
          · rw [h, List.mem_map]; exact ⟨_, List.getElem_mem hib, rfl⟩
          · exact List.mem_of_mem_drop h
        obtain ⟨c, _, rfl⟩ := List.mem_map.1 hx'
        rw [one_size]; decide
  exact key s.size 0 (by omega)

end Go.Proofs.Ytgcmhfoegbaaiaa.Pure
