/- The law ObjectEncodes, and the reference's Encode. -/
import Derived.Test.YtenlmckahaniiaaMyObL0
import Derived.Test.YtenlmckahaniiaaMyObFe
import Derived.Test.YtenlmckahaniiaaKlObjectEncodes
import Derived.Test.YtenlmckahaniiaaMyObR
import Derived.Test.YtenlmckahaniiaaKx13
import Derived.Test.YtenlmckahaniiaaKx34
import Derived.Test.YtenlmckahaniiaaKx36
import Derived.Test.YtenlmckahaniiaaKx37
import Derived.Test.YtenlmckahaniiaaKx38
import Derived.Test.YtenlmckahaniiaaKx39
set_option linter.unusedVariables false
set_option linter.unusedSimpArgs false
namespace Go.Proofs.Ytenlmckahaniiaa.Obj
open Go Go.RowKit Go.Proofs.Ytenlmckahaniiaa.K Go.Proofs.YtenlmckahaniiaaW.PrintWords Go.Proofs.YtenlmckahaniiaaW.PrintMore Go.Proofs.Ytenlmckahaniiaa.MyBits Go.Proofs.Ytenlmckahaniiaa.MyStr Go.Proofs.Ytenlmckahaniiaa.Oct

theorem rput1_is (n : Int) (h : 0 ≤ n) (h1 : n ≤ 9223372036854775807) : Ev (fun k => emulatorref03_Put.f k n 1) (mkS (le n 1)) := by
  have := rput_is n 1 h1
  rwa [mx_id h] at this
theorem rput2_is (n : Int) (h : 0 ≤ n) (h1 : n ≤ 9223372036854775807) : Ev (fun k => emulatorref03_Put.f k n 2) (mkS (le n 2)) := by
  have := rput_is n 2 h1
  rwa [mx_id h] at this
theorem rbit_is (b : Bool) : Ev (fun k => emulatorref28_bit.f k b) (mkS (bitB b)) := by
  unfold emulatorref28_bit.f
  cases b with
  | true => exact Ev.congr (fun k => if_pos rfl) (Ev.bind (rput1_is 1 (by decide) (by decide)) (Ev.now _))
  | false => exact Ev.congr (fun k => if_neg (by decide)) (Ev.bind (rput1_is 0 (by decide) (by decide)) (Ev.now _))
theorem rsyms_l0 (l : List S62) (hV : ∀ s ∈ l, SymV s) (hn : l.length ≤ 256) (P : List UInt8) (hP : P.length ≤ 1000000) (d : Nat) : ∀ i : Nat, i + d = l.length →
    Ev (fun k => emulatorref28_PutSymbols.l0 k l (mkS (P ++ symsB (l.take i))) (i : Int)) (mkS (P ++ symsB l)) := by
  induction d with
  | zero =>
    intro i hi
    rw [List.take_of_length_le (by omega)]
    exact Ev.step (f := fun _ => some _) (fun k => by rw [emulatorref28_PutSymbols.l0, if_neg (by omega)]) (Ev.now _)
  | succ d ih =>
    intro i hi
    have hlt : i < l.length := by omega
    have hs := hV _ (List.getElem_mem hlt)
    have h1 := symsB_length (l.take i)
    have h2 := symB_length l[i]
    have h3 := putT_length (bs l[i].f0)
    have v1 := hs.h1
    have v2 := hs.h2
    rw [List.length_take] at h1
    have hI := ih (i + 1) (by omega)
    rw [symsB_take l i hlt, ← List.append_assoc] at hI
    refine Ev.step (fun k => by rw [emulatorref28_PutSymbols.l0, if_pos (by omega), if_pos (by omega), rd62 l i hlt, i64_nat i (by omega)]) ?_
    refine Ev.bind (rputText_is _ (by have := hs.len; omega)) (Ev.bind (rput1_is _ hs.h1.1 (by omega)) ?_)
    refine Ev.congr (fun k => if_pos (by rw [mkS_size, mkS_size, le_length]; omega)) ?_
    refine Ev.bind (rput2_is _ hs.h2.1 (by omega)) ?_
    rw [mkS_append]
    refine Ev.congr (fun k => if_pos (by rw [mkS_size, mkS_size, List.length_append, le_length, le_length]; omega)) ?_
    refine Ev.bind (rbit_is _) ?_
    rw [mkS_append, mkS_append, mkS_append]
    refine Ev.congr (fun k => if_pos (by rw [mkS_size, mkS_size, List.length_append, List.length_append, le_length, le_length, show (bitB l[i].f3).length = 1 from rfl]; omega)) ?_
    refine Ev.congr (fun k => if_pos ?_) hI
    rw [mkS_size, mkS_size, List.length_append]
    unfold symB at h2
    omega
theorem rrels_l0 (m : Md) (hV : ∀ s ∈ m.l5, RelV s) (hn : m.l5.length ≤ 2048) (P : List UInt8) (hP : P.length ≤ 100000000) (d : Nat) : ∀ i : Nat, i + d = m.l5.length →
    Ev (fun k => emulatorref28_Encode.l0 k (mkS (P ++ relsB (m.l5.take i))) (i : Int) m.a0 m.a1 m.a2 m.a3 m.l4 m.l5) (mkS (seal_ (P ++ relsB m.l5)), 0) := by
  have hL := relsB_length m.l5
  induction d with
  | zero =>
    intro i hi
    rw [List.take_of_length_le (by omega)]
    refine Ev.step (fun k => by rw [emulatorref28_Encode.l0, if_neg (by omega)]) ?_
    refine Ev.bind (rseal_is _ (by rw [mkS_size, List.length_append]; omega)) ?_
    rw [bs_mkS]
    exact Ev.now _
  | succ d ih =>
    intro i hi
    have hlt : i < m.l5.length := by omega
    have hs := hV _ (List.getElem_mem hlt)
    have h1 := relsB_length (m.l5.take i)
    have h2 := relB_length m.l5[i]
    have h3 := putT_length (bs m.l5[i].f3)
    have hs0 := hs.h0
    have hs1 := hs.h1
    have hs2 := hs.h2
    rw [List.length_take] at h1
    have hI := ih (i + 1) (by omega)
    rw [relsB_take m.l5 i hlt, ← List.append_assoc] at hI
    refine Ev.step (fun k => by rw [emulatorref28_Encode.l0, if_pos (by omega), if_pos (by omega), rd43 m.l5 i hlt, i64_nat i (by omega)]) ?_
    refine Ev.bind (rput1_is _ (by omega) (by omega)) (Ev.bind (rput2_is _ hs.h1.1 (by omega)) ?_)
    refine Ev.congr (fun k => if_pos (by rw [mkS_size, mkS_size, le_length, le_length]; omega)) ?_
    refine Ev.bind (rput1_is _ hs.h2.1 (by omega)) ?_
    rw [mkS_append]
    refine Ev.congr (fun k => if_pos (by rw [mkS_size, mkS_size, List.length_append, le_length, le_length, le_length]; omega)) ?_
    refine Ev.bind (rputText_is _ (by have := hs.len; omega)) ?_
    rw [mkS_append]
    refine Ev.congr (fun k => if_pos (by rw [mkS_size, mkS_size, List.length_append, List.length_append, le_length, le_length, le_length]; omega)) ?_
    refine Ev.bind (rbit_is _) ?_
    rw [mkS_append, mkS_append, mkS_append]
    refine Ev.congr (fun k => if_pos (by rw [mkS_size, mkS_size, List.length_append, List.length_append, List.length_append, le_length, le_length, le_length, show (bitB m.l5[i].f4).length = 1 from rfl]; omega)) ?_
    refine Ev.congr (fun k => if_pos ?_) hI
    rw [mkS_size, mkS_size, List.length_append]
    unfold relB at h2
    omega
theorem rcheck_m {m : Md} (hf : Fine m.a0 m.l4 m.l5) (h4 : m.l4.length ≤ 1000000) (h5 : m.l5.length ≤ 1000000) : Ev (fun k => emulatorref28_Check.f k m.a0 m.a1 m.a2 m.a3 m.l4 m.l5) m.check := rcheck_is _ _ _ _ _ _ hf h4 h5
theorem rencode_is {m : Md} (hf : Fine m.a0 m.l4 m.l5) (h4 : m.l4.length ≤ 1000000) (h5 : m.l5.length ≤ 1000000) : Ev (fun k => emulatorref28_Encode.f k m.a0 m.a1 m.a2 m.a3 m.l4 m.l5) (mkS (encR m).1, (encR m).2) := by
  unfold emulatorref28_Encode.f encR
  refine Ev.bind (rcheck_m hf h4 h5) ?_
  by_cases h : m.check = 0
  · have hV := valid_of h
    have hh := headB_length m
    have n4 := hV.n4
    have n5 := hV.n5
    have hsl := symsB_length m.l4
    have l0 := putT_length (bs m.a0)
    have l1 := putT_length (bs m.a1)
    have l2 := putT_length (bs m.a2)
    have v3 := hV.h3
    rw [if_pos h]
    refine Ev.congr (fun k => if_pos h) ?_
    have hO : (⟨#[79, 66, 74, 49]⟩ : ByteArray) = mkS [79, 66, 74, 49] := rfl
    have hO4 : (([79, 66, 74, 49] : List UInt8)).length = 4 := rfl
    refine Ev.bind (rputText_is _ (by have := (nm_len hV.h0).2; omega)) ?_
    refine Ev.congr (fun k => if_pos (by rw [mkS_size]; omega)) ?_
    refine Ev.bind (rputText_is _ (by have := hV.h1.1; omega)) ?_
    rw [hO, mkS_append]
    refine Ev.congr (fun k => if_pos (by rw [mkS_size, mkS_size, List.length_append, hO4]; omega)) ?_
    refine Ev.bind (rputText_is _ (by have := hV.h2; omega)) ?_
    rw [mkS_append]
    refine Ev.congr (fun k => if_pos (by rw [mkS_size, mkS_size, List.length_append, List.length_append, hO4]; omega)) ?_
    refine Ev.bind (rput2_is _ v3.1 (by omega)) ?_
    rw [mkS_append]
    refine Ev.congr (fun k => if_pos (by rw [mkS_size, mkS_size, List.length_append, List.length_append, List.length_append, hO4, le_length]; omega)) ?_
    have hs0 : Ev (fun k => emulatorref28_PutSymbols.f k m.l4) (mkS (le (m.l4.length : Int) 2 ++ symsB m.l4)) := by
      unfold emulatorref28_PutSymbols.f
      refine Ev.bind (rput2_is _ (by omega) (by omega)) ?_
      have h0 := rsyms_l0 m.l4 hV.h4 n4 (le (m.l4.length : Int) 2) (by rw [le_length]; omega) m.l4.length 0 (by omega)
      rw [List.take_zero, show symsB [] = [] from rfl, List.append_nil] at h0
      exact h0
    refine Ev.bind hs0 ?_
    rw [mkS_append]
    have e1 : [79, 66, 74, 49] ++ putT (bs m.a0) ++ putT (bs m.a1) ++ putT (bs m.a2) ++ le m.a3 2 = headB m := rfl
    rw [e1]
    refine Ev.congr (fun k => if_pos (by rw [mkS_size, mkS_size, List.length_append, le_length]; omega)) ?_
    refine Ev.bind (rput2_is _ (by omega) (by omega)) ?_
    rw [mkS_append, mkS_append, ← List.append_assoc]
    refine Ev.congr (fun k => if_pos (by rw [mkS_size, mkS_size, List.length_append, List.length_append, le_length, le_length]; omega)) ?_
    have h1 := rrels_l0 m hV.h5 n5 (headB m ++ le (m.l4.length : Int) 2 ++ symsB m.l4 ++ le (m.l5.length : Int) 2) (by rw [List.length_append, List.length_append, List.length_append, le_length, le_length]; omega) m.l5.length 0 (by omega)
    rw [List.take_zero, show relsB [] = [] from rfl, List.append_nil] at h1
    exact h1
  · rw [if_neg h]
    exact Ev.congr (fun k => if_neg h) (Ev.now _)

end Go.Proofs.Ytenlmckahaniiaa.Obj
namespace Go.Proofs.Ytenlmckahaniiaa.Pure
open Go Go.RowKit Go.Proofs.Ytenlmckahaniiaa.K Go.Proofs.YtenlmckahaniiaaW.PrintWords Go.Proofs.YtenlmckahaniiaaW.PrintMore Go.Proofs.Ytenlmckahaniiaa.MyStr Go.Proofs.Ytenlmckahaniiaa.Oct Go.Proofs.Ytenlmckahaniiaa.Obj

theorem ObjectEncodes : emulatorlaw28_ObjectEncodes.Pure := by
  intro a0 a1 a2 a3 l4 l5 _ _ _ _ _ _
  refine Ev.rounds ?_
  unfold emulatorlaw28_ObjectEncodes.f
  obtain ⟨b, hb, hs⟩ := small_is a0 a1 a2 a3 l4 l5
  refine Ev.bind hb ?_
  refine Ev.ite (fun h => ?_) (fun h => alive_end)
  have hS := hs h
  refine Ev.bind (encode_is (m := ⟨a0, a1, a2, a3, l4, l5⟩) hS.fine (by show l4.length ≤ _; have := hS.h4; omega) (by show l5.length ≤ _; have := hS.h5; omega)) ?_
  refine Ev.bind (rencode_is (m := ⟨a0, a1, a2, a3, l4, l5⟩) hS.fine (by show l4.length ≤ _; have := hS.h4; omega) (by show l5.length ≤ _; have := hS.h5; omega)) ?_
  refine Ev.congr (fun k => by rw [if_pos rfl, if_pos rfl]) alive_end
end Go.Proofs.Ytenlmckahaniiaa.Pure
