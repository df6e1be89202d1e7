/- object: the program's Encode. -/
import Derived.Test.YtenlmckahaniiaaMyObE
import Derived.Test.YtenlmckahaniiaaMyObA
import Derived.Test.YtenlmckahaniiaaKx8
import Derived.Test.YtenlmckahaniiaaKx14
import Derived.Test.YtenlmckahaniiaaKx16
import Derived.Test.YtenlmckahaniiaaKx17
import Derived.Test.YtenlmckahaniiaaKx18
set_option linter.unusedVariables false
set_option linter.unusedSimpArgs false
namespace Go.Proofs.Ytenlmckahaniiaa.Obj
open Go Go.RowKit Go.Proofs.Ytenlmckahaniiaa.K Go.Proofs.YtenlmckahaniiaaW.PrintWords Go.Proofs.YtenlmckahaniiaaW.PrintMore Go.Proofs.Ytenlmckahaniiaa.MyBits Go.Proofs.Ytenlmckahaniiaa.MyStr Go.Proofs.Ytenlmckahaniiaa.Oct

theorem truth_is (b : Bool) : object_truth.f b = some (mkS (bitB b)) := by cases b <;> rfl
theorem put1_is (n : Int) (h : 0 ≤ n) : Ev (fun k => octet_Put.f k n 1) (mkS (le n 1)) := by
  have := put_is n 1
  rwa [mx_id h] at this
theorem put2_is (n : Int) (h : 0 ≤ n) : Ev (fun k => octet_Put.f k n 2) (mkS (le n 2)) := by
  have := put_is n 2
  rwa [mx_id h] at this
theorem body_l0 (l : List S62) (hV : ∀ s ∈ l, SymV s) (hn : l.length ≤ 256) (P : List UInt8) (hP : P.length ≤ 1000000) (d : Nat) : ∀ i : Nat, i + d = l.length →
    Ev (fun k => object_body.l0 k l (mkS (P ++ symsB (l.take i))) (i : Int)) (mkS (P ++ symsB l)) := by
  induction d with
  | zero =>
    intro i hi
    rw [List.take_of_length_le (by omega)]
    exact Ev.step (f := fun _ => some _) (fun k => by rw [object_body.l0, if_neg (by omega)]) (Ev.now _)
  | succ d ih =>
    intro i hi
    have hlt : i < l.length := by omega
    have hs := hV _ (List.getElem_mem hlt)
    have h1 := symsB_length (l.take i)
    have h2 := symB_length l[i]
    rw [List.length_take] at h1
    have hI := ih (i + 1) (by omega)
    rw [symsB_take l i hlt, ← List.append_assoc] at hI
    refine Ev.step (fun k => by rw [object_body.l0, if_pos (by omega), if_pos (by omega), rd62 l i hlt, i64_nat i (by omega)]) ?_
    refine Ev.bind (putText_is _ (by have := hs.len; omega)) (Ev.bind (put1_is _ hs.h1.1) (Ev.bind (put2_is _ hs.h2.1) ?_))
    refine Ev.congr (fun k => by rw [truth_is, Option.bind_some]) ?_
    rw [mkS_append, mkS_append, mkS_append, mkS_append]
    refine Ev.congr (fun k => if_pos ?_) hI
    rw [mkS_size, mkS_size, List.length_append]
    unfold symB at h2
    omega
theorem body_l1 (l : List S43) (hV : ∀ s ∈ l, RelV s) (hn : l.length ≤ 2048) (P : List UInt8) (hP : P.length ≤ 100000000) (d : Nat) : ∀ i : Nat, i + d = l.length →
    Ev (fun k => object_body.l1 k l (mkS (P ++ relsB (l.take i))) (i : Int)) (mkS (P ++ relsB l)) := by
  induction d with
  | zero =>
    intro i hi
    rw [List.take_of_length_le (by omega)]
    exact Ev.step (f := fun _ => some _) (fun k => by rw [object_body.l1, if_neg (by omega)]) (Ev.now _)
  | succ d ih =>
    intro i hi
    have hlt : i < l.length := by omega
    have hs := hV _ (List.getElem_mem hlt)
    have h1 := relsB_length (l.take i)
    have h2 := relB_length l[i]
    have hs0 := hs.h0
    rw [List.length_take] at h1
    have hI := ih (i + 1) (by omega)
    rw [relsB_take l i hlt, ← List.append_assoc] at hI
    refine Ev.step (fun k => by rw [object_body.l1, if_pos (by omega), if_pos (by omega), rd43 l i hlt, i64_nat i (by omega)]) ?_
    refine Ev.bind (put1_is _ (by omega)) (Ev.bind (put2_is _ hs.h1.1) (Ev.bind (put1_is _ hs.h2.1) (Ev.bind (putText_is _ (by have := hs.len; omega)) ?_)))
    refine Ev.congr (fun k => by rw [truth_is, Option.bind_some]) ?_
    rw [mkS_append, mkS_append, mkS_append, mkS_append, mkS_append]
    refine Ev.congr (fun k => if_pos ?_) hI
    rw [mkS_size, mkS_size, List.length_append]
    unfold relB at h2
    omega
theorem body_is {m : Md} (hV : Valid m) : Ev (fun k => object_body.f k m.a0 m.a1 m.a2 m.a3 m.l4 m.l5) (mkS (bodyB m)) := by
  have hh := headB_length m
  have n4 := hV.n4
  have n5 := hV.n5
  have hsl := symsB_length m.l4
  unfold object_body.f
  refine Ev.bind (putText_is _ (by have := (nm_len hV.h0).2; omega)) (Ev.bind (putText_is _ (by have := hV.h1.1; omega)) (Ev.bind (putText_is _ (by have := hV.h2; omega)) (Ev.bind (put2_is _ hV.h3.1) ?_)))
  have e : ((((⟨#[79, 66, 74, 49]⟩ : ByteArray) ++ mkS (putT (bs m.a0))) ++ mkS (putT (bs m.a1))) ++ mkS (putT (bs m.a2))) ++ mkS (le m.a3 2) = mkS (headB m) := by
    rw [show (⟨#[79, 66, 74, 49]⟩ : ByteArray) = mkS [79, 66, 74, 49] from rfl, mkS_append, mkS_append, mkS_append, mkS_append]; rfl
  rw [e]
  refine Ev.congr (fun k => if_pos (by rw [mkS_size]; omega)) ?_
  refine Ev.bind (put2_is _ (by omega)) ?_
  refine Ev.congr (fun k => if_pos (by rw [mkS_size, mkS_size, le_length]; omega)) ?_
  rw [mkS_append]
  have h0 := body_l0 m.l4 hV.h4 n4 (headB m ++ le (m.l4.length : Int) 2) (by rw [List.length_append, le_length]; omega) m.l4.length 0 (by omega)
  rw [List.take_zero, show symsB [] = [] from rfl, List.append_nil] at h0
  refine Ev.bind h0 (Ev.bind (put2_is _ (by omega)) ?_)
  have hl : ((headB m ++ le (m.l4.length : Int) 2) ++ symsB m.l4).length ≤ 50000000 := by rw [List.length_append, List.length_append, le_length]; omega
  refine Ev.congr (fun k => if_pos (by rw [mkS_size, mkS_size, le_length]; show (headB m ++ le (m.l4.length : Int) 2 ++ symsB m.l4).length + 2 ≤ _; omega)) ?_
  rw [mkS_append]
  have h1 := body_l1 m.l5 hV.h5 n5 (headB m ++ le (m.l4.length : Int) 2 ++ symsB m.l4 ++ le (m.l5.length : Int) 2) (by rw [List.length_append, le_length]; omega) m.l5.length 0 (by omega)
  rw [List.take_zero, show relsB [] = [] from rfl, List.append_nil] at h1
  exact h1
theorem check_m {m : Md} (hf : Fine m.a0 m.l4 m.l5) (h4 : m.l4.length ≤ 1000000) (h5 : m.l5.length ≤ 1000000) : Ev (fun k => object_Check.f k m.a0 m.a1 m.a2 m.a3 m.l4 m.l5) m.check := check_is _ _ _ _ _ _ hf h4 h5
theorem encode_is {m : Md} (hf : Fine m.a0 m.l4 m.l5) (h4 : m.l4.length ≤ 1000000) (h5 : m.l5.length ≤ 1000000) : Ev (fun k => object_Encode.f k m.a0 m.a1 m.a2 m.a3 m.l4 m.l5) (mkS (encR m).1, (encR m).2) := by
  unfold object_Encode.f encR
  refine Ev.bind (check_m hf h4 h5) ?_
  by_cases h : m.check = 0
  · have hV := valid_of h
    have hb := bodyB_length hV
    rw [if_pos h]
    refine Ev.congr (fun k => if_pos h) ?_
    refine Ev.bind (body_is hV) ?_
    refine Ev.bind (seal_is _ (by rw [mkS_size]; omega)) ?_
    rw [bs_mkS]
    exact Ev.now _
  · rw [if_neg h]
    exact Ev.congr (fun k => if_neg h) (Ev.now _)

end Go.Proofs.Ytenlmckahaniiaa.Obj
