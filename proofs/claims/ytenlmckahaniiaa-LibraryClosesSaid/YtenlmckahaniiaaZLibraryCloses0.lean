/- Lemmas for the law LibraryCloses: what its proof needs beyond what it shares. -/
import Derived.Test.YtenlmckahaniiaaZcLib12
import Derived.Test.YtenlmckahaniiaaZcLib18
set_option linter.unusedVariables false
set_option linter.unusedSimpArgs false
set_option linter.unusedSectionVars false
section
section
namespace Go.Proofs.YtenlmckahaniiaaW.PrintWords
open Go.RowKit
namespace Kd
section
variable {α β : Type} {d : Kd α} {d' : Kd β} {e e' : Nat} {w w1 W : World} {base b b' : Nat} {ok ok' okv oku : Nat → Prop} {v u : Value} {xs : List α} {ys : List β}
theorem C_drewN {A : Option Addr} {n : Nat} (h : d.C w A n xs) (m : Nat) : d.C (w.drewN m) A n xs := C_below h (pw_below_drewN (Below.refl _ _) m)
end
end Kd
end Go.Proofs.YtenlmckahaniiaaW.PrintWords
end
section
namespace Go.Proofs.YtenlmckahaniiaaW.PrintWords
open Go.RowKit
namespace Kd
theorem heap_int (k : IntKind) : Heap (Kd.int k) := ⟨fun _ h => h⟩
theorem heap_bool : Heap Kd.bool := ⟨fun _ h => h⟩
theorem heap_string : Heap Kd.string := ⟨fun _ h => h⟩
theorem heap_slice {α : Type} {d : Kd α} (e : Nat) (hd : Heap d) : Heap (slice e d) := ⟨by
  rintro w w1 x cs hb ⟨A, c, rfl, hl, hr⟩
  exact ⟨A, c, rfl, hl, hd.C hb hr⟩⟩
theorem heap_pair {α β : Type} {a : Kd α} {b : Kd β} (ha : Heap a) (hb' : Heap b) : Heap (pair a b) := ⟨by
  rintro w w1 x cs hb ⟨c0, c1, rfl, h0, h1⟩
  exact ⟨c0, c1, rfl, ha.K hb h0, hb'.K hb h1⟩⟩
theorem heap_iso {α β : Type} {d : Kd α} (f : β → α) (hd : Heap d) : Heap (iso d f) := ⟨fun hb h => hd.K hb h⟩
end Kd
end Go.Proofs.YtenlmckahaniiaaW.PrintWords
end
section
namespace Go.Proofs.YtenlmckahaniiaaW.PrintWords
open Go.RowKit
namespace Kd
section
variable {α β : Type} {d : Kd α} {e base n n' cc g N : Nat} {ok ok' okp S : Nat → Prop} {w w0 w1 W W1 : World} {A A' : Option Addr} {u v v1 : Value} {xs : List α} {xs' : List β} {d' : Kd β} {x : α} {c : List Value}
theorem C_F (hd : Heap d) (h : d.C w A n xs) : F d w (fun k => k < w.heap.size) A n xs := fun _ hW => hd.C (fun k hlt => hW k hlt hlt) h
end
end Kd
end Go.Proofs.YtenlmckahaniiaaW.PrintWords
end
section
namespace Go.Proofs.YtenlmckahaniiaaW.PrintWords
open Go.RowKit
namespace Kd
section
variable {α β : Type} {d : Kd α} {e base base' n m c g N' lo hi : Nat} {ok ok' S : Nat → Prop} {w W w1 : World} {A : Option Addr} {ad : Addr} {u v v1 : Value} {xs : List α}
theorem R_newM {M : Nat → Prop} (h : d.R e w1 W.heap.size ok v xs) (hle : w.heap.size ≤ W.heap.size) (hM : ∀ k, w.heap.size ≤ k → M k) : d.R e w1 W.heap.size (fun k => M k ∧ ok k) v xs := R_mono (R_bound h) (fun k hk => ⟨hM k (Nat.le_trans hle hk.2.1), hk.1⟩)
end
end Kd
end Go.Proofs.YtenlmckahaniiaaW.PrintWords
end
end
section
namespace Go.Proofs.YtenlmckahaniiaaW.PrintWords
open Go Go.RowKit Go.Proofs.YtenlmckahaniiaaW.PrintLast
section
variable {P : Program} {md : Region.Mode} {ops : Array Oper} {Q : Exit → Act → World → Prop} {S : World → Prop} {ds : List Nat} {T : Bool × List (List Nat × List Nat)}
theorem pn_ {fuel : Nat} {l : Array Bool} {a a' : Act} {w : World} {oi : Oper} (i : Nat) (N : Option Tmp) (l' : Array Bool) (hi : ops[i]? = some oi) (hN : oi.dst = N) (HT : Aside0 (rtab md ops = T)) (h : wpAnyLast P md ops Q S ds fuel l' a' w)
    (hc : anyT T l.toList l'.toList i = true := by kernel_rfl) (hQ : ∀ c a w, Q (.panic c) (a.put oi.dst undef) w → Q (.panic c) a w := by exact fun _ _ _ h => h)
    (hy : Region.wanted oi (yielded ops a.tmps) = false := by rfl)
    (ha : a.put N undef = a' := by (simp only [Act.put, List.setIfInBounds_toArray, List.set_cons_zero, List.set_cons_succ, i64_w, i32_w]; rfl)) : wpAnyLast P md ops Q S ds (fuel + 1) l a w :=
  pure_ l' hi hN (any_of HT.out hc) hQ (Or.inr ⟨hy, rfl⟩) ha h
end
end Go.Proofs.YtenlmckahaniiaaW.PrintWords
end
section
namespace Go.Proofs.Ytenlmckahaniiaa.K
open Go.RowKit Go.Proofs.YtenlmckahaniiaaW.PrintWords Go.Proofs.YtenlmckahaniiaaW.PrintLast
theorem k62_heap : Kd.Heap k62 := Kd.heap_iso _ (Kd.heap_pair Kd.heap_string (Kd.heap_pair (Kd.heap_int .i64) (Kd.heap_pair (Kd.heap_int .i64) Kd.heap_bool)))
theorem k43_heap : Kd.Heap k43 := Kd.heap_iso _ (Kd.heap_pair (Kd.heap_int .i64) (Kd.heap_pair (Kd.heap_int .i64) (Kd.heap_pair (Kd.heap_int .i64) (Kd.heap_pair Kd.heap_string Kd.heap_bool))))
theorem k25_heap : Kd.Heap k25 := Kd.heap_iso _ (Kd.heap_pair Kd.heap_string (Kd.heap_pair Kd.heap_string (Kd.heap_pair Kd.heap_string (Kd.heap_pair (Kd.heap_int .i64) (Kd.heap_pair (Kd.heap_slice 62 k62_heap) (Kd.heap_slice 43 k43_heap))))))
end Go.Proofs.Ytenlmckahaniiaa.K
end
section
namespace Go.Proofs.Ytenlmckahaniiaa.K
open Go.RowKit Go.Proofs.YtenlmckahaniiaaW.PrintWords Go.Proofs.YtenlmckahaniiaaW.PrintLast
attribute [local go_sem high] eqA43 eqA62
end Go.Proofs.Ytenlmckahaniiaa.K
end
section
namespace Go.Proofs.Ytenlmckahaniiaa.Obj
open Go Go.RowKit Go.Proofs.Ytenlmckahaniiaa.K Go.Proofs.YtenlmckahaniiaaW.PrintWords Go.Proofs.YtenlmckahaniiaaW.PrintMore Go.Proofs.Ytenlmckahaniiaa.MyStr Go.Proofs.Ytenlmckahaniiaa.Oct
def definesB (l : List S62) (name : ByteArray) : Bool := l.any (pSym name)
theorem defines_is (a0 a1 a2 : ByteArray) (a3 : Int) (l : List S62) (l5 : List S43) (name : ByteArray) : zq1m.f a0 a1 a2 a3 l l5 name = some (definesB l name) := rfl
end Go.Proofs.Ytenlmckahaniiaa.Obj
end
section
namespace Go.Proofs.Ytenlmckahaniiaa.Lb
open Go Go.RowKit Go.Proofs.Ytenlmckahaniiaa.K Go.Proofs.YtenlmckahaniiaaW.PrintWords Go.Proofs.YtenlmckahaniiaaW.PrintMore Go.Proofs.Ytenlmckahaniiaa.MyBits Go.Proofs.Ytenlmckahaniiaa.MyStr Go.Proofs.Ytenlmckahaniiaa.Oct Go.Proofs.Ytenlmckahaniiaa.Obj
theorem fold_pos (l hv : List S25) (N : List (List UInt8)) : ∀ (st : Int × List UInt8), 0 ≤ st.1 → 0 ≤ (N.foldl (nstep l hv) st).1 := by
  induction N with
  | nil => intro st h; exact h
  | cons n N ih =>
    intro st h
    rw [List.foldl_cons]
    refine ih _ ?_
    rcases nstep_keep l hv st n with e | ⟨e, _, h4⟩
    · rw [e]; exact h
    · rw [e]; exact h4
theorem fold_none (l hv : List S25) (N : List (List UInt8)) : ∀ (st : Int × List UInt8), ¬ 0 ≤ (N.foldl (nstep l hv) st).1 → ∀ n ∈ N, 0 ≤ fndB hv n ∨ ¬ 0 ≤ fndB l n := by
  induction N with
  | nil => intro st _ n hn; cases hn
  | cons n N ih =>
    intro st h
    rw [List.foldl_cons] at h
    intro n2 hn2
    rcases List.mem_cons.1 hn2 with rfl | hn2
    · by_cases h2 : 0 ≤ fndB hv n2
      · exact Or.inl h2
      · refine Or.inr fun h3 => h (fold_pos l hv N _ ?_)
        unfold nstep
        by_cases h1 : 0 ≤ st.1 ∧ ¬ n2 < st.2
        · rw [if_pos h1]; exact h1.1
        · rw [if_neg h1, if_neg h2, if_pos h3]; exact h3
    · exact ih _ h n2 hn2
theorem nxt_none (l hv : List S25) (h : ¬ 0 ≤ nxt l hv) : ∀ n ∈ hv.flatMap ndM, 0 ≤ fndB hv n ∨ ¬ 0 ≤ fndB l n := fold_none l hv _ _ h
end Go.Proofs.Ytenlmckahaniiaa.Lb
end
