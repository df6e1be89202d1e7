/- Lemmas for several laws: what their proofs need of this seat's texts, in one place. -/
import Derived.Carry
import Derived.ChangeOld
import Derived.ChangeSame
import Derived.Deep.Slices
import Derived.Lib.SlBytesConst
import Derived.Lib.SliceRun
import Derived.SizedLaws
import Derived.Test.YtgcmhfoegbaaiaaProg
import Derived.Test.YtgcmhfoegbaaiaaZcTw0
set_option linter.unusedVariables false
set_option linter.unusedSimpArgs false
set_option linter.unusedSectionVars false
set_option maxHeartbeats 8000000
set_option maxRecDepth 100000
section
namespace Go.Proofs.YtW.P
open Go Go.RowKit
theorem y18 (l : List UInt8) : l.isEmpty = !(l != []) := by cases l <;> rfl
theorem ite_some {α : Type} {c : Prop} [Decidable c] {x : Option α} {r : α} (h : (if c then x else none) = some r) : c ∧ x = some r := by
  by_cases hc : c
  · rw [if_pos hc] at h; exact ⟨hc, h⟩
  · rw [if_neg hc] at h; cases h
namespace Kd
variable {P : Program} {ops : Array Oper} {rest : List Oper} {o o2 : Oper} {a : Act} {Q : Exit → Act → World → Prop}
theorem F_row {W w1 : World} {g e : Nat} {cs : Array Value} {fr : Nat × Nat} {xs : List Int} (hW : W.heap.size ≤ g) (hg : w1.heap[g]? = some (.cells cs e fr)) (hm : xs.length ≤ 9223372036854775807)
    (hc : ∀ j, j < xs.length → cs[j]? = some (.int .u8 (xs.getD j 0))) : F (Kd.int .u8) w1 (fun k => W.heap.size ≤ k) (some ⟨g, 0, none⟩) xs.length xs := by
  intro W' hW'
  have hlt : g < w1.heap.size := by
    rcases Nat.lt_or_ge g w1.heap.size with h | h
    · exact h
    · simp [Array.getElem?_eq_none h] at hg
  have hg' : W'.heap[g]? = some (.cells cs e fr) := (hW' g hW hlt).trans hg
  refine C_of_reads (d := (0 : Int)) (h1 := fun _ => rfl) ⟨rfl, hm, fun _ => ⟨_, rfl, fun j hj => ?_⟩⟩
  have ha : (⟨g, 0, none⟩ : Addr).add j = ⟨g, j, none⟩ := by unfold Addr.add; split <;> simp_all
  rw [ha]
  show W'.cell? ⟨g, j, none⟩ = _
  unfold World.cell?
  simp only [hg']
  exact hc j hj
theorem V_conv {w0 W : World} (base e : Nat) (hgd : o.guard = none) {N : Tmp} (_hd : o.dst = some N) (src dst : TypeId) (x : Operand) (ho : o.op = .convert src dst x) (s : ByteArray) (hx : a.eval x = .string s)
    {u : TypeDesc} (hs : P.underlying src = some u) (hdst : P.underlying dst = some (.slice e)) (he : P.underlying e = some (.int .u8)) (hm : (s.size : Int) ≤ 9223372036854775807) (HB : Below base w0 W) (hbase : base ≤ W.heap.size)
    (h : ∀ v1 w1, V (Kd.int .u8) e w1 base (fun k => W.heap.size ≤ k) v1 (bytesOf s) → Below base w0 w1 → W.grownBy w1 none → (∃ b, v1.ownBlock = some b ∧ W.heap.size ≤ b) → wpList P ops Q rest (a.put o.dst v1) w1) : wpList P ops Q (o :: rest) a W := by
  have hrun : (execOp a.eval o).run P W = .ok (.value (.slice (some ⟨W.heap.size, 0, none⟩) s.size (grownCap W s.size 0 e))) (Lib.bytesWorld W e s) := by
    have hr := Lib.run_convert_string_bytes W src dst e s hs hdst he
    simp [execOp, ho, hx, hr]
  have hlen : (bytesOf s).length = s.size := y0s s
  refine event_run hgd hrun (h _ _ ⟨_, _, by rw [hlen], by rw [hlen]; exact grownCap_ge W s.size 0 e, ?_⟩ ?_ ?_ ⟨W.heap.size, by simp [Value.ownBlock], Nat.le_refl _⟩)
  · refine F_row (Nat.le_refl _) (Lib.bytesWorld_at_new W e s) (by omega) (fun j hj => ?_)
    rw [hlen] at hj
    have h' : j < s.data.toList.length := by rw [y0w]; exact hj
    simp [Lib.bytesCells, bytesOf, Array.getElem?_append, List.getD_eq_getElem?_getD, hj]
  · exact bytes_below HB hbase e s
  · exact ⟨rfl, rfl, rfl, by rw [Lib.bytesWorld_size]; omega, fun k hk _ => Lib.bytesWorld_at_old W e s k hk⟩
end Kd
end Go.Proofs.YtW.P
end
section
namespace Go.Proofs.YtW.P
open Go Go.RowKit Go.Proofs.YtW.L
def fl (n m : Nat) : Array Bool := ((List.range n).map fun i => m.testBit i).toArray
theorem cl_ {p : Prop} (h : p := by first | rfl | (simp; done) | (simp [y18]; done) | (simp [*]; done)) : p := h
theorem ct_ {p : Prop} (h : p := by first | omega | (rw [← ByteArray.size_append]; first | omega | (rw [← ByteArray.size_append]; first | omega | (rw [← ByteArray.size_append]; first | omega | (rw [← ByteArray.size_append]; first | omega | (rw [← ByteArray.size_append]; first | omega | (rw [← ByteArray.size_append]; omega)))))) | (rw [show (4 : Nat) = (⟨#[79, 66, 74, 49]⟩ : ByteArray).size from rfl]; first | omega | (rw [← ByteArray.size_append]; first | omega | (rw [← ByteArray.size_append]; first | omega | (rw [← ByteArray.size_append]; first | omega | (rw [← ByteArray.size_append]; first | omega | (rw [← ByteArray.size_append]; first | omega | (rw [← ByteArray.size_append]; omega))))))) | (rw [show (4 : Nat) = (⟨#[76, 73, 66, 49]⟩ : ByteArray).size from rfl]; first | omega | (rw [← ByteArray.size_append]; first | omega | (rw [← ByteArray.size_append]; first | omega | (rw [← ByteArray.size_append]; first | omega | (rw [← ByteArray.size_append]; first | omega | (rw [← ByteArray.size_append]; first | omega | (rw [← ByteArray.size_append]; omega)))))))) : p := h
theorem ew_ {p : Prop} (h : p := by first | rfl | (simp [y0z, y10] <;> rfl) | (simp [*, y0z, y10] <;> rfl)) : p := h
theorem oa_ {p : Prop} [Decidable p] (h : decide p = true := by first | (with_reducible assumption) | assumption) : p := of_decide_eq_true h
theorem hb_ {p : Prop} (h : p := by repeat (first | (with_reducible first | exact HB.out | apply y05 | apply y1i | apply y07 | refine below_set ?_ (Aside0.out (by assumption))) | exact HB.out)) : p := h
theorem bk_ {p q : Prop} (h : q) (g : q → p := by intro h_; (with_reducible repeat (first | refine y0e ?_ _ | refine y0d ?_ | refine y0a ?_ _)); exact h_) : p := g h
theorem rk_ {p q : Prop} (h : q) (g : q → p := by intro h_; (with_reducible repeat (first | apply Kd.R_alloc | apply Kd.R_drewN | apply Kd.R_drew)); exact h_) : p := g h
section
variable {P : Program} {md : Region.Mode} {ops : Array Oper} {Q : Exit → Act → World → Prop} {S : World → Prop} {ds : List Nat} {T : Bool × List (List Nat × List Nat)}
theorem pu_ {fuel : Nat} {l : Array Bool} {a a' : Act} {w : World} {oi : Oper} {v : Value} (i : Nat) (N : Option Tmp) (l' : Array Bool) (hi : ops[i]? = some oi) (hN : oi.dst = N) (HT : Aside0 (rtab md ops = T)) (h : wpAnyLast P md ops Q S ds fuel l' a' w)
    (hc : anyT T l.toList l'.toList i = true := by kernel_rfl) (hQ : ∀ c a w, Q (.panic c) (a.put oi.dst v) w → Q (.panic c) a w := by exact fun _ _ _ h => h)
    (hy : Region.wanted oi (yielded ops a.tmps) = true ∧ ∀ w, (execOp a.eval oi).run P w = .ok (.value v) w := by (refine ⟨by rfl, ?_⟩; intro w'; go_simp; first | with_reducible rfl | (refine (if_neg ?_).trans ?_; exact ct_; with_reducible rfl)))
    (ha : a.put N v = a' := by (simp only [Act.put, List.setIfInBounds_toArray, List.set_cons_zero, List.set_cons_succ, y17, y15]; rfl)) : wpAnyLast P md ops Q S ds (fuel + 1) l a w :=
  pure_ l' hi hN (any_of HT.out hc) hQ (Or.inl hy) ha h
theorem ta_ {fuel : Nat} {l : Array Bool} {a a' : Act} {w : World} {oi : Oper} {v : Value} {B : List Nat} (i : Nat) (N : Option Tmp) (l' : Array Bool) (hi : ops[i]? = some oi) (hN : oi.dst = N) (HT : Aside0 (rtab md ops = T)) (HW : Aside0 (waitsOk T.2 B = true)) (hS : S w) (h : wpAnyLast P md ops Q S ds fuel l' a' w)
    (hc : takeW T B ds l.toList l'.toList i = true := by kernel_rfl) (hQ : ∀ c a w, Q (.panic c) (a.put oi.dst v) w → Q (.panic c) a w := by exact fun _ _ _ h => h)
    (hy : Region.wanted oi (yielded ops a.tmps) = true ∧ ∀ w, S w → (execOp a.eval oi).run P w = .ok (.value v) w := by (refine ⟨by rfl, ?_⟩; intro w' hS_; (try dsimp only at hS_); (repeat (obtain ⟨s_, hS_⟩ := hS_)); go_simp; with_reducible rfl))
    (ha : a.put N v = a' := by (simp only [Act.put, List.setIfInBounds_toArray, List.set_cons_zero, List.set_cons_succ, y17, y15]; rfl)) : wpAnyLast P md ops Q S ds (fuel + 1) l a w :=
  take_ l' hi hN (take_ofW HT.out HW.out hc) hQ (Or.inl hy) hS ha h
theorem no_ {fuel : Nat} {l : Array Bool} {a a' : Act} {w : World} {N : Option Tmp} {v : Value} (h : wpAnyLast P md ops Q S ds fuel l a' w)
    (ha : a.put N v = a' := by (simp only [Act.put, List.setIfInBounds_toArray, List.set_cons_zero, List.set_cons_succ, y17, y15]; rfl)) : wpAnyLast P md ops Q S ds fuel l (a.put N v) w := norm_ ha h
end
theorem dt_ {p : Prop} [Decidable p] (h : p) : decide p = true := decide_eq_true h
theorem df_ {p : Prop} [Decidable p] (h : ¬p) : decide p = false := decide_eq_false h
theorem et_ {α : Type} [BEq α] [LawfulBEq α] {a b : α} (h : a = b) : (a == b) = true := beq_iff_eq.mpr h
theorem ef_ {α : Type} [BEq α] [LawfulBEq α] {a b : α} (h : ¬a = b) : (a == b) = false := beq_eq_false_iff_ne.mpr h
theorem nt_ {α : Type} [BEq α] [LawfulBEq α] {a b : α} (h : ¬a = b) : (a != b) = true := bne_iff_ne.mpr h
theorem nf_ {α : Type} [BEq α] [LawfulBEq α] {a b : α} (h : a = b) : (a != b) = false := bne_eq_false_iff_eq.mpr h
theorem bq_ {α β : Type} {o : Option α} {f : α → Option β} {r : β} (h : o.bind f = some r) : ∃ a, Aside0 (o = some a) ∧ f a = some r := (Option.bind_eq_some_iff.mp h).elim fun a h => ⟨a, ⟨h.1⟩, h.2⟩
theorem nn_ {α : Type} {r : α} {p : Prop} (h : Aside0 ((none : Option α) = some r)) : p := absurd h.out (by simp)
theorem nil_ {p : Prop} (h : p := by first | exact Kd.R_nil _ _ _ _ _ | exact Kd.N_nil _ _ _ _ _ | exact Kd.V_nil _ _ _ _ _ | exact Kd.Q_nil _ _ _ _ _ | exact Kd.S_nil _ _ _ _ _) : p := h
theorem oz_ {p : Prop} (h : p := by first | omega | exact Nat.le_refl _) : p := h
theorem hk_ {p : Prop} (h : p := by repeat (first | (with_reducible first | exact HK.out | apply KeepBut.set_ | apply keep_drewN | apply keep_drew | apply keep_alloc | refine keep_far ?_ (Aside0.out (by assumption)) _) | exact HK.out)) : p := h
theorem gw_ (w : World) {g m : Nat} (hg : g = m) (h : w.heap.size ≤ m) : Aside0 (w.heap.size ≤ g) := ⟨by rw [hg]; exact h⟩
theorem nl_ {w : World} {a g : Nat} {o : Obj} (hg : g = w.heap.size) (h : w.heap[a]? = some o) : Aside0 (a ≠ g) := ⟨by rw [hg]; exact Nat.ne_of_lt (y0i h)⟩
theorem ng_ {w : World} {a g : Nat} {o : Obj} (hg : g = w.heap.size) (h : w.heap[a]? = some o) : Aside0 (g ≠ a) := ⟨by rw [hg]; exact Nat.ne_of_gt (y0i h)⟩
theorem se_ {l l' : List Value} {i : Nat} {u : Value} (h : l.set i u = l') : l.toArray.setIfInBounds i u = l'.toArray := by rw [List.setIfInBounds_toArray, h]
theorem bfa_ {w : World} {g b i : Nat} {z : Option Nat} {t : TypeId} {cs : Array Value} {u : Value} (h : w.heap[g]? = some (.cells cs t (0, 0))) (hfar_ : Aside0 (g ≠ b)) : (w.setCell ⟨b, i, z⟩ u).heap[g]? = some (.cells cs t (0, 0)) := y0f h hfar_.out u
theorem bs_ {p q : Prop} (h : q) (g : q → p := by intro h_; repeat (first | (with_reducible exact h_) | (with_reducible apply y0e) | (with_reducible apply y0d) | (with_reducible apply y0a) | (with_reducible apply y0j) | (with_reducible apply bfa_) | (with_reducible assumption) | (with_reducible apply se_; simp only [List.set_cons_zero, List.set_cons_succ] <;> rfl) | exact h_)) : p := g h
theorem rm_ {α : Type} {d : Kd α} {e : Nat} {w W : World} {base : Nat} {ok ok' : Nat → Prop} {v : Value} {xs : List α} (h : d.R e w base ok v xs) (hok : ∀ k, ok k → ok' k) (g : d.R e w base ok v xs → d.R e W base ok v xs := by intro h_; (with_reducible repeat (first | apply Kd.R_alloc | apply Kd.R_drewN | apply Kd.R_drew)); exact h_) : d.R e W base ok' v xs := Kd.R_mono (g h) hok
theorem vm_ {α : Type} {d : Kd α} {e : Nat} {w W : World} {base : Nat} {ok ok' : Nat → Prop} {v : Value} {xs : List α} (h : d.V e w base ok v xs) (hok : ∀ k, ok k → ok' k) (g : d.V e w base ok v xs → d.V e W base ok v xs := by intro h_; (with_reducible repeat (first | apply Kd.V_alloc | apply Kd.V_drewN | apply Kd.V_drew)); exact h_) : d.V e W base ok' v xs := Kd.V_mono (g h) hok
theorem qm_ {α : Type} {d : Kd α} {e : Nat} {w W : World} {base : Nat} {ok ok' : Nat → Prop} {v : Value} {xs : List α} (h : d.Q e w base ok v xs) (hok : ∀ k, ok k → ok' k) (g : d.Q e w base ok v xs → d.Q e W base ok v xs := by intro h_; (with_reducible repeat (first | apply Kd.Q_alloc | apply Kd.Q_drewN | apply Kd.Q_drew)); exact h_) : d.Q e W base ok' v xs := Kd.Q_mono (g h) hok
section
variable {P : Program} {md : Region.Mode} {ops : Array Oper} {Q : Exit → Act → World → Prop} {S : World → Prop} {ds : List Nat} {T : Bool × List (List Nat × List Nat)}
theorem gd_ {o : Oper} {rest : List Oper} {a : Act} {W : World} (N : Tmp) (h : wpList P ops Q (o :: rest) a W) (_hN : o.dst = some N := by with_reducible rfl) : wpList P ops Q (o :: rest) a W := h
theorem gc_ {o : Oper} {rest : List Oper} {a : Act} {W : World} (f : FuncId) {az : Array Operand} {ts : Array TypeId} (h : wpList P ops Q (o :: rest) a W) (_ho : o.op = .call { callee := .value (.func f), args := az, argTypes := ts } := by with_reducible exact rfl) : wpList P ops Q (o :: rest) a W := h
theorem gl_ {rest : List Oper} {oi : Oper} {a : Act} {w : World} (N : Option Tmp) {f : FuncId} {fn : Func} {az : Array Operand} {ts : Array TypeId} (hf : P.funcs[f]? = some fn) (args : Array Value)
    (h : Calls P f args w fun e w' => ∃ v, e = .returned v ∧ wpList P ops Q rest (a.put N v) w') (hd : oi.dst = N := by exact rfl) (hg : oi.guard = none := by exact rfl) (hop : oi.op = .call { callee := .value (.func f), args := az, argTypes := ts } := by exact rfl) (hname : (fn.name == "runtime.NumGoroutine") = false := by kernel_rfl) (hb : fn.body.isSome = true := by exact rfl)
    (hargs : az.map a.eval = args := by (try simp only [List.map_toArray, List.map_cons, List.map_nil]); first | done | rfl | (simp only [List.length_drop, List.length_take]; rfl)) : wpList P ops Q (oi :: rest) a w := goesL_ N hd hg hf hname hb args hop hargs h
theorem gs_ {oi : Oper} {N : Option Tmp} {a : Act} {w : World} {K : Act → World → Prop} {f : FuncId} {fn : Func} {az : Array Operand} {ts : Array TypeId} (hf : P.funcs[f]? = some fn) (args : Array Value)
    (h : Calls P f args w fun e w' => ∃ v, e = .returned v ∧ K (a.put N v) w') (hw : Region.wanted oi (yielded ops a.tmps) = true := by rfl) (hN : oi.dst = N := by exact rfl) (hop : oi.op = .call { callee := .value (.func f), args := az, argTypes := ts } := by exact rfl) (hname : (fn.name == "runtime.NumGoroutine") = false := by kernel_rfl) (hb : fn.body.isSome = true := by exact rfl)
    (hargs : az.map a.eval = args := by (try simp only [List.map_toArray, List.map_cons, List.map_nil]); first | done | rfl | (simp only [List.length_drop, List.length_take]; rfl)) : if Region.wanted oi (yielded ops a.tmps) = true then Oper.wp P oi a w K Q else K (a.put N undef) w := goes_ hf hname hb args hw hN hop hargs h
theorem bx_ {o : Oper} {rest : List Oper} {a : Act} {W : World} (N : Tmp) {cs : Array Value} (t : TypeId)
    (h : ∀ g, g = W.heap.size → ∀ w1, w1.heap[g]? = some (.cells cs t (0, 0)) → Below W.heap.size W w1 → wpList P ops Q rest (a.put o.dst (.pointer (some ⟨g, 0, none⟩))) w1) (hd : o.dst = some N := by rfl) (hgd : o.guard = none := by rfl)
    (hrun : (execOp a.eval o).run P W = .ok (.value (.pointer (some ⟨W.heap.size, 0, none⟩))) (W.alloc (.cells cs t (0, 0))) := by first | (go_simp; done) | (go_simp; rfl)) : wpList P ops Q (o :: rest) a W := box_event hgd hd hrun h
theorem pv_ {fuel : Nat} {l : Array Bool} {a a' : Act} {w : World} {oi : Oper} {v : Value} (i : Nat) (N : Option Tmp) (l' : Array Bool) (h : wpAnyLast P md ops Q S ds fuel l' a' w) (hi : ops[i]? = some oi := by exact rfl) (hN : oi.dst = N := by exact rfl) (HT : Aside0 (rtab md ops = T) := by exact HT_)
    (hc : anyT T l.toList l'.toList i = true := by kernel_rfl) (hQ : ∀ c a w, Q (.panic c) (a.put oi.dst v) w → Q (.panic c) a w := by exact fun _ _ _ h => h)
    (hy : Region.wanted oi (yielded ops a.tmps) = true ∧ ∀ w, (execOp a.eval oi).run P w = .ok (.value v) w := by (refine ⟨by rfl, ?_⟩; intro w'; go_simp; first | with_reducible rfl | (refine (if_neg ?_).trans ?_; exact ct_; with_reducible rfl)))
    (ha : a.put N v = a' := by (simp only [Act.put, List.setIfInBounds_toArray, List.set_cons_zero, List.set_cons_succ, y17, y15]; rfl)) : wpAnyLast P md ops Q S ds (fuel + 1) l a w := pu_ i N l' hi hN HT h hc hQ hy ha
theorem tv_ {fuel : Nat} {l : Array Bool} {a a' : Act} {w : World} {oi : Oper} {v : Value} {B : List Nat} (i : Nat) (N : Option Tmp) (l' : Array Bool) (h : wpAnyLast P md ops Q S ds fuel l' a' w) (hi : ops[i]? = some oi := by exact rfl) (hN : oi.dst = N := by exact rfl) (HT : Aside0 (rtab md ops = T) := by exact HT_) (HW : Aside0 (waitsOk T.2 B = true) := by exact HW_) (hS : S w := by exact hHeld)
    (hc : takeW T B ds l.toList l'.toList i = true := by kernel_rfl) (hQ : ∀ c a w, Q (.panic c) (a.put oi.dst v) w → Q (.panic c) a w := by exact fun _ _ _ h => h)
    (hy : Region.wanted oi (yielded ops a.tmps) = true ∧ ∀ w, S w → (execOp a.eval oi).run P w = .ok (.value v) w := by (refine ⟨by rfl, ?_⟩; intro w' hS_; (try dsimp only at hS_); (repeat (obtain ⟨s_, hS_⟩ := hS_)); go_simp; with_reducible rfl))
    (ha : a.put N v = a' := by (simp only [Act.put, List.setIfInBounds_toArray, List.set_cons_zero, List.set_cons_succ, y17, y15]; rfl)) : wpAnyLast P md ops Q S ds (fuel + 1) l a w := ta_ i N l' hi hN HT HW hS h hc hQ hy ha
end
end Go.Proofs.YtW.P
end
section
namespace Go.Proofs.Ytgcmhfoegbaaiaa.K
open Go.RowKit Go.Proofs.YtW.P Go.Proofs.YtW.L
def errW : Option Int → Value
  | none => .nilIface
  | some c => .iface 0 (.int .i64 c)
theorem y0z : errW none = .nilIface := rfl
theorem y10 (c : Int) : errW (some c) = .iface 0 (.int .i64 c) := rfl
theorem info9 : (Try.prog.info? 9).map (fun i => (i.zero, i.size, i.bytes)) = some (some (.string ⟨#[]⟩), 1, 16) := by kernel_rfl
end Go.Proofs.Ytgcmhfoegbaaiaa.K
end
section
namespace Go.Proofs.YtW.P
open Go Go.RowKit Go.ChangeShapes Go.WideShapes Go.Deep
def WfI (k : IntKind) (n : Int) : Prop := (Lit.int k n).wf = true
def WfB (_ : Bool) : Prop := True
def WfS (s : ByteArray) : Prop := s.size ≤ 9223372036854775807
def WfL {α : Type} (p : α → Prop) (l : List α) : Prop := l.length ≤ 9223372036854775807 ∧ ∀ x ∈ l, p x
def WfP {α β : Type} (p : α → Prop) (q : β → Prop) (x : α × β) : Prop := p x.1 ∧ q x.2
structure Opens {α : Type} (P : Program) (t : TypeId) (d : Kd α) (wf : α → Prop) : Prop where
  sz : d.sz = P.cellsOf t
  op : ∀ {H : Type} {enc : TypeId × Value → H} {w : World} {base : Nat} {spare : Nat → Bool} {held : Bool} {fuel : Nat} {cs : List Value} {x : DataW H × List MemPlace}, DataW.trod enc P w base spare held fuel t cs = some x → ∃ y, d.K w y cs ∧ wf y
structure OpensF {α : Type} (P : Program) (fs : List Field) (off : Nat) (d : Kd α) (wf : α → Prop) : Prop where
  op : ∀ {H : Type} {enc : TypeId × Value → H} {w : World} {base : Nat} {spare : Nat → Bool} {held : Bool} {cs : List Value}, cs.length = off + d.sz →
    (∀ f ∈ fs, ∃ n x, DataW.trod enc P w base spare held n f.type ((cs.drop f.offset).take (P.cellsOf f.type)) = some x) → ∃ y, d.K w y (cs.drop off) ∧ wf y
section
variable {P : Program} {t e : TypeId}
theorem Opens.int {k : IntKind} (ht : P.underlying t = some (.int k)) (hc : P.cellsOf t = 1) : Opens P t (Kd.int k) (WfI k) :=
  ⟨hc.symm, fun h => by obtain ⟨n, rfl, _, hw⟩ := DataW.trod_int ht h; exact ⟨n, rfl, hw⟩⟩
theorem Opens.bool (ht : P.underlying t = some .bool) (hc : P.cellsOf t = 1) : Opens P t Kd.bool WfB :=
  ⟨hc.symm, fun h => by obtain ⟨n, rfl, _⟩ := DataW.trod_bool ht h; exact ⟨n, rfl, trivial⟩⟩
theorem Opens.string (ht : P.underlying t = some .string) (hc : P.cellsOf t = 1) : Opens P t Kd.string WfS :=
  ⟨hc.symm, fun h => by obtain ⟨n, rfl, _, hw⟩ := DataW.trod_string ht h; exact ⟨n, rfl, hw⟩⟩
theorem Opens.slice {α : Type} {d : Kd α} {wf : α → Prop} (ht : P.underlying t = some (.slice e)) (hc : P.cellsOf t = 1) (he : Opens P e d wf) : Opens P t (Kd.slice e d) (WfL wf) :=
  ⟨hc.symm, fun {H enc w base spare held fuel cs x} h => by
    rcases open_slice ht h with ⟨rfl, _⟩ | ⟨a, len, cap, m, n, D, Pl, rfl, _, hl, hm, hmm, _, hi⟩
    · exact ⟨[], ⟨none, 0, rfl, Nat.le_refl _, rfl, by simp, fun h0 => absurd h0 (by simp)⟩, by simp, fun x hx => by simp at hx⟩
    · have hle : len ≤ m := by rw [hmm]; split <;> omega
      have hel : ∀ i, i < len → ∃ y, (∃ c, c.length = d.sz ∧ d.K w y c ∧ ∀ j u, c[j]? = some u → w.cell? (a.add (i * d.sz + j)) = some u) ∧ wf y := by
        intro i hil
        obtain ⟨cs', hcs, htr⟩ := hi i (by omega)
        obtain ⟨y, hk, hw⟩ := he.op htr
        obtain ⟨_, hlen, hat⟩ := World.cells?_some hcs
        refine ⟨y, ⟨cs', hlen.trans he.sz.symm, hk, fun j u hu => ?_⟩, hw⟩
        have hj : j < cs'.length := (List.getElem?_eq_some_iff.1 hu).1
        have := hat j (by omega)
        rw [he.sz, ← add_add, this, hu]
      have key : ∀ m, m ≤ len → ∃ ys : List α, ys.length = m ∧ (∀ j p, ys[j]? = some p → ∃ c, c.length = d.sz ∧ d.K w p c ∧ ∀ i u, c[i]? = some u → w.cell? (a.add (j * d.sz + i)) = some u) ∧ ∀ y ∈ ys, wf y := by
        intro m
        induction m with
        | zero => exact fun _ => ⟨[], rfl, fun j p hj => by simp at hj, fun y hy => by simp at hy⟩
        | succ m ih =>
          intro hm'
          obtain ⟨ys, h1, h2, h3⟩ := ih (by omega)
          obtain ⟨y, hy, hw⟩ := hel m (by omega)
          refine ⟨ys ++ [y], by simp [h1], fun j p hj => ?_, fun z hz => ?_⟩
          · by_cases hjm : j < m
            · rw [List.getElem?_append_left (by omega)] at hj; exact h2 j p hj
            · have hjl : j < (ys ++ [y]).length := (List.getElem?_eq_some_iff.1 hj).1
              have : j = m := by simp [h1] at hjl; omega
              subst this
              rw [List.getElem?_append_right (by omega)] at hj
              simp [h1] at hj
              subst hj; exact hy
          · rcases List.mem_append.1 hz with hz | hz
            · exact h3 z hz
            · rw [List.mem_singleton.1 hz]; exact hw
      obtain ⟨ys, h1, h2, h3⟩ := key len (Nat.le_refl _)
      have hmx : len ≤ 9223372036854775807 := by unfold maxLen at hm; omega
      subst h1
      exact ⟨ys, ⟨some a, cap, rfl, hl, rfl, hmx, fun _ => ⟨a, rfl, h2⟩⟩, hmx, h3⟩⟩
theorem OpensF.last {α : Type} {d : Kd α} {wf : α → Prop} {f : Field} {off : Nat} (h : Opens P f.type d wf) (ho : f.offset = off) : OpensF P [f] off d wf :=
  ⟨fun {H enc w base spare held cs} hl hf => by
    obtain ⟨n, x, hx⟩ := hf f (by simp)
    obtain ⟨y, hk, hw⟩ := h.op hx
    have hc : (cs.drop f.offset).take (P.cellsOf f.type) = cs.drop off := by
      rw [ho, ← h.sz]
      exact List.take_of_length_le (by rw [List.length_drop]; omega)
    rw [hc] at hk
    exact ⟨y, hk, hw⟩⟩
theorem OpensF.cons {α β : Type} {d : Kd α} {wf : α → Prop} {b : Kd β} {wb : β → Prop} {f : Field} {fs : List Field} {off off' : Nat} (h : Opens P f.type d wf) (ho : f.offset = off) (ho' : off + P.cellsOf f.type = off') (hs : OpensF P fs off' b wb) :
    OpensF P (f :: fs) off (Kd.pair d b) (WfP wf wb) :=
  ⟨fun {H enc w base spare held cs} hl hf => by
    obtain ⟨n, x, hx⟩ := hf f (by simp)
    obtain ⟨y, hk, hw⟩ := h.op hx
    have hl' : cs.length = off + (d.sz + b.sz) := hl
    obtain ⟨z, hz, hwz⟩ := hs.op (enc := enc) (w := w) (base := base) (spare := spare) (held := held) (cs := cs) (by rw [← ho', ← h.sz]; omega) (fun g hg => hf g (by simp [hg]))
    rw [ho] at hk
    refine ⟨(y, z), ⟨_, _, ?_, hk, hz⟩, hw, hwz⟩
    rw [← ho', ← List.drop_drop, List.take_append_drop]⟩
theorem Opens.struct {α : Type} {d : Kd α} {wf : α → Prop} {fs : Array Field} (ht : P.underlying t = some (.struct fs)) (hc : P.cellsOf t = d.sz) (h : OpensF P fs.toList 0 d wf) : Opens P t d wf :=
  ⟨hc.symm, fun {H enc w base spare held fuel cs x} hx => by
    obtain ⟨xs, n, _, _, hl, hlen, hg⟩ := DataW.trod_struct ht hx
    obtain ⟨y, hk, hw⟩ := h.op (enc := enc) (w := w) (base := base) (spare := spare) (held := held) (cs := cs) (by rw [hl, hc]; omega) (fun f hf => by
      obtain ⟨i, hi, rfl⟩ := List.getElem_of_mem hf
      have h1 := hg i (fs.toList[i]) (by simp at hi; simp [hi])
      rw [List.getElem?_eq_getElem (by rw [hlen]; simpa using hi)] at h1
      exact ⟨_, _, h1⟩)
    rw [List.drop_zero] at hk
    exact ⟨y, hk, hw⟩⟩
end
end Go.Proofs.YtW.P
end
section
namespace Go.Proofs.Ytgcmhfoegbaaiaa.K
open Go.RowKit Go.Proofs.YtW.P Go.Proofs.YtW.L
mutual
def zqd.j0 : Nat → Bool → Bool → ByteArray → List ByteArray → ByteArray → Option (Bool)
  | 0, _, _, _, _, _ => none
  | k + 1, x19, x102000, x102001, x102002, x102003 => if x19 = true then (some false) else (zqd.l0 k 0 x102000 x102001 x102002 x102003)
def zqd.l0 : Nat → Int → Bool → ByteArray → List ByteArray → ByteArray → Option (Bool)
  | 0, _, _, _, _, _ => none
  | k + 1, x3, x102000, x102001, x102002, x102003 => if x3 < (x102002.length : Int) then (if 0 ≤ x3 then (if ((rdOf ByteArray.empty x102002 x3).size : Int) > 100 then (some false) else (zqd.l0 k (wrap64 (x3 + 1)) x102000 x102001 x102002 x102003)) else (none)) else (some true)
end
def zqd.f (k : Nat) (a0_0 : Bool) (a0_1 : ByteArray) (l0_2 : List ByteArray) (a0_3 : ByteArray) : Option (Bool) := if (l0_2.length : Int) > 20 then (zqd.j0 k true a0_0 a0_1 l0_2 a0_3) else (if (a0_1.size : Int) > 300 then (zqd.j0 k true a0_0 a0_1 l0_2 a0_3) else (zqd.j0 k (decide ((a0_3.size : Int) > 300)) a0_0 a0_1 l0_2 a0_3))
theorem zqd.mono_l : ∀ k, (∀ y0 y1 y2 y3 y4, LeO (zqd.j0 k y0 y1 y2 y3 y4) (zqd.j0 (k + 1) y0 y1 y2 y3 y4)) ∧ (∀ y0 y1 y2 y3 y4, LeO (zqd.l0 k y0 y1 y2 y3 y4) (zqd.l0 (k + 1) y0 y1 y2 y3 y4))
 | 0 => ⟨fun _ _ _ _ _ r h => by simp [zqd.j0] at h, fun _ _ _ _ _ r h => by simp [zqd.l0] at h⟩
 | k + 1 => by
  obtain ⟨ih0, ih1⟩ := zqd.mono_l k
  refine ⟨?_, ?_⟩
  ·intro y0 y1 y2 y3 y4
   unfold zqd.j0
   with_reducible repeat' first | apply ih0 | apply ih1 | exact LeO.refl _ | exact LeO.none _ | refine LeO.ite ?_ ?_ | refine LeO.bind ?_ (fun _ => ?_)
  ·intro y0 y1 y2 y3 y4
   unfold zqd.l0
   with_reducible repeat' first | apply ih0 | apply ih1 | exact LeO.refl _ | exact LeO.none _ | refine LeO.ite ?_ ?_ | refine LeO.bind ?_ (fun _ => ?_)
theorem zqd.mono : ∀ a0 a1 a2 a3 k, LeO (zqd.f k a0 a1 a2 a3) (zqd.f (k + 1) a0 a1 a2 a3) := by
 intro a0 a1 a2 a3 k
 obtain ⟨ih0, ih1⟩ := zqd.mono_l k
 unfold zqd.f
 with_reducible repeat' first | apply ih0 | apply ih1 | exact LeO.refl _ | exact LeO.none _ | refine LeO.ite ?_ ?_ | refine LeO.bind ?_ (fun _ => ?_)
theorem zqd.calls (k : Nat) (aG : Bool) (aD : ByteArray) (aK : Option Addr) (aL : Nat) (aA : List ByteArray) (aF : ByteArray) (r : Bool) (w : World) (aQ : Kd.C Kd.string w aK aA.length aA) (aP : aA.length ≤ aL) (h : zqd.f k aG aD aA aF = some r) :
  Calls Try.prog 18 #[.agg #[.bool aG, .string aD, .slice aK aA.length aL, .string aF]] w fun e w' => e = .returned (.bool r) ∧ Below w.heap.size w w' := by
 have cL := Try.underlying24
 have aN := q_ aQ
 have cH := q_ aP
 clear aQ aP
 have HB := q_ (Below.refl w.heap.size w)
 have H : (if (aA.length : Int) > 20 then (zqd.j0 k true aG aD aA aF) else (if (aD.size : Int) > 300 then (zqd.j0 k true aG aD aA aF) else (zqd.j0 k (decide ((aF.size : Int) > 300)) aG aD aA aF))) = some r := h
 clear h
 have bN := q_ H
 clear H
 go_enter Try.func18, Try.ntmps18
 go_upto_region 1 with (first | (refine gd_ 1 ?_; (try (refine y12 (by rfl) ?_; dsimp only)); refine bx_ 1 (cs := #[.bool aG, .string aD, .slice aK aA.length aL, .string aF]) 24 ?_; intro aO hg w3 hbox hb; have aB := q_ (hbox); have cG := gw_ w hg (y08 hb_); have cF := gw_ w hg (y08 hb_); replace HB := q_ (y09 hb_ hb); clear hb hbox hg))
 (try simp only [Act.put, List.setIfInBounds_toArray, List.set_cons_zero, List.set_cons_succ])
 go_cut [19] (fun cM wc => ∃ (kq : Nat) (aJ : Bool), cM = .bool aJ ∧ Aside0 (zqd.j0 kq aJ aG aD aA aF = some r) ∧ Aside0 (kq ≤ k) ∧ Aside0 (wc.heap[aO]? = some (.cells #[.bool aG, .string aD, (.slice aK aA.length aL), .string aF] 24 (0, 0))) ∧ Aside0 (Below w.heap.size w wc))
 case first =>
  have H := bN.out
  clear bN
  by_cases c4 : (aA.length : Int) > 20
  ·rw [if_pos c4] at H
   have aM := dt_ c4
   have bO : decide (20 < aA.length) = true := decide_eq_true (by omega)
   clear c4
   (first | rw [aM] | (simp only [y17, y15]; rw [aM]) | skip)
   have H' := q_ H
   clear H
   obtain ⟨bR, b3, bS, b4, bT, b5, bU, b6⟩ := b4_ aB.out
   go_wp2
   go_meet
   case rel => exact ⟨_, (true), cl_, H', ⟨oz_⟩, ⟨bk_ aB.out⟩, ⟨hb_⟩⟩
  rw [if_neg c4] at H
  have aM := df_ c4
  have bO : decide (20 < aA.length) = false := decide_eq_false (by omega)
  clear c4
  (first | rw [aM] | (simp only [y17, y15]; rw [aM]) | skip)
  by_cases c6 : (aD.size : Int) > 300
  ·rw [if_pos c6] at H
   have bP := dt_ c6
   have bQ : decide (300 < aD.size) = true := decide_eq_true (by omega)
   clear c6
   have H' := q_ H
   clear H
   obtain ⟨bV, b7, bW, b8, bX, b9, bY, cA⟩ := b4_ aB.out
   go_wp2
   go_meet
   case rel => exact ⟨_, (true), cl_, H', ⟨oz_⟩, ⟨bk_ aB.out⟩, ⟨hb_⟩⟩
  rw [if_neg c6] at H
  have bP := df_ c6
  have bQ : decide (300 < aD.size) = false := decide_eq_false (by omega)
  clear c6
  have H' := q_ H
  clear H
  obtain ⟨bZ, cB, b0, cC, b1, cD, b2, cE⟩ := b4_ aB.out
  go_wp2
  go_meet
  case rel => exact ⟨_, (decide ((aF.size : Int) > 300)), cl_, H', ⟨oz_⟩, ⟨bk_ aB.out⟩, ⟨hb_⟩⟩
 clear bN
 obtain ⟨kq, aJ, rfl, HA, cI, aB, HB⟩ := hcut
 obtain _ | kj1 := kq
 ·exact nn_ HA
 have H := HA.out
 clear HA
 simp only [zqd.j0] at H
 by_cases c9 : aJ = true
 ·subst c9
  rw [if_pos rfl] at H
  obtain rfl := Option.some.inj H
  go_wp2
  go_ret
  exact ⟨ew_, hb_⟩
 replace c9 := Bool.eq_false_iff.mpr c9
 subst c9
 rw [if_neg (show ¬ (false = true) by decide)] at H
 have H' := q_ H
 clear H
 go_wp2
 go_loopg [3] kj1 (fun kq v3 w' => ∃ (aC : Int), v3 = .int .i64 aC ∧ Aside0 (zqd.l0 kq aC aG aD aA aF = some r) ∧ Aside0 (kq ≤ kj1) ∧ Aside0 (w'.heap[aO]? = some (.cells #[.bool aG, .string aD, (.slice aK aA.length aL), .string aF] 24 (0, 0))) ∧ Aside0 (Below w.heap.size w w'))
 case atStart => exact ⟨(0), cl_, H', ⟨Nat.le_refl _⟩, ⟨bk_ aB.out⟩, ⟨hb_⟩⟩
 case round =>
  clear H'
  obtain ⟨aC, rfl, HA, cJ, aB, HB⟩ := hrel
  obtain _ | k2 := gk
  ·exact nn_ HA
  have H := HA.out
  clear HA
  simp only [zqd.l0] at H
  by_cases aS : aC < (aA.length : Int)
  rotate_left
  ·rw [if_neg aS] at H
   have aV := df_ aS
   clear aS
   obtain rfl := Option.some.inj H
   obtain ⟨a7, bJ, a8, bK, a9, bL, bA, bM⟩ := b4_ aB.out
   go_wp2
   go_ret
   exact ⟨ew_, hb_⟩
  rw [if_pos aS] at H
  have aV := dt_ aS
  clear aS
  by_cases aY : 0 ≤ aC
  rotate_left
  ·rw [if_neg aY] at H
   exact absurd H (by simp)
  rw [if_pos aY] at H
  have cK := dt_ aY
  clear aY
  by_cases aT : ((rdOf ByteArray.empty aA aC).size : Int) > 100
  ·rw [if_pos aT] at H
   have aW := dt_ aT
   have aX : decide (100 < (rdOf ByteArray.empty aA aC).size) = true := decide_eq_true (by omega)
   clear aT
   obtain rfl := Option.some.inj H
   obtain ⟨aZ, bB, a0, bC, a1, bD, a2, bE⟩ := b4_ aB.out
   have aH : 0 ≤ (aC : Int) := oa_
   have aI : aC < (aA.length : Int) := oa_
   obtain ⟨aU, aR, aE⟩ := Kd.at_string aN.out aC aH aI
   cases aR
   replace aE := cb_ HB.out aE
   replace aH := eq_true aH
   replace aI := eq_true aI
   go_wp2
   go_ret
   exact ⟨ew_, hb_⟩
  rw [if_neg aT] at H
  have aW := df_ aT
  have aX : decide (100 < (rdOf ByteArray.empty aA aC).size) = false := decide_eq_false (by omega)
  clear aT
  have H' := q_ H
  clear H
  obtain ⟨a3, bF, a4, bG, a5, bH, a6, bI⟩ := b4_ aB.out
  have aH : 0 ≤ (aC : Int) := oa_
  have aI : aC < (aA.length : Int) := oa_
  obtain ⟨aU, aR, aE⟩ := Kd.at_string aN.out aC aH aI
  cases aR
  replace aE := cb_ HB.out aE
  replace aH := eq_true aH
  replace aI := eq_true aI
  go_wp2
  go_roundg k2
  case measure => have := cI.out; have := cJ.out; omega
  case rel => exact ⟨(wrap64 (aC + 1)), cl_, H', ⟨by have := cI.out; have := cJ.out; omega⟩, ⟨bk_ aB.out⟩, ⟨hb_⟩⟩
end Go.Proofs.Ytgcmhfoegbaaiaa.K
end
section
namespace Go.Proofs.Ytgcmhfoegbaaiaa.K
open Go.RowKit Go.Proofs.YtW.P Go.Proofs.YtW.L
def zqb.f (a0 : Int) : Option (Bool) := if a0 ≥ 32 then (if a0 ≤ 126 then (some true) else (some (a0 == 9))) else (some (a0 == 9))
theorem zqb.calls (a0 : Int) (r : Bool) (w : World) (h : zqb.f a0 = some r) :
  Calls Try.prog 34 #[.int .i64 a0] w fun e w' => e = .returned (.bool r) ∧ Drawn0 w w' := by
 have H : (if a0 ≥ 32 then (if a0 ≤ 126 then (some true) else (some (a0 == 9))) else (some (a0 == 9))) = some r := h
 clear h
 by_cases c2 : a0 ≥ 32
 rotate_left
 ·rw [if_neg c2] at H
  have aA := df_ c2
  clear c2
  obtain rfl := Option.some.inj H
  go_enter Try.func34, Try.ntmps34
  go_wp2
  go_ret
  exact ⟨by first | rfl | (simp; done) | (simp [y18]; done) | (simp [*]; done), by repeat (first | exact Drawn0.refl _ | apply Drawn0.step)⟩
 rw [if_pos c2] at H
 have aA := dt_ c2
 clear c2
 by_cases c3 : a0 ≤ 126
 ·rw [if_pos c3] at H
  have aB := dt_ c3
  clear c3
  obtain rfl := Option.some.inj H
  go_enter Try.func34, Try.ntmps34
  go_wp2
  go_ret
  exact ⟨by first | rfl | (simp; done) | (simp [y18]; done) | (simp [*]; done), by repeat (first | exact Drawn0.refl _ | apply Drawn0.step)⟩
 rw [if_neg c3] at H
 have aB := df_ c3
 clear c3
 obtain rfl := Option.some.inj H
 go_enter Try.func34, Try.ntmps34
 go_wp2
 go_ret
 exact ⟨by first | rfl | (simp; done) | (simp [y18]; done) | (simp [*]; done), by repeat (first | exact Drawn0.refl _ | apply Drawn0.step)⟩
def zqg.l0 : Nat → ByteArray → Int → Option (Bool)
  | 0, _, _ => none
  | k + 1, x0, x3 => if x3 < (x0.size : Int) then (if 0 ≤ x3 then ((zqb.f (wrap64 (bt x0 x3))).bind fun t103 => (if t103 = true then (zqg.l0 k x0 (wrap64 (x3 + 1))) else (if (bt x0 x3) = 10 then (if (x3 = (wrap64 ((x0.size : Int) - 1))) then (zqg.l0 k x0 (wrap64 (x3 + 1))) else (some false)) else (some false)))) else (none)) else (if (x0.size : Int) < 80 then (some true) else (if 0 ≤ (wrap64 ((x0.size : Int) - 1)) then (if (wrap64 ((x0.size : Int) - 1)) < (x0.size : Int) then (some ((bt x0 (wrap64 ((x0.size : Int) - 1))) == 10)) else (none)) else (none)))
def zqg.f (k : Nat) (a0 : ByteArray) : Option (Bool) := if (a0.size : Int) > 80 then (some false) else (zqg.l0 k a0 0)
theorem zqg.mono_l : ∀ k, (∀ y0 y1, LeO (zqg.l0 k y0 y1) (zqg.l0 (k + 1) y0 y1))
 | 0 => fun _ _ r h => by simp [zqg.l0] at h
 | k + 1 => by
  have ih0 := zqg.mono_l k
  ·intro y0 y1
   unfold zqg.l0
   with_reducible repeat' first | apply ih0 | exact LeO.refl _ | exact LeO.none _ | refine LeO.ite ?_ ?_ | refine LeO.bind ?_ (fun _ => ?_)
theorem zqg.mono : ∀ a0 k, LeO (zqg.f k a0) (zqg.f (k + 1) a0) := by
 intro a0 k
 have ih0 := zqg.mono_l k
 unfold zqg.f
 with_reducible repeat' first | apply ih0 | exact LeO.refl _ | exact LeO.none _ | refine LeO.ite ?_ ?_ | refine LeO.bind ?_ (fun _ => ?_)
theorem zqg.calls (k : Nat) (a0 : ByteArray) (r : Bool) (w : World) (h : zqg.f k a0 = some r) :
  Calls Try.prog 35 #[.string a0] w fun e w' => e = .returned (.bool r) ∧ Drawn0 w w' := by
 have H : (if (a0.size : Int) > 80 then (some false) else (zqg.l0 k a0 0)) = some r := h
 clear h
 by_cases c2 : (a0.size : Int) > 80
 ·rw [if_pos c2] at H
  have aL := dt_ c2
  have aM : decide (80 < a0.size) = true := decide_eq_true (by omega)
  clear c2
  obtain rfl := Option.some.inj H
  go_enter Try.func35, Try.ntmps35
  go_wp2
  go_ret
  exact ⟨by first | rfl | (simp; done) | (simp [y18]; done) | (simp [*]; done), by repeat (first | exact Drawn0.refl _ | apply Drawn0.step)⟩
 rw [if_neg c2] at H
 have aL := df_ c2
 have aM : decide (80 < a0.size) = false := decide_eq_false (by omega)
 clear c2
 have H' := q_ H
 clear H
 go_enter Try.func35, Try.ntmps35
 go_wp2
 go_loopg [3] k (fun kq v3 w' => ∃ (aA : Int), v3 = .int .i64 aA ∧ Aside0 (zqg.l0 kq a0 aA = some r) ∧ Aside0 (kq ≤ k) ∧ Drawn0 w w')
 case atStart => exact ⟨(0), cl_, H', ⟨Nat.le_refl _⟩, by repeat (first | exact Drawn0.refl _ | apply Drawn0.step)⟩
 case round =>
  clear H'
  obtain ⟨aA, rfl, HA, HK1, ⟨m1, rfl⟩⟩ := hrel
  obtain _ | k1 := gk
  ·exact nn_ HA
  have H := HA.out
  clear HA
  simp only [zqg.l0] at H
  by_cases c3 : aA < (a0.size : Int)
  rotate_left
  ·rw [if_neg c3] at H
   have aN := df_ c3
   clear c3
   by_cases aE : (a0.size : Int) < 80
   ·rw [if_pos aE] at H
    have aH := dt_ aE
    have aI : decide (a0.size < 80) = true := decide_eq_true (by omega)
    clear aE
    obtain rfl := Option.some.inj H
    go_wp2
    go_ret
    exact ⟨by first | rfl | (simp; done) | (simp [y18]; done) | (simp [*]; done), by repeat (first | exact Drawn0.refl _ | apply Drawn0.step)⟩
   rw [if_neg aE] at H
   have aH := df_ aE
   have aI : decide (a0.size < 80) = false := decide_eq_false (by omega)
   clear aE
   obtain ⟨aB, aC⟩ : ∃ j_ : Int, (wrap64 ((a0.size : Int) - 1)) = j_ := ⟨_, rfl⟩
   replace H : (if 0 ≤ (aB) then (if (aB) < (a0.size : Int) then (some ((bt a0 (aB)) == 10)) else (none)) else (none)) = some r := by first | (rw [aC] at H; exact H) | (simp only [aC] at H ⊢; exact H)
   have aQ : (IntKind.i64.wrap ((a0.size : Int) - 1)) = aB := (y17 _).trans aC
   by_cases aJ : 0 ≤ (aB)
   rotate_left
   ·rw [if_neg aJ] at H
    exact absurd H (by simp)
   rw [if_pos aJ] at H
   have aT := dt_ aJ
   clear aJ
   by_cases aK : (aB) < (a0.size : Int)
   rotate_left
   ·rw [if_neg aK] at H
    exact absurd H (by simp)
   rw [if_pos aK] at H
   have aU := dt_ aK
   clear aK
   obtain rfl := Option.some.inj H
   have aW : 0 ≤ ((aB) : Int) := oa_
   have aX : (aB) < (a0.size : Int) := oa_
   have aZ := y0q a0 (aB)
   replace aW := eq_true aW
   replace aX := eq_true aX
   go_wp2
   go_ret
   exact ⟨by first | rfl | (simp; done) | (simp only [← aC] <;> (first | rfl | simp)) | (simp [y18]; done) | (simp [*]; done), by repeat (first | exact Drawn0.refl _ | apply Drawn0.step)⟩
  rw [if_pos c3] at H
  have aN := dt_ c3
  clear c3
  by_cases c4 : 0 ≤ aA
  rotate_left
  ·rw [if_neg c4] at H
   exact absurd H (by simp)
  rw [if_pos c4] at H
  have aY := dt_ c4
  clear c4
  obtain ⟨aS, A6, H⟩ := bq_ H
  (try dsimp only at H)
  by_cases c7 : aS = true
  ·subst c7
   rw [if_pos rfl] at H
   have H' := q_ H
   clear H
   have p5 : 0 ≤ (aA : Int) := oa_
   have q5 : aA < (a0.size : Int) := oa_
   have aR := y0q a0 aA
   replace p5 := eq_true p5
   replace q5 := eq_true q5
   go_wp2_with (first | (refine gc_ 34 ?_; refine gl_ (some 17) Try.func34 #[.int .i64 (wrap64 (bt a0 aA))] ?_; (with_reducible refine (zqb.calls (wrap64 (bt a0 aA)) true _ A6.out).mono ?_); rintro e w' ⟨rfl, ⟨nd, rfl⟩⟩; refine ⟨_, rfl, ?_⟩))
   go_roundg k1
   case measure => have := HK1.out; omega
   case rel => exact ⟨(wrap64 (aA + 1)), cl_, H', ⟨by have := HK1.out; omega⟩, by repeat (first | exact Drawn0.refl _ | apply Drawn0.step)⟩
  replace c7 := Bool.eq_false_iff.mpr c7
  subst c7
  rw [if_neg (show ¬ (false = true) by decide)] at H
  by_cases c9 : (bt a0 aA) = 10
  rotate_left
  ·rw [if_neg c9] at H
   have aO := ef_ c9
   have aP := nt_ c9
   obtain rfl := Option.some.inj H
   have p5 : 0 ≤ (aA : Int) := oa_
   have q5 : aA < (a0.size : Int) := oa_
   have aR := y0q a0 aA
   replace p5 := eq_true p5
   replace q5 := eq_true q5
   go_wp2_with (first | (refine gc_ 34 ?_; refine gl_ (some 17) Try.func34 #[.int .i64 (wrap64 (bt a0 aA))] ?_; (with_reducible refine (zqb.calls (wrap64 (bt a0 aA)) false _ A6.out).mono ?_); rintro e w' ⟨rfl, ⟨nd, rfl⟩⟩; refine ⟨_, rfl, ?_⟩; have p8 : 0 ≤ (aA : Int) := oa_; have q8 : aA < (a0.size : Int) := oa_; have aV := y0q a0 aA; replace p8 := eq_true p8; replace q8 := eq_true q8))
   go_ret
   exact ⟨by first | rfl | (simp; done) | (simp [y18]; done) | (simp [*]; done), by repeat (first | exact Drawn0.refl _ | apply Drawn0.step)⟩
  rw [if_pos c9] at H
  have aO := et_ c9
  have aP := nf_ c9
  clear c9
  by_cases aD : (aA = (wrap64 ((a0.size : Int) - 1)))
  rotate_left
  ·rw [if_neg aD] at H
   have aF := ef_ aD
   have aG := nt_ aD
   obtain rfl := Option.some.inj H
   have p5 : 0 ≤ (aA : Int) := oa_
   have q5 : aA < (a0.size : Int) := oa_
   have aR := y0q a0 aA
   replace p5 := eq_true p5
   replace q5 := eq_true q5
   go_wp2_with (first | (refine gc_ 34 ?_; refine gl_ (some 17) Try.func34 #[.int .i64 (wrap64 (bt a0 aA))] ?_; (with_reducible refine (zqb.calls (wrap64 (bt a0 aA)) false _ A6.out).mono ?_); rintro e w' ⟨rfl, ⟨nd, rfl⟩⟩; refine ⟨_, rfl, ?_⟩; have p8 : 0 ≤ (aA : Int) := oa_; have q8 : aA < (a0.size : Int) := oa_; have aV := y0q a0 aA; replace p8 := eq_true p8; replace q8 := eq_true q8))
   go_ret
   exact ⟨by first | rfl | (simp; done) | (simp [y18]; done) | (simp [*]; done), by repeat (first | exact Drawn0.refl _ | apply Drawn0.step)⟩
  rw [if_pos aD] at H
  have aF := et_ aD
  have aG := nf_ aD
  clear aD
  have H' := q_ H
  clear H
  have p5 : 0 ≤ (aA : Int) := oa_
  have q5 : aA < (a0.size : Int) := oa_
  have aR := y0q a0 aA
  replace p5 := eq_true p5
  replace q5 := eq_true q5
  go_wp2_with (first | (refine gc_ 34 ?_; refine gl_ (some 17) Try.func34 #[.int .i64 (wrap64 (bt a0 aA))] ?_; (with_reducible refine (zqb.calls (wrap64 (bt a0 aA)) false _ A6.out).mono ?_); rintro e w' ⟨rfl, ⟨nd, rfl⟩⟩; refine ⟨_, rfl, ?_⟩; have p8 : 0 ≤ (aA : Int) := oa_; have q8 : aA < (a0.size : Int) := oa_; have aV := y0q a0 aA; replace p8 := eq_true p8; replace q8 := eq_true q8))
  go_roundg k1
  case measure => have := HK1.out; omega
  case rel => exact ⟨(wrap64 (aA + 1)), cl_, H', ⟨by have := HK1.out; omega⟩, by repeat (first | exact Drawn0.refl _ | apply Drawn0.step)⟩
end Go.Proofs.Ytgcmhfoegbaaiaa.K
end
