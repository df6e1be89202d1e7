/- Lemmas for the law LibraryOrder: what its proof needs beyond what it shares. -/
import Derived.Test.YtenlmckahaniiaaZcLib12
import Derived.Test.YtenlmckahaniiaaZcLib18
set_option linter.unusedVariables false
set_option linter.unusedSimpArgs false
set_option linter.unusedSectionVars false
set_option maxHeartbeats 8000000
set_option maxRecDepth 100000
section
section
namespace Go.Proofs.YtenlmckahaniiaaW.PrintWords
open Go.RowKit
namespace Kd
theorem heap_int (k : IntKind) : Heap (Kd.int k) := ⟨fun _ h => h⟩
theorem heap_bool : Heap Kd.bool := ⟨fun _ h => h⟩
theorem heap_string : Heap Kd.string := ⟨fun _ h => h⟩
theorem heap_slice {α : Type} {d : Kd α} (e : Nat) (hd : Heap d) : Heap (slice e d) := ⟨by
  rintro w w1 x cs hb ⟨A, c, rfl, hl, hr⟩
  exact ⟨A, c, rfl, hl, hd.C hb hr⟩⟩
theorem heap_pair {α β : Type} {a : Kd α} {b : Kd β} (ha : Heap a) (hb' : Heap b) : Heap (pair a b) := ⟨by
  rintro w w1 x cs hb ⟨c0, c1, rfl, h0, h1⟩
  exact ⟨c0, c1, rfl, ha.K hb h0, hb'.K hb h1⟩⟩
theorem heap_iso {α β : Type} {d : Kd α} (f : β → α) (hd : Heap d) : Heap (iso d f) := ⟨fun hb h => hd.K hb h⟩
end Kd
end Go.Proofs.YtenlmckahaniiaaW.PrintWords
end
section
namespace Go.Proofs.YtenlmckahaniiaaW.PrintWords
open Go.RowKit
namespace Kd
section
variable {α β : Type} {d : Kd α} {e base n n' cc g N : Nat} {ok ok' okp S : Nat → Prop} {w w0 w1 W W1 : World} {A A' : Option Addr} {u v v1 : Value} {xs : List α} {xs' : List β} {d' : Kd β} {x : α} {c : List Value}
theorem C_F (hd : Heap d) (h : d.C w A n xs) : F d w (fun k => k < w.heap.size) A n xs := fun _ hW => hd.C (fun k hlt => hW k hlt hlt) h
end
end Kd
end Go.Proofs.YtenlmckahaniiaaW.PrintWords
end
section
namespace Go.Proofs.YtenlmckahaniiaaW.PrintWords
open Go.RowKit
namespace Kd
section
variable {α β : Type} {d : Kd α} {e base base' n m c g N' lo hi : Nat} {ok ok' S : Nat → Prop} {w W w1 : World} {A : Option Addr} {ad : Addr} {u v v1 : Value} {xs : List α}
theorem R_newM {M : Nat → Prop} (h : d.R e w1 W.heap.size ok v xs) (hle : w.heap.size ≤ W.heap.size) (hM : ∀ k, w.heap.size ≤ k → M k) : d.R e w1 W.heap.size (fun k => M k ∧ ok k) v xs := R_mono (R_bound h) (fun k hk => ⟨hM k (Nat.le_trans hle hk.2.1), hk.1⟩)
end
end Kd
end Go.Proofs.YtenlmckahaniiaaW.PrintWords
end
end
section
namespace Go.Proofs.YtenlmckahaniiaaW.PrintWords
open Go Go.RowKit Go.Proofs.YtenlmckahaniiaaW.PrintLast
section
variable {P : Program} {md : Region.Mode} {ops : Array Oper} {Q : Exit → Act → World → Prop} {S : World → Prop} {ds : List Nat} {T : Bool × List (List Nat × List Nat)}
theorem pn_ {fuel : Nat} {l : Array Bool} {a a' : Act} {w : World} {oi : Oper} (i : Nat) (N : Option Tmp) (l' : Array Bool) (hi : ops[i]? = some oi) (hN : oi.dst = N) (HT : Aside0 (rtab md ops = T)) (h : wpAnyLast P md ops Q S ds fuel l' a' w)
    (hc : anyT T l.toList l'.toList i = true := by kernel_rfl) (hQ : ∀ c a w, Q (.panic c) (a.put oi.dst undef) w → Q (.panic c) a w := by exact fun _ _ _ h => h)
    (hy : Region.wanted oi (yielded ops a.tmps) = false := by rfl)
    (ha : a.put N undef = a' := by (simp only [Act.put, List.setIfInBounds_toArray, List.set_cons_zero, List.set_cons_succ, i64_w, i32_w]; rfl)) : wpAnyLast P md ops Q S ds (fuel + 1) l a w :=
  pure_ l' hi hN (any_of HT.out hc) hQ (Or.inr ⟨hy, rfl⟩) ha h
end
end Go.Proofs.YtenlmckahaniiaaW.PrintWords
end
section
namespace Go.Proofs.Ytenlmckahaniiaa.K
open Go.RowKit Go.Proofs.YtenlmckahaniiaaW.PrintWords Go.Proofs.YtenlmckahaniiaaW.PrintLast
theorem k62_heap : Kd.Heap k62 := Kd.heap_iso _ (Kd.heap_pair Kd.heap_string (Kd.heap_pair (Kd.heap_int .i64) (Kd.heap_pair (Kd.heap_int .i64) Kd.heap_bool)))
theorem k43_heap : Kd.Heap k43 := Kd.heap_iso _ (Kd.heap_pair (Kd.heap_int .i64) (Kd.heap_pair (Kd.heap_int .i64) (Kd.heap_pair (Kd.heap_int .i64) (Kd.heap_pair Kd.heap_string Kd.heap_bool))))
theorem k25_heap : Kd.Heap k25 := Kd.heap_iso _ (Kd.heap_pair Kd.heap_string (Kd.heap_pair Kd.heap_string (Kd.heap_pair Kd.heap_string (Kd.heap_pair (Kd.heap_int .i64) (Kd.heap_pair (Kd.heap_slice 62 k62_heap) (Kd.heap_slice 43 k43_heap))))))
end Go.Proofs.Ytenlmckahaniiaa.K
end
section
namespace Go.Proofs.Ytenlmckahaniiaa.K
open Go.RowKit Go.Proofs.YtenlmckahaniiaaW.PrintWords Go.Proofs.YtenlmckahaniiaaW.PrintLast
def zqe.l0 : Nat → ByteArray → Int → ByteArray → ByteArray → ByteArray → Int → List (S62) → List (S43) → Option (Bool)
  | 0, _, _, _, _, _, _, _, _ => none
  | k + 1, x1, x5, x679000, x679001, x679002, x679003, x679004, x679005 => if x5 < (x679004.length : Int) then (if 0 ≤ x5 then (if ((rd_T62 x679004 x5).f0).toList = x1.toList then (if (rd_T62 x679004 x5).f3 = true then (some true) else (zqe.l0 k x1 (wrap64 (x5 + 1)) x679000 x679001 x679002 x679003 x679004 x679005)) else (zqe.l0 k x1 (wrap64 (x5 + 1)) x679000 x679001 x679002 x679003 x679004 x679005)) else (none)) else (some false)
def zqe.f (k : Nat) (a0_0 : ByteArray) (a0_1 : ByteArray) (a0_2 : ByteArray) (a0_3 : Int) (l0_4 : List (S62)) (l0_5 : List (S43)) (a1 : ByteArray) : Option (Bool) := zqe.l0 k a1 0 a0_0 a0_1 a0_2 a0_3 l0_4 l0_5
theorem zqe.mono_l : ∀ k, (∀ y0 y1 y2 y3 y4 y5 y6 y7, LeO (zqe.l0 k y0 y1 y2 y3 y4 y5 y6 y7) (zqe.l0 (k + 1) y0 y1 y2 y3 y4 y5 y6 y7))
 | 0 => fun _ _ _ _ _ _ _ _ r h => by simp [zqe.l0] at h
 | k + 1 => by
  have ih0 := zqe.mono_l k
  ·intro y0 y1 y2 y3 y4 y5 y6 y7
   unfold zqe.l0
   with_reducible repeat' first | apply ih0 | exact LeO.refl _ | exact LeO.none _ | refine LeO.ite ?_ ?_ | refine LeO.bind ?_ (fun _ => ?_)
theorem zqe.mono : ∀ a0 a1 a2 a3 a4 a5 a6 k, LeO (zqe.f k a0 a1 a2 a3 a4 a5 a6) (zqe.f (k + 1) a0 a1 a2 a3 a4 a5 a6) := by
 intro a0 a1 a2 a3 a4 a5 a6 k
 have ih0 := zqe.mono_l k
 unfold zqe.f
 with_reducible repeat' first | apply ih0 | exact LeO.refl _ | exact LeO.none _ | refine LeO.ite ?_ ?_ | refine LeO.bind ?_ (fun _ => ?_)
theorem zqe.calls (k : Nat) (a0_0 : ByteArray) (a0_1 : ByteArray) (a0_2 : ByteArray) (a0_3 : Int) (A0_4 : Option Addr) (c0_4 : Nat) (l0_4 : List (S62)) (A0_5 : Option Addr) (c0_5 : Nat) (l0_5 : List (S43)) (a1 : ByteArray) (r : Bool) (w : World) (hr0_4 : Kd.C k62 w A0_4 l0_4.length l0_4) (hc0_4 : l0_4.length ≤ c0_4) (hr0_5 : Kd.C k43 w A0_5 l0_5.length l0_5) (hc0_5 : l0_5.length ≤ c0_5) (h : zqe.f k a0_0 a0_1 a0_2 a0_3 l0_4 l0_5 a1 = some r) :
  Calls Try.prog 30 #[.agg #[.string a0_0, .string a0_1, .string a0_2, .int .i64 a0_3, .slice A0_4 l0_4.length c0_4, .slice A0_5 l0_5.length c0_5], .string a1] w fun e w' => e = .returned (.bool r) ∧ Below w.heap.size w w' := by
 have hu25 := Try.underlying25
 have HR0_4 := q_ hr0_4
 have HC0_4 := q_ hc0_4
 clear hr0_4 hc0_4
 have HR0_5 := q_ hr0_5
 have HC0_5 := q_ hc0_5
 clear hr0_5 hc0_5
 have HB := q_ (Below.refl w.heap.size w)
 have H : (zqe.l0 k a1 0 a0_0 a0_1 a0_2 a0_3 l0_4 l0_5) = some r := h
 clear h
 have H' := q_ H
 clear H
 go_enter Try.func30, Try.ntmps30
 go_wp2_with (first | ((with_reducible refine gate_dst (N := 2) rfl ?_); refine box_event ?hg (N := 2) ?hd (cs := #[.string a0_0, .string a0_1, .string a0_2, .int .i64 a0_3, .slice A0_4 l0_4.length c0_4, .slice A0_5 l0_5.length c0_5]) (t := 25) ?hr ?_; (case hd => rfl); (case hg => rfl); (case hr => first | (go_simp; done) | (go_simp; rfl)); intro gb678 hg w3 hbox hb; have n0_ := q_ (below_step hb_ hb); have n1_ := q_ (hbox); have n2_ := q_ ((by rw [hg]; exact (below_size hb_) : w.heap.size ≤ gb678)); have n3_ := q_ ((by rw [hg]; exact (below_size hb_) : w.heap.size ≤ gb678)); clear HB; have HB := n0_; have BK678 := n1_; have GW678 := n2_; have GE678 := n3_; clear n0_ n1_ n2_ n3_; clear hb hbox hg))
 go_loopg [5] k (fun kq v5 w' => ∃ (x5_1 : Int), v5 = .int .i64 x5_1 ∧ Aside0 (zqe.l0 kq a1 x5_1 a0_0 a0_1 a0_2 a0_3 l0_4 l0_5 = some r) ∧ Aside0 (kq ≤ k) ∧ Aside0 (w'.heap[gb678]? = some (.cells #[.string a0_0, .string a0_1, .string a0_2, .int .i64 a0_3, (.slice A0_4 l0_4.length c0_4), (.slice A0_5 l0_5.length c0_5)] 25 (0, 0))) ∧ Aside0 (Below w.heap.size w w'))
 case atStart => exact ⟨(0), cl_, H', ⟨Nat.le_refl _⟩, ⟨bk_ BK678.out⟩, ⟨hb_⟩⟩
 case round =>
  clear H'
  (try clear p2); (try clear c3)
  obtain ⟨x5_1, rfl, HA, HK1, BK678, HB⟩ := hrel
  cases gk with
  | zero => exact absurd HA.out (by simp [zqe.l0])
  | succ k1 =>
   have H := HA.out
   clear HA
   simp only [zqe.l0] at H
   by_cases c4 : x5_1 < (l0_4.length : Int)
   rotate_left
   ·rw [if_neg c4] at H
    have c4b0 : decide (x5_1 < (l0_4.length : Int)) = false := decide_eq_false c4
    clear c4
    obtain rfl := Option.some.inj H
    obtain ⟨hcz12_0, hfz12_0, hcz12_1, hfz12_1, hcz12_2, hfz12_2, hcz12_3, hfz12_3, hcz12_4, hfz12_4, hcz12_5, hfz12_5⟩ := b6_ BK678.out
    go_wp2
    go_ret
    exact ⟨ew_, hb_⟩
   rw [if_pos c4] at H
   have c4b0 : decide (x5_1 < (l0_4.length : Int)) = true := decide_eq_true c4
   clear c4
   by_cases c5 : 0 ≤ x5_1
   rotate_left
   ·rw [if_neg c5] at H
    exact absurd H (by simp)
   rw [if_pos c5] at H
   have c5b0 : decide (0 ≤ x5_1) = true := decide_eq_true c5
   clear c5
   by_cases c6 : ((rd_T62 l0_4 x5_1).f0).toList = a1.toList
   rotate_left
   ·rw [if_neg c6] at H
    have c6b0 : (((rd_T62 l0_4 x5_1).f0).toList == a1.toList) = false := beq_eq_false_iff_ne.mpr c6
    have c6b1 : (((rd_T62 l0_4 x5_1).f0).toList != a1.toList) = true := bne_iff_ne.mpr c6
    have H' := q_ H
    clear H
    obtain ⟨hcz11_0, hfz11_0, hcz11_1, hfz11_1, hcz11_2, hfz11_2, hcz11_3, hfz11_3, hcz11_4, hfz11_4, hcz11_5, hfz11_5⟩ := b6_ BK678.out
    have p679 : 0 ≤ (x5_1 : Int) := oa_
    have q679 : x5_1 < (l0_4.length : Int) := oa_
    obtain ⟨ad679, e679, hx679_0, hx679_1, hx679_2, hx679_3⟩ := at_T62 HR0_4.out x5_1 p679 q679
    cases e679
    replace hx679_0 := cb_ HB.out hx679_0
    replace hx679_1 := cb_ HB.out hx679_1
    replace hx679_2 := cb_ HB.out hx679_2
    replace hx679_3 := cb_ HB.out hx679_3
    replace p679 := eq_true p679
    replace q679 := eq_true q679
    go_wp2
    go_roundg k1
    case measure => have := HK1.out; omega
    case rel => exact ⟨(wrap64 (x5_1 + 1)), cl_, H', ⟨by have := HK1.out; omega⟩, ⟨bk_ BK678.out⟩, ⟨hb_⟩⟩
   rw [if_pos c6] at H
   have c6b0 : (((rd_T62 l0_4 x5_1).f0).toList == a1.toList) = true := beq_iff_eq.mpr c6
   have c6b1 : (((rd_T62 l0_4 x5_1).f0).toList != a1.toList) = false := bne_eq_false_iff_eq.mpr c6
   clear c6
   obtain ⟨bq7, hbq7⟩ : ∃ b_ : Bool, b_ = ((rd_T62 l0_4 x5_1).f3) := ⟨_, rfl⟩
   replace H : (if bq7 = true then (some true) else (zqe.l0 k1 a1 (wrap64 (x5_1 + 1)) a0_0 a0_1 a0_2 a0_3 l0_4 l0_5)) = some r := by rw [← hbq7] at H; exact H
   have Nbq7 := q_ hbq7
   clear hbq7
   by_cases c8 : bq7 = true
   ·subst c8
    rw [if_pos rfl] at H
    obtain rfl := Option.some.inj H
    obtain ⟨hcz9_0, hfz9_0, hcz9_1, hfz9_1, hcz9_2, hfz9_2, hcz9_3, hfz9_3, hcz9_4, hfz9_4, hcz9_5, hfz9_5⟩ := b6_ BK678.out
    have p679 : 0 ≤ (x5_1 : Int) := oa_
    have q679 : x5_1 < (l0_4.length : Int) := oa_
    obtain ⟨ad679, e679, hx679_0, hx679_1, hx679_2, hx679_3⟩ := at_T62 HR0_4.out x5_1 p679 q679
    (try rw [← Nbq7.out] at hx679_3)
    cases e679
    replace hx679_0 := cb_ HB.out hx679_0
    replace hx679_1 := cb_ HB.out hx679_1
    replace hx679_2 := cb_ HB.out hx679_2
    replace hx679_3 := cb_ HB.out hx679_3
    replace p679 := eq_true p679
    replace q679 := eq_true q679
    have p680 : 0 ≤ (x5_1 : Int) := oa_
    have q680 : x5_1 < (l0_4.length : Int) := oa_
    obtain ⟨ad680, e680, hx680_0, hx680_1, hx680_2, hx680_3⟩ := at_T62 HR0_4.out x5_1 p680 q680
    (try rw [← Nbq7.out] at hx680_3)
    obtain rfl : ad679 = ad680 := (by injection e680)
    replace hx680_0 := cb_ HB.out hx680_0
    replace hx680_1 := cb_ HB.out hx680_1
    replace hx680_2 := cb_ HB.out hx680_2
    replace hx680_3 := cb_ HB.out hx680_3
    replace p680 := eq_true p680
    replace q680 := eq_true q680
    go_wp2
    go_ret
    exact ⟨ew_, hb_⟩
   replace c8 := Bool.eq_false_iff.mpr c8
   subst c8
   rw [if_neg (show ¬ (false = true) by decide)] at H
   have H' := q_ H
   clear H
   obtain ⟨hcz10_0, hfz10_0, hcz10_1, hfz10_1, hcz10_2, hfz10_2, hcz10_3, hfz10_3, hcz10_4, hfz10_4, hcz10_5, hfz10_5⟩ := b6_ BK678.out
   have p679 : 0 ≤ (x5_1 : Int) := oa_
   have q679 : x5_1 < (l0_4.length : Int) := oa_
   obtain ⟨ad679, e679, hx679_0, hx679_1, hx679_2, hx679_3⟩ := at_T62 HR0_4.out x5_1 p679 q679
   (try rw [← Nbq7.out] at hx679_3)
   cases e679
   replace hx679_0 := cb_ HB.out hx679_0
   replace hx679_1 := cb_ HB.out hx679_1
   replace hx679_2 := cb_ HB.out hx679_2
   replace hx679_3 := cb_ HB.out hx679_3
   replace p679 := eq_true p679
   replace q679 := eq_true q679
   have p680 : 0 ≤ (x5_1 : Int) := oa_
   have q680 : x5_1 < (l0_4.length : Int) := oa_
   obtain ⟨ad680, e680, hx680_0, hx680_1, hx680_2, hx680_3⟩ := at_T62 HR0_4.out x5_1 p680 q680
   (try rw [← Nbq7.out] at hx680_3)
   obtain rfl : ad679 = ad680 := (by injection e680)
   replace hx680_0 := cb_ HB.out hx680_0
   replace hx680_1 := cb_ HB.out hx680_1
   replace hx680_2 := cb_ HB.out hx680_2
   replace hx680_3 := cb_ HB.out hx680_3
   replace p680 := eq_true p680
   replace q680 := eq_true q680
   go_wp2
   go_roundg k1
   case measure => have := HK1.out; omega
   case rel => exact ⟨(wrap64 (x5_1 + 1)), cl_, H', ⟨by have := HK1.out; omega⟩, ⟨bk_ BK678.out⟩, ⟨hb_⟩⟩
end Go.Proofs.Ytenlmckahaniiaa.K
end
section
namespace Go.Proofs.Ytenlmckahaniiaa.K
open Go.RowKit Go.Proofs.YtenlmckahaniiaaW.PrintWords Go.Proofs.YtenlmckahaniiaaW.PrintLast
def zq15.l0 : Nat → List (S25) → ByteArray → Int → Option (Int × Bool)
  | 0, _, _, _ => none
  | k + 1, x0, x1, x6 => if x6 < (x0.length : Int) then (if 0 ≤ x6 then ((zqe.f k ((rd_T25 x0 x6).f0) ((rd_T25 x0 x6).f1) ((rd_T25 x0 x6).f2) ((rd_T25 x0 x6).f3) ((rd_T25 x0 x6).f4) ((rd_T25 x0 x6).f5) x1).bind fun t701 => (if t701 = true then (some (x6, true)) else (zq15.l0 k x0 x1 (wrap64 (x6 + 1))))) else (none)) else (some (0, false))
def zq15.f (k : Nat) (l0 : List (S25)) (a1 : ByteArray) : Option (Int × Bool) := zq15.l0 k l0 a1 0
theorem zq15.mono_l : ∀ k, (∀ y0 y1 y2, LeO (zq15.l0 k y0 y1 y2) (zq15.l0 (k + 1) y0 y1 y2))
 | 0 => fun _ _ _ r h => by simp [zq15.l0] at h
 | k + 1 => by
  have ih0 := zq15.mono_l k
  ·intro y0 y1 y2
   unfold zq15.l0
   with_reducible repeat' first | apply ih0 | apply zqe.mono | exact LeO.refl _ | exact LeO.none _ | refine LeO.ite ?_ ?_ | refine LeO.bind ?_ (fun _ => ?_)
theorem zq15.mono : ∀ a0 a1 k, LeO (zq15.f k a0 a1) (zq15.f (k + 1) a0 a1) := by
 intro a0 a1 k
 have ih0 := zq15.mono_l k
 unfold zq15.f
 with_reducible repeat' first | apply ih0 | apply zqe.mono | exact LeO.refl _ | exact LeO.none _ | refine LeO.ite ?_ ?_ | refine LeO.bind ?_ (fun _ => ?_)
theorem zq15.calls (k : Nat) (A0 : Option Addr) (c0 : Nat) (l0 : List (S25)) (a1 : ByteArray) (r1 : Int) (r2 : Bool) (w : World) (hr0 : Kd.C k25 w A0 l0.length l0) (hc0 : l0.length ≤ c0) (h : zq15.f k l0 a1 = some (r1, r2)) :
  Calls Try.prog 33 #[.slice A0 l0.length c0, .string a1] w fun e w' => e = .returned (.tuple #[.int .i64 r1, .bool r2]) ∧ Below w.heap.size w w' := by
 have hu25 := Try.underlying25
 have HR0 := q_ hr0
 have HC0 := q_ hc0
 clear hr0 hc0
 have HB := q_ (Below.refl w.heap.size w)
 have H : (zq15.l0 k l0 a1 0) = some (r1, r2) := h
 clear h
 have H' := q_ H
 clear H
 go_enter Try.func33, Try.ntmps33
 go_wp2
 go_loopg [6] k (fun kq v6 w' => ∃ (x6_1 : Int), v6 = .int .i64 x6_1 ∧ Aside0 (zq15.l0 kq l0 a1 x6_1 = some (r1, r2)) ∧ Aside0 (kq ≤ k) ∧ Aside0 (Below w.heap.size w w'))
 case atStart => exact ⟨(0), cl_, H', ⟨Nat.le_refl _⟩, ⟨hb_⟩⟩
 case round =>
  clear H'
  (try clear p2)
  obtain ⟨x6_1, rfl, HA, HK1, HB⟩ := hrel
  cases gk with
  | zero => exact absurd HA.out (by simp [zq15.l0])
  | succ k1 =>
   have H := HA.out
   clear HA
   simp only [zq15.l0] at H
   by_cases c3 : x6_1 < (l0.length : Int)
   rotate_left
   ·rw [if_neg c3] at H
    have c3b0 : decide (x6_1 < (l0.length : Int)) = false := decide_eq_false c3
    clear c3
    simp only [Option.some.injEq, Prod.mk.injEq] at H
    obtain ⟨rfl, rfl⟩ := H
    go_wp2
    go_ret2
    exact ⟨ew_, hb_⟩
   rw [if_pos c3] at H
   have c3b0 : decide (x6_1 < (l0.length : Int)) = true := decide_eq_true c3
   clear c3
   by_cases c4 : 0 ≤ x6_1
   rotate_left
   ·rw [if_neg c4] at H
    exact absurd H (by simp)
   rw [if_pos c4] at H
   have c4b0 : decide (0 ≤ x6_1) = true := decide_eq_true c4
   clear c4
   replace H := Option.bind_eq_some_iff.mp H
   obtain ⟨t701, A50, H⟩ := H
   (try dsimp only at H)
   have A5 := q_ A50
   clear A50
   by_cases c6 : t701 = true
   ·subst c6
    rw [if_pos rfl] at H
    simp only [Option.some.injEq, Prod.mk.injEq] at H
    obtain ⟨rfl, rfl⟩ := H
    have p700 : 0 ≤ (x6_1 : Int) := oa_
    have q700 : x6_1 < (l0.length : Int) := oa_
    obtain ⟨ad700, A700_4, c700_4, A700_5, c700_5, e700, hx700_0, hx700_1, hx700_2, hx700_3, hx700_4, hx700_5, hl700_4, hi700_4, hl700_5, hi700_5⟩ := at_T25 HR0.out x6_1 p700 q700
    cases e700
    replace hx700_0 := cb_ HB.out hx700_0
    replace hx700_1 := cb_ HB.out hx700_1
    replace hx700_2 := cb_ HB.out hx700_2
    replace hx700_3 := cb_ HB.out hx700_3
    replace hx700_4 := cb_ HB.out hx700_4
    replace hx700_5 := cb_ HB.out hx700_5
    have HR700_4 := q_ hi700_4
    have HC700_4 := q_ hl700_4
    clear hi700_4 hl700_4
    have HR700_5 := q_ hi700_5
    have HC700_5 := q_ hl700_5
    clear hi700_5 hl700_5
    replace p700 := eq_true p700
    replace q700 := eq_true q700
    go_wp2_with (first | ((with_reducible refine gate_callee (f := 30) rfl ?_); refine goesL_ (some 18) rfl rfl Try.func30 (by kernel_rfl) rfl #[.agg #[.string ((rd_T25 l0 x6_1).f0), .string ((rd_T25 l0 x6_1).f1), .string ((rd_T25 l0 x6_1).f2), .int .i64 ((rd_T25 l0 x6_1).f3), .slice A700_4 ((rd_T25 l0 x6_1).f4).length c700_4, .slice A700_5 ((rd_T25 l0 x6_1).f5).length c700_5], .string a1] rfl ar_ ?_; (with_reducible refine (zqe.calls k1 ((rd_T25 l0 x6_1).f0) ((rd_T25 l0 x6_1).f1) ((rd_T25 l0 x6_1).f2) ((rd_T25 l0 x6_1).f3) _ _ ((rd_T25 l0 x6_1).f4) _ _ ((rd_T25 l0 x6_1).f5) a1 true _ ?side1 ?side2 ?side3 ?side4 A5.out).mono ?_); (case side1 => exact ck_ (Kd.C_below HR700_4.out HB.out)); (case side2 => exact HC700_4.out); (case side3 => exact ck_ (Kd.C_below HR700_5.out HB.out)); (case side4 => exact HC700_5.out); rintro e w7 ⟨rfl, hb⟩; refine ⟨_, rfl, ?_⟩; have n0_ := q_ (below_step hb_ hb); clear HB; have HB := n0_; clear n0_; (try clear hb); (try clear hb2); (try clear hk); (try clear hi)))
    go_ret2
    exact ⟨ew_, hb_⟩
   replace c6 := Bool.eq_false_iff.mpr c6
   subst c6
   rw [if_neg (show ¬ (false = true) by decide)] at H
   have H' := q_ H
   clear H
   have p700 : 0 ≤ (x6_1 : Int) := oa_
   have q700 : x6_1 < (l0.length : Int) := oa_
   obtain ⟨ad700, A700_4, c700_4, A700_5, c700_5, e700, hx700_0, hx700_1, hx700_2, hx700_3, hx700_4, hx700_5, hl700_4, hi700_4, hl700_5, hi700_5⟩ := at_T25 HR0.out x6_1 p700 q700
   cases e700
   replace hx700_0 := cb_ HB.out hx700_0
   replace hx700_1 := cb_ HB.out hx700_1
   replace hx700_2 := cb_ HB.out hx700_2
   replace hx700_3 := cb_ HB.out hx700_3
   replace hx700_4 := cb_ HB.out hx700_4
   replace hx700_5 := cb_ HB.out hx700_5
   have HR700_4 := q_ hi700_4
   have HC700_4 := q_ hl700_4
   clear hi700_4 hl700_4
   have HR700_5 := q_ hi700_5
   have HC700_5 := q_ hl700_5
   clear hi700_5 hl700_5
   replace p700 := eq_true p700
   replace q700 := eq_true q700
   go_wp2_with (first | ((with_reducible refine gate_callee (f := 30) rfl ?_); refine goesL_ (some 18) rfl rfl Try.func30 (by kernel_rfl) rfl #[.agg #[.string ((rd_T25 l0 x6_1).f0), .string ((rd_T25 l0 x6_1).f1), .string ((rd_T25 l0 x6_1).f2), .int .i64 ((rd_T25 l0 x6_1).f3), .slice A700_4 ((rd_T25 l0 x6_1).f4).length c700_4, .slice A700_5 ((rd_T25 l0 x6_1).f5).length c700_5], .string a1] rfl ar_ ?_; (with_reducible refine (zqe.calls k1 ((rd_T25 l0 x6_1).f0) ((rd_T25 l0 x6_1).f1) ((rd_T25 l0 x6_1).f2) ((rd_T25 l0 x6_1).f3) _ _ ((rd_T25 l0 x6_1).f4) _ _ ((rd_T25 l0 x6_1).f5) a1 false _ ?side1 ?side2 ?side3 ?side4 A5.out).mono ?_); (case side1 => exact ck_ (Kd.C_below HR700_4.out HB.out)); (case side2 => exact HC700_4.out); (case side3 => exact ck_ (Kd.C_below HR700_5.out HB.out)); (case side4 => exact HC700_5.out); rintro e w8 ⟨rfl, hb⟩; refine ⟨_, rfl, ?_⟩; have n0_ := q_ (below_step hb_ hb); clear HB; have HB := n0_; clear n0_; (try clear hb); (try clear hb2); (try clear hk); (try clear hi)))
   go_roundg k1
   case measure => have := HK1.out; omega
   case rel => exact ⟨(wrap64 (x6_1 + 1)), cl_, H', ⟨by have := HK1.out; omega⟩, ⟨hb_⟩⟩
end Go.Proofs.Ytenlmckahaniiaa.K
end
section
namespace Go.Proofs.Ytenlmckahaniiaa.K
open Go.RowKit Go.Proofs.YtenlmckahaniiaaW.PrintWords Go.Proofs.YtenlmckahaniiaaW.PrintLast
attribute [local go_sem high] eqA43 eqA62
end Go.Proofs.Ytenlmckahaniiaa.K
end
section
namespace Go.Proofs.Ytenlmckahaniiaa.Obj
open Go Go.RowKit Go.Proofs.Ytenlmckahaniiaa.K Go.Proofs.YtenlmckahaniiaaW.PrintWords Go.Proofs.YtenlmckahaniiaaW.PrintMore Go.Proofs.Ytenlmckahaniiaa.MyStr Go.Proofs.Ytenlmckahaniiaa.Oct
def definesB (l : List S62) (name : ByteArray) : Bool := l.any (pSym name)
theorem rdefines_loop (a0 a1 a2 : ByteArray) (a3 : Int) (l : List S62) (l5 : List S43) (name : ByteArray) (hn : l.length ≤ 1000000) (d : Nat) : ∀ i : Nat, i + d = l.length → Ev (fun k => zqe.l0 k name (i : Int) a0 a1 a2 a3 l l5) ((l.drop i).any (pSym name)) := by
  induction d with
  | zero =>
    intro i hi
    rw [List.drop_eq_nil_of_le (by omega)]
    exact Ev.step (f := fun _ => some false) (fun k => by rw [zqe.l0, if_neg (by omega)]) (Ev.now _)
  | succ d ih =>
    intro i hi
    have hlt : i < l.length := by omega
    have h := ih (i + 1) (by omega)
    rw [List.drop_eq_getElem_cons hlt, List.any_cons]
    refine Ev.step (f := fun k => if l[i].f0.toList = name.toList then (if l[i].f3 = true then some true else zqe.l0 k name ((i + 1 : Nat) : Int) a0 a1 a2 a3 l l5) else zqe.l0 k name ((i + 1 : Nat) : Int) a0 a1 a2 a3 l l5) (fun k => by rw [zqe.l0, if_pos (by omega), if_pos (by omega), rd62 l i hlt, i64_nat i (by omega)]) ?_
    have hp : pSym name l[i] = (l[i].f3 && (l[i].f0.toList == name.toList)) := rfl
    refine Ev.ite (fun h1 => Ev.ite (fun h2 => ?_) (fun h2 => ?_)) (fun h1 => ?_)
    · rw [hp, h2, h1]; simp only [beq_self_eq_true, Bool.and_self, Bool.true_or]; exact Ev.now _
    · rw [hp, Bool.not_eq_true _ |>.mp h2, Bool.false_and, Bool.false_or]; exact h
    · rw [hp, beq_eq_false_iff_ne.2 h1, Bool.and_false, Bool.false_or]; exact h
theorem rdefines_is (a0 a1 a2 : ByteArray) (a3 : Int) (l : List S62) (l5 : List S43) (name : ByteArray) (hn : l.length ≤ 1000000) : Ev (fun k => zqe.f k a0 a1 a2 a3 l l5 name) (definesB l name) := by
  have := rdefines_loop a0 a1 a2 a3 l l5 name hn l.length 0 (by omega)
  rw [List.drop_zero] at this
  exact this
end Go.Proofs.Ytenlmckahaniiaa.Obj
end
section
namespace Go.Proofs.Ytenlmckahaniiaa.Lb
open Go Go.RowKit Go.Proofs.Ytenlmckahaniiaa.K Go.Proofs.YtenlmckahaniiaaW.PrintWords Go.Proofs.YtenlmckahaniiaaW.PrintMore Go.Proofs.Ytenlmckahaniiaa.MyBits Go.Proofs.Ytenlmckahaniiaa.MyStr Go.Proofs.Ytenlmckahaniiaa.Oct Go.Proofs.Ytenlmckahaniiaa.Obj
theorem fndB_lt (l : List S25) (n : List UInt8) (h : 0 ≤ fndB l n) : fndB l n < l.length := by
  unfold fndB idxF at h ⊢
  cases h2 : l.findIdx? (fun x => defM x n) with
  | none => rw [h2] at h; exact absurd h (by decide)
  | some i =>
    rw [List.findIdx?_eq_some_iff_getElem] at h2
    obtain ⟨h3, _⟩ := h2
    show (i : Int) < _
    omega
end Go.Proofs.Ytenlmckahaniiaa.Lb
end
section
namespace Go.Proofs.Ytenlmckahaniiaa.Lb
open Go Go.RowKit Go.Proofs.Ytenlmckahaniiaa.K Go.Proofs.YtenlmckahaniiaaW.PrintWords Go.Proofs.YtenlmckahaniiaaW.PrintMore Go.Proofs.Ytenlmckahaniiaa.MyBits Go.Proofs.Ytenlmckahaniiaa.MyStr Go.Proofs.Ytenlmckahaniiaa.Oct Go.Proofs.Ytenlmckahaniiaa.Obj
theorem idxF_cons {α : Type} (p : α → Bool) (x : α) (l : List α) : idxF p (x :: l) = if p x = true then 0 else if 0 ≤ idxF p l then idxF p l + 1 else -1 := by
  unfold idxF
  rw [List.findIdx?_cons]
  by_cases h : p x = true
  · rw [if_pos h, if_pos h]; rfl
  · rw [if_neg h, if_neg h]
    cases h2 : l.findIdx? p with
    | none => simp
    | some i => simp only [Option.map_some]; rw [if_pos (by omega)]; omega
theorem rfind_loop (l : List S25) (hl : l.length ≤ 1000000) (hs : ∀ x ∈ l, x.f4.length ≤ 1000000) (name : ByteArray) (d : Nat) : ∀ i : Nat, i + d = l.length → Ev (fun k => zq15.l0 k l name (i : Int)) (if 0 ≤ fndB (l.drop i) (bs name) then (i + fndB (l.drop i) (bs name), true) else (0, false)) := by
  induction d with
  | zero =>
    intro i hi
    rw [List.drop_eq_nil_of_le (by omega)]
    exact Ev.step (f := fun _ => some (0, false)) (fun k => by rw [zq15.l0, if_neg (by omega)]) (Ev.now _)
  | succ d ih =>
    intro i hi
    have hlt : i < l.length := by omega
    have h := ih (i + 1) (by omega)
    rw [List.drop_eq_getElem_cons hlt]
    unfold fndB at h ⊢
    rw [idxF_cons]
    generalize idxF (fun x : S25 => defM x (bs name)) (l.drop (i + 1)) = q at h ⊢
    refine Ev.step (f := fun k => (zqe.f k l[i].f0 l[i].f1 l[i].f2 l[i].f3 l[i].f4 l[i].f5 name).bind fun t => if t = true then some ((i : Int), true) else zq15.l0 k l name ((i + 1 : Nat) : Int)) (fun k => by rw [zq15.l0, if_pos (by omega), if_pos (by omega), rd25 l i hlt, Obj.i64_nat i (by omega)]) ?_
    refine Ev.bind (rdefines_is _ _ _ _ _ _ name (hs l[i] (List.getElem_mem hlt))) ?_
    unfold definesB
    rw [defM_is]
    by_cases h1 : defM l[i] (bs name) = true
    · refine Ev.congr (fun k => if_pos h1) ?_
      rw [if_pos h1, if_pos (by omega), Int.add_zero]; exact Ev.now _
    · refine Ev.congr (fun k => if_neg h1) ?_
      rw [if_neg h1]
      by_cases h2 : 0 ≤ q
      · rw [if_pos h2] at h ⊢
        rw [if_pos (by omega)]
        exact Ev.eq h (by rw [show ((i + 1 : Nat) : Int) + q = (i : Int) + (q + 1) by omega])
      · rw [if_neg h2] at h ⊢
        rw [if_neg (by omega)]; exact h
theorem rfind_is (l : List S25) (hl : l.length ≤ 1000000) (hs : ∀ x ∈ l, x.f4.length ≤ 1000000) (name : ByteArray) : Ev (fun k => zq15.f k l name) (findR l (bs name)) := by
  have h := rfind_loop l hl hs name l.length 0 (by omega)
  rw [List.drop_zero] at h
  unfold findR
  refine Ev.eq h ?_
  by_cases h1 : 0 ≤ fndB l (bs name)
  · rw [if_pos h1, decide_eq_true h1, Int.max_eq_left h1]; simp
  · rw [if_neg h1, decide_eq_false h1, Int.max_eq_right (by omega)]
end Go.Proofs.Ytenlmckahaniiaa.Lb
end
