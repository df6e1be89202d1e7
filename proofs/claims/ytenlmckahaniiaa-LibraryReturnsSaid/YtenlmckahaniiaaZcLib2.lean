/- Lemmas for several laws: what their proofs need of this seat's texts, in one place. -/
import Derived.Lib.Bytealg
import Derived.Maps.OwnSet
import Derived.Test.YtenlmckahaniiaaZcLib1
set_option linter.unusedVariables false
set_option linter.unusedSimpArgs false
set_option linter.unusedSectionVars false
set_option maxHeartbeats 8000000
set_option maxRecDepth 100000
section
namespace Go.Proofs.Ytenlmckahaniiaa.K
open Go.RowKit Go.Proofs.YtenlmckahaniiaaW.PrintWords Go.Proofs.YtenlmckahaniiaaW.PrintLast
mutual
def zqx.l0 : Nat → List (S25) → Int → Option (Bool)
  | 0, _, _ => none
  | k + 1, x0, x3 => if x3 < (x0.length : Int) then (if 0 ≤ x3 then (if (((rd_T25 x0 x3).f0).size : Int) > 100 then (zqx.j1 k x0 x3 true ((rd_T25 x0 x3).f0) ((rd_T25 x0 x3).f1) ((rd_T25 x0 x3).f2) ((rd_T25 x0 x3).f3) ((rd_T25 x0 x3).f4) ((rd_T25 x0 x3).f5)) else (if (((rd_T25 x0 x3).f1).size : Int) > 600 then (zqx.j1 k x0 x3 true ((rd_T25 x0 x3).f0) ((rd_T25 x0 x3).f1) ((rd_T25 x0 x3).f2) ((rd_T25 x0 x3).f3) ((rd_T25 x0 x3).f4) ((rd_T25 x0 x3).f5)) else (if (((rd_T25 x0 x3).f2).size : Int) > 600 then (zqx.j1 k x0 x3 true ((rd_T25 x0 x3).f0) ((rd_T25 x0 x3).f1) ((rd_T25 x0 x3).f2) ((rd_T25 x0 x3).f3) ((rd_T25 x0 x3).f4) ((rd_T25 x0 x3).f5)) else (if (((rd_T25 x0 x3).f4).length : Int) > 40 then (zqx.j1 k x0 x3 true ((rd_T25 x0 x3).f0) ((rd_T25 x0 x3).f1) ((rd_T25 x0 x3).f2) ((rd_T25 x0 x3).f3) ((rd_T25 x0 x3).f4) ((rd_T25 x0 x3).f5)) else (zqx.j1 k x0 x3 (decide ((((rd_T25 x0 x3).f5).length : Int) > 40)) ((rd_T25 x0 x3).f0) ((rd_T25 x0 x3).f1) ((rd_T25 x0 x3).f2) ((rd_T25 x0 x3).f3) ((rd_T25 x0 x3).f4) ((rd_T25 x0 x3).f5)))))) else (none)) else (some false)
def zqx.j1 : Nat → List (S25) → Int → Bool → ByteArray → ByteArray → ByteArray → Int → List (S62) → List (S43) → Option (Bool)
  | 0, _, _, _, _, _, _, _, _, _ => none
  | k + 1, x0, x3, x47, x698000, x698001, x698002, x698003, x698004, x698005 => if x47 = true then (some true) else (zqx.l1 k x0 x3 0 x698000 x698001 x698002 x698003 x698004 x698005)
def zqx.l1 : Nat → List (S25) → Int → Int → ByteArray → ByteArray → ByteArray → Int → List (S62) → List (S43) → Option (Bool)
  | 0, _, _, _, _, _, _, _, _, _ => none
  | k + 1, x0, x3, x5, x698000, x698001, x698002, x698003, x698004, x698005 => if x5 < (x698004.length : Int) then (if 0 ≤ x5 then (if (((rd_T62 x698004 x5).f0).size : Int) > 100 then (some true) else (zqx.l1 k x0 x3 (wrap64 (x5 + 1)) x698000 x698001 x698002 x698003 x698004 x698005)) else (none)) else (zqx.l2 k x0 x3 0 x698000 x698001 x698002 x698003 x698004 x698005)
def zqx.l2 : Nat → List (S25) → Int → Int → ByteArray → ByteArray → ByteArray → Int → List (S62) → List (S43) → Option (Bool)
  | 0, _, _, _, _, _, _, _, _, _ => none
  | k + 1, x0, x3, x6, x698000, x698001, x698002, x698003, x698004, x698005 => if x6 < (x698005.length : Int) then (if 0 ≤ x6 then (if (((rd_T43 x698005 x6).f3).size : Int) > 100 then (some true) else (zqx.l2 k x0 x3 (wrap64 (x6 + 1)) x698000 x698001 x698002 x698003 x698004 x698005)) else (none)) else (zqx.l0 k x0 (wrap64 (x3 + 1)))
end
def zqx.f (k : Nat) (l0 : List (S25)) : Option (Bool) := if (l0.length : Int) > 40 then (some true) else (zqx.l0 k l0 0)
theorem zqx.mono_l : ∀ k, (∀ y0 y1, LeO (zqx.l0 k y0 y1) (zqx.l0 (k + 1) y0 y1)) ∧ (∀ y0 y1 y2 y3 y4 y5 y6 y7 y8, LeO (zqx.j1 k y0 y1 y2 y3 y4 y5 y6 y7 y8) (zqx.j1 (k + 1) y0 y1 y2 y3 y4 y5 y6 y7 y8)) ∧ (∀ y0 y1 y2 y3 y4 y5 y6 y7 y8, LeO (zqx.l1 k y0 y1 y2 y3 y4 y5 y6 y7 y8) (zqx.l1 (k + 1) y0 y1 y2 y3 y4 y5 y6 y7 y8)) ∧ (∀ y0 y1 y2 y3 y4 y5 y6 y7 y8, LeO (zqx.l2 k y0 y1 y2 y3 y4 y5 y6 y7 y8) (zqx.l2 (k + 1) y0 y1 y2 y3 y4 y5 y6 y7 y8))
 | 0 => ⟨fun _ _ r h => by simp [zqx.l0] at h, fun _ _ _ _ _ _ _ _ _ r h => by simp [zqx.j1] at h, fun _ _ _ _ _ _ _ _ _ r h => by simp [zqx.l1] at h, fun _ _ _ _ _ _ _ _ _ r h => by simp [zqx.l2] at h⟩
 | k + 1 => by
  obtain ⟨ih0, ih1, ih2, ih3⟩ := zqx.mono_l k
  refine ⟨?_, ?_, ?_, ?_⟩
  ·intro y0 y1
   unfold zqx.l0
   with_reducible repeat' first | apply ih0 | apply ih1 | apply ih2 | apply ih3 | exact LeO.refl _ | exact LeO.none _ | refine LeO.ite ?_ ?_ | refine LeO.bind ?_ (fun _ => ?_)
  ·intro y0 y1 y2 y3 y4 y5 y6 y7 y8
   unfold zqx.j1
   with_reducible repeat' first | apply ih0 | apply ih1 | apply ih2 | apply ih3 | exact LeO.refl _ | exact LeO.none _ | refine LeO.ite ?_ ?_ | refine LeO.bind ?_ (fun _ => ?_)
  ·intro y0 y1 y2 y3 y4 y5 y6 y7 y8
   unfold zqx.l1
   with_reducible repeat' first | apply ih0 | apply ih1 | apply ih2 | apply ih3 | exact LeO.refl _ | exact LeO.none _ | refine LeO.ite ?_ ?_ | refine LeO.bind ?_ (fun _ => ?_)
  ·intro y0 y1 y2 y3 y4 y5 y6 y7 y8
   unfold zqx.l2
   with_reducible repeat' first | apply ih0 | apply ih1 | apply ih2 | apply ih3 | exact LeO.refl _ | exact LeO.none _ | refine LeO.ite ?_ ?_ | refine LeO.bind ?_ (fun _ => ?_)
theorem zqx.mono : ∀ a0 k, LeO (zqx.f k a0) (zqx.f (k + 1) a0) := by
 intro a0 k
 obtain ⟨ih0, ih1, ih2, ih3⟩ := zqx.mono_l k
 unfold zqx.f
 with_reducible repeat' first | apply ih0 | apply ih1 | apply ih2 | apply ih3 | exact LeO.refl _ | exact LeO.none _ | refine LeO.ite ?_ ?_ | refine LeO.bind ?_ (fun _ => ?_)
theorem zqx.calls (k : Nat) (A0 : Option Addr) (c0 : Nat) (l0 : List (S25)) (r : Bool) (w : World) (hr0 : Kd.C k25 w A0 l0.length l0) (hc0 : l0.length ≤ c0) (h : zqx.f k l0 = some r) :
  Calls Try.prog 31 #[.slice A0 l0.length c0] w fun e w' => e = .returned (.bool r) ∧ Below w.heap.size w w' := by
 have hu25 := Try.underlying25
 have HR0 := q_ hr0
 have HC0 := q_ hc0
 clear hr0 hc0
 have HB := q_ (Below.refl w.heap.size w)
 have H : (if (l0.length : Int) > 40 then (some true) else (zqx.l0 k l0 0)) = some r := h
 clear h
 by_cases c2 : (l0.length : Int) > 40
 ·rw [if_pos c2] at H
  have c2b0 : decide (40 < (l0.length : Int)) = true := decide_eq_true c2
  have c2b1 : decide (40 < l0.length) = true := decide_eq_true (by omega)
  clear c2
  obtain rfl := Option.some.inj H
  go_enter Try.func31, Try.ntmps31
  go_wp2
  go_ret
  exact ⟨ew_, hb_⟩
 rw [if_neg c2] at H
 have c2b0 : decide (40 < (l0.length : Int)) = false := decide_eq_false c2
 have c2b1 : decide (40 < l0.length) = false := decide_eq_false (by omega)
 clear c2
 have H' := q_ H
 clear H
 go_enter Try.func31, Try.ntmps31
 go_wp2
 go_loopg [3] k (fun kq v3 w' => ∃ (x3_1 : Int), v3 = .int .i64 x3_1 ∧ Aside0 (zqx.l0 kq l0 x3_1 = some r) ∧ Aside0 (kq ≤ k) ∧ Aside0 (Below w.heap.size w w'))
 case atStart => exact ⟨(0), cl_, H', ⟨Nat.le_refl _⟩, ⟨hb_⟩⟩
 case round =>
  clear H'
  clear c2b0; clear c2b1
  obtain ⟨x3_1, rfl, HA, HK1, HB⟩ := hrel
  cases gk with
  | zero => exact absurd HA.out (by simp [zqx.l0])
  | succ k1 =>
   have H := HA.out
   clear HA
   simp only [zqx.l0] at H
   by_cases c3 : x3_1 < (l0.length : Int)
   rotate_left
   ·rw [if_neg c3] at H
    have c3b0 : decide (x3_1 < (l0.length : Int)) = false := decide_eq_false c3
    clear c3
    obtain rfl := Option.some.inj H
    go_wp2
    go_ret
    exact ⟨ew_, hb_⟩
   rw [if_pos c3] at H
   have c3b0 : decide (x3_1 < (l0.length : Int)) = true := decide_eq_true c3
   clear c3
   by_cases c4 : 0 ≤ x3_1
   rotate_left
   ·rw [if_neg c4] at H
    exact absurd H (by simp)
   rw [if_pos c4] at H
   have c4b0 : decide (0 ≤ x3_1) = true := decide_eq_true c4
   clear c4
   have HC5 := q_ H
   clear H
   have p696 : 0 ≤ (x3_1 : Int) := oa_
   have q696 : x3_1 < (l0.length : Int) := oa_
   obtain ⟨ad696, A696_4, c696_4, A696_5, c696_5, e696, hx696_0, hx696_1, hx696_2, hx696_3, hx696_4, hx696_5, hl696_4, hi696_4, hl696_5, hi696_5⟩ := at_T25 HR0.out x3_1 p696 q696
   cases e696
   replace hx696_0 := cb_ HB.out hx696_0
   replace hx696_1 := cb_ HB.out hx696_1
   replace hx696_2 := cb_ HB.out hx696_2
   replace hx696_3 := cb_ HB.out hx696_3
   replace hx696_4 := cb_ HB.out hx696_4
   replace hx696_5 := cb_ HB.out hx696_5
   have HR696_4 := q_ hi696_4
   have HC696_4 := q_ hl696_4
   clear hi696_4 hl696_4
   have HR696_5 := q_ hi696_5
   have HC696_5 := q_ hl696_5
   clear hi696_5 hl696_5
   replace p696 := eq_true p696
   replace q696 := eq_true q696
   go_upto_region 7 with (first | ((with_reducible refine gate_dst (N := 4) rfl ?_); (try (refine gate_guard (by rfl) ?_; dsimp only)); refine box_event ?hg (N := 4) ?hd (cs := #[.string (⟨#[]⟩ : ByteArray), .string (⟨#[]⟩ : ByteArray), .string (⟨#[]⟩ : ByteArray), .int .i64 0, .slice none 0 0, .slice none 0 0]) (t := 25) ?hr ?_; (case hd => rfl); (case hg => rfl); (case hr => first | (go_simp; done) | (go_simp; rfl)); intro gb697 hg w6 hbox hb; have n0_ := q_ (below_step hb_ hb); have n1_ := q_ (hbox); have n2_ := q_ ((by rw [hg]; exact (below_size hb_) : w.heap.size ≤ gb697)); have n3_ := q_ ((by rw [hg]; exact (below_size hb_) : w.heap.size ≤ gb697)); clear HB; have HB := n0_; have BK697 := n1_; have GW697 := n2_; have GE697 := n3_; clear n0_ n1_ n2_ n3_; clear hb hbox hg; obtain ⟨hcz7_0, hfz7_0, hcz7_1, hfz7_1, hcz7_2, hfz7_2, hcz7_3, hfz7_3, hcz7_4, hfz7_4, hcz7_5, hfz7_5⟩ := b6_ BK697.out))
   (try simp only [Act.put, List.setIfInBounds_toArray, List.set_cons_zero, List.set_cons_succ])
   go_cut [47] (fun v47 wc => ∃ (kq : Nat) (x47_4 : Bool), v47 = .bool x47_4 ∧ Aside0 (zqx.j1 kq l0 x3_1 x47_4 ((rd_T25 l0 x3_1).f0) ((rd_T25 l0 x3_1).f1) ((rd_T25 l0 x3_1).f2) ((rd_T25 l0 x3_1).f3) ((rd_T25 l0 x3_1).f4) ((rd_T25 l0 x3_1).f5) = some r) ∧ Aside0 (kq ≤ k1) ∧ Aside0 (wc.heap[gb697]? = some (.cells #[.string ((rd_T25 l0 x3_1).f0), .string ((rd_T25 l0 x3_1).f1), .string ((rd_T25 l0 x3_1).f2), .int .i64 ((rd_T25 l0 x3_1).f3), (.slice A696_4 ((rd_T25 l0 x3_1).f4).length c696_4), (.slice A696_5 ((rd_T25 l0 x3_1).f5).length c696_5)] 25 (0, 0))) ∧ Aside0 (Below w.heap.size w wc))
   case first =>
    have H := HC5.out
    clear HC5
    by_cases c8 : (((rd_T25 l0 x3_1).f0).size : Int) > 100
    ·rw [if_pos c8] at H
     have c8b0 : decide (100 < (((rd_T25 l0 x3_1).f0).size : Int)) = true := decide_eq_true c8
     have c8b1 : decide (100 < ((rd_T25 l0 x3_1).f0).size) = true := decide_eq_true (by omega)
     clear c8
     (first | rw [c8b0] | (simp only [i64_w, i32_w]; rw [c8b0]) | skip)
     have H' := q_ H
     clear H
     obtain ⟨hcz9_0, hfz9_0, hcz9_1, hfz9_1, hcz9_2, hfz9_2, hcz9_3, hfz9_3, hcz9_4, hfz9_4, hcz9_5, hfz9_5⟩ := b6_ BK697.out
     go_wp2
     go_meet
     case rel => exact ⟨_, (true), cl_, H', ⟨by have := HK1.out; first | omega | exact Nat.le_refl _⟩, ⟨by (with_reducible repeat (first | refine blk_drewN ?_ _ | refine blk_drew ?_ | refine blk_alloc ?_ _)); refine blk_put (cs := #[.string ((rd_T25 l0 x3_1).f0), .string ((rd_T25 l0 x3_1).f1), .string ((rd_T25 l0 x3_1).f2), .int .i64 ((rd_T25 l0 x3_1).f3), .slice A696_4 ((rd_T25 l0 x3_1).f4).length c696_4, .slice none 0 0]) ?_ 5 _ rfl; (with_reducible repeat (first | refine blk_drewN ?_ _ | refine blk_drew ?_ | refine blk_alloc ?_ _)); refine blk_put (cs := #[.string ((rd_T25 l0 x3_1).f0), .string ((rd_T25 l0 x3_1).f1), .string ((rd_T25 l0 x3_1).f2), .int .i64 ((rd_T25 l0 x3_1).f3), .slice none 0 0, .slice none 0 0]) ?_ 4 _ rfl; (with_reducible repeat (first | refine blk_drewN ?_ _ | refine blk_drew ?_ | refine blk_alloc ?_ _)); refine blk_put (cs := #[.string ((rd_T25 l0 x3_1).f0), .string ((rd_T25 l0 x3_1).f1), .string ((rd_T25 l0 x3_1).f2), .int .i64 0, .slice none 0 0, .slice none 0 0]) ?_ 3 _ rfl; (with_reducible repeat (first | refine blk_drewN ?_ _ | refine blk_drew ?_ | refine blk_alloc ?_ _)); refine blk_put (cs := #[.string ((rd_T25 l0 x3_1).f0), .string ((rd_T25 l0 x3_1).f1), .string (⟨#[]⟩ : ByteArray), .int .i64 0, .slice none 0 0, .slice none 0 0]) ?_ 2 _ rfl; (with_reducible repeat (first | refine blk_drewN ?_ _ | refine blk_drew ?_ | refine blk_alloc ?_ _)); refine blk_put (cs := #[.string ((rd_T25 l0 x3_1).f0), .string (⟨#[]⟩ : ByteArray), .string (⟨#[]⟩ : ByteArray), .int .i64 0, .slice none 0 0, .slice none 0 0]) ?_ 1 _ rfl; (with_reducible repeat (first | refine blk_drewN ?_ _ | refine blk_drew ?_ | refine blk_alloc ?_ _)); refine blk_put (cs := #[.string (⟨#[]⟩ : ByteArray), .string (⟨#[]⟩ : ByteArray), .string (⟨#[]⟩ : ByteArray), .int .i64 0, .slice none 0 0, .slice none 0 0]) ?_ 0 _ rfl; exact bk_ BK697.out⟩, ⟨hb_⟩⟩
    rw [if_neg c8] at H
    have c8b0 : decide (100 < (((rd_T25 l0 x3_1).f0).size : Int)) = false := decide_eq_false c8
    have c8b1 : decide (100 < ((rd_T25 l0 x3_1).f0).size) = false := decide_eq_false (by omega)
    clear c8
    (first | rw [c8b0] | (simp only [i64_w, i32_w]; rw [c8b0]) | skip)
    by_cases c10 : (((rd_T25 l0 x3_1).f1).size : Int) > 600
    ·rw [if_pos c10] at H
     have c10b0 : decide (600 < (((rd_T25 l0 x3_1).f1).size : Int)) = true := decide_eq_true c10
     have c10b1 : decide (600 < ((rd_T25 l0 x3_1).f1).size) = true := decide_eq_true (by omega)
     clear c10
     have H' := q_ H
     clear H
     obtain ⟨hcz11_0, hfz11_0, hcz11_1, hfz11_1, hcz11_2, hfz11_2, hcz11_3, hfz11_3, hcz11_4, hfz11_4, hcz11_5, hfz11_5⟩ := b6_ BK697.out
     go_wp2
     go_meet
     case rel => exact ⟨_, (true), cl_, H', ⟨by have := HK1.out; first | omega | exact Nat.le_refl _⟩, ⟨by (with_reducible repeat (first | refine blk_drewN ?_ _ | refine blk_drew ?_ | refine blk_alloc ?_ _)); refine blk_put (cs := #[.string ((rd_T25 l0 x3_1).f0), .string ((rd_T25 l0 x3_1).f1), .string ((rd_T25 l0 x3_1).f2), .int .i64 ((rd_T25 l0 x3_1).f3), .slice A696_4 ((rd_T25 l0 x3_1).f4).length c696_4, .slice none 0 0]) ?_ 5 _ rfl; (with_reducible repeat (first | refine blk_drewN ?_ _ | refine blk_drew ?_ | refine blk_alloc ?_ _)); refine blk_put (cs := #[.string ((rd_T25 l0 x3_1).f0), .string ((rd_T25 l0 x3_1).f1), .string ((rd_T25 l0 x3_1).f2), .int .i64 ((rd_T25 l0 x3_1).f3), .slice none 0 0, .slice none 0 0]) ?_ 4 _ rfl; (with_reducible repeat (first | refine blk_drewN ?_ _ | refine blk_drew ?_ | refine blk_alloc ?_ _)); refine blk_put (cs := #[.string ((rd_T25 l0 x3_1).f0), .string ((rd_T25 l0 x3_1).f1), .string ((rd_T25 l0 x3_1).f2), .int .i64 0, .slice none 0 0, .slice none 0 0]) ?_ 3 _ rfl; (with_reducible repeat (first | refine blk_drewN ?_ _ | refine blk_drew ?_ | refine blk_alloc ?_ _)); refine blk_put (cs := #[.string ((rd_T25 l0 x3_1).f0), .string ((rd_T25 l0 x3_1).f1), .string (⟨#[]⟩ : ByteArray), .int .i64 0, .slice none 0 0, .slice none 0 0]) ?_ 2 _ rfl; (with_reducible repeat (first | refine blk_drewN ?_ _ | refine blk_drew ?_ | refine blk_alloc ?_ _)); refine blk_put (cs := #[.string ((rd_T25 l0 x3_1).f0), .string (⟨#[]⟩ : ByteArray), .string (⟨#[]⟩ : ByteArray), .int .i64 0, .slice none 0 0, .slice none 0 0]) ?_ 1 _ rfl; (with_reducible repeat (first | refine blk_drewN ?_ _ | refine blk_drew ?_ | refine blk_alloc ?_ _)); refine blk_put (cs := #[.string (⟨#[]⟩ : ByteArray), .string (⟨#[]⟩ : ByteArray), .string (⟨#[]⟩ : ByteArray), .int .i64 0, .slice none 0 0, .slice none 0 0]) ?_ 0 _ rfl; exact bk_ BK697.out⟩, ⟨hb_⟩⟩
    rw [if_neg c10] at H
    have c10b0 : decide (600 < (((rd_T25 l0 x3_1).f1).size : Int)) = false := decide_eq_false c10
    have c10b1 : decide (600 < ((rd_T25 l0 x3_1).f1).size) = false := decide_eq_false (by omega)
    clear c10
    by_cases c12 : (((rd_T25 l0 x3_1).f2).size : Int) > 600
    ·rw [if_pos c12] at H
     have c12b0 : decide (600 < (((rd_T25 l0 x3_1).f2).size : Int)) = true := decide_eq_true c12
     have c12b1 : decide (600 < ((rd_T25 l0 x3_1).f2).size) = true := decide_eq_true (by omega)
     clear c12
     have H' := q_ H
     clear H
     obtain ⟨hcz13_0, hfz13_0, hcz13_1, hfz13_1, hcz13_2, hfz13_2, hcz13_3, hfz13_3, hcz13_4, hfz13_4, hcz13_5, hfz13_5⟩ := b6_ BK697.out
     go_wp2
     go_meet
     case rel => exact ⟨_, (true), cl_, H', ⟨by have := HK1.out; first | omega | exact Nat.le_refl _⟩, ⟨by (with_reducible repeat (first | refine blk_drewN ?_ _ | refine blk_drew ?_ | refine blk_alloc ?_ _)); refine blk_put (cs := #[.string ((rd_T25 l0 x3_1).f0), .string ((rd_T25 l0 x3_1).f1), .string ((rd_T25 l0 x3_1).f2), .int .i64 ((rd_T25 l0 x3_1).f3), .slice A696_4 ((rd_T25 l0 x3_1).f4).length c696_4, .slice none 0 0]) ?_ 5 _ rfl; (with_reducible repeat (first | refine blk_drewN ?_ _ | refine blk_drew ?_ | refine blk_alloc ?_ _)); refine blk_put (cs := #[.string ((rd_T25 l0 x3_1).f0), .string ((rd_T25 l0 x3_1).f1), .string ((rd_T25 l0 x3_1).f2), .int .i64 ((rd_T25 l0 x3_1).f3), .slice none 0 0, .slice none 0 0]) ?_ 4 _ rfl; (with_reducible repeat (first | refine blk_drewN ?_ _ | refine blk_drew ?_ | refine blk_alloc ?_ _)); refine blk_put (cs := #[.string ((rd_T25 l0 x3_1).f0), .string ((rd_T25 l0 x3_1).f1), .string ((rd_T25 l0 x3_1).f2), .int .i64 0, .slice none 0 0, .slice none 0 0]) ?_ 3 _ rfl; (with_reducible repeat (first | refine blk_drewN ?_ _ | refine blk_drew ?_ | refine blk_alloc ?_ _)); refine blk_put (cs := #[.string ((rd_T25 l0 x3_1).f0), .string ((rd_T25 l0 x3_1).f1), .string (⟨#[]⟩ : ByteArray), .int .i64 0, .slice none 0 0, .slice none 0 0]) ?_ 2 _ rfl; (with_reducible repeat (first | refine blk_drewN ?_ _ | refine blk_drew ?_ | refine blk_alloc ?_ _)); refine blk_put (cs := #[.string ((rd_T25 l0 x3_1).f0), .string (⟨#[]⟩ : ByteArray), .string (⟨#[]⟩ : ByteArray), .int .i64 0, .slice none 0 0, .slice none 0 0]) ?_ 1 _ rfl; (with_reducible repeat (first | refine blk_drewN ?_ _ | refine blk_drew ?_ | refine blk_alloc ?_ _)); refine blk_put (cs := #[.string (⟨#[]⟩ : ByteArray), .string (⟨#[]⟩ : ByteArray), .string (⟨#[]⟩ : ByteArray), .int .i64 0, .slice none 0 0, .slice none 0 0]) ?_ 0 _ rfl; exact bk_ BK697.out⟩, ⟨hb_⟩⟩
    rw [if_neg c12] at H
    have c12b0 : decide (600 < (((rd_T25 l0 x3_1).f2).size : Int)) = false := decide_eq_false c12
    have c12b1 : decide (600 < ((rd_T25 l0 x3_1).f2).size) = false := decide_eq_false (by omega)
    clear c12
    by_cases c14 : (((rd_T25 l0 x3_1).f4).length : Int) > 40
    ·rw [if_pos c14] at H
     have c14b0 : decide (40 < (((rd_T25 l0 x3_1).f4).length : Int)) = true := decide_eq_true c14
     have c14b1 : decide (40 < ((rd_T25 l0 x3_1).f4).length) = true := decide_eq_true (by omega)
     clear c14
     have H' := q_ H
     clear H
     obtain ⟨hcz15_0, hfz15_0, hcz15_1, hfz15_1, hcz15_2, hfz15_2, hcz15_3, hfz15_3, hcz15_4, hfz15_4, hcz15_5, hfz15_5⟩ := b6_ BK697.out
     go_wp2
     go_meet
     case rel => exact ⟨_, (true), cl_, H', ⟨by have := HK1.out; first | omega | exact Nat.le_refl _⟩, ⟨by (with_reducible repeat (first | refine blk_drewN ?_ _ | refine blk_drew ?_ | refine blk_alloc ?_ _)); refine blk_put (cs := #[.string ((rd_T25 l0 x3_1).f0), .string ((rd_T25 l0 x3_1).f1), .string ((rd_T25 l0 x3_1).f2), .int .i64 ((rd_T25 l0 x3_1).f3), .slice A696_4 ((rd_T25 l0 x3_1).f4).length c696_4, .slice none 0 0]) ?_ 5 _ rfl; (with_reducible repeat (first | refine blk_drewN ?_ _ | refine blk_drew ?_ | refine blk_alloc ?_ _)); refine blk_put (cs := #[.string ((rd_T25 l0 x3_1).f0), .string ((rd_T25 l0 x3_1).f1), .string ((rd_T25 l0 x3_1).f2), .int .i64 ((rd_T25 l0 x3_1).f3), .slice none 0 0, .slice none 0 0]) ?_ 4 _ rfl; (with_reducible repeat (first | refine blk_drewN ?_ _ | refine blk_drew ?_ | refine blk_alloc ?_ _)); refine blk_put (cs := #[.string ((rd_T25 l0 x3_1).f0), .string ((rd_T25 l0 x3_1).f1), .string ((rd_T25 l0 x3_1).f2), .int .i64 0, .slice none 0 0, .slice none 0 0]) ?_ 3 _ rfl; (with_reducible repeat (first | refine blk_drewN ?_ _ | refine blk_drew ?_ | refine blk_alloc ?_ _)); refine blk_put (cs := #[.string ((rd_T25 l0 x3_1).f0), .string ((rd_T25 l0 x3_1).f1), .string (⟨#[]⟩ : ByteArray), .int .i64 0, .slice none 0 0, .slice none 0 0]) ?_ 2 _ rfl; (with_reducible repeat (first | refine blk_drewN ?_ _ | refine blk_drew ?_ | refine blk_alloc ?_ _)); refine blk_put (cs := #[.string ((rd_T25 l0 x3_1).f0), .string (⟨#[]⟩ : ByteArray), .string (⟨#[]⟩ : ByteArray), .int .i64 0, .slice none 0 0, .slice none 0 0]) ?_ 1 _ rfl; (with_reducible repeat (first | refine blk_drewN ?_ _ | refine blk_drew ?_ | refine blk_alloc ?_ _)); refine blk_put (cs := #[.string (⟨#[]⟩ : ByteArray), .string (⟨#[]⟩ : ByteArray), .string (⟨#[]⟩ : ByteArray), .int .i64 0, .slice none 0 0, .slice none 0 0]) ?_ 0 _ rfl; exact bk_ BK697.out⟩, ⟨hb_⟩⟩
    rw [if_neg c14] at H
    have c14b0 : decide (40 < (((rd_T25 l0 x3_1).f4).length : Int)) = false := decide_eq_false c14
    have c14b1 : decide (40 < ((rd_T25 l0 x3_1).f4).length) = false := decide_eq_false (by omega)
    clear c14
    have H' := q_ H
    clear H
    obtain ⟨hcz16_0, hfz16_0, hcz16_1, hfz16_1, hcz16_2, hfz16_2, hcz16_3, hfz16_3, hcz16_4, hfz16_4, hcz16_5, hfz16_5⟩ := b6_ BK697.out
    go_wp2
    go_meet
    case rel => exact ⟨_, (decide ((((rd_T25 l0 x3_1).f5).length : Int) > 40)), cl_, H', ⟨by have := HK1.out; first | omega | exact Nat.le_refl _⟩, ⟨by (with_reducible repeat (first | refine blk_drewN ?_ _ | refine blk_drew ?_ | refine blk_alloc ?_ _)); refine blk_put (cs := #[.string ((rd_T25 l0 x3_1).f0), .string ((rd_T25 l0 x3_1).f1), .string ((rd_T25 l0 x3_1).f2), .int .i64 ((rd_T25 l0 x3_1).f3), .slice A696_4 ((rd_T25 l0 x3_1).f4).length c696_4, .slice none 0 0]) ?_ 5 _ rfl; (with_reducible repeat (first | refine blk_drewN ?_ _ | refine blk_drew ?_ | refine blk_alloc ?_ _)); refine blk_put (cs := #[.string ((rd_T25 l0 x3_1).f0), .string ((rd_T25 l0 x3_1).f1), .string ((rd_T25 l0 x3_1).f2), .int .i64 ((rd_T25 l0 x3_1).f3), .slice none 0 0, .slice none 0 0]) ?_ 4 _ rfl; (with_reducible repeat (first | refine blk_drewN ?_ _ | refine blk_drew ?_ | refine blk_alloc ?_ _)); refine blk_put (cs := #[.string ((rd_T25 l0 x3_1).f0), .string ((rd_T25 l0 x3_1).f1), .string ((rd_T25 l0 x3_1).f2), .int .i64 0, .slice none 0 0, .slice none 0 0]) ?_ 3 _ rfl; (with_reducible repeat (first | refine blk_drewN ?_ _ | refine blk_drew ?_ | refine blk_alloc ?_ _)); refine blk_put (cs := #[.string ((rd_T25 l0 x3_1).f0), .string ((rd_T25 l0 x3_1).f1), .string (⟨#[]⟩ : ByteArray), .int .i64 0, .slice none 0 0, .slice none 0 0]) ?_ 2 _ rfl; (with_reducible repeat (first | refine blk_drewN ?_ _ | refine blk_drew ?_ | refine blk_alloc ?_ _)); refine blk_put (cs := #[.string ((rd_T25 l0 x3_1).f0), .string (⟨#[]⟩ : ByteArray), .string (⟨#[]⟩ : ByteArray), .int .i64 0, .slice none 0 0, .slice none 0 0]) ?_ 1 _ rfl; (with_reducible repeat (first | refine blk_drewN ?_ _ | refine blk_drew ?_ | refine blk_alloc ?_ _)); refine blk_put (cs := #[.string (⟨#[]⟩ : ByteArray), .string (⟨#[]⟩ : ByteArray), .string (⟨#[]⟩ : ByteArray), .int .i64 0, .slice none 0 0, .slice none 0 0]) ?_ 0 _ rfl; exact bk_ BK697.out⟩, ⟨hb_⟩⟩
   case rest =>
    clear HC5
    clear c3b0; clear c4b0; clear hcz7_0; clear hcz7_1; clear hcz7_2; clear hcz7_3; clear hcz7_4; clear hcz7_5; clear hfz7_0; clear hfz7_1; clear hfz7_2; clear hfz7_3; clear hfz7_4; clear hfz7_5; clear hx696_0; clear hx696_1; clear hx696_2; clear hx696_3; clear hx696_4; clear hx696_5; clear p696; clear q696
    obtain ⟨kq, x47_4, rfl, HA, HJ4, BK697, HB⟩ := hcut
    cases kq with
    | zero => exact absurd HA.out (by simp [zqx.j1])
    | succ kj4 =>
     have H := HA.out
     clear HA
     simp only [zqx.j1] at H
     by_cases c17 : x47_4 = true
     ·subst c17
      rw [if_pos rfl] at H
      obtain rfl := Option.some.inj H
      go_wp2
      go_ret
      exact ⟨ew_, hb_⟩
     replace c17 := Bool.eq_false_iff.mpr c17
     subst c17
     rw [if_neg (show ¬ (false = true) by decide)] at H
     have H' := q_ H
     clear H
     go_wp2
     go_loopg [5] kj4 (fun kq v5 w' => ∃ (x5_3 : Int), v5 = .int .i64 x5_3 ∧ Aside0 (zqx.l1 kq l0 x3_1 x5_3 ((rd_T25 l0 x3_1).f0) ((rd_T25 l0 x3_1).f1) ((rd_T25 l0 x3_1).f2) ((rd_T25 l0 x3_1).f3) ((rd_T25 l0 x3_1).f4) ((rd_T25 l0 x3_1).f5) = some r) ∧ Aside0 (kq ≤ kj4) ∧ Aside0 (w'.heap[gb697]? = some (.cells #[.string ((rd_T25 l0 x3_1).f0), .string ((rd_T25 l0 x3_1).f1), .string ((rd_T25 l0 x3_1).f2), .int .i64 ((rd_T25 l0 x3_1).f3), (.slice A696_4 ((rd_T25 l0 x3_1).f4).length c696_4), (.slice A696_5 ((rd_T25 l0 x3_1).f5).length c696_5)] 25 (0, 0))) ∧ Aside0 (Below w.heap.size w w'))
     case atStart => exact ⟨(0), cl_, H', ⟨Nat.le_refl _⟩, ⟨bk_ BK697.out⟩, ⟨hb_⟩⟩
     case round =>
      clear H'
      obtain ⟨x5_3, rfl, HA, HK3, BK697, HB⟩ := hrel
      cases gk with
      | zero => exact absurd HA.out (by simp [zqx.l1])
      | succ k3 =>
       have H := HA.out
       clear HA
       simp only [zqx.l1] at H
       by_cases c18 : x5_3 < (((rd_T25 l0 x3_1).f4).length : Int)
       ·rw [if_pos c18] at H
        have c18b0 : decide (x5_3 < (((rd_T25 l0 x3_1).f4).length : Int)) = true := decide_eq_true c18
        clear c18
        by_cases c19 : 0 ≤ x5_3
        rotate_left
        ·rw [if_neg c19] at H
         exact absurd H (by simp)
        rw [if_pos c19] at H
        have c19b0 : decide (0 ≤ x5_3) = true := decide_eq_true c19
        clear c19
        by_cases c20 : (((rd_T62 ((rd_T25 l0 x3_1).f4) x5_3).f0).size : Int) > 100
        ·rw [if_pos c20] at H
         have c20b0 : decide (100 < (((rd_T62 ((rd_T25 l0 x3_1).f4) x5_3).f0).size : Int)) = true := decide_eq_true c20
         have c20b1 : decide (100 < ((rd_T62 ((rd_T25 l0 x3_1).f4) x5_3).f0).size) = true := decide_eq_true (by omega)
         clear c20
         obtain rfl := Option.some.inj H
         obtain ⟨hcz21_0, hfz21_0, hcz21_1, hfz21_1, hcz21_2, hfz21_2, hcz21_3, hfz21_3, hcz21_4, hfz21_4, hcz21_5, hfz21_5⟩ := b6_ BK697.out
         have p698 : 0 ≤ (x5_3 : Int) := oa_
         have q698 : x5_3 < (((rd_T25 l0 x3_1).f4).length : Int) := oa_
         obtain ⟨ad698, e698, hx698_0, hx698_1, hx698_2, hx698_3⟩ := at_T62 HR696_4.out x5_3 p698 q698
         cases e698
         replace hx698_0 := cb_ HB.out hx698_0
         replace hx698_1 := cb_ HB.out hx698_1
         replace hx698_2 := cb_ HB.out hx698_2
         replace hx698_3 := cb_ HB.out hx698_3
         replace p698 := eq_true p698
         replace q698 := eq_true q698
         go_wp2
         go_ret
         exact ⟨ew_, hb_⟩
        rw [if_neg c20] at H
        have c20b0 : decide (100 < (((rd_T62 ((rd_T25 l0 x3_1).f4) x5_3).f0).size : Int)) = false := decide_eq_false c20
        have c20b1 : decide (100 < ((rd_T62 ((rd_T25 l0 x3_1).f4) x5_3).f0).size) = false := decide_eq_false (by omega)
        clear c20
        have H' := q_ H
        clear H
        obtain ⟨hcz22_0, hfz22_0, hcz22_1, hfz22_1, hcz22_2, hfz22_2, hcz22_3, hfz22_3, hcz22_4, hfz22_4, hcz22_5, hfz22_5⟩ := b6_ BK697.out
        have p698 : 0 ≤ (x5_3 : Int) := oa_
        have q698 : x5_3 < (((rd_T25 l0 x3_1).f4).length : Int) := oa_
        obtain ⟨ad698, e698, hx698_0, hx698_1, hx698_2, hx698_3⟩ := at_T62 HR696_4.out x5_3 p698 q698
        cases e698
        replace hx698_0 := cb_ HB.out hx698_0
        replace hx698_1 := cb_ HB.out hx698_1
        replace hx698_2 := cb_ HB.out hx698_2
        replace hx698_3 := cb_ HB.out hx698_3
        replace p698 := eq_true p698
        replace q698 := eq_true q698
        go_wp2
        go_roundg k3
        case measure => have := HK1.out; have := HJ4.out; have := HK3.out; omega
        case rel => exact ⟨(wrap64 (x5_3 + 1)), cl_, H', ⟨by have := HK1.out; have := HJ4.out; have := HK3.out; omega⟩, ⟨bk_ BK697.out⟩, ⟨hb_⟩⟩
       rw [if_neg c18] at H
       have c18b0 : decide (x5_3 < (((rd_T25 l0 x3_1).f4).length : Int)) = false := decide_eq_false c18
       clear c18
       have H' := q_ H
       clear H
       obtain ⟨hcz23_0, hfz23_0, hcz23_1, hfz23_1, hcz23_2, hfz23_2, hcz23_3, hfz23_3, hcz23_4, hfz23_4, hcz23_5, hfz23_5⟩ := b6_ BK697.out
       go_wp2
       go_loopg [6] k3 (fun kq v6 w' => ∃ (x6_4 : Int), v6 = .int .i64 x6_4 ∧ Aside0 (zqx.l2 kq l0 x3_1 x6_4 ((rd_T25 l0 x3_1).f0) ((rd_T25 l0 x3_1).f1) ((rd_T25 l0 x3_1).f2) ((rd_T25 l0 x3_1).f3) ((rd_T25 l0 x3_1).f4) ((rd_T25 l0 x3_1).f5) = some r) ∧ Aside0 (kq ≤ k3) ∧ Aside0 (w'.heap[gb697]? = some (.cells #[.string ((rd_T25 l0 x3_1).f0), .string ((rd_T25 l0 x3_1).f1), .string ((rd_T25 l0 x3_1).f2), .int .i64 ((rd_T25 l0 x3_1).f3), (.slice A696_4 ((rd_T25 l0 x3_1).f4).length c696_4), (.slice A696_5 ((rd_T25 l0 x3_1).f5).length c696_5)] 25 (0, 0))) ∧ Aside0 (Below w.heap.size w w'))
       case atStart => exact ⟨(0), cl_, H', ⟨Nat.le_refl _⟩, ⟨bk_ BK697.out⟩, ⟨hb_⟩⟩
       case round =>
        clear H'
        clear c18b0; clear hcz23_0; clear hcz23_1; clear hcz23_2; clear hcz23_3; clear hcz23_4; clear hcz23_5; clear hfz23_0; clear hfz23_1; clear hfz23_2; clear hfz23_3; clear hfz23_4; clear hfz23_5
        obtain ⟨x6_4, rfl, HA, HK4, BK697, HB⟩ := hrel
        cases gk with
        | zero => exact absurd HA.out (by simp [zqx.l2])
        | succ k4 =>
         have H := HA.out
         clear HA
         simp only [zqx.l2] at H
         by_cases c24 : x6_4 < (((rd_T25 l0 x3_1).f5).length : Int)
         rotate_left
         ·rw [if_neg c24] at H
          have c24b0 : decide (x6_4 < (((rd_T25 l0 x3_1).f5).length : Int)) = false := decide_eq_false c24
          clear c24
          have H' := q_ H
          clear H
          obtain ⟨hcz29_0, hfz29_0, hcz29_1, hfz29_1, hcz29_2, hfz29_2, hcz29_3, hfz29_3, hcz29_4, hfz29_4, hcz29_5, hfz29_5⟩ := b6_ BK697.out
          go_wp2
          go_roundg k4
          case measure => have := HK1.out; have := HJ4.out; have := HK3.out; have := HK4.out; omega
          case rel => exact ⟨(wrap64 (x3_1 + 1)), cl_, H', ⟨by have := HK1.out; have := HJ4.out; have := HK3.out; have := HK4.out; omega⟩, ⟨hb_⟩⟩
         rw [if_pos c24] at H
         have c24b0 : decide (x6_4 < (((rd_T25 l0 x3_1).f5).length : Int)) = true := decide_eq_true c24
         clear c24
         by_cases c25 : 0 ≤ x6_4
         rotate_left
         ·rw [if_neg c25] at H
          exact absurd H (by simp)
         rw [if_pos c25] at H
         have c25b0 : decide (0 ≤ x6_4) = true := decide_eq_true c25
         clear c25
         by_cases c26 : (((rd_T43 ((rd_T25 l0 x3_1).f5) x6_4).f3).size : Int) > 100
         ·rw [if_pos c26] at H
          have c26b0 : decide (100 < (((rd_T43 ((rd_T25 l0 x3_1).f5) x6_4).f3).size : Int)) = true := decide_eq_true c26
          have c26b1 : decide (100 < ((rd_T43 ((rd_T25 l0 x3_1).f5) x6_4).f3).size) = true := decide_eq_true (by omega)
          clear c26
          obtain rfl := Option.some.inj H
          obtain ⟨hcz27_0, hfz27_0, hcz27_1, hfz27_1, hcz27_2, hfz27_2, hcz27_3, hfz27_3, hcz27_4, hfz27_4, hcz27_5, hfz27_5⟩ := b6_ BK697.out
          have p699 : 0 ≤ (x6_4 : Int) := oa_
          have q699 : x6_4 < (((rd_T25 l0 x3_1).f5).length : Int) := oa_
          obtain ⟨ad699, e699, hx699_0, hx699_1, hx699_2, hx699_3, hx699_4⟩ := at_T43 HR696_5.out x6_4 p699 q699
          cases e699
          replace hx699_0 := cb_ HB.out hx699_0
          replace hx699_1 := cb_ HB.out hx699_1
          replace hx699_2 := cb_ HB.out hx699_2
          replace hx699_3 := cb_ HB.out hx699_3
          replace hx699_4 := cb_ HB.out hx699_4
          replace p699 := eq_true p699
          replace q699 := eq_true q699
          go_wp2
          go_ret
          exact ⟨ew_, hb_⟩
         rw [if_neg c26] at H
         have c26b0 : decide (100 < (((rd_T43 ((rd_T25 l0 x3_1).f5) x6_4).f3).size : Int)) = false := decide_eq_false c26
         have c26b1 : decide (100 < ((rd_T43 ((rd_T25 l0 x3_1).f5) x6_4).f3).size) = false := decide_eq_false (by omega)
         clear c26
         have H' := q_ H
         clear H
         obtain ⟨hcz28_0, hfz28_0, hcz28_1, hfz28_1, hcz28_2, hfz28_2, hcz28_3, hfz28_3, hcz28_4, hfz28_4, hcz28_5, hfz28_5⟩ := b6_ BK697.out
         have p699 : 0 ≤ (x6_4 : Int) := oa_
         have q699 : x6_4 < (((rd_T25 l0 x3_1).f5).length : Int) := oa_
         obtain ⟨ad699, e699, hx699_0, hx699_1, hx699_2, hx699_3, hx699_4⟩ := at_T43 HR696_5.out x6_4 p699 q699
         cases e699
         replace hx699_0 := cb_ HB.out hx699_0
         replace hx699_1 := cb_ HB.out hx699_1
         replace hx699_2 := cb_ HB.out hx699_2
         replace hx699_3 := cb_ HB.out hx699_3
         replace hx699_4 := cb_ HB.out hx699_4
         replace p699 := eq_true p699
         replace q699 := eq_true q699
         go_wp2
         go_roundg k4
         case measure => have := HK1.out; have := HJ4.out; have := HK3.out; have := HK4.out; omega
         case rel => exact ⟨(wrap64 (x6_4 + 1)), cl_, H', ⟨by have := HK1.out; have := HJ4.out; have := HK3.out; have := HK4.out; omega⟩, ⟨bk_ BK697.out⟩, ⟨hb_⟩⟩
end Go.Proofs.Ytenlmckahaniiaa.K
end
section
namespace Go.Proofs.Ytenlmckahaniiaa.K
open Go Go.Proofs Go.RowKit Go.Maps Go.Lib
def idxB (s : ByteArray) (c : Int) : Int := Lib.indexByte s.data.toList c.toNat.toUInt8
theorem stringslite_IndexByte_calls (s : ByteArray) (c : Int) (w : World) :
    Calls Try.prog 102 #[.string s, .int .u8 c] w fun e w' => e = .returned (.int .i64 (idxB s c)) ∧ w' = w := by
  go_enter Try.func102, Try.ntmps102
  go_wp2
  rw [run_callFunc_extern Try.func115 (by kernel_rfl) (by kernel_rfl) (by kernel_rfl) (e := Extern.BytealgIndexByte.indexByte) (by kernel_rfl), Lib.run_indexByteString]
  simp only [Result.andThen]
  rw [Oper.upon_value]
  go_wp2
  go_ret
  exact ⟨rfl, rfl⟩
theorem strings_IndexByte_calls (s : ByteArray) (c : Int) (w : World) :
    Calls Try.prog 87 #[.string s, .int .u8 c] w fun e w' => e = .returned (.int .i64 (idxB s c)) ∧ w' = w := by
  go_enter Try.func87, Try.ntmps87
  go_wp2_with (go_at_call 102; refine (stringslite_IndexByte_calls s c _).mono ?_; rintro e w' ⟨rfl, rfl⟩)
  go_ret
  exact ⟨rfl, rfl⟩
def Seen (w : World) (b : Nat) (l : List (List UInt8)) : Prop :=
  ∃ D : DataW Unit, w.ownsMap Try.prog 9 (plainElem Try.prog 4) b l.length D ∧ IsMap D ∧ ∀ s : ByteArray, D.atKey (.string s.data.toList) (.lit (.bool false)) = .lit (.bool (decide (s.data.toList ∈ l)))
theorem Seen.made (w : World) : Seen (w.alloc (.map #[] 0)) w.heap.size [] :=
  ⟨.map [], World.ownsMap_made _ _ _ _, ⟨[], rfl⟩, fun s => rfl⟩
theorem Seen.kept {w w' : World} {b : Nat} {l : List (List UInt8)} {row : Option Nat} (h : Seen w b l) (hg : w.grownBy w' row) (hne : some b ≠ row) : Seen w' b l := by
  obtain ⟨D, h1, h2, h3⟩ := h
  exact ⟨D, h1.kept hg hne, h2, h3⟩
theorem Seen.below {w w' : World} {b : Nat} {l : List (List UInt8)} (h : Seen w b l) (hb : Below w.heap.size w w') : Seen w' b l := by
  obtain ⟨D, ⟨es, clock, hh, F, hs, hD⟩, h2, h3⟩ := h
  exact ⟨D, ⟨es, clock, (hb.block b ((Array.getElem?_eq_some_iff.1 hh).1)).trans hh, F, hs, hD⟩, h2, h3⟩
theorem Seen.alloc {w : World} {b : Nat} {l : List (List UInt8)} (h : Seen w b l) (o : Obj) : Seen (w.alloc o) b l := by
  obtain ⟨D, h1, h2, h3⟩ := h
  exact ⟨D, h1.alloc o, h2, h3⟩
theorem Seen.set {w : World} {b : Nat} {l : List (List UInt8)} (h : Seen w b l) {p : Addr} (hp : b ≠ p.block) (u : Value) : Seen (w.setCell p u) b l := by
  obtain ⟨D, ⟨es, clock, hh, F, hs, hD⟩, h2, h3⟩ := h
  exact ⟨D, ⟨es, clock, (Below.heap_setCell w p u b hp).trans hh, F, hs, hD⟩, h2, h3⟩
theorem Seen.drewN {w : World} {b : Nat} {l : List (List UInt8)} (h : Seen w b l) (m : Nat) : Seen (w.drewN m) b l := h
theorem Seen.drew {w : World} {b : Nat} {l : List (List UInt8)} (h : Seen w b l) : Seen w.drew b l := h
theorem Seen.lt {w : World} {b : Nat} {l : List (List UInt8)} (h : Seen w b l) : b < w.heap.size := by
  obtain ⟨D, h1, _⟩ := h
  exact h1.lt
theorem key_ne {s t : List UInt8} (h : s ≠ t) : Lit.string s ≠ Lit.string t := by
  intro e
  injection e with e
  exact h e
theorem plainElem_bool_inv {P : Program} {e : TypeId} (he : P.underlying e = some .bool) {v : Value} {x : Bool} {ps : List MemPlace} (h : plainElem (H := Unit) P e v = some (.lit (.bool x), ps)) : v = .bool x := by
  unfold plainElem at h
  rw [he] at h
  cases v <;> simp at h
  rw [h.1]
theorem wpList_lookup_run {P : Program} {w : World} {ops : Array Oper} {rest : List Oper} {o : Oper} {a : Act} {Q : Exit → Act → World → Prop} (hg : o.guard = none) (m x : Operand) (t : TypeId) (hop : o.op = Op.lookup t m x false)
    {M X v : Value} (hm : a.eval m = M) (hx : a.eval x = X) (hrun : (Instr.lookup t M X false).run P w = .ok v w)
    (hK : wpList P ops Q rest (a.put o.dst v) w) : wpList P ops Q (o :: rest) a w := by
  refine wpList_plain hg fun K' hK' => ?_
  unfold Oper.wp
  simp [execOp, hop, hm, hx, hrun, Result.andThen]
  exact hK' _ _ hK
section
variable {ops : Array Oper} {rest : List Oper} {o : Oper} {a : Act} {Q : Exit → Act → World → Prop}
theorem zero4 (w : World) : (zeroValue 4).run Try.prog w = .ok (.bool false) w := by kernel_rfl
theorem law9 : Keyed Try.prog 9 := string_keyed Try.underlying9
theorem wpList_seen {w : World} (hg : o.guard = none) (m x : Operand) (hop : o.op = Op.lookup 98 m x false) (b : Nat) (l : List (List UInt8))
    (hm : a.eval m = .map (some b)) (hs : Seen w b l) (s : ByteArray) (hx : a.eval x = .string s) (hsz : s.size ≤ maxLen)
    (hK : wpList Try.prog ops Q rest (a.put o.dst (.bool (decide (s.data.toList ∈ l)))) w) : wpList Try.prog ops Q (o :: rest) a w := by
  obtain ⟨D, h1, _, h3⟩ := hs
  obtain ⟨v, ps, hrun, hv⟩ := h1.lookup law9 Try.underlying98 (zero4 w) (plainElem_bool Try.underlying4 false) (WideMaps.keyOf_string_mk Try.underlying9 hsz)
  rw [h3] at hv
  obtain rfl := plainElem_bool_inv Try.underlying4 hv
  exact wpList_lookup_run hg m x 98 hop hm hx hrun hK
theorem wpList_see {w : World} (hg : o.guard = none) (m x v : Operand) (hop : o.op = Op.mapUpdate 98 m x v) (b : Nat) (l : List (List UInt8))
    (hm : a.eval m = .map (some b)) (hs : Seen w b l) (hn : l.length < maxLen) (s : ByteArray) (hx : a.eval x = .string s) (hv : a.eval v = .bool true) (hsz : s.size ≤ maxLen)
    (hK : ∀ w', Seen w' b (l ++ [s.data.toList]) → w.grownBy w' (some b) → wpList Try.prog ops Q rest (a.put o.dst undef) w') : wpList Try.prog ops Q (o :: rest) a w := by
  obtain ⟨D, h1, h2, h3⟩ := hs
  refine wpList_mapUpdate_own w hg m x v 98 hop 9 4 law9 Try.underlying98 (plainElem (H := Unit) Try.prog 4) b l.length D hm h1 hn _ _ _ hx hv (WideMaps.keyOf_string_mk Try.underlying9 hsz) _ [] (plainElem_bool Try.underlying4 true) ?_
  intro w' hown hgrow
  refine hK w' ⟨_, by simpa using hown, ?_, ?_⟩ hgrow
  · obtain ⟨es, rfl⟩ := h2
    exact ⟨_, rfl⟩
  · intro t
    by_cases ht : t.data.toList = s.data.toList
    · rw [ht, atKey_put_same h2 (show WideAt.IsKeyLit (.string s.data.toList) from trivial)]
      simp
    · rw [atKey_put_other (key_ne ht), h3 t]
      simp [ht]
end
end Go.Proofs.Ytenlmckahaniiaa.K
end
section
namespace Go.Proofs.Ytenlmckahaniiaa.K
open Go Go.Proofs Go.RowKit Go.Lib Go.Proofs.YtenlmckahaniiaaW.PrintWords Go.Proofs.YtenlmckahaniiaaW.PrintLast
def pSym (name : ByteArray) (x : S62) : Bool := x.f3 && x.f0.toList == name.toList
theorem definesF_calls (x : S62) (q : Nat) (name : ByteArray) (w : World) (hq : w.cell? ⟨q, 0, none⟩ = some (.string name)) :
    Calls Try.prog 73 #[.agg #[.string x.f0, .int .i64 x.f1, .int .i64 x.f2, .bool x.f3], .pointer (some ⟨q, 0, none⟩)] w fun e w' => e = .returned (.bool (pSym name x)) ∧ Below w.heap.size w w' := by
  have hlt := World.block_lt_of_cell? w _ hq
  unfold pSym
  cases hx : x.f3 with
  | true =>
    go_enter Try.func73, Try.ntmps73
    go_wp2
    go_ret
    exact ⟨rfl, (Below.refl _ _).alloc (Nat.le_refl _) _⟩
  | false =>
    go_enter Try.func73, Try.ntmps73
    go_wp2
    go_ret
    exact ⟨rfl, (Below.refl _ _).alloc (Nat.le_refl _) _⟩
def idxF {α : Type} (p : α → Bool) (l : List α) : Int := match l.findIdx? p with | some i => i | none => -1
theorem idxF_found {α : Type} (p : α → Bool) (l : List α) (i : Nat) (h : i < l.length) (h0 : ∀ j (hj : j < l.length), j < i → p l[j] = false) (h1 : p l[i] = true) : idxF p l = i := by
  have : l.findIdx? p = some i := by
    rw [List.findIdx?_eq_some_iff_getElem]
    exact ⟨h, h1, fun j hj => by simp [h0 j (by omega) hj]⟩
  unfold idxF; rw [this]
theorem idxF_none {α : Type} (p : α → Bool) (l : List α) (h0 : ∀ j (hj : j < l.length), p l[j] = false) : idxF p l = -1 := by
  have : l.findIdx? p = none := by
    rw [List.findIdx?_eq_none_iff]
    intro x hx
    obtain ⟨j, hj, rfl⟩ := List.getElem_of_mem hx
    exact h0 j hj
  unfold idxF; rw [this]
theorem rd62_get (l : List S62) (i : Nat) (h : i < l.length) : rd_T62 l (i : Int) = l[i] := by
  simp [rd_T62, List.getD_eq_getElem?_getD, h]
theorem indexFunc_calls (p : S62 → Bool) (g q : Nat) (hg : ∀ args w, (callFunc g args).run Try.prog w = .ok (.enter g args) w) (A : Option Addr) (c : Nat) (l : List S62) (w : World) (hC : Kd.C k62 w A l.length l)
    (hp : ∀ x w1, Below w.heap.size w w1 → Calls Try.prog g #[.agg #[.string x.f0, .int .i64 x.f1, .int .i64 x.f2, .bool x.f3], .pointer (some ⟨q, 0, none⟩)] w1 fun e w' => e = .returned (.bool (p x)) ∧ Below w1.heap.size w1 w') :
    Calls Try.prog 101 #[.slice A l.length c, .func (.func g) #[] #[.pointer (some ⟨q, 0, none⟩)]] w fun e w' => e = .returned (.int .i64 (idxF p l)) ∧ Below w.heap.size w w' := by
  have HC := Aside0.mk hC
  have HP := Aside0.mk hp
  have HL := Aside0.mk (show l.length ≤ 9223372036854775807 from hC.2.1)
  clear hC hp
  go_enter Try.func101, Try.ntmps101
  go_wp2
  go_loopg [8] l.length (fun gk v8 w' => ∃ i : Nat, v8 = .int .i64 i ∧ i ≤ l.length ∧ l.length - i ≤ gk ∧ Aside0 (∀ j (hj : j < l.length), j < i → p l[j] = false) ∧ Aside0 (Below w.heap.size w w'))
  case atStart => exact ⟨0, rfl, by omega, by omega, ⟨fun j hj h => by omega⟩, ⟨Below.refl _ _⟩⟩
  case round =>
    obtain ⟨i, rfl, hi, hk, HN, HB⟩ := hrel
    by_cases h2 : i < l.length
    · have c2 : decide ((i : Int) < (l.length : Int)) = true := by simpa using h2
      have c3 : (0 ≤ (i : Int)) = True := by simp
      obtain ⟨ad, ead, hx_0, hx_1, hx_2, hx_3⟩ := at_T62 HC.out i (by omega) (by omega)
      cases ead
      replace hx_0 := (HB.out.cell (World.block_lt_of_cell? w _ hx_0)).trans hx_0
      replace hx_1 := (HB.out.cell (World.block_lt_of_cell? w _ hx_1)).trans hx_1
      replace hx_2 := (HB.out.cell (World.block_lt_of_cell? w _ hx_2)).trans hx_2
      replace hx_3 := (HB.out.cell (World.block_lt_of_cell? w _ hx_3)).trans hx_3
      have hrd := rd62_get l i h2
      obtain ⟨sy, hsy⟩ : ∃ sy, sy = l[i] := ⟨_, rfl⟩
      rw [hrd, ← hsy] at hx_0 hx_1 hx_2 hx_3
      simp only [Int.toNat_natCast] at hx_0 hx_1 hx_2 hx_3
      clear hrd
      have HSY := Aside0.mk hsy
      clear hsy
      cases hpx : p sy with
      | true =>
        have HPX := Aside0.mk hpx
        have HQ := Aside0.mk (show Calls Try.prog g _ wr _ from hpx ▸ HP.out sy wr HB.out)
        clear hpx
        go_wp2_with ((with_reducible refine HQ.out.mono ?_); rintro e w2 ⟨rfl, hb⟩; have HB2 := Aside0.mk (below_step HB.out hb); clear hb)
        go_ret
        refine ⟨?_, HB2.out⟩
        rw [idxF_found p l i h2 HN.out (by rw [← HSY.out]; exact HPX.out)]; rfl
      | false =>
        have HPX := Aside0.mk hpx
        have HQ := Aside0.mk (show Calls Try.prog g _ wr _ from hpx ▸ HP.out sy wr HB.out)
        clear hpx
        have HLI := HL.out
        go_wp2_with ((with_reducible refine HQ.out.mono ?_); rintro e w2 ⟨rfl, hb⟩; have HB2 := Aside0.mk (below_step HB.out hb); clear hb)
        go_roundg (l.length - (i + 1))
        case measure => omega
        case rel =>
          refine ⟨i + 1, by go_num, by omega, by omega, ⟨fun j hj hji => ?_⟩, HB2⟩
          by_cases e : j = i
          · subst e; have := HPX.out; rw [HSY.out] at this; exact this
          · exact HN.out j hj (by omega)
    · have c2 : decide ((i : Int) < (l.length : Int)) = false := by simpa using h2
      go_wp2
      go_ret
      exact ⟨by rw [idxF_none p l (fun j hj => HN.out j hj (by omega))]; rfl, HB.out⟩
theorem idxF_any {α : Type} (p : α → Bool) (l : List α) : decide (0 ≤ idxF p l) = l.any p := by
  unfold idxF
  cases h : l.findIdx? p with
  | none =>
    rw [List.findIdx?_eq_none_iff] at h
    have : l.any p = false := by rw [List.any_eq_false]; intro x hx; simp [h x hx]
    rw [this]; rfl
  | some i =>
    rw [List.findIdx?_eq_some_iff_getElem] at h
    obtain ⟨h1, h2, _⟩ := h
    have : l.any p = true := by rw [List.any_eq_true]; exact ⟨_, List.getElem_mem h1, h2⟩
    rw [this]; simp
theorem containsFunc_calls (p : S62 → Bool) (g q : Nat) (hg : ∀ args w, (callFunc g args).run Try.prog w = .ok (.enter g args) w) (A : Option Addr) (c : Nat) (l : List S62) (w : World) (hC : Kd.C k62 w A l.length l)
    (hp : ∀ x w1, Below w.heap.size w w1 → Calls Try.prog g #[.agg #[.string x.f0, .int .i64 x.f1, .int .i64 x.f2, .bool x.f3], .pointer (some ⟨q, 0, none⟩)] w1 fun e w' => e = .returned (.bool (p x)) ∧ Below w1.heap.size w1 w') :
    Calls Try.prog 72 #[.slice A l.length c, .func (.func g) #[] #[.pointer (some ⟨q, 0, none⟩)]] w fun e w' => e = .returned (.bool (l.any p)) ∧ Below w.heap.size w w' := by
  have HQ := Aside0.mk (indexFunc_calls p g q hg A c l w hC hp)
  clear hC hp hg
  rw [← idxF_any]
  generalize idxF p l = r at HQ ⊢
  go_enter Try.func72, Try.ntmps72
  go_wp2_with (go_at_call 101; (with_reducible refine HQ.out.mono ?_); rintro e w2 ⟨rfl, hb⟩; have HB2 := Aside0.mk hb; clear hb)
  go_ret
  exact ⟨rfl, HB2.out⟩
end Go.Proofs.Ytenlmckahaniiaa.K
end
section
namespace Go.Proofs.Ytenlmckahaniiaa.K
open Go Go.Proofs Go.RowKit Go.Lib Go.Proofs.YtenlmckahaniiaaW.PrintWords Go.Proofs.YtenlmckahaniiaaW.PrintLast
theorem rd25_get (l : List S25) (i : Nat) (h : i < l.length) : rd_T25 l (i : Int) = l[i] := by
  simp [rd_T25, List.getD_eq_getElem?_getD, h]
abbrev mv (x : S25) (A4 : Option Addr) (c4 : Nat) (A5 : Option Addr) (c5 : Nat) : Value := .agg #[.string x.f0, .string x.f1, .string x.f2, .int .i64 x.f3, .slice A4 x.f4.length c4, .slice A5 x.f5.length c5]
theorem index_calls (p : S25 → Bool) (g q : Nat) (hg : ∀ args w, (callFunc g args).run Try.prog w = .ok (.enter g args) w) (A : Option Addr) (c : Nat) (l : List S25) (w : World) (hC : Kd.C k25 w A l.length l)
    (hp : ∀ (x : S25) A4 c4 A5 c5 w1, Below w.heap.size w w1 → x.f4.length ≤ c4 → Kd.C k62 w1 A4 x.f4.length x.f4 → x.f5.length ≤ c5 → Kd.C k43 w1 A5 x.f5.length x.f5 → Calls Try.prog g #[.agg #[.string x.f0, .string x.f1, .string x.f2, .int .i64 x.f3, .slice A4 x.f4.length c4, .slice A5 x.f5.length c5], .pointer (some ⟨q, 0, none⟩)] w1 fun e w' => e = .returned (.bool (p x)) ∧ Below w1.heap.size w1 w') :
    Calls Try.prog 74 #[.slice A l.length c, .func (.func g) #[] #[.pointer (some ⟨q, 0, none⟩)]] w fun e w' => e = .returned (.int .i64 (idxF p l)) ∧ Below w.heap.size w w' := by
  have hu25 := Try.underlying25
  have HC := Aside0.mk hC
  have HP := Aside0.mk hp
  have HL := Aside0.mk (show l.length ≤ 9223372036854775807 from hC.2.1)
  clear hC hp
  go_enter Try.func74, Try.ntmps74
  go_wp2
  go_loopg [9] l.length (fun gk v9 w' => ∃ i : Nat, v9 = .int .i64 i ∧ i ≤ l.length ∧ l.length - i ≤ gk ∧ Aside0 (∀ j (hj : j < l.length), j < i → p l[j] = false) ∧ Aside0 (Below w.heap.size w w'))
  case atStart => exact ⟨0, rfl, by omega, by omega, ⟨fun j hj h => by omega⟩, ⟨Below.refl _ _⟩⟩
  case round =>
    obtain ⟨i, rfl, hi, hk, HN, HB⟩ := hrel
    by_cases h2 : i < l.length
    · have c2 : decide ((i : Int) < (l.length : Int)) = true := by simpa using h2
      have c3 : (0 ≤ (i : Int)) = True := by simp
      obtain ⟨ad, A4, c4, A5, c5, ead, hx_0, hx_1, hx_2, hx_3, hx_4, hx_5, hl4, hi4, hl5, hi5⟩ := at_T25 HC.out i (by omega) (by omega)
      cases ead
      replace hx_0 := (HB.out.cell (World.block_lt_of_cell? w _ hx_0)).trans hx_0
      replace hx_1 := (HB.out.cell (World.block_lt_of_cell? w _ hx_1)).trans hx_1
      replace hx_2 := (HB.out.cell (World.block_lt_of_cell? w _ hx_2)).trans hx_2
      replace hx_3 := (HB.out.cell (World.block_lt_of_cell? w _ hx_3)).trans hx_3
      replace hx_4 := (HB.out.cell (World.block_lt_of_cell? w _ hx_4)).trans hx_4
      replace hx_5 := (HB.out.cell (World.block_lt_of_cell? w _ hx_5)).trans hx_5
      have hrd := rd25_get l i h2
      obtain ⟨sy, hsy⟩ : ∃ sy, sy = l[i] := ⟨_, rfl⟩
      rw [hrd, ← hsy] at hx_0 hx_1 hx_2 hx_3 hx_4 hx_5 hl4 hi4 hl5 hi5
      simp only [Int.toNat_natCast] at hx_0 hx_1 hx_2 hx_3 hx_4 hx_5
      clear hrd
      have HSY := Aside0.mk hsy
      clear hsy
      have HQ := Aside0.mk (fun w1 (hb1 : Below wr.heap.size wr w1) => HP.out sy A4 c4 A5 c5 w1 (below_step HB.out hb1) hl4 (Kd.C_below (Kd.C_below hi4 HB.out) hb1) hl5 (Kd.C_below (Kd.C_below hi5 HB.out) hb1))
      clear hi4 hi5 hl4 hl5
      cases hpx : p sy with
      | true =>
        rw [hpx] at HQ
        have HPX := Aside0.mk hpx
        clear hpx
        go_wp2_with ((with_reducible refine (HQ.out _ (below_alloc (Below.refl _ _) _)).mono ?_); rintro e w2 ⟨rfl, hb⟩; have HB2 := Aside0.mk (below_step (below_alloc HB.out _) hb); clear hb)
        go_ret
        refine ⟨?_, HB2.out⟩
        rw [idxF_found p l i h2 HN.out (by rw [← HSY.out]; exact HPX.out)]; rfl
      | false =>
        rw [hpx] at HQ
        have HPX := Aside0.mk hpx
        clear hpx
        have HLI := HL.out
        go_wp2_with ((with_reducible refine (HQ.out _ (below_alloc (Below.refl _ _) _)).mono ?_); rintro e w2 ⟨rfl, hb⟩; have HB2 := Aside0.mk (below_step (below_alloc HB.out _) hb); clear hb)
        go_roundg (l.length - (i + 1))
        case measure => omega
        case rel =>
          refine ⟨i + 1, by go_num, by omega, by omega, ⟨fun j hj hji => ?_⟩, HB2⟩
          by_cases e : j = i
          · subst e; have := HPX.out; rw [HSY.out] at this; exact this
          · exact HN.out j hj (by omega)
    · have c2 : decide ((i : Int) < (l.length : Int)) = false := by simpa using h2
      go_wp2
      go_ret
      exact ⟨by rw [idxF_none p l (fun j hj => HN.out j hj (by omega))]; rfl, HB.out⟩
def pNam (name : ByteArray) (x : S25) : Bool := x.f0.toList == name.toList
theorem namedF_calls (x : S25) A4 c4 A5 c5 (q : Nat) (name : ByteArray) (w : World) (hq : w.cell? ⟨q, 0, none⟩ = some (.string name)) :
    Calls Try.prog 76 #[mv x A4 c4 A5 c5, .pointer (some ⟨q, 0, none⟩)] w fun e w' => e = .returned (.bool (pNam name x)) ∧ Below w.heap.size w w' := by
  have hlt := World.block_lt_of_cell? w _ hq
  unfold pNam
  go_enter Try.func76, Try.ntmps76
  go_wp2
  go_ret
  exact ⟨rfl, (Below.refl _ _).alloc (Nat.le_refl _) _⟩
theorem namedG_calls (x : S25) A4 c4 A5 c5 (q : Nat) (name : ByteArray) (w : World) (hq : w.cell? ⟨q, 0, none⟩ = some (.string name)) :
    Calls Try.prog 86 #[mv x A4 c4 A5 c5, .pointer (some ⟨q, 0, none⟩)] w fun e w' => e = .returned (.bool (pNam name x)) ∧ Below w.heap.size w w' := by
  have hlt := World.block_lt_of_cell? w _ hq
  unfold pNam
  go_enter Try.func86, Try.ntmps86
  go_wp2
  go_ret
  exact ⟨rfl, (Below.refl _ _).alloc (Nat.le_refl _) _⟩
def zq25.f (_k : Nat) (l0 : List S25) (name : ByteArray) : Option Int := some (idxF (pNam name) l0)
theorem zq25.mono (a : List S25) (b : ByteArray) (k : Nat) : LeO (zq25.f k a b) (zq25.f (k + 1) a b) := LeO.refl _
theorem zq25.calls (k : Nat) (A0 : Option Addr) (c0 : Nat) (l0 : List S25) (name : ByteArray) (r : Int) (q : Nat) (w : World) (hr0 : Kd.C k25 w A0 l0.length l0) (hc0 : l0.length ≤ c0) (hq : w.cell? ⟨q, 0, none⟩ = some (.string name)) (h : zq25.f k l0 name = some r) :
    Calls Try.prog 74 #[.slice A0 l0.length c0, .func (.func 86) #[] #[.pointer (some ⟨q, 0, none⟩)]] w fun e w' => e = .returned (.int .i64 r) ∧ Below w.heap.size w w' := by
  obtain rfl := Option.some.inj h
  exact index_calls (pNam name) 86 q (fun args w => enters_ Try.func86 (by kernel_rfl) rfl args w) A0 c0 l0 w hr0 (fun x A4 c4 A5 c5 w1 hb1 _ _ _ _ => namedG_calls x A4 c4 A5 c5 q name w1 ((hb1.cell (World.block_lt_of_cell? w _ hq)).trans hq))
end Go.Proofs.Ytenlmckahaniiaa.K
end
section
namespace Go.Proofs.Ytenlmckahaniiaa.K
open Go.RowKit Go.Proofs.YtenlmckahaniiaaW.PrintWords Go.Proofs.YtenlmckahaniiaaW.PrintLast
def zq1m.f (a0_0 : ByteArray) (a0_1 : ByteArray) (a0_2 : ByteArray) (a0_3 : Int) (l0_4 : List (S62)) (l0_5 : List (S43)) (a1 : ByteArray) : Option Bool := some (l0_4.any (pSym a1))
theorem zq1m.calls (a0_0 : ByteArray) (a0_1 : ByteArray) (a0_2 : ByteArray) (a0_3 : Int) (A0_4 : Option Addr) (c0_4 : Nat) (l0_4 : List (S62)) (A0_5 : Option Addr) (c0_5 : Nat) (l0_5 : List (S43)) (a1 : ByteArray) (r : Bool) (w : World) (hr0_4 : Kd.C k62 w A0_4 l0_4.length l0_4) (hc0_4 : l0_4.length ≤ c0_4) (hr0_5 : Kd.C k43 w A0_5 l0_5.length l0_5) (hc0_5 : l0_5.length ≤ c0_5) (h : zq1m.f a0_0 a0_1 a0_2 a0_3 l0_4 l0_5 a1 = some r) :
  Calls Try.prog 29 #[.agg #[.string a0_0, .string a0_1, .string a0_2, .int .i64 a0_3, .slice A0_4 l0_4.length c0_4, .slice A0_5 l0_5.length c0_5], .string a1] w fun e w' => e = .returned (.bool r) ∧ Below w.heap.size w w' := by
 obtain rfl := Option.some.inj h
 clear h
 have HR4 := q_ hr0_4
 clear hr0_4 hr0_5 hc0_4 hc0_5
 have HC := q_ (Kd.C_alloc (Kd.C_alloc HR4.out (.cells #[.string a0_0, .string a0_1, .string a0_2, .int .i64 a0_3, .slice A0_4 l0_4.length c0_4, .slice A0_5 l0_5.length c0_5] 25)) (.cells #[.string a1] 9))
 have HB := q_ (((Below.refl w.heap.size w).alloc (Nat.le_refl _) (.cells #[.string a0_0, .string a0_1, .string a0_2, .int .i64 a0_3, .slice A0_4 l0_4.length c0_4, .slice A0_5 l0_5.length c0_5] 25)).alloc (by simp) (.cells #[.string a1] 9))
 have HQ : Aside0 ((World.alloc (w.alloc (.cells #[.string a0_0, .string a0_1, .string a0_2, .int .i64 a0_3, .slice A0_4 l0_4.length c0_4, .slice A0_5 l0_5.length c0_5] 25)) (.cells #[.string a1] 9)).heap[w.heap.size + 1]? = some (.cells #[.string a1] 9)) := ⟨by have h_ := blk_new (w.alloc (.cells #[.string a0_0, .string a0_1, .string a0_2, .int .i64 a0_3, .slice A0_4 l0_4.length c0_4, .slice A0_5 l0_5.length c0_5] 25)) (.cells #[.string a1] 9); rwa [show ((w.alloc (.cells #[.string a0_0, .string a0_1, .string a0_2, .int .i64 a0_3, .slice A0_4 l0_4.length c0_4, .slice A0_5 l0_5.length c0_5] 25))).heap.size = w.heap.size + 1 by simp] at h_⟩
 go_enter Try.func29, Try.ntmps29
 go_wp2_with (go_at_call 72; (with_reducible refine (containsFunc_calls (pSym a1) 73 _ (fun args w => enters_ Try.func73 (by kernel_rfl) rfl args w) A0_4 c0_4 l0_4 _ HC.out (fun x w1 hb1 => definesF_calls x _ a1 w1 ((blk_cell (blk_below HQ.out hb1) 0).trans rfl))).mono ?_); rintro e w2 ⟨rfl, hb⟩; have HB2 := q_ (below_step HB.out hb); clear hb)
 go_ret
 exact ⟨rfl, HB2.out⟩
end Go.Proofs.Ytenlmckahaniiaa.K
end
section
namespace Go.Proofs.Ytenlmckahaniiaa.K
open Go.RowKit Go.Proofs.YtenlmckahaniiaaW.PrintWords Go.Proofs.YtenlmckahaniiaaW.PrintLast
theorem findF_calls (x : S25) A4 c4 A5 c5 (q : Nat) (name : ByteArray) (w : World) (hq : w.cell? ⟨q, 0, none⟩ = some (.string name)) (hl4 : x.f4.length ≤ c4) (hi4 : Kd.C k62 w A4 x.f4.length x.f4) (hl5 : x.f5.length ≤ c5) (hi5 : Kd.C k43 w A5 x.f5.length x.f5) :
  Calls Try.prog 75 #[mv x A4 c4 A5 c5, .pointer (some ⟨q, 0, none⟩)] w fun e w' => e = .returned (.bool (x.f4.any (pSym name))) ∧ Below w.heap.size w w' := by
 have hlt := World.block_lt_of_cell? w _ hq
 have hB := below_alloc (Below.refl w.heap.size w) (.cells #[.string x.f0, .string x.f1, .string x.f2, .int .i64 x.f3, .slice A4 x.f4.length c4, .slice A5 x.f5.length c5] 25)
 have HQ := q_ (zq1m.calls x.f0 x.f1 x.f2 x.f3 A4 c4 x.f4 A5 c5 x.f5 name _ _ (Kd.C_below hi4 hB) hl4 (Kd.C_below hi5 hB) hl5 rfl)
 have HB := q_ hB
 clear hB hi4 hi5 hl4 hl5
 generalize x.f4.any (pSym name) = r at HQ ⊢
 go_enter Try.func75, Try.ntmps75
 go_wp2_with (go_at_call 29; (with_reducible refine HQ.out.mono ?_); rintro e w2 ⟨rfl, hb⟩; have HB2 := q_ (below_step HB.out hb); clear hb)
 go_ret
 exact ⟨rfl, HB2.out⟩
abbrev fnd (l : List S25) (name : ByteArray) : Int := idxF (fun x : S25 => x.f4.any (pSym name)) l
def zq1t.f (l0 : List S25) (a1 : ByteArray) : Option (Int × Bool) := some (max (fnd l0 a1) 0, decide (0 ≤ fnd l0 a1))
theorem zq1t.calls (A0 : Option Addr) (c0 : Nat) (l0 : List S25) (a1 : ByteArray) (r1 : Int) (r2 : Bool) (w : World) (hr0 : Kd.C k25 w A0 l0.length l0) (hc0 : l0.length ≤ c0) (h : zq1t.f l0 a1 = some (r1, r2)) :
  Calls Try.prog 32 #[.slice A0 l0.length c0, .string a1] w fun e w' => e = .returned (.tuple #[.int .i64 r1, .bool r2]) ∧ Below w.heap.size w w' := by
 have h1 : max (fnd l0 a1) 0 = r1 := (Prod.mk.inj (Option.some.inj h)).1
 have h2 : decide (0 ≤ fnd l0 a1) = r2 := (Prod.mk.inj (Option.some.inj h)).2
 subst h1
 subst h2
 clear h
 have HQ := q_ (index_calls (fun x : S25 => x.f4.any (pSym a1)) 75 w.heap.size (fun args w => enters_ Try.func75 (by kernel_rfl) rfl args w) A0 c0 l0 (w.alloc (.cells #[.string a1] 9)) (Kd.C_alloc hr0 _) (fun x A4 c4 A5 c5 w1 hb1 hl4 hi4 hl5 hi5 => findF_calls x A4 c4 A5 c5 _ a1 w1 ((blk_cell (blk_below (blk_new w (.cells #[.string a1] 9)) hb1) 0).trans rfl) hl4 hi4 hl5 hi5))
 have HB := q_ (below_alloc (Below.refl w.heap.size w) (.cells #[.string a1] 9))
 clear hr0 hc0
 unfold fnd
 generalize idxF (fun x : S25 => x.f4.any (pSym a1)) l0 = r at HQ ⊢
 go_enter Try.func32, Try.ntmps32
 go_wp2_with (go_at_call 74; (with_reducible refine HQ.out.mono ?_); rintro e w2 ⟨rfl, hb⟩; have HB2 := q_ (below_step HB.out hb); clear hb)
 all_goals (go_ret2; refine ⟨?_, HB2.out⟩; first | rfl | (rw [Int.max_eq_left (by omega)]; done) | (rw [Int.max_eq_left (by omega)]; rfl) | (rw [Int.max_eq_right (by omega)]; done) | (rw [Int.max_eq_right (by omega)]; rfl) | (simp [Int.max_def] <;> omega))
end Go.Proofs.Ytenlmckahaniiaa.K
end
