/- Lemmas for several laws: what their proofs need of this seat's texts, in one place. -/
import Derived.Test.YtenlmckahaniiaaZcLe6
set_option linter.unusedVariables false
set_option linter.unusedSimpArgs false
set_option linter.unusedSectionVars false
set_option maxHeartbeats 8000000
set_option maxRecDepth 100000
section
namespace Go.Proofs.Ytenlmckahaniiaa.K
open Go.RowKit Go.Proofs.YtW.P Go.Proofs.YtW.L
def symOk (s : S62) : Bool := !(decide (s.f1 < 0)) && !(decide (s.f1 > 3)) && !(bits .and .i64 s.f2 65535 != s.f2)
def zqt.l0 : Nat → List (S62) → List (List UInt8) → Int → Option Int
  | 0, _, _, _ => none
  | k + 1, x0, m, x9 => if x9 < (x0.length : Int) then (if 0 ≤ x9 then ((zq1j.f k ((y4b x0 x9).f0)).bind fun t => (if t = true then (if (y4b x0 x9).f0.data.toList ∈ m then some 6 else (if symOk (y4b x0 x9) = true then (if m.length < 1000000 then (zqt.l0 k x0 (m ++ [(y4b x0 x9).f0.data.toList]) (wrap64 (x9 + 1))) else none) else some 2)) else some 4)) else none) else some 0
def zqt.f (k : Nat) (l0 : List (S62)) : Option Int := zqt.l0 k l0 [] 0
theorem zqt.mono_l : ∀ k, (∀ y0 y1 y2, LeO (zqt.l0 k y0 y1 y2) (zqt.l0 (k + 1) y0 y1 y2))
 | 0 => fun _ _ _ r h => by simp [zqt.l0] at h
 | k + 1 => by
  have ih0 := zqt.mono_l k
  intro y0 y1 y2
  unfold zqt.l0
  repeat' first
   | exact ih0 _ _ _
   | exact zq1j.mono _ _
   | exact LeO.refl _
   | exact LeO.none _
   | refine LeO.ite ?_ ?_
   | refine LeO.bind ?_ (fun _ => ?_)
theorem zqt.mono : ∀ a0 k, LeO (zqt.f k a0) (zqt.f (k + 1) a0) := fun a0 k => zqt.mono_l k a0 [] 0
theorem isName_size {k : Nat} {a : ByteArray} (h : zq1j.f k a = some true) : a.size ≤ 14 := by
 unfold zq1j.f at h
 split at h
 ·rename_i h0
  have e : a.data.toList = [] := by rw [← Lib.toList_data]; exact h0
  show a.data.size ≤ 14
  rw [← Array.length_toList, e]
  exact Nat.zero_le _
 ·split at h
  ·cases k <;> simp [zq1j.j0] at h
  ·omega
theorem box62 {w : World} {g : Nat} {z0 z1 z2 z3 : Value} (h : w.heap[g]? = some (.cells #[z0, z1, z2, z3] 62 (0, 0))) (a b c d : Value) :
  ((((w.setCell ⟨g, 0, none⟩ a).setCell ⟨g, 1, none⟩ b).setCell ⟨g, 2, none⟩ c).setCell ⟨g, 3, none⟩ d).heap[g]? = some (.cells #[a, b, c, d] 62 (0, 0)) :=
 y0t (y0t (y0t (y0t h 0 a rfl) 1 b rfl) 2 c rfl) 3 d rfl
theorem zqt.calls (k : Nat) (A0 : Option Addr) (c0 : Nat) (l0 : List (S62)) (r : Int) (w : World) (aX : Kd.C k62 w A0 l0.length l0) (aZ : l0.length ≤ c0) (h : zqt.f k l0 = some r) :
  Calls Try.prog 49 #[.slice A0 l0.length c0] w fun e w' => e = .returned (.int .i64 r) ∧ Below w.heap.size w w' := by
 have aY := q_ aX
 clear aX aZ
 have H' := q_ (show zqt.l0 k l0 [] 0 = some r from h)
 clear h
 have hmm := @run_makeMap Try.prog
 go_enter Try.func49, Try.ntmps49
 go_wp2
 clear hmm
 go_loopg [9] k (fun kq v9 w' => ∃ (m : List (List UInt8)) (x9 : Int), v9 = .int .i64 x9 ∧ Aside0 (zqt.l0 kq l0 m x9 = some r) ∧ Aside0 (kq ≤ k) ∧ Aside0 (Seen w' w.heap.size m) ∧ Aside0 (Below w.heap.size w w'))
 case atStart => exact ⟨[], 0, rfl, H', ⟨Nat.le_refl _⟩, ⟨Seen.made w⟩, ⟨(Below.refl _ _).alloc (Nat.le_refl _) _⟩⟩
 case round =>
  clear H'
  obtain ⟨m, x9, rfl, HA, HK1, HS, HB⟩ := hrel
  obtain _ | k1 := gk
  ·exact nn_ HA
  have H := HA.out
  clear HA
  simp only [zqt.l0] at H
  by_cases c2 : x9 < (l0.length : Int)
  rotate_left
  ·rw [if_neg c2] at H
   have aW := df_ c2
   obtain rfl := Option.some.inj H
   go_wp2
   go_ret
   exact ⟨rfl, HB.out⟩
  rw [if_pos c2] at H
  have aW := dt_ c2
  by_cases c3 : 0 ≤ x9
  rotate_left
  ·rw [if_neg c3] at H
   exact absurd H (by simp)
  rw [if_pos c3] at H
  have a0 := dt_ c3
  obtain ⟨t, A4, H⟩ := be_ H
  obtain ⟨ad, ead, aS, aT, aU, aV⟩ := y0e aY.out x9 c3 c2
  cases ead
  replace aS := cb_ HB.out aS
  replace aT := cb_ HB.out aT
  replace aU := cb_ HB.out aU
  replace aV := cb_ HB.out aV
  generalize hsym : y4b l0 x9 = sy at *
  have c2' := eq_true c2
  have c3' := eq_true c3
  cases t with
  | false =>
   rw [if_neg (show ¬ (false = true) by decide)] at H
   obtain rfl := Option.some.inj H
   clear H
   go_wp2_with (first | (refine gd_ 5 ?_; refine bx_ 5 (cs := #[.string nB_, .int .i64 0, .int .i64 0, .bool false]) 62 ?_; intro gb hg w1 hbox hb; have aM := q_ (y0k HB.out hb); have aL := q_ (HS.out.below hb); have GE : w.heap.size ≤ gb := (by rw [hg]; exact y0j HB.out); have NE : w.heap.size ≠ gb := (by have := HS.out.lt; omega); have aE : w1.cell? ⟨gb, 0, none⟩ = some (.string nB_) := (y0o hbox 0).trans rfl; have aI : w1.cell? ⟨gb, 1, none⟩ = some (.int .i64 0) := (y0o hbox 1).trans rfl; have aR : w1.cell? ⟨gb, 2, none⟩ = some (.int .i64 0) := (y0o hbox 2).trans rfl; have aQ : w1.cell? ⟨gb, 3, none⟩ = some (.bool false) := (y0o hbox 3).trans rfl; have aN := y0q hbox 0; have aO := y0q hbox 1; have aP := y0q hbox 2; have aH := y0q hbox 3; clear hb hg) | (go_at_call 48; (with_reducible refine (zq1j.calls k1 sy.f0 false _ A4).mono ?_); rintro e w2 ⟨rfl, aB⟩; have aA := y0n (box62 hbox _ _ _ _) aB; have aC := q_ (y0k (y0i (y0i (y0i (y0i aM.out GE) GE) GE) GE) aB); have aD := q_ (Seen.below (Seen.set (Seen.set (Seen.set (Seen.set aL.out NE _) NE _) NE _) NE _) aB); have aF : w2.cell? ⟨gb, 0, none⟩ = some (.string sy.f0) := (y0o aA 0).trans rfl; have aJ : w2.cell? ⟨gb, 1, none⟩ = some (.int .i64 sy.f1) := (y0o aA 1).trans rfl; have aK : w2.cell? ⟨gb, 2, none⟩ = some (.int .i64 sy.f2) := (y0o aA 2).trans rfl; have aG : w2.cell? ⟨gb, 3, none⟩ = some (.bool sy.f3) := (y0o aA 3).trans rfl; clear aB))
   go_ret
   exact ⟨rfl, aC.out⟩
  | true =>
   rw [if_pos rfl] at H
   have hsz : sy.f0.size ≤ maxLen := by have := isName_size A4; unfold maxLen; omega
   by_cases cm : sy.f0.data.toList ∈ m
   ·rw [if_pos cm] at H
    obtain rfl := Option.some.inj H
    clear H
    go_wp2_with (first | (refine gd_ 5 ?_; refine bx_ 5 (cs := #[.string nB_, .int .i64 0, .int .i64 0, .bool false]) 62 ?_; intro gb hg w1 hbox hb; have aM := q_ (y0k HB.out hb); have aL := q_ (HS.out.below hb); have GE : w.heap.size ≤ gb := (by rw [hg]; exact y0j HB.out); have NE : w.heap.size ≠ gb := (by have := HS.out.lt; omega); have aE : w1.cell? ⟨gb, 0, none⟩ = some (.string nB_) := (y0o hbox 0).trans rfl; have aI : w1.cell? ⟨gb, 1, none⟩ = some (.int .i64 0) := (y0o hbox 1).trans rfl; have aR : w1.cell? ⟨gb, 2, none⟩ = some (.int .i64 0) := (y0o hbox 2).trans rfl; have aQ : w1.cell? ⟨gb, 3, none⟩ = some (.bool false) := (y0o hbox 3).trans rfl; have aN := y0q hbox 0; have aO := y0q hbox 1; have aP := y0q hbox 2; have aH := y0q hbox 3; clear hb hg) | (go_at_call 48; (with_reducible refine (zq1j.calls k1 sy.f0 true _ A4).mono ?_); rintro e w2 ⟨rfl, aB⟩; have aA := y0n (box62 hbox _ _ _ _) aB; have aC := q_ (y0k (y0i (y0i (y0i (y0i aM.out GE) GE) GE) GE) aB); have aD := q_ (Seen.below (Seen.set (Seen.set (Seen.set (Seen.set aL.out NE _) NE _) NE _) NE _) aB); have aF : w2.cell? ⟨gb, 0, none⟩ = some (.string sy.f0) := (y0o aA 0).trans rfl; have aJ : w2.cell? ⟨gb, 1, none⟩ = some (.int .i64 sy.f1) := (y0o aA 1).trans rfl; have aK : w2.cell? ⟨gb, 2, none⟩ = some (.int .i64 sy.f2) := (y0o aA 2).trans rfl; have aG : w2.cell? ⟨gb, 3, none⟩ = some (.bool sy.f3) := (y0o aA 3).trans rfl; clear aB) | (at_lookup; refine y5v rfl _ _ rfl _ m rfl aD.out sy.f0 rfl hsz ?_; rw [show decide (sy.f0.data.toList ∈ m) = true from decide_eq_true cm]))
    go_ret
    exact ⟨rfl, aC.out⟩
   rw [if_neg cm] at H
   unfold symOk at H
   cases e1 : decide (sy.f1 < 0) with
   | true =>
    have e1' : (sy.f1 < 0) = True := eq_true (of_decide_eq_true e1)
    rw [e1, if_neg (by simp)] at H
    obtain rfl := Option.some.inj H
    clear H
    go_wp2_with (first | (refine gd_ 5 ?_; refine bx_ 5 (cs := #[.string nB_, .int .i64 0, .int .i64 0, .bool false]) 62 ?_; intro gb hg w1 hbox hb; have aM := q_ (y0k HB.out hb); have aL := q_ (HS.out.below hb); have GE : w.heap.size ≤ gb := (by rw [hg]; exact y0j HB.out); have NE : w.heap.size ≠ gb := (by have := HS.out.lt; omega); have aE : w1.cell? ⟨gb, 0, none⟩ = some (.string nB_) := (y0o hbox 0).trans rfl; have aI : w1.cell? ⟨gb, 1, none⟩ = some (.int .i64 0) := (y0o hbox 1).trans rfl; have aR : w1.cell? ⟨gb, 2, none⟩ = some (.int .i64 0) := (y0o hbox 2).trans rfl; have aQ : w1.cell? ⟨gb, 3, none⟩ = some (.bool false) := (y0o hbox 3).trans rfl; have aN := y0q hbox 0; have aO := y0q hbox 1; have aP := y0q hbox 2; have aH := y0q hbox 3; clear hb hg) | (go_at_call 48; (with_reducible refine (zq1j.calls k1 sy.f0 true _ A4).mono ?_); rintro e w2 ⟨rfl, aB⟩; have aA := y0n (box62 hbox _ _ _ _) aB; have aC := q_ (y0k (y0i (y0i (y0i (y0i aM.out GE) GE) GE) GE) aB); have aD := q_ (Seen.below (Seen.set (Seen.set (Seen.set (Seen.set aL.out NE _) NE _) NE _) NE _) aB); have aF : w2.cell? ⟨gb, 0, none⟩ = some (.string sy.f0) := (y0o aA 0).trans rfl; have aJ : w2.cell? ⟨gb, 1, none⟩ = some (.int .i64 sy.f1) := (y0o aA 1).trans rfl; have aK : w2.cell? ⟨gb, 2, none⟩ = some (.int .i64 sy.f2) := (y0o aA 2).trans rfl; have aG : w2.cell? ⟨gb, 3, none⟩ = some (.bool sy.f3) := (y0o aA 3).trans rfl; clear aB) | (at_lookup; refine y5v rfl _ _ rfl _ m rfl aD.out sy.f0 rfl hsz ?_; rw [show decide (sy.f0.data.toList ∈ m) = false from decide_eq_false cm]))
    go_ret
    exact ⟨rfl, aC.out⟩
   | false =>
    cases e2 : decide (sy.f1 > 3) with
    | true =>
     have e2' : decide (3 < sy.f1) = true := e2
     rw [e1, e2, if_neg (by simp)] at H
     obtain rfl := Option.some.inj H
     clear H
     go_wp2_with (first | (refine gd_ 5 ?_; refine bx_ 5 (cs := #[.string nB_, .int .i64 0, .int .i64 0, .bool false]) 62 ?_; intro gb hg w1 hbox hb; have aM := q_ (y0k HB.out hb); have aL := q_ (HS.out.below hb); have GE : w.heap.size ≤ gb := (by rw [hg]; exact y0j HB.out); have NE : w.heap.size ≠ gb := (by have := HS.out.lt; omega); have aE : w1.cell? ⟨gb, 0, none⟩ = some (.string nB_) := (y0o hbox 0).trans rfl; have aI : w1.cell? ⟨gb, 1, none⟩ = some (.int .i64 0) := (y0o hbox 1).trans rfl; have aR : w1.cell? ⟨gb, 2, none⟩ = some (.int .i64 0) := (y0o hbox 2).trans rfl; have aQ : w1.cell? ⟨gb, 3, none⟩ = some (.bool false) := (y0o hbox 3).trans rfl; have aN := y0q hbox 0; have aO := y0q hbox 1; have aP := y0q hbox 2; have aH := y0q hbox 3; clear hb hg) | (go_at_call 48; (with_reducible refine (zq1j.calls k1 sy.f0 true _ A4).mono ?_); rintro e w2 ⟨rfl, aB⟩; have aA := y0n (box62 hbox _ _ _ _) aB; have aC := q_ (y0k (y0i (y0i (y0i (y0i aM.out GE) GE) GE) GE) aB); have aD := q_ (Seen.below (Seen.set (Seen.set (Seen.set (Seen.set aL.out NE _) NE _) NE _) NE _) aB); have aF : w2.cell? ⟨gb, 0, none⟩ = some (.string sy.f0) := (y0o aA 0).trans rfl; have aJ : w2.cell? ⟨gb, 1, none⟩ = some (.int .i64 sy.f1) := (y0o aA 1).trans rfl; have aK : w2.cell? ⟨gb, 2, none⟩ = some (.int .i64 sy.f2) := (y0o aA 2).trans rfl; have aG : w2.cell? ⟨gb, 3, none⟩ = some (.bool sy.f3) := (y0o aA 3).trans rfl; clear aB) | (at_lookup; refine y5v rfl _ _ rfl _ m rfl aD.out sy.f0 rfl hsz ?_; rw [show decide (sy.f0.data.toList ∈ m) = false from decide_eq_false cm]))
     go_ret
     exact ⟨rfl, aC.out⟩
    | false =>
     have e2' : decide (3 < sy.f1) = false := e2
     cases e3 : (bits .and .i64 sy.f2 65535 != sy.f2) with
     | true =>
      rw [e1, e2, e3, if_neg (by simp)] at H
      obtain rfl := Option.some.inj H
      clear H
      go_wp2_with (first | (refine gd_ 5 ?_; refine bx_ 5 (cs := #[.string nB_, .int .i64 0, .int .i64 0, .bool false]) 62 ?_; intro gb hg w1 hbox hb; have aM := q_ (y0k HB.out hb); have aL := q_ (HS.out.below hb); have GE : w.heap.size ≤ gb := (by rw [hg]; exact y0j HB.out); have NE : w.heap.size ≠ gb := (by have := HS.out.lt; omega); have aE : w1.cell? ⟨gb, 0, none⟩ = some (.string nB_) := (y0o hbox 0).trans rfl; have aI : w1.cell? ⟨gb, 1, none⟩ = some (.int .i64 0) := (y0o hbox 1).trans rfl; have aR : w1.cell? ⟨gb, 2, none⟩ = some (.int .i64 0) := (y0o hbox 2).trans rfl; have aQ : w1.cell? ⟨gb, 3, none⟩ = some (.bool false) := (y0o hbox 3).trans rfl; have aN := y0q hbox 0; have aO := y0q hbox 1; have aP := y0q hbox 2; have aH := y0q hbox 3; clear hb hg) | (go_at_call 48; (with_reducible refine (zq1j.calls k1 sy.f0 true _ A4).mono ?_); rintro e w2 ⟨rfl, aB⟩; have aA := y0n (box62 hbox _ _ _ _) aB; have aC := q_ (y0k (y0i (y0i (y0i (y0i aM.out GE) GE) GE) GE) aB); have aD := q_ (Seen.below (Seen.set (Seen.set (Seen.set (Seen.set aL.out NE _) NE _) NE _) NE _) aB); have aF : w2.cell? ⟨gb, 0, none⟩ = some (.string sy.f0) := (y0o aA 0).trans rfl; have aJ : w2.cell? ⟨gb, 1, none⟩ = some (.int .i64 sy.f1) := (y0o aA 1).trans rfl; have aK : w2.cell? ⟨gb, 2, none⟩ = some (.int .i64 sy.f2) := (y0o aA 2).trans rfl; have aG : w2.cell? ⟨gb, 3, none⟩ = some (.bool sy.f3) := (y0o aA 3).trans rfl; clear aB) | (at_lookup; refine y5v rfl _ _ rfl _ m rfl aD.out sy.f0 rfl hsz ?_; rw [show decide (sy.f0.data.toList ∈ m) = false from decide_eq_false cm]))
      go_ret
      exact ⟨rfl, aC.out⟩
     | false =>
      rw [e1, e2, e3, if_pos (by simp)] at H
      by_cases cl : m.length < 1000000
      rotate_left
      ·rw [if_neg cl] at H
       exact absurd H (by simp)
      rw [if_pos cl] at H
      have H' := q_ H
      clear H
      go_wp2_with (first | (refine gd_ 5 ?_; refine bx_ 5 (cs := #[.string nB_, .int .i64 0, .int .i64 0, .bool false]) 62 ?_; intro gb hg w1 hbox hb; have aM := q_ (y0k HB.out hb); have aL := q_ (HS.out.below hb); have GE : w.heap.size ≤ gb := (by rw [hg]; exact y0j HB.out); have NE : w.heap.size ≠ gb := (by have := HS.out.lt; omega); have aE : w1.cell? ⟨gb, 0, none⟩ = some (.string nB_) := (y0o hbox 0).trans rfl; have aI : w1.cell? ⟨gb, 1, none⟩ = some (.int .i64 0) := (y0o hbox 1).trans rfl; have aR : w1.cell? ⟨gb, 2, none⟩ = some (.int .i64 0) := (y0o hbox 2).trans rfl; have aQ : w1.cell? ⟨gb, 3, none⟩ = some (.bool false) := (y0o hbox 3).trans rfl; have aN := y0q hbox 0; have aO := y0q hbox 1; have aP := y0q hbox 2; have aH := y0q hbox 3; clear hb hg) | (go_at_call 48; (with_reducible refine (zq1j.calls k1 sy.f0 true _ A4).mono ?_); rintro e w2 ⟨rfl, aB⟩; have aA := y0n (box62 hbox _ _ _ _) aB; have aC := q_ (y0k (y0i (y0i (y0i (y0i aM.out GE) GE) GE) GE) aB); have aD := q_ (Seen.below (Seen.set (Seen.set (Seen.set (Seen.set aL.out NE _) NE _) NE _) NE _) aB); have aF : w2.cell? ⟨gb, 0, none⟩ = some (.string sy.f0) := (y0o aA 0).trans rfl; have aJ : w2.cell? ⟨gb, 1, none⟩ = some (.int .i64 sy.f1) := (y0o aA 1).trans rfl; have aK : w2.cell? ⟨gb, 2, none⟩ = some (.int .i64 sy.f2) := (y0o aA 2).trans rfl; have aG : w2.cell? ⟨gb, 3, none⟩ = some (.bool sy.f3) := (y0o aA 3).trans rfl; clear aB) | (at_lookup; refine y5v rfl _ _ rfl _ m rfl aD.out sy.f0 rfl hsz ?_; rw [show decide (sy.f0.data.toList ∈ m) = false from decide_eq_false cm]) | (at_mapUpdate; refine wpList_see rfl _ _ _ rfl _ m rfl aD.out (by unfold maxLen; omega) sy.f0 rfl rfl hsz ?_; intro w3 a1 hgr))
      go_roundg k1
      case measure => omega
      case rel => exact ⟨_, _, rfl, H', ⟨by have := HK1.out; omega⟩, ⟨a1⟩, ⟨aC.out.grown hgr (y0j aC.out) (fun j hj => by cases hj; exact Nat.le_refl _)⟩⟩
end Go.Proofs.Ytenlmckahaniiaa.K
end
section
namespace Go.Proofs.Ytenlmckahaniiaa.K
open Go.RowKit Go.Proofs.YtW.P Go.Proofs.YtW.L
mutual
def zq16.j0 : Nat → Int → Int → Int → Int → ByteArray → Bool → Int → Int → Int → ByteArray → Bool → Option (Int)
  | 0, _, _, _, _, _, _, _, _, _, _, _ => none
  | k + 1, x7, x120000, x120001, x120002, x120003, x120004, x121000, x121001, x121002, x121003, x121004 => if x120001 < 0 then (zq16.j1 k true x120000 x120001 x120002 x120003 x120004 x121000 x121001 x121002 x121003 x121004) else (if (Int.tmod x120001 2) = 0 then (zq16.j1 k (decide (x120001 > (wrap64 (x7 - 2)))) x120000 x120001 x120002 x120003 x120004 x121000 x121001 x121002 x121003 x121004) else (zq16.j1 k true x120000 x120001 x120002 x120003 x120004 x121000 x121001 x121002 x121003 x121004))
def zq16.j1 : Nat → Bool → Int → Int → Int → ByteArray → Bool → Int → Int → Int → ByteArray → Bool → Option (Int)
  | 0, _, _, _, _, _, _, _, _, _, _, _ => none
  | k + 1, x20, x120000, x120001, x120002, x120003, x120004, x121000, x121001, x121002, x121003, x121004 => if x20 = true then (some 2) else (if x120000 < x121000 then (zq16.j2 k true x120000 x120001 x120002 x120003 x120004) else (if x120000 = x121000 then (zq16.j2 k (decide (x120001 ≤ x121001)) x120000 x120001 x120002 x120003 x120004) else (zq16.j2 k false x120000 x120001 x120002 x120003 x120004)))
def zq16.j2 : Nat → Bool → Int → Int → Int → ByteArray → Bool → Option (Int)
  | 0, _, _, _, _, _, _ => none
  | k + 1, x37, x120000, x120001, x120002, x120003, x120004 => if x37 = true then (some 2) else (if x120002 < 0 then (zq16.j3 k true x120000 x120001 x120002 x120003 x120004) else (if x120002 > 4 then (zq16.j3 k true x120000 x120001 x120002 x120003 x120004) else (if x120002 = 0 then (zq16.j3 k (!x120004) x120000 x120001 x120002 x120003 x120004) else (zq16.j3 k false x120000 x120001 x120002 x120003 x120004))))
def zq16.j3 : Nat → Bool → Int → Int → Int → ByteArray → Bool → Option (Int)
  | 0, _, _, _, _, _, _ => none
  | k + 1, x57, x120000, x120001, x120002, x120003, x120004 => if x57 = true then (some 2) else (if x120002 = 4 then ((zq1j.f k x120003).bind fun t121 => (if t121 = true then (some 0) else (some 4))) else (if x120003.toList = ([] : List UInt8) then (some 0) else (some 4)))
end
def zq16.f (k : Nat) (a0_0 : ByteArray) (a0_1 : ByteArray) (a0_2 : ByteArray) (a0_3 : Int) (l0_4 : List (S62)) (l0_5 : List (S43)) (a1_0 : Int) (a1_1 : Int) (a1_2 : Int) (a1_3 : ByteArray) (a1_4 : Bool) (a2_0 : Int) (a2_1 : Int) (a2_2 : Int) (a2_3 : ByteArray) (a2_4 : Bool) : Option (Int) := if a1_0 = 1 then (zq16.j0 k (a0_1.size : Int) a1_0 a1_1 a1_2 a1_3 a1_4 a2_0 a2_1 a2_2 a2_3 a2_4) else (if a1_0 = 2 then (zq16.j0 k (a0_2.size : Int) a1_0 a1_1 a1_2 a1_3 a1_4 a2_0 a2_1 a2_2 a2_3 a2_4) else (some 2))
theorem zq16.mono_l : ∀ k, (∀ y0 y1 y2 y3 y4 y5 y6 y7 y8 y9 y10, LeO (zq16.j0 k y0 y1 y2 y3 y4 y5 y6 y7 y8 y9 y10) (zq16.j0 (k + 1) y0 y1 y2 y3 y4 y5 y6 y7 y8 y9 y10)) ∧ (∀ y0 y1 y2 y3 y4 y5 y6 y7 y8 y9 y10, LeO (zq16.j1 k y0 y1 y2 y3 y4 y5 y6 y7 y8 y9 y10) (zq16.j1 (k + 1) y0 y1 y2 y3 y4 y5 y6 y7 y8 y9 y10)) ∧ (∀ y0 y1 y2 y3 y4 y5, LeO (zq16.j2 k y0 y1 y2 y3 y4 y5) (zq16.j2 (k + 1) y0 y1 y2 y3 y4 y5)) ∧ (∀ y0 y1 y2 y3 y4 y5, LeO (zq16.j3 k y0 y1 y2 y3 y4 y5) (zq16.j3 (k + 1) y0 y1 y2 y3 y4 y5))
 | 0 => ⟨fun _ _ _ _ _ _ _ _ _ _ _ r h => by simp [zq16.j0] at h, fun _ _ _ _ _ _ _ _ _ _ _ r h => by simp [zq16.j1] at h, fun _ _ _ _ _ _ r h => by simp [zq16.j2] at h, fun _ _ _ _ _ _ r h => by simp [zq16.j3] at h⟩
 | k + 1 => by
  obtain ⟨ih0, ih1, ih2, ih3⟩ := zq16.mono_l k
  refine ⟨?_, ?_, ?_, ?_⟩
  ·intro y0 y1 y2 y3 y4 y5 y6 y7 y8 y9 y10
   unfold zq16.j0
   with_reducible repeat' first | apply ih0 | apply ih1 | apply ih2 | apply ih3 | apply zq1j.mono | exact LeO.refl _ | exact LeO.none _ | refine LeO.ite ?_ ?_ | refine LeO.bind ?_ (fun _ => ?_)
  ·intro y0 y1 y2 y3 y4 y5 y6 y7 y8 y9 y10
   unfold zq16.j1
   with_reducible repeat' first | apply ih0 | apply ih1 | apply ih2 | apply ih3 | apply zq1j.mono | exact LeO.refl _ | exact LeO.none _ | refine LeO.ite ?_ ?_ | refine LeO.bind ?_ (fun _ => ?_)
  ·intro y0 y1 y2 y3 y4 y5
   unfold zq16.j2
   with_reducible repeat' first | apply ih0 | apply ih1 | apply ih2 | apply ih3 | apply zq1j.mono | exact LeO.refl _ | exact LeO.none _ | refine LeO.ite ?_ ?_ | refine LeO.bind ?_ (fun _ => ?_)
  ·intro y0 y1 y2 y3 y4 y5
   unfold zq16.j3
   with_reducible repeat' first | apply ih0 | apply ih1 | apply ih2 | apply ih3 | apply zq1j.mono | exact LeO.refl _ | exact LeO.none _ | refine LeO.ite ?_ ?_ | refine LeO.bind ?_ (fun _ => ?_)
theorem zq16.mono : ∀ a0 a1 a2 a3 a4 a5 a6 a7 a8 a9 a10 a11 a12 a13 a14 a15 k, LeO (zq16.f k a0 a1 a2 a3 a4 a5 a6 a7 a8 a9 a10 a11 a12 a13 a14 a15) (zq16.f (k + 1) a0 a1 a2 a3 a4 a5 a6 a7 a8 a9 a10 a11 a12 a13 a14 a15) := by
 intro a0 a1 a2 a3 a4 a5 a6 a7 a8 a9 a10 a11 a12 a13 a14 a15 k
 obtain ⟨ih0, ih1, ih2, ih3⟩ := zq16.mono_l k
 unfold zq16.f
 with_reducible repeat' first | apply ih0 | apply ih1 | apply ih2 | apply ih3 | apply zq1j.mono | exact LeO.refl _ | exact LeO.none _ | refine LeO.ite ?_ ?_ | refine LeO.bind ?_ (fun _ => ?_)
theorem zq16.calls (k : Nat) (bA : ByteArray) (aY : ByteArray) (aV : ByteArray) (a9 : Int) (a5 : Option Addr) (a4 : Nat) (aT : List (S62)) (a7 : Option Addr) (a6 : Nat) (aU : List (S43)) (aJ : Int) (aL : Int) (aK : Int) (aM : ByteArray) (aN : Bool) (aO : Int) (aP : Int) (aQ : Int) (aS : ByteArray) (aR : Bool) (r : Int) (w : World) (bI : Kd.C k62 w a5 aT.length aT) (bK : aT.length ≤ a4) (bJ : Kd.C k43 w a7 aU.length aU) (bH : aU.length ≤ a6) (h : zq16.f k bA aY aV a9 aT aU aJ aL aK aM aN aO aP aQ aS aR = some r) :
  Calls Try.prog 50 #[.agg #[.string bA, .string aY, .string aV, .int .i64 a9, .slice a5 aT.length a4, .slice a7 aU.length a6], .agg #[.int .i64 aJ, .int .i64 aL, .int .i64 aK, .string aM, .bool aN], .agg #[.int .i64 aO, .int .i64 aP, .int .i64 aQ, .string aS, .bool aR]] w fun e w' => e = .returned (.int .i64 r) ∧ Below w.heap.size w w' := by
 have kY := Try.underlying25
 have k3 := Try.underlying43
 have iT := q_ bI
 have jX := q_ bK
 clear bI bK
 have jV := q_ bJ
 have j4 := q_ bH
 clear bJ bH
 have HB := q_ (Below.refl w.heap.size w)
 have H : (if aJ = 1 then (zq16.j0 k (aY.size : Int) aJ aL aK aM aN aO aP aQ aS aR) else (if aJ = 2 then (zq16.j0 k (aV.size : Int) aJ aL aK aM aN aO aP aQ aS aR) else (some 2))) = some r := h
 clear h
 have iG := q_ H
 clear H
 go_enter Try.func50, Try.ntmps50
 go_upto_block 0 with (first | (refine gd_ 3 ?_; refine bx_ 3 (cs := #[.string bA, .string aY, .string aV, .int .i64 a9, .slice a5 aT.length a4, .slice a7 aU.length a6]) 25 ?_; intro bB hg w5 hbox hb; have aF := q_ (hbox); have jL := gw_ w hg (y0j hb_); have i4 := gw_ w hg (y0j hb_); replace HB := q_ (y0k hb_ hb); clear hb hbox hg) | (refine gd_ 4 ?_; refine bx_ 4 (cs := #[.int .i64 aJ, .int .i64 aL, .int .i64 aK, .string aM, .bool aN]) 43 ?_; intro bC hg w6 hbox hb; have aC := q_ (hbox); have j7 := gw_ w hg (y0j hb_); have jS := gw_ w hg (y0j hb_); replace HB := q_ (y0k hb_ hb); have aA := nl_ hg (bk_ aF.out); have aB := ng_ hg (bk_ aF.out); replace aF := q_ (y0n (bk_ aF.out) hb); clear hb hbox hg) | (refine gd_ 5 ?_; refine bx_ 5 (cs := #[.int .i64 aO, .int .i64 aP, .int .i64 aQ, .string aS, .bool aR]) 43 ?_; intro bD hg w7 hbox hb; have aG := q_ (hbox); have i0 := gw_ w hg (y0j hb_); have jR := gw_ w hg (y0j hb_); replace HB := q_ (y0k hb_ hb); have aH := nl_ hg (bk_ aF.out); have aI := ng_ hg (bk_ aF.out); replace aF := q_ (y0n (bk_ aF.out) hb); have aE := nl_ hg (bk_ aC.out); have aD := ng_ hg (bk_ aC.out); replace aC := q_ (y0n (bk_ aC.out) hb); clear hb hbox hg; have k2 := aB.out; have kU := aA.out; have k0 := aE.out; have k1 := aD.out; obtain ⟨fG, gB, fC, fV, f4, fP, eQ, eP, e0, c6⟩ := b5_ aC.out))
 (try simp only [Act.put, List.setIfInBounds_toArray, List.set_cons_zero, List.set_cons_succ])
 go_cut [7] (fun v7 wc => ∃ (kq : Nat) (bF : Int), v7 = .int .i64 bF ∧ Aside0 (zq16.j0 kq bF aJ aL aK aM aN aO aP aQ aS aR = some r) ∧ Aside0 (kq ≤ k) ∧ Aside0 (wc.heap[bB]? = some (.cells #[.string bA, .string aY, .string aV, .int .i64 a9, (.slice a5 aT.length a4), (.slice a7 aU.length a6)] 25 (0, 0))) ∧ Aside0 (wc.heap[bC]? = some (.cells #[.int .i64 aJ, .int .i64 aL, .int .i64 aK, .string aM, .bool aN] 43 (0, 0))) ∧ Aside0 (wc.heap[bD]? = some (.cells #[.int .i64 aO, .int .i64 aP, .int .i64 aQ, .string aS, .bool aR] 43 (0, 0))) ∧ Aside0 (Below w.heap.size w wc))
 case first =>
  have H := iG.out
  clear iG
  by_cases bU : aJ = 1
  ·rw [if_pos bU] at H
   have a3 := et_ bU
   have b5 := nf_ bU
   clear bU
   (first | rw [a3] | (simp only [y2h, y2g]; rw [a3]) | skip)
   have H' := q_ H
   clear H
   have i9 := aA.out
   have iJ := aB.out
   have i6 := aH.out
   have iQ := aI.out
   obtain ⟨gG, cP, g5, cM, fN, f8, e5, d6, e8, fZ, hJ, g8⟩ := b6_ aF.out
   go_wp2
   go_meet
   case rel => exact ⟨_, ((aY.size : Int)), cl_, H', ⟨oz_⟩, ⟨bk_ aF.out⟩, ⟨bk_ aC.out⟩, ⟨bk_ aG.out⟩, ⟨hb_⟩⟩
  rw [if_neg bU] at H
  have a3 := ef_ bU
  have b5 := nt_ bU
  (first | rw [a3] | (simp only [y2h, y2g]; rw [a3]) | skip)
  by_cases bT : aJ = 2
  rotate_left
  ·rw [if_neg bT] at H
   have cC := ef_ bT
   have bZ := nt_ bT
   obtain rfl := Option.some.inj H
   go_wp2
   go_ret
   exact ⟨ew_, hb_⟩
  rw [if_pos bT] at H
  have cC := et_ bT
  have bZ := nf_ bT
  clear bT
  have H' := q_ H
  clear H
  have jK := aA.out
  have jJ := aB.out
  have i7 := aH.out
  have jA := aI.out
  obtain ⟨gN, gL, eW, eK, hE, dN, dL, e6, eE, gK, e4, gH⟩ := b6_ aF.out
  go_wp2
  go_meet
  case rel => exact ⟨_, ((aV.size : Int)), cl_, H', ⟨oz_⟩, ⟨bk_ aF.out⟩, ⟨bk_ aC.out⟩, ⟨bk_ aG.out⟩, ⟨hb_⟩⟩
 clear iG
 obtain ⟨kq, bF, rfl, HA, bE, aF, aC, aG, HB⟩ := hcut
 obtain _ | kj3 := kq
 ·exact nn_ HA
 have H := HA.out
 clear HA
 simp only [zq16.j0] at H
 have bO := q_ H
 clear H
 go_upto_region 8 with (fail)
 go_cut [20] (fun kZ wc => ∃ (kq : Nat) (aZ : Bool), kZ = .bool aZ ∧ Aside0 (zq16.j1 kq aZ aJ aL aK aM aN aO aP aQ aS aR = some r) ∧ Aside0 (kq ≤ kj3) ∧ Aside0 (wc.heap[bB]? = some (.cells #[.string bA, .string aY, .string aV, .int .i64 a9, (.slice a5 aT.length a4), (.slice a7 aU.length a6)] 25 (0, 0))) ∧ Aside0 (wc.heap[bC]? = some (.cells #[.int .i64 aJ, .int .i64 aL, .int .i64 aK, .string aM, .bool aN] 43 (0, 0))) ∧ Aside0 (wc.heap[bD]? = some (.cells #[.int .i64 aO, .int .i64 aP, .int .i64 aQ, .string aS, .bool aR] 43 (0, 0))) ∧ Aside0 (Below w.heap.size w wc))
 case first =>
  have H := bO.out
  clear bO
  by_cases bY : aL < 0
  ·rw [if_pos bY] at H
   have a1 := dt_ bY
   clear bY
   (first | rw [a1] | (simp only [y2h, y2g]; rw [a1]) | skip)
   have H' := q_ H
   clear H
   have i5 := aB.out
   have kR := aA.out
   have i2 := aE.out
   have i3 := aD.out
   obtain ⟨cG, cO, hG, hA, eT, hU, c7, gJ, h4, hF⟩ := b5_ aC.out
   go_wp2
   go_meet
   case rel => exact ⟨_, (true), cl_, H', ⟨by have := bE.out; first | omega | exact Nat.le_refl _⟩, ⟨bk_ aF.out⟩, ⟨bk_ aC.out⟩, ⟨bk_ aG.out⟩, ⟨hb_⟩⟩
  rw [if_neg bY] at H
  have a1 := df_ bY
  clear bY
  (first | rw [a1] | (simp only [y2h, y2g]; rw [a1]) | skip)
  by_cases bL : (Int.tmod aL 2) = 0
  rotate_left
  ·rw [if_neg bL] at H
   have cA := ef_ bL
   have b9 := nt_ bL
   have H' := q_ H
   clear H
   have iO := aB.out
   have kM := aA.out
   have jD := aE.out
   have j9 := aD.out
   obtain ⟨hH, fA, fW, f5, fX, gC, hP, hZ, dR, iC⟩ := b5_ aC.out
   go_wp2
   go_meet
   case rel => exact ⟨_, (true), cl_, H', ⟨by have := bE.out; first | omega | exact Nat.le_refl _⟩, ⟨bk_ aF.out⟩, ⟨bk_ aC.out⟩, ⟨bk_ aG.out⟩, ⟨hb_⟩⟩
  rw [if_pos bL] at H
  have cA := et_ bL
  have b9 := nf_ bL
  clear bL
  have H' := q_ H
  clear H
  have j8 := aB.out
  have kK := aA.out
  have j6 := aE.out
  have kS := aD.out
  obtain ⟨h5, eO, iA, f3, gS, c4, gT, gO, dE, dU⟩ := b5_ aC.out
  go_wp2
  go_meet
  case rel => exact ⟨_, (decide (aL > (wrap64 (bF - 2)))), cl_, H', ⟨by have := bE.out; first | omega | exact Nat.le_refl _⟩, ⟨bk_ aF.out⟩, ⟨bk_ aC.out⟩, ⟨bk_ aG.out⟩, ⟨hb_⟩⟩
 clear bO
 obtain ⟨kq, aZ, rfl, HA, a8, aF, aC, aG, HB⟩ := hcut
 obtain _ | kj18 := kq
 ·exact nn_ HA
 have H := HA.out
 clear HA
 simp only [zq16.j1] at H
 by_cases g2 : aZ = true
 ·subst g2
  rw [if_pos rfl] at H
  obtain rfl := Option.some.inj H
  go_wp2
  go_ret
  exact ⟨ew_, hb_⟩
 replace g2 := Bool.eq_false_iff.mpr g2
 subst g2
 rw [if_neg (show ¬ (false = true) by decide)] at H
 have bP := q_ H
 clear H
 go_upto_region 10 with (fail)
 go_cut [37] (fun kX wc => ∃ (kq : Nat) (aW : Bool), kX = .bool aW ∧ Aside0 (zq16.j2 kq aW aJ aL aK aM aN = some r) ∧ Aside0 (kq ≤ kj18) ∧ Aside0 (wc.heap[bB]? = some (.cells #[.string bA, .string aY, .string aV, .int .i64 a9, (.slice a5 aT.length a4), (.slice a7 aU.length a6)] 25 (0, 0))) ∧ Aside0 (wc.heap[bC]? = some (.cells #[.int .i64 aJ, .int .i64 aL, .int .i64 aK, .string aM, .bool aN] 43 (0, 0))) ∧ Aside0 (wc.heap[bD]? = some (.cells #[.int .i64 aO, .int .i64 aP, .int .i64 aQ, .string aS, .bool aR] 43 (0, 0))) ∧ Aside0 (Below w.heap.size w wc))
 case first =>
  have H := bP.out
  clear bP
  by_cases bX : aJ < aO
  ·rw [if_pos bX] at H
   have a0 := dt_ bX
   clear bX
   (first | rw [a0] | (simp only [y2h, y2g]; rw [a0]) | skip)
   have H' := q_ H
   clear H
   have jF := aB.out
   have iY := aA.out
   have j5 := aE.out
   have iW := aD.out
   obtain ⟨gA, gU, cL, c0, cS, hR, gP, iB, c3, hM⟩ := b5_ aC.out
   have iM := aI.out
   have kF := aH.out
   obtain ⟨eN, d7, hT, dB, fD, fH, g0, cZ, eA, fY⟩ := b5_ aG.out
   go_wp2
   go_meet
   case rel => exact ⟨_, (true), cl_, H', ⟨by have := bE.out; have := a8.out; first | omega | exact Nat.le_refl _⟩, ⟨bk_ aF.out⟩, ⟨bk_ aC.out⟩, ⟨bk_ aG.out⟩, ⟨hb_⟩⟩
  rw [if_neg bX] at H
  have a0 := df_ bX
  clear bX
  (first | rw [a0] | (simp only [y2h, y2g]; rw [a0]) | skip)
  by_cases bS : aJ = aO
  rotate_left
  ·rw [if_neg bS] at H
   have b0 := ef_ bS
   have b6 := nt_ bS
   have H' := q_ H
   clear H
   have jB := aB.out
   have i1 := aA.out
   have jT := aE.out
   have kT := aD.out
   obtain ⟨e9, d2, d3, eX, d5, gI, h6, cD, hB, dK⟩ := b5_ aC.out
   have kH := aI.out
   have iU := aH.out
   obtain ⟨cQ, gD, hC, dG, gM, cV, cU, fE, dZ, h1⟩ := b5_ aG.out
   go_wp2
   go_meet
   case rel => exact ⟨_, (false), cl_, H', ⟨by have := bE.out; have := a8.out; first | omega | exact Nat.le_refl _⟩, ⟨bk_ aF.out⟩, ⟨bk_ aC.out⟩, ⟨bk_ aG.out⟩, ⟨hb_⟩⟩
  rw [if_pos bS] at H
  have b0 := et_ bS
  have b6 := nf_ bS
  clear bS
  have H' := q_ H
  clear H
  have iR := aB.out
  have iL := aA.out
  have iK := aE.out
  have iZ := aD.out
  obtain ⟨iE, cW, hW, dC, dM, gZ, cN, gE, dP, eD⟩ := b5_ aC.out
  have kB := aI.out
  have jC := aH.out
  obtain ⟨hV, g9, eM, fF, fL, h7, hI, hS, gQ, cH⟩ := b5_ aG.out
  go_wp2
  go_meet
  case rel => exact ⟨_, (decide (aL ≤ aP)), cl_, H', ⟨by have := bE.out; have := a8.out; first | omega | exact Nat.le_refl _⟩, ⟨bk_ aF.out⟩, ⟨bk_ aC.out⟩, ⟨bk_ aG.out⟩, ⟨hb_⟩⟩
 clear bP
 obtain ⟨kq, aW, rfl, HA, bG, aF, aC, aG, HB⟩ := hcut
 obtain _ | kj31 := kq
 ·exact nn_ HA
 have H := HA.out
 clear HA
 simp only [zq16.j2] at H
 by_cases eH : aW = true
 ·subst eH
  rw [if_pos rfl] at H
  obtain rfl := Option.some.inj H
  go_wp2
  go_ret
  exact ⟨ew_, hb_⟩
 replace eH := Bool.eq_false_iff.mpr eH
 subst eH
 rw [if_neg (show ¬ (false = true) by decide)] at H
 have bN := q_ H
 clear H
 go_upto_region 12 with (fail)
 go_cut [57] (fun kV wc => ∃ (kq : Nat) (aX : Bool), kV = .bool aX ∧ Aside0 (zq16.j3 kq aX aJ aL aK aM aN = some r) ∧ Aside0 (kq ≤ kj31) ∧ Aside0 (wc.heap[bB]? = some (.cells #[.string bA, .string aY, .string aV, .int .i64 a9, (.slice a5 aT.length a4), (.slice a7 aU.length a6)] 25 (0, 0))) ∧ Aside0 (wc.heap[bC]? = some (.cells #[.int .i64 aJ, .int .i64 aL, .int .i64 aK, .string aM, .bool aN] 43 (0, 0))) ∧ Aside0 (wc.heap[bD]? = some (.cells #[.int .i64 aO, .int .i64 aP, .int .i64 aQ, .string aS, .bool aR] 43 (0, 0))) ∧ Aside0 (Below w.heap.size w wc))
 case first =>
  have H := bN.out
  clear bN
  by_cases bW : aK < 0
  ·rw [if_pos bW] at H
   have a2 := dt_ bW
   clear bW
   (first | rw [a2] | (simp only [y2h, y2g]; rw [a2]) | skip)
   have H' := q_ H
   clear H
   have kI := aB.out
   have iV := aA.out
   have jU := aE.out
   have jP := aD.out
   obtain ⟨d4, gX, eV, f2, cJ, f7, dF, eB, g1, eY⟩ := b5_ aC.out
   go_wp2
   go_meet
   case rel => exact ⟨_, (true), cl_, H', ⟨by have := bE.out; have := a8.out; have := bG.out; first | omega | exact Nat.le_refl _⟩, ⟨bk_ aF.out⟩, ⟨bk_ aC.out⟩, ⟨bk_ aG.out⟩, ⟨hb_⟩⟩
  rw [if_neg bW] at H
  have a2 := df_ bW
  clear bW
  (first | rw [a2] | (simp only [y2h, y2g]; rw [a2]) | skip)
  by_cases bV : aK > 4
  ·rw [if_pos bV] at H
   have cB := dt_ bV
   clear bV
   have H' := q_ H
   clear H
   have jY := aB.out
   have jO := aA.out
   have kL := aE.out
   have jG := aD.out
   obtain ⟨h2, cF, cX, f0, g4, eI, c2, g3, f1, fM⟩ := b5_ aC.out
   go_wp2
   go_meet
   case rel => exact ⟨_, (true), cl_, H', ⟨by have := bE.out; have := a8.out; have := bG.out; first | omega | exact Nat.le_refl _⟩, ⟨bk_ aF.out⟩, ⟨bk_ aC.out⟩, ⟨bk_ aG.out⟩, ⟨hb_⟩⟩
  rw [if_neg bV] at H
  have cB := df_ bV
  clear bV
  by_cases bR : aK = 0
  rotate_left
  ·rw [if_neg bR] at H
   have b2 := ef_ bR
   have b8 := nt_ bR
   have H' := q_ H
   clear H
   have iN := aB.out
   have iX := aA.out
   have jZ := aE.out
   have kJ := aD.out
   obtain ⟨eC, d1, dX, dQ, fU, gF, gV, dJ, dO, fO⟩ := b5_ aC.out
   go_wp2
   go_meet
   case rel => exact ⟨_, (false), cl_, H', ⟨by have := bE.out; have := a8.out; have := bG.out; first | omega | exact Nat.le_refl _⟩, ⟨bk_ aF.out⟩, ⟨bk_ aC.out⟩, ⟨bk_ aG.out⟩, ⟨hb_⟩⟩
  rw [if_pos bR] at H
  have b2 := et_ bR
  have b8 := nf_ bR
  clear bR
  have H' := q_ H
  clear H
  have iP := aB.out
  have jH := aA.out
  have iH := aE.out
  have kQ := aD.out
  obtain ⟨eF, cK, hD, dY, hN, dH, fB, c1, d8, cY⟩ := b5_ aC.out
  go_wp2
  go_meet
  case rel => exact ⟨_, (!aN), cl_, H', ⟨by have := bE.out; have := a8.out; have := bG.out; first | omega | exact Nat.le_refl _⟩, ⟨bk_ aF.out⟩, ⟨bk_ aC.out⟩, ⟨bk_ aG.out⟩, ⟨hb_⟩⟩
 clear bN
 obtain ⟨kq, aX, rfl, HA, kW, aF, aC, aG, HB⟩ := hcut
 obtain _ | kj50 := kq
 ·exact nn_ HA
 have H := HA.out
 clear HA
 simp only [zq16.j3] at H
 by_cases fK : aX = true
 ·subst fK
  rw [if_pos rfl] at H
  obtain rfl := Option.some.inj H
  go_wp2
  go_ret
  exact ⟨ew_, hb_⟩
 replace fK := Bool.eq_false_iff.mpr fK
 subst fK
 rw [if_neg (show ¬ (false = true) by decide)] at H
 by_cases bQ : aK = 4
 rotate_left
 ·rw [if_neg bQ] at H
  have b3 := ef_ bQ
  have b7 := nt_ bQ
  by_cases bM : aM.toList = ([] : List UInt8)
  rotate_left
  ·rw [if_neg bM] at H
   have b1 := ef_ bM
   have b4 := nt_ bM
   obtain rfl := Option.some.inj H
   have jN := aB.out
   have jM := aA.out
   have kE := aE.out
   have kG := aD.out
   obtain ⟨cT, hK, gR, cE, hX, g6, dA, dS, e7, dW⟩ := b5_ aC.out
   go_wp2
   go_ret
   exact ⟨ew_, hb_⟩
  rw [if_pos bM] at H
  have b1 := et_ bM
  have b4 := nf_ bM
  clear bM
  obtain rfl := Option.some.inj H
  have kN := aB.out
  have kC := aA.out
  have kD := aE.out
  have kO := aD.out
  obtain ⟨eL, fS, fQ, dI, h3, f6, d0, fI, e1, eS⟩ := b5_ aC.out
  go_wp2
  go_ret
  exact ⟨ew_, hb_⟩
 rw [if_pos bQ] at H
 have b3 := et_ bQ
 have b7 := nf_ bQ
 clear bQ
 obtain ⟨iF, i8, H⟩ := bq_ H
 (try dsimp only at H)
 by_cases fT : iF = true
 ·subst fT
  rw [if_pos rfl] at H
  obtain rfl := Option.some.inj H
  have jW := aB.out
  have jQ := aA.out
  have iI := aE.out
  have kP := aD.out
  obtain ⟨cR, eR, e2, cI, h8, f9, h9, gW, c5, h0⟩ := b5_ aC.out
  go_wp2_with (first | (go_at_call 48; (with_reducible refine (zq1j.calls kj50 aM true _ i8.out).mono ?_); rintro e k4 ⟨rfl, hb⟩; replace aF := q_ (y0n (bk_ aF.out) hb); replace aC := q_ (y0n (bk_ aC.out) hb); replace aG := q_ (y0n (bk_ aG.out) hb); replace HB := q_ (y0k hb_ hb); obtain ⟨c8, hO, eU, c9, iD, fJ, hQ, gY, eZ, dV⟩ := b5_ aC.out))
  go_ret
  exact ⟨ew_, hb_⟩
 replace fT := Bool.eq_false_iff.mpr fT
 subst fT
 rw [if_neg (show ¬ (false = true) by decide)] at H
 obtain rfl := Option.some.inj H
 have iS := aB.out
 have jE := aA.out
 have jI := aE.out
 have kA := aD.out
 obtain ⟨eJ, dT, dD, hY, d9, fR, hL, g7, e3, eG⟩ := b5_ aC.out
 go_wp2_with (first | (go_at_call 48; (with_reducible refine (zq1j.calls kj50 aM false _ i8.out).mono ?_); rintro e k5 ⟨rfl, hb⟩; replace aF := q_ (y0n (bk_ aF.out) hb); replace aC := q_ (y0n (bk_ aC.out) hb); replace aG := q_ (y0n (bk_ aG.out) hb); replace HB := q_ (y0k hb_ hb)))
 go_ret
 exact ⟨ew_, hb_⟩
end Go.Proofs.Ytenlmckahaniiaa.K
end
