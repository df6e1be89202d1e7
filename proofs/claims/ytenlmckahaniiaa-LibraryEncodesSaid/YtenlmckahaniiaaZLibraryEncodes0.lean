/- Lemmas for the law LibraryEncodes: what its proof needs beyond what it shares. -/
import Derived.Test.YtenlmckahaniiaaZcLe19
set_option linter.unusedVariables false
set_option linter.unusedSimpArgs false
set_option linter.unusedSectionVars false
set_option maxHeartbeats 8000000
set_option maxRecDepth 100000
section
section
namespace Go.Proofs.YtW.P
open Go.RowKit
theorem KeepBut.of_below {w w1 : World} (h : Below w.heap.size w w1) (g : Nat) (row : Option Nat) : KeepBut w w1 g row := ⟨h.size, fun i hi _ _ => h.block i hi⟩
theorem own_base' {w : World} {base : Nat} {e : TypeId} {size n : Nat} {v : Value} {xs : List Value} (h : w.ownsRow base e size v n xs) : v.ownBlock = none ∨ ∃ b, v.ownBlock = some b ∧ base ≤ b := by
  cases hv : v.ownBlock with
  | none => exact .inl rfl
  | some b => exact .inr ⟨b, rfl, y3o h b hv⟩
theorem y2w {w W : World} {g : Nat} {row : Option Nat} (h : KeepBut w W g row) : w.heap.size ≤ W.heap.size := h.1
namespace Kd
section
variable {α β : Type} {d : Kd α} {d' : Kd β} {e e' base base' n : Nat} {ok ok' : Nat → Prop} {w W w1 W1 : World} {v u : Value} {xs : List α} {ys : List β} {A : Option Addr} {c : Nat}
theorem R_base2 (h : d.R e w base ok v xs) : v.ownBlock = none ∨ ∃ k, v.ownBlock = some k ∧ base ≤ k := by
  obtain ⟨inner, ho⟩ := R_own h
  exact own_base' ho
end
end Kd
namespace Kd
section
variable {α : Type} {d : Kd α} {e base g : Nat} {ok : Nat → Prop} {w w1 : World} {v : Value} {xs : List α} {o : Obj}
theorem R_elderB (h : d.R e w base ok v xs) (a : Nat) (ha : w.heap.size ≤ a) : d.R e w base (fun k => ok k ∧ k ≠ a) v xs := R_mono (y05 h) (fun k hk => ⟨hk.1, by have := hk.2.2.1; omega⟩)
end
end Kd
end Go.Proofs.YtW.P
end
section
namespace Go.Proofs.YtW.P
open Go.RowKit
namespace Kd
section
variable {α β : Type} {d : Kd α} {d' : Kd β} {e e' : Nat} {w w1 W : World} {base b : Nat} {ok ok' okv oku : Nat → Prop} {u v : Value} {xs : List α} {ys : List β}
theorem S_lt (h : S d e w base ok v xs) : ∀ k, v.ownBlock = some k → k < w.heap.size := R_lt (S_R h)
theorem S_base (h : S d e w base ok v xs) : ∀ k, v.ownBlock = some k → base ≤ k := R_base (S_R h)
theorem S_elder' (h : S d e W base ok u xs) (hbase : ∀ k, v.ownBlock = some k → W.heap.size ≤ k) (hb : Below W.heap.size W w1) : S d e w1 base (fun k => ok k ∧ some k ≠ v.ownBlock) u xs := by
  obtain ⟨f, h⟩ := h
  exact ⟨f, R_elder' h hbase hb⟩
theorem S_new' (h : S d e w1 W.heap.size ok v xs) (hlt : ∀ k, u.ownBlock = some k → k < W.heap.size) : S d e w1 W.heap.size (fun k => ok k ∧ some k ≠ u.ownBlock) v xs := by
  obtain ⟨f, h⟩ := h
  exact ⟨f, R_new' h hlt⟩
end
end Kd
end Go.Proofs.YtW.P
end
end
section
namespace Go.Proofs.Ytenlmckahaniiaa.K
open Go.RowKit Go.Proofs.YtW.P Go.Proofs.YtW.L
attribute [local go_sem high] eqA43 eqA62
end Go.Proofs.Ytenlmckahaniiaa.K
end
section
namespace Go.Proofs.Ytenlmckahaniiaa.Oct
open Go Go.RowKit Go.Proofs.YtW.P Go.Proofs.YtW.M Go.Proofs.Ytenlmckahaniiaa.MyBits Go.Proofs.Ytenlmckahaniiaa.MyStr
theorem lei_unle (l : List Int) (h : ∀ x ∈ l, 0 ≤ x ∧ x < 256) : lei (unle l) l.length = l := by
  induction l with
  | nil => rfl
  | cons b l ih =>
    have h1 := h b List.mem_cons_self
    have h2 := ih (fun x hx => h x (List.mem_cons_of_mem _ hx))
    unfold unle
    show lei (b + 256 * unle l) (l.length + 1) = _
    unfold lei
    have e1 : (b + 256 * unle l) % 256 = b := by omega
    have e2 : (b + 256 * unle l) / 256 = unle l := by omega
    rw [e1, e2, h2]
theorem le_num (l : List UInt8) : le (num l) l.length = l := by
  unfold le num
  have := lei_unle (ints l) (y2m l)
  rw [y2l] at this
  rw [this, byt_ints]
theorem opened_eq (l : List UInt8) (h : opened l) : seal_ (l.take (l.length - 4)) = l := by
  unfold seal_; rw [← h.2, List.take_append_drop]
end Go.Proofs.Ytenlmckahaniiaa.Oct
end
section
namespace Go.Proofs.Ytenlmckahaniiaa.K
open Go.RowKit Go.Proofs.YtW.P Go.Proofs.YtW.L
mutual
def zq14.j0 : Nat → Int → Int → Option (ByteArray)
  | 0, _, _ => none
  | k + 1, x0, x1 => zq14.l0 k x0 x1 ([] : List Int) 0
def zq14.l0 : Nat → Int → Int → List Int → Int → Option (ByteArray)
  | 0, _, _, _, _ => none
  | k + 1, x0, x1, x5, x6 => if x6 < x1 then (if x6 < 8 then (if x5.length < 140737488355328 then (zq14.l0 k (wrap64 (Int.tdiv x0 256)) x1 (x5 ++ [(Int.tmod x0 256) % 256]) (wrap64 (x6 + 1))) else (none)) else (some (strOfNums x5))) else (some (strOfNums x5))
end
def zq14.f (k : Nat) (a0 : Int) (a1 : Int) : Option (ByteArray) := if a0 < 0 then (zq14.j0 k 0 a1) else (zq14.j0 k a0 a1)
theorem zq14.mono_l : ∀ k, (∀ y0 y1, LeO (zq14.j0 k y0 y1) (zq14.j0 (k + 1) y0 y1)) ∧ (∀ y0 y1 y2 y3, LeO (zq14.l0 k y0 y1 y2 y3) (zq14.l0 (k + 1) y0 y1 y2 y3))
 | 0 => ⟨fun _ _ r h => by simp [zq14.j0] at h, fun _ _ _ _ r h => by simp [zq14.l0] at h⟩
 | k + 1 => by
  obtain ⟨ih0, ih1⟩ := zq14.mono_l k
  refine ⟨?_, ?_⟩
  ·intro y0 y1
   unfold zq14.j0
   with_reducible repeat' first | apply ih0 | apply ih1 | exact LeO.refl _ | exact LeO.none _ | refine LeO.ite ?_ ?_ | refine LeO.bind ?_ (fun _ => ?_)
  ·intro y0 y1 y2 y3
   unfold zq14.l0
   with_reducible repeat' first | apply ih0 | apply ih1 | exact LeO.refl _ | exact LeO.none _ | refine LeO.ite ?_ ?_ | refine LeO.bind ?_ (fun _ => ?_)
theorem zq14.mono : ∀ a0 a1 k, LeO (zq14.f k a0 a1) (zq14.f (k + 1) a0 a1) := by
 intro a0 a1 k
 obtain ⟨ih0, ih1⟩ := zq14.mono_l k
 unfold zq14.f
 with_reducible repeat' first | apply ih0 | apply ih1 | exact LeO.refl _ | exact LeO.none _ | refine LeO.ite ?_ ?_ | refine LeO.bind ?_ (fun _ => ?_)
theorem zq14.calls (k : Nat) (a0 : Int) (a1 : Int) (r : ByteArray) (w : World) (h : zq14.f k a0 a1 = some r) :
  Calls Try.prog 57 #[.int .i64 a0, .int .i64 a1] w fun e w' => e = .returned (.string r) ∧ Below w.heap.size w w' := by
 have HB := q_ (Below.refl w.heap.size w)
 have H : (if a0 < 0 then (zq14.j0 k 0 a1) else (zq14.j0 k a0 a1)) = some r := h
 clear h
 have aQ := q_ H
 clear H
 go_enter Try.func57, Try.ntmps57
 go_upto_if 8 with (fail)
 go_cut [0] (fun v0 wc => ∃ (kq : Nat) (aA : Int), v0 = .int .i64 aA ∧ Aside0 (zq14.j0 kq aA a1 = some r) ∧ Aside0 (kq ≤ k) ∧ Aside0 (Below w.heap.size w wc))
 case first =>
  have H := aQ.out
  clear aQ
  by_cases c4 : a0 < 0
  ·rw [if_pos c4] at H
   have aG := dt_ c4
   clear c4
   (first | rw [aG] | (simp only [y2h, y2g]; rw [aG]) | skip)
   have H' := q_ H
   clear H
   go_wp2
   go_meet
   case rel => exact ⟨_, (0), cl_, H', ⟨oz_⟩, ⟨hb_⟩⟩
  rw [if_neg c4] at H
  have aG := df_ c4
  clear c4
  (first | rw [aG] | (simp only [y2h, y2g]; rw [aG]) | skip)
  have H' := q_ H
  clear H
  go_wp2
  go_meet
  case rel => exact ⟨_, (a0), cl_, H', ⟨oz_⟩, ⟨hb_⟩⟩
 clear aQ
 obtain ⟨kq, aA, rfl, HA, aV, HB⟩ := hcut
 obtain _ | kj2 := kq
 ·exact nn_ HA
 have H := HA.out
 clear HA
 simp only [zq14.j0] at H
 have H' := q_ H
 clear H
 go_wp2
 go_loopg [0, 5, 6] kj2 (fun kq v0 v5 v6 w' => ∃ (aA : Int) (aE : List Int) (aD : Int), v0 = .int .i64 aA ∧ v6 = .int .i64 aD ∧ Aside0 (zq14.l0 kq aA a1 aE aD = some r) ∧ Aside0 (kq ≤ kj2) ∧ Aside0 (Kd.R (Kd.int .u8) 5 w' w.heap.size (fun _ => True) v5 aE) ∧ Aside0 (Below w.heap.size w w'))
 case atStart => exact ⟨(aA), (([] : List Int)), (0), cl_, cl_, H', ⟨Nat.le_refl _⟩, ⟨nil_⟩, ⟨hb_⟩⟩
 case round =>
  clear H'
  obtain ⟨aA, aE, aD, rfl, rfl, HA, aW, aH, HB⟩ := hrel
  obtain _ | k2 := gk
  ·exact nn_ HA
  have H := HA.out
  clear HA
  simp only [zq14.l0] at H
  by_cases c5 : aD < a1
  rotate_left
  ·rw [if_neg c5] at H
   have aT := df_ c5
   clear c5
   obtain rfl := Option.some.inj H
   have aU := y3p (P := Try.prog) Try.underlying39 Try.underlying5 Try.underlying9 (Kd.own_of_R aH.out)
   go_wp2
   go_ret
   exact ⟨ew_, hb_⟩
  rw [if_pos c5] at H
  have aT := dt_ c5
  clear c5
  by_cases c6 : aD < 8
  rotate_left
  ·rw [if_neg c6] at H
   have aR := df_ c6
   clear c6
   obtain rfl := Option.some.inj H
   have aX := y3p (P := Try.prog) Try.underlying39 Try.underlying5 Try.underlying9 (Kd.own_of_R aH.out)
   go_wp2
   go_ret
   exact ⟨ew_, hb_⟩
  rw [if_pos c6] at H
  have aR := dt_ c6
  clear c6
  by_cases c7 : aE.length < 140737488355328
  rotate_left
  ·rw [if_neg c7] at H
   exact absurd H (by simp)
  rw [if_pos c7] at H
  have aM := q_ c7
  clear c7
  obtain ⟨aK, aC⟩ : ∃ y_ : List Int, y_ = (aE ++ [(Int.tmod aA 256) % 256]) := ⟨_, rfl⟩
  replace H : (zq14.l0 k2 (wrap64 (Int.tdiv aA 256)) a1 aK (wrap64 (aD + 1))) = some r := by first | (rw [aC]; with_reducible exact H) | (have aN := (Option.bind_some _ _).symm.trans H; rw [aC]; with_reducible exact aN) | (have aN := (Option.bind_some _ _).symm.trans H; with_reducible exact aN) | with_reducible exact H | (rw [aC]; exact H) | exact H
  have aI := q_ aC
  clear aC
  have H' := q_ H
  clear H
  go_wp2_with (first | ((with_reducible refine y22 (b := .append) (xs := #[.tmp 18, .tmp 22]) rfl ?_); at_builtin; refine Kd.R_append (Kd.int .u8) (w0 := w) w.heap.size rfl (.tmp 18) (.tmp 22) 39 5 (.int .u8 0) 1 rfl Try.underlying39 info5 rfl (by decide) (by omega) u5 aE ((Int.tmod aA 256) % 256) [.int .u8 ((Int.tmod aA 256) % 256)] (fun _ => True) (fun _ => False) rfl rfl ?aP (fun _ hk => hk.elim) ?aF ?aO ?aB ?aS ?aL ?_; (case aP => exact rfl); (case aB => exact hb_); (case aF => exact (fun _ _ => trivial)); (case aO => exact (rk_ aH.out)); (case aS => exact (y0j hb_)); (case aL => have := aM.out; omega); intro aY w8 ho hb hg hat; rw [← aI.out] at ho; replace HB := q_ (hb); have aJ := q_ (ho); clear aH; clear ho hb hg hat))
  go_roundg k2
  case measure => have := aV.out; have := aW.out; omega
  case rel => exact ⟨(wrap64 (Int.tdiv aA 256)), (aK), (wrap64 (aD + 1)), cl_, cl_, H', ⟨by have := aV.out; have := aW.out; omega⟩, ⟨rk_ aJ.out⟩, ⟨hb_⟩⟩
end Go.Proofs.Ytenlmckahaniiaa.K
end
section
namespace Go.Proofs.Ytenlmckahaniiaa.K
open Go.RowKit Go.Proofs.YtW.P Go.Proofs.YtW.L
mutual
def zq12.l0 : Nat → ByteArray → Int → Int → Option (Int)
  | 0, _, _, _ => none
  | k + 1, x0, x3, x4 => if x4 < (x0.size : Int) then (if 0 ≤ x4 then (zq12.l1 k x0 (Go.bits .xor .u32 x3 ((bt x0 x4) % 4294967296)) x4 0) else (none)) else (some (wrap64 (Go.bits .xor .u32 x3 4294967295)))
def zq12.l1 : Nat → ByteArray → Int → Int → Int → Option (Int)
  | 0, _, _, _, _ => none
  | k + 1, x0, x3, x4, x5 => if x5 < 8 then (if (Int.tmod x3 2) = 1 then (zq12.l1 k x0 (Go.bits .xor .u32 (x3 / 2) 3988292384) x4 (wrap64 (x5 + 1))) else (zq12.l1 k x0 (x3 / 2) x4 (wrap64 (x5 + 1)))) else (zq12.l0 k x0 x3 (wrap64 (x4 + 1)))
end
def zq12.f (k : Nat) (a0 : ByteArray) : Option (Int) := zq12.l0 k a0 4294967295 0
theorem zq12.mono_l : ∀ k, (∀ y0 y1 y2, LeO (zq12.l0 k y0 y1 y2) (zq12.l0 (k + 1) y0 y1 y2)) ∧ (∀ y0 y1 y2 y3, LeO (zq12.l1 k y0 y1 y2 y3) (zq12.l1 (k + 1) y0 y1 y2 y3))
 | 0 => ⟨fun _ _ _ r h => by simp [zq12.l0] at h, fun _ _ _ _ r h => by simp [zq12.l1] at h⟩
 | k + 1 => by
  obtain ⟨ih0, ih1⟩ := zq12.mono_l k
  refine ⟨?_, ?_⟩
  ·intro y0 y1 y2
   unfold zq12.l0
   with_reducible repeat' first | apply ih0 | apply ih1 | exact LeO.refl _ | exact LeO.none _ | refine LeO.ite ?_ ?_ | refine LeO.bind ?_ (fun _ => ?_)
  ·intro y0 y1 y2 y3
   unfold zq12.l1
   with_reducible repeat' first | apply ih0 | apply ih1 | exact LeO.refl _ | exact LeO.none _ | refine LeO.ite ?_ ?_ | refine LeO.bind ?_ (fun _ => ?_)
theorem zq12.mono : ∀ a0 k, LeO (zq12.f k a0) (zq12.f (k + 1) a0) := by
 intro a0 k
 obtain ⟨ih0, ih1⟩ := zq12.mono_l k
 unfold zq12.f
 with_reducible repeat' first | apply ih0 | apply ih1 | exact LeO.refl _ | exact LeO.none _ | refine LeO.ite ?_ ?_ | refine LeO.bind ?_ (fun _ => ?_)
theorem zq12.calls (k : Nat) (a0 : ByteArray) (r : Int) (w : World) (h : zq12.f k a0 = some r) :
  Calls Try.prog 60 #[.string a0] w fun e w' => e = .returned (.int .i64 r) ∧ Drawn0 w w' := by
 have H : (zq12.l0 k a0 4294967295 0) = some r := h
 clear h
 have H' := q_ H
 clear H
 go_enter Try.func60, Try.ntmps60
 go_wp2
 go_loopg [3, 4] k (fun kq v3 v4 w' => ∃ (aD : Int) (aA : Int), v3 = .int .u32 aD ∧ v4 = .int .i64 aA ∧ Aside0 (zq12.l0 kq a0 aD aA = some r) ∧ Aside0 (kq ≤ k) ∧ Drawn0 w w')
 case atStart => exact ⟨(4294967295), (0), cl_, cl_, H', ⟨Nat.le_refl _⟩, by repeat (first | exact Drawn0.refl _ | apply Drawn0.step)⟩
 case round =>
  clear H'
  obtain ⟨aD, aA, rfl, rfl, HA, HK1, ⟨m1, rfl⟩⟩ := hrel
  obtain _ | k1 := gk
  ·exact nn_ HA
  have H := HA.out
  clear HA
  simp only [zq12.l0] at H
  by_cases c2 : aA < (a0.size : Int)
  rotate_left
  ·rw [if_neg c2] at H
   have aF := df_ c2
   clear c2
   obtain rfl := Option.some.inj H
   go_wp2
   go_ret
   exact ⟨by first | rfl | (simp; done) | (simp [y2o]; done) | (simp [*]; done), by repeat (first | exact Drawn0.refl _ | apply Drawn0.step)⟩
  rw [if_pos c2] at H
  have aF := dt_ c2
  clear c2
  by_cases c3 : 0 ≤ aA
  rotate_left
  ·rw [if_neg c3] at H
   exact absurd H (by simp)
  rw [if_pos c3] at H
  have aJ := dt_ c3
  clear c3
  have H' := q_ H
  clear H
  have p4 : 0 ≤ (aA : Int) := oa_
  have q4 : aA < (a0.size : Int) := oa_
  have aK := y15 a0 aA
  replace p4 := eq_true p4
  replace q4 := eq_true q4
  go_wp2
  go_loopg [3, 5] k1 (fun kq v3 v5 w' => ∃ (aB : Int) (aC : Int), v3 = .int .u32 aB ∧ v5 = .int .i64 aC ∧ Aside0 (zq12.l1 kq a0 aB aA aC = some r) ∧ Aside0 (kq ≤ k1) ∧ Drawn0 w w')
  case atStart => exact ⟨(Go.bits .xor .u32 aD ((bt a0 aA) % 4294967296)), (0), cl_, cl_, H', ⟨Nat.le_refl _⟩, by repeat (first | exact Drawn0.refl _ | apply Drawn0.step)⟩
  case round =>
   clear H'
   obtain ⟨aB, aC, rfl, rfl, HA, aE, ⟨m2, rfl⟩⟩ := hrel
   obtain _ | k2 := gk
   ·exact nn_ HA
   have H := HA.out
   clear HA
   simp only [zq12.l1] at H
   by_cases c5 : aC < 8
   rotate_left
   ·rw [if_neg c5] at H
    have aG := df_ c5
    clear c5
    have H' := q_ H
    clear H
    go_wp2
    go_roundg k2
    case measure => have := HK1.out; have := aE.out; omega
    case rel => exact ⟨(aB), (wrap64 (aA + 1)), cl_, cl_, H', ⟨by have := HK1.out; have := aE.out; omega⟩, by repeat (first | exact Drawn0.refl _ | apply Drawn0.step)⟩
   rw [if_pos c5] at H
   have aG := dt_ c5
   clear c5
   by_cases c6 : (Int.tmod aB 2) = 1
   rotate_left
   ·rw [if_neg c6] at H
    have aI := ef_ c6
    have aH := nt_ c6
    have H' := q_ H
    clear H
    go_wp2
    go_roundg k2
    case measure => have := HK1.out; have := aE.out; omega
    case rel => exact ⟨(aB / 2), (wrap64 (aC + 1)), cl_, cl_, H', ⟨by have := HK1.out; have := aE.out; omega⟩, by repeat (first | exact Drawn0.refl _ | apply Drawn0.step)⟩
   rw [if_pos c6] at H
   have aI := et_ c6
   have aH := nf_ c6
   clear c6
   have H' := q_ H
   clear H
   go_wp2
   go_roundg k2
   case measure => have := HK1.out; have := aE.out; omega
   case rel => exact ⟨(Go.bits .xor .u32 (aB / 2) 3988292384), (wrap64 (aC + 1)), cl_, cl_, H', ⟨by have := HK1.out; have := aE.out; omega⟩, by repeat (first | exact Drawn0.refl _ | apply Drawn0.step)⟩
def zqv.f (k : Nat) (a0 : ByteArray) : Option (ByteArray) := (zq12.f k a0).bind fun t433 => ((zq14.f k t433 4).bind fun t434 => (if a0.size + t434.size ≤ 9223372036854775807 then (some (a0 ++ t434)) else (none)))
theorem zqv.mono : ∀ a0 k, LeO (zqv.f k a0) (zqv.f (k + 1) a0) := by
 intro a0 k
 unfold zqv.f
 with_reducible repeat' first | apply zq12.mono | apply zq14.mono | exact LeO.refl _ | exact LeO.none _ | refine LeO.ite ?_ ?_ | refine LeO.bind ?_ (fun _ => ?_)
theorem zqv.calls (k : Nat) (a0 : ByteArray) (r : ByteArray) (w : World) (h : zqv.f k a0 = some r) :
  Calls Try.prog 23 #[.string a0] w fun e w' => e = .returned (.string r) ∧ Below w.heap.size w w' := by
 have HB := q_ (Below.refl w.heap.size w)
 have H : ((zq12.f k a0).bind fun aB => ((zq14.f k aB 4).bind fun aA => (if a0.size + aA.size ≤ 9223372036854775807 then (some (a0 ++ aA)) else (none)))) = some r := h
 clear h
 obtain ⟨aB, A2, H⟩ := bq_ H
 obtain ⟨aA, A3, H⟩ := bq_ H
 (try dsimp only at H)
 by_cases c4 : a0.size + aA.size ≤ 9223372036854775807
 rotate_left
 ·rw [if_neg c4] at H
  exact absurd H (by simp)
 rw [if_pos c4] at H
 have aE := eq_true c4
 have aD := dt_ c4
 try have aC : (9223372036854775807 < a0.size + aA.size) = False := eq_false (Nat.not_lt.2 c4)
 obtain rfl := Option.some.inj H
 go_enter Try.func23, Try.ntmps23
 go_wp2_with (first | (refine gc_ 60 ?_; refine gl_ (some 5) Try.func60 #[.string a0] ?_; (with_reducible refine (zq12.calls k a0 aB _ A2.out).mono ?_); rintro e w' ⟨rfl, ⟨nd, rfl⟩⟩; refine ⟨_, rfl, ?_⟩) | (refine gc_ 57 ?_; refine gl_ (some 6) Try.func57 #[.int .i64 aB, .int .i64 4] ?_; (with_reducible refine (zq14.calls k aB 4 aA _ A3.out).mono ?_); rintro e w5 ⟨rfl, hb⟩; refine ⟨_, rfl, ?_⟩; replace HB := q_ (y0k hb_ hb)))
 go_ret
 exact ⟨ew_, hb_⟩
def zq9.f (k : Nat) (a0 : ByteArray) : Option (ByteArray) := if (a0.size : Int) > 65535 then (if 0 ≤ 65535 then (if 65535 ≤ (a0.size : Int) then ((zq14.f k ((a0.extract 0 65535).size : Int) 2).bind fun t435 => (if t435.size + (a0.extract 0 65535).size ≤ 9223372036854775807 then (some (t435 ++ (a0.extract 0 65535))) else (none))) else (none)) else (none)) else ((zq14.f k (a0.size : Int) 2).bind fun t436 => (if t436.size + a0.size ≤ 9223372036854775807 then (some (t436 ++ a0)) else (none)))
theorem zq9.mono : ∀ a0 k, LeO (zq9.f k a0) (zq9.f (k + 1) a0) := by
 intro a0 k
 unfold zq9.f
 with_reducible repeat' first | apply zq14.mono | exact LeO.refl _ | exact LeO.none _ | refine LeO.ite ?_ ?_ | refine LeO.bind ?_ (fun _ => ?_)
theorem zq9.calls (k : Nat) (a0 : ByteArray) (r : ByteArray) (w : World) (h : zq9.f k a0 = some r) :
  Calls Try.prog 56 #[.string a0] w fun e w' => e = .returned (.string r) ∧ Below w.heap.size w w' := by
 have HB := q_ (Below.refl w.heap.size w)
 have H : (if (a0.size : Int) > 65535 then (if 0 ≤ 65535 then (if 65535 ≤ (a0.size : Int) then ((zq14.f k ((a0.extract 0 65535).size : Int) 2).bind fun aA => (if aA.size + (a0.extract 0 65535).size ≤ 9223372036854775807 then (some (aA ++ (a0.extract 0 65535))) else (none))) else (none)) else (none)) else ((zq14.f k (a0.size : Int) 2).bind fun aB => (if aB.size + a0.size ≤ 9223372036854775807 then (some (aB ++ a0)) else (none)))) = some r := h
 clear h
 by_cases c2 : (a0.size : Int) > 65535
 rotate_left
 ·rw [if_neg c2] at H
  have aD := df_ c2
  have aE : decide (65535 < a0.size) = false := decide_eq_false (by omega)
  clear c2
  obtain ⟨aB, A8, H⟩ := bq_ H
  (try dsimp only at H)
  by_cases c9 : aB.size + a0.size ≤ 9223372036854775807
  rotate_left
  ·rw [if_neg c9] at H
   exact absurd H (by simp)
  rw [if_pos c9] at H
  have aP := eq_true c9
  have aJ := dt_ c9
  try have aL : (9223372036854775807 < aB.size + a0.size) = False := eq_false (Nat.not_lt.2 c9)
  obtain rfl := Option.some.inj H
  go_enter Try.func56, Try.ntmps56
  go_wp2_with (first | (refine gc_ 57 ?_; refine gl_ (some 10) Try.func57 #[.int .i64 (a0.size : Int), .int .i64 2] ?_; (with_reducible refine (zq14.calls k (a0.size : Int) 2 aB _ A8.out).mono ?_); rintro e aQ ⟨rfl, hb⟩; refine ⟨_, rfl, ?_⟩; replace HB := q_ (y0k hb_ hb)))
  go_ret
  exact ⟨ew_, hb_⟩
 rw [if_pos c2] at H
 have aD := dt_ c2
 have aE : decide (65535 < a0.size) = true := decide_eq_true (by omega)
 clear c2
 by_cases c3 : 0 ≤ 65535
 rotate_left
 ·rw [if_neg c3] at H
  exact absurd H (by simp)
 rw [if_pos c3] at H
 have aN := eq_true c3
 have aG := dt_ c3
 clear c3
 by_cases c4 : 65535 ≤ (a0.size : Int)
 rotate_left
 ·rw [if_neg c4] at H
  exact absurd H (by simp)
 rw [if_pos c4] at H
 have aO := eq_true c4
 have aH := dt_ c4
 clear c4
 obtain ⟨aA, A5, H⟩ := bq_ H
 (try dsimp only at H)
 by_cases c6 : aA.size + (a0.extract 0 65535).size ≤ 9223372036854775807
 rotate_left
 ·rw [if_neg c6] at H
  exact absurd H (by simp)
 rw [if_pos c6] at H
 have aK := eq_true c6
 have aF := dt_ c6
 try have aM : (9223372036854775807 < aA.size + (a0.extract 0 65535).size) = False := eq_false (Nat.not_lt.2 c6)
 (try (have aC := aF; simp only [ByteArray.size_extract, Nat.min_self] at aC))
 (try (have aI := eq_true (of_decide_eq_true aC)))
 obtain rfl := Option.some.inj H
 go_enter Try.func56, Try.ntmps56
 go_wp2_with (first | (refine gc_ 57 ?_; refine goesL_ (some 10) rfl rfl Try.func57 (by kernel_rfl) rfl #[.int .i64 ((a0.extract 0 65535).size : Int), .int .i64 2] rfl (by (try simp only [List.map_toArray, List.map_cons, List.map_nil]); first | done | rfl | (simp only [List.length_drop, List.length_take]; rfl) | (simp only [ByteArray.size_extract, Nat.sub_zero]; rfl) | (simp only [ByteArray.size_extract, Nat.sub_zero]; done) | ((try go_simp); (try simp only [ByteArray.size_extract, Nat.sub_zero]); (try simp only [eq_iff_iff, iff_true] at *); repeat (first | rfl | omega | congr 1))) ?_; (with_reducible refine (zq14.calls k ((a0.extract 0 65535).size : Int) 2 aA _ A5.out).mono ?_); rintro e w7 ⟨rfl, hb⟩; refine ⟨_, rfl, ?_⟩; replace HB := q_ (y0k hb_ hb)))
 go_ret
 exact ⟨ew_, hb_⟩
end Go.Proofs.Ytenlmckahaniiaa.K
end
section
namespace Go.Proofs.Ytenlmckahaniiaa.K
open Go.RowKit Go.Proofs.YtW.P Go.Proofs.YtW.L
def zqu.f (k : Nat) (a0 : ByteArray) : Option (ByteArray × Int) := if (a0.size : Int) < 4 then (some (nB_, 8)) else (if 0 ≤ (wrap64 ((a0.size : Int) - 4)) then (if (wrap64 ((a0.size : Int) - 4)) ≤ (a0.size : Int) then ((zq12.f k (a0.extract 0 ((wrap64 ((a0.size : Int) - 4)) : Int).toNat)).bind fun t472 => ((zq14.f k t472 4).bind fun t473 => (if t473.toList = (a0.extract ((wrap64 ((a0.size : Int) - 4)) : Int).toNat a0.size).toList then (some (a0.extract 0 ((wrap64 ((a0.size : Int) - 4)) : Int).toNat, 0)) else (some (nB_, 10))))) else (none)) else (none))
theorem zqu.mono : ∀ a0 k, LeO (zqu.f k a0) (zqu.f (k + 1) a0) := by
 intro a0 k
 unfold zqu.f
 with_reducible repeat' first | apply zq12.mono | apply zq14.mono | exact LeO.refl _ | exact LeO.none _ | refine LeO.ite ?_ ?_ | refine LeO.bind ?_ (fun _ => ?_)
def zqu.T4 : Bool × List (List Nat × List Nat) := (true, [([], []), ([0], [0]), ([1, 1], [1]), ([], []), ([], []), ([4], [4]), ([5], [5]), ([3, 6], [3, 6]), ([2, 7], [2, 7])])
def zqu.B4 : List Nat := [0, 1, 3, 0, 0, 16, 48, 120, 255]
theorem zqu.tab4 : rtab .any (opsOf Try.f65 4) = zqu.T4 := by kernel_rfl
theorem zqu.bits4 : waitsOk zqu.T4.2 zqu.B4 = true := by kernel_rfl
theorem zqu.calls (k : Nat) (a0 : ByteArray) (r1 : ByteArray) (r2 : Int) (w : World) (h : zqu.f k a0 = some (r1, r2)) :
  Calls Try.prog 65 #[.string a0] w fun e w' => e = .returned (.tuple #[.string r1, .int .i64 r2]) ∧ Below w.heap.size w w' := by
 have HB := q_ (Below.refl w.heap.size w)
 have H : (if (a0.size : Int) < 4 then (some (nB_, 8)) else (if 0 ≤ (wrap64 ((a0.size : Int) - 4)) then (if (wrap64 ((a0.size : Int) - 4)) ≤ (a0.size : Int) then ((zq12.f k (a0.extract 0 ((wrap64 ((a0.size : Int) - 4)) : Int).toNat)).bind fun aA => ((zq14.f k aA 4).bind fun aB => (if aB.toList = (a0.extract ((wrap64 ((a0.size : Int) - 4)) : Int).toNat a0.size).toList then (some (a0.extract 0 ((wrap64 ((a0.size : Int) - 4)) : Int).toNat, 0)) else (some (nB_, 10))))) else (none)) else (none))) = some (r1, r2) := h
 clear h
 by_cases c2 : (a0.size : Int) < 4
 ·rw [if_pos c2] at H
  have aH := dt_ c2
  have aI : decide (a0.size < 4) = true := decide_eq_true (by omega)
  clear c2
  simp only [Option.some.injEq, Prod.mk.injEq] at H
  obtain ⟨rfl, rfl⟩ := H
  go_enter Try.func65, Try.ntmps65
  go_wp2
  go_ret2
  exact ⟨ew_, hb_⟩
 rw [if_neg c2] at H
 have aH := df_ c2
 have aI : decide (a0.size < 4) = false := decide_eq_false (by omega)
 clear c2
 obtain ⟨aC, aD⟩ : ∃ j_ : Int, (wrap64 ((a0.size : Int) - 4)) = j_ := ⟨_, rfl⟩
 replace H : (if 0 ≤ (aC) then (if (aC) ≤ (a0.size : Int) then ((zq12.f k (a0.extract 0 ((aC) : Int).toNat)).bind fun aA => ((zq14.f k aA 4).bind fun aB => (if aB.toList = (a0.extract ((aC) : Int).toNat a0.size).toList then (some (a0.extract 0 ((aC) : Int).toNat, 0)) else (some (nB_, 10))))) else (none)) else (none)) = some (r1, r2) := by first | (rw [aD] at H; exact H) | (simp only [aD] at H ⊢; exact H)
 have aJ : (IntKind.i64.wrap ((a0.size : Int) - 4)) = aC := (y2h _).trans aD
 by_cases c4 : 0 ≤ (aC)
 rotate_left
 ·rw [if_neg c4] at H
  exact absurd H (by simp)
 rw [if_pos c4] at H
 have aM := eq_true c4
 have aK := dt_ c4
 clear c4
 by_cases c5 : (aC) ≤ (a0.size : Int)
 rotate_left
 ·rw [if_neg c5] at H
  exact absurd H (by simp)
 rw [if_pos c5] at H
 have aN := eq_true c5
 have aP := dt_ c5
 clear c5
 obtain ⟨aA, A6, H⟩ := bq_ H
 obtain ⟨aB, A7, H⟩ := bq_ H
 (try dsimp only at H)
 have aL := eq_true (oa_ : 0 ≤ (aC))
 have aO := eq_true (oa_ : (aC) ≤ (a0.size : Int))
 by_cases aE : aB.toList = (a0.extract ((aC) : Int).toNat a0.size).toList
 rotate_left
 ·rw [if_neg aE] at H
  have aG := ef_ aE
  have aF := nt_ aE
  simp only [Option.some.injEq, Prod.mk.injEq] at H
  obtain ⟨rfl, rfl⟩ := H
  go_enter Try.func65, Try.ntmps65
  try go_wp2
  replace HB := q_ (y0h HB.out)
  refine start_ (n := 9) (S := fun w' => True) (ds := []) #[false, false, false, false, false, false, false, false, false] (by kernel_rfl) rfl rfl trivial (fun hHeld => ?_); refine y5o zqu.tab4 zqu.bits4 (fun HT_ HW_ => ?_)
  generalize w.drew = aR at HB hHeld ⊢
  refine pv_ 0 (some 13) (fl 9 1) ?_
  refine pv_ 3 (some 16) (fl 9 9) ?_
  refine pv_ 4 (some 17) (fl 9 25) ?_
  refine pv_ 5 (some 18) (fl 9 57) ?_
  refine pv_ 6 (some 19) (fl 9 121) ?_
  refine pv_ 7 (some 20) (fl 9 249) ?_
  refine one_ (i := 1) (N := some 14) (fl 9 251) rfl rfl (y3l HT_.out (by kernel_rfl)) (by decide) (fun K hK => ?_)
  refine goes_ Try.func60 (by kernel_rfl) rfl #[.string (a0.extract 0 ((aC) : Int).toNat)] (by rfl) rfl rfl (by (try simp only [List.map_toArray, List.map_cons, List.map_nil]); first | done | (simp only [aD]; rfl) | rfl | (simp only [List.length_drop, List.length_take]; rfl) | (simp only [ByteArray.size_extract, Nat.sub_zero]; rfl) | (simp only [ByteArray.size_extract, Nat.sub_zero]; done) | ((try go_simp); (try simp only [ByteArray.size_extract, Nat.sub_zero]); (try simp only [eq_iff_iff, iff_true] at *); repeat (first | rfl | omega | congr 1))) ?_
  with_reducible refine (zq12.calls k (a0.extract 0 ((aC) : Int).toNat) aA _ A6.out).mono ?_
  rintro e w' ⟨rfl, ⟨nd, rfl⟩⟩
  refine ⟨_, rfl, ?_⟩
  refine hK.out _ _ trivial (fun hHeld => ?_)
  clear hK K
  refine no_ (N := some 14) ?_
  refine one_ (i := 2) (N := some 15) (fl 9 255) rfl rfl (y3l HT_.out (by kernel_rfl)) (by decide) (fun K hK => ?_)
  refine gs_ Try.func57 #[.int .i64 aA, .int .i64 4] ?_
  with_reducible refine (zq14.calls k aA 4 aB _ A7.out).mono ?_
  rintro e aS ⟨rfl, hb⟩
  refine ⟨_, rfl, ?_⟩
  replace HB := q_ (y0k hb_ hb)
  refine hK.out _ _ trivial (fun hHeld => ?_)
  clear hK K
  refine no_ (N := some 15) ?_
  refine pv_ 8 (some 21) (fl 9 511) ?_
  refine done_ (y1s HT_.out (by kernel_rfl)) ?_
  try go_wp2
  go_ret2
  exact ⟨by first | rfl | (simp [y1y, y1z] <;> rfl) | (simp only [← aD]; first | rfl | (simp [y1y, y1z] <;> rfl)) | (simp [*, y1y, y1z] <;> rfl), hb_⟩
 rw [if_pos aE] at H
 have aG := et_ aE
 have aF := nf_ aE
 clear aE
 simp only [Option.some.injEq, Prod.mk.injEq] at H
 obtain ⟨rfl, rfl⟩ := H
 go_enter Try.func65, Try.ntmps65
 try go_wp2
 replace HB := q_ (y0h HB.out)
 refine start_ (n := 9) (S := fun w' => True) (ds := []) #[false, false, false, false, false, false, false, false, false] (by kernel_rfl) rfl rfl trivial (fun hHeld => ?_); refine y5o zqu.tab4 zqu.bits4 (fun HT_ HW_ => ?_)
 generalize w.drew = aQ at HB hHeld ⊢
 refine pv_ 0 (some 13) (fl 9 1) ?_
 refine pv_ 3 (some 16) (fl 9 9) ?_
 refine pv_ 4 (some 17) (fl 9 25) ?_
 refine pv_ 5 (some 18) (fl 9 57) ?_
 refine pv_ 6 (some 19) (fl 9 121) ?_
 refine pv_ 7 (some 20) (fl 9 249) ?_
 refine one_ (i := 1) (N := some 14) (fl 9 251) rfl rfl (y3l HT_.out (by kernel_rfl)) (by decide) (fun K hK => ?_)
 refine goes_ Try.func60 (by kernel_rfl) rfl #[.string (a0.extract 0 ((aC) : Int).toNat)] (by rfl) rfl rfl (by (try simp only [List.map_toArray, List.map_cons, List.map_nil]); first | done | (simp only [aD]; rfl) | rfl | (simp only [List.length_drop, List.length_take]; rfl) | (simp only [ByteArray.size_extract, Nat.sub_zero]; rfl) | (simp only [ByteArray.size_extract, Nat.sub_zero]; done) | ((try go_simp); (try simp only [ByteArray.size_extract, Nat.sub_zero]); (try simp only [eq_iff_iff, iff_true] at *); repeat (first | rfl | omega | congr 1))) ?_
 with_reducible refine (zq12.calls k (a0.extract 0 ((aC) : Int).toNat) aA _ A6.out).mono ?_
 rintro e w' ⟨rfl, ⟨nd, rfl⟩⟩
 refine ⟨_, rfl, ?_⟩
 refine hK.out _ _ trivial (fun hHeld => ?_)
 clear hK K
 refine no_ (N := some 14) ?_
 refine one_ (i := 2) (N := some 15) (fl 9 255) rfl rfl (y3l HT_.out (by kernel_rfl)) (by decide) (fun K hK => ?_)
 refine gs_ Try.func57 #[.int .i64 aA, .int .i64 4] ?_
 with_reducible refine (zq14.calls k aA 4 aB _ A7.out).mono ?_
 rintro e aT ⟨rfl, hb⟩
 refine ⟨_, rfl, ?_⟩
 replace HB := q_ (y0k hb_ hb)
 refine hK.out _ _ trivial (fun hHeld => ?_)
 clear hK K
 refine no_ (N := some 15) ?_
 refine pv_ 8 (some 21) (fl 9 511) ?_
 refine done_ (y1s HT_.out (by kernel_rfl)) ?_
 try go_wp2
 go_ret2
 exact ⟨by first | rfl | (simp [y1y, y1z] <;> rfl) | (simp only [← aD]; first | rfl | (simp [y1y, y1z] <;> rfl)) | (simp [*, y1y, y1z] <;> rfl), hb_⟩
end Go.Proofs.Ytenlmckahaniiaa.K
end
section
namespace Go.Proofs.Ytenlmckahaniiaa.K
open Go.RowKit Go.Proofs.YtW.P Go.Proofs.YtW.L
mutual
def zq13.j0 : Nat → ByteArray → Int → Int → Bool → Option (Int × Int × Int)
  | 0, _, _, _, _ => none
  | k + 1, x0, x1, x2, x26 => if x26 = true then (some (0, 0, 1)) else (if (wrap64 ((x0.size : Int) - x1)) < x2 then (some (0, 0, 8)) else (zq13.l0 k x0 x1 x2 0 (wrap64 ((wrap64 (x1 + x2)) - 1))))
def zq13.l0 : Nat → ByteArray → Int → Int → Int → Int → Option (Int × Int × Int)
  | 0, _, _, _, _, _ => none
  | k + 1, x0, x1, x2, x9, x10 => if x10 ≥ x1 then (if 0 ≤ x10 then (if x10 < (x0.size : Int) then (zq13.l0 k x0 x1 x2 (wrap64 ((wrap64 (256 * x9)) + (wrap64 (bt x0 x10)))) (wrap64 (x10 - 1))) else (none)) else (none)) else (some (x9, wrap64 (x1 + x2), 0))
end
def zq13.f (k : Nat) (a0 : ByteArray) (a1 : Int) (a2 : Int) : Option (Int × Int × Int) := if a2 < 1 then (zq13.j0 k a0 a1 a2 true) else (if a2 > 7 then (zq13.j0 k a0 a1 a2 true) else (if a1 < 0 then (zq13.j0 k a0 a1 a2 true) else (zq13.j0 k a0 a1 a2 (decide (a1 > (a0.size : Int))))))
theorem zq13.mono_l : ∀ k, (∀ y0 y1 y2 y3, LeO (zq13.j0 k y0 y1 y2 y3) (zq13.j0 (k + 1) y0 y1 y2 y3)) ∧ (∀ y0 y1 y2 y3 y4, LeO (zq13.l0 k y0 y1 y2 y3 y4) (zq13.l0 (k + 1) y0 y1 y2 y3 y4))
 | 0 => ⟨fun _ _ _ _ r h => by simp [zq13.j0] at h, fun _ _ _ _ _ r h => by simp [zq13.l0] at h⟩
 | k + 1 => by
  obtain ⟨ih0, ih1⟩ := zq13.mono_l k
  refine ⟨?_, ?_⟩
  ·intro y0 y1 y2 y3
   unfold zq13.j0
   with_reducible repeat' first | apply ih0 | apply ih1 | exact LeO.refl _ | exact LeO.none _ | refine LeO.ite ?_ ?_ | refine LeO.bind ?_ (fun _ => ?_)
  ·intro y0 y1 y2 y3 y4
   unfold zq13.l0
   with_reducible repeat' first | apply ih0 | apply ih1 | exact LeO.refl _ | exact LeO.none _ | refine LeO.ite ?_ ?_ | refine LeO.bind ?_ (fun _ => ?_)
theorem zq13.mono : ∀ a0 a1 a2 k, LeO (zq13.f k a0 a1 a2) (zq13.f (k + 1) a0 a1 a2) := by
 intro a0 a1 a2 k
 obtain ⟨ih0, ih1⟩ := zq13.mono_l k
 unfold zq13.f
 with_reducible repeat' first | apply ih0 | apply ih1 | exact LeO.refl _ | exact LeO.none _ | refine LeO.ite ?_ ?_ | refine LeO.bind ?_ (fun _ => ?_)
theorem zq13.calls (k : Nat) (a0 : ByteArray) (a1 : Int) (a2 : Int) (r1 : Int) (r2 : Int) (r3 : Int) (w : World) (h : zq13.f k a0 a1 a2 = some (r1, r2, r3)) :
  Calls Try.prog 98 #[.string a0, .int .i64 a1, .int .i64 a2] w fun e w' => e = .returned (.tuple #[.int .i64 r1, .int .i64 r2, .int .i64 r3]) ∧ Drawn0 w w' := by
 have H : (if a2 < 1 then (zq13.j0 k a0 a1 a2 true) else (if a2 > 7 then (zq13.j0 k a0 a1 a2 true) else (if a1 < 0 then (zq13.j0 k a0 a1 a2 true) else (zq13.j0 k a0 a1 a2 (decide (a1 > (a0.size : Int))))))) = some (r1, r2, r3) := h
 clear h
 have aK := q_ H
 clear H
 go_enter Try.func98, Try.ntmps98
 go_upto_region 1 with (fail)
 go_cut [26] (fun aT wc => ∃ (kq : Nat) (aB : Bool), aT = .bool aB ∧ Aside0 (zq13.j0 kq a0 a1 a2 aB = some (r1, r2, r3)) ∧ Aside0 (kq ≤ k) ∧ Drawn0 w wc)
 case first =>
  have H := aK.out
  clear aK
  by_cases c5 : a2 < 1
  ·rw [if_pos c5] at H
   have aC := dt_ c5
   clear c5
   (first | rw [aC] | (simp only [y2h, y2g]; rw [aC]) | skip)
   have H' := q_ H
   clear H
   go_wp2
   go_meet
   case rel => exact ⟨_, (true), cl_, H', ⟨oz_⟩, by repeat (first | exact Drawn0.refl _ | apply Drawn0.step)⟩
  rw [if_neg c5] at H
  have aC := df_ c5
  clear c5
  (first | rw [aC] | (simp only [y2h, y2g]; rw [aC]) | skip)
  by_cases c6 : a2 > 7
  ·rw [if_pos c6] at H
   have aJ := dt_ c6
   clear c6
   have H' := q_ H
   clear H
   go_wp2
   go_meet
   case rel => exact ⟨_, (true), cl_, H', ⟨oz_⟩, by repeat (first | exact Drawn0.refl _ | apply Drawn0.step)⟩
  rw [if_neg c6] at H
  have aJ := df_ c6
  clear c6
  by_cases c7 : a1 < 0
  ·rw [if_pos c7] at H
   have aI := dt_ c7
   clear c7
   have H' := q_ H
   clear H
   go_wp2
   go_meet
   case rel => exact ⟨_, (true), cl_, H', ⟨oz_⟩, by repeat (first | exact Drawn0.refl _ | apply Drawn0.step)⟩
  rw [if_neg c7] at H
  have aI := df_ c7
  clear c7
  have H' := q_ H
  clear H
  go_wp2
  go_meet
  case rel => exact ⟨_, (decide (a1 > (a0.size : Int))), cl_, H', ⟨oz_⟩, by repeat (first | exact Drawn0.refl _ | apply Drawn0.step)⟩
 clear aK
 obtain ⟨kq, aB, rfl, HA, aM, ⟨aV, rfl⟩⟩ := hcut
 obtain _ | kj3 := kq
 ·exact nn_ HA
 have H := HA.out
 clear HA
 simp only [zq13.j0] at H
 by_cases c8 : aB = true
 ·subst c8
  rw [if_pos rfl] at H
  simp only [Option.some.injEq, Prod.mk.injEq] at H
  obtain ⟨rfl, rfl, rfl⟩ := H
  go_wp2
  go_ret3
  exact ⟨by first | rfl | (simp; done) | (simp [y2o]; done) | (simp [*]; done), by repeat (first | exact Drawn0.refl _ | apply Drawn0.step)⟩
 replace c8 := Bool.eq_false_iff.mpr c8
 subst c8
 rw [if_neg (show ¬ (false = true) by decide)] at H
 by_cases c9 : (wrap64 ((a0.size : Int) - a1)) < a2
 ·rw [if_pos c9] at H
  have aL := dt_ c9
  clear c9
  simp only [Option.some.injEq, Prod.mk.injEq] at H
  obtain ⟨rfl, rfl, rfl⟩ := H
  go_wp2
  go_ret3
  exact ⟨by first | rfl | (simp; done) | (simp [y2o]; done) | (simp [*]; done), by repeat (first | exact Drawn0.refl _ | apply Drawn0.step)⟩
 rw [if_neg c9] at H
 have aL := df_ c9
 clear c9
 have H' := q_ H
 clear H
 go_wp2
 go_loopg [9, 10] kj3 (fun kq v9 aS w' => ∃ (aD : Int) (aA : Int), v9 = .int .i64 aD ∧ aS = .int .i64 aA ∧ Aside0 (zq13.l0 kq a0 a1 a2 aD aA = some (r1, r2, r3)) ∧ Aside0 (kq ≤ kj3) ∧ Drawn0 w w')
 case atStart => exact ⟨(0), (wrap64 ((wrap64 (a1 + a2)) - 1)), cl_, cl_, H', ⟨Nat.le_refl _⟩, by repeat (first | exact Drawn0.refl _ | apply Drawn0.step)⟩
 case round =>
  clear H'
  obtain ⟨aD, aA, rfl, rfl, HA, aQ, ⟨m2, rfl⟩⟩ := hrel
  obtain _ | k2 := gk
  ·exact nn_ HA
  have H := HA.out
  clear HA
  simp only [zq13.l0] at H
  by_cases aE : aA ≥ a1
  rotate_left
  ·rw [if_neg aE] at H
   have aF := df_ aE
   clear aE
   simp only [Option.some.injEq, Prod.mk.injEq] at H
   obtain ⟨rfl, rfl, rfl⟩ := H
   go_wp2
   go_ret3
   exact ⟨by first | rfl | (simp; done) | (simp [y2o]; done) | (simp [*]; done), by repeat (first | exact Drawn0.refl _ | apply Drawn0.step)⟩
  rw [if_pos aE] at H
  have aF := dt_ aE
  clear aE
  by_cases aH : 0 ≤ aA
  rotate_left
  ·rw [if_neg aH] at H
   exact absurd H (by simp)
  rw [if_pos aH] at H
  have aR := dt_ aH
  clear aH
  by_cases aG : aA < (a0.size : Int)
  rotate_left
  ·rw [if_neg aG] at H
   exact absurd H (by simp)
  rw [if_pos aG] at H
  have aO := dt_ aG
  clear aG
  have H' := q_ H
  clear H
  have aP : 0 ≤ (aA : Int) := oa_
  have aN : aA < (a0.size : Int) := oa_
  have aU := y15 a0 aA
  replace aP := eq_true aP
  replace aN := eq_true aN
  go_wp2
  go_roundg k2
  case measure => have := aM.out; have := aQ.out; omega
  case rel => exact ⟨(wrap64 ((wrap64 (256 * aD)) + (wrap64 (bt a0 aA)))), (wrap64 (aA - 1)), cl_, cl_, H', ⟨by have := aM.out; have := aQ.out; omega⟩, by repeat (first | exact Drawn0.refl _ | apply Drawn0.step)⟩
end Go.Proofs.Ytenlmckahaniiaa.K
end
section
namespace Go.Proofs.Ytenlmckahaniiaa.K
open Go.RowKit Go.Proofs.YtW.P Go.Proofs.YtW.L
def zq8.j0 : Nat → ByteArray → Int → Bool → Option (ByteArray × Int × Int)
  | 0, _, _, _ => none
  | k + 1, x0, x1, x17 => if x17 = true then (some (nB_, 0, 1)) else ((zq13.f k x0 x1 2).bind fun bt474 => (if bt474.2.2 = 0 then (if (wrap64 ((x0.size : Int) - bt474.2.1)) < bt474.1 then (some (nB_, 0, 8)) else (if 0 ≤ bt474.2.1 then (if bt474.2.1 ≤ (wrap64 (bt474.2.1 + bt474.1)) then (if (wrap64 (bt474.2.1 + bt474.1)) ≤ (x0.size : Int) then (some (x0.extract (bt474.2.1 : Int).toNat ((wrap64 (bt474.2.1 + bt474.1)) : Int).toNat, wrap64 (bt474.2.1 + bt474.1), 0)) else (none)) else (none)) else (none))) else (some (nB_, 0, bt474.2.2))))
def zq8.f (k : Nat) (a0 : ByteArray) (a1 : Int) : Option (ByteArray × Int × Int) := if a1 < 0 then (zq8.j0 k a0 a1 true) else (zq8.j0 k a0 a1 (decide (a1 > (a0.size : Int))))
theorem zq8.mono_l : ∀ k, (∀ y0 y1 y2, LeO (zq8.j0 k y0 y1 y2) (zq8.j0 (k + 1) y0 y1 y2))
 | 0 => fun _ _ _ r h => by simp [zq8.j0] at h
 | k + 1 => by
  have ih0 := zq8.mono_l k
  ·intro y0 y1 y2
   unfold zq8.j0
   with_reducible repeat' first | apply ih0 | apply zq13.mono | exact LeO.refl _ | exact LeO.none _ | refine LeO.ite ?_ ?_ | refine LeO.bind ?_ (fun _ => ?_)
theorem zq8.mono : ∀ a0 a1 k, LeO (zq8.f k a0 a1) (zq8.f (k + 1) a0 a1) := by
 intro a0 a1 k
 have ih0 := zq8.mono_l k
 unfold zq8.f
 with_reducible repeat' first | apply ih0 | apply zq13.mono | exact LeO.refl _ | exact LeO.none _ | refine LeO.ite ?_ ?_ | refine LeO.bind ?_ (fun _ => ?_)
theorem zq8.calls (k : Nat) (a0 : ByteArray) (a1 : Int) (r1 : ByteArray) (r2 : Int) (r3 : Int) (w : World) (h : zq8.f k a0 a1 = some (r1, r2, r3)) :
  Calls Try.prog 97 #[.string a0, .int .i64 a1] w fun e w' => e = .returned (.tuple #[.string r1, .int .i64 r2, .int .i64 r3]) ∧ Drawn0 w w' := by
 have H : (if a1 < 0 then (zq8.j0 k a0 a1 true) else (zq8.j0 k a0 a1 (decide (a1 > (a0.size : Int))))) = some (r1, r2, r3) := h
 clear h
 have aJ := q_ H
 clear H
 go_enter Try.func97, Try.ntmps97
 go_upto_region 1 with (fail)
 go_cut [17] (fun aR wc => ∃ (kq : Nat) (aB : Bool), aR = .bool aB ∧ Aside0 (zq8.j0 kq a0 a1 aB = some (r1, r2, r3)) ∧ Aside0 (kq ≤ k) ∧ Drawn0 w wc)
 case first =>
  have H := aJ.out
  clear aJ
  by_cases c4 : a1 < 0
  ·rw [if_pos c4] at H
   have aD := dt_ c4
   clear c4
   (first | rw [aD] | (simp only [y2h, y2g]; rw [aD]) | skip)
   have H' := q_ H
   clear H
   go_wp2
   go_meet
   case rel => exact ⟨_, (true), cl_, H', ⟨oz_⟩, by repeat (first | exact Drawn0.refl _ | apply Drawn0.step)⟩
  rw [if_neg c4] at H
  have aD := df_ c4
  clear c4
  (first | rw [aD] | (simp only [y2h, y2g]; rw [aD]) | skip)
  have H' := q_ H
  clear H
  go_wp2
  go_meet
  case rel => exact ⟨_, (decide (a1 > (a0.size : Int))), cl_, H', ⟨oz_⟩, by repeat (first | exact Drawn0.refl _ | apply Drawn0.step)⟩
 clear aJ
 obtain ⟨kq, aB, rfl, HA, aT, ⟨aS, rfl⟩⟩ := hcut
 obtain _ | kj2 := kq
 ·exact nn_ HA
 have H := HA.out
 clear HA
 simp only [zq8.j0] at H
 by_cases c5 : aB = true
 ·subst c5
  rw [if_pos rfl] at H
  simp only [Option.some.injEq, Prod.mk.injEq] at H
  obtain ⟨rfl, rfl, rfl⟩ := H
  go_wp2
  go_ret3
  exact ⟨by first | rfl | (simp; done) | (simp [y2o]; done) | (simp [*]; done), by repeat (first | exact Drawn0.refl _ | apply Drawn0.step)⟩
 replace c5 := Bool.eq_false_iff.mpr c5
 subst c5
 rw [if_neg (show ¬ (false = true) by decide)] at H
 obtain ⟨⟨aC, aA, aE⟩, A6, H⟩ := bq_ H
 (try dsimp only at H)
 by_cases c7 : aE = 0
 rotate_left
 ·rw [if_neg c7] at H
  have aI := ef_ c7
  have aK := nt_ c7
  simp only [Option.some.injEq, Prod.mk.injEq] at H
  obtain ⟨rfl, rfl, rfl⟩ := H
  go_wp2_with (first | (refine gc_ 98 ?_; refine gl_ (some 21) Try.func98 #[.string a0, .int .i64 a1, .int .i64 2] ?_; (with_reducible refine (zq13.calls kj2 a0 a1 2 aC aA aE _ A6.out).mono ?_); rintro e w' ⟨rfl, ⟨nd, rfl⟩⟩; refine ⟨_, rfl, ?_⟩))
  go_ret3
  exact ⟨by first | rfl | (simp; done) | (simp [y2o]; done) | (simp [*]; done), by repeat (first | exact Drawn0.refl _ | apply Drawn0.step)⟩
 rw [if_pos c7] at H
 have aI := et_ c7
 have aK := nf_ c7
 clear c7
 by_cases c8 : (wrap64 ((a0.size : Int) - aA)) < aC
 ·rw [if_pos c8] at H
  have aH := dt_ c8
  clear c8
  simp only [Option.some.injEq, Prod.mk.injEq] at H
  obtain ⟨rfl, rfl, rfl⟩ := H
  go_wp2_with (first | (refine gc_ 98 ?_; refine gl_ (some 21) Try.func98 #[.string a0, .int .i64 a1, .int .i64 2] ?_; (with_reducible refine (zq13.calls kj2 a0 a1 2 aC aA aE _ A6.out).mono ?_); rintro e w' ⟨rfl, ⟨nd, rfl⟩⟩; refine ⟨_, rfl, ?_⟩))
  go_ret3
  exact ⟨by first | rfl | (simp; done) | (simp [y2o]; done) | (simp [*]; done), by repeat (first | exact Drawn0.refl _ | apply Drawn0.step)⟩
 rw [if_neg c8] at H
 have aH := df_ c8
 clear c8
 by_cases c9 : 0 ≤ aA
 rotate_left
 ·rw [if_neg c9] at H
  exact absurd H (by simp)
 rw [if_pos c9] at H
 have aQ := eq_true c9
 have aP := dt_ c9
 clear c9
 by_cases aG : aA ≤ (wrap64 (aA + aC))
 rotate_left
 ·rw [if_neg aG] at H
  exact absurd H (by simp)
 rw [if_pos aG] at H
 have aM := eq_true aG
 have aL := dt_ aG
 by_cases aF : (wrap64 (aA + aC)) ≤ (a0.size : Int)
 rotate_left
 ·rw [if_neg aF] at H
  exact absurd H (by simp)
 rw [if_pos aF] at H
 have aO := eq_true aF
 have aN := dt_ aF
 simp only [Option.some.injEq, Prod.mk.injEq] at H
 obtain ⟨rfl, rfl, rfl⟩ := H
 go_wp2_with (first | (refine gc_ 98 ?_; refine gl_ (some 21) Try.func98 #[.string a0, .int .i64 a1, .int .i64 2] ?_; (with_reducible refine (zq13.calls kj2 a0 a1 2 aC aA aE _ A6.out).mono ?_); rintro e w' ⟨rfl, ⟨nd, rfl⟩⟩; refine ⟨_, rfl, ?_⟩))
 go_ret3
 exact ⟨by first | rfl | (simp; done) | (simp [y2o]; done) | (simp [*]; done), by repeat (first | exact Drawn0.refl _ | apply Drawn0.step)⟩
theorem IsS79.own_ne {w0 W : World} {g : Nat} {f0 : ByteArray} {f1 : Int} {f2 : Bool} {α : Type} {d : Kd α} {e : Nat} {base : Nat} {ok : Nat → Prop} {v : Value} {xs : List α} (h : IsS79 w0 W g f0 f1 f2) (ho : d.R e W base ok v xs) (ht : e ≠ 79) : some g ≠ v.ownBlock := by
 obtain ⟨hb, hg⟩ := h
 exact Kd.R_ne ho hb ht
theorem IsS79.far {w0 W : World} {g : Nat} {f0 : ByteArray} {f1 : Int} {f2 : Bool} {p : Addr} (h : IsS79 w0 W g f0 f1 f2) (hne : g ≠ p.block) (u : Value) : IsS79 w0 (W.setCell p u) g f0 f1 f2 := by
 obtain ⟨hb, hg⟩ := h
 exact ⟨blk_far hb hne u, hg⟩
theorem y1e {W : World} {g : Nat} {f0 : ByteArray} {f1 : Int} {f2 : Bool} (h : W.heap[g]? = some (.cells #[.string f0, .int .i64 f1, .bool f2] 79 (0, 0))) : W.cell? ⟨g, 0, none⟩ = some (.string f0) := (y0o h 0).trans rfl
theorem IsS79.set_0 {w0 W : World} {g : Nat} {f0 : ByteArray} {f1 : Int} {f2 : Bool} (h : IsS79 w0 W g f0 f1 f2) (x : ByteArray) : IsS79 w0 (W.setCell ⟨g, 0, none⟩ (.string x)) g x f1 f2 := by
 obtain ⟨hb, hg⟩ := h
 exact ⟨by simpa using y0u hb 0 (.string x), hg⟩
theorem y1f {W : World} {g : Nat} {f0 : ByteArray} {f1 : Int} {f2 : Bool} (h : W.heap[g]? = some (.cells #[.string f0, .int .i64 f1, .bool f2] 79 (0, 0))) : W.cell? ⟨g, 1, none⟩ = some (.int .i64 f1) := (y0o h 1).trans rfl
theorem IsS79.set_1 {w0 W : World} {g : Nat} {f0 : ByteArray} {f1 : Int} {f2 : Bool} (h : IsS79 w0 W g f0 f1 f2) (x : Int) : IsS79 w0 (W.setCell ⟨g, 1, none⟩ (.int .i64 x)) g f0 x f2 := by
 obtain ⟨hb, hg⟩ := h
 exact ⟨by simpa using y0u hb 1 (.int .i64 x), hg⟩
theorem y1g {W : World} {g : Nat} {f0 : ByteArray} {f1 : Int} {f2 : Bool} (h : W.heap[g]? = some (.cells #[.string f0, .int .i64 f1, .bool f2] 79 (0, 0))) : W.cell? ⟨g, 2, none⟩ = some (.bool f2) := (y0o h 2).trans rfl
theorem IsS79.set_2 {w0 W : World} {g : Nat} {f0 : ByteArray} {f1 : Int} {f2 : Bool} (h : IsS79 w0 W g f0 f1 f2) (x : Bool) : IsS79 w0 (W.setCell ⟨g, 2, none⟩ (.bool x)) g f0 f1 x := by
 obtain ⟨hb, hg⟩ := h
 exact ⟨by simpa using y0u hb 2 (.bool x), hg⟩
theorem s79_ {p q : Prop} (h : q) (g : q → p := by intro h_; repeat (first | (with_reducible first | exact h_ | apply IsS79.alloc | apply IsS79.drewN | apply IsS79.drew | apply IsS79.set_0 | apply IsS79.set_1 | apply IsS79.set_2 | refine IsS79.far ?_ (Aside0.out (by assumption)) _) | exact h_)) : p := g h
def zq5.f (k : Nat) (s0_0 : ByteArray) (s0_1 : Int) (s0_2 : Bool) : Option (ByteArray × ByteArray × Int × Bool) := (zq8.f k s0_0 s0_1).bind fun bt477 => (if bt477.2.2 = 0 then (some (bt477.1, s0_0, bt477.2.1, s0_2)) else (some (nB_, s0_0, s0_1, true)))
theorem zq5.mono : ∀ a0 a1 a2 k, LeO (zq5.f k a0 a1 a2) (zq5.f (k + 1) a0 a1 a2) := by
 intro a0 a1 a2 k
 unfold zq5.f
 with_reducible repeat' first | apply zq8.mono | exact LeO.refl _ | exact LeO.none _ | refine LeO.ite ?_ ?_ | refine LeO.bind ?_ (fun _ => ?_)
theorem zq5.calls (k : Nat) (g : Nat) (aA : ByteArray) (aB : Int) (aI : Bool) (r1 : ByteArray) (r2 : ByteArray) (r3 : Int) (r4 : Bool) (w0 w : World) (hI : IsS79 w0 w g aA aB aI) (hB : Below w0.heap.size w0 w) (h : zq5.f k aA aB aI = some (r1, r2, r3, r4)) :
  Calls Try.prog 66 #[.pointer (some ⟨g, 0, none⟩)] w fun e w' => e = .returned (.string r1) ∧ IsS79 w0 w' g r2 r3 r4 ∧ Below w0.heap.size w0 w' ∧ KeepBut w w' g none := by
 have aJ := q_ hI
 have HK := q_ (KeepBut.refl w g none)
 have HL := q_ hB.size
 clear hI
 have a0 := q_ hB.size
 have HB := q_ hB
 clear hB
 have H : ((zq8.f k aA aB).bind fun aH => (if aH.2.2 = 0 then (some (aH.1, aA, aH.2.1, aI)) else (some (nB_, aA, aB, true)))) = some (r1, r2, r3, r4) := h
 clear h
 obtain ⟨⟨aG, aF, aE⟩, A2, H⟩ := bq_ H
 (try dsimp only at H)
 by_cases c3 : aE = 0
 rotate_left
 ·rw [if_neg c3] at H
  have aX := ef_ c3
  have aK := nt_ c3
  simp only [Option.some.injEq, Prod.mk.injEq] at H
  obtain ⟨rfl, rfl, rfl, rfl⟩ := H
  obtain ⟨aC, aU⟩ := aJ.out
  have aQ := y1e aC
  have aM := y1f aC
  have aW := y1g aC
  have aR := y0q aC 0
  have aO := y0q aC 1
  have aL := y0q aC 2
  clear aC aU
  go_enter Try.func66, Try.ntmps66
  go_wp2_with (first | (go_at_call 97; (with_reducible refine (zq8.calls k aA aB aG aF aE _ A2.out).mono ?_); rintro e w' ⟨rfl, ⟨nd, rfl⟩⟩; (try first | exact ⟨rfl, _, World.drewN_drewN _ _ _⟩ | exact ⟨rfl, _, Eq.trans (World.drewN_drewN _ _ _) (congrArg (World.drewN _) (Nat.add_assoc _ _ _))⟩)))
  repeat (go_quiet (first | (go_at_call 97; (with_reducible refine (zq8.calls k aA aB aG aF aE _ A2.out).mono ?_); rintro e w' ⟨rfl, ⟨nd, rfl⟩⟩; (try first | exact ⟨rfl, _, World.drewN_drewN _ _ _⟩ | exact ⟨rfl, _, Eq.trans (World.drewN_drewN _ _ _) (congrArg (World.drewN _) (Nat.add_assoc _ _ _))⟩))); try go_wp2_with (first | (go_at_call 97; (with_reducible refine (zq8.calls k aA aB aG aF aE _ A2.out).mono ?_); rintro e w' ⟨rfl, ⟨nd, rfl⟩⟩; (try first | exact ⟨rfl, _, World.drewN_drewN _ _ _⟩ | exact ⟨rfl, _, Eq.trans (World.drewN_drewN _ _ _) (congrArg (World.drewN _) (Nat.add_assoc _ _ _))⟩))))
  go_ret
  exact ⟨ew_, s79_ aJ.out, hb_, hk_⟩
 rw [if_pos c3] at H
 have aX := et_ c3
 have aK := nf_ c3
 clear c3
 simp only [Option.some.injEq, Prod.mk.injEq] at H
 obtain ⟨rfl, rfl, rfl, rfl⟩ := H
 obtain ⟨aD, aS⟩ := aJ.out
 have aZ := y1e aD
 have aT := y1f aD
 have aN := y1g aD
 have aV := y0q aD 0
 have aY := y0q aD 1
 have aP := y0q aD 2
 clear aD aS
 go_enter Try.func66, Try.ntmps66
 go_wp2_with (first | (go_at_call 97; (with_reducible refine (zq8.calls k aA aB aG aF aE _ A2.out).mono ?_); rintro e w' ⟨rfl, ⟨nd, rfl⟩⟩; (try first | exact ⟨rfl, _, World.drewN_drewN _ _ _⟩ | exact ⟨rfl, _, Eq.trans (World.drewN_drewN _ _ _) (congrArg (World.drewN _) (Nat.add_assoc _ _ _))⟩)))
 repeat (go_quiet (first | (go_at_call 97; (with_reducible refine (zq8.calls k aA aB aG aF aE _ A2.out).mono ?_); rintro e w' ⟨rfl, ⟨nd, rfl⟩⟩; (try first | exact ⟨rfl, _, World.drewN_drewN _ _ _⟩ | exact ⟨rfl, _, Eq.trans (World.drewN_drewN _ _ _) (congrArg (World.drewN _) (Nat.add_assoc _ _ _))⟩))); try go_wp2_with (first | (go_at_call 97; (with_reducible refine (zq8.calls k aA aB aG aF aE _ A2.out).mono ?_); rintro e w' ⟨rfl, ⟨nd, rfl⟩⟩; (try first | exact ⟨rfl, _, World.drewN_drewN _ _ _⟩ | exact ⟨rfl, _, Eq.trans (World.drewN_drewN _ _ _) (congrArg (World.drewN _) (Nat.add_assoc _ _ _))⟩))))
 go_ret
 exact ⟨ew_, s79_ aJ.out, hb_, hk_⟩
end Go.Proofs.Ytenlmckahaniiaa.K
end
