/- Lemmas for several laws: what their proofs need of this seat's texts, in one place. -/
import Derived.Test.YtgcmhfoegbaaiaaZcTw3
set_option linter.unusedVariables false
set_option linter.unusedSimpArgs false
set_option linter.unusedSectionVars false
set_option maxHeartbeats 8000000
set_option maxRecDepth 100000
section
namespace Go.Proofs.Ytgcmhfoegbaaiaa.K
open Go.RowKit Go.Proofs.YtW.P Go.Proofs.YtW.L
def zqr.l0 : Nat → ByteArray → List Int → Int → Int → Option (Bool)
  | 0, _, _, _, _ => none
  | k + 1, x0, x6, x7, x8 => if x8 < x7 then (if 0 ≤ x8 then (if x8 < (x6.length : Int) then ((zqn.f (rd x6 x8)).bind fun t299 => (if t299 = true then (zqr.l0 k x0 x6 x7 (wrap64 (x8 + 1))) else (some false))) else (none)) else (none)) else (some (decide ((x0.size : Int) ≤ 79)))
def zqr.f (k : Nat) (a0 : ByteArray) : Option (Bool) := if (a0.size : Int) ≤ 9223372036854775807 then ((some (bytesOf a0 : List Int)).bind fun y295 => (zqr.l0 k a0 y295 (y295.length : Int) 0)) else (none)
theorem zqr.mono_l : ∀ k, (∀ y0 y1 y2 y3, LeO (zqr.l0 k y0 y1 y2 y3) (zqr.l0 (k + 1) y0 y1 y2 y3))
 | 0 => fun _ _ _ _ r h => by simp [zqr.l0] at h
 | k + 1 => by
  have ih0 := zqr.mono_l k
  ·intro y0 y1 y2 y3
   unfold zqr.l0
   with_reducible repeat' first | apply ih0 | exact LeO.refl _ | exact LeO.none _ | refine LeO.ite ?_ ?_ | refine LeO.bind ?_ (fun _ => ?_)
theorem zqr.mono : ∀ a0 k, LeO (zqr.f k a0) (zqr.f (k + 1) a0) := by
 intro a0 k
 have ih0 := zqr.mono_l k
 unfold zqr.f
 with_reducible repeat' first | apply ih0 | exact LeO.refl _ | exact LeO.none _ | refine LeO.ite ?_ ?_ | refine LeO.bind ?_ (fun _ => ?_)
theorem zqr.calls (k : Nat) (a0 : ByteArray) (r : Bool) (w : World) (h : zqr.f k a0 = some r) :
  Calls Try.prog 32 #[.string a0] w fun e w' => e = .returned (.bool r) ∧ Below w.heap.size w w' := by
 have HB := q_ (Below.refl w.heap.size w)
 have H : (if (a0.size : Int) ≤ 9223372036854775807 then ((some (bytesOf a0 : List Int)).bind fun aB => (zqr.l0 k a0 aB (aB.length : Int) 0)) else (none)) = some r := h
 clear h
 by_cases c2 : (a0.size : Int) ≤ 9223372036854775807
 rotate_left
 ·rw [if_neg c2] at H
  exact absurd H (by simp)
 rw [if_pos c2] at H
 have aR := eq_true c2
 have aS := dt_ c2
 try have aT : (9223372036854775807 < (a0.size : Int)) = False := eq_false (Nat.not_lt.2 c2)
 clear c2
 obtain ⟨aB, aC⟩ : ∃ y_ : List Int, y_ = (bytesOf a0) := ⟨_, rfl⟩
 replace H : (zqr.l0 k a0 aB (aB.length : Int) 0) = some r := by first | (rw [aC]; with_reducible exact H) | (have aN := (Option.bind_some _ _).symm.trans H; rw [aC]; with_reducible exact aN) | (have aN := (Option.bind_some _ _).symm.trans H; with_reducible exact aN) | with_reducible exact H | (rw [aC]; exact H) | exact H
 have aH := q_ aC
 clear aC
 have H' := q_ H
 clear H
 go_enter Try.func32, Try.ntmps32
 go_wp2_with (first | (refine gd_ 6 ?_; refine Kd.V_conv _ 5 rfl (N := 6) rfl 9 47 _ rfl a0 (by go_simp) Try.underlying9 Try.underlying47 Try.underlying5 (oa_) (Below.refl _ _) (Nat.le_refl _) ?_; intro aY w3 aL hb hg_ hnew_; clear hg_ hnew_; (first | rw [← aH.out] at aL | (simp only [Int.reduceToNat] at aL; rw [← aH.out] at aL)); have aG := q_ (Kd.V_lower (Kd.V_mono (ok' := fun k_ => True) aL (fun k_ hk_ => trivial)) (y08 hb_)); replace HB := q_ (y09 hb_ hb); clear hb aL; obtain ⟨aQ, aW, aX⟩ := Kd.V_slice aG.out; subst aX))
 go_loopg [8] k (fun kq v8 w' => ∃ (aA : Int), v8 = .int .i64 aA ∧ Aside0 (zqr.l0 kq a0 aB (aB.length : Int) aA = some r) ∧ Aside0 (kq ≤ k) ∧ Aside0 (Kd.V (Kd.int .u8) 5 w' w.heap.size (fun _ => True) (.slice aQ aB.length aW) aB) ∧ Aside0 (Below w.heap.size w w'))
 case atStart => exact ⟨(0), cl_, H', ⟨Nat.le_refl _⟩, ⟨vk_ aG.out⟩, ⟨hb_⟩⟩
 case round =>
  clear H'
  obtain ⟨aA, rfl, HA, HK1, aI, HB⟩ := hrel
  obtain _ | k1 := gk
  ·exact nn_ HA
  have H := HA.out
  clear HA
  simp only [zqr.l0] at H
  by_cases c6 : aA < (aB.length : Int)
  rotate_left
  ·rw [if_neg c6] at H
   have aO := df_ c6
   clear c6
   obtain rfl := Option.some.inj H
   go_wp2
   go_ret
   exact ⟨ew_, hb_⟩
  rw [if_pos c6] at H
  have aO := dt_ c6
  clear c6
  by_cases c7 : 0 ≤ aA
  rotate_left
  ·rw [if_neg c7] at H
   exact absurd H (by simp)
  rw [if_pos c7] at H
  have aU := dt_ c7
  clear c7
  by_cases c8 : aA < (aB.length : Int)
  rotate_left
  ·rw [if_neg c8] at H
   exact absurd H (by simp)
  rw [if_pos c8] at H
  have aV := dt_ c8
  clear c8
  obtain ⟨aP, A9, H⟩ := bq_ H
  (try dsimp only at H)
  by_cases aM : aP = true
  rotate_left
  ·replace aM := Bool.eq_false_iff.mpr aM
   subst aM
   rw [if_neg (show ¬ (false = true) by decide)] at H
   obtain rfl := Option.some.inj H
   have aD : 0 ≤ (aA : Int) := oa_
   have aE : aA < (aB.length : Int) := oa_
   obtain ⟨aK, aJ, aF⟩ := Kd.at_int (Kd.V_reads' aI.out).2.2 aA aD aE
   cases aJ
   replace aD := eq_true aD
   replace aE := eq_true aE
   go_wp2_with (first | (refine gc_ 37 ?_; refine gl_ (some 13) Try.func37 #[.int .u8 (rd aB aA)] ?_; (with_reducible refine (zqn.calls (rd aB aA) false _ A9.out).mono ?_); rintro e w' ⟨rfl, ⟨nd, rfl⟩⟩; refine ⟨_, rfl, ?_⟩))
   go_ret
   exact ⟨ew_, hb_⟩
  subst aM
  rw [if_pos rfl] at H
  have H' := q_ H
  clear H
  have aD : 0 ≤ (aA : Int) := oa_
  have aE : aA < (aB.length : Int) := oa_
  obtain ⟨aK, aJ, aF⟩ := Kd.at_int (Kd.V_reads' aI.out).2.2 aA aD aE
  cases aJ
  replace aD := eq_true aD
  replace aE := eq_true aE
  go_wp2_with (first | (refine gc_ 37 ?_; refine gl_ (some 13) Try.func37 #[.int .u8 (rd aB aA)] ?_; (with_reducible refine (zqn.calls (rd aB aA) true _ A9.out).mono ?_); rintro e w' ⟨rfl, ⟨nd, rfl⟩⟩; refine ⟨_, rfl, ?_⟩))
  go_roundg k1
  case measure => have := HK1.out; omega
  case rel => exact ⟨(wrap64 (aA + 1)), cl_, H', ⟨by have := HK1.out; omega⟩, ⟨vk_ aI.out⟩, ⟨hb_⟩⟩
def zq5.f (a0 : ByteArray) (a1 : ByteArray) : Option (Bool) := if (a0.size : Int) ≥ (a1.size : Int) then (if 0 ≤ (wrap64 ((a0.size : Int) - (a1.size : Int))) then (if (wrap64 ((a0.size : Int) - (a1.size : Int))) ≤ (a0.size : Int) then (some ((a0.extract ((wrap64 ((a0.size : Int) - (a1.size : Int))) : Int).toNat a0.size).toList == a1.toList)) else (none)) else (none)) else (some false)
theorem zq5.calls (a0 : ByteArray) (a1 : ByteArray) (r : Bool) (w : World) (h : zq5.f a0 a1 = some r) :
  Calls Try.prog 41 #[.string a0, .string a1] w fun e w' => e = .returned (.bool r) ∧ Drawn0 w w' := by
 have H : (if (a0.size : Int) ≥ (a1.size : Int) then (if 0 ≤ (wrap64 ((a0.size : Int) - (a1.size : Int))) then (if (wrap64 ((a0.size : Int) - (a1.size : Int))) ≤ (a0.size : Int) then (some ((a0.extract ((wrap64 ((a0.size : Int) - (a1.size : Int))) : Int).toNat a0.size).toList == a1.toList)) else (none)) else (none)) else (some false)) = some r := h
 clear h
 by_cases c3 : (a0.size : Int) ≥ (a1.size : Int)
 rotate_left
 ·rw [if_neg c3] at H
  have aC := df_ c3
  have aD : decide (a1.size ≤ a0.size) = false := decide_eq_false (fun h => c3 (Int.ofNat_le.mpr h))
  clear c3
  obtain rfl := Option.some.inj H
  go_enter Try.func41, Try.ntmps41
  go_wp2
  go_ret
  exact ⟨by first | rfl | (simp; done) | (simp [y18]; done) | (simp [*]; done), by repeat (first | exact Drawn0.refl _ | apply Drawn0.step)⟩
 rw [if_pos c3] at H
 have aC := dt_ c3
 have aD : decide (a1.size ≤ a0.size) = true := decide_eq_true (Int.ofNat_le.mp c3)
 clear c3
 obtain ⟨aB, aA⟩ : ∃ j_ : Int, (wrap64 ((a0.size : Int) - (a1.size : Int))) = j_ := ⟨_, rfl⟩
 replace H : (if 0 ≤ (aB) then (if (aB) ≤ (a0.size : Int) then (some ((a0.extract ((aB) : Int).toNat a0.size).toList == a1.toList)) else (none)) else (none)) = some r := by first | (rw [aA] at H; exact H) | (simp only [aA] at H ⊢; exact H)
 have aE : (IntKind.i64.wrap ((a0.size : Int) - (a1.size : Int))) = aB := (y17 _).trans aA
 by_cases c5 : 0 ≤ (aB)
 rotate_left
 ·rw [if_neg c5] at H
  exact absurd H (by simp)
 rw [if_pos c5] at H
 have aF := eq_true c5
 have aG := dt_ c5
 clear c5
 by_cases c6 : (aB) ≤ (a0.size : Int)
 rotate_left
 ·rw [if_neg c6] at H
  exact absurd H (by simp)
 rw [if_pos c6] at H
 have aH := eq_true c6
 have aI := dt_ c6
 clear c6
 obtain rfl := Option.some.inj H
 go_enter Try.func41, Try.ntmps41
 go_wp2
 go_ret
 exact ⟨by first | rfl | (simp; done) | (simp only [← aA] <;> (first | rfl | simp)) | (simp [y18]; done) | (simp [*]; done), by repeat (first | exact Drawn0.refl _ | apply Drawn0.step)⟩
def zq3.f (a0 : ByteArray) (a1 : ByteArray) : Option (ByteArray) := (zq5.f a0 a1).bind fun t300 => (if t300 = true then (if 0 ≤ (wrap64 ((a0.size : Int) - (a1.size : Int))) then (if (wrap64 ((a0.size : Int) - (a1.size : Int))) ≤ (a0.size : Int) then (some (a0.extract 0 ((wrap64 ((a0.size : Int) - (a1.size : Int))) : Int).toNat)) else (none)) else (none)) else (some a0))
theorem zq3.calls (a0 : ByteArray) (a1 : ByteArray) (r : ByteArray) (w : World) (h : zq3.f a0 a1 = some r) :
  Calls Try.prog 40 #[.string a0, .string a1] w fun e w' => e = .returned (.string r) ∧ Drawn0 w w' := by
 have H : ((zq5.f a0 a1).bind fun aB => (if aB = true then (if 0 ≤ (wrap64 ((a0.size : Int) - (a1.size : Int))) then (if (wrap64 ((a0.size : Int) - (a1.size : Int))) ≤ (a0.size : Int) then (some (a0.extract 0 ((wrap64 ((a0.size : Int) - (a1.size : Int))) : Int).toNat)) else (none)) else (none)) else (some a0))) = some r := h
 clear h
 obtain ⟨aB, A3, H⟩ := bq_ H
 (try dsimp only at H)
 by_cases c4 : aB = true
 rotate_left
 ·replace c4 := Bool.eq_false_iff.mpr c4
  subst c4
  rw [if_neg (show ¬ (false = true) by decide)] at H
  obtain rfl := Option.some.inj H
  go_enter Try.func40, Try.ntmps40
  go_wp2_with (first | (refine gc_ 41 ?_; refine gl_ (some 7) Try.func41 #[.string a0, .string a1] ?_; (with_reducible refine (zq5.calls a0 a1 false _ A3.out).mono ?_); rintro e w' ⟨rfl, ⟨nd, rfl⟩⟩; refine ⟨_, rfl, ?_⟩))
  go_ret
  exact ⟨by first | rfl | (simp; done) | (simp [y18]; done) | (simp [*]; done), by repeat (first | exact Drawn0.refl _ | apply Drawn0.step)⟩
 subst c4
 rw [if_pos rfl] at H
 obtain ⟨aC, aA⟩ : ∃ j_ : Int, (wrap64 ((a0.size : Int) - (a1.size : Int))) = j_ := ⟨_, rfl⟩
 replace H : (if 0 ≤ (aC) then (if (aC) ≤ (a0.size : Int) then (some (a0.extract 0 ((aC) : Int).toNat)) else (none)) else (none)) = some r := by first | (rw [aA] at H; exact H) | (simp only [aA] at H ⊢; exact H)
 (try rw [aA] at A3)
 have aD : (IntKind.i64.wrap ((a0.size : Int) - (a1.size : Int))) = aC := (y17 _).trans aA
 by_cases c6 : 0 ≤ (aC)
 rotate_left
 ·rw [if_neg c6] at H
  exact absurd H (by simp)
 rw [if_pos c6] at H
 have aE := eq_true c6
 have aF := dt_ c6
 clear c6
 by_cases c7 : (aC) ≤ (a0.size : Int)
 rotate_left
 ·rw [if_neg c7] at H
  exact absurd H (by simp)
 rw [if_pos c7] at H
 have aG := eq_true c7
 have aH := dt_ c7
 clear c7
 obtain rfl := Option.some.inj H
 go_enter Try.func40, Try.ntmps40
 go_wp2_with (first | (refine gc_ 41 ?_; refine gl_ (some 7) Try.func41 #[.string a0, .string a1] ?_; (with_reducible refine (zq5.calls a0 a1 true _ A3.out).mono ?_); rintro e w' ⟨rfl, ⟨nd, rfl⟩⟩; refine ⟨_, rfl, ?_⟩))
 go_ret
 exact ⟨by first | rfl | (simp; done) | (simp only [← aA] <;> (first | rfl | simp)) | (simp [y18]; done) | (simp [*]; done), by repeat (first | exact Drawn0.refl _ | apply Drawn0.step)⟩
def zqh.f (a0 : ByteArray) (a1 : ByteArray) : Option (ByteArray) := (zq3.f a0 a1).bind fun t301 => (some t301)
theorem zqh.calls (a0 : ByteArray) (a1 : ByteArray) (r : ByteArray) (w : World) (h : zqh.f a0 a1 = some r) :
  Calls Try.prog 33 #[.string a0, .string a1] w fun e w' => e = .returned (.string r) ∧ Drawn0 w w' := by
 have H : ((zq3.f a0 a1).bind fun aA => (some aA)) = some r := h
 clear h
 obtain ⟨aA, A3, H⟩ := bq_ H
 (try dsimp only at H)
 obtain rfl := Option.some.inj H
 go_enter Try.func33, Try.ntmps33
 go_wp2_with (first | (refine gc_ 40 ?_; refine gl_ (some 7) Try.func40 #[.string a0, .string a1] ?_; (with_reducible refine (zq3.calls a0 a1 aA _ A3.out).mono ?_); rintro e w' ⟨rfl, ⟨nd, rfl⟩⟩; refine ⟨_, rfl, ?_⟩))
 go_ret
 exact ⟨by first | rfl | (simp; done) | (simp [y18]; done) | (simp [*]; done), by repeat (first | exact Drawn0.refl _ | apply Drawn0.step)⟩
end Go.Proofs.Ytgcmhfoegbaaiaa.K
end
section
namespace Go.Proofs.Ytgcmhfoegbaaiaa.K
open Go.RowKit Go.Proofs.YtW.P Go.Proofs.YtW.L
mutual
def zql.j0 : Nat → Bool → Bool → ByteArray → List ByteArray → ByteArray → Option (Bool)
  | 0, _, _, _, _, _ => none
  | k + 1, x29, x303000, x303001, x303002, x303003 => if x29 = true then (some false) else (zql.l0 k x303002 (x303002.length : Int) 0)
def zql.l0 : Nat → List ByteArray → Int → Int → Option (Bool)
  | 0, _, _, _ => none
  | k + 1, x31, x32, x33 => if x33 < x32 then (if 0 ≤ x33 then (if x33 < (x31.length : Int) then (if ((rdOf ByteArray.empty x31 x33).size : Int) = 1 then (zql.l0 k x31 x32 (wrap64 (x33 + 1))) else ((zqh.f (rdOf ByteArray.empty x31 x33) (⟨#[10]⟩ : ByteArray)).bind fun t305 => ((zqr.f k t305).bind fun t306 => (if t306 = true then (zql.l0 k x31 x32 (wrap64 (x33 + 1))) else (some false))))) else (none)) else (none)) else (some true)
end
def zql.f (k : Nat) (a0_0 : Bool) (a0_1 : ByteArray) (l0_2 : List ByteArray) (a0_3 : ByteArray) : Option (Bool) := if (a0_3.size : Int) > 256 then (zql.j0 k true a0_0 a0_1 l0_2 a0_3) else ((zqr.f k a0_1).bind fun t303 => (if t303 = true then (if a0_0 = true then (if a0_1.toList = ([] : List UInt8) then (zql.j0 k (decide ((l0_2.length : Int) > 16)) a0_0 a0_1 l0_2 a0_3) else (zql.j0 k true a0_0 a0_1 l0_2 a0_3)) else (zql.j0 k (decide ((l0_2.length : Int) > 16)) a0_0 a0_1 l0_2 a0_3)) else (zql.j0 k true a0_0 a0_1 l0_2 a0_3)))
theorem zql.mono_l : ∀ k, (∀ y0 y1 y2 y3 y4, LeO (zql.j0 k y0 y1 y2 y3 y4) (zql.j0 (k + 1) y0 y1 y2 y3 y4)) ∧ (∀ y0 y1 y2, LeO (zql.l0 k y0 y1 y2) (zql.l0 (k + 1) y0 y1 y2))
 | 0 => ⟨fun _ _ _ _ _ r h => by simp [zql.j0] at h, fun _ _ _ r h => by simp [zql.l0] at h⟩
 | k + 1 => by
  obtain ⟨ih0, ih1⟩ := zql.mono_l k
  refine ⟨?_, ?_⟩
  ·intro y0 y1 y2 y3 y4
   unfold zql.j0
   with_reducible repeat' first | apply ih0 | apply ih1 | apply zqr.mono | exact LeO.refl _ | exact LeO.none _ | refine LeO.ite ?_ ?_ | refine LeO.bind ?_ (fun _ => ?_)
  ·intro y0 y1 y2
   unfold zql.l0
   with_reducible repeat' first | apply ih0 | apply ih1 | apply zqr.mono | exact LeO.refl _ | exact LeO.none _ | refine LeO.ite ?_ ?_ | refine LeO.bind ?_ (fun _ => ?_)
theorem zql.mono : ∀ a0 a1 a2 a3 k, LeO (zql.f k a0 a1 a2 a3) (zql.f (k + 1) a0 a1 a2 a3) := by
 intro a0 a1 a2 a3 k
 obtain ⟨ih0, ih1⟩ := zql.mono_l k
 unfold zql.f
 with_reducible repeat' first | apply ih0 | apply ih1 | apply zqr.mono | exact LeO.refl _ | exact LeO.none _ | refine LeO.ite ?_ ?_ | refine LeO.bind ?_ (fun _ => ?_)
theorem zql.calls (k : Nat) (aG : Bool) (aE : ByteArray) (aK : Option Addr) (aM : Nat) (aC : List ByteArray) (aF : ByteArray) (r : Bool) (w : World) (aT : Kd.C Kd.string w aK aC.length aC) (aS : aC.length ≤ aM) (h : zql.f k aG aE aC aF = some r) :
  Calls Try.prog 19 #[.agg #[.bool aG, .string aE, .slice aK aC.length aM, .string aF]] w fun e w' => e = .returned (.bool r) ∧ Below w.heap.size w w' := by
 have dM := Try.underlying24
 have aL := q_ aT
 have dJ := q_ aS
 clear aT aS
 have HB := q_ (Below.refl w.heap.size w)
 have H : (if (aF.size : Int) > 256 then (zql.j0 k true aG aE aC aF) else ((zqr.f k aE).bind fun aV => (if aV = true then (if aG = true then (if aE.toList = ([] : List UInt8) then (zql.j0 k (decide ((aC.length : Int) > 16)) aG aE aC aF) else (zql.j0 k true aG aE aC aF)) else (zql.j0 k (decide ((aC.length : Int) > 16)) aG aE aC aF)) else (zql.j0 k true aG aE aC aF)))) = some r := h
 clear h
 have cY := q_ H
 clear H
 go_enter Try.func19, Try.ntmps19
 go_upto_region 1 with (first | (refine gd_ 1 ?_; (try (refine y12 (by rfl) ?_; dsimp only)); refine bx_ 1 (cs := #[.bool aG, .string aE, .slice aK aC.length aM, .string aF]) 24 ?_; intro aR hg w3 hbox hb; have aA := q_ (hbox); have dI := gw_ w hg (y08 hb_); have dH := gw_ w hg (y08 hb_); replace HB := q_ (y09 hb_ hb); clear hb hbox hg))
 (try simp only [Act.put, List.setIfInBounds_toArray, List.set_cons_zero, List.set_cons_succ])
 go_cut [29] (fun dN wc => ∃ (kq : Nat) (aJ : Bool), dN = .bool aJ ∧ Aside0 (zql.j0 kq aJ aG aE aC aF = some r) ∧ Aside0 (kq ≤ k) ∧ Aside0 (wc.heap[aR]? = some (.cells #[.bool aG, .string aE, (.slice aK aC.length aM), .string aF] 24 (0, 0))) ∧ Aside0 (Below w.heap.size w wc))
 case first =>
  have H := cY.out
  clear cY
  by_cases c4 : (aF.size : Int) > 256
  ·rw [if_pos c4] at H
   have aN := dt_ c4
   have cZ : decide (256 < aF.size) = true := decide_eq_true (by omega)
   clear c4
   (first | rw [aN] | (simp only [y17, y15]; rw [aN]) | skip)
   have H' := q_ H
   clear H
   obtain ⟨c2, dA, c3, dB, c5, dC, c6, dD⟩ := b4_ aA.out
   go_wp2
   go_meet
   case rel => exact ⟨_, (true), cl_, H', ⟨oz_⟩, ⟨bk_ aA.out⟩, ⟨hb_⟩⟩
  rw [if_neg c4] at H
  have aN := df_ c4
  have cZ : decide (256 < aF.size) = false := decide_eq_false (by omega)
  clear c4
  (first | rw [aN] | (simp only [y17, y15]; rw [aN]) | skip)
  obtain ⟨aV, A6, H⟩ := bq_ H
  (try dsimp only at H)
  by_cases c7 : aV = true
  rotate_left
  ·replace c7 := Bool.eq_false_iff.mpr c7
   subst c7
   rw [if_neg (show ¬ (false = true) by decide)] at H
   have H' := q_ H
   clear H
   obtain ⟨bU, cQ, bV, cR, bW, cS, bX, cT⟩ := b4_ aA.out
   go_wp2_with (first | (go_at_call 32; (with_reducible refine (zqr.calls k aE false _ A6.out).mono ?_); rintro e dS ⟨rfl, hb⟩; replace aA := q_ (y0b (bk_ aA.out) hb); replace HB := q_ (y09 hb_ hb)))
   go_meet
   case rel => exact ⟨_, (true), cl_, H', ⟨oz_⟩, ⟨bk_ aA.out⟩, ⟨hb_⟩⟩
  subst c7
  rw [if_pos rfl] at H
  by_cases c8 : aG = true
  rotate_left
  ·replace c8 := Bool.eq_false_iff.mpr c8
   subst c8
   rw [if_neg (show ¬ (false = true) by decide)] at H
   have H' := q_ H
   clear H
   obtain ⟨bM, cI, bN, cJ, bO, cK, bP, cL⟩ := b4_ aA.out
   go_wp2_with (first | (go_at_call 32; (with_reducible refine (zqr.calls k aE true _ A6.out).mono ?_); rintro e dR ⟨rfl, hb⟩; replace aA := q_ (y0b (bk_ aA.out) hb); replace HB := q_ (y09 hb_ hb); obtain ⟨bQ, cM, bR, cN, bS, cO, bT, cP⟩ := b4_ aA.out))
   go_meet
   case rel => exact ⟨_, (decide ((aC.length : Int) > 16)), cl_, H', ⟨oz_⟩, ⟨bk_ aA.out⟩, ⟨hb_⟩⟩
  subst c8
  rw [if_pos rfl] at H
  by_cases c9 : aE.toList = ([] : List UInt8)
  rotate_left
  ·rw [if_neg c9] at H
   have c0 := ef_ c9
   have c1 := nt_ c9
   have H' := q_ H
   clear H
   obtain ⟨bE, cA, bF, cB, bG, cC, bH, cD⟩ := b4_ aA.out
   go_wp2_with (first | (go_at_call 32; (with_reducible refine (zqr.calls k aE true _ A6.out).mono ?_); rintro e dQ ⟨rfl, hb⟩; replace aA := q_ (y0b (bk_ aA.out) hb); replace HB := q_ (y09 hb_ hb); obtain ⟨bI, cE, bJ, cF, bK, cG, bL, cH⟩ := b4_ aA.out))
   go_meet
   case rel => exact ⟨_, (true), cl_, H', ⟨oz_⟩, ⟨bk_ aA.out⟩, ⟨hb_⟩⟩
  rw [if_pos c9] at H
  have c0 := et_ c9
  have c1 := nf_ c9
  clear c9
  have H' := q_ H
  clear H
  obtain ⟨a6, b2, a7, b3, a8, b4, a9, b5⟩ := b4_ aA.out
  go_wp2_with (first | (go_at_call 32; (with_reducible refine (zqr.calls k aE true _ A6.out).mono ?_); rintro e dP ⟨rfl, hb⟩; replace aA := q_ (y0b (bk_ aA.out) hb); replace HB := q_ (y09 hb_ hb); obtain ⟨bA, b6, bB, b7, bC, b8, bD, b9⟩ := b4_ aA.out))
  go_meet
  case rel => exact ⟨_, (decide ((aC.length : Int) > 16)), cl_, H', ⟨oz_⟩, ⟨bk_ aA.out⟩, ⟨hb_⟩⟩
 clear cY
 obtain ⟨kq, aJ, rfl, HA, a0, aA, HB⟩ := hcut
 obtain _ | kj1 := kq
 ·exact nn_ HA
 have H := HA.out
 clear HA
 simp only [zql.j0] at H
 by_cases a2 : aJ = true
 ·subst a2
  rw [if_pos rfl] at H
  obtain rfl := Option.some.inj H
  go_wp2
  go_ret
  exact ⟨ew_, hb_⟩
 replace a2 := Bool.eq_false_iff.mpr a2
 subst a2
 rw [if_neg (show ¬ (false = true) by decide)] at H
 have H' := q_ H
 clear H
 obtain ⟨bY, cU, bZ, cV, b0, cW, b1, cX⟩ := b4_ aA.out
 go_wp2
 go_loopg [33] kj1 (fun kq dO w' => ∃ (aB : Int), dO = .int .i64 aB ∧ Aside0 (zql.l0 kq aC (aC.length : Int) aB = some r) ∧ Aside0 (kq ≤ kj1) ∧ Aside0 (w'.heap[aR]? = some (.cells #[.bool aG, .string aE, (.slice aK aC.length aM), .string aF] 24 (0, 0))) ∧ Aside0 (Below w.heap.size w w'))
 case atStart => exact ⟨(0), cl_, H', ⟨Nat.le_refl _⟩, ⟨bk_ aA.out⟩, ⟨hb_⟩⟩
 case round =>
  clear H'
  obtain ⟨aB, rfl, HA, a1, aA, HB⟩ := hrel
  obtain _ | k2 := gk
  ·exact nn_ HA
  have H := HA.out
  clear HA
  simp only [zql.l0] at H
  by_cases aW : aB < (aC.length : Int)
  rotate_left
  ·rw [if_neg aW] at H
   have aX := df_ aW
   clear aW
   obtain rfl := Option.some.inj H
   go_wp2
   go_ret
   exact ⟨ew_, hb_⟩
  rw [if_pos aW] at H
  have aX := dt_ aW
  clear aW
  by_cases a3 : 0 ≤ aB
  rotate_left
  ·rw [if_neg a3] at H
   exact absurd H (by simp)
  rw [if_pos a3] at H
  have dK := dt_ a3
  clear a3
  by_cases a4 : aB < (aC.length : Int)
  rotate_left
  ·rw [if_neg a4] at H
   exact absurd H (by simp)
  rw [if_pos a4] at H
  have dL := dt_ a4
  clear a4
  by_cases aU : ((rdOf ByteArray.empty aC aB).size : Int) = 1
  ·rw [if_pos aU] at H
   have aY := et_ aU
   have aZ := nf_ aU
   clear aU
   have H' := q_ H
   clear H
   have aH : 0 ≤ (aB : Int) := oa_
   have aI : aB < (aC.length : Int) := oa_
   obtain ⟨aQ, aO, aD⟩ := Kd.at_string aL.out aB aH aI
   cases aO
   replace aD := cb_ HB.out aD
   replace aH := eq_true aH
   replace aI := eq_true aI
   go_wp2
   go_roundg k2
   case measure => have := a0.out; have := a1.out; omega
   case rel => exact ⟨(wrap64 (aB + 1)), cl_, H', ⟨by have := a0.out; have := a1.out; omega⟩, ⟨bk_ aA.out⟩, ⟨hb_⟩⟩
  rw [if_neg aU] at H
  have aY := ef_ aU
  have aZ := nt_ aU
  obtain ⟨aP, dF, H⟩ := bq_ H
  obtain ⟨dE, dG, H⟩ := bq_ H
  (try dsimp only at H)
  by_cases a5 : dE = true
  rotate_left
  ·replace a5 := Bool.eq_false_iff.mpr a5
   subst a5
   rw [if_neg (show ¬ (false = true) by decide)] at H
   obtain rfl := Option.some.inj H
   have aH : 0 ≤ (aB : Int) := oa_
   have aI : aB < (aC.length : Int) := oa_
   obtain ⟨aQ, aO, aD⟩ := Kd.at_string aL.out aB aH aI
   cases aO
   replace aD := cb_ HB.out aD
   replace aH := eq_true aH
   replace aI := eq_true aI
   go_wp2_with (first | (go_at_call 33; (with_reducible refine (zqh.calls (rdOf ByteArray.empty aC aB) (⟨#[10]⟩ : ByteArray) aP _ dF.out).mono ?_); rintro e w' ⟨rfl, ⟨nd, rfl⟩⟩) | (go_at_call 32; (with_reducible refine (zqr.calls k2 aP false _ dG.out).mono ?_); rintro e dU ⟨rfl, hb⟩; replace aA := q_ (y0b (bk_ aA.out) hb); replace HB := q_ (y09 hb_ hb)))
   go_ret
   exact ⟨ew_, hb_⟩
  subst a5
  rw [if_pos rfl] at H
  have H' := q_ H
  clear H
  have aH : 0 ≤ (aB : Int) := oa_
  have aI : aB < (aC.length : Int) := oa_
  obtain ⟨aQ, aO, aD⟩ := Kd.at_string aL.out aB aH aI
  cases aO
  replace aD := cb_ HB.out aD
  replace aH := eq_true aH
  replace aI := eq_true aI
  go_wp2_with (first | (go_at_call 33; (with_reducible refine (zqh.calls (rdOf ByteArray.empty aC aB) (⟨#[10]⟩ : ByteArray) aP _ dF.out).mono ?_); rintro e w' ⟨rfl, ⟨nd, rfl⟩⟩) | (go_at_call 32; (with_reducible refine (zqr.calls k2 aP true _ dG.out).mono ?_); rintro e dT ⟨rfl, hb⟩; replace aA := q_ (y0b (bk_ aA.out) hb); replace HB := q_ (y09 hb_ hb)))
  go_roundg k2
  case measure => have := a0.out; have := a1.out; omega
  case rel => exact ⟨(wrap64 (aB + 1)), cl_, H', ⟨by have := a0.out; have := a1.out; omega⟩, ⟨bk_ aA.out⟩, ⟨hb_⟩⟩
end Go.Proofs.Ytgcmhfoegbaaiaa.K
end
section
namespace Go.Proofs.Ytgcmhfoegbaaiaa.K
open Go.RowKit Go.Proofs.YtW.P Go.Proofs.YtW.L
mutual
def zq4.j0 : Nat → Bool → Bool → ByteArray → List ByteArray → ByteArray → Bool → ByteArray → List ByteArray → ByteArray → Option (Bool)
  | 0, _, _, _, _, _, _, _, _, _ => none
  | k + 1, x33, x308000, x308001, x308002, x308003, x309000, x309001, x309002, x309003 => if x33 = true then (some false) else (zq4.l0 k 0 x308000 x308001 x308002 x308003 x309000 x309001 x309002 x309003)
def zq4.l0 : Nat → Int → Bool → ByteArray → List ByteArray → ByteArray → Bool → ByteArray → List ByteArray → ByteArray → Option (Bool)
  | 0, _, _, _, _, _, _, _, _, _ => none
  | k + 1, x5, x308000, x308001, x308002, x308003, x309000, x309001, x309002, x309003 => if x5 < (x308002.length : Int) then (if 0 ≤ x5 then (if x5 < (x309002.length : Int) then (if (rdOf ByteArray.empty x308002 x5).toList = (rdOf ByteArray.empty x309002 x5).toList then (zq4.l0 k (wrap64 (x5 + 1)) x308000 x308001 x308002 x308003 x309000 x309001 x309002 x309003) else (some false)) else (none)) else (none)) else (some true)
end
def zq4.f (k : Nat) (a0_0 : Bool) (a0_1 : ByteArray) (l0_2 : List ByteArray) (a0_3 : ByteArray) (a1_0 : Bool) (a1_1 : ByteArray) (l1_2 : List ByteArray) (a1_3 : ByteArray) : Option (Bool) := if (a0_0 != a1_0) = true then (zq4.j0 k true a0_0 a0_1 l0_2 a0_3 a1_0 a1_1 l1_2 a1_3) else (if a0_1.toList = a1_1.toList then (if a0_3.toList = a1_3.toList then (zq4.j0 k ((l0_2.length : Int) != (l1_2.length : Int)) a0_0 a0_1 l0_2 a0_3 a1_0 a1_1 l1_2 a1_3) else (zq4.j0 k true a0_0 a0_1 l0_2 a0_3 a1_0 a1_1 l1_2 a1_3)) else (zq4.j0 k true a0_0 a0_1 l0_2 a0_3 a1_0 a1_1 l1_2 a1_3))
theorem zq4.mono_l : ∀ k, (∀ y0 y1 y2 y3 y4 y5 y6 y7 y8, LeO (zq4.j0 k y0 y1 y2 y3 y4 y5 y6 y7 y8) (zq4.j0 (k + 1) y0 y1 y2 y3 y4 y5 y6 y7 y8)) ∧ (∀ y0 y1 y2 y3 y4 y5 y6 y7 y8, LeO (zq4.l0 k y0 y1 y2 y3 y4 y5 y6 y7 y8) (zq4.l0 (k + 1) y0 y1 y2 y3 y4 y5 y6 y7 y8))
 | 0 => ⟨fun _ _ _ _ _ _ _ _ _ r h => by simp [zq4.j0] at h, fun _ _ _ _ _ _ _ _ _ r h => by simp [zq4.l0] at h⟩
 | k + 1 => by
  obtain ⟨ih0, ih1⟩ := zq4.mono_l k
  refine ⟨?_, ?_⟩
  ·intro y0 y1 y2 y3 y4 y5 y6 y7 y8
   unfold zq4.j0
   with_reducible repeat' first | apply ih0 | apply ih1 | exact LeO.refl _ | exact LeO.none _ | refine LeO.ite ?_ ?_ | refine LeO.bind ?_ (fun _ => ?_)
  ·intro y0 y1 y2 y3 y4 y5 y6 y7 y8
   unfold zq4.l0
   with_reducible repeat' first | apply ih0 | apply ih1 | exact LeO.refl _ | exact LeO.none _ | refine LeO.ite ?_ ?_ | refine LeO.bind ?_ (fun _ => ?_)
theorem zq4.mono : ∀ a0 a1 a2 a3 a4 a5 a6 a7 k, LeO (zq4.f k a0 a1 a2 a3 a4 a5 a6 a7) (zq4.f (k + 1) a0 a1 a2 a3 a4 a5 a6 a7) := by
 intro a0 a1 a2 a3 a4 a5 a6 a7 k
 obtain ⟨ih0, ih1⟩ := zq4.mono_l k
 unfold zq4.f
 with_reducible repeat' first | apply ih0 | apply ih1 | exact LeO.refl _ | exact LeO.none _ | refine LeO.ite ?_ ?_ | refine LeO.bind ?_ (fun _ => ?_)
theorem zq4.calls (k : Nat) (aE : Bool) (aJ : ByteArray) (aP : Option Addr) (aR : Nat) (aG : List ByteArray) (aK : ByteArray) (aF : Bool) (aL : ByteArray) (aQ : Option Addr) (aS : Nat) (aH : List ByteArray) (aM : ByteArray) (r : Bool) (w : World) (a9 : Kd.C Kd.string w aP aG.length aG) (a7 : aG.length ≤ aR) (bA : Kd.C Kd.string w aQ aH.length aH) (a8 : aH.length ≤ aS) (h : zq4.f k aE aJ aG aK aF aL aH aM = some r) :
  Calls Try.prog 21 #[.agg #[.bool aE, .string aJ, .slice aP aG.length aR, .string aK], .agg #[.bool aF, .string aL, .slice aQ aH.length aS, .string aM]] w fun e w' => e = .returned (.bool r) ∧ Below w.heap.size w w' := by
 have fE := Try.underlying24
 have a5 := q_ a9
 have eT := q_ a7
 clear a9 a7
 have a6 := q_ bA
 have eU := q_ a8
 clear bA a8
 have HB := q_ (Below.refl w.heap.size w)
 have H : (if (aE != aF) = true then (zq4.j0 k true aE aJ aG aK aF aL aH aM) else (if aJ.toList = aL.toList then (if aK.toList = aM.toList then (zq4.j0 k ((aG.length : Int) != (aH.length : Int)) aE aJ aG aK aF aL aH aM) else (zq4.j0 k true aE aJ aG aK aF aL aH aM)) else (zq4.j0 k true aE aJ aG aK aF aL aH aM))) = some r := h
 clear h
 have eA := q_ H
 clear H
 go_enter Try.func21, Try.ntmps21
 go_upto_region 1 with (first | (refine gd_ 2 ?_; (try (refine y12 (by rfl) ?_; dsimp only)); refine bx_ 2 (cs := #[.bool aE, .string aJ, .slice aP aG.length aR, .string aK]) 24 ?_; intro aX hg w4 hbox hb; have aA := q_ (hbox); have a3 := gw_ w hg (y08 hb_); have a1 := gw_ w hg (y08 hb_); replace HB := q_ (y09 hb_ hb); clear hb hbox hg) | (refine gd_ 3 ?_; (try (refine y12 (by rfl) ?_; dsimp only)); refine bx_ 3 (cs := #[.bool aF, .string aL, .slice aQ aH.length aS, .string aM]) 24 ?_; intro aY hg w5 hbox hb; have aD := q_ (hbox); have a4 := gw_ w hg (y08 hb_); have a2 := gw_ w hg (y08 hb_); replace HB := q_ (y09 hb_ hb); have aB := nl_ hg (bk_ aA.out); have aC := ng_ hg (bk_ aA.out); replace aA := q_ (y0b (bk_ aA.out) hb); clear hb hbox hg))
 repeat (go_quiet (first | (refine gd_ 2 ?_; (try (refine y12 (by rfl) ?_; dsimp only)); refine bx_ 2 (cs := #[.bool aE, .string aJ, .slice aP aG.length aR, .string aK]) 24 ?_; intro aX hg w4 hbox hb; have aA := q_ (hbox); have a3 := gw_ w hg (y08 hb_); have a1 := gw_ w hg (y08 hb_); replace HB := q_ (y09 hb_ hb); clear hb hbox hg) | (refine gd_ 3 ?_; (try (refine y12 (by rfl) ?_; dsimp only)); refine bx_ 3 (cs := #[.bool aF, .string aL, .slice aQ aH.length aS, .string aM]) 24 ?_; intro aY hg w5 hbox hb; have aD := q_ (hbox); have a4 := gw_ w hg (y08 hb_); have a2 := gw_ w hg (y08 hb_); replace HB := q_ (y09 hb_ hb); have aB := nl_ hg (bk_ aA.out); have aC := ng_ hg (bk_ aA.out); replace aA := q_ (y0b (bk_ aA.out) hb); clear hb hbox hg)); go_upto_region 1 with (first | (refine gd_ 2 ?_; (try (refine y12 (by rfl) ?_; dsimp only)); refine bx_ 2 (cs := #[.bool aE, .string aJ, .slice aP aG.length aR, .string aK]) 24 ?_; intro aX hg w4 hbox hb; have aA := q_ (hbox); have a3 := gw_ w hg (y08 hb_); have a1 := gw_ w hg (y08 hb_); replace HB := q_ (y09 hb_ hb); clear hb hbox hg) | (refine gd_ 3 ?_; (try (refine y12 (by rfl) ?_; dsimp only)); refine bx_ 3 (cs := #[.bool aF, .string aL, .slice aQ aH.length aS, .string aM]) 24 ?_; intro aY hg w5 hbox hb; have aD := q_ (hbox); have a4 := gw_ w hg (y08 hb_); have a2 := gw_ w hg (y08 hb_); replace HB := q_ (y09 hb_ hb); have aB := nl_ hg (bk_ aA.out); have aC := ng_ hg (bk_ aA.out); replace aA := q_ (y0b (bk_ aA.out) hb); clear hb hbox hg)))
 (try simp only [Act.put, List.setIfInBounds_toArray, List.set_cons_zero, List.set_cons_succ])
 go_cut [33] (fun fF wc => ∃ (kq : Nat) (aZ : Bool), fF = .bool aZ ∧ Aside0 (zq4.j0 kq aZ aE aJ aG aK aF aL aH aM = some r) ∧ Aside0 (kq ≤ k) ∧ Aside0 (wc.heap[aX]? = some (.cells #[.bool aE, .string aJ, (.slice aP aG.length aR), .string aK] 24 (0, 0))) ∧ Aside0 (wc.heap[aY]? = some (.cells #[.bool aF, .string aL, (.slice aQ aH.length aS), .string aM] 24 (0, 0))) ∧ Aside0 (Below w.heap.size w wc))
 case first =>
  have H := eA.out
  clear eA
  by_cases c6 : (aE != aF) = true
  ·rw [if_pos c6] at H
   have a0 : (aE != aF) = true := c6
   (try (have eB : decide (aE = aF) = false := by simpa using c6))
   (try (have eC : (aE == aF) = false := by simpa using c6))
   (try (have fB : ¬ (aE = aF) := by simpa using c6))
   clear c6
   (first | rw [a0] | (simp only [y17, y15]; rw [a0]) | skip)
   have H' := q_ H
   clear H
   have fC := aB.out
   have fD := aC.out
   obtain ⟨eD, eL, eE, eM, eF, eN, eG, eO⟩ := b4_ aA.out
   obtain ⟨eH, eP, eI, eQ, eJ, eR, eK, eS⟩ := b4_ aD.out
   go_wp2
   repeat (go_quiet (fail); try go_wp2)
   go_meet
   case rel => exact ⟨_, (true), cl_, H', ⟨oz_⟩, ⟨bk_ aA.out⟩, ⟨bk_ aD.out⟩, ⟨hb_⟩⟩
  rw [if_neg c6] at H
  have a0 : (aE != aF) = false := by simpa using c6
  (try (have eB : decide (aE = aF) = true := by simpa using c6))
  (try (have eC : (aE == aF) = true := by simpa using c6))
  clear c6
  (first | rw [a0] | (simp only [y17, y15]; rw [a0]) | skip)
  by_cases bB : aJ.toList = aL.toList
  rotate_left
  ·rw [if_neg bB] at H
   have bJ := ef_ bB
   have bK := nt_ bB
   have H' := q_ H
   clear H
   have e1 := aB.out
   have e7 := aC.out
   obtain ⟨b9, dI, cA, dJ, cB, dK, cC, dL⟩ := b4_ aA.out
   obtain ⟨cD, dM, cE, dN, cF, dO, cG, dP⟩ := b4_ aD.out
   go_wp2
   repeat (go_quiet (fail); try go_wp2)
   go_meet
   case rel => exact ⟨_, (true), cl_, H', ⟨oz_⟩, ⟨bk_ aA.out⟩, ⟨bk_ aD.out⟩, ⟨hb_⟩⟩
  rw [if_pos bB] at H
  have bJ := et_ bB
  have bK := nf_ bB
  clear bB
  by_cases bC : aK.toList = aM.toList
  rotate_left
  ·rw [if_neg bC] at H
   have bL := ef_ bC
   have bM := nt_ bC
   have H' := q_ H
   clear H
   have e0 := aB.out
   have e6 := aC.out
   obtain ⟨b1, dA, b2, dB, b3, dC, b4, dD⟩ := b4_ aA.out
   obtain ⟨b5, dE, b6, dF, b7, dG, b8, dH⟩ := b4_ aD.out
   go_wp2
   repeat (go_quiet (fail); try go_wp2)
   go_meet
   case rel => exact ⟨_, (true), cl_, H', ⟨oz_⟩, ⟨bk_ aA.out⟩, ⟨bk_ aD.out⟩, ⟨hb_⟩⟩
  rw [if_pos bC] at H
  have bL := et_ bC
  have bM := nf_ bC
  clear bC
  have H' := q_ H
  clear H
  have eZ := aB.out
  have e5 := aC.out
  obtain ⟨bT, c1, bU, c2, bV, c3, bW, c4⟩ := b4_ aA.out
  obtain ⟨bX, c5, bY, c7, bZ, c8, b0, c9⟩ := b4_ aD.out
  go_wp2
  repeat (go_quiet (fail); try go_wp2)
  go_meet
  case rel => exact ⟨_, (((aG.length : Int) != (aH.length : Int))), cl_, H', ⟨oz_⟩, ⟨bk_ aA.out⟩, ⟨bk_ aD.out⟩, ⟨hb_⟩⟩
 clear eA
 obtain ⟨kq, aZ, rfl, HA, eV, aA, aD, HB⟩ := hcut
 obtain _ | kj2 := kq
 ·exact nn_ HA
 have H := HA.out
 clear HA
 simp only [zq4.j0] at H
 by_cases bQ : aZ = true
 ·subst bQ
  rw [if_pos rfl] at H
  obtain rfl := Option.some.inj H
  go_wp2
  repeat (go_quiet (fail); try go_wp2)
  go_ret
  exact ⟨ew_, hb_⟩
 replace bQ := Bool.eq_false_iff.mpr bQ
 subst bQ
 rw [if_neg (show ¬ (false = true) by decide)] at H
 have H' := q_ H
 clear H
 go_wp2
 repeat (go_quiet (fail); try go_wp2)
 go_loopg [5] kj2 (fun kq v5 w' => ∃ (aI : Int), v5 = .int .i64 aI ∧ Aside0 (zq4.l0 kq aI aE aJ aG aK aF aL aH aM = some r) ∧ Aside0 (kq ≤ kj2) ∧ Aside0 (w'.heap[aX]? = some (.cells #[.bool aE, .string aJ, (.slice aP aG.length aR), .string aK] 24 (0, 0))) ∧ Aside0 (w'.heap[aY]? = some (.cells #[.bool aF, .string aL, (.slice aQ aH.length aS), .string aM] 24 (0, 0))) ∧ Aside0 (Below w.heap.size w w'))
 case atStart => exact ⟨(0), cl_, H', ⟨Nat.le_refl _⟩, ⟨bk_ aA.out⟩, ⟨bk_ aD.out⟩, ⟨hb_⟩⟩
 case round =>
  clear H'
  obtain ⟨aI, rfl, HA, eW, aA, aD, HB⟩ := hrel
  obtain _ | k2 := gk
  ·exact nn_ HA
  have H := HA.out
  clear HA
  simp only [zq4.l0] at H
  by_cases bG : aI < (aG.length : Int)
  rotate_left
  ·rw [if_neg bG] at H
   have bN := df_ bG
   clear bG
   obtain rfl := Option.some.inj H
   have e4 := aB.out
   have fA := aC.out
   obtain ⟨cX, d6, cY, d7, cZ, d8, c0, d9⟩ := b4_ aA.out
   go_wp2
   repeat (go_quiet (fail); try go_wp2)
   go_ret
   exact ⟨ew_, hb_⟩
  rw [if_pos bG] at H
  have bN := dt_ bG
  clear bG
  by_cases bR : 0 ≤ aI
  rotate_left
  ·rw [if_neg bR] at H
   exact absurd H (by simp)
  rw [if_pos bR] at H
  have eX := dt_ bR
  clear bR
  by_cases bS : aI < (aH.length : Int)
  rotate_left
  ·rw [if_neg bS] at H
   exact absurd H (by simp)
  rw [if_pos bS] at H
  have eY := dt_ bS
  clear bS
  by_cases bD : (rdOf ByteArray.empty aG aI).toList = (rdOf ByteArray.empty aH aI).toList
  rotate_left
  ·rw [if_neg bD] at H
   have bO := ef_ bD
   have bP := nt_ bD
   obtain rfl := Option.some.inj H
   have e3 := aB.out
   have e9 := aC.out
   obtain ⟨cP, dY, cQ, dZ, cR, d0, cS, d1⟩ := b4_ aA.out
   have aT : 0 ≤ (aI : Int) := oa_
   have aV : aI < (aG.length : Int) := oa_
   obtain ⟨bH, bE, aN⟩ := Kd.at_string a5.out aI aT aV
   cases bE
   replace aN := cb_ HB.out aN
   replace aT := eq_true aT
   replace aV := eq_true aV
   obtain ⟨cT, d2, cU, d3, cV, d4, cW, d5⟩ := b4_ aD.out
   have aU : 0 ≤ (aI : Int) := oa_
   have aW : aI < (aH.length : Int) := oa_
   obtain ⟨bI, bF, aO⟩ := Kd.at_string a6.out aI aU aW
   cases bF
   replace aO := cb_ HB.out aO
   replace aU := eq_true aU
   replace aW := eq_true aW
   go_wp2
   repeat (go_quiet (fail); try go_wp2)
   go_ret
   exact ⟨ew_, hb_⟩
  rw [if_pos bD] at H
  have bO := et_ bD
  have bP := nf_ bD
  clear bD
  have H' := q_ H
  clear H
  have e2 := aB.out
  have e8 := aC.out
  obtain ⟨cH, dQ, cI, dR, cJ, dS, cK, dT⟩ := b4_ aA.out
  have aT : 0 ≤ (aI : Int) := oa_
  have aV : aI < (aG.length : Int) := oa_
  obtain ⟨bH, bE, aN⟩ := Kd.at_string a5.out aI aT aV
  cases bE
  replace aN := cb_ HB.out aN
  replace aT := eq_true aT
  replace aV := eq_true aV
  obtain ⟨cL, dU, cM, dV, cN, dW, cO, dX⟩ := b4_ aD.out
  have aU : 0 ≤ (aI : Int) := oa_
  have aW : aI < (aH.length : Int) := oa_
  obtain ⟨bI, bF, aO⟩ := Kd.at_string a6.out aI aU aW
  cases bF
  replace aO := cb_ HB.out aO
  replace aU := eq_true aU
  replace aW := eq_true aW
  go_wp2
  repeat (go_quiet (fail); try go_wp2)
  go_roundg k2
  case measure => have := eV.out; have := eW.out; omega
  case rel => exact ⟨(wrap64 (aI + 1)), cl_, H', ⟨by have := eV.out; have := eW.out; omega⟩, ⟨bk_ aA.out⟩, ⟨bk_ aD.out⟩, ⟨hb_⟩⟩
end Go.Proofs.Ytgcmhfoegbaaiaa.K
end
