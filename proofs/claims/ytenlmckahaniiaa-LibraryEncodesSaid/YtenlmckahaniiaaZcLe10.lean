/- Lemmas for several laws: what their proofs need of this seat's texts, in one place. -/
import Derived.Test.YtenlmckahaniiaaZcLe9
set_option linter.unusedVariables false
set_option linter.unusedSimpArgs false
set_option linter.unusedSectionVars false
set_option maxHeartbeats 8000000
set_option maxRecDepth 100000
section
namespace Go.Proofs.Ytenlmckahaniiaa.K
open Go.RowKit Go.Proofs.YtW.P Go.Proofs.YtW.L
def zq1s.l0 : Nat → List S62 → ByteArray → Int → Option ByteArray
  | 0, _, _, _ => none
  | k + 1, x, a, i => if i < (x.length : Int) then (if 0 ≤ i then ((zq1l.f k (y4b x i).f0).bind fun p => ((zq1w.f k (y4b x i).f1 1).bind fun q => ((zq1w.f k (y4b x i).f2 2).bind fun u => ((zq1q.f (y4b x i).f3).bind fun t => (if a.size + (((p ++ q) ++ u) ++ t).size ≤ 140737488355328 then zq1s.l0 k x (a ++ (((p ++ q) ++ u) ++ t)) (wrap64 (i + 1)) else none))))) else none) else some a
def zq1s.l1 : Nat → List S43 → ByteArray → Int → Option ByteArray
  | 0, _, _, _ => none
  | k + 1, x, a, i => if i < (x.length : Int) then (if 0 ≤ i then ((zq1w.f k (y4a x i).f0 1).bind fun p => ((zq1w.f k (y4a x i).f1 2).bind fun q => ((zq1w.f k (y4a x i).f2 1).bind fun u => ((zq1l.f k (y4a x i).f3).bind fun v => ((zq1q.f (y4a x i).f4).bind fun t => (if a.size + ((((p ++ q) ++ u) ++ v) ++ t).size ≤ 140737488355328 then zq1s.l1 k x (a ++ ((((p ++ q) ++ u) ++ v) ++ t)) (wrap64 (i + 1)) else none)))))) else none) else some a
def zq1s.f (k : Nat) (a0_0 : ByteArray) (a0_1 : ByteArray) (a0_2 : ByteArray) (a0_3 : Int) (l0_4 : List (S62)) (l0_5 : List (S43)) : Option ByteArray :=
  (zq1l.f k a0_0).bind fun p => ((zq1l.f k a0_1).bind fun q => ((zq1l.f k a0_2).bind fun u => ((zq1w.f k a0_3 2).bind fun v => (if (((((⟨#[79, 66, 74, 49]⟩ : ByteArray) ++ p) ++ q) ++ u) ++ v).size ≤ 140737488355328 then ((zq1w.f k (l0_4.length : Int) 2).bind fun c => (if (((((⟨#[79, 66, 74, 49]⟩ : ByteArray) ++ p) ++ q) ++ u) ++ v).size + c.size ≤ 140737488355328 then ((zq1s.l0 k l0_4 ((((((⟨#[79, 66, 74, 49]⟩ : ByteArray) ++ p) ++ q) ++ u) ++ v) ++ c) 0).bind fun s => ((zq1w.f k (l0_5.length : Int) 2).bind fun d => (if s.size + d.size ≤ 140737488355328 then (zq1s.l1 k l0_5 (s ++ d) 0) else none))) else none)) else none))))
theorem zq1s.mono_l0 : ∀ k, (∀ y0 y1 y2, LeO (zq1s.l0 k y0 y1 y2) (zq1s.l0 (k + 1) y0 y1 y2))
 | 0 => fun _ _ _ r h => by simp [zq1s.l0] at h
 | k + 1 => by
  have ih0 := zq1s.mono_l0 k
  intro y0 y1 y2
  unfold zq1s.l0
  with_reducible repeat' first | apply ih0 | apply zq1l.mono | apply zq1w.mono | exact LeO.refl _ | exact LeO.none _ | refine LeO.ite ?_ ?_ | refine LeO.bind ?_ (fun _ => ?_)
theorem zq1s.mono_l1 : ∀ k, (∀ y0 y1 y2, LeO (zq1s.l1 k y0 y1 y2) (zq1s.l1 (k + 1) y0 y1 y2))
 | 0 => fun _ _ _ r h => by simp [zq1s.l1] at h
 | k + 1 => by
  have ih0 := zq1s.mono_l1 k
  intro y0 y1 y2
  unfold zq1s.l1
  with_reducible repeat' first | apply ih0 | apply zq1l.mono | apply zq1w.mono | exact LeO.refl _ | exact LeO.none _ | refine LeO.ite ?_ ?_ | refine LeO.bind ?_ (fun _ => ?_)
theorem zq1s.mono : ∀ a0 a1 a2 a3 a4 a5 k, LeO (zq1s.f k a0 a1 a2 a3 a4 a5) (zq1s.f (k + 1) a0 a1 a2 a3 a4 a5) := by
 intro a0 a1 a2 a3 a4 a5 k
 have ih0 := zq1s.mono_l0 k
 have ih1 := zq1s.mono_l1 k
 unfold zq1s.f
 with_reducible repeat' first | apply ih0 | apply zq1l.mono | apply zq1w.mono | exact LeO.refl _ | exact LeO.none _ | refine LeO.ite ?_ ?_ | refine LeO.bind ?_ (fun _ => ?_) | apply ih1
def zq1s.T2 : Bool × List (List Nat × List Nat) := (true, [([], []), ([0], [0]), ([1], [1]), ([2], [2]), ([], []), ([4], [4]), ([5, 2], [5]), ([3, 6], [3, 6]), ([], []), ([8], [8]), ([9, 6], [9]), ([7, 10], [7, 10]), ([], []), ([12], [12]), ([13, 10], [13]), ([11, 14], [11, 14]), ([15, 14], [15])])
def zq1s.B2 : List Nat := [0, 1, 3, 7, 0, 16, 55, 127, 0, 256, 887, 2047, 0, 4096, 14199, 32767, 65535]
theorem zq1s.tab2 : rtab .any (opsOf Try.f55 2) = zq1s.T2 := by kernel_rfl
theorem zq1s.bits2 : waitsOk zq1s.T2.2 zq1s.B2 = true := by kernel_rfl
def zq1s.T7 : Bool × List (List Nat × List Nat) := (true, [([], []), ([0], [0]), ([1], [1]), ([], []), ([3], [3]), ([4, 2], [4]), ([2, 5], [2, 5]), ([], []), ([7], [7]), ([8, 5], [8]), ([6, 9], [6, 9]), ([], []), ([11], [11]), ([12, 9], [12]), ([10, 13], [10, 13]), ([14, 13], [14])])
def zq1s.B7 : List Nat := [0, 1, 3, 0, 8, 31, 63, 0, 128, 447, 1023, 0, 2048, 7103, 16383, 32767]
theorem zq1s.tab7 : rtab .any (opsOf Try.f55 7) = zq1s.T7 := by kernel_rfl
theorem zq1s.bits7 : waitsOk zq1s.T7.2 zq1s.B7 = true := by kernel_rfl
def zq1s.T13 : Bool × List (List Nat × List Nat) := (true, [([], []), ([0], [0]), ([1], [1]), ([], []), ([3], [3]), ([4, 2], [4]), ([2, 5], [2, 5]), ([], []), ([7], [7]), ([8, 5], [8]), ([6, 9], [6, 9]), ([], []), ([11], [11]), ([12, 9], [12]), ([10, 13], [10, 13]), ([], []), ([15], [15]), ([16, 13], [16]), ([14, 17], [14, 17]), ([18, 17], [18])])
def zq1s.B13 : List Nat := [0, 1, 3, 0, 8, 31, 63, 0, 128, 447, 1023, 0, 2048, 7103, 16383, 0, 32768, 113599, 262143, 524287]
theorem zq1s.tab13 : rtab .any (opsOf Try.f55 13) = zq1s.T13 := by kernel_rfl
theorem zq1s.bits13 : waitsOk zq1s.T13.2 zq1s.B13 = true := by kernel_rfl
theorem zq1s.calls (k : Nat) (aE : ByteArray) (aF : ByteArray) (aH : ByteArray) (aK : Int) (aG : Option Addr) (aD : Nat) (aB : List (S62)) (aJ : Option Addr) (aI : Nat) (aC : List (S43)) (r : ByteArray) (w : World) (aR : Kd.C k62 w aG aB.length aB) (a2 : aB.length ≤ aD) (aQ : Kd.C k43 w aJ aC.length aC) (a1 : aC.length ≤ aI) (h : zq1s.f k aE aF aH aK aB aC = some r) :
  Calls Try.prog 55 #[.agg #[.string aE, .string aF, .string aH, .int .i64 aK, .slice aG aB.length aD, .slice aJ aC.length aI]] w fun e w' => e = .returned (.string r) ∧ Below w.heap.size w w' := by
 have bH := q_ aR
 have bI := q_ aQ
 clear aR aQ a2 a1
 have HB := q_ (Below.refl w.heap.size w)
 obtain ⟨p, A1, h⟩ := Option.bind_eq_some_iff.mp h
 obtain ⟨q, A2, h⟩ := Option.bind_eq_some_iff.mp h
 obtain ⟨u, A3, h⟩ := Option.bind_eq_some_iff.mp h
 obtain ⟨v, A4, h⟩ := Option.bind_eq_some_iff.mp h
 obtain ⟨a8, h⟩ := y2q h
 obtain ⟨c, A5, h⟩ := Option.bind_eq_some_iff.mp h
 obtain ⟨bB, h⟩ := y2q h
 obtain ⟨s, A6, h⟩ := Option.bind_eq_some_iff.mp h
 obtain ⟨d, A7, h⟩ := Option.bind_eq_some_iff.mp h
 obtain ⟨bD, h⟩ := y2q h
 have bC := q_ a8
 have a9 := q_ bB
 have bF := q_ bD
 have HH := q_ h
 clear bB bD h
 have B1 := q_ A1
 have B2 := q_ A2
 have B3 := q_ A3
 have B4 := q_ A4
 have B5 := q_ A5
 have B6 := q_ A6
 have B7 := q_ A7
 clear A1 A2 A3 A4 A5 A6 A7
 have bA : 4 + p.size + q.size + u.size + v.size ≤ 140737488355328 := by have h_ := a8; simp only [ByteArray.size_append] at h_; exact h_
 clear a8
 go_enter Try.func55, Try.ntmps55
 go_wp2_with (first | (refine gd_ 1 ?_; refine bx_ 1 (cs := #[.string aE, .string aF, .string aH, .int .i64 aK, .slice aG aB.length aD, .slice aJ aC.length aI]) 25 ?_; intro g hg w1 hbox hb; have HG := q_ hg; have bE := q_ hb; have bG := q_ hbox; clear hg hb hbox) | (refine gd_ 3 ?_; refine bx_ 3 (cs := #[.pointer none, .slice none 0 0]) 104 ?_; intro b hg w2 hbox hb; have HU := q_ (BU.made bE.out HG.out bG.out hg hb hbox); clear hg hb hbox bE bG HG))
 have hdr_ := q_ (HU.out.step (Below.refl _ _).drew)
 clear HU
 have HU := hdr_
 clear hdr_
 refine start_ (n := 17) (S := fun w' => w'.cell? ⟨g, 0, none⟩ = some (.string aE) ∧ w'.cell? ⟨g, 1, none⟩ = some (.string aF) ∧ w'.cell? ⟨g, 2, none⟩ = some (.string aH) ∧ w'.cell? ⟨g, 3, none⟩ = some (.int .i64 aK)) (ds := []) #[false, false, false, false, false, false, false, false, false, false, false, false, false, false, false, false, false] (by kernel_rfl) rfl rfl ⟨(y0o HU.out.box 0).trans rfl, (y0o HU.out.box 1).trans rfl, (y0o HU.out.box 2).trans rfl, (y0o HU.out.box 3).trans rfl⟩ (fun hHeld => ?_)
 refine y5o zq1s.tab2 zq1s.bits2 (fun HT_ HW_ => ?_)
 refine pure_ (i := 0) (N := some 8) (v := ?_) (a' := ?_) #[true, false, false, false, false, false, false, false, false, false, false, false, false, false, false, false, false] rfl rfl (y0b HT_.out (by kernel_rfl)) (fun _ _ _ h => h) (Or.inl ⟨by rfl, ?_⟩) ?_ ?_
 rotate_left
 ·intro w'
  go_simp
  first | with_reducible rfl | (refine (if_neg ?_).trans ?_; (first | omega | (simp only [ByteArray.size_append]; omega) | (rw [show (4 : Nat) = (⟨#[79, 66, 74, 49]⟩ : ByteArray).size from rfl]; simp only [ByteArray.size_append]; omega) | (show ¬ (9223372036854775807 < _); simp only [ByteArray.size_append]; show ¬ (9223372036854775807 < 4 + _ + _ + _ + _); omega)); with_reducible rfl)
 rotate_left
 ·simp only [Act.put, List.setIfInBounds_toArray, List.set_cons_zero, List.set_cons_succ, y2h, y2g]
  rfl
 refine tv_ 1 (some 9) (fl 17 3) ?_
 refine pure_ (i := 4) (N := some 12) (v := ?_) (a' := ?_) #[true, true, false, false, true, false, false, false, false, false, false, false, false, false, false, false, false] rfl rfl (y0b HT_.out (by kernel_rfl)) (fun _ _ _ h => h) (Or.inl ⟨by rfl, ?_⟩) ?_ ?_
 rotate_left
 ·intro w'
  go_simp
  first | with_reducible rfl | (refine (if_neg ?_).trans ?_; (first | omega | (simp only [ByteArray.size_append]; omega) | (rw [show (4 : Nat) = (⟨#[79, 66, 74, 49]⟩ : ByteArray).size from rfl]; simp only [ByteArray.size_append]; omega) | (show ¬ (9223372036854775807 < _); simp only [ByteArray.size_append]; show ¬ (9223372036854775807 < 4 + _ + _ + _ + _); omega)); with_reducible rfl)
 rotate_left
 ·simp only [Act.put, List.setIfInBounds_toArray, List.set_cons_zero, List.set_cons_succ, y2h, y2g]
  rfl
 refine tv_ 5 (some 13) (fl 17 51) ?_
 refine pure_ (i := 8) (N := some 16) (v := ?_) (a' := ?_) #[true, true, false, false, true, true, false, false, true, false, false, false, false, false, false, false, false] rfl rfl (y0b HT_.out (by kernel_rfl)) (fun _ _ _ h => h) (Or.inl ⟨by rfl, ?_⟩) ?_ ?_
 rotate_left
 ·intro w'
  go_simp
  first | with_reducible rfl | (refine (if_neg ?_).trans ?_; (first | omega | (simp only [ByteArray.size_append]; omega) | (rw [show (4 : Nat) = (⟨#[79, 66, 74, 49]⟩ : ByteArray).size from rfl]; simp only [ByteArray.size_append]; omega) | (show ¬ (9223372036854775807 < _); simp only [ByteArray.size_append]; show ¬ (9223372036854775807 < 4 + _ + _ + _ + _); omega)); with_reducible rfl)
 rotate_left
 ·simp only [Act.put, List.setIfInBounds_toArray, List.set_cons_zero, List.set_cons_succ, y2h, y2g]
  rfl
 refine tv_ 9 (some 17) (fl 17 819) ?_
 refine pure_ (i := 12) (N := some 20) (v := ?_) (a' := ?_) #[true, true, false, false, true, true, false, false, true, true, false, false, true, false, false, false, false] rfl rfl (y0b HT_.out (by kernel_rfl)) (fun _ _ _ h => h) (Or.inl ⟨by rfl, ?_⟩) ?_ ?_
 rotate_left
 ·intro w'
  go_simp
  first | with_reducible rfl | (refine (if_neg ?_).trans ?_; (first | omega | (simp only [ByteArray.size_append]; omega) | (rw [show (4 : Nat) = (⟨#[79, 66, 74, 49]⟩ : ByteArray).size from rfl]; simp only [ByteArray.size_append]; omega) | (show ¬ (9223372036854775807 < _); simp only [ByteArray.size_append]; show ¬ (9223372036854775807 < 4 + _ + _ + _ + _); omega)); with_reducible rfl)
 rotate_left
 ·simp only [Act.put, List.setIfInBounds_toArray, List.set_cons_zero, List.set_cons_succ, y2h, y2g]
  rfl
 refine tv_ 13 (some 21) (fl 17 13107) ?_
 refine one_ (i := 2) (N := some 10) (fl 17 13111) rfl rfl (y3l HT_.out (by kernel_rfl)) (by decide) (fun K hK => ?_)
 refine gs_ Try.func92 #[.string aE] ?_
 with_reducible refine (zq1l.calls k aE p _ B1.out).mono ?_
 rintro e w3 ⟨rfl, aA⟩
 refine ⟨_, rfl, ?_⟩
 have hb := aA
 have n1 := q_ (HU.out.step hb)
 clear HU hb aA
 have HU := n1
 clear n1
 refine hK.out _ _ ⟨(y0o HU.out.box 0).trans rfl, (y0o HU.out.box 1).trans rfl, (y0o HU.out.box 2).trans rfl, (y0o HU.out.box 3).trans rfl⟩ (fun hHeld => ?_)
 clear hK K
 refine no_ (N := some 10) ?_
 refine pure_ (i := 3) (N := some 11) (v := ?_) (a' := ?_) #[true, true, true, true, true, true, false, false, true, true, false, false, true, true, false, false, false] rfl rfl (y0b HT_.out (by kernel_rfl)) (fun _ _ _ h => h) (Or.inl ⟨by rfl, ?_⟩) ?_ ?_
 rotate_left
 ·intro w'
  go_simp
  first | with_reducible rfl | (refine (if_neg ?_).trans ?_; (first | omega | (simp only [ByteArray.size_append]; omega) | (rw [show (4 : Nat) = (⟨#[79, 66, 74, 49]⟩ : ByteArray).size from rfl]; simp only [ByteArray.size_append]; omega) | (show ¬ (9223372036854775807 < _); simp only [ByteArray.size_append]; show ¬ (9223372036854775807 < 4 + _ + _ + _ + _); omega)); with_reducible rfl)
 rotate_left
 ·simp only [Act.put, List.setIfInBounds_toArray, List.set_cons_zero, List.set_cons_succ, y2h, y2g]
  rfl
 refine one_ (i := 6) (N := some 14) (fl 17 13183) rfl rfl (y3l HT_.out (by kernel_rfl)) (by decide) (fun K hK => ?_)
 refine gs_ Try.func92 #[.string aF] ?_
 with_reducible refine (zq1l.calls k aF q _ B2.out).mono ?_
 rintro e w4 ⟨rfl, aA⟩
 refine ⟨_, rfl, ?_⟩
 have hb := aA
 have n1 := q_ (HU.out.step hb)
 clear HU hb aA
 have HU := n1
 clear n1
 refine hK.out _ _ ⟨(y0o HU.out.box 0).trans rfl, (y0o HU.out.box 1).trans rfl, (y0o HU.out.box 2).trans rfl, (y0o HU.out.box 3).trans rfl⟩ (fun hHeld => ?_)
 clear hK K
 refine no_ (N := some 14) ?_
 refine pure_ (i := 7) (N := some 15) (v := ?_) (a' := ?_) #[true, true, true, true, true, true, true, true, true, true, false, false, true, true, false, false, false] rfl rfl (y0b HT_.out (by kernel_rfl)) (fun _ _ _ h => h) (Or.inl ⟨by rfl, ?_⟩) ?_ ?_
 rotate_left
 ·intro w'
  go_simp
  first | with_reducible rfl | (refine (if_neg ?_).trans ?_; (first | omega | (simp only [ByteArray.size_append]; omega) | (rw [show (4 : Nat) = (⟨#[79, 66, 74, 49]⟩ : ByteArray).size from rfl]; simp only [ByteArray.size_append]; omega) | (show ¬ (9223372036854775807 < _); simp only [ByteArray.size_append]; show ¬ (9223372036854775807 < 4 + _ + _ + _ + _); omega)); with_reducible rfl)
 rotate_left
 ·simp only [Act.put, List.setIfInBounds_toArray, List.set_cons_zero, List.set_cons_succ, y2h, y2g]
  rfl
 refine one_ (i := 10) (N := some 18) (fl 17 14335) rfl rfl (y3l HT_.out (by kernel_rfl)) (by decide) (fun K hK => ?_)
 refine gs_ Try.func92 #[.string aH] ?_
 with_reducible refine (zq1l.calls k aH u _ B3.out).mono ?_
 rintro e w5 ⟨rfl, aA⟩
 refine ⟨_, rfl, ?_⟩
 have hb := aA
 have n1 := q_ (HU.out.step hb)
 clear HU hb aA
 have HU := n1
 clear n1
 refine hK.out _ _ ⟨(y0o HU.out.box 0).trans rfl, (y0o HU.out.box 1).trans rfl, (y0o HU.out.box 2).trans rfl, (y0o HU.out.box 3).trans rfl⟩ (fun hHeld => ?_)
 clear hK K
 refine no_ (N := some 18) ?_
 refine pure_ (i := 11) (N := some 19) (v := ?_) (a' := ?_) #[true, true, true, true, true, true, true, true, true, true, true, true, true, true, false, false, false] rfl rfl (y0b HT_.out (by kernel_rfl)) (fun _ _ _ h => h) (Or.inl ⟨by rfl, ?_⟩) ?_ ?_
 rotate_left
 ·intro w'
  go_simp
  first | with_reducible rfl | (refine (if_neg ?_).trans ?_; (first | omega | (simp only [ByteArray.size_append]; omega) | (rw [show (4 : Nat) = (⟨#[79, 66, 74, 49]⟩ : ByteArray).size from rfl]; simp only [ByteArray.size_append]; omega) | (show ¬ (9223372036854775807 < _); simp only [ByteArray.size_append]; show ¬ (9223372036854775807 < 4 + _ + _ + _ + _); omega)); with_reducible rfl)
 rotate_left
 ·simp only [Act.put, List.setIfInBounds_toArray, List.set_cons_zero, List.set_cons_succ, y2h, y2g]
  rfl
 refine one_ (i := 14) (N := some 22) (fl 17 32767) rfl rfl (y3l HT_.out (by kernel_rfl)) (by decide) (fun K hK => ?_)
 refine gs_ Try.func78 #[.int .i64 aK, .int .i64 2] ?_
 with_reducible refine (zq1w.calls k aK 2 v _ B4.out).mono ?_
 rintro e w6 ⟨rfl, aA⟩
 refine ⟨_, rfl, ?_⟩
 have hb := aA
 have n1 := q_ (HU.out.step hb)
 clear HU hb aA
 have HU := n1
 clear n1
 refine hK.out _ _ ⟨(y0o HU.out.box 0).trans rfl, (y0o HU.out.box 1).trans rfl, (y0o HU.out.box 2).trans rfl, (y0o HU.out.box 3).trans rfl⟩ (fun hHeld => ?_)
 clear hK K
 refine no_ (N := some 22) ?_
 refine pure_ (i := 15) (N := some 23) (v := ?_) (a' := ?_) #[true, true, true, true, true, true, true, true, true, true, true, true, true, true, true, true, false] rfl rfl (y0b HT_.out (by kernel_rfl)) (fun _ _ _ h => h) (Or.inl ⟨by rfl, ?_⟩) ?_ ?_
 rotate_left
 ·intro w'
  go_simp
  first | with_reducible rfl | (refine (if_neg ?_).trans ?_; (first | omega | (simp only [ByteArray.size_append]; omega) | (rw [show (4 : Nat) = (⟨#[79, 66, 74, 49]⟩ : ByteArray).size from rfl]; simp only [ByteArray.size_append]; omega) | (show ¬ (9223372036854775807 < _); simp only [ByteArray.size_append]; show ¬ (9223372036854775807 < 4 + _ + _ + _ + _); omega)); with_reducible rfl)
 rotate_left
 ·simp only [Act.put, List.setIfInBounds_toArray, List.set_cons_zero, List.set_cons_succ, y2h, y2g]
  rfl
 refine one_ (i := 16) (N := some 24) (fl 17 131071) rfl rfl (y3l HT_.out (by kernel_rfl)) (by decide) (fun K hK => ?_)
 refine gs_ Try.func91 #[.pointer (some ⟨b, 0, none⟩), .string (((((⟨#[79, 66, 74, 49]⟩ : ByteArray) ++ p) ++ q) ++ u) ++ v)] ?_
 with_reducible refine (Try.Builder_WriteString b b (Lib.strCells ⟨#[]⟩) (((((⟨#[79, 66, 74, 49]⟩ : ByteArray) ++ p) ++ q) ++ u) ++ v) _ HU.out.bu (HU.out.len (by rw [show ByteArray.size ⟨#[]⟩ = 0 from rfl, Nat.zero_add]; exact bC.out)) HU.out.le).mono ?_
 rintro e w7 ⟨rfl, hbu, hbb⟩
 refine ⟨_, rfl, ?_⟩
 have n1 := q_ (HU.out.write hbu hbb)
 clear HU hbu hbb
 have HU := n1
 clear n1
 refine hK.out _ _ ⟨(y0o HU.out.box 0).trans rfl, (y0o HU.out.box 1).trans rfl, (y0o HU.out.box 2).trans rfl, (y0o HU.out.box 3).trans rfl⟩ (fun hHeld => ?_)
 clear hK K
 refine no_ (N := some 24) ?_
 refine done_ (y1s HT_.out (by kernel_rfl)) ?_
 have e0 : nB_ ++ (((((⟨#[79, 66, 74, 49]⟩ : ByteArray) ++ p) ++ q) ++ u) ++ v) = (((((⟨#[79, 66, 74, 49]⟩ : ByteArray) ++ p) ++ q) ++ u) ++ v) := ByteArray.empty_append
 rw [e0] at HU
 clear e0 bA
 generalize (((((⟨#[79, 66, 74, 49]⟩ : ByteArray) ++ p) ++ q) ++ u) ++ v) = X at HU a9 B6 ⊢
 have hc : _ = some (Value.slice aG aB.length aD) := (y0o HU.out.box 4).trans rfl
 go_wp2_with (first | (refine gc_ 78 ?_; refine gl_ (some 28) Try.func78 #[.int .i64 (aB.length : Int), .int .i64 2] ?_; (with_reducible refine (zq1w.calls k (aB.length : Int) 2 c _ B5.out).mono ?_); rintro e w8 ⟨rfl, aA⟩; refine ⟨_, rfl, ?_⟩; have hb := aA; have n1 := q_ (HU.out.step hb); clear HU hb aA; have HU := n1; clear n1; have a3 : _ = some (Value.slice aG aB.length aD) := (y0o HU.out.box 4).trans rfl) | (refine gc_ 91 ?_; refine gl_ (some 29) Try.func91 #[.pointer (some ⟨b, 0, none⟩), .string c] ?_; (with_reducible refine (Try.Builder_WriteString b b (Lib.strCells X) c _ HU.out.bu (HU.out.len a9.out) HU.out.le).mono ?_); rintro e w9 ⟨rfl, hbu, hbb⟩; refine ⟨_, rfl, ?_⟩; have n1 := q_ (HU.out.write hbu hbb); clear HU hbu hbb; have HU := n1; clear n1; have a6 : _ = some (Value.slice aG aB.length aD) := (y0o HU.out.box 4).trans rfl))
 clear B1 B2 B3 B4 B5 bC a9
 go_loopg [33] k (fun kq vi w' => ∃ (a : ByteArray) (i : Int), vi = .int .i64 i ∧ Aside0 (zq1s.l0 kq aB a i = some s) ∧ Aside0 (kq ≤ k) ∧ Aside0 (BU w w' g b #[.string aE, .string aF, .string aH, .int .i64 aK, .slice aG aB.length aD, .slice aJ aC.length aI] a))
 case atStart => exact ⟨_, 0, rfl, B6, ⟨Nat.le_refl _⟩, HU⟩
 case round =>
  clear HU a6
  (try clear hc a3)
  obtain ⟨a, i, rfl, HA, HK1, HU⟩ := hrel
  obtain _ | k1 := gk
  ·exact nn_ HA
  have H := HA.out
  clear HA
  simp only [zq1s.l0] at H
  by_cases c2 : i < (aB.length : Int)
  ·rw [if_pos c2] at H
   have aP := dt_ c2
   obtain ⟨c3, H⟩ := y2q H
   have a5 := dt_ c3
   obtain ⟨ad, ead, aO, aL, aM, aN⟩ := y0e bH.out i c3 c2
   cases ead
   replace aO := (HU.out.below.cell (World.block_lt_of_cell? w _ aO)).trans aO
   replace aL := (HU.out.below.cell (World.block_lt_of_cell? w _ aL)).trans aL
   replace aM := (HU.out.below.cell (World.block_lt_of_cell? w _ aM)).trans aM
   replace aN := (HU.out.below.cell (World.block_lt_of_cell? w _ aN)).trans aN
   generalize hsym : y4b aB i = sy at *
   have c2' := eq_true c2
   have c3' := eq_true c3
   obtain ⟨p, Ap, H⟩ := be_ H
   obtain ⟨q, Aq, H⟩ := be_ H
   obtain ⟨u, Au, H⟩ := be_ H
   obtain ⟨t, At, H⟩ := be_ H
   obtain ⟨hl, H⟩ := y2q H
   have HL := q_ hl
   have H' := q_ H
   clear H
   have Bp := q_ Ap
   clear Ap
   have Bq := q_ Aq
   clear Aq
   have Bu := q_ Au
   clear Au
   have Bt := q_ At
   clear At
   have bA : a.size + (p.size + q.size + u.size + t.size) ≤ 140737488355328 := by have h_ := hl; simp only [ByteArray.size_append] at h_; exact h_
   clear hl
   go_wp2_with (first | (refine gd_ 5 ?_; refine bx_ 5 (cs := #[.string nB_, .int .i64 0, .int .i64 0, .bool false]) 62 ?_; intro gb hg wb hbox hb; have HS := q_ hb; have BX := q_ hbox; have GE := q_ hg; have aS := (y0o BX.out 0).trans rfl; have aU := y0q BX.out 0; have a0 := (y0o BX.out 1).trans rfl; have aV := y0q BX.out 1; have aX := (y0o BX.out 2).trans rfl; have aW := y0q BX.out 2; have aY := (y0o BX.out 3).trans rfl; have aT := y0q BX.out 3; clear hg hb hbox))
   have n1 : Aside0 (BU w (World.drew (World.setCell (World.setCell (World.setCell (World.setCell wb ⟨gb, 0, none⟩ (.string sy.f0)) ⟨gb, 1, none⟩ (.int .i64 sy.f1)) ⟨gb, 2, none⟩ (.int .i64 sy.f2)) ⟨gb, 3, none⟩ (.bool sy.f3))) g b _ a) := ⟨HU.out.step (Below.drew (Below.setCell (Below.setCell (Below.setCell (Below.setCell HS.out (p := ⟨gb, 0, none⟩) (by rw [GE.out]; exact Nat.le_refl _) _) (p := ⟨gb, 1, none⟩) (by rw [GE.out]; exact Nat.le_refl _) _) (p := ⟨gb, 2, none⟩) (by rw [GE.out]; exact Nat.le_refl _) _) (p := ⟨gb, 3, none⟩) (by rw [GE.out]; exact Nat.le_refl _) _))⟩
   have n2 : Aside0 ((World.heap (World.drew (World.setCell (World.setCell (World.setCell (World.setCell wb ⟨gb, 0, none⟩ (.string sy.f0)) ⟨gb, 1, none⟩ (.int .i64 sy.f1)) ⟨gb, 2, none⟩ (.int .i64 sy.f2)) ⟨gb, 3, none⟩ (.bool sy.f3))))[gb]? = some (.cells #[.string sy.f0, .int .i64 sy.f1, .int .i64 sy.f2, .bool sy.f3] 62 (0, 0))) := ⟨(y0t (y0t (y0t (y0t BX.out 0 (.string sy.f0) rfl) 1 (.int .i64 sy.f1) rfl) 2 (.int .i64 sy.f2) rfl) 3 (.bool sy.f3) rfl)⟩
   clear HU HS BX GE aS aU a0 aV aX aW aY aT
   have HU := n1
   have BK := n2
   clear n1 n2
   refine start_ (n := 16) (S := fun w' => w'.cell? ⟨gb, 0, none⟩ = some (.string sy.f0) ∧ w'.cell? ⟨gb, 1, none⟩ = some (.int .i64 sy.f1) ∧ w'.cell? ⟨gb, 2, none⟩ = some (.int .i64 sy.f2) ∧ w'.cell? ⟨gb, 3, none⟩ = some (.bool sy.f3)) (ds := [15]) #[false, false, false, false, false, false, false, false, false, false, false, false, false, false, false, false] (by kernel_rfl) rfl rfl ⟨(y0o BK.out 0).trans rfl, (y0o BK.out 1).trans rfl, (y0o BK.out 2).trans rfl, (y0o BK.out 3).trans rfl⟩ (fun hHeld => ?_)
   refine y5o zq1s.tab7 zq1s.bits7 (fun HT_ HW_ => ?_)
   refine pure_ (i := 0) (N := some 37) (v := ?_) (a' := ?_) #[true, false, false, false, false, false, false, false, false, false, false, false, false, false, false, false] rfl rfl (y0b HT_.out (by kernel_rfl)) (fun _ _ _ h => h) (Or.inl ⟨by rfl, ?_⟩) ?_ ?_
   rotate_left
   ·intro w'
    go_simp
    first | with_reducible rfl | (refine (if_neg ?_).trans ?_; (first | omega | (simp only [ByteArray.size_append]; omega) | (rw [show (4 : Nat) = (⟨#[79, 66, 74, 49]⟩ : ByteArray).size from rfl]; simp only [ByteArray.size_append]; omega) | (show ¬ (9223372036854775807 < _); simp only [ByteArray.size_append]; show ¬ (9223372036854775807 < 4 + _ + _ + _ + _); omega)); with_reducible rfl)
   rotate_left
   ·simp only [Act.put, List.setIfInBounds_toArray, List.set_cons_zero, List.set_cons_succ, y2h, y2g]
    rfl
   refine tv_ 1 (some 38) (fl 16 3) ?_
   refine pure_ (i := 3) (N := some 40) (v := ?_) (a' := ?_) #[true, true, false, true, false, false, false, false, false, false, false, false, false, false, false, false] rfl rfl (y0b HT_.out (by kernel_rfl)) (fun _ _ _ h => h) (Or.inl ⟨by rfl, ?_⟩) ?_ ?_
   rotate_left
   ·intro w'
    go_simp
    first | with_reducible rfl | (refine (if_neg ?_).trans ?_; (first | omega | (simp only [ByteArray.size_append]; omega) | (rw [show (4 : Nat) = (⟨#[79, 66, 74, 49]⟩ : ByteArray).size from rfl]; simp only [ByteArray.size_append]; omega) | (show ¬ (9223372036854775807 < _); simp only [ByteArray.size_append]; show ¬ (9223372036854775807 < 4 + _ + _ + _ + _); omega)); with_reducible rfl)
   rotate_left
   ·simp only [Act.put, List.setIfInBounds_toArray, List.set_cons_zero, List.set_cons_succ, y2h, y2g]
    rfl
   refine tv_ 4 (some 41) (fl 16 27) ?_
   refine pure_ (i := 7) (N := some 44) (v := ?_) (a' := ?_) #[true, true, false, true, true, false, false, true, false, false, false, false, false, false, false, false] rfl rfl (y0b HT_.out (by kernel_rfl)) (fun _ _ _ h => h) (Or.inl ⟨by rfl, ?_⟩) ?_ ?_
   rotate_left
   ·intro w'
    go_simp
    first | with_reducible rfl | (refine (if_neg ?_).trans ?_; (first | omega | (simp only [ByteArray.size_append]; omega) | (rw [show (4 : Nat) = (⟨#[79, 66, 74, 49]⟩ : ByteArray).size from rfl]; simp only [ByteArray.size_append]; omega) | (show ¬ (9223372036854775807 < _); simp only [ByteArray.size_append]; show ¬ (9223372036854775807 < 4 + _ + _ + _ + _); omega)); with_reducible rfl)
   rotate_left
   ·simp only [Act.put, List.setIfInBounds_toArray, List.set_cons_zero, List.set_cons_succ, y2h, y2g]
    rfl
   refine tv_ 8 (some 45) (fl 16 411) ?_
   refine pure_ (i := 11) (N := some 48) (v := ?_) (a' := ?_) #[true, true, false, true, true, false, false, true, true, false, false, true, false, false, false, false] rfl rfl (y0b HT_.out (by kernel_rfl)) (fun _ _ _ h => h) (Or.inl ⟨by rfl, ?_⟩) ?_ ?_
   rotate_left
   ·intro w'
    go_simp
    first | with_reducible rfl | (refine (if_neg ?_).trans ?_; (first | omega | (simp only [ByteArray.size_append]; omega) | (rw [show (4 : Nat) = (⟨#[79, 66, 74, 49]⟩ : ByteArray).size from rfl]; simp only [ByteArray.size_append]; omega) | (show ¬ (9223372036854775807 < _); simp only [ByteArray.size_append]; show ¬ (9223372036854775807 < 4 + _ + _ + _ + _); omega)); with_reducible rfl)
   rotate_left
   ·simp only [Act.put, List.setIfInBounds_toArray, List.set_cons_zero, List.set_cons_succ, y2h, y2g]
    rfl
   refine tv_ 12 (some 49) (fl 16 6555) ?_
   refine one_ (i := 2) (N := some 39) (fl 16 6559) rfl rfl (y3l HT_.out (by kernel_rfl)) (by decide) (fun K hK => ?_)
   refine gs_ Try.func92 #[.string sy.f0] ?_
   with_reducible refine (zq1l.calls k1 sy.f0 p _ Bp.out).mono ?_
   rintro e bM ⟨rfl, aA⟩
   refine ⟨_, rfl, ?_⟩
   have hb := aA
   have n1 := q_ (HU.out.step hb)
   have n2 := q_ (y0n BK.out hb)
   clear HU hb aA BK
   have HU := n1
   have BK := n2
   clear n1 n2
   refine hK.out _ _ ⟨(y0o BK.out 0).trans rfl, (y0o BK.out 1).trans rfl, (y0o BK.out 2).trans rfl, (y0o BK.out 3).trans rfl⟩ (fun hHeld => ?_)
   clear hK K
   refine no_ (N := some 39) ?_
   refine one_ (i := 5) (N := some 42) (fl 16 6591) rfl rfl (y3l HT_.out (by kernel_rfl)) (by decide) (fun K hK => ?_)
   refine gs_ Try.func78 #[.int .i64 sy.f1, .int .i64 1] ?_
   with_reducible refine (zq1w.calls k1 sy.f1 1 q _ Bq.out).mono ?_
   rintro e bJ ⟨rfl, aA⟩
   refine ⟨_, rfl, ?_⟩
   have hb := aA
   have n1 := q_ (HU.out.step hb)
   have n2 := q_ (y0n BK.out hb)
   clear HU hb aA BK
   have HU := n1
   have BK := n2
   clear n1 n2
   refine hK.out _ _ ⟨(y0o BK.out 0).trans rfl, (y0o BK.out 1).trans rfl, (y0o BK.out 2).trans rfl, (y0o BK.out 3).trans rfl⟩ (fun hHeld => ?_)
   clear hK K
   refine no_ (N := some 42) ?_
   refine pure_ (i := 6) (N := some 43) (v := ?_) (a' := ?_) #[true, true, true, true, true, true, true, true, true, false, false, true, true, false, false, false] rfl rfl (y0b HT_.out (by kernel_rfl)) (fun _ _ _ h => h) (Or.inl ⟨by rfl, ?_⟩) ?_ ?_
   rotate_left
   ·intro w'
    go_simp
    first | with_reducible rfl | (refine (if_neg ?_).trans ?_; (first | omega | (simp only [ByteArray.size_append]; omega) | (rw [show (4 : Nat) = (⟨#[79, 66, 74, 49]⟩ : ByteArray).size from rfl]; simp only [ByteArray.size_append]; omega) | (show ¬ (9223372036854775807 < _); simp only [ByteArray.size_append]; show ¬ (9223372036854775807 < 4 + _ + _ + _ + _); omega)); with_reducible rfl)
   rotate_left
   ·simp only [Act.put, List.setIfInBounds_toArray, List.set_cons_zero, List.set_cons_succ, y2h, y2g]
    rfl
   refine one_ (i := 9) (N := some 46) (fl 16 7167) rfl rfl (y3l HT_.out (by kernel_rfl)) (by decide) (fun K hK => ?_)
   refine gs_ Try.func78 #[.int .i64 sy.f2, .int .i64 2] ?_
   with_reducible refine (zq1w.calls k1 sy.f2 2 u _ Bu.out).mono ?_
   rintro e bN ⟨rfl, aA⟩
   refine ⟨_, rfl, ?_⟩
   have hb := aA
   have n1 := q_ (HU.out.step hb)
   have n2 := q_ (y0n BK.out hb)
   clear HU hb aA BK
   have HU := n1
   have BK := n2
   clear n1 n2
   refine hK.out _ _ ⟨(y0o BK.out 0).trans rfl, (y0o BK.out 1).trans rfl, (y0o BK.out 2).trans rfl, (y0o BK.out 3).trans rfl⟩ (fun hHeld => ?_)
   clear hK K
   refine no_ (N := some 46) ?_
   refine pure_ (i := 10) (N := some 47) (v := ?_) (a' := ?_) #[true, true, true, true, true, true, true, true, true, true, true, true, true, false, false, false] rfl rfl (y0b HT_.out (by kernel_rfl)) (fun _ _ _ h => h) (Or.inl ⟨by rfl, ?_⟩) ?_ ?_
   rotate_left
   ·intro w'
    go_simp
    first | with_reducible rfl | (refine (if_neg ?_).trans ?_; (first | omega | (simp only [ByteArray.size_append]; omega) | (rw [show (4 : Nat) = (⟨#[79, 66, 74, 49]⟩ : ByteArray).size from rfl]; simp only [ByteArray.size_append]; omega) | (show ¬ (9223372036854775807 < _); simp only [ByteArray.size_append]; show ¬ (9223372036854775807 < 4 + _ + _ + _ + _); omega)); with_reducible rfl)
   rotate_left
   ·simp only [Act.put, List.setIfInBounds_toArray, List.set_cons_zero, List.set_cons_succ, y2h, y2g]
    rfl
   refine one_ (i := 13) (N := some 50) (fl 16 16383) rfl rfl (y3l HT_.out (by kernel_rfl)) (by decide) (fun K hK => ?_)
   refine gs_ Try.func93 #[.bool sy.f3] ?_
   with_reducible refine (zq1q.calls sy.f3 t _ Bt.out).mono ?_
   rintro e bS ⟨rfl, aA⟩
   refine ⟨_, rfl, ?_⟩
   have hb := y1t aA
   have n1 := q_ (HU.out.step hb)
   have n2 := q_ (y0n BK.out hb)
   clear HU hb aA BK
   have HU := n1
   have BK := n2
   clear n1 n2
   refine hK.out _ _ ⟨(y0o BK.out 0).trans rfl, (y0o BK.out 1).trans rfl, (y0o BK.out 2).trans rfl, (y0o BK.out 3).trans rfl⟩ (fun hHeld => ?_)
   clear hK K
   refine no_ (N := some 50) ?_
   refine pure_ (i := 14) (N := some 51) (v := ?_) (a' := ?_) #[true, true, true, true, true, true, true, true, true, true, true, true, true, true, true, false] rfl rfl (y0b HT_.out (by kernel_rfl)) (fun _ _ _ h => h) (Or.inl ⟨by rfl, ?_⟩) ?_ ?_
   rotate_left
   ·intro w'
    go_simp
    first | with_reducible rfl | (refine (if_neg ?_).trans ?_; (first | omega | (simp only [ByteArray.size_append]; omega) | (rw [show (4 : Nat) = (⟨#[79, 66, 74, 49]⟩ : ByteArray).size from rfl]; simp only [ByteArray.size_append]; omega) | (show ¬ (9223372036854775807 < _); simp only [ByteArray.size_append]; show ¬ (9223372036854775807 < 4 + _ + _ + _ + _); omega)); with_reducible rfl)
   rotate_left
   ·simp only [Act.put, List.setIfInBounds_toArray, List.set_cons_zero, List.set_cons_succ, y2h, y2g]
    rfl
   refine last_ (i := 15) (N := some 52) (fl 16 65535) rfl rfl (y3l HT_.out (by kernel_rfl)) (by decide) (fun K hK => ?_)
   refine gs_ Try.func91 #[.pointer (some ⟨b, 0, none⟩), .string (((p ++ q) ++ u) ++ t)] ?_
   with_reducible refine (Try.Builder_WriteString b b (Lib.strCells a) (((p ++ q) ++ u) ++ t) _ HU.out.bu (HU.out.len HL.out) HU.out.le).mono ?_
   rintro e bU ⟨rfl, hbu, hbb⟩
   refine ⟨_, rfl, ?_⟩
   have n1 := q_ (HU.out.write hbu hbb)
   clear HU hbu hbb BK
   have HU := n1
   clear n1
   refine hK.out _ _ ?_
   clear hK K
   refine no_ (N := some 52) ?_
   refine done_ (y1s HT_.out (by kernel_rfl)) ?_
   go_wp2
   go_roundg k1
   case measure => omega
   case rel => exact ⟨_, _, rfl, H', ⟨by have := HK1.out; omega⟩, HU⟩
  rw [if_neg c2] at H
  have aP := df_ c2
  obtain rfl := Option.some.inj H
  clear H
  have hc : _ = some (Value.slice aJ aC.length aI) := (y0o HU.out.box 5).trans rfl
  go_wp2_with (first | (refine gc_ 78 ?_; refine gl_ (some 57) Try.func78 #[.int .i64 (aC.length : Int), .int .i64 2] ?_; (with_reducible refine (zq1w.calls k (aC.length : Int) 2 d _ B7.out).mono ?_); rintro e w8 ⟨rfl, aA⟩; refine ⟨_, rfl, ?_⟩; have hb := aA; have n1 := q_ (HU.out.step hb); clear HU hb aA; have HU := n1; clear n1; have a3 : _ = some (Value.slice aJ aC.length aI) := (y0o HU.out.box 5).trans rfl) | (refine gc_ 91 ?_; refine gl_ (some 58) Try.func91 #[.pointer (some ⟨b, 0, none⟩), .string d] ?_; (with_reducible refine (Try.Builder_WriteString b b (Lib.strCells a) d _ HU.out.bu (HU.out.len bF.out) HU.out.le).mono ?_); rintro e w9 ⟨rfl, hbu, hbb⟩; refine ⟨_, rfl, ?_⟩; have n1 := q_ (HU.out.write hbu hbb); clear HU hbu hbb; have HU := n1; clear n1; have a6 : _ = some (Value.slice aJ aC.length aI) := (y0o HU.out.box 5).trans rfl))
  clear B6 B7 bF c2 aP
  go_loopg [62] k (fun kq vi w' => ∃ (a : ByteArray) (i : Int), vi = .int .i64 i ∧ Aside0 (zq1s.l1 kq aC a i = some r) ∧ Aside0 (kq ≤ k) ∧ Aside0 (BU w w' g b #[.string aE, .string aF, .string aH, .int .i64 aK, .slice aG aB.length aD, .slice aJ aC.length aI] a))
  case atStart => exact ⟨_, 0, rfl, HH, ⟨Nat.le_refl _⟩, HU⟩
  case round =>
   clear HU a6
   (try clear hc a3)
   obtain ⟨a, i, rfl, HA, HK1, HU⟩ := hrel
   obtain _ | k1 := gk
   ·exact nn_ HA
   have H := HA.out
   clear HA
   simp only [zq1s.l1] at H
   by_cases c2 : i < (aC.length : Int)
   rotate_left
   ·rw [if_neg c2] at H
    have aP := df_ c2
    obtain rfl := Option.some.inj H
    clear H
    go_wp2_with ((refine gc_ 94 ?_; refine gl_ (some 87) Try.func94 #[.pointer (some ⟨b, 0, none⟩)] ?_; (with_reducible refine HU.out.str.mono ?_); rintro e bR ⟨rfl, hb⟩; refine ⟨_, rfl, ?_⟩; have HE := q_ hb; clear hb))
    go_ret
    exact ⟨rfl, HE.out⟩
   rw [if_pos c2] at H
   have aP := dt_ c2
   obtain ⟨c3, H⟩ := y2q H
   have a5 := dt_ c3
   obtain ⟨ad, ead, aO, aL, aM, aN, aZ⟩ := y0d bI.out i c3 c2
   cases ead
   replace aO := (HU.out.below.cell (World.block_lt_of_cell? w _ aO)).trans aO
   replace aL := (HU.out.below.cell (World.block_lt_of_cell? w _ aL)).trans aL
   replace aM := (HU.out.below.cell (World.block_lt_of_cell? w _ aM)).trans aM
   replace aN := (HU.out.below.cell (World.block_lt_of_cell? w _ aN)).trans aN
   replace aZ := (HU.out.below.cell (World.block_lt_of_cell? w _ aZ)).trans aZ
   generalize hsym : y4a aC i = sy at *
   have c2' := eq_true c2
   have c3' := eq_true c3
   obtain ⟨p, Ap, H⟩ := be_ H
   obtain ⟨q, Aq, H⟩ := be_ H
   obtain ⟨u, Au, H⟩ := be_ H
   obtain ⟨v, Av, H⟩ := be_ H
   obtain ⟨t, At, H⟩ := be_ H
   obtain ⟨hl, H⟩ := y2q H
   have HL := q_ hl
   have H' := q_ H
   clear H
   have Bp := q_ Ap
   clear Ap
   have Bq := q_ Aq
   clear Aq
   have Bu := q_ Au
   clear Au
   have Bv := q_ Av
   clear Av
   have Bt := q_ At
   clear At
   have bA : a.size + (p.size + q.size + u.size + v.size + t.size) ≤ 140737488355328 := by have h_ := hl; simp only [ByteArray.size_append] at h_; exact h_
   clear hl
   go_wp2_with (first | (refine gd_ 7 ?_; refine bx_ 7 (cs := #[.int .i64 0, .int .i64 0, .int .i64 0, .string nB_, .bool false]) 43 ?_; intro gb hg wb hbox hb; have HS := q_ hb; have BX := q_ hbox; have GE := q_ hg; have aS := (y0o BX.out 0).trans rfl; have aU := y0q BX.out 0; have a0 := (y0o BX.out 1).trans rfl; have aV := y0q BX.out 1; have aX := (y0o BX.out 2).trans rfl; have aW := y0q BX.out 2; have aY := (y0o BX.out 3).trans rfl; have aT := y0q BX.out 3; have a7 := (y0o BX.out 4).trans rfl; have a4 := y0q BX.out 4; clear hg hb hbox))
   have n1 : Aside0 (BU w (World.drew (World.setCell (World.setCell (World.setCell (World.setCell (World.setCell wb ⟨gb, 0, none⟩ (.int .i64 sy.f0)) ⟨gb, 1, none⟩ (.int .i64 sy.f1)) ⟨gb, 2, none⟩ (.int .i64 sy.f2)) ⟨gb, 3, none⟩ (.string sy.f3)) ⟨gb, 4, none⟩ (.bool sy.f4))) g b _ a) := ⟨HU.out.step (Below.drew (Below.setCell (Below.setCell (Below.setCell (Below.setCell (Below.setCell HS.out (p := ⟨gb, 0, none⟩) (by rw [GE.out]; exact Nat.le_refl _) _) (p := ⟨gb, 1, none⟩) (by rw [GE.out]; exact Nat.le_refl _) _) (p := ⟨gb, 2, none⟩) (by rw [GE.out]; exact Nat.le_refl _) _) (p := ⟨gb, 3, none⟩) (by rw [GE.out]; exact Nat.le_refl _) _) (p := ⟨gb, 4, none⟩) (by rw [GE.out]; exact Nat.le_refl _) _))⟩
   have n2 : Aside0 ((World.heap (World.drew (World.setCell (World.setCell (World.setCell (World.setCell (World.setCell wb ⟨gb, 0, none⟩ (.int .i64 sy.f0)) ⟨gb, 1, none⟩ (.int .i64 sy.f1)) ⟨gb, 2, none⟩ (.int .i64 sy.f2)) ⟨gb, 3, none⟩ (.string sy.f3)) ⟨gb, 4, none⟩ (.bool sy.f4))))[gb]? = some (.cells #[.int .i64 sy.f0, .int .i64 sy.f1, .int .i64 sy.f2, .string sy.f3, .bool sy.f4] 43 (0, 0))) := ⟨(y0t (y0t (y0t (y0t (y0t BX.out 0 (.int .i64 sy.f0) rfl) 1 (.int .i64 sy.f1) rfl) 2 (.int .i64 sy.f2) rfl) 3 (.string sy.f3) rfl) 4 (.bool sy.f4) rfl)⟩
   clear HU HS BX GE aS aU a0 aV aX aW aY aT a7 a4
   have HU := n1
   have BK := n2
   clear n1 n2
   refine start_ (n := 20) (S := fun w' => w'.cell? ⟨gb, 0, none⟩ = some (.int .i64 sy.f0) ∧ w'.cell? ⟨gb, 1, none⟩ = some (.int .i64 sy.f1) ∧ w'.cell? ⟨gb, 2, none⟩ = some (.int .i64 sy.f2) ∧ w'.cell? ⟨gb, 3, none⟩ = some (.string sy.f3) ∧ w'.cell? ⟨gb, 4, none⟩ = some (.bool sy.f4)) (ds := [19]) #[false, false, false, false, false, false, false, false, false, false, false, false, false, false, false, false, false, false, false, false] (by kernel_rfl) rfl rfl ⟨(y0o BK.out 0).trans rfl, (y0o BK.out 1).trans rfl, (y0o BK.out 2).trans rfl, (y0o BK.out 3).trans rfl, (y0o BK.out 4).trans rfl⟩ (fun hHeld => ?_)
   refine y5o zq1s.tab13 zq1s.bits13 (fun HT_ HW_ => ?_)
   refine pure_ (i := 0) (N := some 66) (v := ?_) (a' := ?_) #[true, false, false, false, false, false, false, false, false, false, false, false, false, false, false, false, false, false, false, false] rfl rfl (y0b HT_.out (by kernel_rfl)) (fun _ _ _ h => h) (Or.inl ⟨by rfl, ?_⟩) ?_ ?_
   rotate_left
   ·intro w'
    go_simp
    first | with_reducible rfl | (refine (if_neg ?_).trans ?_; (first | omega | (simp only [ByteArray.size_append]; omega) | (rw [show (4 : Nat) = (⟨#[79, 66, 74, 49]⟩ : ByteArray).size from rfl]; simp only [ByteArray.size_append]; omega) | (show ¬ (9223372036854775807 < _); simp only [ByteArray.size_append]; show ¬ (9223372036854775807 < 4 + _ + _ + _ + _); omega)); with_reducible rfl)
   rotate_left
   ·simp only [Act.put, List.setIfInBounds_toArray, List.set_cons_zero, List.set_cons_succ, y2h, y2g]
    rfl
   refine tv_ 1 (some 67) (fl 20 3) ?_
   refine pure_ (i := 3) (N := some 69) (v := ?_) (a' := ?_) #[true, true, false, true, false, false, false, false, false, false, false, false, false, false, false, false, false, false, false, false] rfl rfl (y0b HT_.out (by kernel_rfl)) (fun _ _ _ h => h) (Or.inl ⟨by rfl, ?_⟩) ?_ ?_
   rotate_left
   ·intro w'
    go_simp
    first | with_reducible rfl | (refine (if_neg ?_).trans ?_; (first | omega | (simp only [ByteArray.size_append]; omega) | (rw [show (4 : Nat) = (⟨#[79, 66, 74, 49]⟩ : ByteArray).size from rfl]; simp only [ByteArray.size_append]; omega) | (show ¬ (9223372036854775807 < _); simp only [ByteArray.size_append]; show ¬ (9223372036854775807 < 4 + _ + _ + _ + _); omega)); with_reducible rfl)
   rotate_left
   ·simp only [Act.put, List.setIfInBounds_toArray, List.set_cons_zero, List.set_cons_succ, y2h, y2g]
    rfl
   refine tv_ 4 (some 70) (fl 20 27) ?_
   refine pure_ (i := 7) (N := some 73) (v := ?_) (a' := ?_) #[true, true, false, true, true, false, false, true, false, false, false, false, false, false, false, false, false, false, false, false] rfl rfl (y0b HT_.out (by kernel_rfl)) (fun _ _ _ h => h) (Or.inl ⟨by rfl, ?_⟩) ?_ ?_
   rotate_left
   ·intro w'
    go_simp
    first | with_reducible rfl | (refine (if_neg ?_).trans ?_; (first | omega | (simp only [ByteArray.size_append]; omega) | (rw [show (4 : Nat) = (⟨#[79, 66, 74, 49]⟩ : ByteArray).size from rfl]; simp only [ByteArray.size_append]; omega) | (show ¬ (9223372036854775807 < _); simp only [ByteArray.size_append]; show ¬ (9223372036854775807 < 4 + _ + _ + _ + _); omega)); with_reducible rfl)
   rotate_left
   ·simp only [Act.put, List.setIfInBounds_toArray, List.set_cons_zero, List.set_cons_succ, y2h, y2g]
    rfl
   refine tv_ 8 (some 74) (fl 20 411) ?_
   refine pure_ (i := 11) (N := some 77) (v := ?_) (a' := ?_) #[true, true, false, true, true, false, false, true, true, false, false, true, false, false, false, false, false, false, false, false] rfl rfl (y0b HT_.out (by kernel_rfl)) (fun _ _ _ h => h) (Or.inl ⟨by rfl, ?_⟩) ?_ ?_
   rotate_left
   ·intro w'
    go_simp
    first | with_reducible rfl | (refine (if_neg ?_).trans ?_; (first | omega | (simp only [ByteArray.size_append]; omega) | (rw [show (4 : Nat) = (⟨#[79, 66, 74, 49]⟩ : ByteArray).size from rfl]; simp only [ByteArray.size_append]; omega) | (show ¬ (9223372036854775807 < _); simp only [ByteArray.size_append]; show ¬ (9223372036854775807 < 4 + _ + _ + _ + _); omega)); with_reducible rfl)
   rotate_left
   ·simp only [Act.put, List.setIfInBounds_toArray, List.set_cons_zero, List.set_cons_succ, y2h, y2g]
    rfl
   refine tv_ 12 (some 78) (fl 20 6555) ?_
   refine pure_ (i := 15) (N := some 81) (v := ?_) (a' := ?_) #[true, true, false, true, true, false, false, true, true, false, false, true, true, false, false, true, false, false, false, false] rfl rfl (y0b HT_.out (by kernel_rfl)) (fun _ _ _ h => h) (Or.inl ⟨by rfl, ?_⟩) ?_ ?_
   rotate_left
   ·intro w'
    go_simp
    first | with_reducible rfl | (refine (if_neg ?_).trans ?_; (first | omega | (simp only [ByteArray.size_append]; omega) | (rw [show (4 : Nat) = (⟨#[79, 66, 74, 49]⟩ : ByteArray).size from rfl]; simp only [ByteArray.size_append]; omega) | (show ¬ (9223372036854775807 < _); simp only [ByteArray.size_append]; show ¬ (9223372036854775807 < 4 + _ + _ + _ + _); omega)); with_reducible rfl)
   rotate_left
   ·simp only [Act.put, List.setIfInBounds_toArray, List.set_cons_zero, List.set_cons_succ, y2h, y2g]
    rfl
   refine tv_ 16 (some 82) (fl 20 104859) ?_
   refine one_ (i := 2) (N := some 68) (fl 20 104863) rfl rfl (y3l HT_.out (by kernel_rfl)) (by decide) (fun K hK => ?_)
   refine gs_ Try.func78 #[.int .i64 sy.f0, .int .i64 1] ?_
   with_reducible refine (zq1w.calls k1 sy.f0 1 p _ Bp.out).mono ?_
   rintro e bT ⟨rfl, aA⟩
   refine ⟨_, rfl, ?_⟩
   have hb := aA
   have n1 := q_ (HU.out.step hb)
   have n2 := q_ (y0n BK.out hb)
   clear HU hb aA BK
   have HU := n1
   have BK := n2
   clear n1 n2
   refine hK.out _ _ ⟨(y0o BK.out 0).trans rfl, (y0o BK.out 1).trans rfl, (y0o BK.out 2).trans rfl, (y0o BK.out 3).trans rfl, (y0o BK.out 4).trans rfl⟩ (fun hHeld => ?_)
   clear hK K
   refine no_ (N := some 68) ?_
   refine one_ (i := 5) (N := some 71) (fl 20 104895) rfl rfl (y3l HT_.out (by kernel_rfl)) (by decide) (fun K hK => ?_)
   refine gs_ Try.func78 #[.int .i64 sy.f1, .int .i64 2] ?_
   with_reducible refine (zq1w.calls k1 sy.f1 2 q _ Bq.out).mono ?_
   rintro e bO ⟨rfl, aA⟩
   refine ⟨_, rfl, ?_⟩
   have hb := aA
   have n1 := q_ (HU.out.step hb)
   have n2 := q_ (y0n BK.out hb)
   clear HU hb aA BK
   have HU := n1
   have BK := n2
   clear n1 n2
   refine hK.out _ _ ⟨(y0o BK.out 0).trans rfl, (y0o BK.out 1).trans rfl, (y0o BK.out 2).trans rfl, (y0o BK.out 3).trans rfl, (y0o BK.out 4).trans rfl⟩ (fun hHeld => ?_)
   clear hK K
   refine no_ (N := some 71) ?_
   refine pure_ (i := 6) (N := some 72) (v := ?_) (a' := ?_) #[true, true, true, true, true, true, true, true, true, false, false, true, true, false, false, true, true, false, false, false] rfl rfl (y0b HT_.out (by kernel_rfl)) (fun _ _ _ h => h) (Or.inl ⟨by rfl, ?_⟩) ?_ ?_
   rotate_left
   ·intro w'
    go_simp
    first | with_reducible rfl | (refine (if_neg ?_).trans ?_; (first | omega | (simp only [ByteArray.size_append]; omega) | (rw [show (4 : Nat) = (⟨#[79, 66, 74, 49]⟩ : ByteArray).size from rfl]; simp only [ByteArray.size_append]; omega) | (show ¬ (9223372036854775807 < _); simp only [ByteArray.size_append]; show ¬ (9223372036854775807 < 4 + _ + _ + _ + _); omega)); with_reducible rfl)
   rotate_left
   ·simp only [Act.put, List.setIfInBounds_toArray, List.set_cons_zero, List.set_cons_succ, y2h, y2g]
    rfl
   refine one_ (i := 9) (N := some 75) (fl 20 105471) rfl rfl (y3l HT_.out (by kernel_rfl)) (by decide) (fun K hK => ?_)
   refine gs_ Try.func78 #[.int .i64 sy.f2, .int .i64 1] ?_
   with_reducible refine (zq1w.calls k1 sy.f2 1 u _ Bu.out).mono ?_
   rintro e bK ⟨rfl, aA⟩
   refine ⟨_, rfl, ?_⟩
   have hb := aA
   have n1 := q_ (HU.out.step hb)
   have n2 := q_ (y0n BK.out hb)
   clear HU hb aA BK
   have HU := n1
   have BK := n2
   clear n1 n2
   refine hK.out _ _ ⟨(y0o BK.out 0).trans rfl, (y0o BK.out 1).trans rfl, (y0o BK.out 2).trans rfl, (y0o BK.out 3).trans rfl, (y0o BK.out 4).trans rfl⟩ (fun hHeld => ?_)
   clear hK K
   refine no_ (N := some 75) ?_
   refine pure_ (i := 10) (N := some 76) (v := ?_) (a' := ?_) #[true, true, true, true, true, true, true, true, true, true, true, true, true, false, false, true, true, false, false, false] rfl rfl (y0b HT_.out (by kernel_rfl)) (fun _ _ _ h => h) (Or.inl ⟨by rfl, ?_⟩) ?_ ?_
   rotate_left
   ·intro w'
    go_simp
    first | with_reducible rfl | (refine (if_neg ?_).trans ?_; (first | omega | (simp only [ByteArray.size_append]; omega) | (rw [show (4 : Nat) = (⟨#[79, 66, 74, 49]⟩ : ByteArray).size from rfl]; simp only [ByteArray.size_append]; omega) | (show ¬ (9223372036854775807 < _); simp only [ByteArray.size_append]; show ¬ (9223372036854775807 < 4 + _ + _ + _ + _); omega)); with_reducible rfl)
   rotate_left
   ·simp only [Act.put, List.setIfInBounds_toArray, List.set_cons_zero, List.set_cons_succ, y2h, y2g]
    rfl
   refine one_ (i := 13) (N := some 79) (fl 20 114687) rfl rfl (y3l HT_.out (by kernel_rfl)) (by decide) (fun K hK => ?_)
   refine gs_ Try.func92 #[.string sy.f3] ?_
   with_reducible refine (zq1l.calls k1 sy.f3 v _ Bv.out).mono ?_
   rintro e bQ ⟨rfl, aA⟩
   refine ⟨_, rfl, ?_⟩
   have hb := aA
   have n1 := q_ (HU.out.step hb)
   have n2 := q_ (y0n BK.out hb)
   clear HU hb aA BK
   have HU := n1
   have BK := n2
   clear n1 n2
   refine hK.out _ _ ⟨(y0o BK.out 0).trans rfl, (y0o BK.out 1).trans rfl, (y0o BK.out 2).trans rfl, (y0o BK.out 3).trans rfl, (y0o BK.out 4).trans rfl⟩ (fun hHeld => ?_)
   clear hK K
   refine no_ (N := some 79) ?_
   refine pure_ (i := 14) (N := some 80) (v := ?_) (a' := ?_) #[true, true, true, true, true, true, true, true, true, true, true, true, true, true, true, true, true, false, false, false] rfl rfl (y0b HT_.out (by kernel_rfl)) (fun _ _ _ h => h) (Or.inl ⟨by rfl, ?_⟩) ?_ ?_
   rotate_left
   ·intro w'
    go_simp
    first | with_reducible rfl | (refine (if_neg ?_).trans ?_; (first | omega | (simp only [ByteArray.size_append]; omega) | (rw [show (4 : Nat) = (⟨#[79, 66, 74, 49]⟩ : ByteArray).size from rfl]; simp only [ByteArray.size_append]; omega) | (show ¬ (9223372036854775807 < _); simp only [ByteArray.size_append]; show ¬ (9223372036854775807 < 4 + _ + _ + _ + _); omega)); with_reducible rfl)
   rotate_left
   ·simp only [Act.put, List.setIfInBounds_toArray, List.set_cons_zero, List.set_cons_succ, y2h, y2g]
    rfl
   refine one_ (i := 17) (N := some 83) (fl 20 262143) rfl rfl (y3l HT_.out (by kernel_rfl)) (by decide) (fun K hK => ?_)
   refine gs_ Try.func93 #[.bool sy.f4] ?_
   with_reducible refine (zq1q.calls sy.f4 t _ Bt.out).mono ?_
   rintro e bP ⟨rfl, aA⟩
   refine ⟨_, rfl, ?_⟩
   have hb := y1t aA
   have n1 := q_ (HU.out.step hb)
   have n2 := q_ (y0n BK.out hb)
   clear HU hb aA BK
   have HU := n1
   have BK := n2
   clear n1 n2
   refine hK.out _ _ ⟨(y0o BK.out 0).trans rfl, (y0o BK.out 1).trans rfl, (y0o BK.out 2).trans rfl, (y0o BK.out 3).trans rfl, (y0o BK.out 4).trans rfl⟩ (fun hHeld => ?_)
   clear hK K
   refine no_ (N := some 83) ?_
   refine pure_ (i := 18) (N := some 84) (v := ?_) (a' := ?_) #[true, true, true, true, true, true, true, true, true, true, true, true, true, true, true, true, true, true, true, false] rfl rfl (y0b HT_.out (by kernel_rfl)) (fun _ _ _ h => h) (Or.inl ⟨by rfl, ?_⟩) ?_ ?_
   rotate_left
   ·intro w'
    go_simp
    first | with_reducible rfl | (refine (if_neg ?_).trans ?_; (first | omega | (simp only [ByteArray.size_append]; omega) | (rw [show (4 : Nat) = (⟨#[79, 66, 74, 49]⟩ : ByteArray).size from rfl]; simp only [ByteArray.size_append]; omega) | (show ¬ (9223372036854775807 < _); simp only [ByteArray.size_append]; show ¬ (9223372036854775807 < 4 + _ + _ + _ + _); omega)); with_reducible rfl)
   rotate_left
   ·simp only [Act.put, List.setIfInBounds_toArray, List.set_cons_zero, List.set_cons_succ, y2h, y2g]
    rfl
   refine last_ (i := 19) (N := some 85) (fl 20 1048575) rfl rfl (y3l HT_.out (by kernel_rfl)) (by decide) (fun K hK => ?_)
   refine gs_ Try.func91 #[.pointer (some ⟨b, 0, none⟩), .string ((((p ++ q) ++ u) ++ v) ++ t)] ?_
   with_reducible refine (Try.Builder_WriteString b b (Lib.strCells a) ((((p ++ q) ++ u) ++ v) ++ t) _ HU.out.bu (HU.out.len HL.out) HU.out.le).mono ?_
   rintro e bL ⟨rfl, hbu, hbb⟩
   refine ⟨_, rfl, ?_⟩
   have n1 := q_ (HU.out.write hbu hbb)
   clear HU hbu hbb BK
   have HU := n1
   clear n1
   refine hK.out _ _ ?_
   clear hK K
   refine no_ (N := some 85) ?_
   refine done_ (y1s HT_.out (by kernel_rfl)) ?_
   go_wp2
   go_roundg k1
   case measure => omega
   case rel => exact ⟨_, _, rfl, H', ⟨by have := HK1.out; omega⟩, HU⟩
end Go.Proofs.Ytenlmckahaniiaa.K
end
section
namespace Go.Proofs.Ytenlmckahaniiaa.K
open Go.RowKit Go.Proofs.YtW.P Go.Proofs.YtW.L
def zq1i.f (k : Nat) (a0_0 : ByteArray) (a0_1 : ByteArray) (a0_2 : ByteArray) (a0_3 : Int) (l0_4 : List (S62)) (l0_5 : List (S43)) : Option (ByteArray × Int) := (zq1o.f k a0_0 a0_1 a0_2 a0_3 l0_4 l0_5).bind fun t172 => (if t172 = 0 then ((zq1s.f k a0_0 a0_1 a0_2 a0_3 l0_4 l0_5).bind fun t173 => ((zq1u.f k t173).bind fun t174 => (some (t174, 0)))) else (some (nB_, t172)))
theorem zq1i.mono : ∀ a0 a1 a2 a3 a4 a5 k, LeO (zq1i.f k a0 a1 a2 a3 a4 a5) (zq1i.f (k + 1) a0 a1 a2 a3 a4 a5) := by
 intro a0 a1 a2 a3 a4 a5 k
 unfold zq1i.f
 with_reducible repeat' first | apply zq1o.mono | apply zq1s.mono | apply zq1u.mono | exact LeO.refl _ | exact LeO.none _ | refine LeO.ite ?_ ?_ | refine LeO.bind ?_ (fun _ => ?_)
theorem zq1i.calls (k : Nat) (aD : ByteArray) (aE : ByteArray) (aF : ByteArray) (aG : Int) (aI : Option Addr) (aH : Nat) (aB : List (S62)) (aK : Option Addr) (aJ : Nat) (aC : List (S43)) (r1 : ByteArray) (r2 : Int) (w : World) (aU : Kd.C k62 w aI aB.length aB) (aS : aB.length ≤ aH) (aT : Kd.C k43 w aK aC.length aC) (aR : aC.length ≤ aJ) (h : zq1i.f k aD aE aF aG aB aC = some (r1, r2)) :
  Calls Try.prog 21 #[.agg #[.string aD, .string aE, .string aF, .int .i64 aG, .slice aI aB.length aH, .slice aK aC.length aJ]] w fun e w' => e = .returned (.tuple #[.string r1, .int .i64 r2]) ∧ Below w.heap.size w w' := by
 have b1 := Try.underlying25
 have aN := q_ aU
 have aO := q_ aS
 clear aU aS
 have aM := q_ aT
 have aP := q_ aR
 clear aT aR
 have HB := q_ (Below.refl w.heap.size w)
 have H : ((zq1o.f k aD aE aF aG aB aC).bind fun aL => (if aL = 0 then ((zq1s.f k aD aE aF aG aB aC).bind fun aQ => ((zq1u.f k aQ).bind fun aV => (some (aV, 0)))) else (some (nB_, aL)))) = some (r1, r2) := h
 clear h
 obtain ⟨aL, A2, H⟩ := bq_ H
 (try dsimp only at H)
 by_cases c3 : aL = 0
 rotate_left
 ·rw [if_neg c3] at H
  have bL := ef_ c3
  have bO := nt_ c3
  simp only [Option.some.injEq, Prod.mk.injEq] at H
  obtain ⟨rfl, rfl⟩ := H
  go_enter Try.func21, Try.ntmps21
  go_wp2_with (first | (refine gd_ 1 ?_; refine bx_ 1 (cs := #[.string aD, .string aE, .string aF, .int .i64 aG, .slice aI aB.length aH, .slice aK aC.length aJ]) 25 ?_; intro aX hg b4 hbox hb; have aA := q_ (hbox); have aY := gw_ w hg (y0j hb_); have aW := gw_ w hg (y0j hb_); replace HB := q_ (y0k hb_ hb); clear hb hbox hg; obtain ⟨a7, a1, aZ, a9, a4, a6, a8, bA, a3, a2, a0, a5⟩ := b6_ aA.out) | (refine gc_ 18 ?_; refine gl_ (some 6) Try.func18 #[.agg #[.string aD, .string aE, .string aF, .int .i64 aG, .slice aI aB.length aH, .slice aK aC.length aJ]] ?_; (with_reducible refine (zq1o.calls k aD aE aF aG _ _ aB _ _ aC aL _ ?side1 ?side2 ?side3 ?side4 A2.out).mono ?_); (case side1 => exact ck_ (Kd.C_below aN.out HB.out)); (case side2 => exact aO.out); (case side3 => exact ck_ (Kd.C_below aM.out HB.out)); (case side4 => exact aP.out); rintro e b5 ⟨rfl, hb⟩; refine ⟨_, rfl, ?_⟩; replace aA := q_ (y0n (bk_ aA.out) hb); replace HB := q_ (y0k hb_ hb)))
  go_ret2
  exact ⟨ew_, hb_⟩
 rw [if_pos c3] at H
 have bL := et_ c3
 have bO := nf_ c3
 clear c3
 obtain ⟨aQ, A4, H⟩ := bq_ H
 obtain ⟨aV, A5, H⟩ := bq_ H
 (try dsimp only at H)
 simp only [Option.some.injEq, Prod.mk.injEq] at H
 obtain ⟨rfl, rfl⟩ := H
 go_enter Try.func21, Try.ntmps21
 go_wp2_with (first | (refine gd_ 1 ?_; refine bx_ 1 (cs := #[.string aD, .string aE, .string aF, .int .i64 aG, .slice aI aB.length aH, .slice aK aC.length aJ]) 25 ?_; intro aX hg w6 hbox hb; have aA := q_ (hbox); have aY := gw_ w hg (y0j hb_); have aW := gw_ w hg (y0j hb_); replace HB := q_ (y0k hb_ hb); clear hb hbox hg; obtain ⟨bJ, bC, bP, bN, bX, bK, bG, bI, bM, bH, bQ, bU⟩ := b6_ aA.out) | (refine gc_ 18 ?_; refine gl_ (some 6) Try.func18 #[.agg #[.string aD, .string aE, .string aF, .int .i64 aG, .slice aI aB.length aH, .slice aK aC.length aJ]] ?_; (with_reducible refine (zq1o.calls k aD aE aF aG _ _ aB _ _ aC aL _ ?side1 ?side2 ?side3 ?side4 A2.out).mono ?_); (case side1 => exact ck_ (Kd.C_below aN.out HB.out)); (case side2 => exact aO.out); (case side3 => exact ck_ (Kd.C_below aM.out HB.out)); (case side4 => exact aP.out); rintro e w8 ⟨rfl, hb⟩; refine ⟨_, rfl, ?_⟩; replace aA := q_ (y0n (bk_ aA.out) hb); replace HB := q_ (y0k hb_ hb); obtain ⟨bV, bD, bB, bR, bS, bY, bE, bF, bT, b0, bZ, bW⟩ := b6_ aA.out) | (refine gc_ 55 ?_; refine gl_ (some 11) Try.func55 #[.agg #[.string aD, .string aE, .string aF, .int .i64 aG, .slice aI aB.length aH, .slice aK aC.length aJ]] ?_; (with_reducible refine (zq1s.calls k aD aE aF aG _ _ aB _ _ aC aQ _ ?side1 ?side2 ?side3 ?side4 A4.out).mono ?_); (case side1 => exact ck_ (Kd.C_below aN.out HB.out)); (case side2 => exact aO.out); (case side3 => exact ck_ (Kd.C_below aM.out HB.out)); (case side4 => exact aP.out); rintro e b3 ⟨rfl, hb⟩; refine ⟨_, rfl, ?_⟩; replace aA := q_ (y0n (bk_ aA.out) hb); replace HB := q_ (y0k hb_ hb)) | (refine gc_ 54 ?_; refine gl_ (some 12) Try.func54 #[.string aQ] ?_; (with_reducible refine (zq1u.calls k aQ aV _ A5.out).mono ?_); rintro e b2 ⟨rfl, hb⟩; refine ⟨_, rfl, ?_⟩; replace aA := q_ (y0n (bk_ aA.out) hb); replace HB := q_ (y0k hb_ hb)))
 go_ret2
 exact ⟨ew_, hb_⟩
end Go.Proofs.Ytenlmckahaniiaa.K
end
