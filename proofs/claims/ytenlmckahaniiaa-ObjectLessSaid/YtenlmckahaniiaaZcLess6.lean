/- Lemmas for several laws: what their proofs need of this seat's texts, in one place. -/
import Derived.Test.YtenlmckahaniiaaZcLess5
set_option linter.unusedVariables false
set_option linter.unusedSimpArgs false
set_option linter.unusedSectionVars false
set_option maxHeartbeats 8000000
set_option maxRecDepth 100000
section
namespace Go.Proofs.Ytenlmckahaniiaa.K
open Go.RowKit Go.Proofs.YtenlmckahaniiaaW.PrintWords Go.Proofs.YtenlmckahaniiaaW.PrintLast
def zqs.l0 : Nat → List S62 → ByteArray → Int → Option ByteArray
  | 0, _, _, _ => none
  | k + 1, x, a, i => if i < (x.length : Int) then (if 0 ≤ i then ((zqn.f k (rd_T62 x i).f0).bind fun p => ((zqw.f k (rd_T62 x i).f1 1).bind fun q => ((zqw.f k (rd_T62 x i).f2 2).bind fun u => ((zqq.f (rd_T62 x i).f3).bind fun t => (if a.size + (((p ++ q) ++ u) ++ t).size ≤ 140737488355328 then zqs.l0 k x (a ++ (((p ++ q) ++ u) ++ t)) (wrap64 (i + 1)) else none))))) else none) else some a
def zqs.l1 : Nat → List S43 → ByteArray → Int → Option ByteArray
  | 0, _, _, _ => none
  | k + 1, x, a, i => if i < (x.length : Int) then (if 0 ≤ i then ((zqw.f k (y0l x i).f0 1).bind fun p => ((zqw.f k (y0l x i).f1 2).bind fun q => ((zqw.f k (y0l x i).f2 1).bind fun u => ((zqn.f k (y0l x i).f3).bind fun v => ((zqq.f (y0l x i).f4).bind fun t => (if a.size + ((((p ++ q) ++ u) ++ v) ++ t).size ≤ 140737488355328 then zqs.l1 k x (a ++ ((((p ++ q) ++ u) ++ v) ++ t)) (wrap64 (i + 1)) else none)))))) else none) else some a
def zqs.f (k : Nat) (a0_0 : ByteArray) (a0_1 : ByteArray) (a0_2 : ByteArray) (a0_3 : Int) (l0_4 : List (S62)) (l0_5 : List (S43)) : Option ByteArray :=
  (zqn.f k a0_0).bind fun p => ((zqn.f k a0_1).bind fun q => ((zqn.f k a0_2).bind fun u => ((zqw.f k a0_3 2).bind fun v => (if (((((⟨#[79, 66, 74, 49]⟩ : ByteArray) ++ p) ++ q) ++ u) ++ v).size ≤ 140737488355328 then ((zqw.f k (l0_4.length : Int) 2).bind fun c => (if (((((⟨#[79, 66, 74, 49]⟩ : ByteArray) ++ p) ++ q) ++ u) ++ v).size + c.size ≤ 140737488355328 then ((zqs.l0 k l0_4 ((((((⟨#[79, 66, 74, 49]⟩ : ByteArray) ++ p) ++ q) ++ u) ++ v) ++ c) 0).bind fun s => ((zqw.f k (l0_5.length : Int) 2).bind fun d => (if s.size + d.size ≤ 140737488355328 then (zqs.l1 k l0_5 (s ++ d) 0) else none))) else none)) else none))))
theorem zqs.mono_l0 : ∀ k, (∀ y0 y1 y2, LeO (zqs.l0 k y0 y1 y2) (zqs.l0 (k + 1) y0 y1 y2))
 | 0 => fun _ _ _ r h => by simp [zqs.l0] at h
 | k + 1 => by
  have ih0 := zqs.mono_l0 k
  intro y0 y1 y2
  unfold zqs.l0
  repeat' first
   | (with_reducible exact ih0 _ _ _)
   | (with_reducible exact zqn.mono _ _)
   | (with_reducible exact zqw.mono _ _ _)
   | (with_reducible exact LeO.refl _)
   | (with_reducible exact LeO.none _)
   | (with_reducible refine LeO.ite ?_ ?_)
   | (with_reducible refine LeO.bind ?_ (fun _ => ?_))
theorem zqs.mono_l1 : ∀ k, (∀ y0 y1 y2, LeO (zqs.l1 k y0 y1 y2) (zqs.l1 (k + 1) y0 y1 y2))
 | 0 => fun _ _ _ r h => by simp [zqs.l1] at h
 | k + 1 => by
  have ih0 := zqs.mono_l1 k
  intro y0 y1 y2
  unfold zqs.l1
  repeat' first
   | (with_reducible exact ih0 _ _ _)
   | (with_reducible exact zqn.mono _ _)
   | (with_reducible exact zqw.mono _ _ _)
   | (with_reducible exact LeO.refl _)
   | (with_reducible exact LeO.none _)
   | (with_reducible refine LeO.ite ?_ ?_)
   | (with_reducible refine LeO.bind ?_ (fun _ => ?_))
theorem zqs.mono : ∀ a0 a1 a2 a3 a4 a5 k, LeO (zqs.f k a0 a1 a2 a3 a4 a5) (zqs.f (k + 1) a0 a1 a2 a3 a4 a5) := by
 intro a0 a1 a2 a3 a4 a5 k
 have ih0 := zqs.mono_l0 k
 have ih1 := zqs.mono_l1 k
 unfold zqs.f
 repeat' first
   | (with_reducible exact ih0 _ _ _)
   | (with_reducible exact zqn.mono _ _)
   | (with_reducible exact zqw.mono _ _ _)
   | (with_reducible exact LeO.refl _)
   | (with_reducible exact LeO.none _)
   | (with_reducible refine LeO.ite ?_ ?_)
   | (with_reducible refine LeO.bind ?_ (fun _ => ?_))
   | (with_reducible exact ih1 _ _ _)
def zqs.T2 : Bool × List (List Nat × List Nat) := (true, [([], []), ([0], [0]), ([1], [1]), ([2], [2]), ([], []), ([4], [4]), ([5, 2], [5]), ([3, 6], [3, 6]), ([], []), ([8], [8]), ([9, 6], [9]), ([7, 10], [7, 10]), ([], []), ([12], [12]), ([13, 10], [13]), ([11, 14], [11, 14]), ([15, 14], [15])])
def zqs.B2 : List Nat := [0, 1, 3, 7, 0, 16, 55, 127, 0, 256, 887, 2047, 0, 4096, 14199, 32767, 65535]
theorem zqs.tab2 : rtab .any (opsOf Try.f55 2) = zqs.T2 := by kernel_rfl
theorem zqs.bits2 : waitsOk zqs.T2.2 zqs.B2 = true := by kernel_rfl
def zqs.T7 : Bool × List (List Nat × List Nat) := (true, [([], []), ([0], [0]), ([1], [1]), ([], []), ([3], [3]), ([4, 2], [4]), ([2, 5], [2, 5]), ([], []), ([7], [7]), ([8, 5], [8]), ([6, 9], [6, 9]), ([], []), ([11], [11]), ([12, 9], [12]), ([10, 13], [10, 13]), ([14, 13], [14])])
def zqs.B7 : List Nat := [0, 1, 3, 0, 8, 31, 63, 0, 128, 447, 1023, 0, 2048, 7103, 16383, 32767]
theorem zqs.tab7 : rtab .any (opsOf Try.f55 7) = zqs.T7 := by kernel_rfl
theorem zqs.bits7 : waitsOk zqs.T7.2 zqs.B7 = true := by kernel_rfl
def zqs.T13 : Bool × List (List Nat × List Nat) := (true, [([], []), ([0], [0]), ([1], [1]), ([], []), ([3], [3]), ([4, 2], [4]), ([2, 5], [2, 5]), ([], []), ([7], [7]), ([8, 5], [8]), ([6, 9], [6, 9]), ([], []), ([11], [11]), ([12, 9], [12]), ([10, 13], [10, 13]), ([], []), ([15], [15]), ([16, 13], [16]), ([14, 17], [14, 17]), ([18, 17], [18])])
def zqs.B13 : List Nat := [0, 1, 3, 0, 8, 31, 63, 0, 128, 447, 1023, 0, 2048, 7103, 16383, 0, 32768, 113599, 262143, 524287]
theorem zqs.tab13 : rtab .any (opsOf Try.f55 13) = zqs.T13 := by kernel_rfl
theorem zqs.bits13 : waitsOk zqs.T13.2 zqs.B13 = true := by kernel_rfl
theorem zqs.calls (k : Nat) (a0_0 : ByteArray) (a0_1 : ByteArray) (a0_2 : ByteArray) (a0_3 : Int) (A0_4 : Option Addr) (c0_4 : Nat) (l0_4 : List (S62)) (A0_5 : Option Addr) (c0_5 : Nat) (l0_5 : List (S43)) (r : ByteArray) (w : World) (hr0_4 : Kd.C k62 w A0_4 l0_4.length l0_4) (hc0_4 : l0_4.length ≤ c0_4) (hr0_5 : Kd.C k43 w A0_5 l0_5.length l0_5) (hc0_5 : l0_5.length ≤ c0_5) (h : zqs.f k a0_0 a0_1 a0_2 a0_3 l0_4 l0_5 = some r) :
  Calls Try.prog 55 #[.agg #[.string a0_0, .string a0_1, .string a0_2, .int .i64 a0_3, .slice A0_4 l0_4.length c0_4, .slice A0_5 l0_5.length c0_5]] w fun e w' => e = .returned (.string r) ∧ Below w.heap.size w w' := by
 have HR4 := Aside0.mk hr0_4
 have HR5 := Aside0.mk hr0_5
 clear hr0_4 hr0_5 hc0_4 hc0_5
 have HB := Aside0.mk (Below.refl w.heap.size w)
 obtain ⟨p, A1, h⟩ := Option.bind_eq_some_iff.mp h
 obtain ⟨q, A2, h⟩ := Option.bind_eq_some_iff.mp h
 obtain ⟨u, A3, h⟩ := Option.bind_eq_some_iff.mp h
 obtain ⟨v, A4, h⟩ := Option.bind_eq_some_iff.mp h
 obtain ⟨hl1, h⟩ := ite_some h
 obtain ⟨c, A5, h⟩ := Option.bind_eq_some_iff.mp h
 obtain ⟨hl2, h⟩ := ite_some h
 obtain ⟨s, A6, h⟩ := Option.bind_eq_some_iff.mp h
 obtain ⟨d, A7, h⟩ := Option.bind_eq_some_iff.mp h
 obtain ⟨hl3, h⟩ := ite_some h
 have HL1 := Aside0.mk hl1
 have HL2 := Aside0.mk hl2
 have HL3 := Aside0.mk hl3
 have HH := Aside0.mk h
 clear hl2 hl3 h
 have B1 := Aside0.mk A1
 have B2 := Aside0.mk A2
 have B3 := Aside0.mk A3
 have B4 := Aside0.mk A4
 have B5 := Aside0.mk A5
 have B6 := Aside0.mk A6
 have B7 := Aside0.mk A7
 clear A1 A2 A3 A4 A5 A6 A7
 have hs1 : 4 + p.size + q.size + u.size + v.size ≤ 140737488355328 := by have h_ := hl1; simp only [ByteArray.size_append] at h_; exact h_
 clear hl1
 go_enter Try.func55, Try.ntmps55
 go_wp2_with (first | ((with_reducible refine y0j (N := 1) rfl ?_); refine y0e ?hg (N := 1) ?hd (cs := #[.string a0_0, .string a0_1, .string a0_2, .int .i64 a0_3, .slice A0_4 l0_4.length c0_4, .slice A0_5 l0_5.length c0_5]) (t := 25) ?hr ?_; (case hd => rfl); (case hg => rfl); (case hr => first | (go_simp; done) | (go_simp; rfl)); intro g hg w1 hbox hb; have HG := Aside0.mk hg; have HB1 := Aside0.mk hb; have HX1 := Aside0.mk hbox; clear hg hb hbox) | ((with_reducible refine y0j (N := 3) rfl ?_); refine y0e ?hg (N := 3) ?hd (cs := #[.pointer none, .slice none 0 0]) (t := 104) ?hr ?_; (case hd => rfl); (case hg => rfl); (case hr => first | (go_simp; done) | (go_simp; rfl)); intro b hg w2 hbox hb; have HU := Aside0.mk (BU.made HB1.out HG.out HX1.out hg hb hbox); clear hg hb hbox HB1 HX1 HG))
 have hdr_ := Aside0.mk (HU.out.step (Below.refl _ _).drew)
 clear HU
 have HU := hdr_
 clear hdr_
 refine start_ (n := 17) (S := fun w' => w'.cell? ⟨g, 0, none⟩ = some (.string a0_0) ∧ w'.cell? ⟨g, 1, none⟩ = some (.string a0_1) ∧ w'.cell? ⟨g, 2, none⟩ = some (.string a0_2) ∧ w'.cell? ⟨g, 3, none⟩ = some (.int .i64 a0_3)) (ds := []) #[false, false, false, false, false, false, false, false, false, false, false, false, false, false, false, false, false] (by kernel_rfl) rfl rfl ⟨(y07 HU.out.box 0).trans rfl, (y07 HU.out.box 1).trans rfl, (y07 HU.out.box 2).trans rfl, (y07 HU.out.box 3).trans rfl⟩ (fun hHeld => ?_)
 refine with_tabW zqs.tab2 zqs.bits2 (fun HT_ HW_ => ?_)
 refine pure_ (i := 0) (N := some 8) (v := ?_) (a' := ?_) #[true, false, false, false, false, false, false, false, false, false, false, false, false, false, false, false, false] rfl rfl (any_of HT_.out (by kernel_rfl)) (fun _ _ _ h => h) (Or.inl ⟨by rfl, ?_⟩) ?_ ?_
 rotate_left
 ·intro w'
  go_simp
  first | with_reducible rfl | (refine (if_neg ?_).trans ?_; (first | omega | (simp only [ByteArray.size_append]; omega) | (rw [show (4 : Nat) = (⟨#[79, 66, 74, 49]⟩ : ByteArray).size from rfl]; simp only [ByteArray.size_append]; omega) | (show ¬ (9223372036854775807 < _); simp only [ByteArray.size_append]; show ¬ (9223372036854775807 < 4 + _ + _ + _ + _); omega)); with_reducible rfl)
 rotate_left
 ·simp only [Act.put, List.setIfInBounds_toArray, List.set_cons_zero, List.set_cons_succ, i64_w, i32_w]
  rfl
 refine ta_ 1 (some 9) (fl 17 3) rfl rfl HT_ HW_ hHeld ?_
 refine pure_ (i := 4) (N := some 12) (v := ?_) (a' := ?_) #[true, true, false, false, true, false, false, false, false, false, false, false, false, false, false, false, false] rfl rfl (any_of HT_.out (by kernel_rfl)) (fun _ _ _ h => h) (Or.inl ⟨by rfl, ?_⟩) ?_ ?_
 rotate_left
 ·intro w'
  go_simp
  first | with_reducible rfl | (refine (if_neg ?_).trans ?_; (first | omega | (simp only [ByteArray.size_append]; omega) | (rw [show (4 : Nat) = (⟨#[79, 66, 74, 49]⟩ : ByteArray).size from rfl]; simp only [ByteArray.size_append]; omega) | (show ¬ (9223372036854775807 < _); simp only [ByteArray.size_append]; show ¬ (9223372036854775807 < 4 + _ + _ + _ + _); omega)); with_reducible rfl)
 rotate_left
 ·simp only [Act.put, List.setIfInBounds_toArray, List.set_cons_zero, List.set_cons_succ, i64_w, i32_w]
  rfl
 refine ta_ 5 (some 13) (fl 17 51) rfl rfl HT_ HW_ hHeld ?_
 refine pure_ (i := 8) (N := some 16) (v := ?_) (a' := ?_) #[true, true, false, false, true, true, false, false, true, false, false, false, false, false, false, false, false] rfl rfl (any_of HT_.out (by kernel_rfl)) (fun _ _ _ h => h) (Or.inl ⟨by rfl, ?_⟩) ?_ ?_
 rotate_left
 ·intro w'
  go_simp
  first | with_reducible rfl | (refine (if_neg ?_).trans ?_; (first | omega | (simp only [ByteArray.size_append]; omega) | (rw [show (4 : Nat) = (⟨#[79, 66, 74, 49]⟩ : ByteArray).size from rfl]; simp only [ByteArray.size_append]; omega) | (show ¬ (9223372036854775807 < _); simp only [ByteArray.size_append]; show ¬ (9223372036854775807 < 4 + _ + _ + _ + _); omega)); with_reducible rfl)
 rotate_left
 ·simp only [Act.put, List.setIfInBounds_toArray, List.set_cons_zero, List.set_cons_succ, i64_w, i32_w]
  rfl
 refine ta_ 9 (some 17) (fl 17 819) rfl rfl HT_ HW_ hHeld ?_
 refine pure_ (i := 12) (N := some 20) (v := ?_) (a' := ?_) #[true, true, false, false, true, true, false, false, true, true, false, false, true, false, false, false, false] rfl rfl (any_of HT_.out (by kernel_rfl)) (fun _ _ _ h => h) (Or.inl ⟨by rfl, ?_⟩) ?_ ?_
 rotate_left
 ·intro w'
  go_simp
  first | with_reducible rfl | (refine (if_neg ?_).trans ?_; (first | omega | (simp only [ByteArray.size_append]; omega) | (rw [show (4 : Nat) = (⟨#[79, 66, 74, 49]⟩ : ByteArray).size from rfl]; simp only [ByteArray.size_append]; omega) | (show ¬ (9223372036854775807 < _); simp only [ByteArray.size_append]; show ¬ (9223372036854775807 < 4 + _ + _ + _ + _); omega)); with_reducible rfl)
 rotate_left
 ·simp only [Act.put, List.setIfInBounds_toArray, List.set_cons_zero, List.set_cons_succ, i64_w, i32_w]
  rfl
 refine ta_ 13 (some 21) (fl 17 13107) rfl rfl HT_ HW_ hHeld ?_
 refine one_ (i := 2) (N := some 10) (fl 17 13111) rfl rfl (one_of HT_.out (by kernel_rfl)) (by decide) (fun K hK => ?_)
 refine goes_ Try.func92 (by kernel_rfl) rfl #[.string a0_0] (by rfl) rfl rfl (by (try simp only [List.map_toArray, List.map_cons, List.map_nil]); first | done | rfl) ?_
 with_reducible refine (zqn.calls k a0_0 p _ B1.out).mono ?_
 rintro e w3 ⟨rfl, hb0⟩
 refine ⟨_, rfl, ?_⟩
 have hb := hb0
 have n1 := Aside0.mk (HU.out.step hb)
 clear HU hb hb0
 have HU := n1
 clear n1
 refine hK.out _ _ ⟨(y07 HU.out.box 0).trans rfl, (y07 HU.out.box 1).trans rfl, (y07 HU.out.box 2).trans rfl, (y07 HU.out.box 3).trans rfl⟩ (fun hHeld => ?_)
 clear hK K
 refine no_ (N := some 10) ?_
 refine pure_ (i := 3) (N := some 11) (v := ?_) (a' := ?_) #[true, true, true, true, true, true, false, false, true, true, false, false, true, true, false, false, false] rfl rfl (any_of HT_.out (by kernel_rfl)) (fun _ _ _ h => h) (Or.inl ⟨by rfl, ?_⟩) ?_ ?_
 rotate_left
 ·intro w'
  go_simp
  first | with_reducible rfl | (refine (if_neg ?_).trans ?_; (first | omega | (simp only [ByteArray.size_append]; omega) | (rw [show (4 : Nat) = (⟨#[79, 66, 74, 49]⟩ : ByteArray).size from rfl]; simp only [ByteArray.size_append]; omega) | (show ¬ (9223372036854775807 < _); simp only [ByteArray.size_append]; show ¬ (9223372036854775807 < 4 + _ + _ + _ + _); omega)); with_reducible rfl)
 rotate_left
 ·simp only [Act.put, List.setIfInBounds_toArray, List.set_cons_zero, List.set_cons_succ, i64_w, i32_w]
  rfl
 refine one_ (i := 6) (N := some 14) (fl 17 13183) rfl rfl (one_of HT_.out (by kernel_rfl)) (by decide) (fun K hK => ?_)
 refine goes_ Try.func92 (by kernel_rfl) rfl #[.string a0_1] (by rfl) rfl rfl (by (try simp only [List.map_toArray, List.map_cons, List.map_nil]); first | done | rfl) ?_
 with_reducible refine (zqn.calls k a0_1 q _ B2.out).mono ?_
 rintro e w4 ⟨rfl, hb0⟩
 refine ⟨_, rfl, ?_⟩
 have hb := hb0
 have n1 := Aside0.mk (HU.out.step hb)
 clear HU hb hb0
 have HU := n1
 clear n1
 refine hK.out _ _ ⟨(y07 HU.out.box 0).trans rfl, (y07 HU.out.box 1).trans rfl, (y07 HU.out.box 2).trans rfl, (y07 HU.out.box 3).trans rfl⟩ (fun hHeld => ?_)
 clear hK K
 refine no_ (N := some 14) ?_
 refine pure_ (i := 7) (N := some 15) (v := ?_) (a' := ?_) #[true, true, true, true, true, true, true, true, true, true, false, false, true, true, false, false, false] rfl rfl (any_of HT_.out (by kernel_rfl)) (fun _ _ _ h => h) (Or.inl ⟨by rfl, ?_⟩) ?_ ?_
 rotate_left
 ·intro w'
  go_simp
  first | with_reducible rfl | (refine (if_neg ?_).trans ?_; (first | omega | (simp only [ByteArray.size_append]; omega) | (rw [show (4 : Nat) = (⟨#[79, 66, 74, 49]⟩ : ByteArray).size from rfl]; simp only [ByteArray.size_append]; omega) | (show ¬ (9223372036854775807 < _); simp only [ByteArray.size_append]; show ¬ (9223372036854775807 < 4 + _ + _ + _ + _); omega)); with_reducible rfl)
 rotate_left
 ·simp only [Act.put, List.setIfInBounds_toArray, List.set_cons_zero, List.set_cons_succ, i64_w, i32_w]
  rfl
 refine one_ (i := 10) (N := some 18) (fl 17 14335) rfl rfl (one_of HT_.out (by kernel_rfl)) (by decide) (fun K hK => ?_)
 refine goes_ Try.func92 (by kernel_rfl) rfl #[.string a0_2] (by rfl) rfl rfl (by (try simp only [List.map_toArray, List.map_cons, List.map_nil]); first | done | rfl) ?_
 with_reducible refine (zqn.calls k a0_2 u _ B3.out).mono ?_
 rintro e w5 ⟨rfl, hb0⟩
 refine ⟨_, rfl, ?_⟩
 have hb := hb0
 have n1 := Aside0.mk (HU.out.step hb)
 clear HU hb hb0
 have HU := n1
 clear n1
 refine hK.out _ _ ⟨(y07 HU.out.box 0).trans rfl, (y07 HU.out.box 1).trans rfl, (y07 HU.out.box 2).trans rfl, (y07 HU.out.box 3).trans rfl⟩ (fun hHeld => ?_)
 clear hK K
 refine no_ (N := some 18) ?_
 refine pure_ (i := 11) (N := some 19) (v := ?_) (a' := ?_) #[true, true, true, true, true, true, true, true, true, true, true, true, true, true, false, false, false] rfl rfl (any_of HT_.out (by kernel_rfl)) (fun _ _ _ h => h) (Or.inl ⟨by rfl, ?_⟩) ?_ ?_
 rotate_left
 ·intro w'
  go_simp
  first | with_reducible rfl | (refine (if_neg ?_).trans ?_; (first | omega | (simp only [ByteArray.size_append]; omega) | (rw [show (4 : Nat) = (⟨#[79, 66, 74, 49]⟩ : ByteArray).size from rfl]; simp only [ByteArray.size_append]; omega) | (show ¬ (9223372036854775807 < _); simp only [ByteArray.size_append]; show ¬ (9223372036854775807 < 4 + _ + _ + _ + _); omega)); with_reducible rfl)
 rotate_left
 ·simp only [Act.put, List.setIfInBounds_toArray, List.set_cons_zero, List.set_cons_succ, i64_w, i32_w]
  rfl
 refine one_ (i := 14) (N := some 22) (fl 17 32767) rfl rfl (one_of HT_.out (by kernel_rfl)) (by decide) (fun K hK => ?_)
 refine goes_ Try.func78 (by kernel_rfl) rfl #[.int .i64 a0_3, .int .i64 2] (by rfl) rfl rfl (by (try simp only [List.map_toArray, List.map_cons, List.map_nil]); first | done | rfl) ?_
 with_reducible refine (zqw.calls k a0_3 2 v _ B4.out).mono ?_
 rintro e w6 ⟨rfl, hb0⟩
 refine ⟨_, rfl, ?_⟩
 have hb := hb0
 have n1 := Aside0.mk (HU.out.step hb)
 clear HU hb hb0
 have HU := n1
 clear n1
 refine hK.out _ _ ⟨(y07 HU.out.box 0).trans rfl, (y07 HU.out.box 1).trans rfl, (y07 HU.out.box 2).trans rfl, (y07 HU.out.box 3).trans rfl⟩ (fun hHeld => ?_)
 clear hK K
 refine no_ (N := some 22) ?_
 refine pure_ (i := 15) (N := some 23) (v := ?_) (a' := ?_) #[true, true, true, true, true, true, true, true, true, true, true, true, true, true, true, true, false] rfl rfl (any_of HT_.out (by kernel_rfl)) (fun _ _ _ h => h) (Or.inl ⟨by rfl, ?_⟩) ?_ ?_
 rotate_left
 ·intro w'
  go_simp
  first | with_reducible rfl | (refine (if_neg ?_).trans ?_; (first | omega | (simp only [ByteArray.size_append]; omega) | (rw [show (4 : Nat) = (⟨#[79, 66, 74, 49]⟩ : ByteArray).size from rfl]; simp only [ByteArray.size_append]; omega) | (show ¬ (9223372036854775807 < _); simp only [ByteArray.size_append]; show ¬ (9223372036854775807 < 4 + _ + _ + _ + _); omega)); with_reducible rfl)
 rotate_left
 ·simp only [Act.put, List.setIfInBounds_toArray, List.set_cons_zero, List.set_cons_succ, i64_w, i32_w]
  rfl
 refine one_ (i := 16) (N := some 24) (fl 17 131071) rfl rfl (one_of HT_.out (by kernel_rfl)) (by decide) (fun K hK => ?_)
 refine goes_ Try.func91 (by kernel_rfl) rfl #[.pointer (some ⟨b, 0, none⟩), .string (((((⟨#[79, 66, 74, 49]⟩ : ByteArray) ++ p) ++ q) ++ u) ++ v)] (by rfl) rfl rfl (by (try simp only [List.map_toArray, List.map_cons, List.map_nil]); first | done | rfl) ?_
 with_reducible refine (Try.Builder_WriteString b b (Lib.strCells ⟨#[]⟩) (((((⟨#[79, 66, 74, 49]⟩ : ByteArray) ++ p) ++ q) ++ u) ++ v) _ HU.out.bu (HU.out.len (by rw [show ByteArray.size ⟨#[]⟩ = 0 from rfl, Nat.zero_add]; exact HL1.out)) HU.out.le).mono ?_
 rintro e w7 ⟨rfl, hbu, hbb⟩
 refine ⟨_, rfl, ?_⟩
 have n1 := Aside0.mk (HU.out.write hbu hbb)
 clear HU hbu hbb
 have HU := n1
 clear n1
 refine hK.out _ _ ⟨(y07 HU.out.box 0).trans rfl, (y07 HU.out.box 1).trans rfl, (y07 HU.out.box 2).trans rfl, (y07 HU.out.box 3).trans rfl⟩ (fun hHeld => ?_)
 clear hK K
 refine no_ (N := some 24) ?_
 refine done_ (done_of HT_.out (by kernel_rfl)) ?_
 have e0 : (⟨#[]⟩ : ByteArray) ++ (((((⟨#[79, 66, 74, 49]⟩ : ByteArray) ++ p) ++ q) ++ u) ++ v) = (((((⟨#[79, 66, 74, 49]⟩ : ByteArray) ++ p) ++ q) ++ u) ++ v) := ByteArray.empty_append
 rw [e0] at HU
 clear e0 hs1
 generalize (((((⟨#[79, 66, 74, 49]⟩ : ByteArray) ++ p) ++ q) ++ u) ++ v) = X at HU HL2 B6 ⊢
 have hc : _ = some (Value.slice A0_4 l0_4.length c0_4) := (y07 HU.out.box 4).trans rfl
 go_wp2_with (first | ((with_reducible refine y0i (f := 78) rfl ?_); refine goesL_ (some 28) rfl rfl Try.func78 (by kernel_rfl) rfl #[.int .i64 (l0_4.length : Int), .int .i64 2] rfl (by (try simp only [List.map_toArray, List.map_cons, List.map_nil]); first | done | rfl) ?_; (with_reducible refine (zqw.calls k (l0_4.length : Int) 2 c _ B5.out).mono ?_); rintro e w8 ⟨rfl, hb0⟩; refine ⟨_, rfl, ?_⟩; have hb := hb0; have n1 := Aside0.mk (HU.out.step hb); clear HU hb hb0; have HU := n1; clear n1; have hc2 : _ = some (Value.slice A0_4 l0_4.length c0_4) := (y07 HU.out.box 4).trans rfl) | ((with_reducible refine y0i (f := 91) rfl ?_); refine goesL_ (some 29) rfl rfl Try.func91 (by kernel_rfl) rfl #[.pointer (some ⟨b, 0, none⟩), .string c] rfl (by (try simp only [List.map_toArray, List.map_cons, List.map_nil]); first | done | rfl) ?_; (with_reducible refine (Try.Builder_WriteString b b (Lib.strCells X) c _ HU.out.bu (HU.out.len HL2.out) HU.out.le).mono ?_); rintro e w9 ⟨rfl, hbu, hbb⟩; refine ⟨_, rfl, ?_⟩; have n1 := Aside0.mk (HU.out.write hbu hbb); clear HU hbu hbb; have HU := n1; clear n1; have hc3 : _ = some (Value.slice A0_4 l0_4.length c0_4) := (y07 HU.out.box 4).trans rfl))
 clear B1 B2 B3 B4 B5 HL1 HL2
 go_loopg [33] k (fun kq vi w' => ∃ (a : ByteArray) (i : Int), vi = .int .i64 i ∧ Aside0 (zqs.l0 kq l0_4 a i = some s) ∧ Aside0 (kq ≤ k) ∧ Aside0 (BU w w' g b #[.string a0_0, .string a0_1, .string a0_2, .int .i64 a0_3, .slice A0_4 l0_4.length c0_4, .slice A0_5 l0_5.length c0_5] a))
 case atStart => exact ⟨_, 0, rfl, B6, ⟨Nat.le_refl _⟩, HU⟩
 case round =>
  clear HU hc3
  (try clear hc hc2)
  obtain ⟨a, i, rfl, HA, HK1, HU⟩ := hrel
  cases gk with
  | zero => exact absurd HA.out (by simp [zqs.l0])
  | succ k1 =>
   have H := HA.out
   clear HA
   simp only [zqs.l0] at H
   by_cases c2 : i < (l0_4.length : Int)
   ·rw [if_pos c2] at H
    have c2b0 : decide (i < (l0_4.length : Int)) = true := decide_eq_true c2
    obtain ⟨c3, H⟩ := ite_some H
    have c3b0 : decide (0 ≤ i) = true := decide_eq_true c3
    obtain ⟨ad, ead, hx_0, hx_1, hx_2, hx_3⟩ := at_T62 HR4.out i c3 c2
    cases ead
    replace hx_0 := (HU.out.below.cell (World.block_lt_of_cell? w _ hx_0)).trans hx_0
    replace hx_1 := (HU.out.below.cell (World.block_lt_of_cell? w _ hx_1)).trans hx_1
    replace hx_2 := (HU.out.below.cell (World.block_lt_of_cell? w _ hx_2)).trans hx_2
    replace hx_3 := (HU.out.below.cell (World.block_lt_of_cell? w _ hx_3)).trans hx_3
    generalize hsym : rd_T62 l0_4 i = sy at *
    have c2' := eq_true c2
    have c3' := eq_true c3
    obtain ⟨p, Ap, H⟩ := Option.bind_eq_some_iff.mp H
    obtain ⟨q, Aq, H⟩ := Option.bind_eq_some_iff.mp H
    obtain ⟨u, Au, H⟩ := Option.bind_eq_some_iff.mp H
    obtain ⟨t, At, H⟩ := Option.bind_eq_some_iff.mp H
    obtain ⟨hl, H⟩ := ite_some H
    have HL := Aside0.mk hl
    have H' := Aside0.mk H
    clear H
    have Bp := Aside0.mk Ap
    clear Ap
    have Bq := Aside0.mk Aq
    clear Aq
    have Bu := Aside0.mk Au
    clear Au
    have Bt := Aside0.mk At
    clear At
    have hs1 : a.size + (p.size + q.size + u.size + t.size) ≤ 140737488355328 := by have h_ := hl; simp only [ByteArray.size_append] at h_; exact h_
    clear hl
    go_wp2_with (first | ((with_reducible refine y0j (N := 5) rfl ?_); refine y0e ?hg (N := 5) ?hd (cs := #[.string (⟨#[]⟩ : ByteArray), .int .i64 0, .int .i64 0, .bool false]) (t := 62) ?hr ?_; (case hd => rfl); (case hg => rfl); (case hr => first | (go_simp; done) | (go_simp; rfl)); intro gb hg wb hbox hb; have HS := Aside0.mk hb; have BX := Aside0.mk hbox; have GE := Aside0.mk hg; have hc_0 := (y07 BX.out 0).trans rfl; have hf_0 := y0b BX.out 0; have hc_1 := (y07 BX.out 1).trans rfl; have hf_1 := y0b BX.out 1; have hc_2 := (y07 BX.out 2).trans rfl; have hf_2 := y0b BX.out 2; have hc_3 := (y07 BX.out 3).trans rfl; have hf_3 := y0b BX.out 3; clear hg hb hbox))
    have n1 : Aside0 (BU w (World.drew (World.setCell (World.setCell (World.setCell (World.setCell wb ⟨gb, 0, none⟩ (.string sy.f0)) ⟨gb, 1, none⟩ (.int .i64 sy.f1)) ⟨gb, 2, none⟩ (.int .i64 sy.f2)) ⟨gb, 3, none⟩ (.bool sy.f3))) g b _ a) := ⟨HU.out.step (Below.drew (Below.setCell (Below.setCell (Below.setCell (Below.setCell HS.out (p := ⟨gb, 0, none⟩) (by rw [GE.out]; exact Nat.le_refl _) _) (p := ⟨gb, 1, none⟩) (by rw [GE.out]; exact Nat.le_refl _) _) (p := ⟨gb, 2, none⟩) (by rw [GE.out]; exact Nat.le_refl _) _) (p := ⟨gb, 3, none⟩) (by rw [GE.out]; exact Nat.le_refl _) _))⟩
    have n2 : Aside0 ((World.heap (World.drew (World.setCell (World.setCell (World.setCell (World.setCell wb ⟨gb, 0, none⟩ (.string sy.f0)) ⟨gb, 1, none⟩ (.int .i64 sy.f1)) ⟨gb, 2, none⟩ (.int .i64 sy.f2)) ⟨gb, 3, none⟩ (.bool sy.f3))))[gb]? = some (.cells #[.string sy.f0, .int .i64 sy.f1, .int .i64 sy.f2, .bool sy.f3] 62 (0, 0))) := ⟨(y0d (y0d (y0d (y0d BX.out 0 (.string sy.f0) rfl) 1 (.int .i64 sy.f1) rfl) 2 (.int .i64 sy.f2) rfl) 3 (.bool sy.f3) rfl)⟩
    clear HU HS BX GE hc_0 hf_0 hc_1 hf_1 hc_2 hf_2 hc_3 hf_3
    have HU := n1
    have BK := n2
    clear n1 n2
    refine start_ (n := 16) (S := fun w' => w'.cell? ⟨gb, 0, none⟩ = some (.string sy.f0) ∧ w'.cell? ⟨gb, 1, none⟩ = some (.int .i64 sy.f1) ∧ w'.cell? ⟨gb, 2, none⟩ = some (.int .i64 sy.f2) ∧ w'.cell? ⟨gb, 3, none⟩ = some (.bool sy.f3)) (ds := [15]) #[false, false, false, false, false, false, false, false, false, false, false, false, false, false, false, false] (by kernel_rfl) rfl rfl ⟨(y07 BK.out 0).trans rfl, (y07 BK.out 1).trans rfl, (y07 BK.out 2).trans rfl, (y07 BK.out 3).trans rfl⟩ (fun hHeld => ?_)
    refine with_tabW zqs.tab7 zqs.bits7 (fun HT_ HW_ => ?_)
    refine pure_ (i := 0) (N := some 37) (v := ?_) (a' := ?_) #[true, false, false, false, false, false, false, false, false, false, false, false, false, false, false, false] rfl rfl (any_of HT_.out (by kernel_rfl)) (fun _ _ _ h => h) (Or.inl ⟨by rfl, ?_⟩) ?_ ?_
    rotate_left
    ·intro w'
     go_simp
     first | with_reducible rfl | (refine (if_neg ?_).trans ?_; (first | omega | (simp only [ByteArray.size_append]; omega) | (rw [show (4 : Nat) = (⟨#[79, 66, 74, 49]⟩ : ByteArray).size from rfl]; simp only [ByteArray.size_append]; omega) | (show ¬ (9223372036854775807 < _); simp only [ByteArray.size_append]; show ¬ (9223372036854775807 < 4 + _ + _ + _ + _); omega)); with_reducible rfl)
    rotate_left
    ·simp only [Act.put, List.setIfInBounds_toArray, List.set_cons_zero, List.set_cons_succ, i64_w, i32_w]
     rfl
    refine ta_ 1 (some 38) (fl 16 3) rfl rfl HT_ HW_ hHeld ?_
    refine pure_ (i := 3) (N := some 40) (v := ?_) (a' := ?_) #[true, true, false, true, false, false, false, false, false, false, false, false, false, false, false, false] rfl rfl (any_of HT_.out (by kernel_rfl)) (fun _ _ _ h => h) (Or.inl ⟨by rfl, ?_⟩) ?_ ?_
    rotate_left
    ·intro w'
     go_simp
     first | with_reducible rfl | (refine (if_neg ?_).trans ?_; (first | omega | (simp only [ByteArray.size_append]; omega) | (rw [show (4 : Nat) = (⟨#[79, 66, 74, 49]⟩ : ByteArray).size from rfl]; simp only [ByteArray.size_append]; omega) | (show ¬ (9223372036854775807 < _); simp only [ByteArray.size_append]; show ¬ (9223372036854775807 < 4 + _ + _ + _ + _); omega)); with_reducible rfl)
    rotate_left
    ·simp only [Act.put, List.setIfInBounds_toArray, List.set_cons_zero, List.set_cons_succ, i64_w, i32_w]
     rfl
    refine ta_ 4 (some 41) (fl 16 27) rfl rfl HT_ HW_ hHeld ?_
    refine pure_ (i := 7) (N := some 44) (v := ?_) (a' := ?_) #[true, true, false, true, true, false, false, true, false, false, false, false, false, false, false, false] rfl rfl (any_of HT_.out (by kernel_rfl)) (fun _ _ _ h => h) (Or.inl ⟨by rfl, ?_⟩) ?_ ?_
    rotate_left
    ·intro w'
     go_simp
     first | with_reducible rfl | (refine (if_neg ?_).trans ?_; (first | omega | (simp only [ByteArray.size_append]; omega) | (rw [show (4 : Nat) = (⟨#[79, 66, 74, 49]⟩ : ByteArray).size from rfl]; simp only [ByteArray.size_append]; omega) | (show ¬ (9223372036854775807 < _); simp only [ByteArray.size_append]; show ¬ (9223372036854775807 < 4 + _ + _ + _ + _); omega)); with_reducible rfl)
    rotate_left
    ·simp only [Act.put, List.setIfInBounds_toArray, List.set_cons_zero, List.set_cons_succ, i64_w, i32_w]
     rfl
    refine ta_ 8 (some 45) (fl 16 411) rfl rfl HT_ HW_ hHeld ?_
    refine pure_ (i := 11) (N := some 48) (v := ?_) (a' := ?_) #[true, true, false, true, true, false, false, true, true, false, false, true, false, false, false, false] rfl rfl (any_of HT_.out (by kernel_rfl)) (fun _ _ _ h => h) (Or.inl ⟨by rfl, ?_⟩) ?_ ?_
    rotate_left
    ·intro w'
     go_simp
     first | with_reducible rfl | (refine (if_neg ?_).trans ?_; (first | omega | (simp only [ByteArray.size_append]; omega) | (rw [show (4 : Nat) = (⟨#[79, 66, 74, 49]⟩ : ByteArray).size from rfl]; simp only [ByteArray.size_append]; omega) | (show ¬ (9223372036854775807 < _); simp only [ByteArray.size_append]; show ¬ (9223372036854775807 < 4 + _ + _ + _ + _); omega)); with_reducible rfl)
    rotate_left
    ·simp only [Act.put, List.setIfInBounds_toArray, List.set_cons_zero, List.set_cons_succ, i64_w, i32_w]
     rfl
    refine ta_ 12 (some 49) (fl 16 6555) rfl rfl HT_ HW_ hHeld ?_
    refine one_ (i := 2) (N := some 39) (fl 16 6559) rfl rfl (one_of HT_.out (by kernel_rfl)) (by decide) (fun K hK => ?_)
    refine goes_ Try.func92 (by kernel_rfl) rfl #[.string sy.f0] (by rfl) rfl rfl (by (try simp only [List.map_toArray, List.map_cons, List.map_nil]); first | done | rfl) ?_
    with_reducible refine (zqn.calls k1 sy.f0 p _ Bp.out).mono ?_
    rintro e w10 ⟨rfl, hb0⟩
    refine ⟨_, rfl, ?_⟩
    have hb := hb0
    have n1 := Aside0.mk (HU.out.step hb)
    have n2 := Aside0.mk (y06 BK.out hb)
    clear HU hb hb0 BK
    have HU := n1
    have BK := n2
    clear n1 n2
    refine hK.out _ _ ⟨(y07 BK.out 0).trans rfl, (y07 BK.out 1).trans rfl, (y07 BK.out 2).trans rfl, (y07 BK.out 3).trans rfl⟩ (fun hHeld => ?_)
    clear hK K
    refine no_ (N := some 39) ?_
    refine one_ (i := 5) (N := some 42) (fl 16 6591) rfl rfl (one_of HT_.out (by kernel_rfl)) (by decide) (fun K hK => ?_)
    refine goes_ Try.func78 (by kernel_rfl) rfl #[.int .i64 sy.f1, .int .i64 1] (by rfl) rfl rfl (by (try simp only [List.map_toArray, List.map_cons, List.map_nil]); first | done | rfl) ?_
    with_reducible refine (zqw.calls k1 sy.f1 1 q _ Bq.out).mono ?_
    rintro e w11 ⟨rfl, hb0⟩
    refine ⟨_, rfl, ?_⟩
    have hb := hb0
    have n1 := Aside0.mk (HU.out.step hb)
    have n2 := Aside0.mk (y06 BK.out hb)
    clear HU hb hb0 BK
    have HU := n1
    have BK := n2
    clear n1 n2
    refine hK.out _ _ ⟨(y07 BK.out 0).trans rfl, (y07 BK.out 1).trans rfl, (y07 BK.out 2).trans rfl, (y07 BK.out 3).trans rfl⟩ (fun hHeld => ?_)
    clear hK K
    refine no_ (N := some 42) ?_
    refine pure_ (i := 6) (N := some 43) (v := ?_) (a' := ?_) #[true, true, true, true, true, true, true, true, true, false, false, true, true, false, false, false] rfl rfl (any_of HT_.out (by kernel_rfl)) (fun _ _ _ h => h) (Or.inl ⟨by rfl, ?_⟩) ?_ ?_
    rotate_left
    ·intro w'
     go_simp
     first | with_reducible rfl | (refine (if_neg ?_).trans ?_; (first | omega | (simp only [ByteArray.size_append]; omega) | (rw [show (4 : Nat) = (⟨#[79, 66, 74, 49]⟩ : ByteArray).size from rfl]; simp only [ByteArray.size_append]; omega) | (show ¬ (9223372036854775807 < _); simp only [ByteArray.size_append]; show ¬ (9223372036854775807 < 4 + _ + _ + _ + _); omega)); with_reducible rfl)
    rotate_left
    ·simp only [Act.put, List.setIfInBounds_toArray, List.set_cons_zero, List.set_cons_succ, i64_w, i32_w]
     rfl
    refine one_ (i := 9) (N := some 46) (fl 16 7167) rfl rfl (one_of HT_.out (by kernel_rfl)) (by decide) (fun K hK => ?_)
    refine goes_ Try.func78 (by kernel_rfl) rfl #[.int .i64 sy.f2, .int .i64 2] (by rfl) rfl rfl (by (try simp only [List.map_toArray, List.map_cons, List.map_nil]); first | done | rfl) ?_
    with_reducible refine (zqw.calls k1 sy.f2 2 u _ Bu.out).mono ?_
    rintro e w12 ⟨rfl, hb0⟩
    refine ⟨_, rfl, ?_⟩
    have hb := hb0
    have n1 := Aside0.mk (HU.out.step hb)
    have n2 := Aside0.mk (y06 BK.out hb)
    clear HU hb hb0 BK
    have HU := n1
    have BK := n2
    clear n1 n2
    refine hK.out _ _ ⟨(y07 BK.out 0).trans rfl, (y07 BK.out 1).trans rfl, (y07 BK.out 2).trans rfl, (y07 BK.out 3).trans rfl⟩ (fun hHeld => ?_)
    clear hK K
    refine no_ (N := some 46) ?_
    refine pure_ (i := 10) (N := some 47) (v := ?_) (a' := ?_) #[true, true, true, true, true, true, true, true, true, true, true, true, true, false, false, false] rfl rfl (any_of HT_.out (by kernel_rfl)) (fun _ _ _ h => h) (Or.inl ⟨by rfl, ?_⟩) ?_ ?_
    rotate_left
    ·intro w'
     go_simp
     first | with_reducible rfl | (refine (if_neg ?_).trans ?_; (first | omega | (simp only [ByteArray.size_append]; omega) | (rw [show (4 : Nat) = (⟨#[79, 66, 74, 49]⟩ : ByteArray).size from rfl]; simp only [ByteArray.size_append]; omega) | (show ¬ (9223372036854775807 < _); simp only [ByteArray.size_append]; show ¬ (9223372036854775807 < 4 + _ + _ + _ + _); omega)); with_reducible rfl)
    rotate_left
    ·simp only [Act.put, List.setIfInBounds_toArray, List.set_cons_zero, List.set_cons_succ, i64_w, i32_w]
     rfl
    refine one_ (i := 13) (N := some 50) (fl 16 16383) rfl rfl (one_of HT_.out (by kernel_rfl)) (by decide) (fun K hK => ?_)
    refine goes_ Try.func93 (by kernel_rfl) rfl #[.bool sy.f3] (by rfl) rfl rfl (by (try simp only [List.map_toArray, List.map_cons, List.map_nil]); first | done | rfl) ?_
    with_reducible refine (zqq.calls sy.f3 t _ Bt.out).mono ?_
    rintro e w13 ⟨rfl, hb0⟩
    refine ⟨_, rfl, ?_⟩
    have hb := drawn_below hb0
    have n1 := Aside0.mk (HU.out.step hb)
    have n2 := Aside0.mk (y06 BK.out hb)
    clear HU hb hb0 BK
    have HU := n1
    have BK := n2
    clear n1 n2
    refine hK.out _ _ ⟨(y07 BK.out 0).trans rfl, (y07 BK.out 1).trans rfl, (y07 BK.out 2).trans rfl, (y07 BK.out 3).trans rfl⟩ (fun hHeld => ?_)
    clear hK K
    refine no_ (N := some 50) ?_
    refine pure_ (i := 14) (N := some 51) (v := ?_) (a' := ?_) #[true, true, true, true, true, true, true, true, true, true, true, true, true, true, true, false] rfl rfl (any_of HT_.out (by kernel_rfl)) (fun _ _ _ h => h) (Or.inl ⟨by rfl, ?_⟩) ?_ ?_
    rotate_left
    ·intro w'
     go_simp
     first | with_reducible rfl | (refine (if_neg ?_).trans ?_; (first | omega | (simp only [ByteArray.size_append]; omega) | (rw [show (4 : Nat) = (⟨#[79, 66, 74, 49]⟩ : ByteArray).size from rfl]; simp only [ByteArray.size_append]; omega) | (show ¬ (9223372036854775807 < _); simp only [ByteArray.size_append]; show ¬ (9223372036854775807 < 4 + _ + _ + _ + _); omega)); with_reducible rfl)
    rotate_left
    ·simp only [Act.put, List.setIfInBounds_toArray, List.set_cons_zero, List.set_cons_succ, i64_w, i32_w]
     rfl
    refine last_ (i := 15) (N := some 52) (fl 16 65535) rfl rfl (one_of HT_.out (by kernel_rfl)) (by decide) (fun K hK => ?_)
    refine goes_ Try.func91 (by kernel_rfl) rfl #[.pointer (some ⟨b, 0, none⟩), .string (((p ++ q) ++ u) ++ t)] (by rfl) rfl rfl (by (try simp only [List.map_toArray, List.map_cons, List.map_nil]); first | done | rfl) ?_
    with_reducible refine (Try.Builder_WriteString b b (Lib.strCells a) (((p ++ q) ++ u) ++ t) _ HU.out.bu (HU.out.len HL.out) HU.out.le).mono ?_
    rintro e w14 ⟨rfl, hbu, hbb⟩
    refine ⟨_, rfl, ?_⟩
    have n1 := Aside0.mk (HU.out.write hbu hbb)
    clear HU hbu hbb BK
    have HU := n1
    clear n1
    refine hK.out _ _ ?_
    clear hK K
    refine no_ (N := some 52) ?_
    refine done_ (done_of HT_.out (by kernel_rfl)) ?_
    go_wp2
    go_roundg k1
    case measure => omega
    case rel => exact ⟨_, _, rfl, H', ⟨by have := HK1.out; omega⟩, HU⟩
   ·rw [if_neg c2] at H
    have c2b0 : decide (i < (l0_4.length : Int)) = false := decide_eq_false c2
    obtain rfl := Option.some.inj H
    clear H
    have hc : _ = some (Value.slice A0_5 l0_5.length c0_5) := (y07 HU.out.box 5).trans rfl
    go_wp2_with (first | ((with_reducible refine y0i (f := 78) rfl ?_); refine goesL_ (some 57) rfl rfl Try.func78 (by kernel_rfl) rfl #[.int .i64 (l0_5.length : Int), .int .i64 2] rfl (by (try simp only [List.map_toArray, List.map_cons, List.map_nil]); first | done | rfl) ?_; (with_reducible refine (zqw.calls k (l0_5.length : Int) 2 d _ B7.out).mono ?_); rintro e w8 ⟨rfl, hb0⟩; refine ⟨_, rfl, ?_⟩; have hb := hb0; have n1 := Aside0.mk (HU.out.step hb); clear HU hb hb0; have HU := n1; clear n1; have hc2 : _ = some (Value.slice A0_5 l0_5.length c0_5) := (y07 HU.out.box 5).trans rfl) | ((with_reducible refine y0i (f := 91) rfl ?_); refine goesL_ (some 58) rfl rfl Try.func91 (by kernel_rfl) rfl #[.pointer (some ⟨b, 0, none⟩), .string d] rfl (by (try simp only [List.map_toArray, List.map_cons, List.map_nil]); first | done | rfl) ?_; (with_reducible refine (Try.Builder_WriteString b b (Lib.strCells a) d _ HU.out.bu (HU.out.len HL3.out) HU.out.le).mono ?_); rintro e w9 ⟨rfl, hbu, hbb⟩; refine ⟨_, rfl, ?_⟩; have n1 := Aside0.mk (HU.out.write hbu hbb); clear HU hbu hbb; have HU := n1; clear n1; have hc3 : _ = some (Value.slice A0_5 l0_5.length c0_5) := (y07 HU.out.box 5).trans rfl))
    clear B6 B7 HL3 c2 c2b0
    go_loopg [62] k (fun kq vi w' => ∃ (a : ByteArray) (i : Int), vi = .int .i64 i ∧ Aside0 (zqs.l1 kq l0_5 a i = some r) ∧ Aside0 (kq ≤ k) ∧ Aside0 (BU w w' g b #[.string a0_0, .string a0_1, .string a0_2, .int .i64 a0_3, .slice A0_4 l0_4.length c0_4, .slice A0_5 l0_5.length c0_5] a))
    case atStart => exact ⟨_, 0, rfl, HH, ⟨Nat.le_refl _⟩, HU⟩
    case round =>
     clear HU hc3
     (try clear hc hc2)
     obtain ⟨a, i, rfl, HA, HK1, HU⟩ := hrel
     cases gk with
     | zero => exact absurd HA.out (by simp [zqs.l1])
     | succ k1 =>
      have H := HA.out
      clear HA
      simp only [zqs.l1] at H
      by_cases c2 : i < (l0_5.length : Int)
      ·rw [if_pos c2] at H
       have c2b0 : decide (i < (l0_5.length : Int)) = true := decide_eq_true c2
       obtain ⟨c3, H⟩ := ite_some H
       have c3b0 : decide (0 ≤ i) = true := decide_eq_true c3
       obtain ⟨ad, ead, hx_0, hx_1, hx_2, hx_3, hx_4⟩ := at_T43 HR5.out i c3 c2
       cases ead
       replace hx_0 := (HU.out.below.cell (World.block_lt_of_cell? w _ hx_0)).trans hx_0
       replace hx_1 := (HU.out.below.cell (World.block_lt_of_cell? w _ hx_1)).trans hx_1
       replace hx_2 := (HU.out.below.cell (World.block_lt_of_cell? w _ hx_2)).trans hx_2
       replace hx_3 := (HU.out.below.cell (World.block_lt_of_cell? w _ hx_3)).trans hx_3
       replace hx_4 := (HU.out.below.cell (World.block_lt_of_cell? w _ hx_4)).trans hx_4
       generalize hsym : y0l l0_5 i = sy at *
       have c2' := eq_true c2
       have c3' := eq_true c3
       obtain ⟨p, Ap, H⟩ := Option.bind_eq_some_iff.mp H
       obtain ⟨q, Aq, H⟩ := Option.bind_eq_some_iff.mp H
       obtain ⟨u, Au, H⟩ := Option.bind_eq_some_iff.mp H
       obtain ⟨v, Av, H⟩ := Option.bind_eq_some_iff.mp H
       obtain ⟨t, At, H⟩ := Option.bind_eq_some_iff.mp H
       obtain ⟨hl, H⟩ := ite_some H
       have HL := Aside0.mk hl
       have H' := Aside0.mk H
       clear H
       have Bp := Aside0.mk Ap
       clear Ap
       have Bq := Aside0.mk Aq
       clear Aq
       have Bu := Aside0.mk Au
       clear Au
       have Bv := Aside0.mk Av
       clear Av
       have Bt := Aside0.mk At
       clear At
       have hs1 : a.size + (p.size + q.size + u.size + v.size + t.size) ≤ 140737488355328 := by have h_ := hl; simp only [ByteArray.size_append] at h_; exact h_
       clear hl
       go_wp2_with (first | ((with_reducible refine y0j (N := 7) rfl ?_); refine y0e ?hg (N := 7) ?hd (cs := #[.int .i64 0, .int .i64 0, .int .i64 0, .string (⟨#[]⟩ : ByteArray), .bool false]) (t := 43) ?hr ?_; (case hd => rfl); (case hg => rfl); (case hr => first | (go_simp; done) | (go_simp; rfl)); intro gb hg wb hbox hb; have HS := Aside0.mk hb; have BX := Aside0.mk hbox; have GE := Aside0.mk hg; have hc_0 := (y07 BX.out 0).trans rfl; have hf_0 := y0b BX.out 0; have hc_1 := (y07 BX.out 1).trans rfl; have hf_1 := y0b BX.out 1; have hc_2 := (y07 BX.out 2).trans rfl; have hf_2 := y0b BX.out 2; have hc_3 := (y07 BX.out 3).trans rfl; have hf_3 := y0b BX.out 3; have hc_4 := (y07 BX.out 4).trans rfl; have hf_4 := y0b BX.out 4; clear hg hb hbox))
       have n1 : Aside0 (BU w (World.drew (World.setCell (World.setCell (World.setCell (World.setCell (World.setCell wb ⟨gb, 0, none⟩ (.int .i64 sy.f0)) ⟨gb, 1, none⟩ (.int .i64 sy.f1)) ⟨gb, 2, none⟩ (.int .i64 sy.f2)) ⟨gb, 3, none⟩ (.string sy.f3)) ⟨gb, 4, none⟩ (.bool sy.f4))) g b _ a) := ⟨HU.out.step (Below.drew (Below.setCell (Below.setCell (Below.setCell (Below.setCell (Below.setCell HS.out (p := ⟨gb, 0, none⟩) (by rw [GE.out]; exact Nat.le_refl _) _) (p := ⟨gb, 1, none⟩) (by rw [GE.out]; exact Nat.le_refl _) _) (p := ⟨gb, 2, none⟩) (by rw [GE.out]; exact Nat.le_refl _) _) (p := ⟨gb, 3, none⟩) (by rw [GE.out]; exact Nat.le_refl _) _) (p := ⟨gb, 4, none⟩) (by rw [GE.out]; exact Nat.le_refl _) _))⟩
       have n2 : Aside0 ((World.heap (World.drew (World.setCell (World.setCell (World.setCell (World.setCell (World.setCell wb ⟨gb, 0, none⟩ (.int .i64 sy.f0)) ⟨gb, 1, none⟩ (.int .i64 sy.f1)) ⟨gb, 2, none⟩ (.int .i64 sy.f2)) ⟨gb, 3, none⟩ (.string sy.f3)) ⟨gb, 4, none⟩ (.bool sy.f4))))[gb]? = some (.cells #[.int .i64 sy.f0, .int .i64 sy.f1, .int .i64 sy.f2, .string sy.f3, .bool sy.f4] 43 (0, 0))) := ⟨(y0d (y0d (y0d (y0d (y0d BX.out 0 (.int .i64 sy.f0) rfl) 1 (.int .i64 sy.f1) rfl) 2 (.int .i64 sy.f2) rfl) 3 (.string sy.f3) rfl) 4 (.bool sy.f4) rfl)⟩
       clear HU HS BX GE hc_0 hf_0 hc_1 hf_1 hc_2 hf_2 hc_3 hf_3 hc_4 hf_4
       have HU := n1
       have BK := n2
       clear n1 n2
       refine start_ (n := 20) (S := fun w' => w'.cell? ⟨gb, 0, none⟩ = some (.int .i64 sy.f0) ∧ w'.cell? ⟨gb, 1, none⟩ = some (.int .i64 sy.f1) ∧ w'.cell? ⟨gb, 2, none⟩ = some (.int .i64 sy.f2) ∧ w'.cell? ⟨gb, 3, none⟩ = some (.string sy.f3) ∧ w'.cell? ⟨gb, 4, none⟩ = some (.bool sy.f4)) (ds := [19]) #[false, false, false, false, false, false, false, false, false, false, false, false, false, false, false, false, false, false, false, false] (by kernel_rfl) rfl rfl ⟨(y07 BK.out 0).trans rfl, (y07 BK.out 1).trans rfl, (y07 BK.out 2).trans rfl, (y07 BK.out 3).trans rfl, (y07 BK.out 4).trans rfl⟩ (fun hHeld => ?_)
       refine with_tabW zqs.tab13 zqs.bits13 (fun HT_ HW_ => ?_)
       refine pure_ (i := 0) (N := some 66) (v := ?_) (a' := ?_) #[true, false, false, false, false, false, false, false, false, false, false, false, false, false, false, false, false, false, false, false] rfl rfl (any_of HT_.out (by kernel_rfl)) (fun _ _ _ h => h) (Or.inl ⟨by rfl, ?_⟩) ?_ ?_
       rotate_left
       ·intro w'
        go_simp
        first | with_reducible rfl | (refine (if_neg ?_).trans ?_; (first | omega | (simp only [ByteArray.size_append]; omega) | (rw [show (4 : Nat) = (⟨#[79, 66, 74, 49]⟩ : ByteArray).size from rfl]; simp only [ByteArray.size_append]; omega) | (show ¬ (9223372036854775807 < _); simp only [ByteArray.size_append]; show ¬ (9223372036854775807 < 4 + _ + _ + _ + _); omega)); with_reducible rfl)
       rotate_left
       ·simp only [Act.put, List.setIfInBounds_toArray, List.set_cons_zero, List.set_cons_succ, i64_w, i32_w]
        rfl
       refine ta_ 1 (some 67) (fl 20 3) rfl rfl HT_ HW_ hHeld ?_
       refine pure_ (i := 3) (N := some 69) (v := ?_) (a' := ?_) #[true, true, false, true, false, false, false, false, false, false, false, false, false, false, false, false, false, false, false, false] rfl rfl (any_of HT_.out (by kernel_rfl)) (fun _ _ _ h => h) (Or.inl ⟨by rfl, ?_⟩) ?_ ?_
       rotate_left
       ·intro w'
        go_simp
        first | with_reducible rfl | (refine (if_neg ?_).trans ?_; (first | omega | (simp only [ByteArray.size_append]; omega) | (rw [show (4 : Nat) = (⟨#[79, 66, 74, 49]⟩ : ByteArray).size from rfl]; simp only [ByteArray.size_append]; omega) | (show ¬ (9223372036854775807 < _); simp only [ByteArray.size_append]; show ¬ (9223372036854775807 < 4 + _ + _ + _ + _); omega)); with_reducible rfl)
       rotate_left
       ·simp only [Act.put, List.setIfInBounds_toArray, List.set_cons_zero, List.set_cons_succ, i64_w, i32_w]
        rfl
       refine ta_ 4 (some 70) (fl 20 27) rfl rfl HT_ HW_ hHeld ?_
       refine pure_ (i := 7) (N := some 73) (v := ?_) (a' := ?_) #[true, true, false, true, true, false, false, true, false, false, false, false, false, false, false, false, false, false, false, false] rfl rfl (any_of HT_.out (by kernel_rfl)) (fun _ _ _ h => h) (Or.inl ⟨by rfl, ?_⟩) ?_ ?_
       rotate_left
       ·intro w'
        go_simp
        first | with_reducible rfl | (refine (if_neg ?_).trans ?_; (first | omega | (simp only [ByteArray.size_append]; omega) | (rw [show (4 : Nat) = (⟨#[79, 66, 74, 49]⟩ : ByteArray).size from rfl]; simp only [ByteArray.size_append]; omega) | (show ¬ (9223372036854775807 < _); simp only [ByteArray.size_append]; show ¬ (9223372036854775807 < 4 + _ + _ + _ + _); omega)); with_reducible rfl)
       rotate_left
       ·simp only [Act.put, List.setIfInBounds_toArray, List.set_cons_zero, List.set_cons_succ, i64_w, i32_w]
        rfl
       refine ta_ 8 (some 74) (fl 20 411) rfl rfl HT_ HW_ hHeld ?_
       refine pure_ (i := 11) (N := some 77) (v := ?_) (a' := ?_) #[true, true, false, true, true, false, false, true, true, false, false, true, false, false, false, false, false, false, false, false] rfl rfl (any_of HT_.out (by kernel_rfl)) (fun _ _ _ h => h) (Or.inl ⟨by rfl, ?_⟩) ?_ ?_
       rotate_left
       ·intro w'
        go_simp
        first | with_reducible rfl | (refine (if_neg ?_).trans ?_; (first | omega | (simp only [ByteArray.size_append]; omega) | (rw [show (4 : Nat) = (⟨#[79, 66, 74, 49]⟩ : ByteArray).size from rfl]; simp only [ByteArray.size_append]; omega) | (show ¬ (9223372036854775807 < _); simp only [ByteArray.size_append]; show ¬ (9223372036854775807 < 4 + _ + _ + _ + _); omega)); with_reducible rfl)
       rotate_left
       ·simp only [Act.put, List.setIfInBounds_toArray, List.set_cons_zero, List.set_cons_succ, i64_w, i32_w]
        rfl
       refine ta_ 12 (some 78) (fl 20 6555) rfl rfl HT_ HW_ hHeld ?_
       refine pure_ (i := 15) (N := some 81) (v := ?_) (a' := ?_) #[true, true, false, true, true, false, false, true, true, false, false, true, true, false, false, true, false, false, false, false] rfl rfl (any_of HT_.out (by kernel_rfl)) (fun _ _ _ h => h) (Or.inl ⟨by rfl, ?_⟩) ?_ ?_
       rotate_left
       ·intro w'
        go_simp
        first | with_reducible rfl | (refine (if_neg ?_).trans ?_; (first | omega | (simp only [ByteArray.size_append]; omega) | (rw [show (4 : Nat) = (⟨#[79, 66, 74, 49]⟩ : ByteArray).size from rfl]; simp only [ByteArray.size_append]; omega) | (show ¬ (9223372036854775807 < _); simp only [ByteArray.size_append]; show ¬ (9223372036854775807 < 4 + _ + _ + _ + _); omega)); with_reducible rfl)
       rotate_left
       ·simp only [Act.put, List.setIfInBounds_toArray, List.set_cons_zero, List.set_cons_succ, i64_w, i32_w]
        rfl
       refine ta_ 16 (some 82) (fl 20 104859) rfl rfl HT_ HW_ hHeld ?_
       refine one_ (i := 2) (N := some 68) (fl 20 104863) rfl rfl (one_of HT_.out (by kernel_rfl)) (by decide) (fun K hK => ?_)
       refine goes_ Try.func78 (by kernel_rfl) rfl #[.int .i64 sy.f0, .int .i64 1] (by rfl) rfl rfl (by (try simp only [List.map_toArray, List.map_cons, List.map_nil]); first | done | rfl) ?_
       with_reducible refine (zqw.calls k1 sy.f0 1 p _ Bp.out).mono ?_
       rintro e w20 ⟨rfl, hb0⟩
       refine ⟨_, rfl, ?_⟩
       have hb := hb0
       have n1 := Aside0.mk (HU.out.step hb)
       have n2 := Aside0.mk (y06 BK.out hb)
       clear HU hb hb0 BK
       have HU := n1
       have BK := n2
       clear n1 n2
       refine hK.out _ _ ⟨(y07 BK.out 0).trans rfl, (y07 BK.out 1).trans rfl, (y07 BK.out 2).trans rfl, (y07 BK.out 3).trans rfl, (y07 BK.out 4).trans rfl⟩ (fun hHeld => ?_)
       clear hK K
       refine no_ (N := some 68) ?_
       refine one_ (i := 5) (N := some 71) (fl 20 104895) rfl rfl (one_of HT_.out (by kernel_rfl)) (by decide) (fun K hK => ?_)
       refine goes_ Try.func78 (by kernel_rfl) rfl #[.int .i64 sy.f1, .int .i64 2] (by rfl) rfl rfl (by (try simp only [List.map_toArray, List.map_cons, List.map_nil]); first | done | rfl) ?_
       with_reducible refine (zqw.calls k1 sy.f1 2 q _ Bq.out).mono ?_
       rintro e w21 ⟨rfl, hb0⟩
       refine ⟨_, rfl, ?_⟩
       have hb := hb0
       have n1 := Aside0.mk (HU.out.step hb)
       have n2 := Aside0.mk (y06 BK.out hb)
       clear HU hb hb0 BK
       have HU := n1
       have BK := n2
       clear n1 n2
       refine hK.out _ _ ⟨(y07 BK.out 0).trans rfl, (y07 BK.out 1).trans rfl, (y07 BK.out 2).trans rfl, (y07 BK.out 3).trans rfl, (y07 BK.out 4).trans rfl⟩ (fun hHeld => ?_)
       clear hK K
       refine no_ (N := some 71) ?_
       refine pure_ (i := 6) (N := some 72) (v := ?_) (a' := ?_) #[true, true, true, true, true, true, true, true, true, false, false, true, true, false, false, true, true, false, false, false] rfl rfl (any_of HT_.out (by kernel_rfl)) (fun _ _ _ h => h) (Or.inl ⟨by rfl, ?_⟩) ?_ ?_
       rotate_left
       ·intro w'
        go_simp
        first | with_reducible rfl | (refine (if_neg ?_).trans ?_; (first | omega | (simp only [ByteArray.size_append]; omega) | (rw [show (4 : Nat) = (⟨#[79, 66, 74, 49]⟩ : ByteArray).size from rfl]; simp only [ByteArray.size_append]; omega) | (show ¬ (9223372036854775807 < _); simp only [ByteArray.size_append]; show ¬ (9223372036854775807 < 4 + _ + _ + _ + _); omega)); with_reducible rfl)
       rotate_left
       ·simp only [Act.put, List.setIfInBounds_toArray, List.set_cons_zero, List.set_cons_succ, i64_w, i32_w]
        rfl
       refine one_ (i := 9) (N := some 75) (fl 20 105471) rfl rfl (one_of HT_.out (by kernel_rfl)) (by decide) (fun K hK => ?_)
       refine goes_ Try.func78 (by kernel_rfl) rfl #[.int .i64 sy.f2, .int .i64 1] (by rfl) rfl rfl (by (try simp only [List.map_toArray, List.map_cons, List.map_nil]); first | done | rfl) ?_
       with_reducible refine (zqw.calls k1 sy.f2 1 u _ Bu.out).mono ?_
       rintro e w22 ⟨rfl, hb0⟩
       refine ⟨_, rfl, ?_⟩
       have hb := hb0
       have n1 := Aside0.mk (HU.out.step hb)
       have n2 := Aside0.mk (y06 BK.out hb)
       clear HU hb hb0 BK
       have HU := n1
       have BK := n2
       clear n1 n2
       refine hK.out _ _ ⟨(y07 BK.out 0).trans rfl, (y07 BK.out 1).trans rfl, (y07 BK.out 2).trans rfl, (y07 BK.out 3).trans rfl, (y07 BK.out 4).trans rfl⟩ (fun hHeld => ?_)
       clear hK K
       refine no_ (N := some 75) ?_
       refine pure_ (i := 10) (N := some 76) (v := ?_) (a' := ?_) #[true, true, true, true, true, true, true, true, true, true, true, true, true, false, false, true, true, false, false, false] rfl rfl (any_of HT_.out (by kernel_rfl)) (fun _ _ _ h => h) (Or.inl ⟨by rfl, ?_⟩) ?_ ?_
       rotate_left
       ·intro w'
        go_simp
        first | with_reducible rfl | (refine (if_neg ?_).trans ?_; (first | omega | (simp only [ByteArray.size_append]; omega) | (rw [show (4 : Nat) = (⟨#[79, 66, 74, 49]⟩ : ByteArray).size from rfl]; simp only [ByteArray.size_append]; omega) | (show ¬ (9223372036854775807 < _); simp only [ByteArray.size_append]; show ¬ (9223372036854775807 < 4 + _ + _ + _ + _); omega)); with_reducible rfl)
       rotate_left
       ·simp only [Act.put, List.setIfInBounds_toArray, List.set_cons_zero, List.set_cons_succ, i64_w, i32_w]
        rfl
       refine one_ (i := 13) (N := some 79) (fl 20 114687) rfl rfl (one_of HT_.out (by kernel_rfl)) (by decide) (fun K hK => ?_)
       refine goes_ Try.func92 (by kernel_rfl) rfl #[.string sy.f3] (by rfl) rfl rfl (by (try simp only [List.map_toArray, List.map_cons, List.map_nil]); first | done | rfl) ?_
       with_reducible refine (zqn.calls k1 sy.f3 v _ Bv.out).mono ?_
       rintro e w23 ⟨rfl, hb0⟩
       refine ⟨_, rfl, ?_⟩
       have hb := hb0
       have n1 := Aside0.mk (HU.out.step hb)
       have n2 := Aside0.mk (y06 BK.out hb)
       clear HU hb hb0 BK
       have HU := n1
       have BK := n2
       clear n1 n2
       refine hK.out _ _ ⟨(y07 BK.out 0).trans rfl, (y07 BK.out 1).trans rfl, (y07 BK.out 2).trans rfl, (y07 BK.out 3).trans rfl, (y07 BK.out 4).trans rfl⟩ (fun hHeld => ?_)
       clear hK K
       refine no_ (N := some 79) ?_
       refine pure_ (i := 14) (N := some 80) (v := ?_) (a' := ?_) #[true, true, true, true, true, true, true, true, true, true, true, true, true, true, true, true, true, false, false, false] rfl rfl (any_of HT_.out (by kernel_rfl)) (fun _ _ _ h => h) (Or.inl ⟨by rfl, ?_⟩) ?_ ?_
       rotate_left
       ·intro w'
        go_simp
        first | with_reducible rfl | (refine (if_neg ?_).trans ?_; (first | omega | (simp only [ByteArray.size_append]; omega) | (rw [show (4 : Nat) = (⟨#[79, 66, 74, 49]⟩ : ByteArray).size from rfl]; simp only [ByteArray.size_append]; omega) | (show ¬ (9223372036854775807 < _); simp only [ByteArray.size_append]; show ¬ (9223372036854775807 < 4 + _ + _ + _ + _); omega)); with_reducible rfl)
       rotate_left
       ·simp only [Act.put, List.setIfInBounds_toArray, List.set_cons_zero, List.set_cons_succ, i64_w, i32_w]
        rfl
       refine one_ (i := 17) (N := some 83) (fl 20 262143) rfl rfl (one_of HT_.out (by kernel_rfl)) (by decide) (fun K hK => ?_)
       refine goes_ Try.func93 (by kernel_rfl) rfl #[.bool sy.f4] (by rfl) rfl rfl (by (try simp only [List.map_toArray, List.map_cons, List.map_nil]); first | done | rfl) ?_
       with_reducible refine (zqq.calls sy.f4 t _ Bt.out).mono ?_
       rintro e w24 ⟨rfl, hb0⟩
       refine ⟨_, rfl, ?_⟩
       have hb := drawn_below hb0
       have n1 := Aside0.mk (HU.out.step hb)
       have n2 := Aside0.mk (y06 BK.out hb)
       clear HU hb hb0 BK
       have HU := n1
       have BK := n2
       clear n1 n2
       refine hK.out _ _ ⟨(y07 BK.out 0).trans rfl, (y07 BK.out 1).trans rfl, (y07 BK.out 2).trans rfl, (y07 BK.out 3).trans rfl, (y07 BK.out 4).trans rfl⟩ (fun hHeld => ?_)
       clear hK K
       refine no_ (N := some 83) ?_
       refine pure_ (i := 18) (N := some 84) (v := ?_) (a' := ?_) #[true, true, true, true, true, true, true, true, true, true, true, true, true, true, true, true, true, true, true, false] rfl rfl (any_of HT_.out (by kernel_rfl)) (fun _ _ _ h => h) (Or.inl ⟨by rfl, ?_⟩) ?_ ?_
       rotate_left
       ·intro w'
        go_simp
        first | with_reducible rfl | (refine (if_neg ?_).trans ?_; (first | omega | (simp only [ByteArray.size_append]; omega) | (rw [show (4 : Nat) = (⟨#[79, 66, 74, 49]⟩ : ByteArray).size from rfl]; simp only [ByteArray.size_append]; omega) | (show ¬ (9223372036854775807 < _); simp only [ByteArray.size_append]; show ¬ (9223372036854775807 < 4 + _ + _ + _ + _); omega)); with_reducible rfl)
       rotate_left
       ·simp only [Act.put, List.setIfInBounds_toArray, List.set_cons_zero, List.set_cons_succ, i64_w, i32_w]
        rfl
       refine last_ (i := 19) (N := some 85) (fl 20 1048575) rfl rfl (one_of HT_.out (by kernel_rfl)) (by decide) (fun K hK => ?_)
       refine goes_ Try.func91 (by kernel_rfl) rfl #[.pointer (some ⟨b, 0, none⟩), .string ((((p ++ q) ++ u) ++ v) ++ t)] (by rfl) rfl rfl (by (try simp only [List.map_toArray, List.map_cons, List.map_nil]); first | done | rfl) ?_
       with_reducible refine (Try.Builder_WriteString b b (Lib.strCells a) ((((p ++ q) ++ u) ++ v) ++ t) _ HU.out.bu (HU.out.len HL.out) HU.out.le).mono ?_
       rintro e w25 ⟨rfl, hbu, hbb⟩
       refine ⟨_, rfl, ?_⟩
       have n1 := Aside0.mk (HU.out.write hbu hbb)
       clear HU hbu hbb BK
       have HU := n1
       clear n1
       refine hK.out _ _ ?_
       clear hK K
       refine no_ (N := some 85) ?_
       refine done_ (done_of HT_.out (by kernel_rfl)) ?_
       go_wp2
       go_roundg k1
       case measure => omega
       case rel => exact ⟨_, _, rfl, H', ⟨by have := HK1.out; omega⟩, HU⟩
      ·rw [if_neg c2] at H
       have c2b0 : decide (i < (l0_5.length : Int)) = false := decide_eq_false c2
       obtain rfl := Option.some.inj H
       clear H
       go_wp2_with (((with_reducible refine y0i (f := 94) rfl ?_); refine goesL_ (some 87) rfl rfl Try.func94 (by kernel_rfl) rfl #[.pointer (some ⟨b, 0, none⟩)] rfl (by (try simp only [List.map_toArray, List.map_cons, List.map_nil]); first | done | rfl) ?_; (with_reducible refine HU.out.str.mono ?_); rintro e w30 ⟨rfl, hb⟩; refine ⟨_, rfl, ?_⟩; have HE := Aside0.mk hb; clear hb))
       go_ret
       exact ⟨rfl, HE.out⟩
end Go.Proofs.Ytenlmckahaniiaa.K
end
