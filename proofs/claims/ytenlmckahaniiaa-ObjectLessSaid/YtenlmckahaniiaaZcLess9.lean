/- Lemmas for several laws: what their proofs need of this seat's texts, in one place. -/
import Derived.Test.YtenlmckahaniiaaZcLess8
set_option linter.unusedVariables false
set_option linter.unusedSimpArgs false
set_option linter.unusedSectionVars false
set_option maxHeartbeats 8000000
set_option maxRecDepth 100000
section
namespace Go.Proofs.Ytenlmckahaniiaa.K
open Go.RowKit Go.Proofs.YtenlmckahaniiaaW.PrintWords Go.Proofs.YtenlmckahaniiaaW.PrintLast
mutual
def zqj.l0 : Nat → ByteArray → Int → ByteArray → Int → Bool → ByteArray → ByteArray → ByteArray → Int → List (S62) → Option (ByteArray × ByteArray × ByteArray × Int × (List (S62)) × (List (S43)) × Int)
  | 0, _, _, _, _, _, _, _, _, _, _ => none
  | k + 1, x4, x8, x195000, x195001, x195002, x212000, x212001, x212002, x212003, x212004 => if x8 > 0 then (zqj.j1 k x4 x8 (!x195002) x195000 x195001 x195002 x212000 x212001 x212002 x212003 x212004) else (zqj.j1 k x4 x8 false x195000 x195001 x195002 x212000 x212001 x212002 x212003 x212004)
def zqj.j1 : Nat → ByteArray → Int → Bool → ByteArray → Int → Bool → ByteArray → ByteArray → ByteArray → Int → List (S62) → Option (ByteArray × ByteArray × ByteArray × Int × (List (S62)) × (List (S43)) × Int)
  | 0, _, _, _, _, _, _, _, _, _, _, _ => none
  | k + 1, x4, x8, x45, x195000, x195001, x195002, x212000, x212001, x212002, x212003, x212004 => if x45 = true then ((zqb.f k x195000 x195001 x195002).bind fun bt216 => ((zqg.f k bt216.2.1 bt216.2.2.1 bt216.2.2.2 1).bind fun bt220 => ((zqg.f k bt220.2.1 bt220.2.2.1 bt220.2.2.2 2).bind fun bt224 => ((zqg.f k bt224.2.1 bt224.2.2.1 bt224.2.2.2 1).bind fun bt228 => (if x212004.length < 3518437208883 then (zqj.l0 k x4 (wrap64 (x8 - 1)) bt228.2.1 bt228.2.2.1 bt228.2.2.2 x212000 x212001 x212002 x212003 (x212004 ++ [(⟨bt216.1, bt220.1, bt224.1, (bt228.1 == 1)⟩ : S62)])) else (none)))))) else ((zqg.f k x195000 x195001 x195002 2).bind fun bt235 => (zqj.l1 k x4 bt235.1 bt235.2.1 bt235.2.2.1 bt235.2.2.2 x212000 x212001 x212002 x212003 x212004 ([] : List (S43))))
def zqj.l1 : Nat → ByteArray → Int → ByteArray → Int → Bool → ByteArray → ByteArray → ByteArray → Int → List (S62) → List (S43) → Option (ByteArray × ByteArray × ByteArray × Int × (List (S62)) × (List (S43)) × Int)
  | 0, _, _, _, _, _, _, _, _, _, _, _ => none
  | k + 1, x4, x9, x195000, x195001, x195002, x212000, x212001, x212002, x212003, x212004, x212005 => if x9 > 0 then (zqj.j3 k x4 x9 (!x195002) x195000 x195001 x195002 x212000 x212001 x212002 x212003 x212004 x212005) else (zqj.j3 k x4 x9 false x195000 x195001 x195002 x212000 x212001 x212002 x212003 x212004 x212005)
def zqj.j3 : Nat → ByteArray → Int → Bool → ByteArray → Int → Bool → ByteArray → ByteArray → ByteArray → Int → List (S62) → List (S43) → Option (ByteArray × ByteArray × ByteArray × Int × (List (S62)) × (List (S43)) × Int)
  | 0, _, _, _, _, _, _, _, _, _, _, _, _ => none
  | k + 1, x4, x9, x73, x195000, x195001, x195002, x212000, x212001, x212002, x212003, x212004, x212005 => if x73 = true then ((zqg.f k x195000 x195001 x195002 1).bind fun bt239 => ((zqg.f k bt239.2.1 bt239.2.2.1 bt239.2.2.2 2).bind fun bt243 => ((zqg.f k bt243.2.1 bt243.2.2.1 bt243.2.2.2 1).bind fun bt247 => ((zqb.f k bt247.2.1 bt247.2.2.1 bt247.2.2.2).bind fun bt251 => ((zqg.f k bt251.2.1 bt251.2.2.1 bt251.2.2.2 1).bind fun bt255 => (if x212005.length < 2932031007402 then (zqj.l1 k x4 (wrap64 (x9 - 1)) bt255.2.1 bt255.2.2.1 bt255.2.2.2 x212000 x212001 x212002 x212003 x212004 (x212005 ++ [(⟨bt239.1, bt243.1, bt247.1, bt251.1, (bt255.1 == 1)⟩ : S43)])) else (none))))))) else (if x195002 = true then (some ((⟨#[]⟩ : ByteArray), (⟨#[]⟩ : ByteArray), (⟨#[]⟩ : ByteArray), 0, ([] : List (S62)), ([] : List (S43)), 9)) else ((zqo.f k x212000 x212001 x212002 x212003 x212004 x212005).bind fun t262 => (if t262 = 0 then ((zqs.f k x212000 x212001 x212002 x212003 x212004 x212005).bind fun t263 => (if t263.toList = x4.toList then (some (x212000, x212001, x212002, x212003, x212004, x212005, 0)) else (some ((⟨#[]⟩ : ByteArray), (⟨#[]⟩ : ByteArray), (⟨#[]⟩ : ByteArray), 0, ([] : List (S62)), ([] : List (S43)), 9)))) else (some ((⟨#[]⟩ : ByteArray), (⟨#[]⟩ : ByteArray), (⟨#[]⟩ : ByteArray), 0, ([] : List (S62)), ([] : List (S43)), 9)))))
end
def zqj.f (k : Nat) (a0 : ByteArray) : Option (ByteArray × ByteArray × ByteArray × Int × (List (S62)) × (List (S43)) × Int) := (zqt.f k a0).bind fun bt191 => (if bt191.2 = 0 then ((zqh.f bt191.1 (⟨#[79, 66, 74, 49]⟩ : ByteArray)).bind fun t193 => (if t193 = true then ((zqb.f k bt191.1 4 false).bind fun bt195 => ((zqb.f k bt195.2.1 bt195.2.2.1 bt195.2.2.2).bind fun bt199 => ((zqb.f k bt199.2.1 bt199.2.2.1 bt199.2.2.2).bind fun bt203 => ((zqg.f k bt203.2.1 bt203.2.2.1 bt203.2.2.2 2).bind fun bt207 => ((zqg.f k bt207.2.1 bt207.2.2.1 bt207.2.2.2 2).bind fun bt212 => (zqj.l0 k bt191.1 bt212.1 bt212.2.1 bt212.2.2.1 bt212.2.2.2 bt195.1 bt199.1 bt203.1 bt207.1 ([] : List (S62)))))))) else (some ((⟨#[]⟩ : ByteArray), (⟨#[]⟩ : ByteArray), (⟨#[]⟩ : ByteArray), 0, ([] : List (S62)), ([] : List (S43)), 9)))) else (some ((⟨#[]⟩ : ByteArray), (⟨#[]⟩ : ByteArray), (⟨#[]⟩ : ByteArray), 0, ([] : List (S62)), ([] : List (S43)), bt191.2)))
theorem zqj.mono_l : ∀ k, (∀ y0 y1 y2 y3 y4 y5 y6 y7 y8 y9, LeO (zqj.l0 k y0 y1 y2 y3 y4 y5 y6 y7 y8 y9) (zqj.l0 (k + 1) y0 y1 y2 y3 y4 y5 y6 y7 y8 y9)) ∧ (∀ y0 y1 y2 y3 y4 y5 y6 y7 y8 y9 y10, LeO (zqj.j1 k y0 y1 y2 y3 y4 y5 y6 y7 y8 y9 y10) (zqj.j1 (k + 1) y0 y1 y2 y3 y4 y5 y6 y7 y8 y9 y10)) ∧ (∀ y0 y1 y2 y3 y4 y5 y6 y7 y8 y9 y10, LeO (zqj.l1 k y0 y1 y2 y3 y4 y5 y6 y7 y8 y9 y10) (zqj.l1 (k + 1) y0 y1 y2 y3 y4 y5 y6 y7 y8 y9 y10)) ∧ (∀ y0 y1 y2 y3 y4 y5 y6 y7 y8 y9 y10 y11, LeO (zqj.j3 k y0 y1 y2 y3 y4 y5 y6 y7 y8 y9 y10 y11) (zqj.j3 (k + 1) y0 y1 y2 y3 y4 y5 y6 y7 y8 y9 y10 y11))
 | 0 => ⟨fun _ _ _ _ _ _ _ _ _ _ r h => by simp [zqj.l0] at h, fun _ _ _ _ _ _ _ _ _ _ _ r h => by simp [zqj.j1] at h, fun _ _ _ _ _ _ _ _ _ _ _ r h => by simp [zqj.l1] at h, fun _ _ _ _ _ _ _ _ _ _ _ _ r h => by simp [zqj.j3] at h⟩
 | k + 1 => by
  obtain ⟨ih0, ih1, ih2, ih3⟩ := zqj.mono_l k
  refine ⟨?_, ?_, ?_, ?_⟩
  ·intro y0 y1 y2 y3 y4 y5 y6 y7 y8 y9
   unfold zqj.l0
   repeat' first
   | (with_reducible exact ih0 _ _ _ _ _ _ _ _ _ _)
   | (with_reducible exact ih1 _ _ _ _ _ _ _ _ _ _ _)
   | (with_reducible exact ih2 _ _ _ _ _ _ _ _ _ _ _)
   | (with_reducible exact ih3 _ _ _ _ _ _ _ _ _ _ _ _)
   | (with_reducible exact zqo.mono _ _ _ _ _ _ _)
   | (with_reducible exact zqs.mono _ _ _ _ _ _ _)
   | (with_reducible exact zqg.mono _ _ _ _ _)
   | (with_reducible exact zqb.mono _ _ _ _)
   | (with_reducible exact zqt.mono _ _)
   | (with_reducible exact LeO.refl _)
   | (with_reducible exact LeO.none _)
   | (with_reducible refine LeO.ite ?_ ?_)
   | (with_reducible refine LeO.bind ?_ (fun _ => ?_))
   | exact ih0 _ _ _ _ _ _ _ _ _ _
   | exact ih1 _ _ _ _ _ _ _ _ _ _ _
   | exact ih2 _ _ _ _ _ _ _ _ _ _ _
   | exact ih3 _ _ _ _ _ _ _ _ _ _ _ _
   | exact zqo.mono _ _ _ _ _ _ _
   | exact zqs.mono _ _ _ _ _ _ _
   | exact zqg.mono _ _ _ _ _
   | exact zqb.mono _ _ _ _
   | exact zqt.mono _ _
   | exact LeO.none _
   | refine LeO.ite ?_ ?_
   | refine LeO.bind ?_ (fun _ => ?_)
  ·intro y0 y1 y2 y3 y4 y5 y6 y7 y8 y9 y10
   unfold zqj.j1
   repeat' first
   | (with_reducible exact ih0 _ _ _ _ _ _ _ _ _ _)
   | (with_reducible exact ih1 _ _ _ _ _ _ _ _ _ _ _)
   | (with_reducible exact ih2 _ _ _ _ _ _ _ _ _ _ _)
   | (with_reducible exact ih3 _ _ _ _ _ _ _ _ _ _ _ _)
   | (with_reducible exact zqo.mono _ _ _ _ _ _ _)
   | (with_reducible exact zqs.mono _ _ _ _ _ _ _)
   | (with_reducible exact zqg.mono _ _ _ _ _)
   | (with_reducible exact zqb.mono _ _ _ _)
   | (with_reducible exact zqt.mono _ _)
   | (with_reducible exact LeO.refl _)
   | (with_reducible exact LeO.none _)
   | (with_reducible refine LeO.ite ?_ ?_)
   | (with_reducible refine LeO.bind ?_ (fun _ => ?_))
   | exact ih0 _ _ _ _ _ _ _ _ _ _
   | exact ih1 _ _ _ _ _ _ _ _ _ _ _
   | exact ih2 _ _ _ _ _ _ _ _ _ _ _
   | exact ih3 _ _ _ _ _ _ _ _ _ _ _ _
   | exact zqo.mono _ _ _ _ _ _ _
   | exact zqs.mono _ _ _ _ _ _ _
   | exact zqg.mono _ _ _ _ _
   | exact zqb.mono _ _ _ _
   | exact zqt.mono _ _
   | exact LeO.none _
   | refine LeO.ite ?_ ?_
   | refine LeO.bind ?_ (fun _ => ?_)
  ·intro y0 y1 y2 y3 y4 y5 y6 y7 y8 y9 y10
   unfold zqj.l1
   repeat' first
   | (with_reducible exact ih0 _ _ _ _ _ _ _ _ _ _)
   | (with_reducible exact ih1 _ _ _ _ _ _ _ _ _ _ _)
   | (with_reducible exact ih2 _ _ _ _ _ _ _ _ _ _ _)
   | (with_reducible exact ih3 _ _ _ _ _ _ _ _ _ _ _ _)
   | (with_reducible exact zqo.mono _ _ _ _ _ _ _)
   | (with_reducible exact zqs.mono _ _ _ _ _ _ _)
   | (with_reducible exact zqg.mono _ _ _ _ _)
   | (with_reducible exact zqb.mono _ _ _ _)
   | (with_reducible exact zqt.mono _ _)
   | (with_reducible exact LeO.refl _)
   | (with_reducible exact LeO.none _)
   | (with_reducible refine LeO.ite ?_ ?_)
   | (with_reducible refine LeO.bind ?_ (fun _ => ?_))
   | exact ih0 _ _ _ _ _ _ _ _ _ _
   | exact ih1 _ _ _ _ _ _ _ _ _ _ _
   | exact ih2 _ _ _ _ _ _ _ _ _ _ _
   | exact ih3 _ _ _ _ _ _ _ _ _ _ _ _
   | exact zqo.mono _ _ _ _ _ _ _
   | exact zqs.mono _ _ _ _ _ _ _
   | exact zqg.mono _ _ _ _ _
   | exact zqb.mono _ _ _ _
   | exact zqt.mono _ _
   | exact LeO.none _
   | refine LeO.ite ?_ ?_
   | refine LeO.bind ?_ (fun _ => ?_)
  ·intro y0 y1 y2 y3 y4 y5 y6 y7 y8 y9 y10 y11
   unfold zqj.j3
   repeat' first
   | (with_reducible exact ih0 _ _ _ _ _ _ _ _ _ _)
   | (with_reducible exact ih1 _ _ _ _ _ _ _ _ _ _ _)
   | (with_reducible exact ih2 _ _ _ _ _ _ _ _ _ _ _)
   | (with_reducible exact ih3 _ _ _ _ _ _ _ _ _ _ _ _)
   | (with_reducible exact zqo.mono _ _ _ _ _ _ _)
   | (with_reducible exact zqs.mono _ _ _ _ _ _ _)
   | (with_reducible exact zqg.mono _ _ _ _ _)
   | (with_reducible exact zqb.mono _ _ _ _)
   | (with_reducible exact zqt.mono _ _)
   | (with_reducible exact LeO.refl _)
   | (with_reducible exact LeO.none _)
   | (with_reducible refine LeO.ite ?_ ?_)
   | (with_reducible refine LeO.bind ?_ (fun _ => ?_))
   | exact ih0 _ _ _ _ _ _ _ _ _ _
   | exact ih1 _ _ _ _ _ _ _ _ _ _ _
   | exact ih2 _ _ _ _ _ _ _ _ _ _ _
   | exact ih3 _ _ _ _ _ _ _ _ _ _ _ _
   | exact zqo.mono _ _ _ _ _ _ _
   | exact zqs.mono _ _ _ _ _ _ _
   | exact zqg.mono _ _ _ _ _
   | exact zqb.mono _ _ _ _
   | exact zqt.mono _ _
   | exact LeO.none _
   | refine LeO.ite ?_ ?_
   | refine LeO.bind ?_ (fun _ => ?_)
theorem zqj.mono : ∀ a0 k, LeO (zqj.f k a0) (zqj.f (k + 1) a0) := by
 intro a0 k
 obtain ⟨ih0, ih1, ih2, ih3⟩ := zqj.mono_l k
 unfold zqj.f
 repeat' first
   | (with_reducible exact ih0 _ _ _ _ _ _ _ _ _ _)
   | (with_reducible exact ih1 _ _ _ _ _ _ _ _ _ _ _)
   | (with_reducible exact ih2 _ _ _ _ _ _ _ _ _ _ _)
   | (with_reducible exact ih3 _ _ _ _ _ _ _ _ _ _ _ _)
   | (with_reducible exact zqo.mono _ _ _ _ _ _ _)
   | (with_reducible exact zqs.mono _ _ _ _ _ _ _)
   | (with_reducible exact zqg.mono _ _ _ _ _)
   | (with_reducible exact zqb.mono _ _ _ _)
   | (with_reducible exact zqt.mono _ _)
   | (with_reducible exact LeO.refl _)
   | (with_reducible exact LeO.none _)
   | (with_reducible refine LeO.ite ?_ ?_)
   | (with_reducible refine LeO.bind ?_ (fun _ => ?_))
   | exact ih0 _ _ _ _ _ _ _ _ _ _
   | exact ih1 _ _ _ _ _ _ _ _ _ _ _
   | exact ih2 _ _ _ _ _ _ _ _ _ _ _
   | exact ih3 _ _ _ _ _ _ _ _ _ _ _ _
   | exact zqo.mono _ _ _ _ _ _ _
   | exact zqs.mono _ _ _ _ _ _ _
   | exact zqg.mono _ _ _ _ _
   | exact zqb.mono _ _ _ _
   | exact zqt.mono _ _
   | exact LeO.none _
   | refine LeO.ite ?_ ?_
   | refine LeO.bind ?_ (fun _ => ?_)
def zqj.T11 : Bool × List (List Nat × List Nat) := (true, [([], []), ([0], [0]), ([], []), ([2], [2]), ([], []), ([4, 3], [4]), ([], []), ([6, 5], [6]), ([], []), ([8, 7], [8]), ([9], [9]), ([3, 5, 7, 10], [3, 5, 7, 10]), ([11], [11]), ([1, 12, 9], [1, 12]), ([0, 1, 2, 3, 4, 5, 6, 7, 8, 9, 10, 11, 12, 13], []), ([14, 13, 13, 0, 1, 2, 3, 4, 5, 6, 7, 8, 9, 10, 11, 12, 13], [13, 14])])
def zqj.B11 : List Nat := [0, 1, 0, 4, 0, 28, 0, 124, 0, 508, 1020, 2044, 4092, 8191, 16383, 32767]
theorem zqj.tab11 : rtab .any (opsOf Try.f24 11) = zqj.T11 := by kernel_rfl
theorem zqj.bits11 : waitsOk zqj.T11.2 zqj.B11 = true := by kernel_rfl
def zqj.T15 : Bool × List (List Nat × List Nat) := (true, [([], []), ([0], [0]), ([], []), ([2], [2]), ([], []), ([4, 3], [4]), ([], []), ([6, 5], [6]), ([], []), ([8, 7], [8]), ([], []), ([10, 9], [10]), ([11], [11]), ([3, 5, 7, 9, 12], [3, 5, 7, 9, 12]), ([13], [13]), ([1, 14, 11], [1, 14]), ([0, 1, 2, 3, 4, 5, 6, 7, 8, 9, 10, 11, 12, 13, 14, 15], []), ([16, 15, 15, 0, 1, 2, 3, 4, 5, 6, 7, 8, 9, 10, 11, 12, 13, 14, 15], [15, 16])])
def zqj.B15 : List Nat := [0, 1, 0, 4, 0, 28, 0, 124, 0, 508, 0, 2044, 4092, 8188, 16380, 32767, 65535, 131071]
theorem zqj.tab15 : rtab .any (opsOf Try.f24 15) = zqj.T15 := by kernel_rfl
theorem zqj.bits15 : waitsOk zqj.T15.2 zqj.B15 = true := by kernel_rfl
theorem zqj.calls (k : Nat) (a0 : ByteArray) (r1 : ByteArray) (r2 : ByteArray) (r3 : ByteArray) (r4 : Int) (r5 : List (S62)) (r6 : List (S43)) (r7 : Int) (w : World) (h : zqj.f k a0 = some (r1, r2, r3, r4, r5, r6, r7)) :
  Calls Try.prog 24 #[.string a0] w fun e w' => ∃ v4_ v5_ : Value, e = .returned (.tuple #[.agg #[.string r1, .string r2, .string r3, .int .i64 r4, v4_, v5_], .int .i64 r7]) ∧ Kd.R k62 62 w' w.heap.size (fun _ => True) v4_ r5 ∧ Kd.R k43 43 w' w.heap.size (fun _ => True) v5_ r6 ∧ Below w.heap.size w w' := by
 have hu25 := Try.underlying25
 have hu74 := Try.underlying74
 have hu62 := Try.underlying62
 have hu43 := Try.underlying43
 have HB := Aside0.mk (Below.refl w.heap.size w)
 have H : ((zqt.f k a0).bind fun bt191 => (if bt191.2 = 0 then ((zqh.f bt191.1 (⟨#[79, 66, 74, 49]⟩ : ByteArray)).bind fun t193 => (if t193 = true then ((zqb.f k bt191.1 4 false).bind fun bt195 => ((zqb.f k bt195.2.1 bt195.2.2.1 bt195.2.2.2).bind fun bt199 => ((zqb.f k bt199.2.1 bt199.2.2.1 bt199.2.2.2).bind fun bt203 => ((zqg.f k bt203.2.1 bt203.2.2.1 bt203.2.2.2 2).bind fun bt207 => ((zqg.f k bt207.2.1 bt207.2.2.1 bt207.2.2.2 2).bind fun bt212 => (zqj.l0 k bt191.1 bt212.1 bt212.2.1 bt212.2.2.1 bt212.2.2.2 bt195.1 bt199.1 bt203.1 bt207.1 ([] : List (S62)))))))) else (some ((⟨#[]⟩ : ByteArray), (⟨#[]⟩ : ByteArray), (⟨#[]⟩ : ByteArray), 0, ([] : List (S62)), ([] : List (S43)), 9)))) else (some ((⟨#[]⟩ : ByteArray), (⟨#[]⟩ : ByteArray), (⟨#[]⟩ : ByteArray), 0, ([] : List (S62)), ([] : List (S43)), bt191.2)))) = some (r1, r2, r3, r4, r5, r6, r7) := h
 clear h
 replace H := Option.bind_eq_some_iff.mp H
 obtain ⟨⟨t191, t192⟩, A20, H⟩ := H
 (try dsimp only at H)
 have A2 := Aside0.mk A20
 clear A20
 by_cases c3 : t192 = 0
 ·rw [if_pos c3] at H
  have c3b0 : (t192 == 0) = true := beq_iff_eq.mpr c3
  have c3b1 : (t192 != 0) = false := bne_eq_false_iff_eq.mpr c3
  clear c3
  replace H := Option.bind_eq_some_iff.mp H
  obtain ⟨t193, A40, H⟩ := H
  (try dsimp only at H)
  have A4 := Aside0.mk A40
  clear A40
  by_cases c5 : t193 = true
  ·subst c5
   have H1 : ((zqb.f k t191 4 false).bind fun bt195 => ((zqb.f k bt195.2.1 bt195.2.2.1 bt195.2.2.2).bind fun bt199 => ((zqb.f k bt199.2.1 bt199.2.2.1 bt199.2.2.2).bind fun bt203 => ((zqg.f k bt203.2.1 bt203.2.2.1 bt203.2.2.2 2).bind fun bt207 => ((zqg.f k bt207.2.1 bt207.2.2.1 bt207.2.2.2 2).bind fun bt212 => (zqj.l0 k t191 bt212.1 bt212.2.1 bt212.2.2.1 bt212.2.2.2 bt195.1 bt199.1 bt203.1 bt207.1 ([] : List (S62)))))))) = some (r1, r2, r3, r4, r5, r6, r7) := by rw [if_pos rfl] at H; exact H
   clear H
   have H := H1
   clear H1
   replace H := Option.bind_eq_some_iff.mp H
   obtain ⟨⟨t195, t196, t197, t198⟩, A60, H⟩ := H
   (try dsimp only at H)
   have A6 := Aside0.mk A60
   clear A60
   replace H := Option.bind_eq_some_iff.mp H
   obtain ⟨⟨t199, t200, t201, t202⟩, A70, H⟩ := H
   (try dsimp only at H)
   have A7 := Aside0.mk A70
   clear A70
   replace H := Option.bind_eq_some_iff.mp H
   obtain ⟨⟨t203, t204, t205, t206⟩, A80, H⟩ := H
   (try dsimp only at H)
   have A8 := Aside0.mk A80
   clear A80
   replace H := Option.bind_eq_some_iff.mp H
   obtain ⟨⟨t207, t208, t209, t210⟩, A90, H⟩ := H
   (try dsimp only at H)
   have A9 := Aside0.mk A90
   clear A90
   replace H := Option.bind_eq_some_iff.mp H
   obtain ⟨⟨t212, t213, t214, t215⟩, A100, H⟩ := H
   (try dsimp only at H)
   have A10 := Aside0.mk A100
   clear A100
   have H' := Aside0.mk H
   clear H
   go_enter Try.func24, Try.ntmps24
   go_wp2_with (first | ((with_reducible refine y0j (N := 2) rfl ?_); refine y0e ?hg (N := 2) ?hd (cs := #[.string (⟨#[]⟩ : ByteArray), .string (⟨#[]⟩ : ByteArray), .string (⟨#[]⟩ : ByteArray), .int .i64 0, .slice none 0 0, .slice none 0 0]) (t := 25) ?hr ?_; (case hd => rfl); (case hg => rfl); (case hr => first | (go_simp; done) | (go_simp; rfl)); intro gb190 hg w11 hbox hb; have n0_ := Aside0.mk (y04 hb_ hb); have n1_ := Aside0.mk (hbox); have n2_ := Aside0.mk ((by rw [hg]; exact (y03 hb_) : w.heap.size ≤ gb190)); have n3_ := Aside0.mk ((by rw [hg]; exact (y03 hb_) : w.heap.size ≤ gb190)); clear HB; have HB := n0_; have BK190 := n1_; have GW190 := n2_; have GE190 := n3_; clear n0_ n1_ n2_ n3_; clear hb hbox hg) | ((with_reducible refine y0i (f := 61) rfl ?_); refine goesL_ (some 12) rfl rfl Try.func61 (by kernel_rfl) rfl #[.string a0] rfl ar_ ?_; (with_reducible refine (zqt.calls k a0 t191 t192 _ A2.out).mono ?_); rintro e w12 ⟨rfl, hb⟩; refine ⟨_, rfl, ?_⟩; have n0_ := Aside0.mk (y06 (bk_ BK190.out) hb); have n1_ := Aside0.mk (y04 hb_ hb); clear BK190 HB; have BK190 := n0_; have HB := n1_; clear n0_ n1_; clear hb) | ((with_reducible refine y0i (f := 62) rfl ?_); refine goesL_ (some 20) rfl rfl Try.func62 (by kernel_rfl) rfl #[.string t191, .string (⟨#[79, 66, 74, 49]⟩ : ByteArray)] rfl ar_ ?_; (with_reducible refine (zqh.calls t191 (⟨#[79, 66, 74, 49]⟩ : ByteArray) true _ A4.out).mono ?_); rintro e w' ⟨rfl, ⟨nd, rfl⟩⟩; refine ⟨_, rfl, ?_⟩; (try (rw [drewN_self w12]; generalize hq_ : World.drewN w12 _ = w12; have n0_ : Aside0 (w12.heap[gb190]? = some (.cells #[.string (⟨#[]⟩ : ByteArray), .string (⟨#[]⟩ : ByteArray), .string (⟨#[]⟩ : ByteArray), .int .i64 0, .slice none 0 0, .slice none 0 0] 25 (0, 0))) := ⟨by rw [← hq_]; exact (bk_ BK190.out)⟩; have n1_ : Aside0 (Below w.heap.size w w12) := ⟨by rw [← hq_]; exact hb_⟩; clear BK190 HB hq_; have BK190 := n0_; have HB := n1_; clear n0_ n1_))) | ((with_reducible refine y0j (N := 25) rfl ?_); refine y0e ?hg (N := 25) ?hd (cs := #[.string t191, .int .i64 4, .bool false]) (t := 74) ?hr ?_; (case hd => rfl); (case hg => rfl); (case hr => first | (go_simp; done) | (go_simp; rfl)); intro gb194 hg w13 hbox hb; have n0_ := Aside0.mk (y06 (bk_ BK190.out) hb); have n1_ := Aside0.mk (y04 hb_ hb); have n2_ := Aside0.mk ((show IsS74 w w13 gb194 t191 4 false from ⟨hbox, by rw [hg]; exact (y03 hb_)⟩)); have n3_ := Aside0.mk ((by rw [hg]; exact (y03 hb_) : w.heap.size ≤ gb194)); have n4_ := Aside0.mk ((by rw [hg]; exact (y03 hb_) : w.heap.size ≤ gb194)); have n5_ := Aside0.mk ((by rw [hg]; exact Nat.ne_of_lt (y0c (bk_ BK190.out)) : gb190 ≠ gb194)); have n6_ := Aside0.mk ((by rw [hg]; exact Nat.ne_of_gt (y0c (bk_ BK190.out)) : gb194 ≠ gb190)); clear BK190 HB; have BK190 := n0_; have HB := n1_; have HI194 := n2_; have GW194 := n3_; have GE194 := n4_; have NB190_194 := n5_; have NB194_190 := n6_; clear n0_ n1_ n2_ n3_ n4_ n5_ n6_; clear hb hbox hg) | ((with_reducible refine y0i (f := 63) rfl ?_); refine goesL_ (some 27) rfl rfl Try.func63 (by kernel_rfl) rfl #[.pointer (some ⟨gb194, 0, none⟩)] rfl ar_ ?_; (with_reducible refine (zqb.calls k gb194 t191 4 false t195 t196 t197 t198 w _ ?side1 ?side2 A6.out).mono ?_); (case side1 => repeat (first | (with_reducible first | exact HI194.out | apply IsS74.alloc | apply IsS74.drewN | apply IsS74.drew | apply IsS74.set_0 | apply IsS74.set_1 | apply IsS74.set_2 | refine IsS74.far ?_ NB194_190.out _) | exact HI194.out)); (case side2 => repeat (first | (with_reducible first | exact HB.out | apply y00 | apply pw_below_drewN | apply y01 | refine y02 ?_ (IsS74.ge HI194.out) | refine y02 ?_ GE190.out) | exact HB.out)); rintro e w14 ⟨rfl, hi, hb, hk⟩; refine ⟨_, rfl, ?_⟩; have n0_ := Aside0.mk (KeepBut.blk hk (g' := gb190) (o := .cells #[.string (⟨#[]⟩ : ByteArray), .string (⟨#[]⟩ : ByteArray), .string (⟨#[]⟩ : ByteArray), .int .i64 0, .slice none 0 0, .slice none 0 0] 25 (0, 0)) (bk_ BK190.out) NB190_194.out (by simp)); have n1_ := Aside0.mk (hb); have n2_ := Aside0.mk (hi); clear BK190 HB HI194; have BK190 := n0_; have HB := n1_; have HI194 := n2_; clear n0_ n1_ n2_; clear hb; clear hk; clear hi) | ((with_reducible refine y0i (f := 63) rfl ?_); refine goesL_ (some 29) rfl rfl Try.func63 (by kernel_rfl) rfl #[.pointer (some ⟨gb194, 0, none⟩)] rfl ar_ ?_; (with_reducible refine (zqb.calls k gb194 t196 t197 t198 t199 t200 t201 t202 w _ ?side1 ?side2 A7.out).mono ?_); (case side1 => repeat (first | (with_reducible first | exact HI194.out | apply IsS74.alloc | apply IsS74.drewN | apply IsS74.drew | apply IsS74.set_0 | apply IsS74.set_1 | apply IsS74.set_2 | refine IsS74.far ?_ NB194_190.out _) | exact HI194.out)); (case side2 => repeat (first | (with_reducible first | exact HB.out | apply y00 | apply pw_below_drewN | apply y01 | refine y02 ?_ (IsS74.ge HI194.out) | refine y02 ?_ GE190.out) | exact HB.out)); rintro e w15 ⟨rfl, hi, hb, hk⟩; refine ⟨_, rfl, ?_⟩; have n0_ := Aside0.mk (KeepBut.blk hk (g' := gb190) (o := .cells #[.string (⟨#[]⟩ : ByteArray), .string (⟨#[]⟩ : ByteArray), .string (⟨#[]⟩ : ByteArray), .int .i64 0, .slice none 0 0, .slice none 0 0] 25 (0, 0)) (bk_ BK190.out) NB190_194.out (by simp)); have n1_ := Aside0.mk (hb); have n2_ := Aside0.mk (hi); clear BK190 HB HI194; have BK190 := n0_; have HB := n1_; have HI194 := n2_; clear n0_ n1_ n2_; clear hb; clear hk; clear hi) | ((with_reducible refine y0i (f := 63) rfl ?_); refine goesL_ (some 31) rfl rfl Try.func63 (by kernel_rfl) rfl #[.pointer (some ⟨gb194, 0, none⟩)] rfl ar_ ?_; (with_reducible refine (zqb.calls k gb194 t200 t201 t202 t203 t204 t205 t206 w _ ?side1 ?side2 A8.out).mono ?_); (case side1 => repeat (first | (with_reducible first | exact HI194.out | apply IsS74.alloc | apply IsS74.drewN | apply IsS74.drew | apply IsS74.set_0 | apply IsS74.set_1 | apply IsS74.set_2 | refine IsS74.far ?_ NB194_190.out _) | exact HI194.out)); (case side2 => repeat (first | (with_reducible first | exact HB.out | apply y00 | apply pw_below_drewN | apply y01 | refine y02 ?_ (IsS74.ge HI194.out) | refine y02 ?_ GE190.out) | exact HB.out)); rintro e w16 ⟨rfl, hi, hb, hk⟩; refine ⟨_, rfl, ?_⟩; have n0_ := Aside0.mk (KeepBut.blk hk (g' := gb190) (o := .cells #[.string (⟨#[]⟩ : ByteArray), .string (⟨#[]⟩ : ByteArray), .string (⟨#[]⟩ : ByteArray), .int .i64 0, .slice none 0 0, .slice none 0 0] 25 (0, 0)) (bk_ BK190.out) NB190_194.out (by simp)); have n1_ := Aside0.mk (hb); have n2_ := Aside0.mk (hi); clear BK190 HB HI194; have BK190 := n0_; have HB := n1_; have HI194 := n2_; clear n0_ n1_ n2_; clear hb; clear hk; clear hi) | ((with_reducible refine y0i (f := 64) rfl ?_); refine goesL_ (some 33) rfl rfl Try.func64 (by kernel_rfl) rfl #[.pointer (some ⟨gb194, 0, none⟩), .int .i64 2] rfl ar_ ?_; (with_reducible refine (zqg.calls k gb194 t204 t205 t206 2 t207 t208 t209 t210 w _ ?side1 ?side2 A9.out).mono ?_); (case side1 => repeat (first | (with_reducible first | exact HI194.out | apply IsS74.alloc | apply IsS74.drewN | apply IsS74.drew | apply IsS74.set_0 | apply IsS74.set_1 | apply IsS74.set_2 | refine IsS74.far ?_ NB194_190.out _) | exact HI194.out)); (case side2 => repeat (first | (with_reducible first | exact HB.out | apply y00 | apply pw_below_drewN | apply y01 | refine y02 ?_ (IsS74.ge HI194.out) | refine y02 ?_ GE190.out) | exact HB.out)); rintro e w17 ⟨rfl, hi, hb, hk⟩; refine ⟨_, rfl, ?_⟩; have n0_ := Aside0.mk (KeepBut.blk hk (g' := gb190) (o := .cells #[.string (⟨#[]⟩ : ByteArray), .string (⟨#[]⟩ : ByteArray), .string (⟨#[]⟩ : ByteArray), .int .i64 0, .slice none 0 0, .slice none 0 0] 25 (0, 0)) (bk_ BK190.out) NB190_194.out (by simp)); have n1_ := Aside0.mk (hb); have n2_ := Aside0.mk (hi); clear BK190 HB HI194; have BK190 := n0_; have HB := n1_; have HI194 := n2_; clear n0_ n1_ n2_; clear hb; clear hk; clear hi) | ((with_reducible refine y0j (N := 7) rfl ?_); refine y0e ?hg (N := 7) ?hd (cs := #[.string (⟨#[]⟩ : ByteArray), .string (⟨#[]⟩ : ByteArray), .string (⟨#[]⟩ : ByteArray), .int .i64 0, .slice none 0 0, .slice none 0 0]) (t := 25) ?hr ?_; (case hd => rfl); (case hg => rfl); (case hr => first | (go_simp; done) | (go_simp; rfl)); intro gb211 hg w18 hbox hb; have n0_ := Aside0.mk (y06 (bk_ BK190.out) hb); have n1_ := Aside0.mk (IsS74.below (by repeat (first | (with_reducible first | exact HI194.out | apply IsS74.alloc | apply IsS74.drewN | apply IsS74.drew | apply IsS74.set_0 | apply IsS74.set_1 | apply IsS74.set_2 | refine IsS74.far ?_ NB194_190.out _) | exact HI194.out)) hb); have n2_ := Aside0.mk (y04 (by repeat (first | (with_reducible first | exact HB.out | apply y00 | apply pw_below_drewN | apply y01 | refine y02 ?_ (IsS74.ge HI194.out) | refine y02 ?_ GE190.out) | exact HB.out)) hb); have n3_ := Aside0.mk (hbox); have n4_ := Aside0.mk ((by rw [hg]; exact (y03 (by repeat (first | (with_reducible first | exact HB.out | apply y00 | apply pw_below_drewN | apply y01 | refine y02 ?_ (IsS74.ge HI194.out) | refine y02 ?_ GE190.out) | exact HB.out))) : w.heap.size ≤ gb211)); have n5_ := Aside0.mk ((by rw [hg]; exact (y03 (by repeat (first | (with_reducible first | exact HB.out | apply y00 | apply pw_below_drewN | apply y01 | refine y02 ?_ (IsS74.ge HI194.out) | refine y02 ?_ GE190.out) | exact HB.out))) : w.heap.size ≤ gb211)); have n6_ := Aside0.mk ((by rw [hg]; exact Nat.ne_of_lt (y0c (bk_ BK190.out)) : gb190 ≠ gb211)); have n7_ := Aside0.mk ((by rw [hg]; exact Nat.ne_of_gt (y0c (bk_ BK190.out)) : gb211 ≠ gb190)); have n8_ := Aside0.mk ((by rw [hg]; exact Nat.ne_of_lt (IsS74.lt (show IsS74 w _ gb194 t208 t209 t210 from by repeat (first | (with_reducible first | exact HI194.out | apply IsS74.alloc | apply IsS74.drewN | apply IsS74.drew | apply IsS74.set_0 | apply IsS74.set_1 | apply IsS74.set_2 | refine IsS74.far ?_ NB194_190.out _) | exact HI194.out))) : gb194 ≠ gb211)); have n9_ := Aside0.mk ((by rw [hg]; exact Nat.ne_of_gt (IsS74.lt (show IsS74 w _ gb194 t208 t209 t210 from by repeat (first | (with_reducible first | exact HI194.out | apply IsS74.alloc | apply IsS74.drewN | apply IsS74.drew | apply IsS74.set_0 | apply IsS74.set_1 | apply IsS74.set_2 | refine IsS74.far ?_ NB194_190.out _) | exact HI194.out))) : gb211 ≠ gb194)); clear BK190 HI194 HB; have BK190 := n0_; have HI194 := n1_; have HB := n2_; have BK211 := n3_; have GW211 := n4_; have GE211 := n5_; have NB190_211 := n6_; have NB211_190 := n7_; have NB194_211 := n8_; have NB211_194 := n9_; clear n0_ n1_ n2_ n3_ n4_ n5_ n6_ n7_ n8_ n9_; clear hb hbox hg; have hnb19 := NB211_190.out; have hnc19 := NB190_211.out; have hnb20 := NB211_194.out; have hnc20 := NB194_211.out; obtain ⟨hcz21_0, hfz21_0⟩ := bc_ BK211.out 0 rfl; obtain ⟨hcz21_1, hfz21_1⟩ := bc_ BK211.out 1 rfl; obtain ⟨hcz21_2, hfz21_2⟩ := bc_ BK211.out 2 rfl; obtain ⟨hcz21_3, hfz21_3⟩ := bc_ BK211.out 3 rfl; obtain ⟨hcz21_4, hfz21_4⟩ := bc_ BK211.out 4 rfl; obtain ⟨hcz21_5, hfz21_5⟩ := bc_ BK211.out 5 rfl) | ((with_reducible refine y0i (f := 64) rfl ?_); refine goesL_ (some 36) rfl rfl Try.func64 (by kernel_rfl) rfl #[.pointer (some ⟨gb194, 0, none⟩), .int .i64 2] rfl ar_ ?_; (with_reducible refine (zqg.calls k gb194 t208 t209 t210 2 t212 t213 t214 t215 w _ ?side1 ?side2 A10.out).mono ?_); (case side1 => repeat (first | (with_reducible first | exact HI194.out | apply IsS74.alloc | apply IsS74.drewN | apply IsS74.drew | apply IsS74.set_0 | apply IsS74.set_1 | apply IsS74.set_2 | refine IsS74.far ?_ NB194_190.out _ | refine IsS74.far ?_ NB194_211.out _) | exact HI194.out)); (case side2 => repeat (first | (with_reducible first | exact HB.out | apply y00 | apply pw_below_drewN | apply y01 | refine y02 ?_ (IsS74.ge HI194.out) | refine y02 ?_ GE190.out | refine y02 ?_ GE211.out) | exact HB.out)); rintro e w22 ⟨rfl, hi, hb, hk⟩; refine ⟨_, rfl, ?_⟩; have n0_ := Aside0.mk (KeepBut.blk hk (g' := gb190) (o := .cells #[.string (⟨#[]⟩ : ByteArray), .string (⟨#[]⟩ : ByteArray), .string (⟨#[]⟩ : ByteArray), .int .i64 0, .slice none 0 0, .slice none 0 0] 25 (0, 0)) (by (with_reducible repeat (first | refine y09 ?_ _ | refine y08 ?_ | refine y05 ?_ _)); refine y0a ?_ NB190_211.out _; (with_reducible repeat (first | refine y09 ?_ _ | refine y08 ?_ | refine y05 ?_ _)); refine y0a ?_ NB190_211.out _; (with_reducible repeat (first | refine y09 ?_ _ | refine y08 ?_ | refine y05 ?_ _)); refine y0a ?_ NB190_211.out _; (with_reducible repeat (first | refine y09 ?_ _ | refine y08 ?_ | refine y05 ?_ _)); refine y0a ?_ NB190_211.out _; (with_reducible repeat (first | refine y09 ?_ _ | refine y08 ?_ | refine y05 ?_ _)); refine y0a ?_ NB190_211.out _; (with_reducible repeat (first | refine y09 ?_ _ | refine y08 ?_ | refine y05 ?_ _)); refine y0a ?_ NB190_211.out _; (with_reducible repeat (first | refine y09 ?_ _ | refine y08 ?_ | refine y05 ?_ _)); exact BK190.out) NB190_194.out (by simp)); have n1_ := Aside0.mk (KeepBut.blk hk (g' := gb211) (o := .cells #[.string t195, .string t199, .string t203, .int .i64 t207, .slice none 0 0, .slice none 0 0] 25 (0, 0)) (by (with_reducible repeat (first | refine y09 ?_ _ | refine y08 ?_ | refine y05 ?_ _)); refine y0d (cs := #[.string t195, .string t199, .string t203, .int .i64 t207, .slice none 0 0, .slice none 0 0]) ?_ 5 _ rfl; (with_reducible repeat (first | refine y09 ?_ _ | refine y08 ?_ | refine y05 ?_ _)); refine y0d (cs := #[.string t195, .string t199, .string t203, .int .i64 t207, .slice none 0 0, .slice none 0 0]) ?_ 4 _ rfl; (with_reducible repeat (first | refine y09 ?_ _ | refine y08 ?_ | refine y05 ?_ _)); refine y0d (cs := #[.string t195, .string t199, .string t203, .int .i64 0, .slice none 0 0, .slice none 0 0]) ?_ 3 _ rfl; (with_reducible repeat (first | refine y09 ?_ _ | refine y08 ?_ | refine y05 ?_ _)); refine y0d (cs := #[.string t195, .string t199, .string (⟨#[]⟩ : ByteArray), .int .i64 0, .slice none 0 0, .slice none 0 0]) ?_ 2 _ rfl; (with_reducible repeat (first | refine y09 ?_ _ | refine y08 ?_ | refine y05 ?_ _)); refine y0d (cs := #[.string t195, .string (⟨#[]⟩ : ByteArray), .string (⟨#[]⟩ : ByteArray), .int .i64 0, .slice none 0 0, .slice none 0 0]) ?_ 1 _ rfl; (with_reducible repeat (first | refine y09 ?_ _ | refine y08 ?_ | refine y05 ?_ _)); refine y0d (cs := #[.string (⟨#[]⟩ : ByteArray), .string (⟨#[]⟩ : ByteArray), .string (⟨#[]⟩ : ByteArray), .int .i64 0, .slice none 0 0, .slice none 0 0]) ?_ 0 _ rfl; (with_reducible repeat (first | refine y09 ?_ _ | refine y08 ?_ | refine y05 ?_ _)); exact BK211.out) NB211_194.out (by simp)); have n2_ := Aside0.mk (hb); have n3_ := Aside0.mk (hi); clear BK190 BK211 HB HI194; have BK190 := n0_; have BK211 := n1_; have HB := n2_; have HI194 := n3_; clear n0_ n1_ n2_ n3_; clear hb; clear hk; clear hi))
   go_loopg [8] k (fun kq v8 w' => ∃ (x8_1 : Int) (x195000_1 : ByteArray) (x195001_1 : Int) (x195002_1 : Bool) (x212004_1 : List (S62)) (u212004 : Value), v8 = .int .i64 x8_1 ∧ Aside0 (zqj.l0 kq t191 x8_1 x195000_1 x195001_1 x195002_1 t195 t199 t203 t207 x212004_1 = some (r1, r2, r3, r4, r5, r6, r7)) ∧ Aside0 (kq ≤ k) ∧ Aside0 (Kd.R k62 62 w' w.heap.size (fun _ => True) u212004 x212004_1) ∧ Aside0 (w'.heap[gb190]? = some (.cells #[.string (⟨#[]⟩ : ByteArray), .string (⟨#[]⟩ : ByteArray), .string (⟨#[]⟩ : ByteArray), .int .i64 0, (.slice none 0 0), (.slice none 0 0)] 25 (0, 0))) ∧ Aside0 (w'.heap[gb211]? = some (.cells #[.string t195, .string t199, .string t203, .int .i64 t207, u212004, (.slice none 0 0)] 25 (0, 0))) ∧ Aside0 (IsS74 w w' gb194 x195000_1 x195001_1 x195002_1) ∧ Aside0 (Below w.heap.size w w'))
   case atStart => exact ⟨(t212), (t213), (t214), (t215), (([] : List (S62))), (.slice none 0 0), cl_, H', ⟨Nat.le_refl _⟩, ⟨by first | exact Kd.R_nil _ _ _ _ _ | exact Kd.N_nil _ _ _ _ _ | exact Kd.V_nil _ _ _ _ _ | exact Kd.Q_nil _ _ _ _ _ | exact Kd.S_nil _ _ _ _ _⟩, ⟨bk_ BK190.out⟩, ⟨bk_ BK211.out⟩, ⟨by repeat (first | (with_reducible first | exact HI194.out | apply IsS74.alloc | apply IsS74.drewN | apply IsS74.drew | apply IsS74.set_0 | apply IsS74.set_1 | apply IsS74.set_2 | refine IsS74.far ?_ NB194_190.out _ | refine IsS74.far ?_ NB194_211.out _) | exact HI194.out)⟩, ⟨by repeat (first | (with_reducible first | exact HB.out | apply y00 | apply pw_below_drewN | apply y01 | refine y02 ?_ (IsS74.ge HI194.out) | refine y02 ?_ GE190.out | refine y02 ?_ GE211.out) | exact HB.out)⟩⟩
   case round =>
    clear H'
    clear c3b0; clear c3b1; clear hcz21_0; clear hcz21_1; clear hcz21_2; clear hcz21_3; clear hcz21_4; clear hcz21_5; clear hfz21_0; clear hfz21_1; clear hfz21_2; clear hfz21_3; clear hfz21_4; clear hfz21_5
    obtain ⟨x8_1, x195000_1, x195001_1, x195002_1, x212004_1, u212004, rfl, HA, HK1, HO_212004, BK190, BK211, HI194, HB⟩ := hrel
    cases gk with
    | zero => exact absurd HA.out (by simp [zqj.l0])
    | succ k1 =>
     have H := HA.out
     clear HA
     simp only [zqj.l0] at H
     have HC23 := Aside0.mk H
     clear H
     go_upto_region 9 with (fail)
     go_cut [45] (fun v45 wc => ∃ (kq : Nat) (x45_22 : Bool), v45 = .bool x45_22 ∧ Aside0 (zqj.j1 kq t191 x8_1 x45_22 x195000_1 x195001_1 x195002_1 t195 t199 t203 t207 x212004_1 = some (r1, r2, r3, r4, r5, r6, r7)) ∧ Aside0 (kq ≤ k1) ∧ Aside0 (Kd.R k62 62 wc w.heap.size (fun _ => True) u212004 x212004_1) ∧ Aside0 (wc.heap[gb190]? = some (.cells #[.string (⟨#[]⟩ : ByteArray), .string (⟨#[]⟩ : ByteArray), .string (⟨#[]⟩ : ByteArray), .int .i64 0, (.slice none 0 0), (.slice none 0 0)] 25 (0, 0))) ∧ Aside0 (wc.heap[gb211]? = some (.cells #[.string t195, .string t199, .string t203, .int .i64 t207, u212004, (.slice none 0 0)] 25 (0, 0))) ∧ Aside0 (IsS74 w wc gb194 x195000_1 x195001_1 x195002_1) ∧ Aside0 (Below w.heap.size w wc))
     case first =>
      have H := HC23.out
      clear HC23
      by_cases c24 : x8_1 > 0
      ·rw [if_pos c24] at H
       have c24b0 : decide (0 < x8_1) = true := decide_eq_true c24
       clear c24
       (first | rw [c24b0] | (simp only [i64_w, i32_w]; rw [c24b0]) | skip)
       have H' := Aside0.mk H
       clear H
       obtain ⟨HGz25, hgz25⟩ := HI194.out
       have hcz25_0 := cellS74_0 HGz25
       have hcz25_1 := cellS74_1 HGz25
       have hcz25_2 := cellS74_2 HGz25
       have hfz25_0 := y0b HGz25 0
       have hfz25_1 := y0b HGz25 1
       have hfz25_2 := y0b HGz25 2
       clear HGz25 hgz25
       go_wp2
       go_meet
       case rel => exact ⟨_, (!x195002_1), cl_, H', ⟨by have := HK1.out; first | omega | exact Nat.le_refl _⟩, ⟨rk_ HO_212004.out⟩, ⟨bk_ BK190.out⟩, ⟨bk_ BK211.out⟩, ⟨by repeat (first | (with_reducible first | exact HI194.out | apply IsS74.alloc | apply IsS74.drewN | apply IsS74.drew | apply IsS74.set_0 | apply IsS74.set_1 | apply IsS74.set_2 | refine IsS74.far ?_ NB194_190.out _ | refine IsS74.far ?_ NB194_211.out _) | exact HI194.out)⟩, ⟨by repeat (first | (with_reducible first | exact HB.out | apply y00 | apply pw_below_drewN | apply y01 | refine y02 ?_ (IsS74.ge HI194.out) | refine y02 ?_ GE190.out | refine y02 ?_ GE211.out) | exact HB.out)⟩⟩
      ·rw [if_neg c24] at H
       have c24b0 : decide (0 < x8_1) = false := decide_eq_false c24
       clear c24
       (first | rw [c24b0] | (simp only [i64_w, i32_w]; rw [c24b0]) | skip)
       have H' := Aside0.mk H
       clear H
       go_wp2
       go_meet
       case rel => exact ⟨_, (false), cl_, H', ⟨by have := HK1.out; first | omega | exact Nat.le_refl _⟩, ⟨rk_ HO_212004.out⟩, ⟨bk_ BK190.out⟩, ⟨bk_ BK211.out⟩, ⟨by repeat (first | (with_reducible first | exact HI194.out | apply IsS74.alloc | apply IsS74.drewN | apply IsS74.drew | apply IsS74.set_0 | apply IsS74.set_1 | apply IsS74.set_2 | refine IsS74.far ?_ NB194_190.out _ | refine IsS74.far ?_ NB194_211.out _) | exact HI194.out)⟩, ⟨by repeat (first | (with_reducible first | exact HB.out | apply y00 | apply pw_below_drewN | apply y01 | refine y02 ?_ (IsS74.ge HI194.out) | refine y02 ?_ GE190.out | refine y02 ?_ GE211.out) | exact HB.out)⟩⟩
     case rest =>
      clear HC23
      obtain ⟨kq, x45_22, rfl, HA, HJ22, HO_212004, BK190, BK211, HI194, HB⟩ := hcut
      cases kq with
      | zero => exact absurd HA.out (by simp [zqj.j1])
      | succ kj22 =>
       have H := HA.out
       clear HA
       simp only [zqj.j1] at H
       by_cases c26 : x45_22 = true
       ·subst c26
        have H1 : ((zqb.f kj22 x195000_1 x195001_1 x195002_1).bind fun bt216 => ((zqg.f kj22 bt216.2.1 bt216.2.2.1 bt216.2.2.2 1).bind fun bt220 => ((zqg.f kj22 bt220.2.1 bt220.2.2.1 bt220.2.2.2 2).bind fun bt224 => ((zqg.f kj22 bt224.2.1 bt224.2.2.1 bt224.2.2.2 1).bind fun bt228 => (if x212004_1.length < 3518437208883 then (zqj.l0 kj22 t191 (wrap64 (x8_1 - 1)) bt228.2.1 bt228.2.2.1 bt228.2.2.2 t195 t199 t203 t207 (x212004_1 ++ [(⟨bt216.1, bt220.1, bt224.1, (bt228.1 == 1)⟩ : S62)])) else (none)))))) = some (r1, r2, r3, r4, r5, r6, r7) := by rw [if_pos rfl] at H; exact H
        clear H
        have H := H1
        clear H1
        replace H := Option.bind_eq_some_iff.mp H
        obtain ⟨⟨t216, t217, t218, t219⟩, A270, H⟩ := H
        (try dsimp only at H)
        have A27 := Aside0.mk A270
        clear A270
        replace H := Option.bind_eq_some_iff.mp H
        obtain ⟨⟨t220, t221, t222, t223⟩, A280, H⟩ := H
        (try dsimp only at H)
        have A28 := Aside0.mk A280
        clear A280
        replace H := Option.bind_eq_some_iff.mp H
        obtain ⟨⟨t224, t225, t226, t227⟩, A290, H⟩ := H
        (try dsimp only at H)
        have A29 := Aside0.mk A290
        clear A290
        replace H := Option.bind_eq_some_iff.mp H
        obtain ⟨⟨t228, t229, t230, t231⟩, A300, H⟩ := H
        (try dsimp only at H)
        have A30 := Aside0.mk A300
        clear A300
        by_cases c31 : x212004_1.length < 3518437208883
        ·rw [if_pos c31] at H
         have LMc31 := Aside0.mk c31
         clear c31
         obtain ⟨y232, hy232⟩ : ∃ y_ : List (S62), y_ = (x212004_1 ++ [(⟨t216, t220, t224, (t228 == 1)⟩ : S62)]) := ⟨_, rfl⟩
         replace H : (zqj.l0 kj22 t191 (wrap64 (x8_1 - 1)) t229 t230 t231 t195 t199 t203 t207 y232) = some (r1, r2, r3, r4, r5, r6, r7) := by first | (rw [hy232]; with_reducible exact H) | (have H2_ := (Option.bind_some _ _).symm.trans H; rw [hy232]; with_reducible exact H2_) | (have H2_ := (Option.bind_some _ _).symm.trans H; with_reducible exact H2_) | with_reducible exact H | (rw [hy232]; exact H) | exact H
         have Ny232 := Aside0.mk hy232
         clear hy232
         have H' := Aside0.mk H
         clear H
         try go_wp2
         have n0_ := Aside0.mk (Kd.R_drew HO_212004.out)
         have n1_ := Aside0.mk (y08 BK190.out)
         have n2_ := Aside0.mk (y08 BK211.out)
         have n3_ := Aside0.mk (IsS74.drew HI194.out)
         have n4_ := Aside0.mk (y01 HB.out)
         clear HO_212004 BK190 BK211 HI194 HB
         have HO_212004 := n0_; have BK190 := n1_; have BK211 := n2_; have HI194 := n3_; have HB := n4_
         clear n0_ n1_ n2_ n3_ n4_
         refine start_ (n := 16) (S := fun w' => w'.cell? ⟨gb211, 0, none⟩ = some (.string t195) ∧ w'.cell? ⟨gb211, 1, none⟩ = some (.string t199) ∧ w'.cell? ⟨gb211, 2, none⟩ = some (.string t203) ∧ w'.cell? ⟨gb211, 3, none⟩ = some (.int .i64 t207) ∧ w'.cell? ⟨gb211, 4, none⟩ = some (u212004) ∧ w'.cell? ⟨gb211, 5, none⟩ = some (.slice none 0 0)) (ds := [15]) #[false, false, false, false, false, false, false, false, false, false, false, false, false, false, false, false] (by kernel_rfl) rfl rfl ⟨(y07 BK211.out 0).trans rfl, (y07 BK211.out 1).trans rfl, (y07 BK211.out 2).trans rfl, (y07 BK211.out 3).trans rfl, (y07 BK211.out 4).trans rfl, (y07 BK211.out 5).trans rfl⟩ (fun hHeld => ?_); refine with_tabW zqj.tab11 zqj.bits11 (fun HT_ HW_ => ?_)
         generalize wc.drew = w32 at HO_212004 BK190 BK211 HI194 HB hHeld ⊢
         refine pu_ 0 (some 48) (fl 16 1) rfl rfl HT_ ?_
         refine pu_ 2 (some 50) (fl 16 5) rfl rfl HT_ ?_
         refine pu_ 4 (some 52) (fl 16 21) rfl rfl HT_ ?_
         refine pu_ 6 (some 54) (fl 16 85) rfl rfl HT_ ?_
         refine pu_ 8 (some 56) (fl 16 341) rfl rfl HT_ ?_
         refine ta_ 1 (some 49) (fl 16 343) rfl rfl HT_ HW_ hHeld ?_
         refine one_ (i := 3) (N := some 51) (fl 16 351) rfl rfl (one_of HT_.out (by kernel_rfl)) (by decide) (fun K hK => ?_)
         refine goes_ Try.func63 (by kernel_rfl) rfl #[.pointer (some ⟨gb194, 0, none⟩)] (by rfl) rfl rfl ar_ ?_
         with_reducible refine (zqb.calls kj22 gb194 x195000_1 x195001_1 x195002_1 t216 t217 t218 t219 w _ ?side1 ?side2 A27.out).mono ?_
         (case side1 => repeat (first | (with_reducible first | exact HI194.out | apply IsS74.alloc | apply IsS74.drewN | apply IsS74.drew | apply IsS74.set_0 | apply IsS74.set_1 | apply IsS74.set_2 | refine IsS74.far ?_ NB194_190.out _ | refine IsS74.far ?_ NB194_211.out _) | exact HI194.out))
         (case side2 => repeat (first | (with_reducible first | exact HB.out | apply y00 | apply pw_below_drewN | apply y01 | refine y02 ?_ (IsS74.ge HI194.out) | refine y02 ?_ GE190.out | refine y02 ?_ GE211.out) | exact HB.out))
         rintro e w33 ⟨rfl, hi, hb, hk⟩
         refine ⟨_, rfl, ?_⟩
         have n0_ := Aside0.mk (Kd.R_mono (Kd.R_keep (IsS74.apart (show IsS74 w _ gb194 x195000_1 x195001_1 x195002_1 from by repeat (first | (with_reducible first | exact HI194.out | apply IsS74.alloc | apply IsS74.drewN | apply IsS74.drew | apply IsS74.set_0 | apply IsS74.set_1 | apply IsS74.set_2 | refine IsS74.far ?_ NB194_190.out _ | refine IsS74.far ?_ NB194_211.out _) | exact HI194.out)) (rk_ HO_212004.out) (by decide)) hk (fun _ h => h.2)) (fun _ h => h.1))
         have n1_ := Aside0.mk (KeepBut.blk hk (g' := gb190) (o := .cells #[.string (⟨#[]⟩ : ByteArray), .string (⟨#[]⟩ : ByteArray), .string (⟨#[]⟩ : ByteArray), .int .i64 0, .slice none 0 0, .slice none 0 0] 25 (0, 0)) (bk_ BK190.out) NB190_194.out (by simp))
         have n2_ := Aside0.mk (KeepBut.blk hk (g' := gb211) (o := .cells #[.string t195, .string t199, .string t203, .int .i64 t207, u212004, .slice none 0 0] 25 (0, 0)) (bk_ BK211.out) NB211_194.out (by simp))
         have n3_ := Aside0.mk (hb)
         have n4_ := Aside0.mk (hi)
         clear HO_212004 BK190 BK211 HB HI194
         have HO_212004 := n0_; have BK190 := n1_; have BK211 := n2_; have HB := n3_; have HI194 := n4_
         clear n0_ n1_ n2_ n3_ n4_
         clear hb; clear hk; clear hi
         refine hK.out _ _ ⟨(y07 BK211.out 0).trans rfl, (y07 BK211.out 1).trans rfl, (y07 BK211.out 2).trans rfl, (y07 BK211.out 3).trans rfl, (y07 BK211.out 4).trans rfl, (y07 BK211.out 5).trans rfl⟩ (fun hHeld => ?_)
         clear hK K
         refine no_ (N := some 51) ?_
         refine one_ (i := 5) (N := some 53) (fl 16 383) rfl rfl (one_of HT_.out (by kernel_rfl)) (by decide) (fun K hK => ?_)
         refine goes_ Try.func64 (by kernel_rfl) rfl #[.pointer (some ⟨gb194, 0, none⟩), .int .i64 1] (by rfl) rfl rfl ar_ ?_
         with_reducible refine (zqg.calls kj22 gb194 t217 t218 t219 1 t220 t221 t222 t223 w _ ?side1 ?side2 A28.out).mono ?_
         (case side1 => repeat (first | (with_reducible first | exact HI194.out | apply IsS74.alloc | apply IsS74.drewN | apply IsS74.drew | apply IsS74.set_0 | apply IsS74.set_1 | apply IsS74.set_2 | refine IsS74.far ?_ NB194_190.out _ | refine IsS74.far ?_ NB194_211.out _) | exact HI194.out))
         (case side2 => repeat (first | (with_reducible first | exact HB.out | apply y00 | apply pw_below_drewN | apply y01 | refine y02 ?_ (IsS74.ge HI194.out) | refine y02 ?_ GE190.out | refine y02 ?_ GE211.out) | exact HB.out))
         rintro e w34 ⟨rfl, hi, hb, hk⟩
         refine ⟨_, rfl, ?_⟩
         have n0_ := Aside0.mk (Kd.R_mono (Kd.R_keep (IsS74.apart (show IsS74 w _ gb194 t217 t218 t219 from by repeat (first | (with_reducible first | exact HI194.out | apply IsS74.alloc | apply IsS74.drewN | apply IsS74.drew | apply IsS74.set_0 | apply IsS74.set_1 | apply IsS74.set_2 | refine IsS74.far ?_ NB194_190.out _ | refine IsS74.far ?_ NB194_211.out _) | exact HI194.out)) (rk_ HO_212004.out) (by decide)) hk (fun _ h => h.2)) (fun _ h => h.1))
         have n1_ := Aside0.mk (KeepBut.blk hk (g' := gb190) (o := .cells #[.string (⟨#[]⟩ : ByteArray), .string (⟨#[]⟩ : ByteArray), .string (⟨#[]⟩ : ByteArray), .int .i64 0, .slice none 0 0, .slice none 0 0] 25 (0, 0)) (bk_ BK190.out) NB190_194.out (by simp))
         have n2_ := Aside0.mk (KeepBut.blk hk (g' := gb211) (o := .cells #[.string t195, .string t199, .string t203, .int .i64 t207, u212004, .slice none 0 0] 25 (0, 0)) (bk_ BK211.out) NB211_194.out (by simp))
         have n3_ := Aside0.mk (hb)
         have n4_ := Aside0.mk (hi)
         clear HO_212004 BK190 BK211 HB HI194
         have HO_212004 := n0_; have BK190 := n1_; have BK211 := n2_; have HB := n3_; have HI194 := n4_
         clear n0_ n1_ n2_ n3_ n4_
         clear hb; clear hk; clear hi
         refine hK.out _ _ ⟨(y07 BK211.out 0).trans rfl, (y07 BK211.out 1).trans rfl, (y07 BK211.out 2).trans rfl, (y07 BK211.out 3).trans rfl, (y07 BK211.out 4).trans rfl, (y07 BK211.out 5).trans rfl⟩ (fun hHeld => ?_)
         clear hK K
         refine no_ (N := some 53) ?_
         refine one_ (i := 7) (N := some 55) (fl 16 511) rfl rfl (one_of HT_.out (by kernel_rfl)) (by decide) (fun K hK => ?_)
         refine goes_ Try.func64 (by kernel_rfl) rfl #[.pointer (some ⟨gb194, 0, none⟩), .int .i64 2] (by rfl) rfl rfl ar_ ?_
         with_reducible refine (zqg.calls kj22 gb194 t221 t222 t223 2 t224 t225 t226 t227 w _ ?side1 ?side2 A29.out).mono ?_
         (case side1 => repeat (first | (with_reducible first | exact HI194.out | apply IsS74.alloc | apply IsS74.drewN | apply IsS74.drew | apply IsS74.set_0 | apply IsS74.set_1 | apply IsS74.set_2 | refine IsS74.far ?_ NB194_190.out _ | refine IsS74.far ?_ NB194_211.out _) | exact HI194.out))
         (case side2 => repeat (first | (with_reducible first | exact HB.out | apply y00 | apply pw_below_drewN | apply y01 | refine y02 ?_ (IsS74.ge HI194.out) | refine y02 ?_ GE190.out | refine y02 ?_ GE211.out) | exact HB.out))
         rintro e w35 ⟨rfl, hi, hb, hk⟩
         refine ⟨_, rfl, ?_⟩
         have n0_ := Aside0.mk (Kd.R_mono (Kd.R_keep (IsS74.apart (show IsS74 w _ gb194 t221 t222 t223 from by repeat (first | (with_reducible first | exact HI194.out | apply IsS74.alloc | apply IsS74.drewN | apply IsS74.drew | apply IsS74.set_0 | apply IsS74.set_1 | apply IsS74.set_2 | refine IsS74.far ?_ NB194_190.out _ | refine IsS74.far ?_ NB194_211.out _) | exact HI194.out)) (rk_ HO_212004.out) (by decide)) hk (fun _ h => h.2)) (fun _ h => h.1))
         have n1_ := Aside0.mk (KeepBut.blk hk (g' := gb190) (o := .cells #[.string (⟨#[]⟩ : ByteArray), .string (⟨#[]⟩ : ByteArray), .string (⟨#[]⟩ : ByteArray), .int .i64 0, .slice none 0 0, .slice none 0 0] 25 (0, 0)) (bk_ BK190.out) NB190_194.out (by simp))
         have n2_ := Aside0.mk (KeepBut.blk hk (g' := gb211) (o := .cells #[.string t195, .string t199, .string t203, .int .i64 t207, u212004, .slice none 0 0] 25 (0, 0)) (bk_ BK211.out) NB211_194.out (by simp))
         have n3_ := Aside0.mk (hb)
         have n4_ := Aside0.mk (hi)
         clear HO_212004 BK190 BK211 HB HI194
         have HO_212004 := n0_; have BK190 := n1_; have BK211 := n2_; have HB := n3_; have HI194 := n4_
         clear n0_ n1_ n2_ n3_ n4_
         clear hb; clear hk; clear hi
         refine hK.out _ _ ⟨(y07 BK211.out 0).trans rfl, (y07 BK211.out 1).trans rfl, (y07 BK211.out 2).trans rfl, (y07 BK211.out 3).trans rfl, (y07 BK211.out 4).trans rfl, (y07 BK211.out 5).trans rfl⟩ (fun hHeld => ?_)
         clear hK K
         refine no_ (N := some 55) ?_
         refine one_ (i := 9) (N := some 57) (fl 16 1023) rfl rfl (one_of HT_.out (by kernel_rfl)) (by decide) (fun K hK => ?_)
         refine goes_ Try.func64 (by kernel_rfl) rfl #[.pointer (some ⟨gb194, 0, none⟩), .int .i64 1] (by rfl) rfl rfl ar_ ?_
         with_reducible refine (zqg.calls kj22 gb194 t225 t226 t227 1 t228 t229 t230 t231 w _ ?side1 ?side2 A30.out).mono ?_
         (case side1 => repeat (first | (with_reducible first | exact HI194.out | apply IsS74.alloc | apply IsS74.drewN | apply IsS74.drew | apply IsS74.set_0 | apply IsS74.set_1 | apply IsS74.set_2 | refine IsS74.far ?_ NB194_190.out _ | refine IsS74.far ?_ NB194_211.out _) | exact HI194.out))
         (case side2 => repeat (first | (with_reducible first | exact HB.out | apply y00 | apply pw_below_drewN | apply y01 | refine y02 ?_ (IsS74.ge HI194.out) | refine y02 ?_ GE190.out | refine y02 ?_ GE211.out) | exact HB.out))
         rintro e w36 ⟨rfl, hi, hb, hk⟩
         refine ⟨_, rfl, ?_⟩
         have n0_ := Aside0.mk (Kd.R_mono (Kd.R_keep (IsS74.apart (show IsS74 w _ gb194 t225 t226 t227 from by repeat (first | (with_reducible first | exact HI194.out | apply IsS74.alloc | apply IsS74.drewN | apply IsS74.drew | apply IsS74.set_0 | apply IsS74.set_1 | apply IsS74.set_2 | refine IsS74.far ?_ NB194_190.out _ | refine IsS74.far ?_ NB194_211.out _) | exact HI194.out)) (rk_ HO_212004.out) (by decide)) hk (fun _ h => h.2)) (fun _ h => h.1))
         have n1_ := Aside0.mk (KeepBut.blk hk (g' := gb190) (o := .cells #[.string (⟨#[]⟩ : ByteArray), .string (⟨#[]⟩ : ByteArray), .string (⟨#[]⟩ : ByteArray), .int .i64 0, .slice none 0 0, .slice none 0 0] 25 (0, 0)) (bk_ BK190.out) NB190_194.out (by simp))
         have n2_ := Aside0.mk (KeepBut.blk hk (g' := gb211) (o := .cells #[.string t195, .string t199, .string t203, .int .i64 t207, u212004, .slice none 0 0] 25 (0, 0)) (bk_ BK211.out) NB211_194.out (by simp))
         have n3_ := Aside0.mk (hb)
         have n4_ := Aside0.mk (hi)
         clear HO_212004 BK190 BK211 HB HI194
         have HO_212004 := n0_; have BK190 := n1_; have BK211 := n2_; have HB := n3_; have HI194 := n4_
         clear n0_ n1_ n2_ n3_ n4_
         clear hb; clear hk; clear hi
         refine hK.out _ _ ⟨(y07 BK211.out 0).trans rfl, (y07 BK211.out 1).trans rfl, (y07 BK211.out 2).trans rfl, (y07 BK211.out 3).trans rfl, (y07 BK211.out 4).trans rfl, (y07 BK211.out 5).trans rfl⟩ (fun hHeld => ?_)
         clear hK K
         refine no_ (N := some 57) ?_
         refine pu_ 10 (some 58) (fl 16 2047) rfl rfl HT_ ?_
         refine pu_ 11 (some 59) (fl 16 4095) rfl rfl HT_ ?_
         refine one_ (i := 12) (N := some 60) (fl 16 8191) rfl rfl (one_of HT_.out (by kernel_rfl)) (by decide) (fun K hK => ?_)
         refine value_ (w1 := ?_) (v := ?_) (by rfl) rfl ?_ ?_
         rotate_left 2
         ·go_simp
          constructor
          ·rfl
          ·rfl
         refine hK.out _ _ ⟨(y07 (y05 BK211.out _) 0).trans rfl, (y07 (y05 BK211.out _) 1).trans rfl, (y07 (y05 BK211.out _) 2).trans rfl, (y07 (y05 BK211.out _) 3).trans rfl, (y07 (y05 BK211.out _) 4).trans rfl, (y07 (y05 BK211.out _) 5).trans rfl⟩ (fun hHeld => ?_)
         clear hK K
         refine no_ (N := some 60) ?_
         refine one_ (i := 13) (N := some 61) (fl 16 16383) rfl rfl (one_of HT_.out (by kernel_rfl)) (by decide) (fun K hK => ?_)
         refine Kd.R_append_step k62 (w0 := w) w.heap.size (by rfl) (.tmp 49) (.tmp 60) 22 62 (.agg #[(.string ⟨#[]⟩), (.int .i64 0), (.int .i64 0), (.bool false)]) 40 rfl Try.underlying22 info62 rfl (by decide) (by omega) u212004 x212004_1 (⟨t216, t220, t224, (t228 == 1)⟩ : S62) [.string t216, .int .i64 t220, .int .i64 t224, .bool (t228 == 1)] (fun _ => True) (fun _ => False) rfl rfl ?aP (fun _ hk => hk.elim) ?aF ?aO ?aB ?aS ?aL ?_
         (case aP => exact k62_mkM _ _ _ (⟨t216, t220, t224, (t228 == 1)⟩ : S62))
         (case aB => exact (by repeat (first | (with_reducible first | exact HB.out | apply y00 | apply pw_below_drewN | apply y01 | refine y02 ?_ (IsS74.ge HI194.out) | refine y02 ?_ GE190.out | refine y02 ?_ GE211.out) | exact HB.out)))
         (case aF => exact (fun _ _ => trivial))
         (case aO => exact (rk_ HO_212004.out))
         (case aS => exact (y03 (by repeat (first | (with_reducible first | exact HB.out | apply y00 | apply pw_below_drewN | apply y01 | refine y02 ?_ (IsS74.ge HI194.out) | refine y02 ?_ GE190.out | refine y02 ?_ GE211.out) | exact HB.out))))
         (case aL => have := LMc31.out; omega)
         intro v233 w37 ho hb hg hat
         rw [← Ny232.out] at ho
         have n0_ := Aside0.mk (blk_grown (bk_ BK190.out) hg (Kd.R_ne HO_212004.out BK190.out (by decide)))
         have n1_ := Aside0.mk (blk_grown (bk_ BK211.out) hg (Kd.R_ne HO_212004.out BK211.out (by decide)))
         have n2_ := Aside0.mk (IsS74.grown (show IsS74 w _ gb194 t229 t230 t231 from by repeat (first | (with_reducible first | exact HI194.out | apply IsS74.alloc | apply IsS74.drewN | apply IsS74.drew | apply IsS74.set_0 | apply IsS74.set_1 | apply IsS74.set_2 | refine IsS74.far ?_ NB194_190.out _ | refine IsS74.far ?_ NB194_211.out _) | exact HI194.out)) hg (IsS74.own_ne HI194.out HO_212004.out (by decide)))
         have n3_ := Aside0.mk (hb)
         have n4_ := Aside0.mk (ho)
         clear BK190 BK211 HI194 HB HO_212004
         have BK190 := n0_; have BK211 := n1_; have HI194 := n2_; have HB := n3_; have HO234 := n4_
         clear n0_ n1_ n2_ n3_ n4_ ho hb hg hat
         obtain ⟨Ao38, co38, eo38⟩ := Kd.R_slice HO234.out
         (first | subst eo38 | (injection eo38 with f1_ f2_ f3_; have f4_ := f1_.symm; have f5_ := f3_.symm; clear f1_ f2_ f3_; subst f4_; subst f5_))
         refine hK.out _ _ ⟨(y07 BK211.out 0).trans rfl, (y07 BK211.out 1).trans rfl, (y07 BK211.out 2).trans rfl, (y07 BK211.out 3).trans rfl, (y07 BK211.out 4).trans rfl, (y07 BK211.out 5).trans rfl⟩ (fun hHeld => ?_)
         clear hK K
         refine no_ (N := some 61) ?_
         refine pu_ 14 (some 62) (fl 16 32767) rfl rfl HT_ ?_
         refine last_ (i := 15) (N := none) (fl 16 65535) rfl rfl (one_of HT_.out (by kernel_rfl)) (by decide) (fun K hK => ?_)
         have hs39 : w37.cell? ⟨gb211, 4, none⟩ = some (u212004) := (y07 BK211.out 4).trans rfl
         have hfs39 := y0b BK211.out 4
         have hns39_0 := NB190_211.out
         have hms39_0 := NB211_190.out
         refine skip_ (w1 := ?_) (by rfl) rfl ?_ ?_
         rotate_left
         ·go_simp
          rfl
         refine hK.out _ _ ?_
         clear hK K
         refine done_ (done_of HT_.out (by kernel_rfl)) ?_
         try go_wp2
         go_roundg kj22
         case measure => have := HK1.out; have := HJ22.out; omega
         case rel => exact ⟨(wrap64 (x8_1 - 1)), (t229), (t230), (t231), (y232), (.slice Ao38 y232.length co38), cl_, H', ⟨by have := HK1.out; have := HJ22.out; omega⟩, ⟨by (with_reducible repeat (first | apply Kd.R_alloc | apply Kd.R_drewN | apply Kd.R_drew)); exact Kd.R_mono (Kd.R_far (p := ⟨gb211, 4, none⟩) (Kd.R_types HO234.out BK211.out (by decide)) (fun _ hk => hk.2) (.slice Ao38 y232.length co38)) (fun _ hk => trivial)⟩, ⟨by (with_reducible repeat (first | refine y09 ?_ _ | refine y08 ?_ | refine y05 ?_ _)); refine y0a ?_ NB190_211.out _; (with_reducible repeat (first | refine y09 ?_ _ | refine y08 ?_ | refine y05 ?_ _)); exact BK190.out⟩, ⟨by (with_reducible repeat (first | refine y09 ?_ _ | refine y08 ?_ | refine y05 ?_ _)); refine y0d (cs := #[.string t195, .string t199, .string t203, .int .i64 t207, u212004, .slice none 0 0]) ?_ 4 _ rfl; (with_reducible repeat (first | refine y09 ?_ _ | refine y08 ?_ | refine y05 ?_ _)); exact BK211.out⟩, ⟨by repeat (first | (with_reducible first | exact HI194.out | apply IsS74.alloc | apply IsS74.drewN | apply IsS74.drew | apply IsS74.set_0 | apply IsS74.set_1 | apply IsS74.set_2 | refine IsS74.far ?_ NB194_190.out _ | refine IsS74.far ?_ NB194_211.out _) | exact HI194.out)⟩, ⟨by repeat (first | (with_reducible first | exact HB.out | apply y00 | apply pw_below_drewN | apply y01 | refine y02 ?_ (IsS74.ge HI194.out) | refine y02 ?_ GE190.out | refine y02 ?_ GE211.out) | exact HB.out)⟩⟩
        ·rw [if_neg c31] at H
         exact absurd H (by simp)
       ·replace c26 := Bool.eq_false_iff.mpr c26
        subst c26
        have H1 : ((zqg.f kj22 x195000_1 x195001_1 x195002_1 2).bind fun bt235 => (zqj.l1 kj22 t191 bt235.1 bt235.2.1 bt235.2.2.1 bt235.2.2.2 t195 t199 t203 t207 x212004_1 ([] : List (S43)))) = some (r1, r2, r3, r4, r5, r6, r7) := by rw [if_neg (show ¬ (false = true) by decide)] at H; exact H
        clear H
        have H := H1
        clear H1
        replace H := Option.bind_eq_some_iff.mp H
        obtain ⟨⟨t235, t236, t237, t238⟩, A400, H⟩ := H
        (try dsimp only at H)
        have A40 := Aside0.mk A400
        clear A400
        have H' := Aside0.mk H
        clear H
        go_wp2_with (first | ((with_reducible refine y0i (f := 64) rfl ?_); refine goesL_ (some 64) rfl rfl Try.func64 (by kernel_rfl) rfl #[.pointer (some ⟨gb194, 0, none⟩), .int .i64 2] rfl ar_ ?_; (with_reducible refine (zqg.calls kj22 gb194 x195000_1 x195001_1 x195002_1 2 t235 t236 t237 t238 w _ ?side1 ?side2 A40.out).mono ?_); (case side1 => repeat (first | (with_reducible first | exact HI194.out | apply IsS74.alloc | apply IsS74.drewN | apply IsS74.drew | apply IsS74.set_0 | apply IsS74.set_1 | apply IsS74.set_2 | refine IsS74.far ?_ NB194_190.out _ | refine IsS74.far ?_ NB194_211.out _) | exact HI194.out)); (case side2 => repeat (first | (with_reducible first | exact HB.out | apply y00 | apply pw_below_drewN | apply y01 | refine y02 ?_ (IsS74.ge HI194.out) | refine y02 ?_ GE190.out | refine y02 ?_ GE211.out) | exact HB.out)); rintro e w41 ⟨rfl, hi, hb, hk⟩; refine ⟨_, rfl, ?_⟩; have n0_ := Aside0.mk (Kd.R_mono (Kd.R_keep (IsS74.apart (show IsS74 w _ gb194 x195000_1 x195001_1 x195002_1 from by repeat (first | (with_reducible first | exact HI194.out | apply IsS74.alloc | apply IsS74.drewN | apply IsS74.drew | apply IsS74.set_0 | apply IsS74.set_1 | apply IsS74.set_2 | refine IsS74.far ?_ NB194_190.out _ | refine IsS74.far ?_ NB194_211.out _) | exact HI194.out)) (rk_ HO_212004.out) (by decide)) hk (fun _ h => h.2)) (fun _ h => h.1)); have n1_ := Aside0.mk (KeepBut.blk hk (g' := gb190) (o := .cells #[.string (⟨#[]⟩ : ByteArray), .string (⟨#[]⟩ : ByteArray), .string (⟨#[]⟩ : ByteArray), .int .i64 0, .slice none 0 0, .slice none 0 0] 25 (0, 0)) (bk_ BK190.out) NB190_194.out (by simp)); have n2_ := Aside0.mk (KeepBut.blk hk (g' := gb211) (o := .cells #[.string t195, .string t199, .string t203, .int .i64 t207, u212004, .slice none 0 0] 25 (0, 0)) (bk_ BK211.out) NB211_194.out (by simp)); have n3_ := Aside0.mk (hb); have n4_ := Aside0.mk (hi); clear HO_212004 BK190 BK211 HB HI194; have HO_212004 := n0_; have BK190 := n1_; have BK211 := n2_; have HB := n3_; have HI194 := n4_; clear n0_ n1_ n2_ n3_ n4_; clear hb; clear hk; clear hi))
        go_loopg [9] kj22 (fun kq v9 w' => ∃ (x9_3 : Int) (x195000_3 : ByteArray) (x195001_3 : Int) (x195002_3 : Bool) (x212005_3 : List (S43)) (u212005 : Value), v9 = .int .i64 x9_3 ∧ Aside0 (zqj.l1 kq t191 x9_3 x195000_3 x195001_3 x195002_3 t195 t199 t203 t207 x212004_1 x212005_3 = some (r1, r2, r3, r4, r5, r6, r7)) ∧ Aside0 (kq ≤ kj22) ∧ Aside0 (Kd.R k62 62 w' w.heap.size (fun _ => True) u212004 x212004_1) ∧ Aside0 (Kd.R k43 43 w' w.heap.size (fun _ => True) u212005 x212005_3) ∧ Aside0 (w'.heap[gb190]? = some (.cells #[.string (⟨#[]⟩ : ByteArray), .string (⟨#[]⟩ : ByteArray), .string (⟨#[]⟩ : ByteArray), .int .i64 0, (.slice none 0 0), (.slice none 0 0)] 25 (0, 0))) ∧ Aside0 (w'.heap[gb211]? = some (.cells #[.string t195, .string t199, .string t203, .int .i64 t207, u212004, u212005] 25 (0, 0))) ∧ Aside0 (IsS74 w w' gb194 x195000_3 x195001_3 x195002_3) ∧ Aside0 (Below w.heap.size w w'))
        case atStart => exact ⟨(t235), (t236), (t237), (t238), (([] : List (S43))), (.slice none 0 0), cl_, H', ⟨Nat.le_refl _⟩, ⟨rk_ HO_212004.out⟩, ⟨by first | exact Kd.R_nil _ _ _ _ _ | exact Kd.N_nil _ _ _ _ _ | exact Kd.V_nil _ _ _ _ _ | exact Kd.Q_nil _ _ _ _ _ | exact Kd.S_nil _ _ _ _ _⟩, ⟨bk_ BK190.out⟩, ⟨bk_ BK211.out⟩, ⟨by repeat (first | (with_reducible first | exact HI194.out | apply IsS74.alloc | apply IsS74.drewN | apply IsS74.drew | apply IsS74.set_0 | apply IsS74.set_1 | apply IsS74.set_2 | refine IsS74.far ?_ NB194_190.out _ | refine IsS74.far ?_ NB194_211.out _) | exact HI194.out)⟩, ⟨by repeat (first | (with_reducible first | exact HB.out | apply y00 | apply pw_below_drewN | apply y01 | refine y02 ?_ (IsS74.ge HI194.out) | refine y02 ?_ GE190.out | refine y02 ?_ GE211.out) | exact HB.out)⟩⟩
        case round =>
         clear H'
         obtain ⟨x9_3, x195000_3, x195001_3, x195002_3, x212005_3, u212005, rfl, HA, HK3, HO_212004, HO_212005, BK190, BK211, HI194, HB⟩ := hrel
         cases gk with
         | zero => exact absurd HA.out (by simp [zqj.l1])
         | succ k3 =>
          have H := HA.out
          clear HA
          simp only [zqj.l1] at H
          have HC42 := Aside0.mk H
          clear H
          go_upto_region 13 with (fail)
          go_cut [73] (fun v73 wc => ∃ (kq : Nat) (x73_41 : Bool), v73 = .bool x73_41 ∧ Aside0 (zqj.j3 kq t191 x9_3 x73_41 x195000_3 x195001_3 x195002_3 t195 t199 t203 t207 x212004_1 x212005_3 = some (r1, r2, r3, r4, r5, r6, r7)) ∧ Aside0 (kq ≤ k3) ∧ Aside0 (Kd.R k62 62 wc w.heap.size (fun _ => True) u212004 x212004_1) ∧ Aside0 (Kd.R k43 43 wc w.heap.size (fun _ => True) u212005 x212005_3) ∧ Aside0 (wc.heap[gb190]? = some (.cells #[.string (⟨#[]⟩ : ByteArray), .string (⟨#[]⟩ : ByteArray), .string (⟨#[]⟩ : ByteArray), .int .i64 0, (.slice none 0 0), (.slice none 0 0)] 25 (0, 0))) ∧ Aside0 (wc.heap[gb211]? = some (.cells #[.string t195, .string t199, .string t203, .int .i64 t207, u212004, u212005] 25 (0, 0))) ∧ Aside0 (IsS74 w wc gb194 x195000_3 x195001_3 x195002_3) ∧ Aside0 (Below w.heap.size w wc))
          case first =>
           have H := HC42.out
           clear HC42
           by_cases c43 : x9_3 > 0
           ·rw [if_pos c43] at H
            have c43b0 : decide (0 < x9_3) = true := decide_eq_true c43
            clear c43
            (first | rw [c43b0] | (simp only [i64_w, i32_w]; rw [c43b0]) | skip)
            have H' := Aside0.mk H
            clear H
            obtain ⟨HGz44, hgz44⟩ := HI194.out
            have hcz44_0 := cellS74_0 HGz44
            have hcz44_1 := cellS74_1 HGz44
            have hcz44_2 := cellS74_2 HGz44
            have hfz44_0 := y0b HGz44 0
            have hfz44_1 := y0b HGz44 1
            have hfz44_2 := y0b HGz44 2
            clear HGz44 hgz44
            go_wp2
            go_meet
            case rel => exact ⟨_, (!x195002_3), cl_, H', ⟨by have := HK1.out; have := HJ22.out; have := HK3.out; first | omega | exact Nat.le_refl _⟩, ⟨rk_ HO_212004.out⟩, ⟨rk_ HO_212005.out⟩, ⟨bk_ BK190.out⟩, ⟨bk_ BK211.out⟩, ⟨by repeat (first | (with_reducible first | exact HI194.out | apply IsS74.alloc | apply IsS74.drewN | apply IsS74.drew | apply IsS74.set_0 | apply IsS74.set_1 | apply IsS74.set_2 | refine IsS74.far ?_ NB194_190.out _ | refine IsS74.far ?_ NB194_211.out _) | exact HI194.out)⟩, ⟨by repeat (first | (with_reducible first | exact HB.out | apply y00 | apply pw_below_drewN | apply y01 | refine y02 ?_ (IsS74.ge HI194.out) | refine y02 ?_ GE190.out | refine y02 ?_ GE211.out) | exact HB.out)⟩⟩
           ·rw [if_neg c43] at H
            have c43b0 : decide (0 < x9_3) = false := decide_eq_false c43
            clear c43
            (first | rw [c43b0] | (simp only [i64_w, i32_w]; rw [c43b0]) | skip)
            have H' := Aside0.mk H
            clear H
            go_wp2
            go_meet
            case rel => exact ⟨_, (false), cl_, H', ⟨by have := HK1.out; have := HJ22.out; have := HK3.out; first | omega | exact Nat.le_refl _⟩, ⟨rk_ HO_212004.out⟩, ⟨rk_ HO_212005.out⟩, ⟨bk_ BK190.out⟩, ⟨bk_ BK211.out⟩, ⟨by repeat (first | (with_reducible first | exact HI194.out | apply IsS74.alloc | apply IsS74.drewN | apply IsS74.drew | apply IsS74.set_0 | apply IsS74.set_1 | apply IsS74.set_2 | refine IsS74.far ?_ NB194_190.out _ | refine IsS74.far ?_ NB194_211.out _) | exact HI194.out)⟩, ⟨by repeat (first | (with_reducible first | exact HB.out | apply y00 | apply pw_below_drewN | apply y01 | refine y02 ?_ (IsS74.ge HI194.out) | refine y02 ?_ GE190.out | refine y02 ?_ GE211.out) | exact HB.out)⟩⟩
          case rest =>
           clear HC42
           obtain ⟨kq, x73_41, rfl, HA, HJ41, HO_212004, HO_212005, BK190, BK211, HI194, HB⟩ := hcut
           cases kq with
           | zero => exact absurd HA.out (by simp [zqj.j3])
           | succ kj41 =>
            have H := HA.out
            clear HA
            simp only [zqj.j3] at H
            by_cases c45 : x73_41 = true
            ·subst c45
             have H1 : ((zqg.f kj41 x195000_3 x195001_3 x195002_3 1).bind fun bt239 => ((zqg.f kj41 bt239.2.1 bt239.2.2.1 bt239.2.2.2 2).bind fun bt243 => ((zqg.f kj41 bt243.2.1 bt243.2.2.1 bt243.2.2.2 1).bind fun bt247 => ((zqb.f kj41 bt247.2.1 bt247.2.2.1 bt247.2.2.2).bind fun bt251 => ((zqg.f kj41 bt251.2.1 bt251.2.2.1 bt251.2.2.2 1).bind fun bt255 => (if x212005_3.length < 2932031007402 then (zqj.l1 kj41 t191 (wrap64 (x9_3 - 1)) bt255.2.1 bt255.2.2.1 bt255.2.2.2 t195 t199 t203 t207 x212004_1 (x212005_3 ++ [(⟨bt239.1, bt243.1, bt247.1, bt251.1, (bt255.1 == 1)⟩ : S43)])) else (none))))))) = some (r1, r2, r3, r4, r5, r6, r7) := by rw [if_pos rfl] at H; exact H
             clear H
             have H := H1
             clear H1
             replace H := Option.bind_eq_some_iff.mp H
             obtain ⟨⟨t239, t240, t241, t242⟩, A460, H⟩ := H
             (try dsimp only at H)
             have A46 := Aside0.mk A460
             clear A460
             replace H := Option.bind_eq_some_iff.mp H
             obtain ⟨⟨t243, t244, t245, t246⟩, A470, H⟩ := H
             (try dsimp only at H)
             have A47 := Aside0.mk A470
             clear A470
             replace H := Option.bind_eq_some_iff.mp H
             obtain ⟨⟨t247, t248, t249, t250⟩, A480, H⟩ := H
             (try dsimp only at H)
             have A48 := Aside0.mk A480
             clear A480
             replace H := Option.bind_eq_some_iff.mp H
             obtain ⟨⟨t251, t252, t253, t254⟩, A490, H⟩ := H
             (try dsimp only at H)
             have A49 := Aside0.mk A490
             clear A490
             replace H := Option.bind_eq_some_iff.mp H
             obtain ⟨⟨t255, t256, t257, t258⟩, A500, H⟩ := H
             (try dsimp only at H)
             have A50 := Aside0.mk A500
             clear A500
             by_cases c51 : x212005_3.length < 2932031007402
             ·rw [if_pos c51] at H
              have LMc51 := Aside0.mk c51
              clear c51
              obtain ⟨y259, hy259⟩ : ∃ y_ : List (S43), y_ = (x212005_3 ++ [(⟨t239, t243, t247, t251, (t255 == 1)⟩ : S43)]) := ⟨_, rfl⟩
              replace H : (zqj.l1 kj41 t191 (wrap64 (x9_3 - 1)) t256 t257 t258 t195 t199 t203 t207 x212004_1 y259) = some (r1, r2, r3, r4, r5, r6, r7) := by first | (rw [hy259]; with_reducible exact H) | (have H2_ := (Option.bind_some _ _).symm.trans H; rw [hy259]; with_reducible exact H2_) | (have H2_ := (Option.bind_some _ _).symm.trans H; with_reducible exact H2_) | with_reducible exact H | (rw [hy259]; exact H) | exact H
              have Ny259 := Aside0.mk hy259
              clear hy259
              have H' := Aside0.mk H
              clear H
              try go_wp2
              have n0_ := Aside0.mk (Kd.R_drew HO_212004.out)
              have n1_ := Aside0.mk (Kd.R_drew HO_212005.out)
              have n2_ := Aside0.mk (y08 BK190.out)
              have n3_ := Aside0.mk (y08 BK211.out)
              have n4_ := Aside0.mk (IsS74.drew HI194.out)
              have n5_ := Aside0.mk (y01 HB.out)
              clear HO_212004 HO_212005 BK190 BK211 HI194 HB
              have HO_212004 := n0_; have HO_212005 := n1_; have BK190 := n2_; have BK211 := n3_; have HI194 := n4_; have HB := n5_
              clear n0_ n1_ n2_ n3_ n4_ n5_
              refine start_ (n := 18) (S := fun w' => w'.cell? ⟨gb211, 0, none⟩ = some (.string t195) ∧ w'.cell? ⟨gb211, 1, none⟩ = some (.string t199) ∧ w'.cell? ⟨gb211, 2, none⟩ = some (.string t203) ∧ w'.cell? ⟨gb211, 3, none⟩ = some (.int .i64 t207) ∧ w'.cell? ⟨gb211, 4, none⟩ = some (u212004) ∧ w'.cell? ⟨gb211, 5, none⟩ = some (u212005)) (ds := [17]) #[false, false, false, false, false, false, false, false, false, false, false, false, false, false, false, false, false, false] (by kernel_rfl) rfl rfl ⟨(y07 BK211.out 0).trans rfl, (y07 BK211.out 1).trans rfl, (y07 BK211.out 2).trans rfl, (y07 BK211.out 3).trans rfl, (y07 BK211.out 4).trans rfl, (y07 BK211.out 5).trans rfl⟩ (fun hHeld => ?_); refine with_tabW zqj.tab15 zqj.bits15 (fun HT_ HW_ => ?_)
              generalize wc.drew = w52 at HO_212004 HO_212005 BK190 BK211 HI194 HB hHeld ⊢
              refine pu_ 0 (some 76) (fl 18 1) rfl rfl HT_ ?_
              refine pu_ 2 (some 78) (fl 18 5) rfl rfl HT_ ?_
              refine pu_ 4 (some 80) (fl 18 21) rfl rfl HT_ ?_
              refine pu_ 6 (some 82) (fl 18 85) rfl rfl HT_ ?_
              refine pu_ 8 (some 84) (fl 18 341) rfl rfl HT_ ?_
              refine pu_ 10 (some 86) (fl 18 1365) rfl rfl HT_ ?_
              refine ta_ 1 (some 77) (fl 18 1367) rfl rfl HT_ HW_ hHeld ?_
              refine one_ (i := 3) (N := some 79) (fl 18 1375) rfl rfl (one_of HT_.out (by kernel_rfl)) (by decide) (fun K hK => ?_)
              refine goes_ Try.func64 (by kernel_rfl) rfl #[.pointer (some ⟨gb194, 0, none⟩), .int .i64 1] (by rfl) rfl rfl ar_ ?_
              with_reducible refine (zqg.calls kj41 gb194 x195000_3 x195001_3 x195002_3 1 t239 t240 t241 t242 w _ ?side1 ?side2 A46.out).mono ?_
              (case side1 => repeat (first | (with_reducible first | exact HI194.out | apply IsS74.alloc | apply IsS74.drewN | apply IsS74.drew | apply IsS74.set_0 | apply IsS74.set_1 | apply IsS74.set_2 | refine IsS74.far ?_ NB194_190.out _ | refine IsS74.far ?_ NB194_211.out _) | exact HI194.out))
              (case side2 => repeat (first | (with_reducible first | exact HB.out | apply y00 | apply pw_below_drewN | apply y01 | refine y02 ?_ (IsS74.ge HI194.out) | refine y02 ?_ GE190.out | refine y02 ?_ GE211.out) | exact HB.out))
              rintro e w53 ⟨rfl, hi, hb, hk⟩
              refine ⟨_, rfl, ?_⟩
              have n0_ := Aside0.mk (Kd.R_mono (Kd.R_keep (IsS74.apart (show IsS74 w _ gb194 x195000_3 x195001_3 x195002_3 from by repeat (first | (with_reducible first | exact HI194.out | apply IsS74.alloc | apply IsS74.drewN | apply IsS74.drew | apply IsS74.set_0 | apply IsS74.set_1 | apply IsS74.set_2 | refine IsS74.far ?_ NB194_190.out _ | refine IsS74.far ?_ NB194_211.out _) | exact HI194.out)) (rk_ HO_212004.out) (by decide)) hk (fun _ h => h.2)) (fun _ h => h.1))
              have n1_ := Aside0.mk (Kd.R_mono (Kd.R_keep (IsS74.apart (show IsS74 w _ gb194 x195000_3 x195001_3 x195002_3 from by repeat (first | (with_reducible first | exact HI194.out | apply IsS74.alloc | apply IsS74.drewN | apply IsS74.drew | apply IsS74.set_0 | apply IsS74.set_1 | apply IsS74.set_2 | refine IsS74.far ?_ NB194_190.out _ | refine IsS74.far ?_ NB194_211.out _) | exact HI194.out)) (rk_ HO_212005.out) (by decide)) hk (fun _ h => h.2)) (fun _ h => h.1))
              have n2_ := Aside0.mk (KeepBut.blk hk (g' := gb190) (o := .cells #[.string (⟨#[]⟩ : ByteArray), .string (⟨#[]⟩ : ByteArray), .string (⟨#[]⟩ : ByteArray), .int .i64 0, .slice none 0 0, .slice none 0 0] 25 (0, 0)) (bk_ BK190.out) NB190_194.out (by simp))
              have n3_ := Aside0.mk (KeepBut.blk hk (g' := gb211) (o := .cells #[.string t195, .string t199, .string t203, .int .i64 t207, u212004, u212005] 25 (0, 0)) (bk_ BK211.out) NB211_194.out (by simp))
              have n4_ := Aside0.mk (hb)
              have n5_ := Aside0.mk (hi)
              clear HO_212004 HO_212005 BK190 BK211 HB HI194
              have HO_212004 := n0_; have HO_212005 := n1_; have BK190 := n2_; have BK211 := n3_; have HB := n4_; have HI194 := n5_
              clear n0_ n1_ n2_ n3_ n4_ n5_
              clear hb; clear hk; clear hi
              refine hK.out _ _ ⟨(y07 BK211.out 0).trans rfl, (y07 BK211.out 1).trans rfl, (y07 BK211.out 2).trans rfl, (y07 BK211.out 3).trans rfl, (y07 BK211.out 4).trans rfl, (y07 BK211.out 5).trans rfl⟩ (fun hHeld => ?_)
              clear hK K
              refine no_ (N := some 79) ?_
              refine one_ (i := 5) (N := some 81) (fl 18 1407) rfl rfl (one_of HT_.out (by kernel_rfl)) (by decide) (fun K hK => ?_)
              refine goes_ Try.func64 (by kernel_rfl) rfl #[.pointer (some ⟨gb194, 0, none⟩), .int .i64 2] (by rfl) rfl rfl ar_ ?_
              with_reducible refine (zqg.calls kj41 gb194 t240 t241 t242 2 t243 t244 t245 t246 w _ ?side1 ?side2 A47.out).mono ?_
              (case side1 => repeat (first | (with_reducible first | exact HI194.out | apply IsS74.alloc | apply IsS74.drewN | apply IsS74.drew | apply IsS74.set_0 | apply IsS74.set_1 | apply IsS74.set_2 | refine IsS74.far ?_ NB194_190.out _ | refine IsS74.far ?_ NB194_211.out _) | exact HI194.out))
              (case side2 => repeat (first | (with_reducible first | exact HB.out | apply y00 | apply pw_below_drewN | apply y01 | refine y02 ?_ (IsS74.ge HI194.out) | refine y02 ?_ GE190.out | refine y02 ?_ GE211.out) | exact HB.out))
              rintro e w54 ⟨rfl, hi, hb, hk⟩
              refine ⟨_, rfl, ?_⟩
              have n0_ := Aside0.mk (Kd.R_mono (Kd.R_keep (IsS74.apart (show IsS74 w _ gb194 t240 t241 t242 from by repeat (first | (with_reducible first | exact HI194.out | apply IsS74.alloc | apply IsS74.drewN | apply IsS74.drew | apply IsS74.set_0 | apply IsS74.set_1 | apply IsS74.set_2 | refine IsS74.far ?_ NB194_190.out _ | refine IsS74.far ?_ NB194_211.out _) | exact HI194.out)) (rk_ HO_212004.out) (by decide)) hk (fun _ h => h.2)) (fun _ h => h.1))
              have n1_ := Aside0.mk (Kd.R_mono (Kd.R_keep (IsS74.apart (show IsS74 w _ gb194 t240 t241 t242 from by repeat (first | (with_reducible first | exact HI194.out | apply IsS74.alloc | apply IsS74.drewN | apply IsS74.drew | apply IsS74.set_0 | apply IsS74.set_1 | apply IsS74.set_2 | refine IsS74.far ?_ NB194_190.out _ | refine IsS74.far ?_ NB194_211.out _) | exact HI194.out)) (rk_ HO_212005.out) (by decide)) hk (fun _ h => h.2)) (fun _ h => h.1))
              have n2_ := Aside0.mk (KeepBut.blk hk (g' := gb190) (o := .cells #[.string (⟨#[]⟩ : ByteArray), .string (⟨#[]⟩ : ByteArray), .string (⟨#[]⟩ : ByteArray), .int .i64 0, .slice none 0 0, .slice none 0 0] 25 (0, 0)) (bk_ BK190.out) NB190_194.out (by simp))
              have n3_ := Aside0.mk (KeepBut.blk hk (g' := gb211) (o := .cells #[.string t195, .string t199, .string t203, .int .i64 t207, u212004, u212005] 25 (0, 0)) (bk_ BK211.out) NB211_194.out (by simp))
              have n4_ := Aside0.mk (hb)
              have n5_ := Aside0.mk (hi)
              clear HO_212004 HO_212005 BK190 BK211 HB HI194
              have HO_212004 := n0_; have HO_212005 := n1_; have BK190 := n2_; have BK211 := n3_; have HB := n4_; have HI194 := n5_
              clear n0_ n1_ n2_ n3_ n4_ n5_
              clear hb; clear hk; clear hi
              refine hK.out _ _ ⟨(y07 BK211.out 0).trans rfl, (y07 BK211.out 1).trans rfl, (y07 BK211.out 2).trans rfl, (y07 BK211.out 3).trans rfl, (y07 BK211.out 4).trans rfl, (y07 BK211.out 5).trans rfl⟩ (fun hHeld => ?_)
              clear hK K
              refine no_ (N := some 81) ?_
              refine one_ (i := 7) (N := some 83) (fl 18 1535) rfl rfl (one_of HT_.out (by kernel_rfl)) (by decide) (fun K hK => ?_)
              refine goes_ Try.func64 (by kernel_rfl) rfl #[.pointer (some ⟨gb194, 0, none⟩), .int .i64 1] (by rfl) rfl rfl ar_ ?_
              with_reducible refine (zqg.calls kj41 gb194 t244 t245 t246 1 t247 t248 t249 t250 w _ ?side1 ?side2 A48.out).mono ?_
              (case side1 => repeat (first | (with_reducible first | exact HI194.out | apply IsS74.alloc | apply IsS74.drewN | apply IsS74.drew | apply IsS74.set_0 | apply IsS74.set_1 | apply IsS74.set_2 | refine IsS74.far ?_ NB194_190.out _ | refine IsS74.far ?_ NB194_211.out _) | exact HI194.out))
              (case side2 => repeat (first | (with_reducible first | exact HB.out | apply y00 | apply pw_below_drewN | apply y01 | refine y02 ?_ (IsS74.ge HI194.out) | refine y02 ?_ GE190.out | refine y02 ?_ GE211.out) | exact HB.out))
              rintro e w55 ⟨rfl, hi, hb, hk⟩
              refine ⟨_, rfl, ?_⟩
              have n0_ := Aside0.mk (Kd.R_mono (Kd.R_keep (IsS74.apart (show IsS74 w _ gb194 t244 t245 t246 from by repeat (first | (with_reducible first | exact HI194.out | apply IsS74.alloc | apply IsS74.drewN | apply IsS74.drew | apply IsS74.set_0 | apply IsS74.set_1 | apply IsS74.set_2 | refine IsS74.far ?_ NB194_190.out _ | refine IsS74.far ?_ NB194_211.out _) | exact HI194.out)) (rk_ HO_212004.out) (by decide)) hk (fun _ h => h.2)) (fun _ h => h.1))
              have n1_ := Aside0.mk (Kd.R_mono (Kd.R_keep (IsS74.apart (show IsS74 w _ gb194 t244 t245 t246 from by repeat (first | (with_reducible first | exact HI194.out | apply IsS74.alloc | apply IsS74.drewN | apply IsS74.drew | apply IsS74.set_0 | apply IsS74.set_1 | apply IsS74.set_2 | refine IsS74.far ?_ NB194_190.out _ | refine IsS74.far ?_ NB194_211.out _) | exact HI194.out)) (rk_ HO_212005.out) (by decide)) hk (fun _ h => h.2)) (fun _ h => h.1))
              have n2_ := Aside0.mk (KeepBut.blk hk (g' := gb190) (o := .cells #[.string (⟨#[]⟩ : ByteArray), .string (⟨#[]⟩ : ByteArray), .string (⟨#[]⟩ : ByteArray), .int .i64 0, .slice none 0 0, .slice none 0 0] 25 (0, 0)) (bk_ BK190.out) NB190_194.out (by simp))
              have n3_ := Aside0.mk (KeepBut.blk hk (g' := gb211) (o := .cells #[.string t195, .string t199, .string t203, .int .i64 t207, u212004, u212005] 25 (0, 0)) (bk_ BK211.out) NB211_194.out (by simp))
              have n4_ := Aside0.mk (hb)
              have n5_ := Aside0.mk (hi)
              clear HO_212004 HO_212005 BK190 BK211 HB HI194
              have HO_212004 := n0_; have HO_212005 := n1_; have BK190 := n2_; have BK211 := n3_; have HB := n4_; have HI194 := n5_
              clear n0_ n1_ n2_ n3_ n4_ n5_
              clear hb; clear hk; clear hi
              refine hK.out _ _ ⟨(y07 BK211.out 0).trans rfl, (y07 BK211.out 1).trans rfl, (y07 BK211.out 2).trans rfl, (y07 BK211.out 3).trans rfl, (y07 BK211.out 4).trans rfl, (y07 BK211.out 5).trans rfl⟩ (fun hHeld => ?_)
              clear hK K
              refine no_ (N := some 83) ?_
              refine one_ (i := 9) (N := some 85) (fl 18 2047) rfl rfl (one_of HT_.out (by kernel_rfl)) (by decide) (fun K hK => ?_)
              refine goes_ Try.func63 (by kernel_rfl) rfl #[.pointer (some ⟨gb194, 0, none⟩)] (by rfl) rfl rfl ar_ ?_
              with_reducible refine (zqb.calls kj41 gb194 t248 t249 t250 t251 t252 t253 t254 w _ ?side1 ?side2 A49.out).mono ?_
              (case side1 => repeat (first | (with_reducible first | exact HI194.out | apply IsS74.alloc | apply IsS74.drewN | apply IsS74.drew | apply IsS74.set_0 | apply IsS74.set_1 | apply IsS74.set_2 | refine IsS74.far ?_ NB194_190.out _ | refine IsS74.far ?_ NB194_211.out _) | exact HI194.out))
              (case side2 => repeat (first | (with_reducible first | exact HB.out | apply y00 | apply pw_below_drewN | apply y01 | refine y02 ?_ (IsS74.ge HI194.out) | refine y02 ?_ GE190.out | refine y02 ?_ GE211.out) | exact HB.out))
              rintro e w56 ⟨rfl, hi, hb, hk⟩
              refine ⟨_, rfl, ?_⟩
              have n0_ := Aside0.mk (Kd.R_mono (Kd.R_keep (IsS74.apart (show IsS74 w _ gb194 t248 t249 t250 from by repeat (first | (with_reducible first | exact HI194.out | apply IsS74.alloc | apply IsS74.drewN | apply IsS74.drew | apply IsS74.set_0 | apply IsS74.set_1 | apply IsS74.set_2 | refine IsS74.far ?_ NB194_190.out _ | refine IsS74.far ?_ NB194_211.out _) | exact HI194.out)) (rk_ HO_212004.out) (by decide)) hk (fun _ h => h.2)) (fun _ h => h.1))
              have n1_ := Aside0.mk (Kd.R_mono (Kd.R_keep (IsS74.apart (show IsS74 w _ gb194 t248 t249 t250 from by repeat (first | (with_reducible first | exact HI194.out | apply IsS74.alloc | apply IsS74.drewN | apply IsS74.drew | apply IsS74.set_0 | apply IsS74.set_1 | apply IsS74.set_2 | refine IsS74.far ?_ NB194_190.out _ | refine IsS74.far ?_ NB194_211.out _) | exact HI194.out)) (rk_ HO_212005.out) (by decide)) hk (fun _ h => h.2)) (fun _ h => h.1))
              have n2_ := Aside0.mk (KeepBut.blk hk (g' := gb190) (o := .cells #[.string (⟨#[]⟩ : ByteArray), .string (⟨#[]⟩ : ByteArray), .string (⟨#[]⟩ : ByteArray), .int .i64 0, .slice none 0 0, .slice none 0 0] 25 (0, 0)) (bk_ BK190.out) NB190_194.out (by simp))
              have n3_ := Aside0.mk (KeepBut.blk hk (g' := gb211) (o := .cells #[.string t195, .string t199, .string t203, .int .i64 t207, u212004, u212005] 25 (0, 0)) (bk_ BK211.out) NB211_194.out (by simp))
              have n4_ := Aside0.mk (hb)
              have n5_ := Aside0.mk (hi)
              clear HO_212004 HO_212005 BK190 BK211 HB HI194
              have HO_212004 := n0_; have HO_212005 := n1_; have BK190 := n2_; have BK211 := n3_; have HB := n4_; have HI194 := n5_
              clear n0_ n1_ n2_ n3_ n4_ n5_
              clear hb; clear hk; clear hi
              refine hK.out _ _ ⟨(y07 BK211.out 0).trans rfl, (y07 BK211.out 1).trans rfl, (y07 BK211.out 2).trans rfl, (y07 BK211.out 3).trans rfl, (y07 BK211.out 4).trans rfl, (y07 BK211.out 5).trans rfl⟩ (fun hHeld => ?_)
              clear hK K
              refine no_ (N := some 85) ?_
              refine one_ (i := 11) (N := some 87) (fl 18 4095) rfl rfl (one_of HT_.out (by kernel_rfl)) (by decide) (fun K hK => ?_)
              refine goes_ Try.func64 (by kernel_rfl) rfl #[.pointer (some ⟨gb194, 0, none⟩), .int .i64 1] (by rfl) rfl rfl ar_ ?_
              with_reducible refine (zqg.calls kj41 gb194 t252 t253 t254 1 t255 t256 t257 t258 w _ ?side1 ?side2 A50.out).mono ?_
              (case side1 => repeat (first | (with_reducible first | exact HI194.out | apply IsS74.alloc | apply IsS74.drewN | apply IsS74.drew | apply IsS74.set_0 | apply IsS74.set_1 | apply IsS74.set_2 | refine IsS74.far ?_ NB194_190.out _ | refine IsS74.far ?_ NB194_211.out _) | exact HI194.out))
              (case side2 => repeat (first | (with_reducible first | exact HB.out | apply y00 | apply pw_below_drewN | apply y01 | refine y02 ?_ (IsS74.ge HI194.out) | refine y02 ?_ GE190.out | refine y02 ?_ GE211.out) | exact HB.out))
              rintro e w57 ⟨rfl, hi, hb, hk⟩
              refine ⟨_, rfl, ?_⟩
              have n0_ := Aside0.mk (Kd.R_mono (Kd.R_keep (IsS74.apart (show IsS74 w _ gb194 t252 t253 t254 from by repeat (first | (with_reducible first | exact HI194.out | apply IsS74.alloc | apply IsS74.drewN | apply IsS74.drew | apply IsS74.set_0 | apply IsS74.set_1 | apply IsS74.set_2 | refine IsS74.far ?_ NB194_190.out _ | refine IsS74.far ?_ NB194_211.out _) | exact HI194.out)) (rk_ HO_212004.out) (by decide)) hk (fun _ h => h.2)) (fun _ h => h.1))
              have n1_ := Aside0.mk (Kd.R_mono (Kd.R_keep (IsS74.apart (show IsS74 w _ gb194 t252 t253 t254 from by repeat (first | (with_reducible first | exact HI194.out | apply IsS74.alloc | apply IsS74.drewN | apply IsS74.drew | apply IsS74.set_0 | apply IsS74.set_1 | apply IsS74.set_2 | refine IsS74.far ?_ NB194_190.out _ | refine IsS74.far ?_ NB194_211.out _) | exact HI194.out)) (rk_ HO_212005.out) (by decide)) hk (fun _ h => h.2)) (fun _ h => h.1))
              have n2_ := Aside0.mk (KeepBut.blk hk (g' := gb190) (o := .cells #[.string (⟨#[]⟩ : ByteArray), .string (⟨#[]⟩ : ByteArray), .string (⟨#[]⟩ : ByteArray), .int .i64 0, .slice none 0 0, .slice none 0 0] 25 (0, 0)) (bk_ BK190.out) NB190_194.out (by simp))
              have n3_ := Aside0.mk (KeepBut.blk hk (g' := gb211) (o := .cells #[.string t195, .string t199, .string t203, .int .i64 t207, u212004, u212005] 25 (0, 0)) (bk_ BK211.out) NB211_194.out (by simp))
              have n4_ := Aside0.mk (hb)
              have n5_ := Aside0.mk (hi)
              clear HO_212004 HO_212005 BK190 BK211 HB HI194
              have HO_212004 := n0_; have HO_212005 := n1_; have BK190 := n2_; have BK211 := n3_; have HB := n4_; have HI194 := n5_
              clear n0_ n1_ n2_ n3_ n4_ n5_
              clear hb; clear hk; clear hi
              refine hK.out _ _ ⟨(y07 BK211.out 0).trans rfl, (y07 BK211.out 1).trans rfl, (y07 BK211.out 2).trans rfl, (y07 BK211.out 3).trans rfl, (y07 BK211.out 4).trans rfl, (y07 BK211.out 5).trans rfl⟩ (fun hHeld => ?_)
              clear hK K
              refine no_ (N := some 87) ?_
              refine pu_ 12 (some 88) (fl 18 8191) rfl rfl HT_ ?_
              refine pu_ 13 (some 89) (fl 18 16383) rfl rfl HT_ ?_
              refine one_ (i := 14) (N := some 90) (fl 18 32767) rfl rfl (one_of HT_.out (by kernel_rfl)) (by decide) (fun K hK => ?_)
              refine value_ (w1 := ?_) (v := ?_) (by rfl) rfl ?_ ?_
              rotate_left 2
              ·go_simp
               constructor
               ·rfl
               ·rfl
              refine hK.out _ _ ⟨(y07 (y05 BK211.out _) 0).trans rfl, (y07 (y05 BK211.out _) 1).trans rfl, (y07 (y05 BK211.out _) 2).trans rfl, (y07 (y05 BK211.out _) 3).trans rfl, (y07 (y05 BK211.out _) 4).trans rfl, (y07 (y05 BK211.out _) 5).trans rfl⟩ (fun hHeld => ?_)
              clear hK K
              refine no_ (N := some 90) ?_
              refine one_ (i := 15) (N := some 91) (fl 18 65535) rfl rfl (one_of HT_.out (by kernel_rfl)) (by decide) (fun K hK => ?_)
              refine Kd.R_append_step k43 (w0 := w) w.heap.size (by rfl) (.tmp 77) (.tmp 90) 23 43 (.agg #[(.int .i64 0), (.int .i64 0), (.int .i64 0), (.string ⟨#[]⟩), (.bool false)]) 48 rfl Try.underlying23 info43 rfl (by decide) (by omega) u212005 x212005_3 (⟨t239, t243, t247, t251, (t255 == 1)⟩ : S43) [.int .i64 t239, .int .i64 t243, .int .i64 t247, .string t251, .bool (t255 == 1)] (fun _ => True) (fun _ => False) rfl rfl ?aP (fun _ hk => hk.elim) ?aF ?aO ?aB ?aS ?aL ?_
              (case aP => exact k43_mkM _ _ _ (⟨t239, t243, t247, t251, (t255 == 1)⟩ : S43))
              (case aB => exact (by repeat (first | (with_reducible first | exact HB.out | apply y00 | apply pw_below_drewN | apply y01 | refine y02 ?_ (IsS74.ge HI194.out) | refine y02 ?_ GE190.out | refine y02 ?_ GE211.out) | exact HB.out)))
              (case aF => exact (fun _ _ => trivial))
              (case aO => exact (rk_ HO_212005.out))
              (case aS => exact (y03 (by repeat (first | (with_reducible first | exact HB.out | apply y00 | apply pw_below_drewN | apply y01 | refine y02 ?_ (IsS74.ge HI194.out) | refine y02 ?_ GE190.out | refine y02 ?_ GE211.out) | exact HB.out))))
              (case aL => have := LMc51.out; omega)
              intro v260 w58 ho hb hg hat
              rw [← Ny259.out] at ho
              have n0_ := Aside0.mk (Kd.R_over' (rk_ HO_212004.out) (Kd.R_typed (rk_ HO_212005.out)) (by decide) hg)
              have n1_ := Aside0.mk (blk_grown (bk_ BK190.out) hg (Kd.R_ne HO_212005.out BK190.out (by decide)))
              have n2_ := Aside0.mk (blk_grown (bk_ BK211.out) hg (Kd.R_ne HO_212005.out BK211.out (by decide)))
              have n3_ := Aside0.mk (IsS74.grown (show IsS74 w _ gb194 t256 t257 t258 from by repeat (first | (with_reducible first | exact HI194.out | apply IsS74.alloc | apply IsS74.drewN | apply IsS74.drew | apply IsS74.set_0 | apply IsS74.set_1 | apply IsS74.set_2 | refine IsS74.far ?_ NB194_190.out _ | refine IsS74.far ?_ NB194_211.out _) | exact HI194.out)) hg (IsS74.own_ne HI194.out HO_212005.out (by decide)))
              have n4_ := Aside0.mk (hb)
              have n5_ := Aside0.mk (ho)
              clear HO_212004 BK190 BK211 HI194 HB HO_212005
              have HO_212004 := n0_; have BK190 := n1_; have BK211 := n2_; have HI194 := n3_; have HB := n4_; have HO261 := n5_
              clear n0_ n1_ n2_ n3_ n4_ n5_ ho hb hg hat
              obtain ⟨Ao59, co59, eo59⟩ := Kd.R_slice HO261.out
              (first | subst eo59 | (injection eo59 with f1_ f2_ f3_; have f4_ := f1_.symm; have f5_ := f3_.symm; clear f1_ f2_ f3_; subst f4_; subst f5_))
              refine hK.out _ _ ⟨(y07 BK211.out 0).trans rfl, (y07 BK211.out 1).trans rfl, (y07 BK211.out 2).trans rfl, (y07 BK211.out 3).trans rfl, (y07 BK211.out 4).trans rfl, (y07 BK211.out 5).trans rfl⟩ (fun hHeld => ?_)
              clear hK K
              refine no_ (N := some 91) ?_
              refine pu_ 16 (some 92) (fl 18 131071) rfl rfl HT_ ?_
              refine last_ (i := 17) (N := none) (fl 18 262143) rfl rfl (one_of HT_.out (by kernel_rfl)) (by decide) (fun K hK => ?_)
              have hs60 : w58.cell? ⟨gb211, 5, none⟩ = some (u212005) := (y07 BK211.out 5).trans rfl
              have hfs60 := y0b BK211.out 5
              have hns60_0 := NB190_211.out
              have hms60_0 := NB211_190.out
              refine skip_ (w1 := ?_) (by rfl) rfl ?_ ?_
              rotate_left
              ·go_simp
               rfl
              refine hK.out _ _ ?_
              clear hK K
              refine done_ (done_of HT_.out (by kernel_rfl)) ?_
              try go_wp2
              go_roundg kj41
              case measure => have := HK1.out; have := HJ22.out; have := HK3.out; have := HJ41.out; omega
              case rel => exact ⟨(wrap64 (x9_3 - 1)), (t256), (t257), (t258), (y259), (.slice Ao59 y259.length co59), cl_, H', ⟨by have := HK1.out; have := HJ22.out; have := HK3.out; have := HJ41.out; omega⟩, ⟨by (with_reducible repeat (first | apply Kd.R_alloc | apply Kd.R_drewN | apply Kd.R_drew)); exact Kd.R_mono (Kd.R_far (p := ⟨gb211, 5, none⟩) (Kd.R_types HO_212004.out BK211.out (by decide)) (fun _ hk => hk.2) (.slice Ao59 y259.length co59)) (fun _ hk => trivial)⟩, ⟨by (with_reducible repeat (first | apply Kd.R_alloc | apply Kd.R_drewN | apply Kd.R_drew)); exact Kd.R_mono (Kd.R_far (p := ⟨gb211, 5, none⟩) (Kd.R_types HO261.out BK211.out (by decide)) (fun _ hk => hk.2) (.slice Ao59 y259.length co59)) (fun _ hk => trivial)⟩, ⟨by (with_reducible repeat (first | refine y09 ?_ _ | refine y08 ?_ | refine y05 ?_ _)); refine y0a ?_ NB190_211.out _; (with_reducible repeat (first | refine y09 ?_ _ | refine y08 ?_ | refine y05 ?_ _)); exact BK190.out⟩, ⟨by (with_reducible repeat (first | refine y09 ?_ _ | refine y08 ?_ | refine y05 ?_ _)); refine y0d (cs := #[.string t195, .string t199, .string t203, .int .i64 t207, u212004, u212005]) ?_ 5 _ rfl; (with_reducible repeat (first | refine y09 ?_ _ | refine y08 ?_ | refine y05 ?_ _)); exact BK211.out⟩, ⟨by repeat (first | (with_reducible first | exact HI194.out | apply IsS74.alloc | apply IsS74.drewN | apply IsS74.drew | apply IsS74.set_0 | apply IsS74.set_1 | apply IsS74.set_2 | refine IsS74.far ?_ NB194_190.out _ | refine IsS74.far ?_ NB194_211.out _) | exact HI194.out)⟩, ⟨by repeat (first | (with_reducible first | exact HB.out | apply y00 | apply pw_below_drewN | apply y01 | refine y02 ?_ (IsS74.ge HI194.out) | refine y02 ?_ GE190.out | refine y02 ?_ GE211.out) | exact HB.out)⟩⟩
             ·rw [if_neg c51] at H
              exact absurd H (by simp)
            ·replace c45 := Bool.eq_false_iff.mpr c45
             subst c45
             have H1 : (if x195002_3 = true then (some ((⟨#[]⟩ : ByteArray), (⟨#[]⟩ : ByteArray), (⟨#[]⟩ : ByteArray), 0, ([] : List (S62)), ([] : List (S43)), 9)) else ((zqo.f kj41 t195 t199 t203 t207 x212004_1 x212005_3).bind fun t262 => (if t262 = 0 then ((zqs.f kj41 t195 t199 t203 t207 x212004_1 x212005_3).bind fun t263 => (if t263.toList = t191.toList then (some (t195, t199, t203, t207, x212004_1, x212005_3, 0)) else (some ((⟨#[]⟩ : ByteArray), (⟨#[]⟩ : ByteArray), (⟨#[]⟩ : ByteArray), 0, ([] : List (S62)), ([] : List (S43)), 9)))) else (some ((⟨#[]⟩ : ByteArray), (⟨#[]⟩ : ByteArray), (⟨#[]⟩ : ByteArray), 0, ([] : List (S62)), ([] : List (S43)), 9))))) = some (r1, r2, r3, r4, r5, r6, r7) := by rw [if_neg (show ¬ (false = true) by decide)] at H; exact H
             clear H
             have H := H1
             clear H1
             by_cases c61 : x195002_3 = true
             ·subst c61
              have H1 : (some ((⟨#[]⟩ : ByteArray), (⟨#[]⟩ : ByteArray), (⟨#[]⟩ : ByteArray), 0, ([] : List (S62)), ([] : List (S43)), 9)) = some (r1, r2, r3, r4, r5, r6, r7) := by rw [if_pos rfl] at H; exact H
              clear H
              have H := H1
              clear H1
              simp only [Option.some.injEq, Prod.mk.injEq] at H
              obtain ⟨rfl, rfl, rfl, rfl, rfl, rfl, rfl⟩ := H
              obtain ⟨HGz62, hgz62⟩ := HI194.out
              have hcz62_0 := cellS74_0 HGz62
              have hcz62_1 := cellS74_1 HGz62
              have hcz62_2 := cellS74_2 HGz62
              have hfz62_0 := y0b HGz62 0
              have hfz62_1 := y0b HGz62 1
              have hfz62_2 := y0b HGz62 2
              clear HGz62 hgz62
              have hnb63 := NB190_211.out
              have hnc63 := NB211_190.out
              have hnb64 := NB190_194.out
              have hnc64 := NB194_190.out
              obtain ⟨hcz65_0, hfz65_0⟩ := bc_ BK190.out 0 rfl
              obtain ⟨hcz65_1, hfz65_1⟩ := bc_ BK190.out 1 rfl
              obtain ⟨hcz65_2, hfz65_2⟩ := bc_ BK190.out 2 rfl
              obtain ⟨hcz65_3, hfz65_3⟩ := bc_ BK190.out 3 rfl
              obtain ⟨hcz65_4, hfz65_4⟩ := bc_ BK190.out 4 rfl
              obtain ⟨hcz65_5, hfz65_5⟩ := bc_ BK190.out 5 rfl
              go_wp2
              refine bodyPost_ret (results_ct rfl _ _ gb190 25 #[.string (⟨#[]⟩ : ByteArray), .string (⟨#[]⟩ : ByteArray), .string (⟨#[]⟩ : ByteArray), .int .i64 0, .slice none 0 0, .slice none 0 0] (0, 0) _ rfl (by (with_reducible repeat (first | refine y09 ?_ _ | refine y08 ?_ | refine y05 ?_ _)); refine y0d (cs := #[.string (⟨#[]⟩ : ByteArray), .string (⟨#[]⟩ : ByteArray), .string (⟨#[]⟩ : ByteArray), .int .i64 0, .slice none 0 0, .slice none 0 0]) ?_ 5 _ rfl; (with_reducible repeat (first | refine y09 ?_ _ | refine y08 ?_ | refine y05 ?_ _)); refine y0d (cs := #[.string (⟨#[]⟩ : ByteArray), .string (⟨#[]⟩ : ByteArray), .string (⟨#[]⟩ : ByteArray), .int .i64 0, .slice none 0 0, .slice none 0 0]) ?_ 4 _ rfl; (with_reducible repeat (first | refine y09 ?_ _ | refine y08 ?_ | refine y05 ?_ _)); refine y0d (cs := #[.string (⟨#[]⟩ : ByteArray), .string (⟨#[]⟩ : ByteArray), .string (⟨#[]⟩ : ByteArray), .int .i64 0, .slice none 0 0, .slice none 0 0]) ?_ 3 _ rfl; (with_reducible repeat (first | refine y09 ?_ _ | refine y08 ?_ | refine y05 ?_ _)); refine y0d (cs := #[.string (⟨#[]⟩ : ByteArray), .string (⟨#[]⟩ : ByteArray), .string (⟨#[]⟩ : ByteArray), .int .i64 0, .slice none 0 0, .slice none 0 0]) ?_ 2 _ rfl; (with_reducible repeat (first | refine y09 ?_ _ | refine y08 ?_ | refine y05 ?_ _)); refine y0d (cs := #[.string (⟨#[]⟩ : ByteArray), .string (⟨#[]⟩ : ByteArray), .string (⟨#[]⟩ : ByteArray), .int .i64 0, .slice none 0 0, .slice none 0 0]) ?_ 1 _ rfl; (with_reducible repeat (first | refine y09 ?_ _ | refine y08 ?_ | refine y05 ?_ _)); refine y0d (cs := #[.string (⟨#[]⟩ : ByteArray), .string (⟨#[]⟩ : ByteArray), .string (⟨#[]⟩ : ByteArray), .int .i64 0, .slice none 0 0, .slice none 0 0]) ?_ 0 _ rfl; (with_reducible repeat (first | refine y09 ?_ _ | refine y08 ?_ | refine y05 ?_ _)); exact BK190.out) Try.underlying25 rfl (by kernel_rfl)) rfl ?_
              exact ⟨_, _, ew_, by first | exact Kd.R_nil _ _ _ _ _ | exact Kd.N_nil _ _ _ _ _ | exact Kd.V_nil _ _ _ _ _ | exact Kd.Q_nil _ _ _ _ _ | exact Kd.S_nil _ _ _ _ _, by first | exact Kd.R_nil _ _ _ _ _ | exact Kd.N_nil _ _ _ _ _ | exact Kd.V_nil _ _ _ _ _ | exact Kd.Q_nil _ _ _ _ _ | exact Kd.S_nil _ _ _ _ _, by repeat (first | (with_reducible first | exact HB.out | apply y00 | apply pw_below_drewN | apply y01 | refine y02 ?_ (IsS74.ge HI194.out) | refine y02 ?_ GE190.out | refine y02 ?_ GE211.out) | exact HB.out)⟩
             ·replace c61 := Bool.eq_false_iff.mpr c61
              subst c61
              have H1 : ((zqo.f kj41 t195 t199 t203 t207 x212004_1 x212005_3).bind fun t262 => (if t262 = 0 then ((zqs.f kj41 t195 t199 t203 t207 x212004_1 x212005_3).bind fun t263 => (if t263.toList = t191.toList then (some (t195, t199, t203, t207, x212004_1, x212005_3, 0)) else (some ((⟨#[]⟩ : ByteArray), (⟨#[]⟩ : ByteArray), (⟨#[]⟩ : ByteArray), 0, ([] : List (S62)), ([] : List (S43)), 9)))) else (some ((⟨#[]⟩ : ByteArray), (⟨#[]⟩ : ByteArray), (⟨#[]⟩ : ByteArray), 0, ([] : List (S62)), ([] : List (S43)), 9)))) = some (r1, r2, r3, r4, r5, r6, r7) := by rw [if_neg (show ¬ (false = true) by decide)] at H; exact H
              clear H
              have H := H1
              clear H1
              replace H := Option.bind_eq_some_iff.mp H
              obtain ⟨t262, A660, H⟩ := H
              (try dsimp only at H)
              have A66 := Aside0.mk A660
              clear A660
              by_cases c67 : t262 = 0
              ·rw [if_pos c67] at H
               have c67b0 : (t262 == 0) = true := beq_iff_eq.mpr c67
               have c67b1 : (t262 != 0) = false := bne_eq_false_iff_eq.mpr c67
               clear c67
               replace H := Option.bind_eq_some_iff.mp H
               obtain ⟨t263, A680, H⟩ := H
               (try dsimp only at H)
               have A68 := Aside0.mk A680
               clear A680
               by_cases c69 : t263.toList = t191.toList
               ·rw [if_pos c69] at H
                have c69b0 : (t263.toList == t191.toList) = true := beq_iff_eq.mpr c69
                have c69b1 : (t263.toList != t191.toList) = false := bne_eq_false_iff_eq.mpr c69
                clear c69
                simp only [Option.some.injEq, Prod.mk.injEq] at H
                obtain ⟨rfl, rfl, rfl, rfl, rfl, rfl, rfl⟩ := H
                obtain ⟨HGz70, hgz70⟩ := HI194.out
                have hcz70_0 := cellS74_0 HGz70
                have hcz70_1 := cellS74_1 HGz70
                have hcz70_2 := cellS74_2 HGz70
                have hfz70_0 := y0b HGz70 0
                have hfz70_1 := y0b HGz70 1
                have hfz70_2 := y0b HGz70 2
                clear HGz70 hgz70
                have hnb71 := NB211_190.out
                have hnc71 := NB190_211.out
                have hnb72 := NB211_194.out
                have hnc72 := NB194_211.out
                obtain ⟨hcz73_0, hfz73_0⟩ := bc_ BK211.out 0 rfl
                obtain ⟨hcz73_1, hfz73_1⟩ := bc_ BK211.out 1 rfl
                obtain ⟨hcz73_2, hfz73_2⟩ := bc_ BK211.out 2 rfl
                obtain ⟨hcz73_3, hfz73_3⟩ := bc_ BK211.out 3 rfl
                obtain ⟨hcz73_4, hfz73_4⟩ := bc_ BK211.out 4 rfl
                obtain ⟨hcz73_5, hfz73_5⟩ := bc_ BK211.out 5 rfl
                obtain ⟨Ao74, co74, eo74⟩ := Kd.R_slice HO_212004.out
                subst eo74
                obtain ⟨Ao75, co75, eo75⟩ := Kd.R_slice HO_212005.out
                subst eo75
                go_wp2_with (first | (go_at_call 18; (with_reducible refine (zqo.calls kj41 t195 t199 t203 t207 _ _ x212004_1 _ _ x212005_3 t262 _ ?side1 ?side2 ?side3 ?side4 A66.out).mono ?_); (case side1 => repeat (first | exact (Kd.R_reads' HO_212004.out).2.2 | (with_reducible refine Kd.C_alloc ?_ _) | (with_reducible refine Kd.C_drewN ?_ _) | (with_reducible refine Kd.C_drew ?_))); (case side2 => exact (Kd.R_reads' HO_212004.out).2.1); (case side3 => repeat (first | exact (Kd.R_reads' HO_212005.out).2.2 | (with_reducible refine Kd.C_alloc ?_ _) | (with_reducible refine Kd.C_drewN ?_ _) | (with_reducible refine Kd.C_drew ?_))); (case side4 => exact (Kd.R_reads' HO_212005.out).2.1); rintro e w76 ⟨rfl, hb⟩; have n0_ := Aside0.mk (Kd.R_below (rk_ HO_212004.out) hb); have n1_ := Aside0.mk (Kd.R_below (rk_ HO_212005.out) hb); have n2_ := Aside0.mk (y06 (bk_ BK190.out) hb); have n3_ := Aside0.mk (y06 (bk_ BK211.out) hb); have n4_ := Aside0.mk (IsS74.below (by repeat (first | (with_reducible first | exact HI194.out | apply IsS74.alloc | apply IsS74.drewN | apply IsS74.drew | apply IsS74.set_0 | apply IsS74.set_1 | apply IsS74.set_2 | refine IsS74.far ?_ NB194_190.out _ | refine IsS74.far ?_ NB194_211.out _) | exact HI194.out)) hb); have n5_ := Aside0.mk (y04 (by repeat (first | (with_reducible first | exact HB.out | apply y00 | apply pw_below_drewN | apply y01 | refine y02 ?_ (IsS74.ge HI194.out) | refine y02 ?_ GE190.out | refine y02 ?_ GE211.out) | exact HB.out)) hb); clear HO_212004 HO_212005 BK190 BK211 HI194 HB; have HO_212004 := n0_; have HO_212005 := n1_; have BK190 := n2_; have BK211 := n3_; have HI194 := n4_; have HB := n5_; clear n0_ n1_ n2_ n3_ n4_ n5_; clear hb; obtain ⟨hcz77_0, hfz77_0⟩ := bc_ BK211.out 0 rfl; obtain ⟨hcz77_1, hfz77_1⟩ := bc_ BK211.out 1 rfl; obtain ⟨hcz77_2, hfz77_2⟩ := bc_ BK211.out 2 rfl; obtain ⟨hcz77_3, hfz77_3⟩ := bc_ BK211.out 3 rfl; obtain ⟨hcz77_4, hfz77_4⟩ := bc_ BK211.out 4 rfl; obtain ⟨hcz77_5, hfz77_5⟩ := bc_ BK211.out 5 rfl) | (go_at_call 55; (with_reducible refine (zqs.calls kj41 t195 t199 t203 t207 _ _ x212004_1 _ _ x212005_3 t263 _ ?side1 ?side2 ?side3 ?side4 A68.out).mono ?_); (case side1 => repeat (first | exact (Kd.R_reads' HO_212004.out).2.2 | (with_reducible refine Kd.C_alloc ?_ _) | (with_reducible refine Kd.C_drewN ?_ _) | (with_reducible refine Kd.C_drew ?_))); (case side2 => exact (Kd.R_reads' HO_212004.out).2.1); (case side3 => repeat (first | exact (Kd.R_reads' HO_212005.out).2.2 | (with_reducible refine Kd.C_alloc ?_ _) | (with_reducible refine Kd.C_drewN ?_ _) | (with_reducible refine Kd.C_drew ?_))); (case side4 => exact (Kd.R_reads' HO_212005.out).2.1); rintro e w78 ⟨rfl, hb⟩; have n0_ := Aside0.mk (Kd.R_below (rk_ HO_212004.out) hb); have n1_ := Aside0.mk (Kd.R_below (rk_ HO_212005.out) hb); have n2_ := Aside0.mk (y06 (bk_ BK190.out) hb); have n3_ := Aside0.mk (y06 (bk_ BK211.out) hb); have n4_ := Aside0.mk (IsS74.below (by repeat (first | (with_reducible first | exact HI194.out | apply IsS74.alloc | apply IsS74.drewN | apply IsS74.drew | apply IsS74.set_0 | apply IsS74.set_1 | apply IsS74.set_2 | refine IsS74.far ?_ NB194_190.out _ | refine IsS74.far ?_ NB194_211.out _) | exact HI194.out)) hb); have n5_ := Aside0.mk (y04 (by repeat (first | (with_reducible first | exact HB.out | apply y00 | apply pw_below_drewN | apply y01 | refine y02 ?_ (IsS74.ge HI194.out) | refine y02 ?_ GE190.out | refine y02 ?_ GE211.out) | exact HB.out)) hb); clear HO_212004 HO_212005 BK190 BK211 HI194 HB; have HO_212004 := n0_; have HO_212005 := n1_; have BK190 := n2_; have BK211 := n3_; have HI194 := n4_; have HB := n5_; clear n0_ n1_ n2_ n3_ n4_ n5_; clear hb; obtain ⟨hcz79_0, hfz79_0⟩ := bc_ BK211.out 0 rfl; obtain ⟨hcz79_1, hfz79_1⟩ := bc_ BK211.out 1 rfl; obtain ⟨hcz79_2, hfz79_2⟩ := bc_ BK211.out 2 rfl; obtain ⟨hcz79_3, hfz79_3⟩ := bc_ BK211.out 3 rfl; obtain ⟨hcz79_4, hfz79_4⟩ := bc_ BK211.out 4 rfl; obtain ⟨hcz79_5, hfz79_5⟩ := bc_ BK211.out 5 rfl; have hnb80 := NB190_194.out; have hnc80 := NB194_190.out; obtain ⟨hcz81_0, hfz81_0⟩ := bc_ BK190.out 0 rfl; obtain ⟨hcz81_1, hfz81_1⟩ := bc_ BK190.out 1 rfl; obtain ⟨hcz81_2, hfz81_2⟩ := bc_ BK190.out 2 rfl; obtain ⟨hcz81_3, hfz81_3⟩ := bc_ BK190.out 3 rfl; obtain ⟨hcz81_4, hfz81_4⟩ := bc_ BK190.out 4 rfl; obtain ⟨hcz81_5, hfz81_5⟩ := bc_ BK190.out 5 rfl))
                refine bodyPost_ret (results_ct rfl _ _ gb190 25 #[.string t195, .string t199, .string t203, .int .i64 t207, .slice Ao74 x212004_1.length co74, .slice Ao75 x212005_3.length co75] (0, 0) _ rfl (by (with_reducible repeat (first | refine y09 ?_ _ | refine y08 ?_ | refine y05 ?_ _)); refine y0d (cs := #[.string t195, .string t199, .string t203, .int .i64 t207, .slice Ao74 x212004_1.length co74, .slice none 0 0]) ?_ 5 _ rfl; (with_reducible repeat (first | refine y09 ?_ _ | refine y08 ?_ | refine y05 ?_ _)); refine y0d (cs := #[.string t195, .string t199, .string t203, .int .i64 t207, .slice none 0 0, .slice none 0 0]) ?_ 4 _ rfl; (with_reducible repeat (first | refine y09 ?_ _ | refine y08 ?_ | refine y05 ?_ _)); refine y0d (cs := #[.string t195, .string t199, .string t203, .int .i64 0, .slice none 0 0, .slice none 0 0]) ?_ 3 _ rfl; (with_reducible repeat (first | refine y09 ?_ _ | refine y08 ?_ | refine y05 ?_ _)); refine y0d (cs := #[.string t195, .string t199, .string (⟨#[]⟩ : ByteArray), .int .i64 0, .slice none 0 0, .slice none 0 0]) ?_ 2 _ rfl; (with_reducible repeat (first | refine y09 ?_ _ | refine y08 ?_ | refine y05 ?_ _)); refine y0d (cs := #[.string t195, .string (⟨#[]⟩ : ByteArray), .string (⟨#[]⟩ : ByteArray), .int .i64 0, .slice none 0 0, .slice none 0 0]) ?_ 1 _ rfl; (with_reducible repeat (first | refine y09 ?_ _ | refine y08 ?_ | refine y05 ?_ _)); refine y0d (cs := #[.string (⟨#[]⟩ : ByteArray), .string (⟨#[]⟩ : ByteArray), .string (⟨#[]⟩ : ByteArray), .int .i64 0, .slice none 0 0, .slice none 0 0]) ?_ 0 _ rfl; (with_reducible repeat (first | refine y09 ?_ _ | refine y08 ?_ | refine y05 ?_ _)); exact BK190.out) Try.underlying25 rfl (by kernel_rfl)) rfl ?_
                exact ⟨_, _, ew_, by (with_reducible repeat (first | apply Kd.R_alloc | apply Kd.R_drewN | apply Kd.R_drew)); exact Kd.R_mono (Kd.R_far (p := ⟨gb190, 5, none⟩) (Kd.R_far (p := ⟨gb190, 4, none⟩) (Kd.R_far (p := ⟨gb190, 3, none⟩) (Kd.R_far (p := ⟨gb190, 2, none⟩) (Kd.R_far (p := ⟨gb190, 1, none⟩) (Kd.R_far (p := ⟨gb190, 0, none⟩) (Kd.R_types HO_212004.out BK190.out (by decide)) (fun _ hk => hk.2) (.string t195)) (fun _ hk => hk.2) (.string t199)) (fun _ hk => hk.2) (.string t203)) (fun _ hk => hk.2) (.int .i64 t207)) (fun _ hk => hk.2) (.slice Ao74 x212004_1.length co74)) (fun _ hk => hk.2) (.slice Ao75 x212005_3.length co75)) (fun _ hk => trivial), by (with_reducible repeat (first | apply Kd.R_alloc | apply Kd.R_drewN | apply Kd.R_drew)); exact Kd.R_mono (Kd.R_far (p := ⟨gb190, 5, none⟩) (Kd.R_far (p := ⟨gb190, 4, none⟩) (Kd.R_far (p := ⟨gb190, 3, none⟩) (Kd.R_far (p := ⟨gb190, 2, none⟩) (Kd.R_far (p := ⟨gb190, 1, none⟩) (Kd.R_far (p := ⟨gb190, 0, none⟩) (Kd.R_types HO_212005.out BK190.out (by decide)) (fun _ hk => hk.2) (.string t195)) (fun _ hk => hk.2) (.string t199)) (fun _ hk => hk.2) (.string t203)) (fun _ hk => hk.2) (.int .i64 t207)) (fun _ hk => hk.2) (.slice Ao74 x212004_1.length co74)) (fun _ hk => hk.2) (.slice Ao75 x212005_3.length co75)) (fun _ hk => trivial), by repeat (first | (with_reducible first | exact HB.out | apply y00 | apply pw_below_drewN | apply y01 | refine y02 ?_ (IsS74.ge HI194.out) | refine y02 ?_ GE190.out | refine y02 ?_ GE211.out) | exact HB.out)⟩
               ·rw [if_neg c69] at H
                have c69b0 : (t263.toList == t191.toList) = false := beq_eq_false_iff_ne.mpr c69
                have c69b1 : (t263.toList != t191.toList) = true := bne_iff_ne.mpr c69
                simp only [Option.some.injEq, Prod.mk.injEq] at H
                obtain ⟨rfl, rfl, rfl, rfl, rfl, rfl, rfl⟩ := H
                obtain ⟨HGz82, hgz82⟩ := HI194.out
                have hcz82_0 := cellS74_0 HGz82
                have hcz82_1 := cellS74_1 HGz82
                have hcz82_2 := cellS74_2 HGz82
                have hfz82_0 := y0b HGz82 0
                have hfz82_1 := y0b HGz82 1
                have hfz82_2 := y0b HGz82 2
                clear HGz82 hgz82
                have hnb83 := NB211_190.out
                have hnc83 := NB190_211.out
                have hnb84 := NB211_194.out
                have hnc84 := NB194_211.out
                obtain ⟨hcz85_0, hfz85_0⟩ := bc_ BK211.out 0 rfl
                obtain ⟨hcz85_1, hfz85_1⟩ := bc_ BK211.out 1 rfl
                obtain ⟨hcz85_2, hfz85_2⟩ := bc_ BK211.out 2 rfl
                obtain ⟨hcz85_3, hfz85_3⟩ := bc_ BK211.out 3 rfl
                obtain ⟨hcz85_4, hfz85_4⟩ := bc_ BK211.out 4 rfl
                obtain ⟨hcz85_5, hfz85_5⟩ := bc_ BK211.out 5 rfl
                obtain ⟨Ao86, co86, eo86⟩ := Kd.R_slice HO_212004.out
                subst eo86
                obtain ⟨Ao87, co87, eo87⟩ := Kd.R_slice HO_212005.out
                subst eo87
                go_wp2_with (first | (go_at_call 18; (with_reducible refine (zqo.calls kj41 t195 t199 t203 t207 _ _ x212004_1 _ _ x212005_3 t262 _ ?side1 ?side2 ?side3 ?side4 A66.out).mono ?_); (case side1 => repeat (first | exact (Kd.R_reads' HO_212004.out).2.2 | (with_reducible refine Kd.C_alloc ?_ _) | (with_reducible refine Kd.C_drewN ?_ _) | (with_reducible refine Kd.C_drew ?_))); (case side2 => exact (Kd.R_reads' HO_212004.out).2.1); (case side3 => repeat (first | exact (Kd.R_reads' HO_212005.out).2.2 | (with_reducible refine Kd.C_alloc ?_ _) | (with_reducible refine Kd.C_drewN ?_ _) | (with_reducible refine Kd.C_drew ?_))); (case side4 => exact (Kd.R_reads' HO_212005.out).2.1); rintro e w88 ⟨rfl, hb⟩; have n0_ := Aside0.mk (Kd.R_below (rk_ HO_212004.out) hb); have n1_ := Aside0.mk (Kd.R_below (rk_ HO_212005.out) hb); have n2_ := Aside0.mk (y06 (bk_ BK190.out) hb); have n3_ := Aside0.mk (y06 (bk_ BK211.out) hb); have n4_ := Aside0.mk (IsS74.below (by repeat (first | (with_reducible first | exact HI194.out | apply IsS74.alloc | apply IsS74.drewN | apply IsS74.drew | apply IsS74.set_0 | apply IsS74.set_1 | apply IsS74.set_2 | refine IsS74.far ?_ NB194_190.out _ | refine IsS74.far ?_ NB194_211.out _) | exact HI194.out)) hb); have n5_ := Aside0.mk (y04 (by repeat (first | (with_reducible first | exact HB.out | apply y00 | apply pw_below_drewN | apply y01 | refine y02 ?_ (IsS74.ge HI194.out) | refine y02 ?_ GE190.out | refine y02 ?_ GE211.out) | exact HB.out)) hb); clear HO_212004 HO_212005 BK190 BK211 HI194 HB; have HO_212004 := n0_; have HO_212005 := n1_; have BK190 := n2_; have BK211 := n3_; have HI194 := n4_; have HB := n5_; clear n0_ n1_ n2_ n3_ n4_ n5_; clear hb; obtain ⟨hcz89_0, hfz89_0⟩ := bc_ BK211.out 0 rfl; obtain ⟨hcz89_1, hfz89_1⟩ := bc_ BK211.out 1 rfl; obtain ⟨hcz89_2, hfz89_2⟩ := bc_ BK211.out 2 rfl; obtain ⟨hcz89_3, hfz89_3⟩ := bc_ BK211.out 3 rfl; obtain ⟨hcz89_4, hfz89_4⟩ := bc_ BK211.out 4 rfl; obtain ⟨hcz89_5, hfz89_5⟩ := bc_ BK211.out 5 rfl) | (go_at_call 55; (with_reducible refine (zqs.calls kj41 t195 t199 t203 t207 _ _ x212004_1 _ _ x212005_3 t263 _ ?side1 ?side2 ?side3 ?side4 A68.out).mono ?_); (case side1 => repeat (first | exact (Kd.R_reads' HO_212004.out).2.2 | (with_reducible refine Kd.C_alloc ?_ _) | (with_reducible refine Kd.C_drewN ?_ _) | (with_reducible refine Kd.C_drew ?_))); (case side2 => exact (Kd.R_reads' HO_212004.out).2.1); (case side3 => repeat (first | exact (Kd.R_reads' HO_212005.out).2.2 | (with_reducible refine Kd.C_alloc ?_ _) | (with_reducible refine Kd.C_drewN ?_ _) | (with_reducible refine Kd.C_drew ?_))); (case side4 => exact (Kd.R_reads' HO_212005.out).2.1); rintro e w90 ⟨rfl, hb⟩; have n0_ := Aside0.mk (Kd.R_below (rk_ HO_212004.out) hb); have n1_ := Aside0.mk (Kd.R_below (rk_ HO_212005.out) hb); have n2_ := Aside0.mk (y06 (bk_ BK190.out) hb); have n3_ := Aside0.mk (y06 (bk_ BK211.out) hb); have n4_ := Aside0.mk (IsS74.below (by repeat (first | (with_reducible first | exact HI194.out | apply IsS74.alloc | apply IsS74.drewN | apply IsS74.drew | apply IsS74.set_0 | apply IsS74.set_1 | apply IsS74.set_2 | refine IsS74.far ?_ NB194_190.out _ | refine IsS74.far ?_ NB194_211.out _) | exact HI194.out)) hb); have n5_ := Aside0.mk (y04 (by repeat (first | (with_reducible first | exact HB.out | apply y00 | apply pw_below_drewN | apply y01 | refine y02 ?_ (IsS74.ge HI194.out) | refine y02 ?_ GE190.out | refine y02 ?_ GE211.out) | exact HB.out)) hb); clear HO_212004 HO_212005 BK190 BK211 HI194 HB; have HO_212004 := n0_; have HO_212005 := n1_; have BK190 := n2_; have BK211 := n3_; have HI194 := n4_; have HB := n5_; clear n0_ n1_ n2_ n3_ n4_ n5_; clear hb; have hnb91 := NB190_194.out; have hnc91 := NB194_190.out; obtain ⟨hcz92_0, hfz92_0⟩ := bc_ BK190.out 0 rfl; obtain ⟨hcz92_1, hfz92_1⟩ := bc_ BK190.out 1 rfl; obtain ⟨hcz92_2, hfz92_2⟩ := bc_ BK190.out 2 rfl; obtain ⟨hcz92_3, hfz92_3⟩ := bc_ BK190.out 3 rfl; obtain ⟨hcz92_4, hfz92_4⟩ := bc_ BK190.out 4 rfl; obtain ⟨hcz92_5, hfz92_5⟩ := bc_ BK190.out 5 rfl))
                refine bodyPost_ret (results_ct rfl _ _ gb190 25 #[.string (⟨#[]⟩ : ByteArray), .string (⟨#[]⟩ : ByteArray), .string (⟨#[]⟩ : ByteArray), .int .i64 0, .slice none 0 0, .slice none 0 0] (0, 0) _ rfl (by (with_reducible repeat (first | refine y09 ?_ _ | refine y08 ?_ | refine y05 ?_ _)); refine y0d (cs := #[.string (⟨#[]⟩ : ByteArray), .string (⟨#[]⟩ : ByteArray), .string (⟨#[]⟩ : ByteArray), .int .i64 0, .slice none 0 0, .slice none 0 0]) ?_ 5 _ rfl; (with_reducible repeat (first | refine y09 ?_ _ | refine y08 ?_ | refine y05 ?_ _)); refine y0d (cs := #[.string (⟨#[]⟩ : ByteArray), .string (⟨#[]⟩ : ByteArray), .string (⟨#[]⟩ : ByteArray), .int .i64 0, .slice none 0 0, .slice none 0 0]) ?_ 4 _ rfl; (with_reducible repeat (first | refine y09 ?_ _ | refine y08 ?_ | refine y05 ?_ _)); refine y0d (cs := #[.string (⟨#[]⟩ : ByteArray), .string (⟨#[]⟩ : ByteArray), .string (⟨#[]⟩ : ByteArray), .int .i64 0, .slice none 0 0, .slice none 0 0]) ?_ 3 _ rfl; (with_reducible repeat (first | refine y09 ?_ _ | refine y08 ?_ | refine y05 ?_ _)); refine y0d (cs := #[.string (⟨#[]⟩ : ByteArray), .string (⟨#[]⟩ : ByteArray), .string (⟨#[]⟩ : ByteArray), .int .i64 0, .slice none 0 0, .slice none 0 0]) ?_ 2 _ rfl; (with_reducible repeat (first | refine y09 ?_ _ | refine y08 ?_ | refine y05 ?_ _)); refine y0d (cs := #[.string (⟨#[]⟩ : ByteArray), .string (⟨#[]⟩ : ByteArray), .string (⟨#[]⟩ : ByteArray), .int .i64 0, .slice none 0 0, .slice none 0 0]) ?_ 1 _ rfl; (with_reducible repeat (first | refine y09 ?_ _ | refine y08 ?_ | refine y05 ?_ _)); refine y0d (cs := #[.string (⟨#[]⟩ : ByteArray), .string (⟨#[]⟩ : ByteArray), .string (⟨#[]⟩ : ByteArray), .int .i64 0, .slice none 0 0, .slice none 0 0]) ?_ 0 _ rfl; (with_reducible repeat (first | refine y09 ?_ _ | refine y08 ?_ | refine y05 ?_ _)); exact BK190.out) Try.underlying25 rfl (by kernel_rfl)) rfl ?_
                exact ⟨_, _, ew_, by first | exact Kd.R_nil _ _ _ _ _ | exact Kd.N_nil _ _ _ _ _ | exact Kd.V_nil _ _ _ _ _ | exact Kd.Q_nil _ _ _ _ _ | exact Kd.S_nil _ _ _ _ _, by first | exact Kd.R_nil _ _ _ _ _ | exact Kd.N_nil _ _ _ _ _ | exact Kd.V_nil _ _ _ _ _ | exact Kd.Q_nil _ _ _ _ _ | exact Kd.S_nil _ _ _ _ _, by repeat (first | (with_reducible first | exact HB.out | apply y00 | apply pw_below_drewN | apply y01 | refine y02 ?_ (IsS74.ge HI194.out) | refine y02 ?_ GE190.out | refine y02 ?_ GE211.out) | exact HB.out)⟩
              ·rw [if_neg c67] at H
               have c67b0 : (t262 == 0) = false := beq_eq_false_iff_ne.mpr c67
               have c67b1 : (t262 != 0) = true := bne_iff_ne.mpr c67
               simp only [Option.some.injEq, Prod.mk.injEq] at H
               obtain ⟨rfl, rfl, rfl, rfl, rfl, rfl, rfl⟩ := H
               obtain ⟨HGz93, hgz93⟩ := HI194.out
               have hcz93_0 := cellS74_0 HGz93
               have hcz93_1 := cellS74_1 HGz93
               have hcz93_2 := cellS74_2 HGz93
               have hfz93_0 := y0b HGz93 0
               have hfz93_1 := y0b HGz93 1
               have hfz93_2 := y0b HGz93 2
               clear HGz93 hgz93
               have hnb94 := NB211_190.out
               have hnc94 := NB190_211.out
               have hnb95 := NB211_194.out
               have hnc95 := NB194_211.out
               obtain ⟨hcz96_0, hfz96_0⟩ := bc_ BK211.out 0 rfl
               obtain ⟨hcz96_1, hfz96_1⟩ := bc_ BK211.out 1 rfl
               obtain ⟨hcz96_2, hfz96_2⟩ := bc_ BK211.out 2 rfl
               obtain ⟨hcz96_3, hfz96_3⟩ := bc_ BK211.out 3 rfl
               obtain ⟨hcz96_4, hfz96_4⟩ := bc_ BK211.out 4 rfl
               obtain ⟨hcz96_5, hfz96_5⟩ := bc_ BK211.out 5 rfl
               obtain ⟨Ao97, co97, eo97⟩ := Kd.R_slice HO_212004.out
               subst eo97
               obtain ⟨Ao98, co98, eo98⟩ := Kd.R_slice HO_212005.out
               subst eo98
               go_wp2_with (first | (go_at_call 18; (with_reducible refine (zqo.calls kj41 t195 t199 t203 t207 _ _ x212004_1 _ _ x212005_3 t262 _ ?side1 ?side2 ?side3 ?side4 A66.out).mono ?_); (case side1 => repeat (first | exact (Kd.R_reads' HO_212004.out).2.2 | (with_reducible refine Kd.C_alloc ?_ _) | (with_reducible refine Kd.C_drewN ?_ _) | (with_reducible refine Kd.C_drew ?_))); (case side2 => exact (Kd.R_reads' HO_212004.out).2.1); (case side3 => repeat (first | exact (Kd.R_reads' HO_212005.out).2.2 | (with_reducible refine Kd.C_alloc ?_ _) | (with_reducible refine Kd.C_drewN ?_ _) | (with_reducible refine Kd.C_drew ?_))); (case side4 => exact (Kd.R_reads' HO_212005.out).2.1); rintro e w99 ⟨rfl, hb⟩; have n0_ := Aside0.mk (Kd.R_below (rk_ HO_212004.out) hb); have n1_ := Aside0.mk (Kd.R_below (rk_ HO_212005.out) hb); have n2_ := Aside0.mk (y06 (bk_ BK190.out) hb); have n3_ := Aside0.mk (y06 (bk_ BK211.out) hb); have n4_ := Aside0.mk (IsS74.below (by repeat (first | (with_reducible first | exact HI194.out | apply IsS74.alloc | apply IsS74.drewN | apply IsS74.drew | apply IsS74.set_0 | apply IsS74.set_1 | apply IsS74.set_2 | refine IsS74.far ?_ NB194_190.out _ | refine IsS74.far ?_ NB194_211.out _) | exact HI194.out)) hb); have n5_ := Aside0.mk (y04 (by repeat (first | (with_reducible first | exact HB.out | apply y00 | apply pw_below_drewN | apply y01 | refine y02 ?_ (IsS74.ge HI194.out) | refine y02 ?_ GE190.out | refine y02 ?_ GE211.out) | exact HB.out)) hb); clear HO_212004 HO_212005 BK190 BK211 HI194 HB; have HO_212004 := n0_; have HO_212005 := n1_; have BK190 := n2_; have BK211 := n3_; have HI194 := n4_; have HB := n5_; clear n0_ n1_ n2_ n3_ n4_ n5_; clear hb; have hnb100 := NB190_194.out; have hnc100 := NB194_190.out; obtain ⟨hcz101_0, hfz101_0⟩ := bc_ BK190.out 0 rfl; obtain ⟨hcz101_1, hfz101_1⟩ := bc_ BK190.out 1 rfl; obtain ⟨hcz101_2, hfz101_2⟩ := bc_ BK190.out 2 rfl; obtain ⟨hcz101_3, hfz101_3⟩ := bc_ BK190.out 3 rfl; obtain ⟨hcz101_4, hfz101_4⟩ := bc_ BK190.out 4 rfl; obtain ⟨hcz101_5, hfz101_5⟩ := bc_ BK190.out 5 rfl))
               refine bodyPost_ret (results_ct rfl _ _ gb190 25 #[.string (⟨#[]⟩ : ByteArray), .string (⟨#[]⟩ : ByteArray), .string (⟨#[]⟩ : ByteArray), .int .i64 0, .slice none 0 0, .slice none 0 0] (0, 0) _ rfl (by (with_reducible repeat (first | refine y09 ?_ _ | refine y08 ?_ | refine y05 ?_ _)); refine y0d (cs := #[.string (⟨#[]⟩ : ByteArray), .string (⟨#[]⟩ : ByteArray), .string (⟨#[]⟩ : ByteArray), .int .i64 0, .slice none 0 0, .slice none 0 0]) ?_ 5 _ rfl; (with_reducible repeat (first | refine y09 ?_ _ | refine y08 ?_ | refine y05 ?_ _)); refine y0d (cs := #[.string (⟨#[]⟩ : ByteArray), .string (⟨#[]⟩ : ByteArray), .string (⟨#[]⟩ : ByteArray), .int .i64 0, .slice none 0 0, .slice none 0 0]) ?_ 4 _ rfl; (with_reducible repeat (first | refine y09 ?_ _ | refine y08 ?_ | refine y05 ?_ _)); refine y0d (cs := #[.string (⟨#[]⟩ : ByteArray), .string (⟨#[]⟩ : ByteArray), .string (⟨#[]⟩ : ByteArray), .int .i64 0, .slice none 0 0, .slice none 0 0]) ?_ 3 _ rfl; (with_reducible repeat (first | refine y09 ?_ _ | refine y08 ?_ | refine y05 ?_ _)); refine y0d (cs := #[.string (⟨#[]⟩ : ByteArray), .string (⟨#[]⟩ : ByteArray), .string (⟨#[]⟩ : ByteArray), .int .i64 0, .slice none 0 0, .slice none 0 0]) ?_ 2 _ rfl; (with_reducible repeat (first | refine y09 ?_ _ | refine y08 ?_ | refine y05 ?_ _)); refine y0d (cs := #[.string (⟨#[]⟩ : ByteArray), .string (⟨#[]⟩ : ByteArray), .string (⟨#[]⟩ : ByteArray), .int .i64 0, .slice none 0 0, .slice none 0 0]) ?_ 1 _ rfl; (with_reducible repeat (first | refine y09 ?_ _ | refine y08 ?_ | refine y05 ?_ _)); refine y0d (cs := #[.string (⟨#[]⟩ : ByteArray), .string (⟨#[]⟩ : ByteArray), .string (⟨#[]⟩ : ByteArray), .int .i64 0, .slice none 0 0, .slice none 0 0]) ?_ 0 _ rfl; (with_reducible repeat (first | refine y09 ?_ _ | refine y08 ?_ | refine y05 ?_ _)); exact BK190.out) Try.underlying25 rfl (by kernel_rfl)) rfl ?_
               exact ⟨_, _, ew_, by first | exact Kd.R_nil _ _ _ _ _ | exact Kd.N_nil _ _ _ _ _ | exact Kd.V_nil _ _ _ _ _ | exact Kd.Q_nil _ _ _ _ _ | exact Kd.S_nil _ _ _ _ _, by first | exact Kd.R_nil _ _ _ _ _ | exact Kd.N_nil _ _ _ _ _ | exact Kd.V_nil _ _ _ _ _ | exact Kd.Q_nil _ _ _ _ _ | exact Kd.S_nil _ _ _ _ _, by repeat (first | (with_reducible first | exact HB.out | apply y00 | apply pw_below_drewN | apply y01 | refine y02 ?_ (IsS74.ge HI194.out) | refine y02 ?_ GE190.out | refine y02 ?_ GE211.out) | exact HB.out)⟩
  ·replace c5 := Bool.eq_false_iff.mpr c5
   subst c5
   have H1 : (some ((⟨#[]⟩ : ByteArray), (⟨#[]⟩ : ByteArray), (⟨#[]⟩ : ByteArray), 0, ([] : List (S62)), ([] : List (S43)), 9)) = some (r1, r2, r3, r4, r5, r6, r7) := by rw [if_neg (show ¬ (false = true) by decide)] at H; exact H
   clear H
   have H := H1
   clear H1
   simp only [Option.some.injEq, Prod.mk.injEq] at H
   obtain ⟨rfl, rfl, rfl, rfl, rfl, rfl, rfl⟩ := H
   go_enter Try.func24, Try.ntmps24
   go_wp2_with (first | ((with_reducible refine y0j (N := 2) rfl ?_); refine y0e ?hg (N := 2) ?hd (cs := #[.string (⟨#[]⟩ : ByteArray), .string (⟨#[]⟩ : ByteArray), .string (⟨#[]⟩ : ByteArray), .int .i64 0, .slice none 0 0, .slice none 0 0]) (t := 25) ?hr ?_; (case hd => rfl); (case hg => rfl); (case hr => first | (go_simp; done) | (go_simp; rfl)); intro gb190 hg w102 hbox hb; have n0_ := Aside0.mk (y04 hb_ hb); have n1_ := Aside0.mk (hbox); have n2_ := Aside0.mk ((by rw [hg]; exact (y03 hb_) : w.heap.size ≤ gb190)); have n3_ := Aside0.mk ((by rw [hg]; exact (y03 hb_) : w.heap.size ≤ gb190)); clear HB; have HB := n0_; have BK190 := n1_; have GW190 := n2_; have GE190 := n3_; clear n0_ n1_ n2_ n3_; clear hb hbox hg) | ((with_reducible refine y0i (f := 61) rfl ?_); refine goesL_ (some 12) rfl rfl Try.func61 (by kernel_rfl) rfl #[.string a0] rfl ar_ ?_; (with_reducible refine (zqt.calls k a0 t191 t192 _ A2.out).mono ?_); rintro e w103 ⟨rfl, hb⟩; refine ⟨_, rfl, ?_⟩; have n0_ := Aside0.mk (y06 (bk_ BK190.out) hb); have n1_ := Aside0.mk (y04 hb_ hb); clear BK190 HB; have BK190 := n0_; have HB := n1_; clear n0_ n1_; clear hb) | ((with_reducible refine y0i (f := 62) rfl ?_); refine goesL_ (some 20) rfl rfl Try.func62 (by kernel_rfl) rfl #[.string t191, .string (⟨#[79, 66, 74, 49]⟩ : ByteArray)] rfl ar_ ?_; (with_reducible refine (zqh.calls t191 (⟨#[79, 66, 74, 49]⟩ : ByteArray) false _ A4.out).mono ?_); rintro e w' ⟨rfl, ⟨nd, rfl⟩⟩; refine ⟨_, rfl, ?_⟩; (try (rw [drewN_self w103]; generalize hq_ : World.drewN w103 _ = w103; have n0_ : Aside0 (w103.heap[gb190]? = some (.cells #[.string (⟨#[]⟩ : ByteArray), .string (⟨#[]⟩ : ByteArray), .string (⟨#[]⟩ : ByteArray), .int .i64 0, .slice none 0 0, .slice none 0 0] 25 (0, 0))) := ⟨by rw [← hq_]; exact (bk_ BK190.out)⟩; have n1_ : Aside0 (Below w.heap.size w w103) := ⟨by rw [← hq_]; exact hb_⟩; clear BK190 HB hq_; have BK190 := n0_; have HB := n1_; clear n0_ n1_)); obtain ⟨hcz104_0, hfz104_0⟩ := bc_ BK190.out 0 rfl; obtain ⟨hcz104_1, hfz104_1⟩ := bc_ BK190.out 1 rfl; obtain ⟨hcz104_2, hfz104_2⟩ := bc_ BK190.out 2 rfl; obtain ⟨hcz104_3, hfz104_3⟩ := bc_ BK190.out 3 rfl; obtain ⟨hcz104_4, hfz104_4⟩ := bc_ BK190.out 4 rfl; obtain ⟨hcz104_5, hfz104_5⟩ := bc_ BK190.out 5 rfl))
   refine bodyPost_ret (results_ct rfl _ _ gb190 25 #[.string (⟨#[]⟩ : ByteArray), .string (⟨#[]⟩ : ByteArray), .string (⟨#[]⟩ : ByteArray), .int .i64 0, .slice none 0 0, .slice none 0 0] (0, 0) _ rfl (by (with_reducible repeat (first | refine y09 ?_ _ | refine y08 ?_ | refine y05 ?_ _)); refine y0d (cs := #[.string (⟨#[]⟩ : ByteArray), .string (⟨#[]⟩ : ByteArray), .string (⟨#[]⟩ : ByteArray), .int .i64 0, .slice none 0 0, .slice none 0 0]) ?_ 5 _ rfl; (with_reducible repeat (first | refine y09 ?_ _ | refine y08 ?_ | refine y05 ?_ _)); refine y0d (cs := #[.string (⟨#[]⟩ : ByteArray), .string (⟨#[]⟩ : ByteArray), .string (⟨#[]⟩ : ByteArray), .int .i64 0, .slice none 0 0, .slice none 0 0]) ?_ 4 _ rfl; (with_reducible repeat (first | refine y09 ?_ _ | refine y08 ?_ | refine y05 ?_ _)); refine y0d (cs := #[.string (⟨#[]⟩ : ByteArray), .string (⟨#[]⟩ : ByteArray), .string (⟨#[]⟩ : ByteArray), .int .i64 0, .slice none 0 0, .slice none 0 0]) ?_ 3 _ rfl; (with_reducible repeat (first | refine y09 ?_ _ | refine y08 ?_ | refine y05 ?_ _)); refine y0d (cs := #[.string (⟨#[]⟩ : ByteArray), .string (⟨#[]⟩ : ByteArray), .string (⟨#[]⟩ : ByteArray), .int .i64 0, .slice none 0 0, .slice none 0 0]) ?_ 2 _ rfl; (with_reducible repeat (first | refine y09 ?_ _ | refine y08 ?_ | refine y05 ?_ _)); refine y0d (cs := #[.string (⟨#[]⟩ : ByteArray), .string (⟨#[]⟩ : ByteArray), .string (⟨#[]⟩ : ByteArray), .int .i64 0, .slice none 0 0, .slice none 0 0]) ?_ 1 _ rfl; (with_reducible repeat (first | refine y09 ?_ _ | refine y08 ?_ | refine y05 ?_ _)); refine y0d (cs := #[.string (⟨#[]⟩ : ByteArray), .string (⟨#[]⟩ : ByteArray), .string (⟨#[]⟩ : ByteArray), .int .i64 0, .slice none 0 0, .slice none 0 0]) ?_ 0 _ rfl; (with_reducible repeat (first | refine y09 ?_ _ | refine y08 ?_ | refine y05 ?_ _)); exact BK190.out) Try.underlying25 rfl (by kernel_rfl)) rfl ?_
   exact ⟨_, _, ew_, by first | exact Kd.R_nil _ _ _ _ _ | exact Kd.N_nil _ _ _ _ _ | exact Kd.V_nil _ _ _ _ _ | exact Kd.Q_nil _ _ _ _ _ | exact Kd.S_nil _ _ _ _ _, by first | exact Kd.R_nil _ _ _ _ _ | exact Kd.N_nil _ _ _ _ _ | exact Kd.V_nil _ _ _ _ _ | exact Kd.Q_nil _ _ _ _ _ | exact Kd.S_nil _ _ _ _ _, hb_⟩
 ·rw [if_neg c3] at H
  have c3b0 : (t192 == 0) = false := beq_eq_false_iff_ne.mpr c3
  have c3b1 : (t192 != 0) = true := bne_iff_ne.mpr c3
  simp only [Option.some.injEq, Prod.mk.injEq] at H
  obtain ⟨rfl, rfl, rfl, rfl, rfl, rfl, rfl⟩ := H
  go_enter Try.func24, Try.ntmps24
  go_wp2_with (first | ((with_reducible refine y0j (N := 2) rfl ?_); refine y0e ?hg (N := 2) ?hd (cs := #[.string (⟨#[]⟩ : ByteArray), .string (⟨#[]⟩ : ByteArray), .string (⟨#[]⟩ : ByteArray), .int .i64 0, .slice none 0 0, .slice none 0 0]) (t := 25) ?hr ?_; (case hd => rfl); (case hg => rfl); (case hr => first | (go_simp; done) | (go_simp; rfl)); intro gb190 hg w105 hbox hb; have n0_ := Aside0.mk (y04 hb_ hb); have n1_ := Aside0.mk (hbox); have n2_ := Aside0.mk ((by rw [hg]; exact (y03 hb_) : w.heap.size ≤ gb190)); have n3_ := Aside0.mk ((by rw [hg]; exact (y03 hb_) : w.heap.size ≤ gb190)); clear HB; have HB := n0_; have BK190 := n1_; have GW190 := n2_; have GE190 := n3_; clear n0_ n1_ n2_ n3_; clear hb hbox hg) | ((with_reducible refine y0i (f := 61) rfl ?_); refine goesL_ (some 12) rfl rfl Try.func61 (by kernel_rfl) rfl #[.string a0] rfl ar_ ?_; (with_reducible refine (zqt.calls k a0 t191 t192 _ A2.out).mono ?_); rintro e w106 ⟨rfl, hb⟩; refine ⟨_, rfl, ?_⟩; have n0_ := Aside0.mk (y06 (bk_ BK190.out) hb); have n1_ := Aside0.mk (y04 hb_ hb); clear BK190 HB; have BK190 := n0_; have HB := n1_; clear n0_ n1_; clear hb; obtain ⟨hcz107_0, hfz107_0⟩ := bc_ BK190.out 0 rfl; obtain ⟨hcz107_1, hfz107_1⟩ := bc_ BK190.out 1 rfl; obtain ⟨hcz107_2, hfz107_2⟩ := bc_ BK190.out 2 rfl; obtain ⟨hcz107_3, hfz107_3⟩ := bc_ BK190.out 3 rfl; obtain ⟨hcz107_4, hfz107_4⟩ := bc_ BK190.out 4 rfl; obtain ⟨hcz107_5, hfz107_5⟩ := bc_ BK190.out 5 rfl))
  refine bodyPost_ret (results_ct rfl _ _ gb190 25 #[.string (⟨#[]⟩ : ByteArray), .string (⟨#[]⟩ : ByteArray), .string (⟨#[]⟩ : ByteArray), .int .i64 0, .slice none 0 0, .slice none 0 0] (0, 0) _ rfl (by (with_reducible repeat (first | refine y09 ?_ _ | refine y08 ?_ | refine y05 ?_ _)); refine y0d (cs := #[.string (⟨#[]⟩ : ByteArray), .string (⟨#[]⟩ : ByteArray), .string (⟨#[]⟩ : ByteArray), .int .i64 0, .slice none 0 0, .slice none 0 0]) ?_ 5 _ rfl; (with_reducible repeat (first | refine y09 ?_ _ | refine y08 ?_ | refine y05 ?_ _)); refine y0d (cs := #[.string (⟨#[]⟩ : ByteArray), .string (⟨#[]⟩ : ByteArray), .string (⟨#[]⟩ : ByteArray), .int .i64 0, .slice none 0 0, .slice none 0 0]) ?_ 4 _ rfl; (with_reducible repeat (first | refine y09 ?_ _ | refine y08 ?_ | refine y05 ?_ _)); refine y0d (cs := #[.string (⟨#[]⟩ : ByteArray), .string (⟨#[]⟩ : ByteArray), .string (⟨#[]⟩ : ByteArray), .int .i64 0, .slice none 0 0, .slice none 0 0]) ?_ 3 _ rfl; (with_reducible repeat (first | refine y09 ?_ _ | refine y08 ?_ | refine y05 ?_ _)); refine y0d (cs := #[.string (⟨#[]⟩ : ByteArray), .string (⟨#[]⟩ : ByteArray), .string (⟨#[]⟩ : ByteArray), .int .i64 0, .slice none 0 0, .slice none 0 0]) ?_ 2 _ rfl; (with_reducible repeat (first | refine y09 ?_ _ | refine y08 ?_ | refine y05 ?_ _)); refine y0d (cs := #[.string (⟨#[]⟩ : ByteArray), .string (⟨#[]⟩ : ByteArray), .string (⟨#[]⟩ : ByteArray), .int .i64 0, .slice none 0 0, .slice none 0 0]) ?_ 1 _ rfl; (with_reducible repeat (first | refine y09 ?_ _ | refine y08 ?_ | refine y05 ?_ _)); refine y0d (cs := #[.string (⟨#[]⟩ : ByteArray), .string (⟨#[]⟩ : ByteArray), .string (⟨#[]⟩ : ByteArray), .int .i64 0, .slice none 0 0, .slice none 0 0]) ?_ 0 _ rfl; (with_reducible repeat (first | refine y09 ?_ _ | refine y08 ?_ | refine y05 ?_ _)); exact BK190.out) Try.underlying25 rfl (by kernel_rfl)) rfl ?_
  exact ⟨_, _, ew_, by first | exact Kd.R_nil _ _ _ _ _ | exact Kd.N_nil _ _ _ _ _ | exact Kd.V_nil _ _ _ _ _ | exact Kd.Q_nil _ _ _ _ _ | exact Kd.S_nil _ _ _ _ _, by first | exact Kd.R_nil _ _ _ _ _ | exact Kd.N_nil _ _ _ _ _ | exact Kd.V_nil _ _ _ _ _ | exact Kd.Q_nil _ _ _ _ _ | exact Kd.S_nil _ _ _ _ _, hb_⟩
end Go.Proofs.Ytenlmckahaniiaa.K
end
