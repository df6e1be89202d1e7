/- Lemmas for several laws: what their proofs need of this seat's texts, in one place. -/
import Derived.Test.YtgcmhfoegbaaiaaZcTw10
import Derived.Test.YtgcmhfoegbaaiaaZcTw7
import Derived.Test.YtgcmhfoegbaaiaaZcTw8
set_option linter.unusedVariables false
set_option linter.unusedSimpArgs false
set_option linter.unusedSectionVars false
set_option maxHeartbeats 80000000
set_option maxRecDepth 100000
section
namespace Go.Proofs.Ytgcmhfoegbaaiaa.K
open Go.RowKit Go.Proofs.YtW.P Go.Proofs.YtW.L
def zq1.f (k : Nat) (a0_0 : Bool) (a0_1 : ByteArray) (l0_2 : List ByteArray) (a0_3 : ByteArray) (a1 : ByteArray) (a2 : Bool) : Option (Bool) := (zqc.f k a0_0 a0_1 l0_2 a0_3).bind fun t351 => (if t351 = true then (if (a1.size : Int) > 600 then ((zq7.f k).bind fun t352 => (some t352)) else ((zqm.f k a0_0 a0_1 l0_2 a0_3 a1).bind fun bt353 => ((zqa.f k a0_0 a0_1 l0_2 a0_3 a1).bind fun bt361 => ((zqo.f a0_0 a0_1 l0_2 a0_3).bind fun bt369 => ((zqe.f a0_0 a0_1 l0_2 a0_3).bind fun bt378 => ((zqj.f a0_0 a0_1 l0_2 a0_3 a2).bind fun bt387 => ((zq6.f a0_0 a0_1 l0_2 a0_3 a2).bind fun bt393 => ((zq4.f k bt353.1 bt353.2.1 bt353.2.2.1 bt353.2.2.2.1 bt361.1 bt361.2.1 bt361.2.2.1 bt361.2.2.2.1).bind fun t401 => (if t401 = true then (if bt353.2.2.2.2 = bt361.2.2.2.2 then ((zq4.f k bt369.1 bt369.2.1 bt369.2.2.1 bt369.2.2.2.1 bt378.1 bt378.2.1 bt378.2.2.1 bt378.2.2.2.1).bind fun t402 => (if t402 = true then (if bt369.2.2.2.2.1 = bt378.2.2.2.2.1 then (if (bt369.2.2.2.2.2 == bt378.2.2.2.2.2) = true then ((zq4.f k bt387.1 bt387.2.1 bt387.2.2.1 bt387.2.2.2 bt393.1 bt393.2.1 bt393.2.2.1 bt393.2.2.2).bind fun t403 => (if t403 = true then ((zql.f k bt353.1 bt353.2.1 bt353.2.2.1 bt353.2.2.2.1).bind fun t404 => (if t404 = true then ((zql.f k bt369.1 bt369.2.1 bt369.2.2.1 bt369.2.2.2.1).bind fun t405 => (if t405 = true then ((zql.f k bt387.1 bt387.2.1 bt387.2.2.1 bt387.2.2.2).bind fun t406 => (if t406 = true then ((zq7.f k).bind fun t407 => (some t407)) else (none))) else (none))) else (none))) else (none))) else (none)) else (none)) else (none))) else (none)) else (none)))))))))) else ((zq7.f k).bind fun t408 => (some t408)))
theorem zq1.mono : ∀ a0 a1 a2 a3 a4 a5 k, LeO (zq1.f k a0 a1 a2 a3 a4 a5) (zq1.f (k + 1) a0 a1 a2 a3 a4 a5) := by
 intro a0 a1 a2 a3 a4 a5 k
 unfold zq1.f
 with_reducible repeat' first | apply zq7.mono | apply zqc.mono | apply zq4.mono | apply zqa.mono | apply zql.mono | apply zqm.mono | exact LeO.refl _ | exact LeO.none _ | refine LeO.ite ?_ ?_ | refine LeO.bind ?_ (fun _ => ?_)
def zq1.T7 : Bool × List (List Nat × List Nat) := (true, [([], []), ([], []), ([0, 1], [0, 1]), ([], []), ([], []), ([3, 4, 2], [3, 4]), ([], []), ([], []), ([6, 2, 5, 0, 1, 2, 6, 7], [2, 6]), ([7, 5, 8, 0, 1, 2, 3, 4, 5, 6, 7, 8], [5, 7])])
def zq1.B7 : List Nat := [0, 0, 3, 0, 0, 31, 0, 0, 255, 511]
theorem zq1.tab7 : rtab .any (opsOf Try.f9 7) = zq1.T7 := by kernel_rfl
theorem zq1.bits7 : waitsOk zq1.T7.2 zq1.B7 = true := by kernel_rfl
theorem am_ {p : Prop} (h : p) : Aside0 p := q_ h
theorem zq1.calls (k : Nat) (aG : Bool) (aH : ByteArray) (aN : Option Addr) (aO : Nat) (aF : List ByteArray) (aI : ByteArray) (a1 : ByteArray) (a2 : Bool) (r : Bool) (w : World) (eY : Kd.C Kd.string w aN aF.length aF) (eX : aF.length ≤ aO) (h : zq1.f k aG aH aF aI a1 a2 = some r) :
  Calls Try.prog 9 #[.agg #[.bool aG, .string aH, .slice aN aF.length aO, .string aI], .string a1, .bool a2] w fun e w' => e = .returned (.bool r) ∧ Below w.heap.size w w' := by
 have p2 := Try.underlying24
 have cQ := am_ eY
 have cP := am_ eX
 clear eY eX
 have HB := am_ (Below.refl w.heap.size w)
 have H : ((zqc.f k aG aH aF aI).bind fun e0 => (if e0 = true then (if (a1.size : Int) > 600 then ((zq7.f k).bind fun e1 => (some e1)) else ((zqm.f k aG aH aF aI a1).bind fun dH => ((zqa.f k aG aH aF aI a1).bind fun dV => ((zqo.f aG aH aF aI).bind fun c3 => ((zqe.f aG aH aF aI).bind fun dT => ((zqj.f aG aH aF aI a2).bind fun dN => ((zq6.f aG aH aF aI a2).bind fun eJ => ((zq4.f k dH.1 dH.2.1 dH.2.2.1 dH.2.2.2.1 dV.1 dV.2.1 dV.2.2.1 dV.2.2.2.1).bind fun e2 => (if e2 = true then (if dH.2.2.2.2 = dV.2.2.2.2 then ((zq4.f k c3.1 c3.2.1 c3.2.2.1 c3.2.2.2.1 dT.1 dT.2.1 dT.2.2.1 dT.2.2.2.1).bind fun e3 => (if e3 = true then (if c3.2.2.2.2.1 = dT.2.2.2.2.1 then (if (c3.2.2.2.2.2 == dT.2.2.2.2.2) = true then ((zq4.f k dN.1 dN.2.1 dN.2.2.1 dN.2.2.2 eJ.1 eJ.2.1 eJ.2.2.1 eJ.2.2.2).bind fun e4 => (if e4 = true then ((zql.f k dH.1 dH.2.1 dH.2.2.1 dH.2.2.2.1).bind fun e5 => (if e5 = true then ((zql.f k c3.1 c3.2.1 c3.2.2.1 c3.2.2.2.1).bind fun e6 => (if e6 = true then ((zql.f k dN.1 dN.2.1 dN.2.2.1 dN.2.2.2).bind fun e7 => (if e7 = true then ((zq7.f k).bind fun e8 => (some e8)) else (none))) else (none))) else (none))) else (none))) else (none)) else (none)) else (none))) else (none)) else (none)))))))))) else ((zq7.f k).bind fun e9 => (some e9)))) = some r := h
 clear h
 replace H := be_ H
 obtain ⟨e0, nT, H⟩ := H
 (try dsimp only at H)
 have A4 := am_ nT
 clear nT
 by_cases c5 : e0 = true
 rotate_left
 ·replace c5 := Bool.eq_false_iff.mpr c5
  subst c5
  rw [if_neg (show ¬ (false = true) by decide)] at H
  replace H := be_ H
  obtain ⟨e9, eS, H⟩ := H
  (try dsimp only at H)
  have m6 := am_ eS
  clear eS
  obtain rfl := Option.some.inj H
  go_enter Try.func9, Try.ntmps9
  go_wp2_with (first | (refine gd_ 3 ?_; (try (refine y12 (by rfl) ?_; dsimp only)); refine bx_ 3 (cs := #[.bool aG, .string aH, .slice aN aF.length aO, .string aI]) 24 ?_; intro gA_ hg qD hbox hb; have bA_ := am_ (hbox); have cU := am_ ((by rw [hg]; exact (y08 HB.out) : w.heap.size ≤ gA_)); have eT := am_ ((by rw [hg]; exact (y08 HB.out) : w.heap.size ≤ gA_)); replace HB := am_ (y09 HB.out hb); clear hb hbox hg; obtain ⟨gF, g3, gG, g4, gH, g5, gI, g6⟩ := b4_ bA_.out) | (refine gc_ 10 ?_; refine gl_ (some 20) Try.func10 #[.agg #[.bool aG, .string aH, .slice aN aF.length aO, .string aI]] ?_; (with_reducible refine (zqc.calls k aG aH _ _ aF aI false _ ?side1 ?side2 A4.out).mono ?_); (case side1 => exact ck_ (Kd.C_below cQ.out HB.out)); (case side2 => exact cP.out); rintro e qE ⟨rfl, hb⟩; refine ⟨_, rfl, ?_⟩; replace bA_ := am_ (y0b bA_.out hb); replace HB := am_ (y09 HB.out hb)) | (refine gc_ 11 ?_; refine gl_ (some 27) Try.func11 #[] ?_; (with_reducible refine (zq7.calls k  e9 _ m6.out).mono ?_); rintro e qF ⟨rfl, hb⟩; refine ⟨_, rfl, ?_⟩; replace bA_ := am_ (y0b bA_.out hb); replace HB := am_ (y09 HB.out hb)))
  go_ret
  exact ⟨ew_, hb_⟩
 subst c5
 rw [if_pos rfl] at H
 by_cases c6 : (a1.size : Int) > 600
 ·rw [if_pos c6] at H
  have m7 := dt_ c6
  have m8 : decide (600 < a1.size) = true := decide_eq_true (by omega)
  clear c6
  replace H := be_ H
  obtain ⟨e1, nU, H⟩ := H
  (try dsimp only at H)
  have A7 := am_ nU
  clear nU
  obtain rfl := Option.some.inj H
  go_enter Try.func9, Try.ntmps9
  go_wp2_with (first | (refine gd_ 3 ?_; (try (refine y12 (by rfl) ?_; dsimp only)); refine bx_ 3 (cs := #[.bool aG, .string aH, .slice aN aF.length aO, .string aI]) 24 ?_; intro gA_ hg w8 hbox hb; have bA_ := am_ (hbox); have cU := am_ ((by rw [hg]; exact (y08 HB.out) : w.heap.size ≤ gA_)); have eT := am_ ((by rw [hg]; exact (y08 HB.out) : w.heap.size ≤ gA_)); replace HB := am_ (y09 HB.out hb); clear hb hbox hg; obtain ⟨nF, nJ, nG, nK, nH, nL, nI, nM⟩ := b4_ bA_.out) | (refine gc_ 10 ?_; refine gl_ (some 20) Try.func10 #[.agg #[.bool aG, .string aH, .slice aN aF.length aO, .string aI]] ?_; (with_reducible refine (zqc.calls k aG aH _ _ aF aI true _ ?side1 ?side2 A4.out).mono ?_); (case side1 => exact ck_ (Kd.C_below cQ.out HB.out)); (case side2 => exact cP.out); rintro e qJ ⟨rfl, hb⟩; refine ⟨_, rfl, ?_⟩; replace bA_ := am_ (y0b bA_.out hb); replace HB := am_ (y09 HB.out hb)) | (refine gc_ 11 ?_; refine gl_ (some 27) Try.func11 #[] ?_; (with_reducible refine (zq7.calls k  e1 _ A7.out).mono ?_); rintro e qK ⟨rfl, hb⟩; refine ⟨_, rfl, ?_⟩; replace bA_ := am_ (y0b bA_.out hb); replace HB := am_ (y09 HB.out hb)))
  go_ret
  exact ⟨ew_, hb_⟩
 rw [if_neg c6] at H
 have m7 := df_ c6
 have m8 : decide (600 < a1.size) = false := decide_eq_false (by omega)
 clear c6
 replace H := be_ H
 obtain ⟨⟨bX, bY, aK, b4, g8⟩, fC, H⟩ := H
 (try dsimp only at H)
 have pG := am_ fC
 clear fC
 replace H := be_ H
 obtain ⟨⟨bZ, b2, aL, b6, g9⟩, fD, H⟩ := H
 (try dsimp only at H)
 have pH := am_ fD
 clear fD
 replace H := be_ H
 obtain ⟨⟨b0, b3, aM, b7, hA, eP⟩, fE, H⟩ := H
 (try dsimp only at H)
 have pI := am_ fE
 clear fE
 replace H := be_ H
 obtain ⟨⟨bE, bF, aJ, bG, hB, eQ⟩, fF, H⟩ := H
 (try dsimp only at H)
 have pJ := am_ fF
 clear fF
 replace H := be_ H
 obtain ⟨⟨cN, cO, b8, cR⟩, fG, H⟩ := H
 (try dsimp only at H)
 have hC := am_ fG
 clear fG
 replace H := be_ H
 obtain ⟨⟨cV, cY, cS, c0⟩, fH, H⟩ := H
 (try dsimp only at H)
 have hD := am_ fH
 clear fH
 replace H := be_ H
 obtain ⟨e2, fI, H⟩ := H
 (try dsimp only at H)
 have pK := am_ fI
 clear fI
 by_cases hE : e2 = true
 rotate_left
 ·replace hE := Bool.eq_false_iff.mpr hE
  subst hE
  rw [if_neg (show ¬ (false = true) by decide)] at H
  exact absurd H (by simp)
 subst hE
 rw [if_pos rfl] at H
 by_cases fP : g8 = g9
 rotate_left
 ·rw [if_neg fP] at H
  exact absurd H (by simp)
 rw [if_pos fP] at H
 have nZ := et_ fP
 have n0 := nf_ fP
 clear fP
 replace H := be_ H
 obtain ⟨e3, fJ, H⟩ := H
 (try dsimp only at H)
 have pL := am_ fJ
 clear fJ
 by_cases hF : e3 = true
 rotate_left
 ·replace hF := Bool.eq_false_iff.mpr hF
  subst hF
  rw [if_neg (show ¬ (false = true) by decide)] at H
  exact absurd H (by simp)
 subst hF
 rw [if_pos rfl] at H
 by_cases fQ : hA = hB
 rotate_left
 ·rw [if_neg fQ] at H
  exact absurd H (by simp)
 rw [if_pos fQ] at H
 have n1 := et_ fQ
 have n2 := nf_ fQ
 clear fQ
 by_cases fA : (eP == eQ) = true
 rotate_left
 ·rw [if_neg fA] at H
  exact absurd H (by simp)
 rw [if_pos fA] at H
 have n3 : (eP == eQ) = true := fA
 (try (have n4 : decide (eP = eQ) = true := by simpa using fA))
 (try (have n5 : (eP == eQ) = true := by simpa using fA))
 clear fA
 replace H := be_ H
 obtain ⟨e4, fK, H⟩ := H
 (try dsimp only at H)
 have pM := am_ fK
 clear fK
 by_cases hG : e4 = true
 rotate_left
 ·replace hG := Bool.eq_false_iff.mpr hG
  subst hG
  rw [if_neg (show ¬ (false = true) by decide)] at H
  exact absurd H (by simp)
 subst hG
 rw [if_pos rfl] at H
 replace H := be_ H
 obtain ⟨e5, fL, H⟩ := H
 (try dsimp only at H)
 have pN := am_ fL
 clear fL
 by_cases hH : e5 = true
 rotate_left
 ·replace hH := Bool.eq_false_iff.mpr hH
  subst hH
  rw [if_neg (show ¬ (false = true) by decide)] at H
  exact absurd H (by simp)
 subst hH
 rw [if_pos rfl] at H
 replace H := be_ H
 obtain ⟨e6, fM, H⟩ := H
 (try dsimp only at H)
 have pO := am_ fM
 clear fM
 by_cases hI : e6 = true
 rotate_left
 ·replace hI := Bool.eq_false_iff.mpr hI
  subst hI
  rw [if_neg (show ¬ (false = true) by decide)] at H
  exact absurd H (by simp)
 subst hI
 rw [if_pos rfl] at H
 replace H := be_ H
 obtain ⟨e7, fN, H⟩ := H
 (try dsimp only at H)
 have pP := am_ fN
 clear fN
 by_cases hJ : e7 = true
 rotate_left
 ·replace hJ := Bool.eq_false_iff.mpr hJ
  subst hJ
  rw [if_neg (show ¬ (false = true) by decide)] at H
  exact absurd H (by simp)
 subst hJ
 rw [if_pos rfl] at H
 replace H := be_ H
 obtain ⟨e8, fO, H⟩ := H
 (try dsimp only at H)
 have pQ := am_ fO
 clear fO
 obtain rfl := Option.some.inj H
 go_enter Try.func9, Try.ntmps9
 try go_wp2_with (first | (refine gd_ 3 ?_; (try (refine y12 (by rfl) ?_; dsimp only)); refine bx_ 3 (cs := #[.bool aG, .string aH, .slice aN aF.length aO, .string aI]) 24 ?_; intro gA_ hg qL hbox hb; have bA_ := am_ (hbox); have cU := am_ ((by rw [hg]; exact (y08 HB.out) : w.heap.size ≤ gA_)); have eT := am_ ((by rw [hg]; exact (y08 HB.out) : w.heap.size ≤ gA_)); replace HB := am_ (y09 HB.out hb); clear hb hbox hg; obtain ⟨hL, i1, hM, i2, hN, i3, hO, i4⟩ := b4_ bA_.out) | (refine gc_ 10 ?_; refine gl_ (some 20) Try.func10 #[.agg #[.bool aG, .string aH, .slice aN aF.length aO, .string aI]] ?_; (with_reducible refine (zqc.calls k aG aH _ _ aF aI true _ ?side1 ?side2 A4.out).mono ?_); (case side1 => exact ck_ (Kd.C_below cQ.out HB.out)); (case side2 => exact cP.out); rintro e qM ⟨rfl, hb⟩; refine ⟨_, rfl, ?_⟩; replace bA_ := am_ (y0b bA_.out hb); replace HB := am_ (y09 HB.out hb); obtain ⟨hP, i5, hQ, i6, hR, i7, hS, i8⟩ := b4_ bA_.out) | (refine gc_ 16 ?_; refine gl_ (some 31) Try.func16 #[.agg #[.bool aG, .string aH, .slice aN aF.length aO, .string aI], .string a1] ?_; (with_reducible refine (zqm.calls k aG aH (fun k_ => k_ < w.heap.size) _ _ aF aI a1 bX bY aK b4 g8 _ ?side1 pG.out).mono ?_); (case side1 => exact Kd.V_mk cP.out (Kd.F_below (Kd.C_F Kd.heap_string cQ.out) HB.out)); rintro e qN ⟨p3, rfl, dO, hb⟩; refine ⟨_, rfl, ?_⟩; have aA := am_ (Kd.V_lower (Kd.V_mono (ok' := fun k_ => k_ ≠ gA_) dO (fun k_ hk_ => Or.elim hk_ (fun hs_ => fun e_ => Nat.not_le.2 hs_ (by rw [e_]; exact cU.out)) (fun hn_ => (Kd.freshB bA_.out k_ hn_)))) (y08 HB.out)); replace bA_ := am_ (y0b bA_.out hb); replace HB := am_ (y09 HB.out hb)) | (refine gd_ 7 ?_; (try (refine y12 (by rfl) ?_; dsimp only)); refine bx_ 7 (cs := #[.bool false, .string nB_, .slice none 0 0, .string nB_]) 24 ?_; intro gB_ hg qG hbox hb; replace aA := am_ (Kd.V_below (Kd.V_elderB aA.out gB_ (Nat.le_of_eq hg.symm)) hb); have bB_ := am_ (hbox); have c1 := am_ ((by rw [hg]; exact (y08 HB.out) : w.heap.size ≤ gB_)); have nV := am_ ((by rw [hg]; exact (y08 HB.out) : w.heap.size ≤ gB_)); replace HB := am_ (y09 HB.out hb); have nAB := am_ ((by rw [hg]; exact Nat.ne_of_lt (y0i bA_.out) : gA_ ≠ gB_)); have nBA := am_ ((by rw [hg]; exact Nat.ne_of_gt (y0i bA_.out) : gB_ ≠ gA_)); replace bA_ := am_ (y0b bA_.out hb); clear hb hbox hg; have oE := nBA.out; have oW := nAB.out; obtain ⟨hT, i9, hU, jA, hV, jB, hW, jC⟩ := b4_ bB_.out; obtain ⟨a8, a7, m9⟩ := Kd.V_slice aA.out; subst m9) | ((with_reducible refine y13 (t := 24) (p := 7) rfl ?_); refine y1w (t := 24) (p := 7) (v := ?vo_w43) (w1 := ((((qG.setCell ⟨gB_, 0, none⟩ (.bool bX)).setCell ⟨gB_, 1, none⟩ (.string bY)).setCell ⟨gB_, 2, none⟩ (.slice a8 aK.length a7)).setCell ⟨gB_, 3, none⟩ (.string b4))) ?hg ?ho ?hn ?hr ?_; (case ho => rfl); (case hg => rfl); (case hn => rfl); (case hr => first | (go_simp; done) | (go_simp; rfl)); intro m5 hw; have bJ : Aside0 (Kd.V Kd.string 9 m5 w.heap.size (fun k_ => k_ ≠ gA_ ∧ k_ ≠ gB_) (.slice a8 aK.length a7) aK) := ⟨(by rw [hw]; exact (vm_ (Kd.V_far (p := ⟨gB_, 3, none⟩) (Kd.V_far (p := ⟨gB_, 2, none⟩) (Kd.V_far (p := ⟨gB_, 1, none⟩) (Kd.V_far (p := ⟨gB_, 0, none⟩) (Kd.V_mono aA.out (fun k_ hk => (⟨hk, hk.2⟩ : _ ∧ k_ ≠ gB_))) (fun _ hk => hk.2) (.bool bX)) (fun _ hk => hk.2) (.string bY)) (fun _ hk => hk.2) (.slice a8 aK.length a7)) (fun _ hk => hk.2) (.string b4)) (fun _ hk => ⟨hk.1.1, hk.1.2⟩)))⟩; have bK : Aside0 (m5.heap[gA_]? = some (.cells #[.bool aG, .string aH, .slice aN aF.length aO, .string aI] 24 (0, 0))) := ⟨(by rw [hw]; exact (bs_ bA_.out))⟩; have bL : Aside0 (m5.heap[gB_]? = some (.cells #[.bool bX, .string bY, .slice a8 aK.length a7, .string b4] 24 (0, 0))) := ⟨(by rw [hw]; exact (bs_ bB_.out))⟩; have bM : Aside0 (Below w.heap.size w m5) := ⟨(by rw [hw]; exact hb_)⟩; clear hw aA bA_ bB_ HB; have aA := bJ; have bA_ := bK; have bB_ := bL; have HB := bM; clear bJ bK bL bM; obtain ⟨hX, jD, hY, jE, hZ, jF, h0, jG⟩ := b4_ bA_.out) | (refine gc_ 26 ?_; refine gl_ (some 37) Try.func26 #[.agg #[.bool aG, .string aH, .slice aN aF.length aO, .string aI], .string a1] ?_; (with_reducible refine (zqa.calls k aG aH (fun k_ => k_ < w.heap.size) _ _ aF aI a1 bZ b2 aL b6 g9 _ ?side1 pH.out).mono ?_); (case side1 => exact Kd.V_mk cP.out (Kd.F_below (Kd.C_F Kd.heap_string cQ.out) HB.out)); rintro e qO ⟨p4, rfl, dO, hb⟩; refine ⟨_, rfl, ?_⟩; replace aA := am_ (Kd.V_below aA.out hb); have aB := am_ (Kd.V_lower (Kd.V_mono (ok' := fun k_ => k_ ≠ gA_ ∧ k_ ≠ gB_) dO (fun k_ hk_ => ⟨Or.elim hk_ (fun hs_ => fun e_ => Nat.not_le.2 hs_ (by rw [e_]; exact cU.out)) (fun hn_ => (Kd.freshB bA_.out k_ hn_)), Or.elim hk_ (fun hs_ => fun e_ => Nat.not_le.2 hs_ (by rw [e_]; exact c1.out)) (fun hn_ => (Kd.freshB bB_.out k_ hn_))⟩)) (y08 HB.out)); replace bA_ := am_ (y0b bA_.out hb); replace bB_ := am_ (y0b bB_.out hb); replace HB := am_ (y09 HB.out hb)) | (refine gd_ 9 ?_; (try (refine y12 (by rfl) ?_; dsimp only)); refine bx_ 9 (cs := #[.bool false, .string nB_, .slice none 0 0, .string nB_]) 24 ?_; intro gC_ hg qH hbox hb; replace aA := am_ (Kd.V_below (Kd.V_elderB aA.out gC_ (Nat.le_of_eq hg.symm)) hb); replace aB := am_ (Kd.V_below (Kd.V_elderB aB.out gC_ (Nat.le_of_eq hg.symm)) hb); have bC_ := am_ (hbox); have c2 := am_ ((by rw [hg]; exact (y08 HB.out) : w.heap.size ≤ gC_)); have nW := am_ ((by rw [hg]; exact (y08 HB.out) : w.heap.size ≤ gC_)); replace HB := am_ (y09 HB.out hb); have nAC := am_ ((by rw [hg]; exact Nat.ne_of_lt (y0i bA_.out) : gA_ ≠ gC_)); have nCA := am_ ((by rw [hg]; exact Nat.ne_of_gt (y0i bA_.out) : gC_ ≠ gA_)); replace bA_ := am_ (y0b bA_.out hb); have nBC := am_ ((by rw [hg]; exact Nat.ne_of_lt (y0i bB_.out) : gB_ ≠ gC_)); have nCB := am_ ((by rw [hg]; exact Nat.ne_of_gt (y0i bB_.out) : gC_ ≠ gB_)); replace bB_ := am_ (y0b bB_.out hb); clear hb hbox hg; have oF := nCA.out; have oX := nAC.out; have oG := nCB.out; have oY := nBC.out; obtain ⟨h1, jH, h2, jI, h3, jJ, h4, jK⟩ := b4_ bC_.out; obtain ⟨bA, a9, nA⟩ := Kd.V_slice aB.out; subst nA) | ((with_reducible refine y13 (t := 24) (p := 9) rfl ?_); refine y1w (t := 24) (p := 9) (v := ?vo_w51) (w1 := ((((qH.setCell ⟨gC_, 0, none⟩ (.bool bZ)).setCell ⟨gC_, 1, none⟩ (.string b2)).setCell ⟨gC_, 2, none⟩ (.slice bA aL.length a9)).setCell ⟨gC_, 3, none⟩ (.string b6))) ?hg ?ho ?hn ?hr ?_; (case ho => rfl); (case hg => rfl); (case hn => rfl); (case hr => first | (go_simp; done) | (go_simp; rfl)); intro fB hw; have bJ : Aside0 (Kd.V Kd.string 9 fB w.heap.size (fun k_ => k_ ≠ gA_ ∧ k_ ≠ gB_ ∧ k_ ≠ gC_) (.slice a8 aK.length a7) aK) := ⟨(by rw [hw]; exact (vm_ (Kd.V_far (p := ⟨gC_, 3, none⟩) (Kd.V_far (p := ⟨gC_, 2, none⟩) (Kd.V_far (p := ⟨gC_, 1, none⟩) (Kd.V_far (p := ⟨gC_, 0, none⟩) (Kd.V_mono aA.out (fun k_ hk => (⟨hk, hk.2⟩ : _ ∧ k_ ≠ gC_))) (fun _ hk => hk.2) (.bool bZ)) (fun _ hk => hk.2) (.string b2)) (fun _ hk => hk.2) (.slice bA aL.length a9)) (fun _ hk => hk.2) (.string b6)) (fun _ hk => ⟨hk.1.1.1, ⟨hk.1.1.2, hk.1.2⟩⟩)))⟩; have bK : Aside0 (Kd.V Kd.string 9 fB w.heap.size (fun k_ => k_ ≠ gA_ ∧ k_ ≠ gB_ ∧ k_ ≠ gC_) (.slice bA aL.length a9) aL) := ⟨(by rw [hw]; exact (vm_ (Kd.V_far (p := ⟨gC_, 3, none⟩) (Kd.V_far (p := ⟨gC_, 2, none⟩) (Kd.V_far (p := ⟨gC_, 1, none⟩) (Kd.V_far (p := ⟨gC_, 0, none⟩) (Kd.V_mono aB.out (fun k_ hk => (⟨hk, hk.2⟩ : _ ∧ k_ ≠ gC_))) (fun _ hk => hk.2) (.bool bZ)) (fun _ hk => hk.2) (.string b2)) (fun _ hk => hk.2) (.slice bA aL.length a9)) (fun _ hk => hk.2) (.string b6)) (fun _ hk => ⟨hk.1.1.1, ⟨hk.1.1.2, hk.1.2⟩⟩)))⟩; have bL : Aside0 (fB.heap[gA_]? = some (.cells #[.bool aG, .string aH, .slice aN aF.length aO, .string aI] 24 (0, 0))) := ⟨(by rw [hw]; exact (bs_ bA_.out))⟩; have bM : Aside0 (fB.heap[gB_]? = some (.cells #[.bool bX, .string bY, .slice a8 aK.length a7, .string b4] 24 (0, 0))) := ⟨(by rw [hw]; exact (bs_ bB_.out))⟩; have bN : Aside0 (fB.heap[gC_]? = some (.cells #[.bool bZ, .string b2, .slice bA aL.length a9, .string b6] 24 (0, 0))) := ⟨(by rw [hw]; exact (bs_ bC_.out))⟩; have bO : Aside0 (Below w.heap.size w fB) := ⟨(by rw [hw]; exact hb_)⟩; clear hw aA aB bA_ bB_ bC_ HB; have aA := bJ; have aB := bK; have bA_ := bL; have bB_ := bM; have bC_ := bN; have HB := bO; clear bJ bK bL bM bN bO; obtain ⟨h5, jL, h6, jM, h7, jN, h8, jO⟩ := b4_ bA_.out) | (refine gc_ 27 ?_; refine gl_ (some 42) Try.func27 #[.agg #[.bool aG, .string aH, .slice aN aF.length aO, .string aI]] ?_; (with_reducible refine (zqo.calls aG aH (fun k_ => k_ < w.heap.size) _ _ aF aI b0 b3 aM b7 hA eP _ ?side1 pI.out).mono ?_); (case side1 => exact Kd.V_mk cP.out (Kd.F_below (Kd.C_F Kd.heap_string cQ.out) HB.out)); rintro e qP ⟨p5, rfl, dO, hb⟩; refine ⟨_, rfl, ?_⟩; replace aA := am_ (Kd.V_below aA.out hb); replace aB := am_ (Kd.V_below aB.out hb); have aC := am_ (Kd.V_lower (Kd.V_mono (ok' := fun k_ => k_ ≠ gA_ ∧ k_ ≠ gB_ ∧ k_ ≠ gC_) dO (fun k_ hk_ => ⟨Or.elim hk_ (fun hs_ => fun e_ => Nat.not_le.2 hs_ (by rw [e_]; exact cU.out)) (fun hn_ => (Kd.freshB bA_.out k_ hn_)), Or.elim hk_ (fun hs_ => fun e_ => Nat.not_le.2 hs_ (by rw [e_]; exact c1.out)) (fun hn_ => (Kd.freshB bB_.out k_ hn_)), Or.elim hk_ (fun hs_ => fun e_ => Nat.not_le.2 hs_ (by rw [e_]; exact c2.out)) (fun hn_ => (Kd.freshB bC_.out k_ hn_))⟩)) (y08 HB.out)); replace bA_ := am_ (y0b bA_.out hb); replace bB_ := am_ (y0b bB_.out hb); replace bC_ := am_ (y0b bC_.out hb); replace HB := am_ (y09 HB.out hb)) | (refine gd_ 11 ?_; (try (refine y12 (by rfl) ?_; dsimp only)); refine bx_ 11 (cs := #[.bool false, .string nB_, .slice none 0 0, .string nB_]) 24 ?_; intro gD_ hg qI hbox hb; replace aA := am_ (Kd.V_below (Kd.V_elderB aA.out gD_ (Nat.le_of_eq hg.symm)) hb); replace aB := am_ (Kd.V_below (Kd.V_elderB aB.out gD_ (Nat.le_of_eq hg.symm)) hb); replace aC := am_ (Kd.V_below (Kd.V_elderB aC.out gD_ (Nat.le_of_eq hg.symm)) hb); have bD_ := am_ (hbox); have dG := am_ ((by rw [hg]; exact (y08 HB.out) : w.heap.size ≤ gD_)); have nX := am_ ((by rw [hg]; exact (y08 HB.out) : w.heap.size ≤ gD_)); replace HB := am_ (y09 HB.out hb); have nAD := am_ ((by rw [hg]; exact Nat.ne_of_lt (y0i bA_.out) : gA_ ≠ gD_)); have nDA := am_ ((by rw [hg]; exact Nat.ne_of_gt (y0i bA_.out) : gD_ ≠ gA_)); replace bA_ := am_ (y0b bA_.out hb); have nBD := am_ ((by rw [hg]; exact Nat.ne_of_lt (y0i bB_.out) : gB_ ≠ gD_)); have nDB := am_ ((by rw [hg]; exact Nat.ne_of_gt (y0i bB_.out) : gD_ ≠ gB_)); replace bB_ := am_ (y0b bB_.out hb); have nCD := am_ ((by rw [hg]; exact Nat.ne_of_lt (y0i bC_.out) : gC_ ≠ gD_)); have nDC := am_ ((by rw [hg]; exact Nat.ne_of_gt (y0i bC_.out) : gD_ ≠ gC_)); replace bC_ := am_ (y0b bC_.out hb); clear hb hbox hg; have oH := nDA.out; have oZ := nAD.out; have oI := nDB.out; have o0 := nBD.out; have oJ := nDC.out; have o1 := nCD.out; obtain ⟨h9, jP, iA, jQ, iB, jR, iC, jS⟩ := b4_ bD_.out; obtain ⟨bB, bC, nB⟩ := Kd.V_slice aC.out; subst nB) | ((with_reducible refine y13 (t := 24) (p := 11) rfl ?_); refine y1w (t := 24) (p := 11) (v := ?vo_w60) (w1 := ((((qI.setCell ⟨gD_, 0, none⟩ (.bool b0)).setCell ⟨gD_, 1, none⟩ (.string b3)).setCell ⟨gD_, 2, none⟩ (.slice bB aM.length bC)).setCell ⟨gD_, 3, none⟩ (.string b7))) ?hg ?ho ?hn ?hr ?_; (case ho => rfl); (case hg => rfl); (case hn => rfl); (case hr => first | (go_simp; done) | (go_simp; rfl)); intro eZ hw; have bJ : Aside0 (Kd.V Kd.string 9 eZ w.heap.size (fun k_ => k_ ≠ gA_ ∧ k_ ≠ gB_ ∧ k_ ≠ gC_ ∧ k_ ≠ gD_) (.slice a8 aK.length a7) aK) := ⟨(by rw [hw]; exact (vm_ (Kd.V_far (p := ⟨gD_, 3, none⟩) (Kd.V_far (p := ⟨gD_, 2, none⟩) (Kd.V_far (p := ⟨gD_, 1, none⟩) (Kd.V_far (p := ⟨gD_, 0, none⟩) (Kd.V_mono aA.out (fun k_ hk => (⟨hk, hk.2⟩ : _ ∧ k_ ≠ gD_))) (fun _ hk => hk.2) (.bool b0)) (fun _ hk => hk.2) (.string b3)) (fun _ hk => hk.2) (.slice bB aM.length bC)) (fun _ hk => hk.2) (.string b7)) (fun _ hk => ⟨hk.1.1.1, ⟨hk.1.1.2.1, ⟨hk.1.1.2.2, hk.1.2⟩⟩⟩)))⟩; have bK : Aside0 (Kd.V Kd.string 9 eZ w.heap.size (fun k_ => k_ ≠ gA_ ∧ k_ ≠ gB_ ∧ k_ ≠ gC_ ∧ k_ ≠ gD_) (.slice bA aL.length a9) aL) := ⟨(by rw [hw]; exact (vm_ (Kd.V_far (p := ⟨gD_, 3, none⟩) (Kd.V_far (p := ⟨gD_, 2, none⟩) (Kd.V_far (p := ⟨gD_, 1, none⟩) (Kd.V_far (p := ⟨gD_, 0, none⟩) (Kd.V_mono aB.out (fun k_ hk => (⟨hk, hk.2⟩ : _ ∧ k_ ≠ gD_))) (fun _ hk => hk.2) (.bool b0)) (fun _ hk => hk.2) (.string b3)) (fun _ hk => hk.2) (.slice bB aM.length bC)) (fun _ hk => hk.2) (.string b7)) (fun _ hk => ⟨hk.1.1.1, ⟨hk.1.1.2.1, ⟨hk.1.1.2.2, hk.1.2⟩⟩⟩)))⟩; have bL : Aside0 (Kd.V Kd.string 9 eZ w.heap.size (fun k_ => k_ ≠ gA_ ∧ k_ ≠ gB_ ∧ k_ ≠ gC_ ∧ k_ ≠ gD_) (.slice bB aM.length bC) aM) := ⟨(by rw [hw]; exact (vm_ (Kd.V_far (p := ⟨gD_, 3, none⟩) (Kd.V_far (p := ⟨gD_, 2, none⟩) (Kd.V_far (p := ⟨gD_, 1, none⟩) (Kd.V_far (p := ⟨gD_, 0, none⟩) (Kd.V_mono aC.out (fun k_ hk => (⟨hk, hk.2⟩ : _ ∧ k_ ≠ gD_))) (fun _ hk => hk.2) (.bool b0)) (fun _ hk => hk.2) (.string b3)) (fun _ hk => hk.2) (.slice bB aM.length bC)) (fun _ hk => hk.2) (.string b7)) (fun _ hk => ⟨hk.1.1.1, ⟨hk.1.1.2.1, ⟨hk.1.1.2.2, hk.1.2⟩⟩⟩)))⟩; have bM : Aside0 (eZ.heap[gA_]? = some (.cells #[.bool aG, .string aH, .slice aN aF.length aO, .string aI] 24 (0, 0))) := ⟨(by rw [hw]; exact (bs_ bA_.out))⟩; have bN : Aside0 (eZ.heap[gB_]? = some (.cells #[.bool bX, .string bY, .slice a8 aK.length a7, .string b4] 24 (0, 0))) := ⟨(by rw [hw]; exact (bs_ bB_.out))⟩; have bO : Aside0 (eZ.heap[gC_]? = some (.cells #[.bool bZ, .string b2, .slice bA aL.length a9, .string b6] 24 (0, 0))) := ⟨(by rw [hw]; exact (bs_ bC_.out))⟩; have bQ : Aside0 (eZ.heap[gD_]? = some (.cells #[.bool b0, .string b3, .slice bB aM.length bC, .string b7] 24 (0, 0))) := ⟨(by rw [hw]; exact (bs_ bD_.out))⟩; have bR : Aside0 (Below w.heap.size w eZ) := ⟨(by rw [hw]; exact hb_)⟩; clear hw aA aB aC bA_ bB_ bC_ bD_ HB; have aA := bJ; have aB := bK; have aC := bL; have bA_ := bM; have bB_ := bN; have bC_ := bO; have bD_ := bQ; have HB := bR; clear bJ bK bL bM bN bO bQ bR; obtain ⟨iD, jT, iE, jU, iF, jV, iG, jW⟩ := b4_ bA_.out) | (refine gc_ 28 ?_; refine gl_ (some 48) Try.func28 #[.agg #[.bool aG, .string aH, .slice aN aF.length aO, .string aI]] ?_; (with_reducible refine (zqe.calls aG aH (fun k_ => k_ < w.heap.size) _ _ aF aI bE bF aJ bG hB eQ _ ?side1 pJ.out).mono ?_); (case side1 => exact Kd.V_mk cP.out (Kd.F_below (Kd.C_F Kd.heap_string cQ.out) HB.out)); rintro e qQ ⟨p6, rfl, dO, hb⟩; refine ⟨_, rfl, ?_⟩; replace aA := am_ (Kd.V_below aA.out hb); replace aB := am_ (Kd.V_below aB.out hb); replace aC := am_ (Kd.V_below aC.out hb); have aD := am_ (Kd.V_lower (Kd.V_mono (ok' := fun k_ => k_ ≠ gA_ ∧ k_ ≠ gB_ ∧ k_ ≠ gC_ ∧ k_ ≠ gD_) dO (fun k_ hk_ => ⟨Or.elim hk_ (fun hs_ => fun e_ => Nat.not_le.2 hs_ (by rw [e_]; exact cU.out)) (fun hn_ => (Kd.freshB bA_.out k_ hn_)), Or.elim hk_ (fun hs_ => fun e_ => Nat.not_le.2 hs_ (by rw [e_]; exact c1.out)) (fun hn_ => (Kd.freshB bB_.out k_ hn_)), Or.elim hk_ (fun hs_ => fun e_ => Nat.not_le.2 hs_ (by rw [e_]; exact c2.out)) (fun hn_ => (Kd.freshB bC_.out k_ hn_)), Or.elim hk_ (fun hs_ => fun e_ => Nat.not_le.2 hs_ (by rw [e_]; exact dG.out)) (fun hn_ => (Kd.freshB bD_.out k_ hn_))⟩)) (y08 HB.out)); replace bA_ := am_ (y0b bA_.out hb); replace bB_ := am_ (y0b bB_.out hb); replace bC_ := am_ (y0b bC_.out hb); replace bD_ := am_ (y0b bD_.out hb); replace HB := am_ (y09 HB.out hb)) | (refine gd_ 14 ?_; (try (refine y12 (by rfl) ?_; dsimp only)); refine bx_ 14 (cs := #[.bool false, .string nB_, .slice none 0 0, .string nB_]) 24 ?_; intro gE_ hg eM hbox hb; replace aA := am_ (Kd.V_below (Kd.V_elderB aA.out gE_ (Nat.le_of_eq hg.symm)) hb); replace aB := am_ (Kd.V_below (Kd.V_elderB aB.out gE_ (Nat.le_of_eq hg.symm)) hb); replace aC := am_ (Kd.V_below (Kd.V_elderB aC.out gE_ (Nat.le_of_eq hg.symm)) hb); replace aD := am_ (Kd.V_below (Kd.V_elderB aD.out gE_ (Nat.le_of_eq hg.symm)) hb); have bE_ := am_ (hbox); have dM := am_ ((by rw [hg]; exact (y08 HB.out) : w.heap.size ≤ gE_)); have nY := am_ ((by rw [hg]; exact (y08 HB.out) : w.heap.size ≤ gE_)); replace HB := am_ (y09 HB.out hb); have nAE := am_ ((by rw [hg]; exact Nat.ne_of_lt (y0i bA_.out) : gA_ ≠ gE_)); have nEA := am_ ((by rw [hg]; exact Nat.ne_of_gt (y0i bA_.out) : gE_ ≠ gA_)); replace bA_ := am_ (y0b bA_.out hb); have nBE := am_ ((by rw [hg]; exact Nat.ne_of_lt (y0i bB_.out) : gB_ ≠ gE_)); have nEB := am_ ((by rw [hg]; exact Nat.ne_of_gt (y0i bB_.out) : gE_ ≠ gB_)); replace bB_ := am_ (y0b bB_.out hb); have nCE := am_ ((by rw [hg]; exact Nat.ne_of_lt (y0i bC_.out) : gC_ ≠ gE_)); have nEC := am_ ((by rw [hg]; exact Nat.ne_of_gt (y0i bC_.out) : gE_ ≠ gC_)); replace bC_ := am_ (y0b bC_.out hb); have nDE := am_ ((by rw [hg]; exact Nat.ne_of_lt (y0i bD_.out) : gD_ ≠ gE_)); have nED := am_ ((by rw [hg]; exact Nat.ne_of_gt (y0i bD_.out) : gE_ ≠ gD_)); replace bD_ := am_ (y0b bD_.out hb); clear hb hbox hg; have oK := nEA.out; have o2 := nAE.out; have oL := nEB.out; have o3 := nBE.out; have oM := nEC.out; have o4 := nCE.out; have oN := nED.out; have o5 := nDE.out; obtain ⟨iH, jX, iI, jY, iJ, jZ, iK, j0⟩ := b4_ bE_.out; obtain ⟨aR, aS, nC⟩ := Kd.V_slice aD.out; subst nC))
 have bJ : Aside0 (Kd.V Kd.string 9 ((((eM.setCell ⟨gE_, 0, none⟩ (.bool bE)).setCell ⟨gE_, 1, none⟩ (.string bF)).setCell ⟨gE_, 2, none⟩ (.slice aR aJ.length aS)).setCell ⟨gE_, 3, none⟩ (.string bG)) w.heap.size (fun k_ => k_ ≠ gA_ ∧ k_ ≠ gB_ ∧ k_ ≠ gC_ ∧ k_ ≠ gD_ ∧ k_ ≠ gE_) (.slice a8 aK.length a7) aK) := ⟨vm_ (Kd.V_far (p := ⟨gE_, 3, none⟩) (Kd.V_far (p := ⟨gE_, 2, none⟩) (Kd.V_far (p := ⟨gE_, 1, none⟩) (Kd.V_far (p := ⟨gE_, 0, none⟩) (Kd.V_mono aA.out (fun k_ hk => (⟨hk, hk.2⟩ : _ ∧ k_ ≠ gE_))) (fun _ hk => hk.2) (.bool bE)) (fun _ hk => hk.2) (.string bF)) (fun _ hk => hk.2) (.slice aR aJ.length aS)) (fun _ hk => hk.2) (.string bG)) (fun _ hk => ⟨hk.1.1.1, ⟨hk.1.1.2.1, ⟨hk.1.1.2.2.1, ⟨hk.1.1.2.2.2, hk.1.2⟩⟩⟩⟩)⟩
 have bK : Aside0 (Kd.V Kd.string 9 ((((eM.setCell ⟨gE_, 0, none⟩ (.bool bE)).setCell ⟨gE_, 1, none⟩ (.string bF)).setCell ⟨gE_, 2, none⟩ (.slice aR aJ.length aS)).setCell ⟨gE_, 3, none⟩ (.string bG)) w.heap.size (fun k_ => k_ ≠ gA_ ∧ k_ ≠ gB_ ∧ k_ ≠ gC_ ∧ k_ ≠ gD_ ∧ k_ ≠ gE_) (.slice bA aL.length a9) aL) := ⟨vm_ (Kd.V_far (p := ⟨gE_, 3, none⟩) (Kd.V_far (p := ⟨gE_, 2, none⟩) (Kd.V_far (p := ⟨gE_, 1, none⟩) (Kd.V_far (p := ⟨gE_, 0, none⟩) (Kd.V_mono aB.out (fun k_ hk => (⟨hk, hk.2⟩ : _ ∧ k_ ≠ gE_))) (fun _ hk => hk.2) (.bool bE)) (fun _ hk => hk.2) (.string bF)) (fun _ hk => hk.2) (.slice aR aJ.length aS)) (fun _ hk => hk.2) (.string bG)) (fun _ hk => ⟨hk.1.1.1, ⟨hk.1.1.2.1, ⟨hk.1.1.2.2.1, ⟨hk.1.1.2.2.2, hk.1.2⟩⟩⟩⟩)⟩
 have bL : Aside0 (Kd.V Kd.string 9 ((((eM.setCell ⟨gE_, 0, none⟩ (.bool bE)).setCell ⟨gE_, 1, none⟩ (.string bF)).setCell ⟨gE_, 2, none⟩ (.slice aR aJ.length aS)).setCell ⟨gE_, 3, none⟩ (.string bG)) w.heap.size (fun k_ => k_ ≠ gA_ ∧ k_ ≠ gB_ ∧ k_ ≠ gC_ ∧ k_ ≠ gD_ ∧ k_ ≠ gE_) (.slice bB aM.length bC) aM) := ⟨vm_ (Kd.V_far (p := ⟨gE_, 3, none⟩) (Kd.V_far (p := ⟨gE_, 2, none⟩) (Kd.V_far (p := ⟨gE_, 1, none⟩) (Kd.V_far (p := ⟨gE_, 0, none⟩) (Kd.V_mono aC.out (fun k_ hk => (⟨hk, hk.2⟩ : _ ∧ k_ ≠ gE_))) (fun _ hk => hk.2) (.bool bE)) (fun _ hk => hk.2) (.string bF)) (fun _ hk => hk.2) (.slice aR aJ.length aS)) (fun _ hk => hk.2) (.string bG)) (fun _ hk => ⟨hk.1.1.1, ⟨hk.1.1.2.1, ⟨hk.1.1.2.2.1, ⟨hk.1.1.2.2.2, hk.1.2⟩⟩⟩⟩)⟩
 have bM : Aside0 (Kd.V Kd.string 9 ((((eM.setCell ⟨gE_, 0, none⟩ (.bool bE)).setCell ⟨gE_, 1, none⟩ (.string bF)).setCell ⟨gE_, 2, none⟩ (.slice aR aJ.length aS)).setCell ⟨gE_, 3, none⟩ (.string bG)) w.heap.size (fun k_ => k_ ≠ gA_ ∧ k_ ≠ gB_ ∧ k_ ≠ gC_ ∧ k_ ≠ gD_ ∧ k_ ≠ gE_) (.slice aR aJ.length aS) aJ) := ⟨vm_ (Kd.V_far (p := ⟨gE_, 3, none⟩) (Kd.V_far (p := ⟨gE_, 2, none⟩) (Kd.V_far (p := ⟨gE_, 1, none⟩) (Kd.V_far (p := ⟨gE_, 0, none⟩) (Kd.V_mono aD.out (fun k_ hk => (⟨hk, hk.2⟩ : _ ∧ k_ ≠ gE_))) (fun _ hk => hk.2) (.bool bE)) (fun _ hk => hk.2) (.string bF)) (fun _ hk => hk.2) (.slice aR aJ.length aS)) (fun _ hk => hk.2) (.string bG)) (fun _ hk => ⟨hk.1.1.1, ⟨hk.1.1.2.1, ⟨hk.1.1.2.2.1, ⟨hk.1.1.2.2.2, hk.1.2⟩⟩⟩⟩)⟩
 have bN : Aside0 (((((eM.setCell ⟨gE_, 0, none⟩ (.bool bE)).setCell ⟨gE_, 1, none⟩ (.string bF)).setCell ⟨gE_, 2, none⟩ (.slice aR aJ.length aS)).setCell ⟨gE_, 3, none⟩ (.string bG)).heap[gA_]? = some (.cells #[.bool aG, .string aH, .slice aN aF.length aO, .string aI] 24 (0, 0))) := ⟨by refine y0f ?_ nAE.out _; refine y0f ?_ nAE.out _; refine y0f ?_ nAE.out _; refine y0f ?_ nAE.out _; exact bA_.out⟩
 have bO : Aside0 (((((eM.setCell ⟨gE_, 0, none⟩ (.bool bE)).setCell ⟨gE_, 1, none⟩ (.string bF)).setCell ⟨gE_, 2, none⟩ (.slice aR aJ.length aS)).setCell ⟨gE_, 3, none⟩ (.string bG)).heap[gB_]? = some (.cells #[.bool bX, .string bY, .slice a8 aK.length a7, .string b4] 24 (0, 0))) := ⟨by refine y0f ?_ nBE.out _; refine y0f ?_ nBE.out _; refine y0f ?_ nBE.out _; refine y0f ?_ nBE.out _; exact bB_.out⟩
 have bQ : Aside0 (((((eM.setCell ⟨gE_, 0, none⟩ (.bool bE)).setCell ⟨gE_, 1, none⟩ (.string bF)).setCell ⟨gE_, 2, none⟩ (.slice aR aJ.length aS)).setCell ⟨gE_, 3, none⟩ (.string bG)).heap[gC_]? = some (.cells #[.bool bZ, .string b2, .slice bA aL.length a9, .string b6] 24 (0, 0))) := ⟨by refine y0f ?_ nCE.out _; refine y0f ?_ nCE.out _; refine y0f ?_ nCE.out _; refine y0f ?_ nCE.out _; exact bC_.out⟩
 have bR : Aside0 (((((eM.setCell ⟨gE_, 0, none⟩ (.bool bE)).setCell ⟨gE_, 1, none⟩ (.string bF)).setCell ⟨gE_, 2, none⟩ (.slice aR aJ.length aS)).setCell ⟨gE_, 3, none⟩ (.string bG)).heap[gD_]? = some (.cells #[.bool b0, .string b3, .slice bB aM.length bC, .string b7] 24 (0, 0))) := ⟨by refine y0f ?_ nDE.out _; refine y0f ?_ nDE.out _; refine y0f ?_ nDE.out _; refine y0f ?_ nDE.out _; exact bD_.out⟩
 have bV : Aside0 (((((eM.setCell ⟨gE_, 0, none⟩ (.bool bE)).setCell ⟨gE_, 1, none⟩ (.string bF)).setCell ⟨gE_, 2, none⟩ (.slice aR aJ.length aS)).setCell ⟨gE_, 3, none⟩ (.string bG)).heap[gE_]? = some (.cells #[.bool bE, .string bF, .slice aR aJ.length aS, .string bG] 24 (0, 0))) := ⟨by refine y0j (cs := #[.bool bE, .string bF, .slice aR aJ.length aS, .string nB_]) ?_ 3 _ rfl; refine y0j (cs := #[.bool bE, .string bF, .slice none 0 0, .string nB_]) ?_ 2 _ rfl; refine y0j (cs := #[.bool bE, .string nB_, .slice none 0 0, .string nB_]) ?_ 1 _ rfl; refine y0j (cs := #[.bool false, .string nB_, .slice none 0 0, .string nB_]) ?_ 0 _ rfl; exact bE_.out⟩
 have bW : Aside0 (Below w.heap.size w ((((eM.setCell ⟨gE_, 0, none⟩ (.bool bE)).setCell ⟨gE_, 1, none⟩ (.string bF)).setCell ⟨gE_, 2, none⟩ (.slice aR aJ.length aS)).setCell ⟨gE_, 3, none⟩ (.string bG))) := ⟨hb_⟩
 (try (have eR : (((((eM.setCell ⟨gE_, 0, none⟩ (.bool bE)).setCell ⟨gE_, 1, none⟩ (.string bF)).setCell ⟨gE_, 2, none⟩ (.slice aR aJ.length aS)).setCell ⟨gE_, 3, none⟩ (.string bG))).cell? ⟨gE_, 3, none⟩ = some (.string bG) := World.cell?_setCell_same _ _ _ (by with_reducible assumption)))
 (first | generalize ((((eM.setCell ⟨gE_, 0, none⟩ (.bool bE)).setCell ⟨gE_, 1, none⟩ (.string bF)).setCell ⟨gE_, 2, none⟩ (.slice aR aJ.length aS)).setCell ⟨gE_, 3, none⟩ (.string bG)) = pE at bJ bK bL bM bN bO bQ bR bV bW eR ⊢ | generalize ((((eM.setCell ⟨gE_, 0, none⟩ (.bool bE)).setCell ⟨gE_, 1, none⟩ (.string bF)).setCell ⟨gE_, 2, none⟩ (.slice aR aJ.length aS)).setCell ⟨gE_, 3, none⟩ (.string bG)) = pE at bJ bK bL bM bN bO bQ bR bV bW ⊢)
 have aA := bJ; have aB := bK; have aC := bL; have aD := bM; have bA_ := bN; have bB_ := bO; have bC_ := bQ; have bD_ := bR; have bE_ := bV; have HB := bW
 clear bJ bK bL bM bN bO bQ bR bV bW
 replace aA := am_ (Kd.V_drew aA.out)
 replace aB := am_ (Kd.V_drew aB.out)
 replace aC := am_ (Kd.V_drew aC.out)
 replace aD := am_ (Kd.V_drew aD.out)
 replace bA_ := am_ (y0d bA_.out)
 replace bB_ := am_ (y0d bB_.out)
 replace bC_ := am_ (y0d bC_.out)
 replace bD_ := am_ (y0d bD_.out)
 replace bE_ := am_ (y0d bE_.out)
 replace HB := am_ (y07 HB.out)
 refine start_ (n := 10) (S := fun w' => w'.cell? ⟨gA_, 0, none⟩ = some (.bool aG) ∧ w'.cell? ⟨gA_, 1, none⟩ = some (.string aH) ∧ w'.cell? ⟨gA_, 2, none⟩ = some (.slice aN aF.length aO) ∧ w'.cell? ⟨gA_, 3, none⟩ = some (.string aI)) (ds := []) #[false, false, false, false, false, false, false, false, false, false] (by kernel_rfl) rfl rfl ⟨(y0c bA_.out 0).trans rfl, (y0c bA_.out 1).trans rfl, (y0c bA_.out 2).trans rfl, (y0c bA_.out 3).trans rfl⟩ (fun hHeld => ?_); refine y20 zq1.tab7 zq1.bits7 (fun HT_ HW_ => ?_)
 generalize pE.drew = qR at aA aB aC aD bA_ bB_ bC_ bD_ bE_ HB hHeld ⊢
 refine pv_ 1 (some 53) (fl 10 2) ?_
 refine pv_ 4 (some 56) (fl 10 18) ?_
 refine tv_ 0 (some 52) (fl 10 19) ?_
 refine tv_ 3 (some 55) (fl 10 27) ?_
 refine join_ (σ := Value × Value × Nat × Nat) 2 #[true, true, true, true, true, true, true, true, false, false] (fun s_ => [(54, .agg #[.bool cN, .string cO, s_.1, .string cR]), (57, .agg #[.bool cV, .string cY, s_.2.1, .string c0]), (17, .pointer (some ⟨s_.2.2.1, 0, none⟩)), (18, .pointer (some ⟨s_.2.2.2, 0, none⟩))]) (fun s_ w' => (w'.cell? ⟨gA_, 0, none⟩ = some (.bool aG) ∧ w'.cell? ⟨gA_, 1, none⟩ = some (.string aH) ∧ w'.cell? ⟨gA_, 2, none⟩ = some (.slice aN aF.length aO) ∧ w'.cell? ⟨gA_, 3, none⟩ = some (.string aI)) ∧ (Kd.V Kd.string 9 w' w.heap.size (fun k_ => k_ ≠ gA_ ∧ k_ ≠ gB_ ∧ k_ ≠ gC_ ∧ k_ ≠ gD_ ∧ k_ ≠ gE_ ∧ k_ ≠ s_.2.2.1 ∧ k_ ≠ s_.2.2.2) (.slice a8 aK.length a7) aK) ∧ (Kd.V Kd.string 9 w' w.heap.size (fun k_ => k_ ≠ gA_ ∧ k_ ≠ gB_ ∧ k_ ≠ gC_ ∧ k_ ≠ gD_ ∧ k_ ≠ gE_ ∧ k_ ≠ s_.2.2.1 ∧ k_ ≠ s_.2.2.2) (.slice bA aL.length a9) aL) ∧ (Kd.V Kd.string 9 w' w.heap.size (fun k_ => k_ ≠ gA_ ∧ k_ ≠ gB_ ∧ k_ ≠ gC_ ∧ k_ ≠ gD_ ∧ k_ ≠ gE_ ∧ k_ ≠ s_.2.2.1 ∧ k_ ≠ s_.2.2.2) (.slice bB aM.length bC) aM) ∧ (Kd.V Kd.string 9 w' w.heap.size (fun k_ => k_ ≠ gA_ ∧ k_ ≠ gB_ ∧ k_ ≠ gC_ ∧ k_ ≠ gD_ ∧ k_ ≠ gE_ ∧ k_ ≠ s_.2.2.1 ∧ k_ ≠ s_.2.2.2) (.slice aR aJ.length aS) aJ) ∧ (Kd.V Kd.string 9 w' w.heap.size (fun k_ => k_ ≠ gA_ ∧ k_ ≠ gB_ ∧ k_ ≠ gC_ ∧ k_ ≠ gD_ ∧ k_ ≠ gE_ ∧ k_ ≠ s_.2.2.1 ∧ k_ ≠ s_.2.2.2) s_.1 b8) ∧ (Kd.V Kd.string 9 w' w.heap.size (fun k_ => k_ ≠ gA_ ∧ k_ ≠ gB_ ∧ k_ ≠ gC_ ∧ k_ ≠ gD_ ∧ k_ ≠ gE_ ∧ k_ ≠ s_.2.2.1 ∧ k_ ≠ s_.2.2.2) s_.2.1 cS) ∧ (w'.heap[gA_]? = some (.cells #[.bool aG, .string aH, .slice aN aF.length aO, .string aI] 24 (0, 0))) ∧ (w'.heap[gB_]? = some (.cells #[.bool bX, .string bY, .slice a8 aK.length a7, .string b4] 24 (0, 0))) ∧ (w'.heap[gC_]? = some (.cells #[.bool bZ, .string b2, .slice bA aL.length a9, .string b6] 24 (0, 0))) ∧ (w'.heap[gD_]? = some (.cells #[.bool b0, .string b3, .slice bB aM.length bC, .string b7] 24 (0, 0))) ∧ (w'.heap[gE_]? = some (.cells #[.bool bE, .string bF, .slice aR aJ.length aS, .string bG] 24 (0, 0))) ∧ (w'.heap[s_.2.2.1]? = some (.cells #[.bool false, .string nB_, .slice none 0 0, .string nB_] 24 (0, 0))) ∧ (w'.heap[s_.2.2.2]? = some (.cells #[.bool false, .string nB_, .slice none 0 0, .string nB_] 24 (0, 0))) ∧ (w.heap.size ≤ s_.2.2.1) ∧ (w.heap.size ≤ s_.2.2.1) ∧ (gA_ ≠ s_.2.2.1) ∧ (s_.2.2.1 ≠ gA_) ∧ (gB_ ≠ s_.2.2.1) ∧ (s_.2.2.1 ≠ gB_) ∧ (gC_ ≠ s_.2.2.1) ∧ (s_.2.2.1 ≠ gC_) ∧ (gD_ ≠ s_.2.2.1) ∧ (s_.2.2.1 ≠ gD_) ∧ (gE_ ≠ s_.2.2.1) ∧ (s_.2.2.1 ≠ gE_) ∧ (s_.2.2.2 ≠ s_.2.2.1) ∧ (s_.2.2.1 ≠ s_.2.2.2) ∧ (w.heap.size ≤ s_.2.2.2) ∧ (w.heap.size ≤ s_.2.2.2) ∧ (gA_ ≠ s_.2.2.2) ∧ (s_.2.2.2 ≠ gA_) ∧ (gB_ ≠ s_.2.2.2) ∧ (s_.2.2.2 ≠ gB_) ∧ (gC_ ≠ s_.2.2.2) ∧ (s_.2.2.2 ≠ gC_) ∧ (gD_ ≠ s_.2.2.2) ∧ (s_.2.2.2 ≠ gD_) ∧ (gE_ ≠ s_.2.2.2) ∧ (s_.2.2.2 ≠ gE_) ∧ (Below w.heap.size w w')) ?_ ?_
 rotate_left
 ·intro dL
  refine join_ (σ := Value × Value × Nat) 3 #[true, true, true, true, true, true, true, false, false, false] (fun s_ => [(54, .agg #[.bool cN, .string cO, s_.1, .string cR]), (57, .agg #[.bool cV, .string cY, s_.2.1, .string c0]), (17, .pointer (some ⟨s_.2.2, 0, none⟩))]) (fun s_ w' => (w'.cell? ⟨gA_, 0, none⟩ = some (.bool aG) ∧ w'.cell? ⟨gA_, 1, none⟩ = some (.string aH) ∧ w'.cell? ⟨gA_, 2, none⟩ = some (.slice aN aF.length aO) ∧ w'.cell? ⟨gA_, 3, none⟩ = some (.string aI)) ∧ (Kd.V Kd.string 9 w' w.heap.size (fun k_ => k_ ≠ gA_ ∧ k_ ≠ gB_ ∧ k_ ≠ gC_ ∧ k_ ≠ gD_ ∧ k_ ≠ gE_ ∧ k_ ≠ s_.2.2) (.slice a8 aK.length a7) aK) ∧ (Kd.V Kd.string 9 w' w.heap.size (fun k_ => k_ ≠ gA_ ∧ k_ ≠ gB_ ∧ k_ ≠ gC_ ∧ k_ ≠ gD_ ∧ k_ ≠ gE_ ∧ k_ ≠ s_.2.2) (.slice bA aL.length a9) aL) ∧ (Kd.V Kd.string 9 w' w.heap.size (fun k_ => k_ ≠ gA_ ∧ k_ ≠ gB_ ∧ k_ ≠ gC_ ∧ k_ ≠ gD_ ∧ k_ ≠ gE_ ∧ k_ ≠ s_.2.2) (.slice bB aM.length bC) aM) ∧ (Kd.V Kd.string 9 w' w.heap.size (fun k_ => k_ ≠ gA_ ∧ k_ ≠ gB_ ∧ k_ ≠ gC_ ∧ k_ ≠ gD_ ∧ k_ ≠ gE_ ∧ k_ ≠ s_.2.2) (.slice aR aJ.length aS) aJ) ∧ (Kd.V Kd.string 9 w' w.heap.size (fun k_ => k_ ≠ gA_ ∧ k_ ≠ gB_ ∧ k_ ≠ gC_ ∧ k_ ≠ gD_ ∧ k_ ≠ gE_ ∧ k_ ≠ s_.2.2) s_.1 b8) ∧ (Kd.V Kd.string 9 w' w.heap.size (fun k_ => k_ ≠ gA_ ∧ k_ ≠ gB_ ∧ k_ ≠ gC_ ∧ k_ ≠ gD_ ∧ k_ ≠ gE_ ∧ k_ ≠ s_.2.2) s_.2.1 cS) ∧ (w'.heap[gA_]? = some (.cells #[.bool aG, .string aH, .slice aN aF.length aO, .string aI] 24 (0, 0))) ∧ (w'.heap[gB_]? = some (.cells #[.bool bX, .string bY, .slice a8 aK.length a7, .string b4] 24 (0, 0))) ∧ (w'.heap[gC_]? = some (.cells #[.bool bZ, .string b2, .slice bA aL.length a9, .string b6] 24 (0, 0))) ∧ (w'.heap[gD_]? = some (.cells #[.bool b0, .string b3, .slice bB aM.length bC, .string b7] 24 (0, 0))) ∧ (w'.heap[gE_]? = some (.cells #[.bool bE, .string bF, .slice aR aJ.length aS, .string bG] 24 (0, 0))) ∧ (w'.heap[s_.2.2]? = some (.cells #[.bool false, .string nB_, .slice none 0 0, .string nB_] 24 (0, 0))) ∧ (w.heap.size ≤ s_.2.2) ∧ (w.heap.size ≤ s_.2.2) ∧ (gA_ ≠ s_.2.2) ∧ (s_.2.2 ≠ gA_) ∧ (gB_ ≠ s_.2.2) ∧ (s_.2.2 ≠ gB_) ∧ (gC_ ≠ s_.2.2) ∧ (s_.2.2 ≠ gC_) ∧ (gD_ ≠ s_.2.2) ∧ (s_.2.2 ≠ gD_) ∧ (gE_ ≠ s_.2.2) ∧ (s_.2.2 ≠ gE_) ∧ (Below w.heap.size w w')) ?_ ?_
  rotate_left
  ·intro eK
   refine join_ (σ := Value × Value × Nat) 3 #[true, true, true, true, true, true, false, true, false, false] (fun s_ => [(54, .agg #[.bool cN, .string cO, s_.1, .string cR]), (57, .agg #[.bool cV, .string cY, s_.2.1, .string c0]), (18, .pointer (some ⟨s_.2.2, 0, none⟩))]) (fun s_ w' => (w'.cell? ⟨gA_, 0, none⟩ = some (.bool aG) ∧ w'.cell? ⟨gA_, 1, none⟩ = some (.string aH) ∧ w'.cell? ⟨gA_, 2, none⟩ = some (.slice aN aF.length aO) ∧ w'.cell? ⟨gA_, 3, none⟩ = some (.string aI)) ∧ (Kd.V Kd.string 9 w' w.heap.size (fun k_ => k_ ≠ gA_ ∧ k_ ≠ gB_ ∧ k_ ≠ gC_ ∧ k_ ≠ gD_ ∧ k_ ≠ gE_ ∧ k_ ≠ s_.2.2) (.slice a8 aK.length a7) aK) ∧ (Kd.V Kd.string 9 w' w.heap.size (fun k_ => k_ ≠ gA_ ∧ k_ ≠ gB_ ∧ k_ ≠ gC_ ∧ k_ ≠ gD_ ∧ k_ ≠ gE_ ∧ k_ ≠ s_.2.2) (.slice bA aL.length a9) aL) ∧ (Kd.V Kd.string 9 w' w.heap.size (fun k_ => k_ ≠ gA_ ∧ k_ ≠ gB_ ∧ k_ ≠ gC_ ∧ k_ ≠ gD_ ∧ k_ ≠ gE_ ∧ k_ ≠ s_.2.2) (.slice bB aM.length bC) aM) ∧ (Kd.V Kd.string 9 w' w.heap.size (fun k_ => k_ ≠ gA_ ∧ k_ ≠ gB_ ∧ k_ ≠ gC_ ∧ k_ ≠ gD_ ∧ k_ ≠ gE_ ∧ k_ ≠ s_.2.2) (.slice aR aJ.length aS) aJ) ∧ (Kd.V Kd.string 9 w' w.heap.size (fun k_ => k_ ≠ gA_ ∧ k_ ≠ gB_ ∧ k_ ≠ gC_ ∧ k_ ≠ gD_ ∧ k_ ≠ gE_ ∧ k_ ≠ s_.2.2) s_.1 b8) ∧ (Kd.V Kd.string 9 w' w.heap.size (fun k_ => k_ ≠ gA_ ∧ k_ ≠ gB_ ∧ k_ ≠ gC_ ∧ k_ ≠ gD_ ∧ k_ ≠ gE_ ∧ k_ ≠ s_.2.2) s_.2.1 cS) ∧ (w'.heap[gA_]? = some (.cells #[.bool aG, .string aH, .slice aN aF.length aO, .string aI] 24 (0, 0))) ∧ (w'.heap[gB_]? = some (.cells #[.bool bX, .string bY, .slice a8 aK.length a7, .string b4] 24 (0, 0))) ∧ (w'.heap[gC_]? = some (.cells #[.bool bZ, .string b2, .slice bA aL.length a9, .string b6] 24 (0, 0))) ∧ (w'.heap[gD_]? = some (.cells #[.bool b0, .string b3, .slice bB aM.length bC, .string b7] 24 (0, 0))) ∧ (w'.heap[gE_]? = some (.cells #[.bool bE, .string bF, .slice aR aJ.length aS, .string bG] 24 (0, 0))) ∧ (w'.heap[s_.2.2]? = some (.cells #[.bool false, .string nB_, .slice none 0 0, .string nB_] 24 (0, 0))) ∧ (w.heap.size ≤ s_.2.2) ∧ (w.heap.size ≤ s_.2.2) ∧ (gA_ ≠ s_.2.2) ∧ (s_.2.2 ≠ gA_) ∧ (gB_ ≠ s_.2.2) ∧ (s_.2.2 ≠ gB_) ∧ (gC_ ≠ s_.2.2) ∧ (s_.2.2 ≠ gC_) ∧ (gD_ ≠ s_.2.2) ∧ (s_.2.2 ≠ gD_) ∧ (gE_ ≠ s_.2.2) ∧ (s_.2.2 ≠ gE_) ∧ (Below w.heap.size w w')) ?_ ?_
   rotate_left
   ·intro eL
    refine join_ (σ := Value × Nat × Nat) 3 #[true, true, true, true, true, false, true, true, false, false] (fun s_ => [(54, .agg #[.bool cN, .string cO, s_.1, .string cR]), (17, .pointer (some ⟨s_.2.1, 0, none⟩)), (18, .pointer (some ⟨s_.2.2, 0, none⟩))]) (fun s_ w' => (w'.cell? ⟨gA_, 0, none⟩ = some (.bool aG) ∧ w'.cell? ⟨gA_, 1, none⟩ = some (.string aH) ∧ w'.cell? ⟨gA_, 2, none⟩ = some (.slice aN aF.length aO) ∧ w'.cell? ⟨gA_, 3, none⟩ = some (.string aI)) ∧ (Kd.V Kd.string 9 w' w.heap.size (fun k_ => k_ ≠ gA_ ∧ k_ ≠ gB_ ∧ k_ ≠ gC_ ∧ k_ ≠ gD_ ∧ k_ ≠ gE_ ∧ k_ ≠ s_.2.1 ∧ k_ ≠ s_.2.2) (.slice a8 aK.length a7) aK) ∧ (Kd.V Kd.string 9 w' w.heap.size (fun k_ => k_ ≠ gA_ ∧ k_ ≠ gB_ ∧ k_ ≠ gC_ ∧ k_ ≠ gD_ ∧ k_ ≠ gE_ ∧ k_ ≠ s_.2.1 ∧ k_ ≠ s_.2.2) (.slice bA aL.length a9) aL) ∧ (Kd.V Kd.string 9 w' w.heap.size (fun k_ => k_ ≠ gA_ ∧ k_ ≠ gB_ ∧ k_ ≠ gC_ ∧ k_ ≠ gD_ ∧ k_ ≠ gE_ ∧ k_ ≠ s_.2.1 ∧ k_ ≠ s_.2.2) (.slice bB aM.length bC) aM) ∧ (Kd.V Kd.string 9 w' w.heap.size (fun k_ => k_ ≠ gA_ ∧ k_ ≠ gB_ ∧ k_ ≠ gC_ ∧ k_ ≠ gD_ ∧ k_ ≠ gE_ ∧ k_ ≠ s_.2.1 ∧ k_ ≠ s_.2.2) (.slice aR aJ.length aS) aJ) ∧ (Kd.V Kd.string 9 w' w.heap.size (fun k_ => k_ ≠ gA_ ∧ k_ ≠ gB_ ∧ k_ ≠ gC_ ∧ k_ ≠ gD_ ∧ k_ ≠ gE_ ∧ k_ ≠ s_.2.1 ∧ k_ ≠ s_.2.2) s_.1 b8) ∧ (w'.heap[gA_]? = some (.cells #[.bool aG, .string aH, .slice aN aF.length aO, .string aI] 24 (0, 0))) ∧ (w'.heap[gB_]? = some (.cells #[.bool bX, .string bY, .slice a8 aK.length a7, .string b4] 24 (0, 0))) ∧ (w'.heap[gC_]? = some (.cells #[.bool bZ, .string b2, .slice bA aL.length a9, .string b6] 24 (0, 0))) ∧ (w'.heap[gD_]? = some (.cells #[.bool b0, .string b3, .slice bB aM.length bC, .string b7] 24 (0, 0))) ∧ (w'.heap[gE_]? = some (.cells #[.bool bE, .string bF, .slice aR aJ.length aS, .string bG] 24 (0, 0))) ∧ (w'.heap[s_.2.1]? = some (.cells #[.bool false, .string nB_, .slice none 0 0, .string nB_] 24 (0, 0))) ∧ (w'.heap[s_.2.2]? = some (.cells #[.bool false, .string nB_, .slice none 0 0, .string nB_] 24 (0, 0))) ∧ (w.heap.size ≤ s_.2.1) ∧ (w.heap.size ≤ s_.2.1) ∧ (gA_ ≠ s_.2.1) ∧ (s_.2.1 ≠ gA_) ∧ (gB_ ≠ s_.2.1) ∧ (s_.2.1 ≠ gB_) ∧ (gC_ ≠ s_.2.1) ∧ (s_.2.1 ≠ gC_) ∧ (gD_ ≠ s_.2.1) ∧ (s_.2.1 ≠ gD_) ∧ (gE_ ≠ s_.2.1) ∧ (s_.2.1 ≠ gE_) ∧ (s_.2.2 ≠ s_.2.1) ∧ (s_.2.1 ≠ s_.2.2) ∧ (w.heap.size ≤ s_.2.2) ∧ (w.heap.size ≤ s_.2.2) ∧ (gA_ ≠ s_.2.2) ∧ (s_.2.2 ≠ gA_) ∧ (gB_ ≠ s_.2.2) ∧ (s_.2.2 ≠ gB_) ∧ (gC_ ≠ s_.2.2) ∧ (s_.2.2 ≠ gC_) ∧ (gD_ ≠ s_.2.2) ∧ (s_.2.2 ≠ gD_) ∧ (gE_ ≠ s_.2.2) ∧ (s_.2.2 ≠ gE_) ∧ (Below w.heap.size w w')) ?_ ?_
    rotate_left
    ·intro dU
     refine join_ (σ := Value × Value) 4 #[true, true, true, true, true, true, false, false, false, false] (fun s_ => [(54, .agg #[.bool cN, .string cO, s_.1, .string cR]), (57, .agg #[.bool cV, .string cY, s_.2, .string c0])]) (fun s_ w' => (w'.cell? ⟨gA_, 0, none⟩ = some (.bool aG) ∧ w'.cell? ⟨gA_, 1, none⟩ = some (.string aH) ∧ w'.cell? ⟨gA_, 2, none⟩ = some (.slice aN aF.length aO) ∧ w'.cell? ⟨gA_, 3, none⟩ = some (.string aI)) ∧ (Kd.V Kd.string 9 w' w.heap.size (fun k_ => k_ ≠ gA_ ∧ k_ ≠ gB_ ∧ k_ ≠ gC_ ∧ k_ ≠ gD_ ∧ k_ ≠ gE_) (.slice a8 aK.length a7) aK) ∧ (Kd.V Kd.string 9 w' w.heap.size (fun k_ => k_ ≠ gA_ ∧ k_ ≠ gB_ ∧ k_ ≠ gC_ ∧ k_ ≠ gD_ ∧ k_ ≠ gE_) (.slice bA aL.length a9) aL) ∧ (Kd.V Kd.string 9 w' w.heap.size (fun k_ => k_ ≠ gA_ ∧ k_ ≠ gB_ ∧ k_ ≠ gC_ ∧ k_ ≠ gD_ ∧ k_ ≠ gE_) (.slice bB aM.length bC) aM) ∧ (Kd.V Kd.string 9 w' w.heap.size (fun k_ => k_ ≠ gA_ ∧ k_ ≠ gB_ ∧ k_ ≠ gC_ ∧ k_ ≠ gD_ ∧ k_ ≠ gE_) (.slice aR aJ.length aS) aJ) ∧ (Kd.V Kd.string 9 w' w.heap.size (fun k_ => k_ ≠ gA_ ∧ k_ ≠ gB_ ∧ k_ ≠ gC_ ∧ k_ ≠ gD_ ∧ k_ ≠ gE_) s_.1 b8) ∧ (Kd.V Kd.string 9 w' w.heap.size (fun k_ => k_ ≠ gA_ ∧ k_ ≠ gB_ ∧ k_ ≠ gC_ ∧ k_ ≠ gD_ ∧ k_ ≠ gE_) s_.2 cS) ∧ (w'.heap[gA_]? = some (.cells #[.bool aG, .string aH, .slice aN aF.length aO, .string aI] 24 (0, 0))) ∧ (w'.heap[gB_]? = some (.cells #[.bool bX, .string bY, .slice a8 aK.length a7, .string b4] 24 (0, 0))) ∧ (w'.heap[gC_]? = some (.cells #[.bool bZ, .string b2, .slice bA aL.length a9, .string b6] 24 (0, 0))) ∧ (w'.heap[gD_]? = some (.cells #[.bool b0, .string b3, .slice bB aM.length bC, .string b7] 24 (0, 0))) ∧ (w'.heap[gE_]? = some (.cells #[.bool bE, .string bF, .slice aR aJ.length aS, .string bG] 24 (0, 0))) ∧ (Below w.heap.size w w')) ?_ ?_
     rotate_left
     ·intro fU
      refine join_ (σ := Value × Nat) 4 #[true, true, true, true, true, false, true, false, false, false] (fun s_ => [(54, .agg #[.bool cN, .string cO, s_.1, .string cR]), (17, .pointer (some ⟨s_.2, 0, none⟩))]) (fun s_ w' => (w'.cell? ⟨gA_, 0, none⟩ = some (.bool aG) ∧ w'.cell? ⟨gA_, 1, none⟩ = some (.string aH) ∧ w'.cell? ⟨gA_, 2, none⟩ = some (.slice aN aF.length aO) ∧ w'.cell? ⟨gA_, 3, none⟩ = some (.string aI)) ∧ (Kd.V Kd.string 9 w' w.heap.size (fun k_ => k_ ≠ gA_ ∧ k_ ≠ gB_ ∧ k_ ≠ gC_ ∧ k_ ≠ gD_ ∧ k_ ≠ gE_ ∧ k_ ≠ s_.2) (.slice a8 aK.length a7) aK) ∧ (Kd.V Kd.string 9 w' w.heap.size (fun k_ => k_ ≠ gA_ ∧ k_ ≠ gB_ ∧ k_ ≠ gC_ ∧ k_ ≠ gD_ ∧ k_ ≠ gE_ ∧ k_ ≠ s_.2) (.slice bA aL.length a9) aL) ∧ (Kd.V Kd.string 9 w' w.heap.size (fun k_ => k_ ≠ gA_ ∧ k_ ≠ gB_ ∧ k_ ≠ gC_ ∧ k_ ≠ gD_ ∧ k_ ≠ gE_ ∧ k_ ≠ s_.2) (.slice bB aM.length bC) aM) ∧ (Kd.V Kd.string 9 w' w.heap.size (fun k_ => k_ ≠ gA_ ∧ k_ ≠ gB_ ∧ k_ ≠ gC_ ∧ k_ ≠ gD_ ∧ k_ ≠ gE_ ∧ k_ ≠ s_.2) (.slice aR aJ.length aS) aJ) ∧ (Kd.V Kd.string 9 w' w.heap.size (fun k_ => k_ ≠ gA_ ∧ k_ ≠ gB_ ∧ k_ ≠ gC_ ∧ k_ ≠ gD_ ∧ k_ ≠ gE_ ∧ k_ ≠ s_.2) s_.1 b8) ∧ (w'.heap[gA_]? = some (.cells #[.bool aG, .string aH, .slice aN aF.length aO, .string aI] 24 (0, 0))) ∧ (w'.heap[gB_]? = some (.cells #[.bool bX, .string bY, .slice a8 aK.length a7, .string b4] 24 (0, 0))) ∧ (w'.heap[gC_]? = some (.cells #[.bool bZ, .string b2, .slice bA aL.length a9, .string b6] 24 (0, 0))) ∧ (w'.heap[gD_]? = some (.cells #[.bool b0, .string b3, .slice bB aM.length bC, .string b7] 24 (0, 0))) ∧ (w'.heap[gE_]? = some (.cells #[.bool bE, .string bF, .slice aR aJ.length aS, .string bG] 24 (0, 0))) ∧ (w'.heap[s_.2]? = some (.cells #[.bool false, .string nB_, .slice none 0 0, .string nB_] 24 (0, 0))) ∧ (w.heap.size ≤ s_.2) ∧ (w.heap.size ≤ s_.2) ∧ (gA_ ≠ s_.2) ∧ (s_.2 ≠ gA_) ∧ (gB_ ≠ s_.2) ∧ (s_.2 ≠ gB_) ∧ (gC_ ≠ s_.2) ∧ (s_.2 ≠ gC_) ∧ (gD_ ≠ s_.2) ∧ (s_.2 ≠ gD_) ∧ (gE_ ≠ s_.2) ∧ (s_.2 ≠ gE_) ∧ (Below w.heap.size w w')) ?_ ?_
      rotate_left
      ·intro eU
       refine join_ (σ := Value × Nat) 4 #[true, true, true, true, true, false, false, true, false, false] (fun s_ => [(54, .agg #[.bool cN, .string cO, s_.1, .string cR]), (18, .pointer (some ⟨s_.2, 0, none⟩))]) (fun s_ w' => (w'.cell? ⟨gA_, 0, none⟩ = some (.bool aG) ∧ w'.cell? ⟨gA_, 1, none⟩ = some (.string aH) ∧ w'.cell? ⟨gA_, 2, none⟩ = some (.slice aN aF.length aO) ∧ w'.cell? ⟨gA_, 3, none⟩ = some (.string aI)) ∧ (Kd.V Kd.string 9 w' w.heap.size (fun k_ => k_ ≠ gA_ ∧ k_ ≠ gB_ ∧ k_ ≠ gC_ ∧ k_ ≠ gD_ ∧ k_ ≠ gE_ ∧ k_ ≠ s_.2) (.slice a8 aK.length a7) aK) ∧ (Kd.V Kd.string 9 w' w.heap.size (fun k_ => k_ ≠ gA_ ∧ k_ ≠ gB_ ∧ k_ ≠ gC_ ∧ k_ ≠ gD_ ∧ k_ ≠ gE_ ∧ k_ ≠ s_.2) (.slice bA aL.length a9) aL) ∧ (Kd.V Kd.string 9 w' w.heap.size (fun k_ => k_ ≠ gA_ ∧ k_ ≠ gB_ ∧ k_ ≠ gC_ ∧ k_ ≠ gD_ ∧ k_ ≠ gE_ ∧ k_ ≠ s_.2) (.slice bB aM.length bC) aM) ∧ (Kd.V Kd.string 9 w' w.heap.size (fun k_ => k_ ≠ gA_ ∧ k_ ≠ gB_ ∧ k_ ≠ gC_ ∧ k_ ≠ gD_ ∧ k_ ≠ gE_ ∧ k_ ≠ s_.2) (.slice aR aJ.length aS) aJ) ∧ (Kd.V Kd.string 9 w' w.heap.size (fun k_ => k_ ≠ gA_ ∧ k_ ≠ gB_ ∧ k_ ≠ gC_ ∧ k_ ≠ gD_ ∧ k_ ≠ gE_ ∧ k_ ≠ s_.2) s_.1 b8) ∧ (w'.heap[gA_]? = some (.cells #[.bool aG, .string aH, .slice aN aF.length aO, .string aI] 24 (0, 0))) ∧ (w'.heap[gB_]? = some (.cells #[.bool bX, .string bY, .slice a8 aK.length a7, .string b4] 24 (0, 0))) ∧ (w'.heap[gC_]? = some (.cells #[.bool bZ, .string b2, .slice bA aL.length a9, .string b6] 24 (0, 0))) ∧ (w'.heap[gD_]? = some (.cells #[.bool b0, .string b3, .slice bB aM.length bC, .string b7] 24 (0, 0))) ∧ (w'.heap[gE_]? = some (.cells #[.bool bE, .string bF, .slice aR aJ.length aS, .string bG] 24 (0, 0))) ∧ (w'.heap[s_.2]? = some (.cells #[.bool false, .string nB_, .slice none 0 0, .string nB_] 24 (0, 0))) ∧ (w.heap.size ≤ s_.2) ∧ (w.heap.size ≤ s_.2) ∧ (gA_ ≠ s_.2) ∧ (s_.2 ≠ gA_) ∧ (gB_ ≠ s_.2) ∧ (s_.2 ≠ gB_) ∧ (gC_ ≠ s_.2) ∧ (s_.2 ≠ gC_) ∧ (gD_ ≠ s_.2) ∧ (s_.2 ≠ gD_) ∧ (gE_ ≠ s_.2) ∧ (s_.2 ≠ gE_) ∧ (Below w.heap.size w w')) ?_ ?_
       rotate_left
       ·intro eV
        refine join_ (σ := Nat × Nat) 4 #[true, true, false, true, true, false, true, true, false, false] (fun s_ => [(17, .pointer (some ⟨s_.1, 0, none⟩)), (18, .pointer (some ⟨s_.2, 0, none⟩))]) (fun s_ w' => (w'.cell? ⟨gA_, 0, none⟩ = some (.bool aG) ∧ w'.cell? ⟨gA_, 1, none⟩ = some (.string aH) ∧ w'.cell? ⟨gA_, 2, none⟩ = some (.slice aN aF.length aO) ∧ w'.cell? ⟨gA_, 3, none⟩ = some (.string aI)) ∧ (Kd.V Kd.string 9 w' w.heap.size (fun k_ => k_ ≠ gA_ ∧ k_ ≠ gB_ ∧ k_ ≠ gC_ ∧ k_ ≠ gD_ ∧ k_ ≠ gE_ ∧ k_ ≠ s_.1 ∧ k_ ≠ s_.2) (.slice a8 aK.length a7) aK) ∧ (Kd.V Kd.string 9 w' w.heap.size (fun k_ => k_ ≠ gA_ ∧ k_ ≠ gB_ ∧ k_ ≠ gC_ ∧ k_ ≠ gD_ ∧ k_ ≠ gE_ ∧ k_ ≠ s_.1 ∧ k_ ≠ s_.2) (.slice bA aL.length a9) aL) ∧ (Kd.V Kd.string 9 w' w.heap.size (fun k_ => k_ ≠ gA_ ∧ k_ ≠ gB_ ∧ k_ ≠ gC_ ∧ k_ ≠ gD_ ∧ k_ ≠ gE_ ∧ k_ ≠ s_.1 ∧ k_ ≠ s_.2) (.slice bB aM.length bC) aM) ∧ (Kd.V Kd.string 9 w' w.heap.size (fun k_ => k_ ≠ gA_ ∧ k_ ≠ gB_ ∧ k_ ≠ gC_ ∧ k_ ≠ gD_ ∧ k_ ≠ gE_ ∧ k_ ≠ s_.1 ∧ k_ ≠ s_.2) (.slice aR aJ.length aS) aJ) ∧ (w'.heap[gA_]? = some (.cells #[.bool aG, .string aH, .slice aN aF.length aO, .string aI] 24 (0, 0))) ∧ (w'.heap[gB_]? = some (.cells #[.bool bX, .string bY, .slice a8 aK.length a7, .string b4] 24 (0, 0))) ∧ (w'.heap[gC_]? = some (.cells #[.bool bZ, .string b2, .slice bA aL.length a9, .string b6] 24 (0, 0))) ∧ (w'.heap[gD_]? = some (.cells #[.bool b0, .string b3, .slice bB aM.length bC, .string b7] 24 (0, 0))) ∧ (w'.heap[gE_]? = some (.cells #[.bool bE, .string bF, .slice aR aJ.length aS, .string bG] 24 (0, 0))) ∧ (w'.heap[s_.1]? = some (.cells #[.bool false, .string nB_, .slice none 0 0, .string nB_] 24 (0, 0))) ∧ (w'.heap[s_.2]? = some (.cells #[.bool false, .string nB_, .slice none 0 0, .string nB_] 24 (0, 0))) ∧ (w.heap.size ≤ s_.1) ∧ (w.heap.size ≤ s_.1) ∧ (gA_ ≠ s_.1) ∧ (s_.1 ≠ gA_) ∧ (gB_ ≠ s_.1) ∧ (s_.1 ≠ gB_) ∧ (gC_ ≠ s_.1) ∧ (s_.1 ≠ gC_) ∧ (gD_ ≠ s_.1) ∧ (s_.1 ≠ gD_) ∧ (gE_ ≠ s_.1) ∧ (s_.1 ≠ gE_) ∧ (s_.2 ≠ s_.1) ∧ (s_.1 ≠ s_.2) ∧ (w.heap.size ≤ s_.2) ∧ (w.heap.size ≤ s_.2) ∧ (gA_ ≠ s_.2) ∧ (s_.2 ≠ gA_) ∧ (gB_ ≠ s_.2) ∧ (s_.2 ≠ gB_) ∧ (gC_ ≠ s_.2) ∧ (s_.2 ≠ gC_) ∧ (gD_ ≠ s_.2) ∧ (s_.2 ≠ gD_) ∧ (gE_ ≠ s_.2) ∧ (s_.2 ≠ gE_) ∧ (Below w.heap.size w w')) ?_ ?_
        rotate_left
        ·intro eW
         refine join_ (σ := Value) 5 #[true, true, true, true, true, false, false, false, false, false] (fun s_ => [(54, .agg #[.bool cN, .string cO, s_, .string cR])]) (fun s_ w' => (w'.cell? ⟨gA_, 0, none⟩ = some (.bool aG) ∧ w'.cell? ⟨gA_, 1, none⟩ = some (.string aH) ∧ w'.cell? ⟨gA_, 2, none⟩ = some (.slice aN aF.length aO) ∧ w'.cell? ⟨gA_, 3, none⟩ = some (.string aI)) ∧ (Kd.V Kd.string 9 w' w.heap.size (fun k_ => k_ ≠ gA_ ∧ k_ ≠ gB_ ∧ k_ ≠ gC_ ∧ k_ ≠ gD_ ∧ k_ ≠ gE_) (.slice a8 aK.length a7) aK) ∧ (Kd.V Kd.string 9 w' w.heap.size (fun k_ => k_ ≠ gA_ ∧ k_ ≠ gB_ ∧ k_ ≠ gC_ ∧ k_ ≠ gD_ ∧ k_ ≠ gE_) (.slice bA aL.length a9) aL) ∧ (Kd.V Kd.string 9 w' w.heap.size (fun k_ => k_ ≠ gA_ ∧ k_ ≠ gB_ ∧ k_ ≠ gC_ ∧ k_ ≠ gD_ ∧ k_ ≠ gE_) (.slice bB aM.length bC) aM) ∧ (Kd.V Kd.string 9 w' w.heap.size (fun k_ => k_ ≠ gA_ ∧ k_ ≠ gB_ ∧ k_ ≠ gC_ ∧ k_ ≠ gD_ ∧ k_ ≠ gE_) (.slice aR aJ.length aS) aJ) ∧ (Kd.V Kd.string 9 w' w.heap.size (fun k_ => k_ ≠ gA_ ∧ k_ ≠ gB_ ∧ k_ ≠ gC_ ∧ k_ ≠ gD_ ∧ k_ ≠ gE_) s_ b8) ∧ (w'.heap[gA_]? = some (.cells #[.bool aG, .string aH, .slice aN aF.length aO, .string aI] 24 (0, 0))) ∧ (w'.heap[gB_]? = some (.cells #[.bool bX, .string bY, .slice a8 aK.length a7, .string b4] 24 (0, 0))) ∧ (w'.heap[gC_]? = some (.cells #[.bool bZ, .string b2, .slice bA aL.length a9, .string b6] 24 (0, 0))) ∧ (w'.heap[gD_]? = some (.cells #[.bool b0, .string b3, .slice bB aM.length bC, .string b7] 24 (0, 0))) ∧ (w'.heap[gE_]? = some (.cells #[.bool bE, .string bF, .slice aR aJ.length aS, .string bG] 24 (0, 0))) ∧ (Below w.heap.size w w')) ?_ ?_
         rotate_left
         ·intro pR
          refine join_ (σ := Nat) 5 #[true, true, false, true, true, false, true, false, false, false] (fun s_ => [(17, .pointer (some ⟨s_, 0, none⟩))]) (fun s_ w' => (w'.cell? ⟨gA_, 0, none⟩ = some (.bool aG) ∧ w'.cell? ⟨gA_, 1, none⟩ = some (.string aH) ∧ w'.cell? ⟨gA_, 2, none⟩ = some (.slice aN aF.length aO) ∧ w'.cell? ⟨gA_, 3, none⟩ = some (.string aI)) ∧ (Kd.V Kd.string 9 w' w.heap.size (fun k_ => k_ ≠ gA_ ∧ k_ ≠ gB_ ∧ k_ ≠ gC_ ∧ k_ ≠ gD_ ∧ k_ ≠ gE_ ∧ k_ ≠ s_) (.slice a8 aK.length a7) aK) ∧ (Kd.V Kd.string 9 w' w.heap.size (fun k_ => k_ ≠ gA_ ∧ k_ ≠ gB_ ∧ k_ ≠ gC_ ∧ k_ ≠ gD_ ∧ k_ ≠ gE_ ∧ k_ ≠ s_) (.slice bA aL.length a9) aL) ∧ (Kd.V Kd.string 9 w' w.heap.size (fun k_ => k_ ≠ gA_ ∧ k_ ≠ gB_ ∧ k_ ≠ gC_ ∧ k_ ≠ gD_ ∧ k_ ≠ gE_ ∧ k_ ≠ s_) (.slice bB aM.length bC) aM) ∧ (Kd.V Kd.string 9 w' w.heap.size (fun k_ => k_ ≠ gA_ ∧ k_ ≠ gB_ ∧ k_ ≠ gC_ ∧ k_ ≠ gD_ ∧ k_ ≠ gE_ ∧ k_ ≠ s_) (.slice aR aJ.length aS) aJ) ∧ (w'.heap[gA_]? = some (.cells #[.bool aG, .string aH, .slice aN aF.length aO, .string aI] 24 (0, 0))) ∧ (w'.heap[gB_]? = some (.cells #[.bool bX, .string bY, .slice a8 aK.length a7, .string b4] 24 (0, 0))) ∧ (w'.heap[gC_]? = some (.cells #[.bool bZ, .string b2, .slice bA aL.length a9, .string b6] 24 (0, 0))) ∧ (w'.heap[gD_]? = some (.cells #[.bool b0, .string b3, .slice bB aM.length bC, .string b7] 24 (0, 0))) ∧ (w'.heap[gE_]? = some (.cells #[.bool bE, .string bF, .slice aR aJ.length aS, .string bG] 24 (0, 0))) ∧ (w'.heap[s_]? = some (.cells #[.bool false, .string nB_, .slice none 0 0, .string nB_] 24 (0, 0))) ∧ (w.heap.size ≤ s_) ∧ (w.heap.size ≤ s_) ∧ (gA_ ≠ s_) ∧ (s_ ≠ gA_) ∧ (gB_ ≠ s_) ∧ (s_ ≠ gB_) ∧ (gC_ ≠ s_) ∧ (s_ ≠ gC_) ∧ (gD_ ≠ s_) ∧ (s_ ≠ gD_) ∧ (gE_ ≠ s_) ∧ (s_ ≠ gE_) ∧ (Below w.heap.size w w')) ?_ ?_
          rotate_left
          ·intro pS
           refine join_ (σ := Nat) 5 #[true, true, false, true, true, false, false, true, false, false] (fun s_ => [(18, .pointer (some ⟨s_, 0, none⟩))]) (fun s_ w' => (w'.cell? ⟨gA_, 0, none⟩ = some (.bool aG) ∧ w'.cell? ⟨gA_, 1, none⟩ = some (.string aH) ∧ w'.cell? ⟨gA_, 2, none⟩ = some (.slice aN aF.length aO) ∧ w'.cell? ⟨gA_, 3, none⟩ = some (.string aI)) ∧ (Kd.V Kd.string 9 w' w.heap.size (fun k_ => k_ ≠ gA_ ∧ k_ ≠ gB_ ∧ k_ ≠ gC_ ∧ k_ ≠ gD_ ∧ k_ ≠ gE_ ∧ k_ ≠ s_) (.slice a8 aK.length a7) aK) ∧ (Kd.V Kd.string 9 w' w.heap.size (fun k_ => k_ ≠ gA_ ∧ k_ ≠ gB_ ∧ k_ ≠ gC_ ∧ k_ ≠ gD_ ∧ k_ ≠ gE_ ∧ k_ ≠ s_) (.slice bA aL.length a9) aL) ∧ (Kd.V Kd.string 9 w' w.heap.size (fun k_ => k_ ≠ gA_ ∧ k_ ≠ gB_ ∧ k_ ≠ gC_ ∧ k_ ≠ gD_ ∧ k_ ≠ gE_ ∧ k_ ≠ s_) (.slice bB aM.length bC) aM) ∧ (Kd.V Kd.string 9 w' w.heap.size (fun k_ => k_ ≠ gA_ ∧ k_ ≠ gB_ ∧ k_ ≠ gC_ ∧ k_ ≠ gD_ ∧ k_ ≠ gE_ ∧ k_ ≠ s_) (.slice aR aJ.length aS) aJ) ∧ (w'.heap[gA_]? = some (.cells #[.bool aG, .string aH, .slice aN aF.length aO, .string aI] 24 (0, 0))) ∧ (w'.heap[gB_]? = some (.cells #[.bool bX, .string bY, .slice a8 aK.length a7, .string b4] 24 (0, 0))) ∧ (w'.heap[gC_]? = some (.cells #[.bool bZ, .string b2, .slice bA aL.length a9, .string b6] 24 (0, 0))) ∧ (w'.heap[gD_]? = some (.cells #[.bool b0, .string b3, .slice bB aM.length bC, .string b7] 24 (0, 0))) ∧ (w'.heap[gE_]? = some (.cells #[.bool bE, .string bF, .slice aR aJ.length aS, .string bG] 24 (0, 0))) ∧ (w'.heap[s_]? = some (.cells #[.bool false, .string nB_, .slice none 0 0, .string nB_] 24 (0, 0))) ∧ (w.heap.size ≤ s_) ∧ (w.heap.size ≤ s_) ∧ (gA_ ≠ s_) ∧ (s_ ≠ gA_) ∧ (gB_ ≠ s_) ∧ (s_ ≠ gB_) ∧ (gC_ ≠ s_) ∧ (s_ ≠ gC_) ∧ (gD_ ≠ s_) ∧ (s_ ≠ gD_) ∧ (gE_ ≠ s_) ∧ (s_ ≠ gE_) ∧ (Below w.heap.size w w')) ?_ ?_
           rotate_left
           ·intro pT
            refine three_ (i := 2) (j := 6) (k := 7) (Ni := some 54) (Nj := some 17) (Nk := some 18) #[true, true, true, true, true, false, false, false, false, false] #[true, true, false, true, true, false, true, false, false, false] #[true, true, false, true, true, false, false, true, false, false] rfl rfl rfl rfl rfl rfl (three_of HT_.out (by kernel_rfl)) (by decide) (by decide) (by decide) (fun K hK => ?_) (fun K hK => ?_) (fun K hK => ?_)
            ·skip
             refine gs_ Try.func14 #[.agg #[.bool aG, .string aH, .slice aN aF.length aO, .string aI], .bool a2] ?_
             with_reducible refine (zqj.calls aG aH (fun k_ => k_ < w.heap.size) _ _ aF aI a2 cN cO b8 cR _ ?side1 hC.out).mono ?_
             (case side1 => exact Kd.V_mk cP.out (Kd.F_below (Kd.C_F Kd.heap_string cQ.out) HB.out))
             rintro e pF ⟨b1, rfl, dO, hb⟩
             refine ⟨_, rfl, ?_⟩
             replace aA := am_ (Kd.V_below aA.out hb)
             replace aB := am_ (Kd.V_below aB.out hb)
             replace aC := am_ (Kd.V_below aC.out hb)
             replace aD := am_ (Kd.V_below aD.out hb)
             have aE := am_ (Kd.V_lower (Kd.V_mono (ok' := fun k_ => k_ ≠ gA_ ∧ k_ ≠ gB_ ∧ k_ ≠ gC_ ∧ k_ ≠ gD_ ∧ k_ ≠ gE_) dO (fun k_ hk_ => ⟨Or.elim hk_ (fun hs_ => fun e_ => Nat.not_le.2 hs_ (by rw [e_]; exact cU.out)) (fun hn_ => (Kd.freshB bA_.out k_ hn_)), Or.elim hk_ (fun hs_ => fun e_ => Nat.not_le.2 hs_ (by rw [e_]; exact c1.out)) (fun hn_ => (Kd.freshB bB_.out k_ hn_)), Or.elim hk_ (fun hs_ => fun e_ => Nat.not_le.2 hs_ (by rw [e_]; exact c2.out)) (fun hn_ => (Kd.freshB bC_.out k_ hn_)), Or.elim hk_ (fun hs_ => fun e_ => Nat.not_le.2 hs_ (by rw [e_]; exact dG.out)) (fun hn_ => (Kd.freshB bD_.out k_ hn_)), Or.elim hk_ (fun hs_ => fun e_ => Nat.not_le.2 hs_ (by rw [e_]; exact dM.out)) (fun hn_ => (Kd.freshB bE_.out k_ hn_))⟩)) (y08 HB.out))
             replace bA_ := am_ (y0b bA_.out hb)
             replace bB_ := am_ (y0b bB_.out hb)
             replace bC_ := am_ (y0b bC_.out hb)
             replace bD_ := am_ (y0b bD_.out hb)
             replace bE_ := am_ (y0b bE_.out hb)
             replace HB := am_ (y09 HB.out hb)
             refine hK.out _ _ ⟨(y0c bA_.out 0).trans rfl, (y0c bA_.out 1).trans rfl, (y0c bA_.out 2).trans rfl, (y0c bA_.out 3).trans rfl⟩ (fun hHeld => ?_)
             clear hK K
             refine no_ (N := some 54) ?_
             exact norm_ (by first | (simp only [putAll, Act.put, List.setIfInBounds_toArray, List.set_cons_zero, List.set_cons_succ]; done) | (simp only [putAll, Act.put, List.setIfInBounds_toArray, List.set_cons_zero, List.set_cons_succ]; rfl)) (pR (b1) _ ⟨hHeld, aA.out, aB.out, aC.out, aD.out, aE.out, bA_.out, bB_.out, bC_.out, bD_.out, bE_.out, HB.out⟩)
            ·skip
             refine y0k ?hg (N := 17) ?hd (cs := #[.bool false, .string nB_, .slice none 0 0, .string nB_]) (t := 24) ?hr ?_; (case hd => rfl); (case hg => rfl); (case hr => first | (go_simp; done) | (go_simp; rfl))
             intro gF_ hg pF hbox hb
             have bJ := am_ (Kd.V_below (Kd.V_elderB aA.out gF_ (Nat.le_of_eq hg.symm)) hb)
             have bK := am_ (Kd.V_below (Kd.V_elderB aB.out gF_ (Nat.le_of_eq hg.symm)) hb)
             have bL := am_ (Kd.V_below (Kd.V_elderB aC.out gF_ (Nat.le_of_eq hg.symm)) hb)
             have bM := am_ (Kd.V_below (Kd.V_elderB aD.out gF_ (Nat.le_of_eq hg.symm)) hb)
             have bN := am_ (y0b bA_.out hb)
             have bO := am_ (y0b bB_.out hb)
             have bQ := am_ (y0b bC_.out hb)
             have bR := am_ (y0b bD_.out hb)
             have bV := am_ (y0b bE_.out hb)
             have bW := am_ (y09 HB.out hb)
             have aP := am_ (hbox)
             have aT := am_ ((by rw [hg]; exact (y08 HB.out) : w.heap.size ≤ gF_))
             have aU := am_ ((by rw [hg]; exact (y08 HB.out) : w.heap.size ≤ gF_))
             have aV := am_ ((by rw [hg]; exact Nat.ne_of_lt (y0i bA_.out) : gA_ ≠ gF_))
             have aW := am_ ((by rw [hg]; exact Nat.ne_of_gt (y0i bA_.out) : gF_ ≠ gA_))
             have aX := am_ ((by rw [hg]; exact Nat.ne_of_lt (y0i bB_.out) : gB_ ≠ gF_))
             have aY := am_ ((by rw [hg]; exact Nat.ne_of_gt (y0i bB_.out) : gF_ ≠ gB_))
             have aZ := am_ ((by rw [hg]; exact Nat.ne_of_lt (y0i bC_.out) : gC_ ≠ gF_))
             have a0 := am_ ((by rw [hg]; exact Nat.ne_of_gt (y0i bC_.out) : gF_ ≠ gC_))
             have a3 := am_ ((by rw [hg]; exact Nat.ne_of_lt (y0i bD_.out) : gD_ ≠ gF_))
             have a4 := am_ ((by rw [hg]; exact Nat.ne_of_gt (y0i bD_.out) : gF_ ≠ gD_))
             have a5 := am_ ((by rw [hg]; exact Nat.ne_of_lt (y0i bE_.out) : gE_ ≠ gF_))
             have a6 := am_ ((by rw [hg]; exact Nat.ne_of_gt (y0i bE_.out) : gF_ ≠ gE_))
             clear aA aB aC aD bA_ bB_ bC_ bD_ bE_ HB
             have aA := bJ; have aB := bK; have aC := bL; have aD := bM; have bA_ := bN; have bB_ := bO; have bC_ := bQ; have bD_ := bR; have bE_ := bV; have HB := bW; have bF_ := aP; have bH := aT; have bS := aU; have nAF := aV; have nFA := aW; have nBF := aX; have nFB := aY; have nCF := aZ; have nFC := a0; have nDF := a3; have nFD := a4; have nEF := a5; have nFE := a6
             clear bJ bK bL bM bN bO bQ bR bV bW aP aT aU aV aW aX aY aZ a0 a3 a4 a5 a6 hb hbox hg
             refine hK.out _ _ ⟨(y0c bA_.out 0).trans rfl, (y0c bA_.out 1).trans rfl, (y0c bA_.out 2).trans rfl, (y0c bA_.out 3).trans rfl⟩ (fun hHeld => ?_)
             clear hK K
             refine no_ (N := some 17) ?_
             exact norm_ (by first | (simp only [putAll, Act.put, List.setIfInBounds_toArray, List.set_cons_zero, List.set_cons_succ]; done) | (simp only [putAll, Act.put, List.setIfInBounds_toArray, List.set_cons_zero, List.set_cons_succ]; rfl)) (pS (gF_) _ ⟨hHeld, (Kd.V_mono aA.out (fun _ ⟨⟨a, b, c, d, e⟩, f⟩ => ⟨a, b, c, d, e, f⟩)), (Kd.V_mono aB.out (fun _ ⟨⟨a, b, c, d, e⟩, f⟩ => ⟨a, b, c, d, e, f⟩)), (Kd.V_mono aC.out (fun _ ⟨⟨a, b, c, d, e⟩, f⟩ => ⟨a, b, c, d, e, f⟩)), (Kd.V_mono aD.out (fun _ ⟨⟨a, b, c, d, e⟩, f⟩ => ⟨a, b, c, d, e, f⟩)), bA_.out, bB_.out, bC_.out, bD_.out, bE_.out, bF_.out, bH.out, bS.out, nAF.out, nFA.out, nBF.out, nFB.out, nCF.out, nFC.out, nDF.out, nFD.out, nEF.out, nFE.out, HB.out⟩)
            ·skip
             refine y0k ?hg (N := 18) ?hd (cs := #[.bool false, .string nB_, .slice none 0 0, .string nB_]) (t := 24) ?hr ?_; (case hd => rfl); (case hg => rfl); (case hr => first | (go_simp; done) | (go_simp; rfl))
             intro gG_ hg pF hbox hb
             have bJ := am_ (Kd.V_below (Kd.V_elderB aA.out gG_ (Nat.le_of_eq hg.symm)) hb)
             have bK := am_ (Kd.V_below (Kd.V_elderB aB.out gG_ (Nat.le_of_eq hg.symm)) hb)
             have bL := am_ (Kd.V_below (Kd.V_elderB aC.out gG_ (Nat.le_of_eq hg.symm)) hb)
             have bM := am_ (Kd.V_below (Kd.V_elderB aD.out gG_ (Nat.le_of_eq hg.symm)) hb)
             have bN := am_ (y0b bA_.out hb)
             have bO := am_ (y0b bB_.out hb)
             have bQ := am_ (y0b bC_.out hb)
             have bR := am_ (y0b bD_.out hb)
             have bV := am_ (y0b bE_.out hb)
             have bW := am_ (y09 HB.out hb)
             have aP := am_ (hbox)
             have aT := am_ ((by rw [hg]; exact (y08 HB.out) : w.heap.size ≤ gG_))
             have aU := am_ ((by rw [hg]; exact (y08 HB.out) : w.heap.size ≤ gG_))
             have aV := am_ ((by rw [hg]; exact Nat.ne_of_lt (y0i bA_.out) : gA_ ≠ gG_))
             have aW := am_ ((by rw [hg]; exact Nat.ne_of_gt (y0i bA_.out) : gG_ ≠ gA_))
             have aX := am_ ((by rw [hg]; exact Nat.ne_of_lt (y0i bB_.out) : gB_ ≠ gG_))
             have aY := am_ ((by rw [hg]; exact Nat.ne_of_gt (y0i bB_.out) : gG_ ≠ gB_))
             have aZ := am_ ((by rw [hg]; exact Nat.ne_of_lt (y0i bC_.out) : gC_ ≠ gG_))
             have a0 := am_ ((by rw [hg]; exact Nat.ne_of_gt (y0i bC_.out) : gG_ ≠ gC_))
             have a3 := am_ ((by rw [hg]; exact Nat.ne_of_lt (y0i bD_.out) : gD_ ≠ gG_))
             have a4 := am_ ((by rw [hg]; exact Nat.ne_of_gt (y0i bD_.out) : gG_ ≠ gD_))
             have a5 := am_ ((by rw [hg]; exact Nat.ne_of_lt (y0i bE_.out) : gE_ ≠ gG_))
             have a6 := am_ ((by rw [hg]; exact Nat.ne_of_gt (y0i bE_.out) : gG_ ≠ gE_))
             clear aA aB aC aD bA_ bB_ bC_ bD_ bE_ HB
             have aA := bJ; have aB := bK; have aC := bL; have aD := bM; have bA_ := bN; have bB_ := bO; have bC_ := bQ; have bD_ := bR; have bE_ := bV; have HB := bW; have bG_ := aP; have bI := aT; have bT := aU; have nAG := aV; have nGA := aW; have nBG := aX; have nGB := aY; have nCG := aZ; have nGC := a0; have nDG := a3; have nGD := a4; have nEG := a5; have nGE := a6
             clear bJ bK bL bM bN bO bQ bR bV bW aP aT aU aV aW aX aY aZ a0 a3 a4 a5 a6 hb hbox hg
             refine hK.out _ _ ⟨(y0c bA_.out 0).trans rfl, (y0c bA_.out 1).trans rfl, (y0c bA_.out 2).trans rfl, (y0c bA_.out 3).trans rfl⟩ (fun hHeld => ?_)
             clear hK K
             refine no_ (N := some 18) ?_
             exact norm_ (by first | (simp only [putAll, Act.put, List.setIfInBounds_toArray, List.set_cons_zero, List.set_cons_succ]; done) | (simp only [putAll, Act.put, List.setIfInBounds_toArray, List.set_cons_zero, List.set_cons_succ]; rfl)) (pT (gG_) _ ⟨hHeld, (Kd.V_mono aA.out (fun _ ⟨⟨a, b, c, d, e⟩, f⟩ => ⟨a, b, c, d, e, f⟩)), (Kd.V_mono aB.out (fun _ ⟨⟨a, b, c, d, e⟩, f⟩ => ⟨a, b, c, d, e, f⟩)), (Kd.V_mono aC.out (fun _ ⟨⟨a, b, c, d, e⟩, f⟩ => ⟨a, b, c, d, e, f⟩)), (Kd.V_mono aD.out (fun _ ⟨⟨a, b, c, d, e⟩, f⟩ => ⟨a, b, c, d, e, f⟩)), bA_.out, bB_.out, bC_.out, bD_.out, bE_.out, bG_.out, bI.out, bT.out, nAG.out, nGA.out, nBG.out, nGB.out, nCG.out, nGC.out, nDG.out, nGD.out, nEG.out, nGE.out, HB.out⟩)
           ·skip
            rintro gG_ cT ⟨hS_, c4, c7, c8, c9, dA, dB, dC, dD, dE, dF, b5, cA, cB, cC, cD, cE, cF, cG, cH, cI, cJ, cK, cL⟩
            have bJ : Aside0 (Kd.V Kd.string 9 cT w.heap.size (fun k_ => k_ ≠ gA_ ∧ k_ ≠ gB_ ∧ k_ ≠ gC_ ∧ k_ ≠ gD_ ∧ k_ ≠ gE_ ∧ k_ ≠ gG_) (.slice a8 aK.length a7) aK) := ⟨c4⟩
            have bK : Aside0 (Kd.V Kd.string 9 cT w.heap.size (fun k_ => k_ ≠ gA_ ∧ k_ ≠ gB_ ∧ k_ ≠ gC_ ∧ k_ ≠ gD_ ∧ k_ ≠ gE_ ∧ k_ ≠ gG_) (.slice bA aL.length a9) aL) := ⟨c7⟩
            have bL : Aside0 (Kd.V Kd.string 9 cT w.heap.size (fun k_ => k_ ≠ gA_ ∧ k_ ≠ gB_ ∧ k_ ≠ gC_ ∧ k_ ≠ gD_ ∧ k_ ≠ gE_ ∧ k_ ≠ gG_) (.slice bB aM.length bC) aM) := ⟨c8⟩
            have bM : Aside0 (Kd.V Kd.string 9 cT w.heap.size (fun k_ => k_ ≠ gA_ ∧ k_ ≠ gB_ ∧ k_ ≠ gC_ ∧ k_ ≠ gD_ ∧ k_ ≠ gE_ ∧ k_ ≠ gG_) (.slice aR aJ.length aS) aJ) := ⟨c9⟩
            have bN : Aside0 (cT.heap[gA_]? = some (.cells #[.bool aG, .string aH, .slice aN aF.length aO, .string aI] 24 (0, 0))) := ⟨dA⟩
            have bO : Aside0 (cT.heap[gB_]? = some (.cells #[.bool bX, .string bY, .slice a8 aK.length a7, .string b4] 24 (0, 0))) := ⟨dB⟩
            have bQ : Aside0 (cT.heap[gC_]? = some (.cells #[.bool bZ, .string b2, .slice bA aL.length a9, .string b6] 24 (0, 0))) := ⟨dC⟩
            have bR : Aside0 (cT.heap[gD_]? = some (.cells #[.bool b0, .string b3, .slice bB aM.length bC, .string b7] 24 (0, 0))) := ⟨dD⟩
            have bV : Aside0 (cT.heap[gE_]? = some (.cells #[.bool bE, .string bF, .slice aR aJ.length aS, .string bG] 24 (0, 0))) := ⟨dE⟩
            have bW : Aside0 (cT.heap[gG_]? = some (.cells #[.bool false, .string nB_, .slice none 0 0, .string nB_] 24 (0, 0))) := ⟨dF⟩
            have aP : Aside0 (w.heap.size ≤ gG_) := ⟨b5⟩
            have aT : Aside0 (w.heap.size ≤ gG_) := ⟨cA⟩
            have aU : Aside0 (gA_ ≠ gG_) := ⟨cB⟩
            have aV : Aside0 (gG_ ≠ gA_) := ⟨cC⟩
            have aW : Aside0 (gB_ ≠ gG_) := ⟨cD⟩
            have aX : Aside0 (gG_ ≠ gB_) := ⟨cE⟩
            have aY : Aside0 (gC_ ≠ gG_) := ⟨cF⟩
            have aZ : Aside0 (gG_ ≠ gC_) := ⟨cG⟩
            have a0 : Aside0 (gD_ ≠ gG_) := ⟨cH⟩
            have a3 : Aside0 (gG_ ≠ gD_) := ⟨cI⟩
            have a4 : Aside0 (gE_ ≠ gG_) := ⟨cJ⟩
            have a5 : Aside0 (gG_ ≠ gE_) := ⟨cK⟩
            have a6 : Aside0 (Below w.heap.size w cT) := ⟨cL⟩
            clear aA aB aC aD bA_ bB_ bC_ bD_ bE_ HB c4 c7 c8 c9 dA dB dC dD dE dF b5 cA cB cC cD cE cF cG cH cI cJ cK cL
            have aA := bJ; have aB := bK; have aC := bL; have aD := bM; have bA_ := bN; have bB_ := bO; have bC_ := bQ; have bD_ := bR; have bE_ := bV; have bG_ := bW; have bI := aP; have bT := aT; have nAG := aU; have nGA := aV; have nBG := aW; have nGB := aX; have nCG := aY; have nGC := aZ; have nDG := a0; have nGD := a3; have nEG := a4; have nGE := a5; have HB := a6
            clear bJ bK bL bM bN bO bQ bR bV bW aP aT aU aV aW aX aY aZ a0 a3 a4 a5 a6
            have hHeld : cT.cell? ⟨gA_, 0, none⟩ = some (.bool aG) ∧ cT.cell? ⟨gA_, 1, none⟩ = some (.string aH) ∧ cT.cell? ⟨gA_, 2, none⟩ = some (.slice aN aF.length aO) ∧ cT.cell? ⟨gA_, 3, none⟩ = some (.string aI) := hS_
            refine norm_ (a' := ?_) ?_ ?_
            rotate_left
            ·simp only [putAll, Act.put, List.setIfInBounds_toArray, List.set_cons_zero, List.set_cons_succ]
             rfl
            refine two_ (i := 2) (j := 6) (Ni := some 54) (Nj := some 17) #[true, true, true, true, true, false, false, true, false, false] #[true, true, false, true, true, false, true, true, false, false] rfl rfl rfl rfl (two_of HT_.out (by kernel_rfl)) (by decide) (by decide) (fun K hK => ?_) (fun K hK => ?_)
            ·skip
             refine gs_ Try.func14 #[.agg #[.bool aG, .string aH, .slice aN aF.length aO, .string aI], .bool a2] ?_
             with_reducible refine (zqj.calls aG aH (fun k_ => k_ < w.heap.size) _ _ aF aI a2 cN cO b8 cR _ ?side1 hC.out).mono ?_
             (case side1 => exact Kd.V_mk cP.out (Kd.F_below (Kd.C_F Kd.heap_string cQ.out) HB.out))
             rintro e bU ⟨b1, rfl, dO, hb⟩
             refine ⟨_, rfl, ?_⟩
             replace aA := am_ (Kd.V_below aA.out hb)
             replace aB := am_ (Kd.V_below aB.out hb)
             replace aC := am_ (Kd.V_below aC.out hb)
             replace aD := am_ (Kd.V_below aD.out hb)
             have aE := am_ (Kd.V_lower (Kd.V_mono (ok' := fun k_ => k_ ≠ gA_ ∧ k_ ≠ gB_ ∧ k_ ≠ gC_ ∧ k_ ≠ gD_ ∧ k_ ≠ gE_ ∧ k_ ≠ gG_) dO (fun k_ hk_ => ⟨Or.elim hk_ (fun hs_ => fun e_ => Nat.not_le.2 hs_ (by rw [e_]; exact cU.out)) (fun hn_ => (Kd.freshB bA_.out k_ hn_)), Or.elim hk_ (fun hs_ => fun e_ => Nat.not_le.2 hs_ (by rw [e_]; exact c1.out)) (fun hn_ => (Kd.freshB bB_.out k_ hn_)), Or.elim hk_ (fun hs_ => fun e_ => Nat.not_le.2 hs_ (by rw [e_]; exact c2.out)) (fun hn_ => (Kd.freshB bC_.out k_ hn_)), Or.elim hk_ (fun hs_ => fun e_ => Nat.not_le.2 hs_ (by rw [e_]; exact dG.out)) (fun hn_ => (Kd.freshB bD_.out k_ hn_)), Or.elim hk_ (fun hs_ => fun e_ => Nat.not_le.2 hs_ (by rw [e_]; exact dM.out)) (fun hn_ => (Kd.freshB bE_.out k_ hn_)), Or.elim hk_ (fun hs_ => fun e_ => Nat.not_le.2 hs_ (by rw [e_]; exact bI.out)) (fun hn_ => (Kd.freshB bG_.out k_ hn_))⟩)) (y08 HB.out))
             replace bA_ := am_ (y0b bA_.out hb)
             replace bB_ := am_ (y0b bB_.out hb)
             replace bC_ := am_ (y0b bC_.out hb)
             replace bD_ := am_ (y0b bD_.out hb)
             replace bE_ := am_ (y0b bE_.out hb)
             replace bG_ := am_ (y0b bG_.out hb)
             replace HB := am_ (y09 HB.out hb)
             refine hK.out _ _ ⟨(y0c bA_.out 0).trans rfl, (y0c bA_.out 1).trans rfl, (y0c bA_.out 2).trans rfl, (y0c bA_.out 3).trans rfl⟩ (fun hHeld => ?_)
             clear hK K
             refine no_ (N := some 54) ?_
             exact norm_ (by first | (simp only [putAll, Act.put, List.setIfInBounds_toArray, List.set_cons_zero, List.set_cons_succ]; done) | (simp only [putAll, Act.put, List.setIfInBounds_toArray, List.set_cons_zero, List.set_cons_succ]; rfl)) (eV (b1, gG_) _ ⟨hHeld, aA.out, aB.out, aC.out, aD.out, aE.out, bA_.out, bB_.out, bC_.out, bD_.out, bE_.out, bG_.out, bI.out, bT.out, nAG.out, nGA.out, nBG.out, nGB.out, nCG.out, nGC.out, nDG.out, nGD.out, nEG.out, nGE.out, HB.out⟩)
            ·skip
             refine y0k ?hg (N := 17) ?hd (cs := #[.bool false, .string nB_, .slice none 0 0, .string nB_]) (t := 24) ?hr ?_; (case hd => rfl); (case hg => rfl); (case hr => first | (go_simp; done) | (go_simp; rfl))
             intro gF_ hg bU hbox hb
             have bJ := am_ (Kd.V_below (Kd.V_elderB aA.out gF_ (Nat.le_of_eq hg.symm)) hb)
             have bK := am_ (Kd.V_below (Kd.V_elderB aB.out gF_ (Nat.le_of_eq hg.symm)) hb)
             have bL := am_ (Kd.V_below (Kd.V_elderB aC.out gF_ (Nat.le_of_eq hg.symm)) hb)
             have bM := am_ (Kd.V_below (Kd.V_elderB aD.out gF_ (Nat.le_of_eq hg.symm)) hb)
             have bN := am_ (y0b bA_.out hb)
             have bO := am_ (y0b bB_.out hb)
             have bQ := am_ (y0b bC_.out hb)
             have bR := am_ (y0b bD_.out hb)
             have bV := am_ (y0b bE_.out hb)
             have bW := am_ (y0b bG_.out hb)
             have aP := am_ (y09 HB.out hb)
             have aT := am_ (hbox)
             have aU := am_ ((by rw [hg]; exact (y08 HB.out) : w.heap.size ≤ gF_))
             have aV := am_ ((by rw [hg]; exact (y08 HB.out) : w.heap.size ≤ gF_))
             have aW := am_ ((by rw [hg]; exact Nat.ne_of_lt (y0i bA_.out) : gA_ ≠ gF_))
             have aX := am_ ((by rw [hg]; exact Nat.ne_of_gt (y0i bA_.out) : gF_ ≠ gA_))
             have aY := am_ ((by rw [hg]; exact Nat.ne_of_lt (y0i bB_.out) : gB_ ≠ gF_))
             have aZ := am_ ((by rw [hg]; exact Nat.ne_of_gt (y0i bB_.out) : gF_ ≠ gB_))
             have a0 := am_ ((by rw [hg]; exact Nat.ne_of_lt (y0i bC_.out) : gC_ ≠ gF_))
             have a3 := am_ ((by rw [hg]; exact Nat.ne_of_gt (y0i bC_.out) : gF_ ≠ gC_))
             have a4 := am_ ((by rw [hg]; exact Nat.ne_of_lt (y0i bD_.out) : gD_ ≠ gF_))
             have a5 := am_ ((by rw [hg]; exact Nat.ne_of_gt (y0i bD_.out) : gF_ ≠ gD_))
             have a6 := am_ ((by rw [hg]; exact Nat.ne_of_lt (y0i bE_.out) : gE_ ≠ gF_))
             have bD := am_ ((by rw [hg]; exact Nat.ne_of_gt (y0i bE_.out) : gF_ ≠ gE_))
             have bP := am_ ((by rw [hg]; exact Nat.ne_of_lt (y0i bG_.out) : gG_ ≠ gF_))
             have cM := am_ ((by rw [hg]; exact Nat.ne_of_gt (y0i bG_.out) : gF_ ≠ gG_))
             clear aA aB aC aD bA_ bB_ bC_ bD_ bE_ bG_ HB
             have aA := bJ; have aB := bK; have aC := bL; have aD := bM; have bA_ := bN; have bB_ := bO; have bC_ := bQ; have bD_ := bR; have bE_ := bV; have bG_ := bW; have HB := aP; have bF_ := aT; have bH := aU; have bS := aV; have nAF := aW; have nFA := aX; have nBF := aY; have nFB := aZ; have nCF := a0; have nFC := a3; have nDF := a4; have nFD := a5; have nEF := a6; have nFE := bD; have nGF := bP; have nFG := cM
             clear bJ bK bL bM bN bO bQ bR bV bW aP aT aU aV aW aX aY aZ a0 a3 a4 a5 a6 bD bP cM hb hbox hg
             refine hK.out _ _ ⟨(y0c bA_.out 0).trans rfl, (y0c bA_.out 1).trans rfl, (y0c bA_.out 2).trans rfl, (y0c bA_.out 3).trans rfl⟩ (fun hHeld => ?_)
             clear hK K
             refine no_ (N := some 17) ?_
             exact norm_ (by first | (simp only [putAll, Act.put, List.setIfInBounds_toArray, List.set_cons_zero, List.set_cons_succ]; done) | (simp only [putAll, Act.put, List.setIfInBounds_toArray, List.set_cons_zero, List.set_cons_succ]; rfl)) (eW (gF_, gG_) _ ⟨hHeld, (Kd.V_mono aA.out (fun _ ⟨⟨a, b, c, d, e, f⟩, g⟩ => ⟨a, b, c, d, e, g, f⟩)), (Kd.V_mono aB.out (fun _ ⟨⟨a, b, c, d, e, f⟩, g⟩ => ⟨a, b, c, d, e, g, f⟩)), (Kd.V_mono aC.out (fun _ ⟨⟨a, b, c, d, e, f⟩, g⟩ => ⟨a, b, c, d, e, g, f⟩)), (Kd.V_mono aD.out (fun _ ⟨⟨a, b, c, d, e, f⟩, g⟩ => ⟨a, b, c, d, e, g, f⟩)), bA_.out, bB_.out, bC_.out, bD_.out, bE_.out, bF_.out, bG_.out, bH.out, bS.out, nAF.out, nFA.out, nBF.out, nFB.out, nCF.out, nFC.out, nDF.out, nFD.out, nEF.out, nFE.out, nGF.out, nFG.out, bI.out, bT.out, nAG.out, nGA.out, nBG.out, nGB.out, nCG.out, nGC.out, nDG.out, nGD.out, nEG.out, nGE.out, HB.out⟩)
          ·skip
           rintro gF_ cT ⟨hS_, c4, c7, c8, c9, dA, dB, dC, dD, dE, dF, b5, cA, cB, cC, cD, cE, cF, cG, cH, cI, cJ, cK, cL⟩
           have bJ : Aside0 (Kd.V Kd.string 9 cT w.heap.size (fun k_ => k_ ≠ gA_ ∧ k_ ≠ gB_ ∧ k_ ≠ gC_ ∧ k_ ≠ gD_ ∧ k_ ≠ gE_ ∧ k_ ≠ gF_) (.slice a8 aK.length a7) aK) := ⟨c4⟩
           have bK : Aside0 (Kd.V Kd.string 9 cT w.heap.size (fun k_ => k_ ≠ gA_ ∧ k_ ≠ gB_ ∧ k_ ≠ gC_ ∧ k_ ≠ gD_ ∧ k_ ≠ gE_ ∧ k_ ≠ gF_) (.slice bA aL.length a9) aL) := ⟨c7⟩
           have bL : Aside0 (Kd.V Kd.string 9 cT w.heap.size (fun k_ => k_ ≠ gA_ ∧ k_ ≠ gB_ ∧ k_ ≠ gC_ ∧ k_ ≠ gD_ ∧ k_ ≠ gE_ ∧ k_ ≠ gF_) (.slice bB aM.length bC) aM) := ⟨c8⟩
           have bM : Aside0 (Kd.V Kd.string 9 cT w.heap.size (fun k_ => k_ ≠ gA_ ∧ k_ ≠ gB_ ∧ k_ ≠ gC_ ∧ k_ ≠ gD_ ∧ k_ ≠ gE_ ∧ k_ ≠ gF_) (.slice aR aJ.length aS) aJ) := ⟨c9⟩
           have bN : Aside0 (cT.heap[gA_]? = some (.cells #[.bool aG, .string aH, .slice aN aF.length aO, .string aI] 24 (0, 0))) := ⟨dA⟩
           have bO : Aside0 (cT.heap[gB_]? = some (.cells #[.bool bX, .string bY, .slice a8 aK.length a7, .string b4] 24 (0, 0))) := ⟨dB⟩
           have bQ : Aside0 (cT.heap[gC_]? = some (.cells #[.bool bZ, .string b2, .slice bA aL.length a9, .string b6] 24 (0, 0))) := ⟨dC⟩
           have bR : Aside0 (cT.heap[gD_]? = some (.cells #[.bool b0, .string b3, .slice bB aM.length bC, .string b7] 24 (0, 0))) := ⟨dD⟩
           have bV : Aside0 (cT.heap[gE_]? = some (.cells #[.bool bE, .string bF, .slice aR aJ.length aS, .string bG] 24 (0, 0))) := ⟨dE⟩
           have bW : Aside0 (cT.heap[gF_]? = some (.cells #[.bool false, .string nB_, .slice none 0 0, .string nB_] 24 (0, 0))) := ⟨dF⟩
           have aP : Aside0 (w.heap.size ≤ gF_) := ⟨b5⟩
           have aT : Aside0 (w.heap.size ≤ gF_) := ⟨cA⟩
           have aU : Aside0 (gA_ ≠ gF_) := ⟨cB⟩
           have aV : Aside0 (gF_ ≠ gA_) := ⟨cC⟩
           have aW : Aside0 (gB_ ≠ gF_) := ⟨cD⟩
           have aX : Aside0 (gF_ ≠ gB_) := ⟨cE⟩
           have aY : Aside0 (gC_ ≠ gF_) := ⟨cF⟩
           have aZ : Aside0 (gF_ ≠ gC_) := ⟨cG⟩
           have a0 : Aside0 (gD_ ≠ gF_) := ⟨cH⟩
           have a3 : Aside0 (gF_ ≠ gD_) := ⟨cI⟩
           have a4 : Aside0 (gE_ ≠ gF_) := ⟨cJ⟩
           have a5 : Aside0 (gF_ ≠ gE_) := ⟨cK⟩
           have a6 : Aside0 (Below w.heap.size w cT) := ⟨cL⟩
           clear aA aB aC aD bA_ bB_ bC_ bD_ bE_ HB c4 c7 c8 c9 dA dB dC dD dE dF b5 cA cB cC cD cE cF cG cH cI cJ cK cL
           have aA := bJ; have aB := bK; have aC := bL; have aD := bM; have bA_ := bN; have bB_ := bO; have bC_ := bQ; have bD_ := bR; have bE_ := bV; have bF_ := bW; have bH := aP; have bS := aT; have nAF := aU; have nFA := aV; have nBF := aW; have nFB := aX; have nCF := aY; have nFC := aZ; have nDF := a0; have nFD := a3; have nEF := a4; have nFE := a5; have HB := a6
           clear bJ bK bL bM bN bO bQ bR bV bW aP aT aU aV aW aX aY aZ a0 a3 a4 a5 a6
           have hHeld : cT.cell? ⟨gA_, 0, none⟩ = some (.bool aG) ∧ cT.cell? ⟨gA_, 1, none⟩ = some (.string aH) ∧ cT.cell? ⟨gA_, 2, none⟩ = some (.slice aN aF.length aO) ∧ cT.cell? ⟨gA_, 3, none⟩ = some (.string aI) := hS_
           refine norm_ (a' := ?_) ?_ ?_
           rotate_left
           ·simp only [putAll, Act.put, List.setIfInBounds_toArray, List.set_cons_zero, List.set_cons_succ]
            rfl
           refine two_ (i := 2) (j := 7) (Ni := some 54) (Nj := some 18) #[true, true, true, true, true, false, true, false, false, false] #[true, true, false, true, true, false, true, true, false, false] rfl rfl rfl rfl (two_of HT_.out (by kernel_rfl)) (by decide) (by decide) (fun K hK => ?_) (fun K hK => ?_)
           ·skip
            refine gs_ Try.func14 #[.agg #[.bool aG, .string aH, .slice aN aF.length aO, .string aI], .bool a2] ?_
            with_reducible refine (zqj.calls aG aH (fun k_ => k_ < w.heap.size) _ _ aF aI a2 cN cO b8 cR _ ?side1 hC.out).mono ?_
            (case side1 => exact Kd.V_mk cP.out (Kd.F_below (Kd.C_F Kd.heap_string cQ.out) HB.out))
            rintro e bU ⟨b1, rfl, dO, hb⟩
            refine ⟨_, rfl, ?_⟩
            replace aA := am_ (Kd.V_below aA.out hb)
            replace aB := am_ (Kd.V_below aB.out hb)
            replace aC := am_ (Kd.V_below aC.out hb)
            replace aD := am_ (Kd.V_below aD.out hb)
            have aE := am_ (Kd.V_lower (Kd.V_mono (ok' := fun k_ => k_ ≠ gA_ ∧ k_ ≠ gB_ ∧ k_ ≠ gC_ ∧ k_ ≠ gD_ ∧ k_ ≠ gE_ ∧ k_ ≠ gF_) dO (fun k_ hk_ => ⟨Or.elim hk_ (fun hs_ => fun e_ => Nat.not_le.2 hs_ (by rw [e_]; exact cU.out)) (fun hn_ => (Kd.freshB bA_.out k_ hn_)), Or.elim hk_ (fun hs_ => fun e_ => Nat.not_le.2 hs_ (by rw [e_]; exact c1.out)) (fun hn_ => (Kd.freshB bB_.out k_ hn_)), Or.elim hk_ (fun hs_ => fun e_ => Nat.not_le.2 hs_ (by rw [e_]; exact c2.out)) (fun hn_ => (Kd.freshB bC_.out k_ hn_)), Or.elim hk_ (fun hs_ => fun e_ => Nat.not_le.2 hs_ (by rw [e_]; exact dG.out)) (fun hn_ => (Kd.freshB bD_.out k_ hn_)), Or.elim hk_ (fun hs_ => fun e_ => Nat.not_le.2 hs_ (by rw [e_]; exact dM.out)) (fun hn_ => (Kd.freshB bE_.out k_ hn_)), Or.elim hk_ (fun hs_ => fun e_ => Nat.not_le.2 hs_ (by rw [e_]; exact bH.out)) (fun hn_ => (Kd.freshB bF_.out k_ hn_))⟩)) (y08 HB.out))
            replace bA_ := am_ (y0b bA_.out hb)
            replace bB_ := am_ (y0b bB_.out hb)
            replace bC_ := am_ (y0b bC_.out hb)
            replace bD_ := am_ (y0b bD_.out hb)
            replace bE_ := am_ (y0b bE_.out hb)
            replace bF_ := am_ (y0b bF_.out hb)
            replace HB := am_ (y09 HB.out hb)
            refine hK.out _ _ ⟨(y0c bA_.out 0).trans rfl, (y0c bA_.out 1).trans rfl, (y0c bA_.out 2).trans rfl, (y0c bA_.out 3).trans rfl⟩ (fun hHeld => ?_)
            clear hK K
            refine no_ (N := some 54) ?_
            exact norm_ (by first | (simp only [putAll, Act.put, List.setIfInBounds_toArray, List.set_cons_zero, List.set_cons_succ]; done) | (simp only [putAll, Act.put, List.setIfInBounds_toArray, List.set_cons_zero, List.set_cons_succ]; rfl)) (eU (b1, gF_) _ ⟨hHeld, aA.out, aB.out, aC.out, aD.out, aE.out, bA_.out, bB_.out, bC_.out, bD_.out, bE_.out, bF_.out, bH.out, bS.out, nAF.out, nFA.out, nBF.out, nFB.out, nCF.out, nFC.out, nDF.out, nFD.out, nEF.out, nFE.out, HB.out⟩)
           ·skip
            refine y0k ?hg (N := 18) ?hd (cs := #[.bool false, .string nB_, .slice none 0 0, .string nB_]) (t := 24) ?hr ?_; (case hd => rfl); (case hg => rfl); (case hr => first | (go_simp; done) | (go_simp; rfl))
            intro gG_ hg bU hbox hb
            have bJ := am_ (Kd.V_below (Kd.V_elderB aA.out gG_ (Nat.le_of_eq hg.symm)) hb)
            have bK := am_ (Kd.V_below (Kd.V_elderB aB.out gG_ (Nat.le_of_eq hg.symm)) hb)
            have bL := am_ (Kd.V_below (Kd.V_elderB aC.out gG_ (Nat.le_of_eq hg.symm)) hb)
            have bM := am_ (Kd.V_below (Kd.V_elderB aD.out gG_ (Nat.le_of_eq hg.symm)) hb)
            have bN := am_ (y0b bA_.out hb)
            have bO := am_ (y0b bB_.out hb)
            have bQ := am_ (y0b bC_.out hb)
            have bR := am_ (y0b bD_.out hb)
            have bV := am_ (y0b bE_.out hb)
            have bW := am_ (y0b bF_.out hb)
            have aP := am_ (y09 HB.out hb)
            have aT := am_ (hbox)
            have aU := am_ ((by rw [hg]; exact (y08 HB.out) : w.heap.size ≤ gG_))
            have aV := am_ ((by rw [hg]; exact (y08 HB.out) : w.heap.size ≤ gG_))
            have aW := am_ ((by rw [hg]; exact Nat.ne_of_lt (y0i bA_.out) : gA_ ≠ gG_))
            have aX := am_ ((by rw [hg]; exact Nat.ne_of_gt (y0i bA_.out) : gG_ ≠ gA_))
            have aY := am_ ((by rw [hg]; exact Nat.ne_of_lt (y0i bB_.out) : gB_ ≠ gG_))
            have aZ := am_ ((by rw [hg]; exact Nat.ne_of_gt (y0i bB_.out) : gG_ ≠ gB_))
            have a0 := am_ ((by rw [hg]; exact Nat.ne_of_lt (y0i bC_.out) : gC_ ≠ gG_))
            have a3 := am_ ((by rw [hg]; exact Nat.ne_of_gt (y0i bC_.out) : gG_ ≠ gC_))
            have a4 := am_ ((by rw [hg]; exact Nat.ne_of_lt (y0i bD_.out) : gD_ ≠ gG_))
            have a5 := am_ ((by rw [hg]; exact Nat.ne_of_gt (y0i bD_.out) : gG_ ≠ gD_))
            have a6 := am_ ((by rw [hg]; exact Nat.ne_of_lt (y0i bE_.out) : gE_ ≠ gG_))
            have bD := am_ ((by rw [hg]; exact Nat.ne_of_gt (y0i bE_.out) : gG_ ≠ gE_))
            have bP := am_ ((by rw [hg]; exact Nat.ne_of_lt (y0i bF_.out) : gF_ ≠ gG_))
            have cM := am_ ((by rw [hg]; exact Nat.ne_of_gt (y0i bF_.out) : gG_ ≠ gF_))
            clear aA aB aC aD bA_ bB_ bC_ bD_ bE_ bF_ HB
            have aA := bJ; have aB := bK; have aC := bL; have aD := bM; have bA_ := bN; have bB_ := bO; have bC_ := bQ; have bD_ := bR; have bE_ := bV; have bF_ := bW; have HB := aP; have bG_ := aT; have bI := aU; have bT := aV; have nAG := aW; have nGA := aX; have nBG := aY; have nGB := aZ; have nCG := a0; have nGC := a3; have nDG := a4; have nGD := a5; have nEG := a6; have nGE := bD; have nFG := bP; have nGF := cM
            clear bJ bK bL bM bN bO bQ bR bV bW aP aT aU aV aW aX aY aZ a0 a3 a4 a5 a6 bD bP cM hb hbox hg
            refine hK.out _ _ ⟨(y0c bA_.out 0).trans rfl, (y0c bA_.out 1).trans rfl, (y0c bA_.out 2).trans rfl, (y0c bA_.out 3).trans rfl⟩ (fun hHeld => ?_)
            clear hK K
            refine no_ (N := some 18) ?_
            exact norm_ (by first | (simp only [putAll, Act.put, List.setIfInBounds_toArray, List.set_cons_zero, List.set_cons_succ]; done) | (simp only [putAll, Act.put, List.setIfInBounds_toArray, List.set_cons_zero, List.set_cons_succ]; rfl)) (eW (gF_, gG_) _ ⟨hHeld, (Kd.V_mono aA.out (fun _ ⟨⟨a, b, c, d, e, f⟩, g⟩ => ⟨a, b, c, d, e, f, g⟩)), (Kd.V_mono aB.out (fun _ ⟨⟨a, b, c, d, e, f⟩, g⟩ => ⟨a, b, c, d, e, f, g⟩)), (Kd.V_mono aC.out (fun _ ⟨⟨a, b, c, d, e, f⟩, g⟩ => ⟨a, b, c, d, e, f, g⟩)), (Kd.V_mono aD.out (fun _ ⟨⟨a, b, c, d, e, f⟩, g⟩ => ⟨a, b, c, d, e, f, g⟩)), bA_.out, bB_.out, bC_.out, bD_.out, bE_.out, bF_.out, bG_.out, bH.out, bS.out, nAF.out, nFA.out, nBF.out, nFB.out, nCF.out, nFC.out, nDF.out, nFD.out, nEF.out, nFE.out, nGF.out, nFG.out, bI.out, bT.out, nAG.out, nGA.out, nBG.out, nGB.out, nCG.out, nGC.out, nDG.out, nGD.out, nEG.out, nGE.out, HB.out⟩)
         ·skip
          rintro b1 cT ⟨hS_, c4, c7, c8, c9, dA, dB, dC, dD, dE, dF, b5⟩
          have bJ : Aside0 (Kd.V Kd.string 9 cT w.heap.size (fun k_ => k_ ≠ gA_ ∧ k_ ≠ gB_ ∧ k_ ≠ gC_ ∧ k_ ≠ gD_ ∧ k_ ≠ gE_) (.slice a8 aK.length a7) aK) := ⟨c4⟩
          have bK : Aside0 (Kd.V Kd.string 9 cT w.heap.size (fun k_ => k_ ≠ gA_ ∧ k_ ≠ gB_ ∧ k_ ≠ gC_ ∧ k_ ≠ gD_ ∧ k_ ≠ gE_) (.slice bA aL.length a9) aL) := ⟨c7⟩
          have bL : Aside0 (Kd.V Kd.string 9 cT w.heap.size (fun k_ => k_ ≠ gA_ ∧ k_ ≠ gB_ ∧ k_ ≠ gC_ ∧ k_ ≠ gD_ ∧ k_ ≠ gE_) (.slice bB aM.length bC) aM) := ⟨c8⟩
          have bM : Aside0 (Kd.V Kd.string 9 cT w.heap.size (fun k_ => k_ ≠ gA_ ∧ k_ ≠ gB_ ∧ k_ ≠ gC_ ∧ k_ ≠ gD_ ∧ k_ ≠ gE_) (.slice aR aJ.length aS) aJ) := ⟨c9⟩
          have bN : Aside0 (Kd.V Kd.string 9 cT w.heap.size (fun k_ => k_ ≠ gA_ ∧ k_ ≠ gB_ ∧ k_ ≠ gC_ ∧ k_ ≠ gD_ ∧ k_ ≠ gE_) b1 b8) := ⟨dA⟩
          have bO : Aside0 (cT.heap[gA_]? = some (.cells #[.bool aG, .string aH, .slice aN aF.length aO, .string aI] 24 (0, 0))) := ⟨dB⟩
          have bQ : Aside0 (cT.heap[gB_]? = some (.cells #[.bool bX, .string bY, .slice a8 aK.length a7, .string b4] 24 (0, 0))) := ⟨dC⟩
          have bR : Aside0 (cT.heap[gC_]? = some (.cells #[.bool bZ, .string b2, .slice bA aL.length a9, .string b6] 24 (0, 0))) := ⟨dD⟩
          have bV : Aside0 (cT.heap[gD_]? = some (.cells #[.bool b0, .string b3, .slice bB aM.length bC, .string b7] 24 (0, 0))) := ⟨dE⟩
          have bW : Aside0 (cT.heap[gE_]? = some (.cells #[.bool bE, .string bF, .slice aR aJ.length aS, .string bG] 24 (0, 0))) := ⟨dF⟩
          have aP : Aside0 (Below w.heap.size w cT) := ⟨b5⟩
          clear aA aB aC aD bA_ bB_ bC_ bD_ bE_ HB c4 c7 c8 c9 dA dB dC dD dE dF b5
          have aA := bJ; have aB := bK; have aC := bL; have aD := bM; have aE := bN; have bA_ := bO; have bB_ := bQ; have bC_ := bR; have bD_ := bV; have bE_ := bW; have HB := aP
          clear bJ bK bL bM bN bO bQ bR bV bW aP
          have hHeld : cT.cell? ⟨gA_, 0, none⟩ = some (.bool aG) ∧ cT.cell? ⟨gA_, 1, none⟩ = some (.string aH) ∧ cT.cell? ⟨gA_, 2, none⟩ = some (.slice aN aF.length aO) ∧ cT.cell? ⟨gA_, 3, none⟩ = some (.string aI) := hS_
          refine norm_ (a' := ?_) ?_ ?_
          rotate_left
          ·simp only [putAll, Act.put, List.setIfInBounds_toArray, List.set_cons_zero, List.set_cons_succ]
           rfl
          refine three_ (i := 5) (j := 6) (k := 7) (Ni := some 57) (Nj := some 17) (Nk := some 18) #[true, true, true, true, true, true, false, false, false, false] #[true, true, true, true, true, false, true, false, false, false] #[true, true, true, true, true, false, false, true, false, false] rfl rfl rfl rfl rfl rfl (three_of HT_.out (by kernel_rfl)) (by decide) (by decide) (by decide) (fun K hK => ?_) (fun K hK => ?_) (fun K hK => ?_)
          ·skip
           refine gs_ Try.func29 #[.agg #[.bool aG, .string aH, .slice aN aF.length aO, .string aI], .bool a2] ?_
           with_reducible refine (zq6.calls aG aH (fun k_ => k_ < w.heap.size) _ _ aF aI a2 cV cY cS c0 _ ?side1 hD.out).mono ?_
           (case side1 => exact Kd.V_mk cP.out (Kd.F_below (Kd.C_F Kd.heap_string cQ.out) HB.out))
           rintro e bU ⟨cZ, rfl, dO, hb⟩
           refine ⟨_, rfl, ?_⟩
           replace aA := am_ (Kd.V_below aA.out hb)
           replace aB := am_ (Kd.V_below aB.out hb)
           replace aC := am_ (Kd.V_below aC.out hb)
           replace aD := am_ (Kd.V_below aD.out hb)
           replace aE := am_ (Kd.V_below aE.out hb)
           have aQ := am_ (Kd.V_lower (Kd.V_mono (ok' := fun k_ => k_ ≠ gA_ ∧ k_ ≠ gB_ ∧ k_ ≠ gC_ ∧ k_ ≠ gD_ ∧ k_ ≠ gE_) dO (fun k_ hk_ => ⟨Or.elim hk_ (fun hs_ => fun e_ => Nat.not_le.2 hs_ (by rw [e_]; exact cU.out)) (fun hn_ => (Kd.freshB bA_.out k_ hn_)), Or.elim hk_ (fun hs_ => fun e_ => Nat.not_le.2 hs_ (by rw [e_]; exact c1.out)) (fun hn_ => (Kd.freshB bB_.out k_ hn_)), Or.elim hk_ (fun hs_ => fun e_ => Nat.not_le.2 hs_ (by rw [e_]; exact c2.out)) (fun hn_ => (Kd.freshB bC_.out k_ hn_)), Or.elim hk_ (fun hs_ => fun e_ => Nat.not_le.2 hs_ (by rw [e_]; exact dG.out)) (fun hn_ => (Kd.freshB bD_.out k_ hn_)), Or.elim hk_ (fun hs_ => fun e_ => Nat.not_le.2 hs_ (by rw [e_]; exact dM.out)) (fun hn_ => (Kd.freshB bE_.out k_ hn_))⟩)) (y08 HB.out))
           replace bA_ := am_ (y0b bA_.out hb)
           replace bB_ := am_ (y0b bB_.out hb)
           replace bC_ := am_ (y0b bC_.out hb)
           replace bD_ := am_ (y0b bD_.out hb)
           replace bE_ := am_ (y0b bE_.out hb)
           replace HB := am_ (y09 HB.out hb)
           refine hK.out _ _ ⟨(y0c bA_.out 0).trans rfl, (y0c bA_.out 1).trans rfl, (y0c bA_.out 2).trans rfl, (y0c bA_.out 3).trans rfl⟩ (fun hHeld => ?_)
           clear hK K
           refine no_ (N := some 57) ?_
           exact norm_ (by first | (simp only [putAll, Act.put, List.setIfInBounds_toArray, List.set_cons_zero, List.set_cons_succ]; done) | (simp only [putAll, Act.put, List.setIfInBounds_toArray, List.set_cons_zero, List.set_cons_succ]; rfl)) (fU (b1, cZ) _ ⟨hHeld, aA.out, aB.out, aC.out, aD.out, aE.out, aQ.out, bA_.out, bB_.out, bC_.out, bD_.out, bE_.out, HB.out⟩)
          ·skip
           refine y0k ?hg (N := 17) ?hd (cs := #[.bool false, .string nB_, .slice none 0 0, .string nB_]) (t := 24) ?hr ?_; (case hd => rfl); (case hg => rfl); (case hr => first | (go_simp; done) | (go_simp; rfl))
           intro gF_ hg bU hbox hb
           have bJ := am_ (Kd.V_below (Kd.V_elderB aA.out gF_ (Nat.le_of_eq hg.symm)) hb)
           have bK := am_ (Kd.V_below (Kd.V_elderB aB.out gF_ (Nat.le_of_eq hg.symm)) hb)
           have bL := am_ (Kd.V_below (Kd.V_elderB aC.out gF_ (Nat.le_of_eq hg.symm)) hb)
           have bM := am_ (Kd.V_below (Kd.V_elderB aD.out gF_ (Nat.le_of_eq hg.symm)) hb)
           have bN := am_ (Kd.V_below (Kd.V_elderB aE.out gF_ (Nat.le_of_eq hg.symm)) hb)
           have bO := am_ (y0b bA_.out hb)
           have bQ := am_ (y0b bB_.out hb)
           have bR := am_ (y0b bC_.out hb)
           have bV := am_ (y0b bD_.out hb)
           have bW := am_ (y0b bE_.out hb)
           have aP := am_ (y09 HB.out hb)
           have aT := am_ (hbox)
           have aU := am_ ((by rw [hg]; exact (y08 HB.out) : w.heap.size ≤ gF_))
           have aV := am_ ((by rw [hg]; exact (y08 HB.out) : w.heap.size ≤ gF_))
           have aW := am_ ((by rw [hg]; exact Nat.ne_of_lt (y0i bA_.out) : gA_ ≠ gF_))
           have aX := am_ ((by rw [hg]; exact Nat.ne_of_gt (y0i bA_.out) : gF_ ≠ gA_))
           have aY := am_ ((by rw [hg]; exact Nat.ne_of_lt (y0i bB_.out) : gB_ ≠ gF_))
           have aZ := am_ ((by rw [hg]; exact Nat.ne_of_gt (y0i bB_.out) : gF_ ≠ gB_))
           have a0 := am_ ((by rw [hg]; exact Nat.ne_of_lt (y0i bC_.out) : gC_ ≠ gF_))
           have a3 := am_ ((by rw [hg]; exact Nat.ne_of_gt (y0i bC_.out) : gF_ ≠ gC_))
           have a4 := am_ ((by rw [hg]; exact Nat.ne_of_lt (y0i bD_.out) : gD_ ≠ gF_))
           have a5 := am_ ((by rw [hg]; exact Nat.ne_of_gt (y0i bD_.out) : gF_ ≠ gD_))
           have a6 := am_ ((by rw [hg]; exact Nat.ne_of_lt (y0i bE_.out) : gE_ ≠ gF_))
           have bD := am_ ((by rw [hg]; exact Nat.ne_of_gt (y0i bE_.out) : gF_ ≠ gE_))
           clear aA aB aC aD aE bA_ bB_ bC_ bD_ bE_ HB
           have aA := bJ; have aB := bK; have aC := bL; have aD := bM; have aE := bN; have bA_ := bO; have bB_ := bQ; have bC_ := bR; have bD_ := bV; have bE_ := bW; have HB := aP; have bF_ := aT; have bH := aU; have bS := aV; have nAF := aW; have nFA := aX; have nBF := aY; have nFB := aZ; have nCF := a0; have nFC := a3; have nDF := a4; have nFD := a5; have nEF := a6; have nFE := bD
           clear bJ bK bL bM bN bO bQ bR bV bW aP aT aU aV aW aX aY aZ a0 a3 a4 a5 a6 bD hb hbox hg
           refine hK.out _ _ ⟨(y0c bA_.out 0).trans rfl, (y0c bA_.out 1).trans rfl, (y0c bA_.out 2).trans rfl, (y0c bA_.out 3).trans rfl⟩ (fun hHeld => ?_)
           clear hK K
           refine no_ (N := some 17) ?_
           exact norm_ (by first | (simp only [putAll, Act.put, List.setIfInBounds_toArray, List.set_cons_zero, List.set_cons_succ]; done) | (simp only [putAll, Act.put, List.setIfInBounds_toArray, List.set_cons_zero, List.set_cons_succ]; rfl)) (eU (b1, gF_) _ ⟨hHeld, (Kd.V_mono aA.out (fun _ ⟨⟨a, b, c, d, e⟩, f⟩ => ⟨a, b, c, d, e, f⟩)), (Kd.V_mono aB.out (fun _ ⟨⟨a, b, c, d, e⟩, f⟩ => ⟨a, b, c, d, e, f⟩)), (Kd.V_mono aC.out (fun _ ⟨⟨a, b, c, d, e⟩, f⟩ => ⟨a, b, c, d, e, f⟩)), (Kd.V_mono aD.out (fun _ ⟨⟨a, b, c, d, e⟩, f⟩ => ⟨a, b, c, d, e, f⟩)), (Kd.V_mono aE.out (fun _ ⟨⟨a, b, c, d, e⟩, f⟩ => ⟨a, b, c, d, e, f⟩)), bA_.out, bB_.out, bC_.out, bD_.out, bE_.out, bF_.out, bH.out, bS.out, nAF.out, nFA.out, nBF.out, nFB.out, nCF.out, nFC.out, nDF.out, nFD.out, nEF.out, nFE.out, HB.out⟩)
          ·skip
           refine y0k ?hg (N := 18) ?hd (cs := #[.bool false, .string nB_, .slice none 0 0, .string nB_]) (t := 24) ?hr ?_; (case hd => rfl); (case hg => rfl); (case hr => first | (go_simp; done) | (go_simp; rfl))
           intro gG_ hg bU hbox hb
           have bJ := am_ (Kd.V_below (Kd.V_elderB aA.out gG_ (Nat.le_of_eq hg.symm)) hb)
           have bK := am_ (Kd.V_below (Kd.V_elderB aB.out gG_ (Nat.le_of_eq hg.symm)) hb)
           have bL := am_ (Kd.V_below (Kd.V_elderB aC.out gG_ (Nat.le_of_eq hg.symm)) hb)
           have bM := am_ (Kd.V_below (Kd.V_elderB aD.out gG_ (Nat.le_of_eq hg.symm)) hb)
           have bN := am_ (Kd.V_below (Kd.V_elderB aE.out gG_ (Nat.le_of_eq hg.symm)) hb)
           have bO := am_ (y0b bA_.out hb)
           have bQ := am_ (y0b bB_.out hb)
           have bR := am_ (y0b bC_.out hb)
           have bV := am_ (y0b bD_.out hb)
           have bW := am_ (y0b bE_.out hb)
           have aP := am_ (y09 HB.out hb)
           have aT := am_ (hbox)
           have aU := am_ ((by rw [hg]; exact (y08 HB.out) : w.heap.size ≤ gG_))
           have aV := am_ ((by rw [hg]; exact (y08 HB.out) : w.heap.size ≤ gG_))
           have aW := am_ ((by rw [hg]; exact Nat.ne_of_lt (y0i bA_.out) : gA_ ≠ gG_))
           have aX := am_ ((by rw [hg]; exact Nat.ne_of_gt (y0i bA_.out) : gG_ ≠ gA_))
           have aY := am_ ((by rw [hg]; exact Nat.ne_of_lt (y0i bB_.out) : gB_ ≠ gG_))
           have aZ := am_ ((by rw [hg]; exact Nat.ne_of_gt (y0i bB_.out) : gG_ ≠ gB_))
           have a0 := am_ ((by rw [hg]; exact Nat.ne_of_lt (y0i bC_.out) : gC_ ≠ gG_))
           have a3 := am_ ((by rw [hg]; exact Nat.ne_of_gt (y0i bC_.out) : gG_ ≠ gC_))
           have a4 := am_ ((by rw [hg]; exact Nat.ne_of_lt (y0i bD_.out) : gD_ ≠ gG_))
           have a5 := am_ ((by rw [hg]; exact Nat.ne_of_gt (y0i bD_.out) : gG_ ≠ gD_))
           have a6 := am_ ((by rw [hg]; exact Nat.ne_of_lt (y0i bE_.out) : gE_ ≠ gG_))
           have bD := am_ ((by rw [hg]; exact Nat.ne_of_gt (y0i bE_.out) : gG_ ≠ gE_))
           clear aA aB aC aD aE bA_ bB_ bC_ bD_ bE_ HB
           have aA := bJ; have aB := bK; have aC := bL; have aD := bM; have aE := bN; have bA_ := bO; have bB_ := bQ; have bC_ := bR; have bD_ := bV; have bE_ := bW; have HB := aP; have bG_ := aT; have bI := aU; have bT := aV; have nAG := aW; have nGA := aX; have nBG := aY; have nGB := aZ; have nCG := a0; have nGC := a3; have nDG := a4; have nGD := a5; have nEG := a6; have nGE := bD
           clear bJ bK bL bM bN bO bQ bR bV bW aP aT aU aV aW aX aY aZ a0 a3 a4 a5 a6 bD hb hbox hg
           refine hK.out _ _ ⟨(y0c bA_.out 0).trans rfl, (y0c bA_.out 1).trans rfl, (y0c bA_.out 2).trans rfl, (y0c bA_.out 3).trans rfl⟩ (fun hHeld => ?_)
           clear hK K
           refine no_ (N := some 18) ?_
           exact norm_ (by first | (simp only [putAll, Act.put, List.setIfInBounds_toArray, List.set_cons_zero, List.set_cons_succ]; done) | (simp only [putAll, Act.put, List.setIfInBounds_toArray, List.set_cons_zero, List.set_cons_succ]; rfl)) (eV (b1, gG_) _ ⟨hHeld, (Kd.V_mono aA.out (fun _ ⟨⟨a, b, c, d, e⟩, f⟩ => ⟨a, b, c, d, e, f⟩)), (Kd.V_mono aB.out (fun _ ⟨⟨a, b, c, d, e⟩, f⟩ => ⟨a, b, c, d, e, f⟩)), (Kd.V_mono aC.out (fun _ ⟨⟨a, b, c, d, e⟩, f⟩ => ⟨a, b, c, d, e, f⟩)), (Kd.V_mono aD.out (fun _ ⟨⟨a, b, c, d, e⟩, f⟩ => ⟨a, b, c, d, e, f⟩)), (Kd.V_mono aE.out (fun _ ⟨⟨a, b, c, d, e⟩, f⟩ => ⟨a, b, c, d, e, f⟩)), bA_.out, bB_.out, bC_.out, bD_.out, bE_.out, bG_.out, bI.out, bT.out, nAG.out, nGA.out, nBG.out, nGB.out, nCG.out, nGC.out, nDG.out, nGD.out, nEG.out, nGE.out, HB.out⟩)
        ·skip
         rintro ⟨gF_, gG_⟩ bU ⟨hS_, c4, c7, c8, c9, dA, dB, dC, dD, dE, dF, b5, cA, cB, cC, cD, cE, cF, cG, cH, cI, cJ, cK, cL, cW, dI, dW, dX, dY, dZ, d0, d1, d2, d3, d4, d5, d6, d7, d8⟩
         have bJ : Aside0 (Kd.V Kd.string 9 bU w.heap.size (fun k_ => k_ ≠ gA_ ∧ k_ ≠ gB_ ∧ k_ ≠ gC_ ∧ k_ ≠ gD_ ∧ k_ ≠ gE_ ∧ k_ ≠ gF_ ∧ k_ ≠ gG_) (.slice a8 aK.length a7) aK) := ⟨c4⟩
         have bK : Aside0 (Kd.V Kd.string 9 bU w.heap.size (fun k_ => k_ ≠ gA_ ∧ k_ ≠ gB_ ∧ k_ ≠ gC_ ∧ k_ ≠ gD_ ∧ k_ ≠ gE_ ∧ k_ ≠ gF_ ∧ k_ ≠ gG_) (.slice bA aL.length a9) aL) := ⟨c7⟩
         have bL : Aside0 (Kd.V Kd.string 9 bU w.heap.size (fun k_ => k_ ≠ gA_ ∧ k_ ≠ gB_ ∧ k_ ≠ gC_ ∧ k_ ≠ gD_ ∧ k_ ≠ gE_ ∧ k_ ≠ gF_ ∧ k_ ≠ gG_) (.slice bB aM.length bC) aM) := ⟨c8⟩
         have bM : Aside0 (Kd.V Kd.string 9 bU w.heap.size (fun k_ => k_ ≠ gA_ ∧ k_ ≠ gB_ ∧ k_ ≠ gC_ ∧ k_ ≠ gD_ ∧ k_ ≠ gE_ ∧ k_ ≠ gF_ ∧ k_ ≠ gG_) (.slice aR aJ.length aS) aJ) := ⟨c9⟩
         have bN : Aside0 (bU.heap[gA_]? = some (.cells #[.bool aG, .string aH, .slice aN aF.length aO, .string aI] 24 (0, 0))) := ⟨dA⟩
         have bO : Aside0 (bU.heap[gB_]? = some (.cells #[.bool bX, .string bY, .slice a8 aK.length a7, .string b4] 24 (0, 0))) := ⟨dB⟩
         have bQ : Aside0 (bU.heap[gC_]? = some (.cells #[.bool bZ, .string b2, .slice bA aL.length a9, .string b6] 24 (0, 0))) := ⟨dC⟩
         have bR : Aside0 (bU.heap[gD_]? = some (.cells #[.bool b0, .string b3, .slice bB aM.length bC, .string b7] 24 (0, 0))) := ⟨dD⟩
         have bV : Aside0 (bU.heap[gE_]? = some (.cells #[.bool bE, .string bF, .slice aR aJ.length aS, .string bG] 24 (0, 0))) := ⟨dE⟩
         have bW : Aside0 (bU.heap[gF_]? = some (.cells #[.bool false, .string nB_, .slice none 0 0, .string nB_] 24 (0, 0))) := ⟨dF⟩
         have aP : Aside0 (bU.heap[gG_]? = some (.cells #[.bool false, .string nB_, .slice none 0 0, .string nB_] 24 (0, 0))) := ⟨b5⟩
         have aT : Aside0 (w.heap.size ≤ gF_) := ⟨cA⟩
         have aU : Aside0 (w.heap.size ≤ gF_) := ⟨cB⟩
         have aV : Aside0 (gA_ ≠ gF_) := ⟨cC⟩
         have aW : Aside0 (gF_ ≠ gA_) := ⟨cD⟩
         have aX : Aside0 (gB_ ≠ gF_) := ⟨cE⟩
         have aY : Aside0 (gF_ ≠ gB_) := ⟨cF⟩
         have aZ : Aside0 (gC_ ≠ gF_) := ⟨cG⟩
         have a0 : Aside0 (gF_ ≠ gC_) := ⟨cH⟩
         have a3 : Aside0 (gD_ ≠ gF_) := ⟨cI⟩
         have a4 : Aside0 (gF_ ≠ gD_) := ⟨cJ⟩
         have a5 : Aside0 (gE_ ≠ gF_) := ⟨cK⟩
         have a6 : Aside0 (gF_ ≠ gE_) := ⟨cL⟩
         have bD : Aside0 (gG_ ≠ gF_) := ⟨cW⟩
         have bP : Aside0 (gF_ ≠ gG_) := ⟨dI⟩
         have cM : Aside0 (w.heap.size ≤ gG_) := ⟨dW⟩
         have cX : Aside0 (w.heap.size ≤ gG_) := ⟨dX⟩
         have dJ : Aside0 (gA_ ≠ gG_) := ⟨dY⟩
         have d9 : Aside0 (gG_ ≠ gA_) := ⟨dZ⟩
         have eA : Aside0 (gB_ ≠ gG_) := ⟨d0⟩
         have eB : Aside0 (gG_ ≠ gB_) := ⟨d1⟩
         have eC : Aside0 (gC_ ≠ gG_) := ⟨d2⟩
         have eD : Aside0 (gG_ ≠ gC_) := ⟨d3⟩
         have eE : Aside0 (gD_ ≠ gG_) := ⟨d4⟩
         have eF : Aside0 (gG_ ≠ gD_) := ⟨d5⟩
         have eG : Aside0 (gE_ ≠ gG_) := ⟨d6⟩
         have eH : Aside0 (gG_ ≠ gE_) := ⟨d7⟩
         have eI : Aside0 (Below w.heap.size w bU) := ⟨d8⟩
         clear aA aB aC aD bA_ bB_ bC_ bD_ bE_ HB c4 c7 c8 c9 dA dB dC dD dE dF b5 cA cB cC cD cE cF cG cH cI cJ cK cL cW dI dW dX dY dZ d0 d1 d2 d3 d4 d5 d6 d7 d8
         have aA := bJ; have aB := bK; have aC := bL; have aD := bM; have bA_ := bN; have bB_ := bO; have bC_ := bQ; have bD_ := bR; have bE_ := bV; have bF_ := bW; have bG_ := aP; have bH := aT; have bS := aU; have nAF := aV; have nFA := aW; have nBF := aX; have nFB := aY; have nCF := aZ; have nFC := a0; have nDF := a3; have nFD := a4; have nEF := a5; have nFE := a6; have nGF := bD; have nFG := bP; have bI := cM; have bT := cX; have nAG := dJ; have nGA := d9; have nBG := eA; have nGB := eB; have nCG := eC; have nGC := eD; have nDG := eE; have nGD := eF; have nEG := eG; have nGE := eH; have HB := eI
         clear bJ bK bL bM bN bO bQ bR bV bW aP aT aU aV aW aX aY aZ a0 a3 a4 a5 a6 bD bP cM cX dJ d9 eA eB eC eD eE eF eG eH eI
         have hHeld : bU.cell? ⟨gA_, 0, none⟩ = some (.bool aG) ∧ bU.cell? ⟨gA_, 1, none⟩ = some (.string aH) ∧ bU.cell? ⟨gA_, 2, none⟩ = some (.slice aN aF.length aO) ∧ bU.cell? ⟨gA_, 3, none⟩ = some (.string aI) := hS_
         refine norm_ (a' := ?_) ?_ ?_
         rotate_left
         ·simp only [putAll, Act.put, List.setIfInBounds_toArray, List.set_cons_zero, List.set_cons_succ]
          rfl
         refine one_ (i := 2) (N := some 54) (fl 10 223) rfl rfl (y1e HT_.out (by kernel_rfl)) (by decide) (fun K hK => ?_)
         refine gs_ Try.func14 #[.agg #[.bool aG, .string aH, .slice aN aF.length aO, .string aI], .bool a2] ?_
         with_reducible refine (zqj.calls aG aH (fun k_ => k_ < w.heap.size) _ _ aF aI a2 cN cO b8 cR _ ?side1 hC.out).mono ?_
         (case side1 => exact Kd.V_mk cP.out (Kd.F_below (Kd.C_F Kd.heap_string cQ.out) HB.out))
         rintro e b9 ⟨b1, rfl, dO, hb⟩
         refine ⟨_, rfl, ?_⟩
         replace aA := am_ (Kd.V_below aA.out hb)
         replace aB := am_ (Kd.V_below aB.out hb)
         replace aC := am_ (Kd.V_below aC.out hb)
         replace aD := am_ (Kd.V_below aD.out hb)
         have aE := am_ (Kd.V_lower (Kd.V_mono (ok' := fun k_ => k_ ≠ gA_ ∧ k_ ≠ gB_ ∧ k_ ≠ gC_ ∧ k_ ≠ gD_ ∧ k_ ≠ gE_ ∧ k_ ≠ gF_ ∧ k_ ≠ gG_) dO (fun k_ hk_ => ⟨Or.elim hk_ (fun hs_ => fun e_ => Nat.not_le.2 hs_ (by rw [e_]; exact cU.out)) (fun hn_ => (Kd.freshB bA_.out k_ hn_)), Or.elim hk_ (fun hs_ => fun e_ => Nat.not_le.2 hs_ (by rw [e_]; exact c1.out)) (fun hn_ => (Kd.freshB bB_.out k_ hn_)), Or.elim hk_ (fun hs_ => fun e_ => Nat.not_le.2 hs_ (by rw [e_]; exact c2.out)) (fun hn_ => (Kd.freshB bC_.out k_ hn_)), Or.elim hk_ (fun hs_ => fun e_ => Nat.not_le.2 hs_ (by rw [e_]; exact dG.out)) (fun hn_ => (Kd.freshB bD_.out k_ hn_)), Or.elim hk_ (fun hs_ => fun e_ => Nat.not_le.2 hs_ (by rw [e_]; exact dM.out)) (fun hn_ => (Kd.freshB bE_.out k_ hn_)), Or.elim hk_ (fun hs_ => fun e_ => Nat.not_le.2 hs_ (by rw [e_]; exact bH.out)) (fun hn_ => (Kd.freshB bF_.out k_ hn_)), Or.elim hk_ (fun hs_ => fun e_ => Nat.not_le.2 hs_ (by rw [e_]; exact bI.out)) (fun hn_ => (Kd.freshB bG_.out k_ hn_))⟩)) (y08 HB.out))
         replace bA_ := am_ (y0b bA_.out hb)
         replace bB_ := am_ (y0b bB_.out hb)
         replace bC_ := am_ (y0b bC_.out hb)
         replace bD_ := am_ (y0b bD_.out hb)
         replace bE_ := am_ (y0b bE_.out hb)
         replace bF_ := am_ (y0b bF_.out hb)
         replace bG_ := am_ (y0b bG_.out hb)
         replace HB := am_ (y09 HB.out hb)
         refine hK.out _ _ ⟨(y0c bA_.out 0).trans rfl, (y0c bA_.out 1).trans rfl, (y0c bA_.out 2).trans rfl, (y0c bA_.out 3).trans rfl⟩ (fun hHeld => ?_)
         clear hK K
         refine no_ (N := some 54) ?_
         exact norm_ (by first | (simp only [putAll, Act.put, List.setIfInBounds_toArray, List.set_cons_zero, List.set_cons_succ]; done) | (simp only [putAll, Act.put, List.setIfInBounds_toArray, List.set_cons_zero, List.set_cons_succ]; rfl)) (dU (b1, gF_, gG_) _ ⟨hHeld, aA.out, aB.out, aC.out, aD.out, aE.out, bA_.out, bB_.out, bC_.out, bD_.out, bE_.out, bF_.out, bG_.out, bH.out, bS.out, nAF.out, nFA.out, nBF.out, nFB.out, nCF.out, nFC.out, nDF.out, nFD.out, nEF.out, nFE.out, nGF.out, nFG.out, bI.out, bT.out, nAG.out, nGA.out, nBG.out, nGB.out, nCG.out, nGC.out, nDG.out, nGD.out, nEG.out, nGE.out, HB.out⟩)
       ·skip
        rintro ⟨b1, gG_⟩ bU ⟨hS_, c4, c7, c8, c9, dA, dB, dC, dD, dE, dF, b5, cA, cB, cC, cD, cE, cF, cG, cH, cI, cJ, cK, cL, cW⟩
        have bJ : Aside0 (Kd.V Kd.string 9 bU w.heap.size (fun k_ => k_ ≠ gA_ ∧ k_ ≠ gB_ ∧ k_ ≠ gC_ ∧ k_ ≠ gD_ ∧ k_ ≠ gE_ ∧ k_ ≠ gG_) (.slice a8 aK.length a7) aK) := ⟨c4⟩
        have bK : Aside0 (Kd.V Kd.string 9 bU w.heap.size (fun k_ => k_ ≠ gA_ ∧ k_ ≠ gB_ ∧ k_ ≠ gC_ ∧ k_ ≠ gD_ ∧ k_ ≠ gE_ ∧ k_ ≠ gG_) (.slice bA aL.length a9) aL) := ⟨c7⟩
        have bL : Aside0 (Kd.V Kd.string 9 bU w.heap.size (fun k_ => k_ ≠ gA_ ∧ k_ ≠ gB_ ∧ k_ ≠ gC_ ∧ k_ ≠ gD_ ∧ k_ ≠ gE_ ∧ k_ ≠ gG_) (.slice bB aM.length bC) aM) := ⟨c8⟩
        have bM : Aside0 (Kd.V Kd.string 9 bU w.heap.size (fun k_ => k_ ≠ gA_ ∧ k_ ≠ gB_ ∧ k_ ≠ gC_ ∧ k_ ≠ gD_ ∧ k_ ≠ gE_ ∧ k_ ≠ gG_) (.slice aR aJ.length aS) aJ) := ⟨c9⟩
        have bN : Aside0 (Kd.V Kd.string 9 bU w.heap.size (fun k_ => k_ ≠ gA_ ∧ k_ ≠ gB_ ∧ k_ ≠ gC_ ∧ k_ ≠ gD_ ∧ k_ ≠ gE_ ∧ k_ ≠ gG_) b1 b8) := ⟨dA⟩
        have bO : Aside0 (bU.heap[gA_]? = some (.cells #[.bool aG, .string aH, .slice aN aF.length aO, .string aI] 24 (0, 0))) := ⟨dB⟩
        have bQ : Aside0 (bU.heap[gB_]? = some (.cells #[.bool bX, .string bY, .slice a8 aK.length a7, .string b4] 24 (0, 0))) := ⟨dC⟩
        have bR : Aside0 (bU.heap[gC_]? = some (.cells #[.bool bZ, .string b2, .slice bA aL.length a9, .string b6] 24 (0, 0))) := ⟨dD⟩
        have bV : Aside0 (bU.heap[gD_]? = some (.cells #[.bool b0, .string b3, .slice bB aM.length bC, .string b7] 24 (0, 0))) := ⟨dE⟩
        have bW : Aside0 (bU.heap[gE_]? = some (.cells #[.bool bE, .string bF, .slice aR aJ.length aS, .string bG] 24 (0, 0))) := ⟨dF⟩
        have aP : Aside0 (bU.heap[gG_]? = some (.cells #[.bool false, .string nB_, .slice none 0 0, .string nB_] 24 (0, 0))) := ⟨b5⟩
        have aT : Aside0 (w.heap.size ≤ gG_) := ⟨cA⟩
        have aU : Aside0 (w.heap.size ≤ gG_) := ⟨cB⟩
        have aV : Aside0 (gA_ ≠ gG_) := ⟨cC⟩
        have aW : Aside0 (gG_ ≠ gA_) := ⟨cD⟩
        have aX : Aside0 (gB_ ≠ gG_) := ⟨cE⟩
        have aY : Aside0 (gG_ ≠ gB_) := ⟨cF⟩
        have aZ : Aside0 (gC_ ≠ gG_) := ⟨cG⟩
        have a0 : Aside0 (gG_ ≠ gC_) := ⟨cH⟩
        have a3 : Aside0 (gD_ ≠ gG_) := ⟨cI⟩
        have a4 : Aside0 (gG_ ≠ gD_) := ⟨cJ⟩
        have a5 : Aside0 (gE_ ≠ gG_) := ⟨cK⟩
        have a6 : Aside0 (gG_ ≠ gE_) := ⟨cL⟩
        have bD : Aside0 (Below w.heap.size w bU) := ⟨cW⟩
        clear aA aB aC aD bA_ bB_ bC_ bD_ bE_ HB c4 c7 c8 c9 dA dB dC dD dE dF b5 cA cB cC cD cE cF cG cH cI cJ cK cL cW
        have aA := bJ; have aB := bK; have aC := bL; have aD := bM; have aE := bN; have bA_ := bO; have bB_ := bQ; have bC_ := bR; have bD_ := bV; have bE_ := bW; have bG_ := aP; have bI := aT; have bT := aU; have nAG := aV; have nGA := aW; have nBG := aX; have nGB := aY; have nCG := aZ; have nGC := a0; have nDG := a3; have nGD := a4; have nEG := a5; have nGE := a6; have HB := bD
        clear bJ bK bL bM bN bO bQ bR bV bW aP aT aU aV aW aX aY aZ a0 a3 a4 a5 a6 bD
        have hHeld : bU.cell? ⟨gA_, 0, none⟩ = some (.bool aG) ∧ bU.cell? ⟨gA_, 1, none⟩ = some (.string aH) ∧ bU.cell? ⟨gA_, 2, none⟩ = some (.slice aN aF.length aO) ∧ bU.cell? ⟨gA_, 3, none⟩ = some (.string aI) := hS_
        refine norm_ (a' := ?_) ?_ ?_
        rotate_left
        ·simp only [putAll, Act.put, List.setIfInBounds_toArray, List.set_cons_zero, List.set_cons_succ]
         rfl
        refine two_ (i := 5) (j := 6) (Ni := some 57) (Nj := some 17) #[true, true, true, true, true, true, false, true, false, false] #[true, true, true, true, true, false, true, true, false, false] rfl rfl rfl rfl (two_of HT_.out (by kernel_rfl)) (by decide) (by decide) (fun K hK => ?_) (fun K hK => ?_)
        ·skip
         refine gs_ Try.func29 #[.agg #[.bool aG, .string aH, .slice aN aF.length aO, .string aI], .bool a2] ?_
         with_reducible refine (zq6.calls aG aH (fun k_ => k_ < w.heap.size) _ _ aF aI a2 cV cY cS c0 _ ?side1 hD.out).mono ?_
         (case side1 => exact Kd.V_mk cP.out (Kd.F_below (Kd.C_F Kd.heap_string cQ.out) HB.out))
         rintro e b9 ⟨cZ, rfl, dO, hb⟩
         refine ⟨_, rfl, ?_⟩
         replace aA := am_ (Kd.V_below aA.out hb)
         replace aB := am_ (Kd.V_below aB.out hb)
         replace aC := am_ (Kd.V_below aC.out hb)
         replace aD := am_ (Kd.V_below aD.out hb)
         replace aE := am_ (Kd.V_below aE.out hb)
         have aQ := am_ (Kd.V_lower (Kd.V_mono (ok' := fun k_ => k_ ≠ gA_ ∧ k_ ≠ gB_ ∧ k_ ≠ gC_ ∧ k_ ≠ gD_ ∧ k_ ≠ gE_ ∧ k_ ≠ gG_) dO (fun k_ hk_ => ⟨Or.elim hk_ (fun hs_ => fun e_ => Nat.not_le.2 hs_ (by rw [e_]; exact cU.out)) (fun hn_ => (Kd.freshB bA_.out k_ hn_)), Or.elim hk_ (fun hs_ => fun e_ => Nat.not_le.2 hs_ (by rw [e_]; exact c1.out)) (fun hn_ => (Kd.freshB bB_.out k_ hn_)), Or.elim hk_ (fun hs_ => fun e_ => Nat.not_le.2 hs_ (by rw [e_]; exact c2.out)) (fun hn_ => (Kd.freshB bC_.out k_ hn_)), Or.elim hk_ (fun hs_ => fun e_ => Nat.not_le.2 hs_ (by rw [e_]; exact dG.out)) (fun hn_ => (Kd.freshB bD_.out k_ hn_)), Or.elim hk_ (fun hs_ => fun e_ => Nat.not_le.2 hs_ (by rw [e_]; exact dM.out)) (fun hn_ => (Kd.freshB bE_.out k_ hn_)), Or.elim hk_ (fun hs_ => fun e_ => Nat.not_le.2 hs_ (by rw [e_]; exact bI.out)) (fun hn_ => (Kd.freshB bG_.out k_ hn_))⟩)) (y08 HB.out))
         replace bA_ := am_ (y0b bA_.out hb)
         replace bB_ := am_ (y0b bB_.out hb)
         replace bC_ := am_ (y0b bC_.out hb)
         replace bD_ := am_ (y0b bD_.out hb)
         replace bE_ := am_ (y0b bE_.out hb)
         replace bG_ := am_ (y0b bG_.out hb)
         replace HB := am_ (y09 HB.out hb)
         refine hK.out _ _ ⟨(y0c bA_.out 0).trans rfl, (y0c bA_.out 1).trans rfl, (y0c bA_.out 2).trans rfl, (y0c bA_.out 3).trans rfl⟩ (fun hHeld => ?_)
         clear hK K
         refine no_ (N := some 57) ?_
         exact norm_ (by first | (simp only [putAll, Act.put, List.setIfInBounds_toArray, List.set_cons_zero, List.set_cons_succ]; done) | (simp only [putAll, Act.put, List.setIfInBounds_toArray, List.set_cons_zero, List.set_cons_succ]; rfl)) (eL (b1, cZ, gG_) _ ⟨hHeld, aA.out, aB.out, aC.out, aD.out, aE.out, aQ.out, bA_.out, bB_.out, bC_.out, bD_.out, bE_.out, bG_.out, bI.out, bT.out, nAG.out, nGA.out, nBG.out, nGB.out, nCG.out, nGC.out, nDG.out, nGD.out, nEG.out, nGE.out, HB.out⟩)
        ·skip
         refine y0k ?hg (N := 17) ?hd (cs := #[.bool false, .string nB_, .slice none 0 0, .string nB_]) (t := 24) ?hr ?_; (case hd => rfl); (case hg => rfl); (case hr => first | (go_simp; done) | (go_simp; rfl))
         intro gF_ hg b9 hbox hb
         have bJ := am_ (Kd.V_below (Kd.V_elderB aA.out gF_ (Nat.le_of_eq hg.symm)) hb)
         have bK := am_ (Kd.V_below (Kd.V_elderB aB.out gF_ (Nat.le_of_eq hg.symm)) hb)
         have bL := am_ (Kd.V_below (Kd.V_elderB aC.out gF_ (Nat.le_of_eq hg.symm)) hb)
         have bM := am_ (Kd.V_below (Kd.V_elderB aD.out gF_ (Nat.le_of_eq hg.symm)) hb)
         have bN := am_ (Kd.V_below (Kd.V_elderB aE.out gF_ (Nat.le_of_eq hg.symm)) hb)
         have bO := am_ (y0b bA_.out hb)
         have bQ := am_ (y0b bB_.out hb)
         have bR := am_ (y0b bC_.out hb)
         have bV := am_ (y0b bD_.out hb)
         have bW := am_ (y0b bE_.out hb)
         have aP := am_ (y0b bG_.out hb)
         have aT := am_ (y09 HB.out hb)
         have aU := am_ (hbox)
         have aV := am_ ((by rw [hg]; exact (y08 HB.out) : w.heap.size ≤ gF_))
         have aW := am_ ((by rw [hg]; exact (y08 HB.out) : w.heap.size ≤ gF_))
         have aX := am_ ((by rw [hg]; exact Nat.ne_of_lt (y0i bA_.out) : gA_ ≠ gF_))
         have aY := am_ ((by rw [hg]; exact Nat.ne_of_gt (y0i bA_.out) : gF_ ≠ gA_))
         have aZ := am_ ((by rw [hg]; exact Nat.ne_of_lt (y0i bB_.out) : gB_ ≠ gF_))
         have a0 := am_ ((by rw [hg]; exact Nat.ne_of_gt (y0i bB_.out) : gF_ ≠ gB_))
         have a3 := am_ ((by rw [hg]; exact Nat.ne_of_lt (y0i bC_.out) : gC_ ≠ gF_))
         have a4 := am_ ((by rw [hg]; exact Nat.ne_of_gt (y0i bC_.out) : gF_ ≠ gC_))
         have a5 := am_ ((by rw [hg]; exact Nat.ne_of_lt (y0i bD_.out) : gD_ ≠ gF_))
         have a6 := am_ ((by rw [hg]; exact Nat.ne_of_gt (y0i bD_.out) : gF_ ≠ gD_))
         have bD := am_ ((by rw [hg]; exact Nat.ne_of_lt (y0i bE_.out) : gE_ ≠ gF_))
         have bP := am_ ((by rw [hg]; exact Nat.ne_of_gt (y0i bE_.out) : gF_ ≠ gE_))
         have cM := am_ ((by rw [hg]; exact Nat.ne_of_lt (y0i bG_.out) : gG_ ≠ gF_))
         have cX := am_ ((by rw [hg]; exact Nat.ne_of_gt (y0i bG_.out) : gF_ ≠ gG_))
         clear aA aB aC aD aE bA_ bB_ bC_ bD_ bE_ bG_ HB
         have aA := bJ; have aB := bK; have aC := bL; have aD := bM; have aE := bN; have bA_ := bO; have bB_ := bQ; have bC_ := bR; have bD_ := bV; have bE_ := bW; have bG_ := aP; have HB := aT; have bF_ := aU; have bH := aV; have bS := aW; have nAF := aX; have nFA := aY; have nBF := aZ; have nFB := a0; have nCF := a3; have nFC := a4; have nDF := a5; have nFD := a6; have nEF := bD; have nFE := bP; have nGF := cM; have nFG := cX
         clear bJ bK bL bM bN bO bQ bR bV bW aP aT aU aV aW aX aY aZ a0 a3 a4 a5 a6 bD bP cM cX hb hbox hg
         refine hK.out _ _ ⟨(y0c bA_.out 0).trans rfl, (y0c bA_.out 1).trans rfl, (y0c bA_.out 2).trans rfl, (y0c bA_.out 3).trans rfl⟩ (fun hHeld => ?_)
         clear hK K
         refine no_ (N := some 17) ?_
         exact norm_ (by first | (simp only [putAll, Act.put, List.setIfInBounds_toArray, List.set_cons_zero, List.set_cons_succ]; done) | (simp only [putAll, Act.put, List.setIfInBounds_toArray, List.set_cons_zero, List.set_cons_succ]; rfl)) (dU (b1, gF_, gG_) _ ⟨hHeld, (Kd.V_mono aA.out (fun _ ⟨⟨a, b, c, d, e, f⟩, g⟩ => ⟨a, b, c, d, e, g, f⟩)), (Kd.V_mono aB.out (fun _ ⟨⟨a, b, c, d, e, f⟩, g⟩ => ⟨a, b, c, d, e, g, f⟩)), (Kd.V_mono aC.out (fun _ ⟨⟨a, b, c, d, e, f⟩, g⟩ => ⟨a, b, c, d, e, g, f⟩)), (Kd.V_mono aD.out (fun _ ⟨⟨a, b, c, d, e, f⟩, g⟩ => ⟨a, b, c, d, e, g, f⟩)), (Kd.V_mono aE.out (fun _ ⟨⟨a, b, c, d, e, f⟩, g⟩ => ⟨a, b, c, d, e, g, f⟩)), bA_.out, bB_.out, bC_.out, bD_.out, bE_.out, bF_.out, bG_.out, bH.out, bS.out, nAF.out, nFA.out, nBF.out, nFB.out, nCF.out, nFC.out, nDF.out, nFD.out, nEF.out, nFE.out, nGF.out, nFG.out, bI.out, bT.out, nAG.out, nGA.out, nBG.out, nGB.out, nCG.out, nGC.out, nDG.out, nGD.out, nEG.out, nGE.out, HB.out⟩)
      ·skip
       rintro ⟨b1, gF_⟩ bU ⟨hS_, c4, c7, c8, c9, dA, dB, dC, dD, dE, dF, b5, cA, cB, cC, cD, cE, cF, cG, cH, cI, cJ, cK, cL, cW⟩
       have bJ : Aside0 (Kd.V Kd.string 9 bU w.heap.size (fun k_ => k_ ≠ gA_ ∧ k_ ≠ gB_ ∧ k_ ≠ gC_ ∧ k_ ≠ gD_ ∧ k_ ≠ gE_ ∧ k_ ≠ gF_) (.slice a8 aK.length a7) aK) := ⟨c4⟩
       have bK : Aside0 (Kd.V Kd.string 9 bU w.heap.size (fun k_ => k_ ≠ gA_ ∧ k_ ≠ gB_ ∧ k_ ≠ gC_ ∧ k_ ≠ gD_ ∧ k_ ≠ gE_ ∧ k_ ≠ gF_) (.slice bA aL.length a9) aL) := ⟨c7⟩
       have bL : Aside0 (Kd.V Kd.string 9 bU w.heap.size (fun k_ => k_ ≠ gA_ ∧ k_ ≠ gB_ ∧ k_ ≠ gC_ ∧ k_ ≠ gD_ ∧ k_ ≠ gE_ ∧ k_ ≠ gF_) (.slice bB aM.length bC) aM) := ⟨c8⟩
       have bM : Aside0 (Kd.V Kd.string 9 bU w.heap.size (fun k_ => k_ ≠ gA_ ∧ k_ ≠ gB_ ∧ k_ ≠ gC_ ∧ k_ ≠ gD_ ∧ k_ ≠ gE_ ∧ k_ ≠ gF_) (.slice aR aJ.length aS) aJ) := ⟨c9⟩
       have bN : Aside0 (Kd.V Kd.string 9 bU w.heap.size (fun k_ => k_ ≠ gA_ ∧ k_ ≠ gB_ ∧ k_ ≠ gC_ ∧ k_ ≠ gD_ ∧ k_ ≠ gE_ ∧ k_ ≠ gF_) b1 b8) := ⟨dA⟩
       have bO : Aside0 (bU.heap[gA_]? = some (.cells #[.bool aG, .string aH, .slice aN aF.length aO, .string aI] 24 (0, 0))) := ⟨dB⟩
       have bQ : Aside0 (bU.heap[gB_]? = some (.cells #[.bool bX, .string bY, .slice a8 aK.length a7, .string b4] 24 (0, 0))) := ⟨dC⟩
       have bR : Aside0 (bU.heap[gC_]? = some (.cells #[.bool bZ, .string b2, .slice bA aL.length a9, .string b6] 24 (0, 0))) := ⟨dD⟩
       have bV : Aside0 (bU.heap[gD_]? = some (.cells #[.bool b0, .string b3, .slice bB aM.length bC, .string b7] 24 (0, 0))) := ⟨dE⟩
       have bW : Aside0 (bU.heap[gE_]? = some (.cells #[.bool bE, .string bF, .slice aR aJ.length aS, .string bG] 24 (0, 0))) := ⟨dF⟩
       have aP : Aside0 (bU.heap[gF_]? = some (.cells #[.bool false, .string nB_, .slice none 0 0, .string nB_] 24 (0, 0))) := ⟨b5⟩
       have aT : Aside0 (w.heap.size ≤ gF_) := ⟨cA⟩
       have aU : Aside0 (w.heap.size ≤ gF_) := ⟨cB⟩
       have aV : Aside0 (gA_ ≠ gF_) := ⟨cC⟩
       have aW : Aside0 (gF_ ≠ gA_) := ⟨cD⟩
       have aX : Aside0 (gB_ ≠ gF_) := ⟨cE⟩
       have aY : Aside0 (gF_ ≠ gB_) := ⟨cF⟩
       have aZ : Aside0 (gC_ ≠ gF_) := ⟨cG⟩
       have a0 : Aside0 (gF_ ≠ gC_) := ⟨cH⟩
       have a3 : Aside0 (gD_ ≠ gF_) := ⟨cI⟩
       have a4 : Aside0 (gF_ ≠ gD_) := ⟨cJ⟩
       have a5 : Aside0 (gE_ ≠ gF_) := ⟨cK⟩
       have a6 : Aside0 (gF_ ≠ gE_) := ⟨cL⟩
       have bD : Aside0 (Below w.heap.size w bU) := ⟨cW⟩
       clear aA aB aC aD bA_ bB_ bC_ bD_ bE_ HB c4 c7 c8 c9 dA dB dC dD dE dF b5 cA cB cC cD cE cF cG cH cI cJ cK cL cW
       have aA := bJ; have aB := bK; have aC := bL; have aD := bM; have aE := bN; have bA_ := bO; have bB_ := bQ; have bC_ := bR; have bD_ := bV; have bE_ := bW; have bF_ := aP; have bH := aT; have bS := aU; have nAF := aV; have nFA := aW; have nBF := aX; have nFB := aY; have nCF := aZ; have nFC := a0; have nDF := a3; have nFD := a4; have nEF := a5; have nFE := a6; have HB := bD
       clear bJ bK bL bM bN bO bQ bR bV bW aP aT aU aV aW aX aY aZ a0 a3 a4 a5 a6 bD
       have hHeld : bU.cell? ⟨gA_, 0, none⟩ = some (.bool aG) ∧ bU.cell? ⟨gA_, 1, none⟩ = some (.string aH) ∧ bU.cell? ⟨gA_, 2, none⟩ = some (.slice aN aF.length aO) ∧ bU.cell? ⟨gA_, 3, none⟩ = some (.string aI) := hS_
       refine norm_ (a' := ?_) ?_ ?_
       rotate_left
       ·simp only [putAll, Act.put, List.setIfInBounds_toArray, List.set_cons_zero, List.set_cons_succ]
        rfl
       refine two_ (i := 5) (j := 7) (Ni := some 57) (Nj := some 18) #[true, true, true, true, true, true, true, false, false, false] #[true, true, true, true, true, false, true, true, false, false] rfl rfl rfl rfl (two_of HT_.out (by kernel_rfl)) (by decide) (by decide) (fun K hK => ?_) (fun K hK => ?_)
       ·skip
        refine gs_ Try.func29 #[.agg #[.bool aG, .string aH, .slice aN aF.length aO, .string aI], .bool a2] ?_
        with_reducible refine (zq6.calls aG aH (fun k_ => k_ < w.heap.size) _ _ aF aI a2 cV cY cS c0 _ ?side1 hD.out).mono ?_
        (case side1 => exact Kd.V_mk cP.out (Kd.F_below (Kd.C_F Kd.heap_string cQ.out) HB.out))
        rintro e b9 ⟨cZ, rfl, dO, hb⟩
        refine ⟨_, rfl, ?_⟩
        replace aA := am_ (Kd.V_below aA.out hb)
        replace aB := am_ (Kd.V_below aB.out hb)
        replace aC := am_ (Kd.V_below aC.out hb)
        replace aD := am_ (Kd.V_below aD.out hb)
        replace aE := am_ (Kd.V_below aE.out hb)
        have aQ := am_ (Kd.V_lower (Kd.V_mono (ok' := fun k_ => k_ ≠ gA_ ∧ k_ ≠ gB_ ∧ k_ ≠ gC_ ∧ k_ ≠ gD_ ∧ k_ ≠ gE_ ∧ k_ ≠ gF_) dO (fun k_ hk_ => ⟨Or.elim hk_ (fun hs_ => fun e_ => Nat.not_le.2 hs_ (by rw [e_]; exact cU.out)) (fun hn_ => (Kd.freshB bA_.out k_ hn_)), Or.elim hk_ (fun hs_ => fun e_ => Nat.not_le.2 hs_ (by rw [e_]; exact c1.out)) (fun hn_ => (Kd.freshB bB_.out k_ hn_)), Or.elim hk_ (fun hs_ => fun e_ => Nat.not_le.2 hs_ (by rw [e_]; exact c2.out)) (fun hn_ => (Kd.freshB bC_.out k_ hn_)), Or.elim hk_ (fun hs_ => fun e_ => Nat.not_le.2 hs_ (by rw [e_]; exact dG.out)) (fun hn_ => (Kd.freshB bD_.out k_ hn_)), Or.elim hk_ (fun hs_ => fun e_ => Nat.not_le.2 hs_ (by rw [e_]; exact dM.out)) (fun hn_ => (Kd.freshB bE_.out k_ hn_)), Or.elim hk_ (fun hs_ => fun e_ => Nat.not_le.2 hs_ (by rw [e_]; exact bH.out)) (fun hn_ => (Kd.freshB bF_.out k_ hn_))⟩)) (y08 HB.out))
        replace bA_ := am_ (y0b bA_.out hb)
        replace bB_ := am_ (y0b bB_.out hb)
        replace bC_ := am_ (y0b bC_.out hb)
        replace bD_ := am_ (y0b bD_.out hb)
        replace bE_ := am_ (y0b bE_.out hb)
        replace bF_ := am_ (y0b bF_.out hb)
        replace HB := am_ (y09 HB.out hb)
        refine hK.out _ _ ⟨(y0c bA_.out 0).trans rfl, (y0c bA_.out 1).trans rfl, (y0c bA_.out 2).trans rfl, (y0c bA_.out 3).trans rfl⟩ (fun hHeld => ?_)
        clear hK K
        refine no_ (N := some 57) ?_
        exact norm_ (by first | (simp only [putAll, Act.put, List.setIfInBounds_toArray, List.set_cons_zero, List.set_cons_succ]; done) | (simp only [putAll, Act.put, List.setIfInBounds_toArray, List.set_cons_zero, List.set_cons_succ]; rfl)) (eK (b1, cZ, gF_) _ ⟨hHeld, aA.out, aB.out, aC.out, aD.out, aE.out, aQ.out, bA_.out, bB_.out, bC_.out, bD_.out, bE_.out, bF_.out, bH.out, bS.out, nAF.out, nFA.out, nBF.out, nFB.out, nCF.out, nFC.out, nDF.out, nFD.out, nEF.out, nFE.out, HB.out⟩)
       ·skip
        refine y0k ?hg (N := 18) ?hd (cs := #[.bool false, .string nB_, .slice none 0 0, .string nB_]) (t := 24) ?hr ?_; (case hd => rfl); (case hg => rfl); (case hr => first | (go_simp; done) | (go_simp; rfl))
        intro gG_ hg b9 hbox hb
        have bJ := am_ (Kd.V_below (Kd.V_elderB aA.out gG_ (Nat.le_of_eq hg.symm)) hb)
        have bK := am_ (Kd.V_below (Kd.V_elderB aB.out gG_ (Nat.le_of_eq hg.symm)) hb)
        have bL := am_ (Kd.V_below (Kd.V_elderB aC.out gG_ (Nat.le_of_eq hg.symm)) hb)
        have bM := am_ (Kd.V_below (Kd.V_elderB aD.out gG_ (Nat.le_of_eq hg.symm)) hb)
        have bN := am_ (Kd.V_below (Kd.V_elderB aE.out gG_ (Nat.le_of_eq hg.symm)) hb)
        have bO := am_ (y0b bA_.out hb)
        have bQ := am_ (y0b bB_.out hb)
        have bR := am_ (y0b bC_.out hb)
        have bV := am_ (y0b bD_.out hb)
        have bW := am_ (y0b bE_.out hb)
        have aP := am_ (y0b bF_.out hb)
        have aT := am_ (y09 HB.out hb)
        have aU := am_ (hbox)
        have aV := am_ ((by rw [hg]; exact (y08 HB.out) : w.heap.size ≤ gG_))
        have aW := am_ ((by rw [hg]; exact (y08 HB.out) : w.heap.size ≤ gG_))
        have aX := am_ ((by rw [hg]; exact Nat.ne_of_lt (y0i bA_.out) : gA_ ≠ gG_))
        have aY := am_ ((by rw [hg]; exact Nat.ne_of_gt (y0i bA_.out) : gG_ ≠ gA_))
        have aZ := am_ ((by rw [hg]; exact Nat.ne_of_lt (y0i bB_.out) : gB_ ≠ gG_))
        have a0 := am_ ((by rw [hg]; exact Nat.ne_of_gt (y0i bB_.out) : gG_ ≠ gB_))
        have a3 := am_ ((by rw [hg]; exact Nat.ne_of_lt (y0i bC_.out) : gC_ ≠ gG_))
        have a4 := am_ ((by rw [hg]; exact Nat.ne_of_gt (y0i bC_.out) : gG_ ≠ gC_))
        have a5 := am_ ((by rw [hg]; exact Nat.ne_of_lt (y0i bD_.out) : gD_ ≠ gG_))
        have a6 := am_ ((by rw [hg]; exact Nat.ne_of_gt (y0i bD_.out) : gG_ ≠ gD_))
        have bD := am_ ((by rw [hg]; exact Nat.ne_of_lt (y0i bE_.out) : gE_ ≠ gG_))
        have bP := am_ ((by rw [hg]; exact Nat.ne_of_gt (y0i bE_.out) : gG_ ≠ gE_))
        have cM := am_ ((by rw [hg]; exact Nat.ne_of_lt (y0i bF_.out) : gF_ ≠ gG_))
        have cX := am_ ((by rw [hg]; exact Nat.ne_of_gt (y0i bF_.out) : gG_ ≠ gF_))
        clear aA aB aC aD aE bA_ bB_ bC_ bD_ bE_ bF_ HB
        have aA := bJ; have aB := bK; have aC := bL; have aD := bM; have aE := bN; have bA_ := bO; have bB_ := bQ; have bC_ := bR; have bD_ := bV; have bE_ := bW; have bF_ := aP; have HB := aT; have bG_ := aU; have bI := aV; have bT := aW; have nAG := aX; have nGA := aY; have nBG := aZ; have nGB := a0; have nCG := a3; have nGC := a4; have nDG := a5; have nGD := a6; have nEG := bD; have nGE := bP; have nFG := cM; have nGF := cX
        clear bJ bK bL bM bN bO bQ bR bV bW aP aT aU aV aW aX aY aZ a0 a3 a4 a5 a6 bD bP cM cX hb hbox hg
        refine hK.out _ _ ⟨(y0c bA_.out 0).trans rfl, (y0c bA_.out 1).trans rfl, (y0c bA_.out 2).trans rfl, (y0c bA_.out 3).trans rfl⟩ (fun hHeld => ?_)
        clear hK K
        refine no_ (N := some 18) ?_
        exact norm_ (by first | (simp only [putAll, Act.put, List.setIfInBounds_toArray, List.set_cons_zero, List.set_cons_succ]; done) | (simp only [putAll, Act.put, List.setIfInBounds_toArray, List.set_cons_zero, List.set_cons_succ]; rfl)) (dU (b1, gF_, gG_) _ ⟨hHeld, (Kd.V_mono aA.out (fun _ ⟨⟨a, b, c, d, e, f⟩, g⟩ => ⟨a, b, c, d, e, f, g⟩)), (Kd.V_mono aB.out (fun _ ⟨⟨a, b, c, d, e, f⟩, g⟩ => ⟨a, b, c, d, e, f, g⟩)), (Kd.V_mono aC.out (fun _ ⟨⟨a, b, c, d, e, f⟩, g⟩ => ⟨a, b, c, d, e, f, g⟩)), (Kd.V_mono aD.out (fun _ ⟨⟨a, b, c, d, e, f⟩, g⟩ => ⟨a, b, c, d, e, f, g⟩)), (Kd.V_mono aE.out (fun _ ⟨⟨a, b, c, d, e, f⟩, g⟩ => ⟨a, b, c, d, e, f, g⟩)), bA_.out, bB_.out, bC_.out, bD_.out, bE_.out, bF_.out, bG_.out, bH.out, bS.out, nAF.out, nFA.out, nBF.out, nFB.out, nCF.out, nFC.out, nDF.out, nFD.out, nEF.out, nFE.out, nGF.out, nFG.out, bI.out, bT.out, nAG.out, nGA.out, nBG.out, nGB.out, nCG.out, nGC.out, nDG.out, nGD.out, nEG.out, nGE.out, HB.out⟩)
     ·skip
      rintro ⟨b1, cZ⟩ bU ⟨hS_, c4, c7, c8, c9, dA, dB, dC, dD, dE, dF, b5, cA⟩
      have bJ : Aside0 (Kd.V Kd.string 9 bU w.heap.size (fun k_ => k_ ≠ gA_ ∧ k_ ≠ gB_ ∧ k_ ≠ gC_ ∧ k_ ≠ gD_ ∧ k_ ≠ gE_) (.slice a8 aK.length a7) aK) := ⟨c4⟩
      have bK : Aside0 (Kd.V Kd.string 9 bU w.heap.size (fun k_ => k_ ≠ gA_ ∧ k_ ≠ gB_ ∧ k_ ≠ gC_ ∧ k_ ≠ gD_ ∧ k_ ≠ gE_) (.slice bA aL.length a9) aL) := ⟨c7⟩
      have bL : Aside0 (Kd.V Kd.string 9 bU w.heap.size (fun k_ => k_ ≠ gA_ ∧ k_ ≠ gB_ ∧ k_ ≠ gC_ ∧ k_ ≠ gD_ ∧ k_ ≠ gE_) (.slice bB aM.length bC) aM) := ⟨c8⟩
      have bM : Aside0 (Kd.V Kd.string 9 bU w.heap.size (fun k_ => k_ ≠ gA_ ∧ k_ ≠ gB_ ∧ k_ ≠ gC_ ∧ k_ ≠ gD_ ∧ k_ ≠ gE_) (.slice aR aJ.length aS) aJ) := ⟨c9⟩
      have bN : Aside0 (Kd.V Kd.string 9 bU w.heap.size (fun k_ => k_ ≠ gA_ ∧ k_ ≠ gB_ ∧ k_ ≠ gC_ ∧ k_ ≠ gD_ ∧ k_ ≠ gE_) b1 b8) := ⟨dA⟩
      have bO : Aside0 (Kd.V Kd.string 9 bU w.heap.size (fun k_ => k_ ≠ gA_ ∧ k_ ≠ gB_ ∧ k_ ≠ gC_ ∧ k_ ≠ gD_ ∧ k_ ≠ gE_) cZ cS) := ⟨dB⟩
      have bQ : Aside0 (bU.heap[gA_]? = some (.cells #[.bool aG, .string aH, .slice aN aF.length aO, .string aI] 24 (0, 0))) := ⟨dC⟩
      have bR : Aside0 (bU.heap[gB_]? = some (.cells #[.bool bX, .string bY, .slice a8 aK.length a7, .string b4] 24 (0, 0))) := ⟨dD⟩
      have bV : Aside0 (bU.heap[gC_]? = some (.cells #[.bool bZ, .string b2, .slice bA aL.length a9, .string b6] 24 (0, 0))) := ⟨dE⟩
      have bW : Aside0 (bU.heap[gD_]? = some (.cells #[.bool b0, .string b3, .slice bB aM.length bC, .string b7] 24 (0, 0))) := ⟨dF⟩
      have aP : Aside0 (bU.heap[gE_]? = some (.cells #[.bool bE, .string bF, .slice aR aJ.length aS, .string bG] 24 (0, 0))) := ⟨b5⟩
      have aT : Aside0 (Below w.heap.size w bU) := ⟨cA⟩
      clear aA aB aC aD bA_ bB_ bC_ bD_ bE_ HB c4 c7 c8 c9 dA dB dC dD dE dF b5 cA
      have aA := bJ; have aB := bK; have aC := bL; have aD := bM; have aE := bN; have aQ := bO; have bA_ := bQ; have bB_ := bR; have bC_ := bV; have bD_ := bW; have bE_ := aP; have HB := aT
      clear bJ bK bL bM bN bO bQ bR bV bW aP aT
      have hHeld : bU.cell? ⟨gA_, 0, none⟩ = some (.bool aG) ∧ bU.cell? ⟨gA_, 1, none⟩ = some (.string aH) ∧ bU.cell? ⟨gA_, 2, none⟩ = some (.slice aN aF.length aO) ∧ bU.cell? ⟨gA_, 3, none⟩ = some (.string aI) := hS_
      refine norm_ (a' := ?_) ?_ ?_
      rotate_left
      ·simp only [putAll, Act.put, List.setIfInBounds_toArray, List.set_cons_zero, List.set_cons_succ]
       rfl
      refine two_ (i := 6) (j := 7) (Ni := some 17) (Nj := some 18) #[true, true, true, true, true, true, true, false, false, false] #[true, true, true, true, true, true, false, true, false, false] rfl rfl rfl rfl (two_of HT_.out (by kernel_rfl)) (by decide) (by decide) (fun K hK => ?_) (fun K hK => ?_)
      ·skip
       refine y0k ?hg (N := 17) ?hd (cs := #[.bool false, .string nB_, .slice none 0 0, .string nB_]) (t := 24) ?hr ?_; (case hd => rfl); (case hg => rfl); (case hr => first | (go_simp; done) | (go_simp; rfl))
       intro gF_ hg b9 hbox hb
       have bJ := am_ (Kd.V_below (Kd.V_elderB aA.out gF_ (Nat.le_of_eq hg.symm)) hb)
       have bK := am_ (Kd.V_below (Kd.V_elderB aB.out gF_ (Nat.le_of_eq hg.symm)) hb)
       have bL := am_ (Kd.V_below (Kd.V_elderB aC.out gF_ (Nat.le_of_eq hg.symm)) hb)
       have bM := am_ (Kd.V_below (Kd.V_elderB aD.out gF_ (Nat.le_of_eq hg.symm)) hb)
       have bN := am_ (Kd.V_below (Kd.V_elderB aE.out gF_ (Nat.le_of_eq hg.symm)) hb)
       have bO := am_ (Kd.V_below (Kd.V_elderB aQ.out gF_ (Nat.le_of_eq hg.symm)) hb)
       have bQ := am_ (y0b bA_.out hb)
       have bR := am_ (y0b bB_.out hb)
       have bV := am_ (y0b bC_.out hb)
       have bW := am_ (y0b bD_.out hb)
       have aP := am_ (y0b bE_.out hb)
       have aT := am_ (y09 HB.out hb)
       have aU := am_ (hbox)
       have aV := am_ ((by rw [hg]; exact (y08 HB.out) : w.heap.size ≤ gF_))
       have aW := am_ ((by rw [hg]; exact (y08 HB.out) : w.heap.size ≤ gF_))
       have aX := am_ ((by rw [hg]; exact Nat.ne_of_lt (y0i bA_.out) : gA_ ≠ gF_))
       have aY := am_ ((by rw [hg]; exact Nat.ne_of_gt (y0i bA_.out) : gF_ ≠ gA_))
       have aZ := am_ ((by rw [hg]; exact Nat.ne_of_lt (y0i bB_.out) : gB_ ≠ gF_))
       have a0 := am_ ((by rw [hg]; exact Nat.ne_of_gt (y0i bB_.out) : gF_ ≠ gB_))
       have a3 := am_ ((by rw [hg]; exact Nat.ne_of_lt (y0i bC_.out) : gC_ ≠ gF_))
       have a4 := am_ ((by rw [hg]; exact Nat.ne_of_gt (y0i bC_.out) : gF_ ≠ gC_))
       have a5 := am_ ((by rw [hg]; exact Nat.ne_of_lt (y0i bD_.out) : gD_ ≠ gF_))
       have a6 := am_ ((by rw [hg]; exact Nat.ne_of_gt (y0i bD_.out) : gF_ ≠ gD_))
       have bD := am_ ((by rw [hg]; exact Nat.ne_of_lt (y0i bE_.out) : gE_ ≠ gF_))
       have bP := am_ ((by rw [hg]; exact Nat.ne_of_gt (y0i bE_.out) : gF_ ≠ gE_))
       clear aA aB aC aD aE aQ bA_ bB_ bC_ bD_ bE_ HB
       have aA := bJ; have aB := bK; have aC := bL; have aD := bM; have aE := bN; have aQ := bO; have bA_ := bQ; have bB_ := bR; have bC_ := bV; have bD_ := bW; have bE_ := aP; have HB := aT; have bF_ := aU; have bH := aV; have bS := aW; have nAF := aX; have nFA := aY; have nBF := aZ; have nFB := a0; have nCF := a3; have nFC := a4; have nDF := a5; have nFD := a6; have nEF := bD; have nFE := bP
       clear bJ bK bL bM bN bO bQ bR bV bW aP aT aU aV aW aX aY aZ a0 a3 a4 a5 a6 bD bP hb hbox hg
       refine hK.out _ _ ⟨(y0c bA_.out 0).trans rfl, (y0c bA_.out 1).trans rfl, (y0c bA_.out 2).trans rfl, (y0c bA_.out 3).trans rfl⟩ (fun hHeld => ?_)
       clear hK K
       refine no_ (N := some 17) ?_
       exact norm_ (by first | (simp only [putAll, Act.put, List.setIfInBounds_toArray, List.set_cons_zero, List.set_cons_succ]; done) | (simp only [putAll, Act.put, List.setIfInBounds_toArray, List.set_cons_zero, List.set_cons_succ]; rfl)) (eK (b1, cZ, gF_) _ ⟨hHeld, (Kd.V_mono aA.out (fun _ ⟨⟨a, b, c, d, e⟩, f⟩ => ⟨a, b, c, d, e, f⟩)), (Kd.V_mono aB.out (fun _ ⟨⟨a, b, c, d, e⟩, f⟩ => ⟨a, b, c, d, e, f⟩)), (Kd.V_mono aC.out (fun _ ⟨⟨a, b, c, d, e⟩, f⟩ => ⟨a, b, c, d, e, f⟩)), (Kd.V_mono aD.out (fun _ ⟨⟨a, b, c, d, e⟩, f⟩ => ⟨a, b, c, d, e, f⟩)), (Kd.V_mono aE.out (fun _ ⟨⟨a, b, c, d, e⟩, f⟩ => ⟨a, b, c, d, e, f⟩)), (Kd.V_mono aQ.out (fun _ ⟨⟨a, b, c, d, e⟩, f⟩ => ⟨a, b, c, d, e, f⟩)), bA_.out, bB_.out, bC_.out, bD_.out, bE_.out, bF_.out, bH.out, bS.out, nAF.out, nFA.out, nBF.out, nFB.out, nCF.out, nFC.out, nDF.out, nFD.out, nEF.out, nFE.out, HB.out⟩)
      ·skip
       refine y0k ?hg (N := 18) ?hd (cs := #[.bool false, .string nB_, .slice none 0 0, .string nB_]) (t := 24) ?hr ?_; (case hd => rfl); (case hg => rfl); (case hr => first | (go_simp; done) | (go_simp; rfl))
       intro gG_ hg b9 hbox hb
       have bJ := am_ (Kd.V_below (Kd.V_elderB aA.out gG_ (Nat.le_of_eq hg.symm)) hb)
       have bK := am_ (Kd.V_below (Kd.V_elderB aB.out gG_ (Nat.le_of_eq hg.symm)) hb)
       have bL := am_ (Kd.V_below (Kd.V_elderB aC.out gG_ (Nat.le_of_eq hg.symm)) hb)
       have bM := am_ (Kd.V_below (Kd.V_elderB aD.out gG_ (Nat.le_of_eq hg.symm)) hb)
       have bN := am_ (Kd.V_below (Kd.V_elderB aE.out gG_ (Nat.le_of_eq hg.symm)) hb)
       have bO := am_ (Kd.V_below (Kd.V_elderB aQ.out gG_ (Nat.le_of_eq hg.symm)) hb)
       have bQ := am_ (y0b bA_.out hb)
       have bR := am_ (y0b bB_.out hb)
       have bV := am_ (y0b bC_.out hb)
       have bW := am_ (y0b bD_.out hb)
       have aP := am_ (y0b bE_.out hb)
       have aT := am_ (y09 HB.out hb)
       have aU := am_ (hbox)
       have aV := am_ ((by rw [hg]; exact (y08 HB.out) : w.heap.size ≤ gG_))
       have aW := am_ ((by rw [hg]; exact (y08 HB.out) : w.heap.size ≤ gG_))
       have aX := am_ ((by rw [hg]; exact Nat.ne_of_lt (y0i bA_.out) : gA_ ≠ gG_))
       have aY := am_ ((by rw [hg]; exact Nat.ne_of_gt (y0i bA_.out) : gG_ ≠ gA_))
       have aZ := am_ ((by rw [hg]; exact Nat.ne_of_lt (y0i bB_.out) : gB_ ≠ gG_))
       have a0 := am_ ((by rw [hg]; exact Nat.ne_of_gt (y0i bB_.out) : gG_ ≠ gB_))
       have a3 := am_ ((by rw [hg]; exact Nat.ne_of_lt (y0i bC_.out) : gC_ ≠ gG_))
       have a4 := am_ ((by rw [hg]; exact Nat.ne_of_gt (y0i bC_.out) : gG_ ≠ gC_))
       have a5 := am_ ((by rw [hg]; exact Nat.ne_of_lt (y0i bD_.out) : gD_ ≠ gG_))
       have a6 := am_ ((by rw [hg]; exact Nat.ne_of_gt (y0i bD_.out) : gG_ ≠ gD_))
       have bD := am_ ((by rw [hg]; exact Nat.ne_of_lt (y0i bE_.out) : gE_ ≠ gG_))
       have bP := am_ ((by rw [hg]; exact Nat.ne_of_gt (y0i bE_.out) : gG_ ≠ gE_))
       clear aA aB aC aD aE aQ bA_ bB_ bC_ bD_ bE_ HB
       have aA := bJ; have aB := bK; have aC := bL; have aD := bM; have aE := bN; have aQ := bO; have bA_ := bQ; have bB_ := bR; have bC_ := bV; have bD_ := bW; have bE_ := aP; have HB := aT; have bG_ := aU; have bI := aV; have bT := aW; have nAG := aX; have nGA := aY; have nBG := aZ; have nGB := a0; have nCG := a3; have nGC := a4; have nDG := a5; have nGD := a6; have nEG := bD; have nGE := bP
       clear bJ bK bL bM bN bO bQ bR bV bW aP aT aU aV aW aX aY aZ a0 a3 a4 a5 a6 bD bP hb hbox hg
       refine hK.out _ _ ⟨(y0c bA_.out 0).trans rfl, (y0c bA_.out 1).trans rfl, (y0c bA_.out 2).trans rfl, (y0c bA_.out 3).trans rfl⟩ (fun hHeld => ?_)
       clear hK K
       refine no_ (N := some 18) ?_
       exact norm_ (by first | (simp only [putAll, Act.put, List.setIfInBounds_toArray, List.set_cons_zero, List.set_cons_succ]; done) | (simp only [putAll, Act.put, List.setIfInBounds_toArray, List.set_cons_zero, List.set_cons_succ]; rfl)) (eL (b1, cZ, gG_) _ ⟨hHeld, (Kd.V_mono aA.out (fun _ ⟨⟨a, b, c, d, e⟩, f⟩ => ⟨a, b, c, d, e, f⟩)), (Kd.V_mono aB.out (fun _ ⟨⟨a, b, c, d, e⟩, f⟩ => ⟨a, b, c, d, e, f⟩)), (Kd.V_mono aC.out (fun _ ⟨⟨a, b, c, d, e⟩, f⟩ => ⟨a, b, c, d, e, f⟩)), (Kd.V_mono aD.out (fun _ ⟨⟨a, b, c, d, e⟩, f⟩ => ⟨a, b, c, d, e, f⟩)), (Kd.V_mono aE.out (fun _ ⟨⟨a, b, c, d, e⟩, f⟩ => ⟨a, b, c, d, e, f⟩)), (Kd.V_mono aQ.out (fun _ ⟨⟨a, b, c, d, e⟩, f⟩ => ⟨a, b, c, d, e, f⟩)), bA_.out, bB_.out, bC_.out, bD_.out, bE_.out, bG_.out, bI.out, bT.out, nAG.out, nGA.out, nBG.out, nGB.out, nCG.out, nGC.out, nDG.out, nGD.out, nEG.out, nGE.out, HB.out⟩)
    ·skip
     rintro ⟨b1, gF_, gG_⟩ b9 ⟨hS_, c4, c7, c8, c9, dA, dB, dC, dD, dE, dF, b5, cA, cB, cC, cD, cE, cF, cG, cH, cI, cJ, cK, cL, cW, dI, dW, dX, dY, dZ, d0, d1, d2, d3, d4, d5, d6, d7, d8, eN⟩
     have bJ : Aside0 (Kd.V Kd.string 9 b9 w.heap.size (fun k_ => k_ ≠ gA_ ∧ k_ ≠ gB_ ∧ k_ ≠ gC_ ∧ k_ ≠ gD_ ∧ k_ ≠ gE_ ∧ k_ ≠ gF_ ∧ k_ ≠ gG_) (.slice a8 aK.length a7) aK) := ⟨c4⟩
     have bK : Aside0 (Kd.V Kd.string 9 b9 w.heap.size (fun k_ => k_ ≠ gA_ ∧ k_ ≠ gB_ ∧ k_ ≠ gC_ ∧ k_ ≠ gD_ ∧ k_ ≠ gE_ ∧ k_ ≠ gF_ ∧ k_ ≠ gG_) (.slice bA aL.length a9) aL) := ⟨c7⟩
     have bL : Aside0 (Kd.V Kd.string 9 b9 w.heap.size (fun k_ => k_ ≠ gA_ ∧ k_ ≠ gB_ ∧ k_ ≠ gC_ ∧ k_ ≠ gD_ ∧ k_ ≠ gE_ ∧ k_ ≠ gF_ ∧ k_ ≠ gG_) (.slice bB aM.length bC) aM) := ⟨c8⟩
     have bM : Aside0 (Kd.V Kd.string 9 b9 w.heap.size (fun k_ => k_ ≠ gA_ ∧ k_ ≠ gB_ ∧ k_ ≠ gC_ ∧ k_ ≠ gD_ ∧ k_ ≠ gE_ ∧ k_ ≠ gF_ ∧ k_ ≠ gG_) (.slice aR aJ.length aS) aJ) := ⟨c9⟩
     have bN : Aside0 (Kd.V Kd.string 9 b9 w.heap.size (fun k_ => k_ ≠ gA_ ∧ k_ ≠ gB_ ∧ k_ ≠ gC_ ∧ k_ ≠ gD_ ∧ k_ ≠ gE_ ∧ k_ ≠ gF_ ∧ k_ ≠ gG_) b1 b8) := ⟨dA⟩
     have bO : Aside0 (b9.heap[gA_]? = some (.cells #[.bool aG, .string aH, .slice aN aF.length aO, .string aI] 24 (0, 0))) := ⟨dB⟩
     have bQ : Aside0 (b9.heap[gB_]? = some (.cells #[.bool bX, .string bY, .slice a8 aK.length a7, .string b4] 24 (0, 0))) := ⟨dC⟩
     have bR : Aside0 (b9.heap[gC_]? = some (.cells #[.bool bZ, .string b2, .slice bA aL.length a9, .string b6] 24 (0, 0))) := ⟨dD⟩
     have bV : Aside0 (b9.heap[gD_]? = some (.cells #[.bool b0, .string b3, .slice bB aM.length bC, .string b7] 24 (0, 0))) := ⟨dE⟩
     have bW : Aside0 (b9.heap[gE_]? = some (.cells #[.bool bE, .string bF, .slice aR aJ.length aS, .string bG] 24 (0, 0))) := ⟨dF⟩
     have aP : Aside0 (b9.heap[gF_]? = some (.cells #[.bool false, .string nB_, .slice none 0 0, .string nB_] 24 (0, 0))) := ⟨b5⟩
     have aT : Aside0 (b9.heap[gG_]? = some (.cells #[.bool false, .string nB_, .slice none 0 0, .string nB_] 24 (0, 0))) := ⟨cA⟩
     have aU : Aside0 (w.heap.size ≤ gF_) := ⟨cB⟩
     have aV : Aside0 (w.heap.size ≤ gF_) := ⟨cC⟩
     have aW : Aside0 (gA_ ≠ gF_) := ⟨cD⟩
     have aX : Aside0 (gF_ ≠ gA_) := ⟨cE⟩
     have aY : Aside0 (gB_ ≠ gF_) := ⟨cF⟩
     have aZ : Aside0 (gF_ ≠ gB_) := ⟨cG⟩
     have a0 : Aside0 (gC_ ≠ gF_) := ⟨cH⟩
     have a3 : Aside0 (gF_ ≠ gC_) := ⟨cI⟩
     have a4 : Aside0 (gD_ ≠ gF_) := ⟨cJ⟩
     have a5 : Aside0 (gF_ ≠ gD_) := ⟨cK⟩
     have a6 : Aside0 (gE_ ≠ gF_) := ⟨cL⟩
     have bD : Aside0 (gF_ ≠ gE_) := ⟨cW⟩
     have bP : Aside0 (gG_ ≠ gF_) := ⟨dI⟩
     have cM : Aside0 (gF_ ≠ gG_) := ⟨dW⟩
     have cX : Aside0 (w.heap.size ≤ gG_) := ⟨dX⟩
     have dJ : Aside0 (w.heap.size ≤ gG_) := ⟨dY⟩
     have d9 : Aside0 (gA_ ≠ gG_) := ⟨dZ⟩
     have eA : Aside0 (gG_ ≠ gA_) := ⟨d0⟩
     have eB : Aside0 (gB_ ≠ gG_) := ⟨d1⟩
     have eC : Aside0 (gG_ ≠ gB_) := ⟨d2⟩
     have eD : Aside0 (gC_ ≠ gG_) := ⟨d3⟩
     have eE : Aside0 (gG_ ≠ gC_) := ⟨d4⟩
     have eF : Aside0 (gD_ ≠ gG_) := ⟨d5⟩
     have eG : Aside0 (gG_ ≠ gD_) := ⟨d6⟩
     have eH : Aside0 (gE_ ≠ gG_) := ⟨d7⟩
     have eI : Aside0 (gG_ ≠ gE_) := ⟨d8⟩
     have eO : Aside0 (Below w.heap.size w b9) := ⟨eN⟩
     clear aA aB aC aD bA_ bB_ bC_ bD_ bE_ HB c4 c7 c8 c9 dA dB dC dD dE dF b5 cA cB cC cD cE cF cG cH cI cJ cK cL cW dI dW dX dY dZ d0 d1 d2 d3 d4 d5 d6 d7 d8 eN
     have aA := bJ; have aB := bK; have aC := bL; have aD := bM; have aE := bN; have bA_ := bO; have bB_ := bQ; have bC_ := bR; have bD_ := bV; have bE_ := bW; have bF_ := aP; have bG_ := aT; have bH := aU; have bS := aV; have nAF := aW; have nFA := aX; have nBF := aY; have nFB := aZ; have nCF := a0; have nFC := a3; have nDF := a4; have nFD := a5; have nEF := a6; have nFE := bD; have nGF := bP; have nFG := cM; have bI := cX; have bT := dJ; have nAG := d9; have nGA := eA; have nBG := eB; have nGB := eC; have nCG := eD; have nGC := eE; have nDG := eF; have nGD := eG; have nEG := eH; have nGE := eI; have HB := eO
     clear bJ bK bL bM bN bO bQ bR bV bW aP aT aU aV aW aX aY aZ a0 a3 a4 a5 a6 bD bP cM cX dJ d9 eA eB eC eD eE eF eG eH eI eO
     have hHeld : b9.cell? ⟨gA_, 0, none⟩ = some (.bool aG) ∧ b9.cell? ⟨gA_, 1, none⟩ = some (.string aH) ∧ b9.cell? ⟨gA_, 2, none⟩ = some (.slice aN aF.length aO) ∧ b9.cell? ⟨gA_, 3, none⟩ = some (.string aI) := hS_
     refine norm_ (a' := ?_) ?_ ?_
     rotate_left
     ·simp only [putAll, Act.put, List.setIfInBounds_toArray, List.set_cons_zero, List.set_cons_succ]
      rfl
     refine one_ (i := 5) (N := some 57) (fl 10 255) rfl rfl (y1e HT_.out (by kernel_rfl)) (by decide) (fun K hK => ?_)
     refine gs_ Try.func29 #[.agg #[.bool aG, .string aH, .slice aN aF.length aO, .string aI], .bool a2] ?_
     with_reducible refine (zq6.calls aG aH (fun k_ => k_ < w.heap.size) _ _ aF aI a2 cV cY cS c0 _ ?side1 hD.out).mono ?_
     (case side1 => exact Kd.V_mk cP.out (Kd.F_below (Kd.C_F Kd.heap_string cQ.out) HB.out))
     rintro e dK ⟨cZ, rfl, dO, hb⟩
     refine ⟨_, rfl, ?_⟩
     replace aA := am_ (Kd.V_below aA.out hb)
     replace aB := am_ (Kd.V_below aB.out hb)
     replace aC := am_ (Kd.V_below aC.out hb)
     replace aD := am_ (Kd.V_below aD.out hb)
     replace aE := am_ (Kd.V_below aE.out hb)
     have aQ := am_ (Kd.V_lower (Kd.V_mono (ok' := fun k_ => k_ ≠ gA_ ∧ k_ ≠ gB_ ∧ k_ ≠ gC_ ∧ k_ ≠ gD_ ∧ k_ ≠ gE_ ∧ k_ ≠ gF_ ∧ k_ ≠ gG_) dO (fun k_ hk_ => ⟨Or.elim hk_ (fun hs_ => fun e_ => Nat.not_le.2 hs_ (by rw [e_]; exact cU.out)) (fun hn_ => (Kd.freshB bA_.out k_ hn_)), Or.elim hk_ (fun hs_ => fun e_ => Nat.not_le.2 hs_ (by rw [e_]; exact c1.out)) (fun hn_ => (Kd.freshB bB_.out k_ hn_)), Or.elim hk_ (fun hs_ => fun e_ => Nat.not_le.2 hs_ (by rw [e_]; exact c2.out)) (fun hn_ => (Kd.freshB bC_.out k_ hn_)), Or.elim hk_ (fun hs_ => fun e_ => Nat.not_le.2 hs_ (by rw [e_]; exact dG.out)) (fun hn_ => (Kd.freshB bD_.out k_ hn_)), Or.elim hk_ (fun hs_ => fun e_ => Nat.not_le.2 hs_ (by rw [e_]; exact dM.out)) (fun hn_ => (Kd.freshB bE_.out k_ hn_)), Or.elim hk_ (fun hs_ => fun e_ => Nat.not_le.2 hs_ (by rw [e_]; exact bH.out)) (fun hn_ => (Kd.freshB bF_.out k_ hn_)), Or.elim hk_ (fun hs_ => fun e_ => Nat.not_le.2 hs_ (by rw [e_]; exact bI.out)) (fun hn_ => (Kd.freshB bG_.out k_ hn_))⟩)) (y08 HB.out))
     replace bA_ := am_ (y0b bA_.out hb)
     replace bB_ := am_ (y0b bB_.out hb)
     replace bC_ := am_ (y0b bC_.out hb)
     replace bD_ := am_ (y0b bD_.out hb)
     replace bE_ := am_ (y0b bE_.out hb)
     replace bF_ := am_ (y0b bF_.out hb)
     replace bG_ := am_ (y0b bG_.out hb)
     replace HB := am_ (y09 HB.out hb)
     refine hK.out _ _ ⟨(y0c bA_.out 0).trans rfl, (y0c bA_.out 1).trans rfl, (y0c bA_.out 2).trans rfl, (y0c bA_.out 3).trans rfl⟩ (fun hHeld => ?_)
     clear hK K
     refine no_ (N := some 57) ?_
     exact norm_ (by first | (simp only [putAll, Act.put, List.setIfInBounds_toArray, List.set_cons_zero, List.set_cons_succ]; done) | (simp only [putAll, Act.put, List.setIfInBounds_toArray, List.set_cons_zero, List.set_cons_succ]; rfl)) (dL (b1, cZ, gF_, gG_) _ ⟨hHeld, aA.out, aB.out, aC.out, aD.out, aE.out, aQ.out, bA_.out, bB_.out, bC_.out, bD_.out, bE_.out, bF_.out, bG_.out, bH.out, bS.out, nAF.out, nFA.out, nBF.out, nFB.out, nCF.out, nFC.out, nDF.out, nFD.out, nEF.out, nFE.out, nGF.out, nFG.out, bI.out, bT.out, nAG.out, nGA.out, nBG.out, nGB.out, nCG.out, nGC.out, nDG.out, nGD.out, nEG.out, nGE.out, HB.out⟩)
   ·skip
    rintro ⟨b1, cZ, gG_⟩ b9 ⟨hS_, c4, c7, c8, c9, dA, dB, dC, dD, dE, dF, b5, cA, cB, cC, cD, cE, cF, cG, cH, cI, cJ, cK, cL, cW, dI⟩
    have bJ : Aside0 (Kd.V Kd.string 9 b9 w.heap.size (fun k_ => k_ ≠ gA_ ∧ k_ ≠ gB_ ∧ k_ ≠ gC_ ∧ k_ ≠ gD_ ∧ k_ ≠ gE_ ∧ k_ ≠ gG_) (.slice a8 aK.length a7) aK) := ⟨c4⟩
    have bK : Aside0 (Kd.V Kd.string 9 b9 w.heap.size (fun k_ => k_ ≠ gA_ ∧ k_ ≠ gB_ ∧ k_ ≠ gC_ ∧ k_ ≠ gD_ ∧ k_ ≠ gE_ ∧ k_ ≠ gG_) (.slice bA aL.length a9) aL) := ⟨c7⟩
    have bL : Aside0 (Kd.V Kd.string 9 b9 w.heap.size (fun k_ => k_ ≠ gA_ ∧ k_ ≠ gB_ ∧ k_ ≠ gC_ ∧ k_ ≠ gD_ ∧ k_ ≠ gE_ ∧ k_ ≠ gG_) (.slice bB aM.length bC) aM) := ⟨c8⟩
    have bM : Aside0 (Kd.V Kd.string 9 b9 w.heap.size (fun k_ => k_ ≠ gA_ ∧ k_ ≠ gB_ ∧ k_ ≠ gC_ ∧ k_ ≠ gD_ ∧ k_ ≠ gE_ ∧ k_ ≠ gG_) (.slice aR aJ.length aS) aJ) := ⟨c9⟩
    have bN : Aside0 (Kd.V Kd.string 9 b9 w.heap.size (fun k_ => k_ ≠ gA_ ∧ k_ ≠ gB_ ∧ k_ ≠ gC_ ∧ k_ ≠ gD_ ∧ k_ ≠ gE_ ∧ k_ ≠ gG_) b1 b8) := ⟨dA⟩
    have bO : Aside0 (Kd.V Kd.string 9 b9 w.heap.size (fun k_ => k_ ≠ gA_ ∧ k_ ≠ gB_ ∧ k_ ≠ gC_ ∧ k_ ≠ gD_ ∧ k_ ≠ gE_ ∧ k_ ≠ gG_) cZ cS) := ⟨dB⟩
    have bQ : Aside0 (b9.heap[gA_]? = some (.cells #[.bool aG, .string aH, .slice aN aF.length aO, .string aI] 24 (0, 0))) := ⟨dC⟩
    have bR : Aside0 (b9.heap[gB_]? = some (.cells #[.bool bX, .string bY, .slice a8 aK.length a7, .string b4] 24 (0, 0))) := ⟨dD⟩
    have bV : Aside0 (b9.heap[gC_]? = some (.cells #[.bool bZ, .string b2, .slice bA aL.length a9, .string b6] 24 (0, 0))) := ⟨dE⟩
    have bW : Aside0 (b9.heap[gD_]? = some (.cells #[.bool b0, .string b3, .slice bB aM.length bC, .string b7] 24 (0, 0))) := ⟨dF⟩
    have aP : Aside0 (b9.heap[gE_]? = some (.cells #[.bool bE, .string bF, .slice aR aJ.length aS, .string bG] 24 (0, 0))) := ⟨b5⟩
    have aT : Aside0 (b9.heap[gG_]? = some (.cells #[.bool false, .string nB_, .slice none 0 0, .string nB_] 24 (0, 0))) := ⟨cA⟩
    have aU : Aside0 (w.heap.size ≤ gG_) := ⟨cB⟩
    have aV : Aside0 (w.heap.size ≤ gG_) := ⟨cC⟩
    have aW : Aside0 (gA_ ≠ gG_) := ⟨cD⟩
    have aX : Aside0 (gG_ ≠ gA_) := ⟨cE⟩
    have aY : Aside0 (gB_ ≠ gG_) := ⟨cF⟩
    have aZ : Aside0 (gG_ ≠ gB_) := ⟨cG⟩
    have a0 : Aside0 (gC_ ≠ gG_) := ⟨cH⟩
    have a3 : Aside0 (gG_ ≠ gC_) := ⟨cI⟩
    have a4 : Aside0 (gD_ ≠ gG_) := ⟨cJ⟩
    have a5 : Aside0 (gG_ ≠ gD_) := ⟨cK⟩
    have a6 : Aside0 (gE_ ≠ gG_) := ⟨cL⟩
    have bD : Aside0 (gG_ ≠ gE_) := ⟨cW⟩
    have bP : Aside0 (Below w.heap.size w b9) := ⟨dI⟩
    clear aA aB aC aD bA_ bB_ bC_ bD_ bE_ HB c4 c7 c8 c9 dA dB dC dD dE dF b5 cA cB cC cD cE cF cG cH cI cJ cK cL cW dI
    have aA := bJ; have aB := bK; have aC := bL; have aD := bM; have aE := bN; have aQ := bO; have bA_ := bQ; have bB_ := bR; have bC_ := bV; have bD_ := bW; have bE_ := aP; have bG_ := aT; have bI := aU; have bT := aV; have nAG := aW; have nGA := aX; have nBG := aY; have nGB := aZ; have nCG := a0; have nGC := a3; have nDG := a4; have nGD := a5; have nEG := a6; have nGE := bD; have HB := bP
    clear bJ bK bL bM bN bO bQ bR bV bW aP aT aU aV aW aX aY aZ a0 a3 a4 a5 a6 bD bP
    have hHeld : b9.cell? ⟨gA_, 0, none⟩ = some (.bool aG) ∧ b9.cell? ⟨gA_, 1, none⟩ = some (.string aH) ∧ b9.cell? ⟨gA_, 2, none⟩ = some (.slice aN aF.length aO) ∧ b9.cell? ⟨gA_, 3, none⟩ = some (.string aI) := hS_
    refine norm_ (a' := ?_) ?_ ?_
    rotate_left
    ·simp only [putAll, Act.put, List.setIfInBounds_toArray, List.set_cons_zero, List.set_cons_succ]
     rfl
    refine one_ (i := 6) (N := some 17) (fl 10 255) rfl rfl (y1e HT_.out (by kernel_rfl)) (by decide) (fun K hK => ?_)
    refine y0k ?hg (N := 17) ?hd (cs := #[.bool false, .string nB_, .slice none 0 0, .string nB_]) (t := 24) ?hr ?_; (case hd => rfl); (case hg => rfl); (case hr => first | (go_simp; done) | (go_simp; rfl))
    intro gF_ hg dK hbox hb
    have bJ := am_ (Kd.V_below (Kd.V_elderB aA.out gF_ (Nat.le_of_eq hg.symm)) hb)
    have bK := am_ (Kd.V_below (Kd.V_elderB aB.out gF_ (Nat.le_of_eq hg.symm)) hb)
    have bL := am_ (Kd.V_below (Kd.V_elderB aC.out gF_ (Nat.le_of_eq hg.symm)) hb)
    have bM := am_ (Kd.V_below (Kd.V_elderB aD.out gF_ (Nat.le_of_eq hg.symm)) hb)
    have bN := am_ (Kd.V_below (Kd.V_elderB aE.out gF_ (Nat.le_of_eq hg.symm)) hb)
    have bO := am_ (Kd.V_below (Kd.V_elderB aQ.out gF_ (Nat.le_of_eq hg.symm)) hb)
    have bQ := am_ (y0b bA_.out hb)
    have bR := am_ (y0b bB_.out hb)
    have bV := am_ (y0b bC_.out hb)
    have bW := am_ (y0b bD_.out hb)
    have aP := am_ (y0b bE_.out hb)
    have aT := am_ (y0b bG_.out hb)
    have aU := am_ (y09 HB.out hb)
    have aV := am_ (hbox)
    have aW := am_ ((by rw [hg]; exact (y08 HB.out) : w.heap.size ≤ gF_))
    have aX := am_ ((by rw [hg]; exact (y08 HB.out) : w.heap.size ≤ gF_))
    have aY := am_ ((by rw [hg]; exact Nat.ne_of_lt (y0i bA_.out) : gA_ ≠ gF_))
    have aZ := am_ ((by rw [hg]; exact Nat.ne_of_gt (y0i bA_.out) : gF_ ≠ gA_))
    have a0 := am_ ((by rw [hg]; exact Nat.ne_of_lt (y0i bB_.out) : gB_ ≠ gF_))
    have a3 := am_ ((by rw [hg]; exact Nat.ne_of_gt (y0i bB_.out) : gF_ ≠ gB_))
    have a4 := am_ ((by rw [hg]; exact Nat.ne_of_lt (y0i bC_.out) : gC_ ≠ gF_))
    have a5 := am_ ((by rw [hg]; exact Nat.ne_of_gt (y0i bC_.out) : gF_ ≠ gC_))
    have a6 := am_ ((by rw [hg]; exact Nat.ne_of_lt (y0i bD_.out) : gD_ ≠ gF_))
    have bD := am_ ((by rw [hg]; exact Nat.ne_of_gt (y0i bD_.out) : gF_ ≠ gD_))
    have bP := am_ ((by rw [hg]; exact Nat.ne_of_lt (y0i bE_.out) : gE_ ≠ gF_))
    have cM := am_ ((by rw [hg]; exact Nat.ne_of_gt (y0i bE_.out) : gF_ ≠ gE_))
    have cX := am_ ((by rw [hg]; exact Nat.ne_of_lt (y0i bG_.out) : gG_ ≠ gF_))
    have dJ := am_ ((by rw [hg]; exact Nat.ne_of_gt (y0i bG_.out) : gF_ ≠ gG_))
    clear aA aB aC aD aE aQ bA_ bB_ bC_ bD_ bE_ bG_ HB
    have aA := bJ; have aB := bK; have aC := bL; have aD := bM; have aE := bN; have aQ := bO; have bA_ := bQ; have bB_ := bR; have bC_ := bV; have bD_ := bW; have bE_ := aP; have bG_ := aT; have HB := aU; have bF_ := aV; have bH := aW; have bS := aX; have nAF := aY; have nFA := aZ; have nBF := a0; have nFB := a3; have nCF := a4; have nFC := a5; have nDF := a6; have nFD := bD; have nEF := bP; have nFE := cM; have nGF := cX; have nFG := dJ
    clear bJ bK bL bM bN bO bQ bR bV bW aP aT aU aV aW aX aY aZ a0 a3 a4 a5 a6 bD bP cM cX dJ hb hbox hg
    refine hK.out _ _ ⟨(y0c bA_.out 0).trans rfl, (y0c bA_.out 1).trans rfl, (y0c bA_.out 2).trans rfl, (y0c bA_.out 3).trans rfl⟩ (fun hHeld => ?_)
    clear hK K
    refine no_ (N := some 17) ?_
    exact norm_ (by first | (simp only [putAll, Act.put, List.setIfInBounds_toArray, List.set_cons_zero, List.set_cons_succ]; done) | (simp only [putAll, Act.put, List.setIfInBounds_toArray, List.set_cons_zero, List.set_cons_succ]; rfl)) (dL (b1, cZ, gF_, gG_) _ ⟨hHeld, (Kd.V_mono aA.out (fun _ ⟨⟨a, b, c, d, e, f⟩, g⟩ => ⟨a, b, c, d, e, g, f⟩)), (Kd.V_mono aB.out (fun _ ⟨⟨a, b, c, d, e, f⟩, g⟩ => ⟨a, b, c, d, e, g, f⟩)), (Kd.V_mono aC.out (fun _ ⟨⟨a, b, c, d, e, f⟩, g⟩ => ⟨a, b, c, d, e, g, f⟩)), (Kd.V_mono aD.out (fun _ ⟨⟨a, b, c, d, e, f⟩, g⟩ => ⟨a, b, c, d, e, g, f⟩)), (Kd.V_mono aE.out (fun _ ⟨⟨a, b, c, d, e, f⟩, g⟩ => ⟨a, b, c, d, e, g, f⟩)), (Kd.V_mono aQ.out (fun _ ⟨⟨a, b, c, d, e, f⟩, g⟩ => ⟨a, b, c, d, e, g, f⟩)), bA_.out, bB_.out, bC_.out, bD_.out, bE_.out, bF_.out, bG_.out, bH.out, bS.out, nAF.out, nFA.out, nBF.out, nFB.out, nCF.out, nFC.out, nDF.out, nFD.out, nEF.out, nFE.out, nGF.out, nFG.out, bI.out, bT.out, nAG.out, nGA.out, nBG.out, nGB.out, nCG.out, nGC.out, nDG.out, nGD.out, nEG.out, nGE.out, HB.out⟩)
  ·skip
   rintro ⟨b1, cZ, gF_⟩ b9 ⟨hS_, c4, c7, c8, c9, dA, dB, dC, dD, dE, dF, b5, cA, cB, cC, cD, cE, cF, cG, cH, cI, cJ, cK, cL, cW, dI⟩
   have bJ : Aside0 (Kd.V Kd.string 9 b9 w.heap.size (fun k_ => k_ ≠ gA_ ∧ k_ ≠ gB_ ∧ k_ ≠ gC_ ∧ k_ ≠ gD_ ∧ k_ ≠ gE_ ∧ k_ ≠ gF_) (.slice a8 aK.length a7) aK) := ⟨c4⟩
   have bK : Aside0 (Kd.V Kd.string 9 b9 w.heap.size (fun k_ => k_ ≠ gA_ ∧ k_ ≠ gB_ ∧ k_ ≠ gC_ ∧ k_ ≠ gD_ ∧ k_ ≠ gE_ ∧ k_ ≠ gF_) (.slice bA aL.length a9) aL) := ⟨c7⟩
   have bL : Aside0 (Kd.V Kd.string 9 b9 w.heap.size (fun k_ => k_ ≠ gA_ ∧ k_ ≠ gB_ ∧ k_ ≠ gC_ ∧ k_ ≠ gD_ ∧ k_ ≠ gE_ ∧ k_ ≠ gF_) (.slice bB aM.length bC) aM) := ⟨c8⟩
   have bM : Aside0 (Kd.V Kd.string 9 b9 w.heap.size (fun k_ => k_ ≠ gA_ ∧ k_ ≠ gB_ ∧ k_ ≠ gC_ ∧ k_ ≠ gD_ ∧ k_ ≠ gE_ ∧ k_ ≠ gF_) (.slice aR aJ.length aS) aJ) := ⟨c9⟩
   have bN : Aside0 (Kd.V Kd.string 9 b9 w.heap.size (fun k_ => k_ ≠ gA_ ∧ k_ ≠ gB_ ∧ k_ ≠ gC_ ∧ k_ ≠ gD_ ∧ k_ ≠ gE_ ∧ k_ ≠ gF_) b1 b8) := ⟨dA⟩
   have bO : Aside0 (Kd.V Kd.string 9 b9 w.heap.size (fun k_ => k_ ≠ gA_ ∧ k_ ≠ gB_ ∧ k_ ≠ gC_ ∧ k_ ≠ gD_ ∧ k_ ≠ gE_ ∧ k_ ≠ gF_) cZ cS) := ⟨dB⟩
   have bQ : Aside0 (b9.heap[gA_]? = some (.cells #[.bool aG, .string aH, .slice aN aF.length aO, .string aI] 24 (0, 0))) := ⟨dC⟩
   have bR : Aside0 (b9.heap[gB_]? = some (.cells #[.bool bX, .string bY, .slice a8 aK.length a7, .string b4] 24 (0, 0))) := ⟨dD⟩
   have bV : Aside0 (b9.heap[gC_]? = some (.cells #[.bool bZ, .string b2, .slice bA aL.length a9, .string b6] 24 (0, 0))) := ⟨dE⟩
   have bW : Aside0 (b9.heap[gD_]? = some (.cells #[.bool b0, .string b3, .slice bB aM.length bC, .string b7] 24 (0, 0))) := ⟨dF⟩
   have aP : Aside0 (b9.heap[gE_]? = some (.cells #[.bool bE, .string bF, .slice aR aJ.length aS, .string bG] 24 (0, 0))) := ⟨b5⟩
   have aT : Aside0 (b9.heap[gF_]? = some (.cells #[.bool false, .string nB_, .slice none 0 0, .string nB_] 24 (0, 0))) := ⟨cA⟩
   have aU : Aside0 (w.heap.size ≤ gF_) := ⟨cB⟩
   have aV : Aside0 (w.heap.size ≤ gF_) := ⟨cC⟩
   have aW : Aside0 (gA_ ≠ gF_) := ⟨cD⟩
   have aX : Aside0 (gF_ ≠ gA_) := ⟨cE⟩
   have aY : Aside0 (gB_ ≠ gF_) := ⟨cF⟩
   have aZ : Aside0 (gF_ ≠ gB_) := ⟨cG⟩
   have a0 : Aside0 (gC_ ≠ gF_) := ⟨cH⟩
   have a3 : Aside0 (gF_ ≠ gC_) := ⟨cI⟩
   have a4 : Aside0 (gD_ ≠ gF_) := ⟨cJ⟩
   have a5 : Aside0 (gF_ ≠ gD_) := ⟨cK⟩
   have a6 : Aside0 (gE_ ≠ gF_) := ⟨cL⟩
   have bD : Aside0 (gF_ ≠ gE_) := ⟨cW⟩
   have bP : Aside0 (Below w.heap.size w b9) := ⟨dI⟩
   clear aA aB aC aD bA_ bB_ bC_ bD_ bE_ HB c4 c7 c8 c9 dA dB dC dD dE dF b5 cA cB cC cD cE cF cG cH cI cJ cK cL cW dI
   have aA := bJ; have aB := bK; have aC := bL; have aD := bM; have aE := bN; have aQ := bO; have bA_ := bQ; have bB_ := bR; have bC_ := bV; have bD_ := bW; have bE_ := aP; have bF_ := aT; have bH := aU; have bS := aV; have nAF := aW; have nFA := aX; have nBF := aY; have nFB := aZ; have nCF := a0; have nFC := a3; have nDF := a4; have nFD := a5; have nEF := a6; have nFE := bD; have HB := bP
   clear bJ bK bL bM bN bO bQ bR bV bW aP aT aU aV aW aX aY aZ a0 a3 a4 a5 a6 bD bP
   have hHeld : b9.cell? ⟨gA_, 0, none⟩ = some (.bool aG) ∧ b9.cell? ⟨gA_, 1, none⟩ = some (.string aH) ∧ b9.cell? ⟨gA_, 2, none⟩ = some (.slice aN aF.length aO) ∧ b9.cell? ⟨gA_, 3, none⟩ = some (.string aI) := hS_
   refine norm_ (a' := ?_) ?_ ?_
   rotate_left
   ·simp only [putAll, Act.put, List.setIfInBounds_toArray, List.set_cons_zero, List.set_cons_succ]
    rfl
   refine one_ (i := 7) (N := some 18) (fl 10 255) rfl rfl (y1e HT_.out (by kernel_rfl)) (by decide) (fun K hK => ?_)
   refine y0k ?hg (N := 18) ?hd (cs := #[.bool false, .string nB_, .slice none 0 0, .string nB_]) (t := 24) ?hr ?_; (case hd => rfl); (case hg => rfl); (case hr => first | (go_simp; done) | (go_simp; rfl))
   intro gG_ hg dK hbox hb
   have bJ := am_ (Kd.V_below (Kd.V_elderB aA.out gG_ (Nat.le_of_eq hg.symm)) hb)
   have bK := am_ (Kd.V_below (Kd.V_elderB aB.out gG_ (Nat.le_of_eq hg.symm)) hb)
   have bL := am_ (Kd.V_below (Kd.V_elderB aC.out gG_ (Nat.le_of_eq hg.symm)) hb)
   have bM := am_ (Kd.V_below (Kd.V_elderB aD.out gG_ (Nat.le_of_eq hg.symm)) hb)
   have bN := am_ (Kd.V_below (Kd.V_elderB aE.out gG_ (Nat.le_of_eq hg.symm)) hb)
   have bO := am_ (Kd.V_below (Kd.V_elderB aQ.out gG_ (Nat.le_of_eq hg.symm)) hb)
   have bQ := am_ (y0b bA_.out hb)
   have bR := am_ (y0b bB_.out hb)
   have bV := am_ (y0b bC_.out hb)
   have bW := am_ (y0b bD_.out hb)
   have aP := am_ (y0b bE_.out hb)
   have aT := am_ (y0b bF_.out hb)
   have aU := am_ (y09 HB.out hb)
   have aV := am_ (hbox)
   have aW := am_ ((by rw [hg]; exact (y08 HB.out) : w.heap.size ≤ gG_))
   have aX := am_ ((by rw [hg]; exact (y08 HB.out) : w.heap.size ≤ gG_))
   have aY := am_ ((by rw [hg]; exact Nat.ne_of_lt (y0i bA_.out) : gA_ ≠ gG_))
   have aZ := am_ ((by rw [hg]; exact Nat.ne_of_gt (y0i bA_.out) : gG_ ≠ gA_))
   have a0 := am_ ((by rw [hg]; exact Nat.ne_of_lt (y0i bB_.out) : gB_ ≠ gG_))
   have a3 := am_ ((by rw [hg]; exact Nat.ne_of_gt (y0i bB_.out) : gG_ ≠ gB_))
   have a4 := am_ ((by rw [hg]; exact Nat.ne_of_lt (y0i bC_.out) : gC_ ≠ gG_))
   have a5 := am_ ((by rw [hg]; exact Nat.ne_of_gt (y0i bC_.out) : gG_ ≠ gC_))
   have a6 := am_ ((by rw [hg]; exact Nat.ne_of_lt (y0i bD_.out) : gD_ ≠ gG_))
   have bD := am_ ((by rw [hg]; exact Nat.ne_of_gt (y0i bD_.out) : gG_ ≠ gD_))
   have bP := am_ ((by rw [hg]; exact Nat.ne_of_lt (y0i bE_.out) : gE_ ≠ gG_))
   have cM := am_ ((by rw [hg]; exact Nat.ne_of_gt (y0i bE_.out) : gG_ ≠ gE_))
   have cX := am_ ((by rw [hg]; exact Nat.ne_of_lt (y0i bF_.out) : gF_ ≠ gG_))
   have dJ := am_ ((by rw [hg]; exact Nat.ne_of_gt (y0i bF_.out) : gG_ ≠ gF_))
   clear aA aB aC aD aE aQ bA_ bB_ bC_ bD_ bE_ bF_ HB
   have aA := bJ; have aB := bK; have aC := bL; have aD := bM; have aE := bN; have aQ := bO; have bA_ := bQ; have bB_ := bR; have bC_ := bV; have bD_ := bW; have bE_ := aP; have bF_ := aT; have HB := aU; have bG_ := aV; have bI := aW; have bT := aX; have nAG := aY; have nGA := aZ; have nBG := a0; have nGB := a3; have nCG := a4; have nGC := a5; have nDG := a6; have nGD := bD; have nEG := bP; have nGE := cM; have nFG := cX; have nGF := dJ
   clear bJ bK bL bM bN bO bQ bR bV bW aP aT aU aV aW aX aY aZ a0 a3 a4 a5 a6 bD bP cM cX dJ hb hbox hg
   refine hK.out _ _ ⟨(y0c bA_.out 0).trans rfl, (y0c bA_.out 1).trans rfl, (y0c bA_.out 2).trans rfl, (y0c bA_.out 3).trans rfl⟩ (fun hHeld => ?_)
   clear hK K
   refine no_ (N := some 18) ?_
   exact norm_ (by first | (simp only [putAll, Act.put, List.setIfInBounds_toArray, List.set_cons_zero, List.set_cons_succ]; done) | (simp only [putAll, Act.put, List.setIfInBounds_toArray, List.set_cons_zero, List.set_cons_succ]; rfl)) (dL (b1, cZ, gF_, gG_) _ ⟨hHeld, (Kd.V_mono aA.out (fun _ ⟨⟨a, b, c, d, e, f⟩, g⟩ => ⟨a, b, c, d, e, f, g⟩)), (Kd.V_mono aB.out (fun _ ⟨⟨a, b, c, d, e, f⟩, g⟩ => ⟨a, b, c, d, e, f, g⟩)), (Kd.V_mono aC.out (fun _ ⟨⟨a, b, c, d, e, f⟩, g⟩ => ⟨a, b, c, d, e, f, g⟩)), (Kd.V_mono aD.out (fun _ ⟨⟨a, b, c, d, e, f⟩, g⟩ => ⟨a, b, c, d, e, f, g⟩)), (Kd.V_mono aE.out (fun _ ⟨⟨a, b, c, d, e, f⟩, g⟩ => ⟨a, b, c, d, e, f, g⟩)), (Kd.V_mono aQ.out (fun _ ⟨⟨a, b, c, d, e, f⟩, g⟩ => ⟨a, b, c, d, e, f, g⟩)), bA_.out, bB_.out, bC_.out, bD_.out, bE_.out, bF_.out, bG_.out, bH.out, bS.out, nAF.out, nFA.out, nBF.out, nFB.out, nCF.out, nFC.out, nDF.out, nFD.out, nEF.out, nFE.out, nGF.out, nFG.out, bI.out, bT.out, nAG.out, nGA.out, nBG.out, nGB.out, nCG.out, nGC.out, nDG.out, nGD.out, nEG.out, nGE.out, HB.out⟩)
 rintro ⟨b1, cZ, gF_, gG_⟩ dK ⟨hS_, c4, c7, c8, c9, dA, dB, dC, dD, dE, dF, b5, cA, cB, cC, cD, cE, cF, cG, cH, cI, cJ, cK, cL, cW, dI, dW, dX, dY, dZ, d0, d1, d2, d3, d4, d5, d6, d7, d8, eN, fT⟩
 have bJ : Aside0 (Kd.V Kd.string 9 dK w.heap.size (fun k_ => k_ ≠ gA_ ∧ k_ ≠ gB_ ∧ k_ ≠ gC_ ∧ k_ ≠ gD_ ∧ k_ ≠ gE_ ∧ k_ ≠ gF_ ∧ k_ ≠ gG_) (.slice a8 aK.length a7) aK) := ⟨c4⟩
 have bK : Aside0 (Kd.V Kd.string 9 dK w.heap.size (fun k_ => k_ ≠ gA_ ∧ k_ ≠ gB_ ∧ k_ ≠ gC_ ∧ k_ ≠ gD_ ∧ k_ ≠ gE_ ∧ k_ ≠ gF_ ∧ k_ ≠ gG_) (.slice bA aL.length a9) aL) := ⟨c7⟩
 have bL : Aside0 (Kd.V Kd.string 9 dK w.heap.size (fun k_ => k_ ≠ gA_ ∧ k_ ≠ gB_ ∧ k_ ≠ gC_ ∧ k_ ≠ gD_ ∧ k_ ≠ gE_ ∧ k_ ≠ gF_ ∧ k_ ≠ gG_) (.slice bB aM.length bC) aM) := ⟨c8⟩
 have bM : Aside0 (Kd.V Kd.string 9 dK w.heap.size (fun k_ => k_ ≠ gA_ ∧ k_ ≠ gB_ ∧ k_ ≠ gC_ ∧ k_ ≠ gD_ ∧ k_ ≠ gE_ ∧ k_ ≠ gF_ ∧ k_ ≠ gG_) (.slice aR aJ.length aS) aJ) := ⟨c9⟩
 have bN : Aside0 (Kd.V Kd.string 9 dK w.heap.size (fun k_ => k_ ≠ gA_ ∧ k_ ≠ gB_ ∧ k_ ≠ gC_ ∧ k_ ≠ gD_ ∧ k_ ≠ gE_ ∧ k_ ≠ gF_ ∧ k_ ≠ gG_) b1 b8) := ⟨dA⟩
 have bO : Aside0 (Kd.V Kd.string 9 dK w.heap.size (fun k_ => k_ ≠ gA_ ∧ k_ ≠ gB_ ∧ k_ ≠ gC_ ∧ k_ ≠ gD_ ∧ k_ ≠ gE_ ∧ k_ ≠ gF_ ∧ k_ ≠ gG_) cZ cS) := ⟨dB⟩
 have bQ : Aside0 (dK.heap[gA_]? = some (.cells #[.bool aG, .string aH, .slice aN aF.length aO, .string aI] 24 (0, 0))) := ⟨dC⟩
 have bR : Aside0 (dK.heap[gB_]? = some (.cells #[.bool bX, .string bY, .slice a8 aK.length a7, .string b4] 24 (0, 0))) := ⟨dD⟩
 have bV : Aside0 (dK.heap[gC_]? = some (.cells #[.bool bZ, .string b2, .slice bA aL.length a9, .string b6] 24 (0, 0))) := ⟨dE⟩
 have bW : Aside0 (dK.heap[gD_]? = some (.cells #[.bool b0, .string b3, .slice bB aM.length bC, .string b7] 24 (0, 0))) := ⟨dF⟩
 have aP : Aside0 (dK.heap[gE_]? = some (.cells #[.bool bE, .string bF, .slice aR aJ.length aS, .string bG] 24 (0, 0))) := ⟨b5⟩
 have aT : Aside0 (dK.heap[gF_]? = some (.cells #[.bool false, .string nB_, .slice none 0 0, .string nB_] 24 (0, 0))) := ⟨cA⟩
 have aU : Aside0 (dK.heap[gG_]? = some (.cells #[.bool false, .string nB_, .slice none 0 0, .string nB_] 24 (0, 0))) := ⟨cB⟩
 have aV : Aside0 (w.heap.size ≤ gF_) := ⟨cC⟩
 have aW : Aside0 (w.heap.size ≤ gF_) := ⟨cD⟩
 have aX : Aside0 (gA_ ≠ gF_) := ⟨cE⟩
 have aY : Aside0 (gF_ ≠ gA_) := ⟨cF⟩
 have aZ : Aside0 (gB_ ≠ gF_) := ⟨cG⟩
 have a0 : Aside0 (gF_ ≠ gB_) := ⟨cH⟩
 have a3 : Aside0 (gC_ ≠ gF_) := ⟨cI⟩
 have a4 : Aside0 (gF_ ≠ gC_) := ⟨cJ⟩
 have a5 : Aside0 (gD_ ≠ gF_) := ⟨cK⟩
 have a6 : Aside0 (gF_ ≠ gD_) := ⟨cL⟩
 have bD : Aside0 (gE_ ≠ gF_) := ⟨cW⟩
 have bP : Aside0 (gF_ ≠ gE_) := ⟨dI⟩
 have cM : Aside0 (gG_ ≠ gF_) := ⟨dW⟩
 have cX : Aside0 (gF_ ≠ gG_) := ⟨dX⟩
 have dJ : Aside0 (w.heap.size ≤ gG_) := ⟨dY⟩
 have d9 : Aside0 (w.heap.size ≤ gG_) := ⟨dZ⟩
 have eA : Aside0 (gA_ ≠ gG_) := ⟨d0⟩
 have eB : Aside0 (gG_ ≠ gA_) := ⟨d1⟩
 have eC : Aside0 (gB_ ≠ gG_) := ⟨d2⟩
 have eD : Aside0 (gG_ ≠ gB_) := ⟨d3⟩
 have eE : Aside0 (gC_ ≠ gG_) := ⟨d4⟩
 have eF : Aside0 (gG_ ≠ gC_) := ⟨d5⟩
 have eG : Aside0 (gD_ ≠ gG_) := ⟨d6⟩
 have eH : Aside0 (gG_ ≠ gD_) := ⟨d7⟩
 have eI : Aside0 (gE_ ≠ gG_) := ⟨d8⟩
 have eO : Aside0 (gG_ ≠ gE_) := ⟨eN⟩
 have g7 : Aside0 (Below w.heap.size w dK) := ⟨fT⟩
 clear aA aB aC aD bA_ bB_ bC_ bD_ bE_ HB c4 c7 c8 c9 dA dB dC dD dE dF b5 cA cB cC cD cE cF cG cH cI cJ cK cL cW dI dW dX dY dZ d0 d1 d2 d3 d4 d5 d6 d7 d8 eN fT
 have aA := bJ; have aB := bK; have aC := bL; have aD := bM; have aE := bN; have aQ := bO; have bA_ := bQ; have bB_ := bR; have bC_ := bV; have bD_ := bW; have bE_ := aP; have bF_ := aT; have bG_ := aU; have bH := aV; have bS := aW; have nAF := aX; have nFA := aY; have nBF := aZ; have nFB := a0; have nCF := a3; have nFC := a4; have nDF := a5; have nFD := a6; have nEF := bD; have nFE := bP; have nGF := cM; have nFG := cX; have bI := dJ; have bT := d9; have nAG := eA; have nGA := eB; have nBG := eC; have nGB := eD; have nCG := eE; have nGC := eF; have nDG := eG; have nGD := eH; have nEG := eI; have nGE := eO; have HB := g7
 clear bJ bK bL bM bN bO bQ bR bV bW aP aT aU aV aW aX aY aZ a0 a3 a4 a5 a6 bD bP cM cX dJ d9 eA eB eC eD eE eF eG eH eI eO g7
 have hHeld : dK.cell? ⟨gA_, 0, none⟩ = some (.bool aG) ∧ dK.cell? ⟨gA_, 1, none⟩ = some (.string aH) ∧ dK.cell? ⟨gA_, 2, none⟩ = some (.slice aN aF.length aO) ∧ dK.cell? ⟨gA_, 3, none⟩ = some (.string aI) := hS_
 obtain ⟨dP, dR, fR⟩ := Kd.V_slice aE.out
 (first | subst fR | (injection fR with f1_ f2_ f3_; have nD := f1_.symm; have nE := f3_.symm; clear f1_ f2_ f3_; subst nD; subst nE))
 obtain ⟨dQ, dS, fS⟩ := Kd.V_slice aQ.out
 (first | subst fS | (injection fS with f1_ f2_ f3_; have nD := f1_.symm; have nE := f3_.symm; clear f1_ f2_ f3_; subst nD; subst nE))
 refine norm_ (a' := ?_) ?_ ?_
 rotate_left
 ·simp only [putAll, Act.put, List.setIfInBounds_toArray, List.set_cons_zero, List.set_cons_succ]
  rfl
 refine one_ (i := 8) (N := none) (fl 10 511) rfl rfl (y1e HT_.out (by kernel_rfl)) (by decide) (fun K hK => ?_)
 have pU : dK.cell? ⟨gF_, 0, none⟩ = some (.bool false) := (y0c bF_.out 0).trans rfl
 have n6 := y0g bF_.out 0
 have lT := nAF.out
 have lU := nBF.out
 have lV := nCF.out
 have lW := nDF.out
 have lX := nEF.out
 have lY := nGF.out
 have kH := nFA.out
 have kI := nFB.out
 have kJ := nFC.out
 have kK := nFD.out
 have kL := nFE.out
 have kM := nFG.out
 have pV : dK.cell? ⟨gF_, 1, none⟩ = some (.string nB_) := (y0c bF_.out 1).trans rfl
 have n7 := y0g bF_.out 1
 have lZ := nAF.out
 have l0 := nBF.out
 have l1 := nCF.out
 have l2 := nDF.out
 have l3 := nEF.out
 have l4 := nGF.out
 have kN := nFA.out
 have kO := nFB.out
 have kP := nFC.out
 have kQ := nFD.out
 have kR := nFE.out
 have kS := nFG.out
 have pW : dK.cell? ⟨gF_, 2, none⟩ = some (.slice none 0 0) := (y0c bF_.out 2).trans rfl
 have n8 := y0g bF_.out 2
 have l5 := nAF.out
 have l6 := nBF.out
 have l7 := nCF.out
 have l8 := nDF.out
 have l9 := nEF.out
 have mA := nGF.out
 have kT := nFA.out
 have kU := nFB.out
 have kV := nFC.out
 have kW := nFD.out
 have kX := nFE.out
 have kY := nFG.out
 have pX : dK.cell? ⟨gF_, 3, none⟩ = some (.string nB_) := (y0c bF_.out 3).trans rfl
 have n9 := y0g bF_.out 3
 have mB := nAF.out
 have mC := nBF.out
 have mD := nCF.out
 have mE := nDF.out
 have mF := nEF.out
 have mG := nGF.out
 have kZ := nFA.out
 have k0 := nFB.out
 have k1 := nFC.out
 have k2 := nFD.out
 have k3 := nFE.out
 have k4 := nFG.out
 refine skip_ (w1 := ?_) (by rfl) rfl ?_ ?_
 rotate_left
 ·go_simp
  rfl
 refine hK.out _ _ ⟨((y0t (p := ⟨gF_, _, none⟩) nAF.out _).trans (((y0t (p := ⟨gF_, _, none⟩) nAF.out _).trans (((y0t (p := ⟨gF_, _, none⟩) nAF.out _).trans (((y0t (p := ⟨gF_, _, none⟩) nAF.out _).trans (hHeld.1)))))))), ((y0t (p := ⟨gF_, _, none⟩) nAF.out _).trans (((y0t (p := ⟨gF_, _, none⟩) nAF.out _).trans (((y0t (p := ⟨gF_, _, none⟩) nAF.out _).trans (((y0t (p := ⟨gF_, _, none⟩) nAF.out _).trans (hHeld.2.1)))))))), ((y0t (p := ⟨gF_, _, none⟩) nAF.out _).trans (((y0t (p := ⟨gF_, _, none⟩) nAF.out _).trans (((y0t (p := ⟨gF_, _, none⟩) nAF.out _).trans (((y0t (p := ⟨gF_, _, none⟩) nAF.out _).trans (hHeld.2.2.1)))))))), ((y0t (p := ⟨gF_, _, none⟩) nAF.out _).trans (((y0t (p := ⟨gF_, _, none⟩) nAF.out _).trans (((y0t (p := ⟨gF_, _, none⟩) nAF.out _).trans (((y0t (p := ⟨gF_, _, none⟩) nAF.out _).trans (hHeld.2.2.2))))))))⟩ (fun hHeld => ?_)
 clear hK K
 refine one_ (i := 9) (N := none) (fl 10 1023) rfl rfl (y1e HT_.out (by kernel_rfl)) (by decide) (fun K hK => ?_)
 have pY : dK.cell? ⟨gG_, 0, none⟩ = some (.bool false) := (y0c bG_.out 0).trans rfl
 have oA := y0g bG_.out 0
 have mH := nAG.out
 have mI := nBG.out
 have mJ := nCG.out
 have mK := nDG.out
 have mL := nEG.out
 have mM := nFG.out
 have k5 := nGA.out
 have k6 := nGB.out
 have k7 := nGC.out
 have k8 := nGD.out
 have k9 := nGE.out
 have lA := nGF.out
 have pZ : dK.cell? ⟨gG_, 1, none⟩ = some (.string nB_) := (y0c bG_.out 1).trans rfl
 have oB := y0g bG_.out 1
 have mN := nAG.out
 have mO := nBG.out
 have mP := nCG.out
 have mQ := nDG.out
 have mR := nEG.out
 have mS := nFG.out
 have lB := nGA.out
 have lC := nGB.out
 have lD := nGC.out
 have lE := nGD.out
 have lF := nGE.out
 have lG := nGF.out
 have p0 : dK.cell? ⟨gG_, 2, none⟩ = some (.slice none 0 0) := (y0c bG_.out 2).trans rfl
 have oC := y0g bG_.out 2
 have mT := nAG.out
 have mU := nBG.out
 have mV := nCG.out
 have mW := nDG.out
 have mX := nEG.out
 have mY := nFG.out
 have lH := nGA.out
 have lI := nGB.out
 have lJ := nGC.out
 have lK := nGD.out
 have lL := nGE.out
 have lM := nGF.out
 have p1 : dK.cell? ⟨gG_, 3, none⟩ = some (.string nB_) := (y0c bG_.out 3).trans rfl
 have oD := y0g bG_.out 3
 have mZ := nAG.out
 have m0 := nBG.out
 have m1 := nCG.out
 have m2 := nDG.out
 have m3 := nEG.out
 have m4 := nFG.out
 have lN := nGA.out
 have lO := nGB.out
 have lP := nGC.out
 have lQ := nGD.out
 have lR := nGE.out
 have lS := nGF.out
 refine skip_ (w1 := ?_) (by rfl) rfl ?_ ?_
 rotate_left
 ·go_simp
  rfl
 refine hK.out _ _ ⟨((y0t (p := ⟨gG_, _, none⟩) nAG.out _).trans (((y0t (p := ⟨gG_, _, none⟩) nAG.out _).trans (((y0t (p := ⟨gG_, _, none⟩) nAG.out _).trans (((y0t (p := ⟨gG_, _, none⟩) nAG.out _).trans (hHeld.1)))))))), ((y0t (p := ⟨gG_, _, none⟩) nAG.out _).trans (((y0t (p := ⟨gG_, _, none⟩) nAG.out _).trans (((y0t (p := ⟨gG_, _, none⟩) nAG.out _).trans (((y0t (p := ⟨gG_, _, none⟩) nAG.out _).trans (hHeld.2.1)))))))), ((y0t (p := ⟨gG_, _, none⟩) nAG.out _).trans (((y0t (p := ⟨gG_, _, none⟩) nAG.out _).trans (((y0t (p := ⟨gG_, _, none⟩) nAG.out _).trans (((y0t (p := ⟨gG_, _, none⟩) nAG.out _).trans (hHeld.2.2.1)))))))), ((y0t (p := ⟨gG_, _, none⟩) nAG.out _).trans (((y0t (p := ⟨gG_, _, none⟩) nAG.out _).trans (((y0t (p := ⟨gG_, _, none⟩) nAG.out _).trans (((y0t (p := ⟨gG_, _, none⟩) nAG.out _).trans (hHeld.2.2.2))))))))⟩ (fun hHeld => ?_)
 clear hK K
 refine done_ (done_of HT_.out (by kernel_rfl)) ?_
 have oO := nBF.out
 have o6 := nFB.out
 have oP := nBG.out
 have o7 := nGB.out
 obtain ⟨iL, j1, iM, j2, iN, j3, iO, j4⟩ := b4_ bB_.out
 have oQ := nCF.out
 have o8 := nFC.out
 have oR := nCG.out
 have o9 := nGC.out
 obtain ⟨iP, j5, iQ, j6, iR, j7, iS, j8⟩ := b4_ bC_.out
 try go_wp2_with (first | (refine gc_ 21 ?_; refine gl_ (some 60) Try.func21 #[.agg #[.bool bX, .string bY, .slice a8 aK.length a7, .string b4], .agg #[.bool bZ, .string b2, .slice bA aL.length a9, .string b6]] ?_; (with_reducible refine (zq4.calls k bX bY _ _ aK b4 bZ b2 _ _ aL b6 true _ ?side1 ?side2 ?side3 ?side4 pK.out).mono ?_); (case side1 => refine (Kd.V_reads' (e := 9) (base := w.heap.size) (ok := fun k_ => (k_ ≠ gA_ ∧ (k_ ≠ gB_ ∧ (k_ ≠ gC_ ∧ (k_ ≠ gD_ ∧ (k_ ≠ gE_ ∧ (k_ ≠ gF_ ∧ k_ ≠ gG_))))))) (n := aK.length) (c := a7) ?_).2.2; exact (vm_ (Kd.V_mono (Kd.V_far (p := ⟨gG_, 3, none⟩) (Kd.V_far (p := ⟨gG_, 2, none⟩) (Kd.V_far (p := ⟨gG_, 1, none⟩) (Kd.V_far (p := ⟨gG_, 0, none⟩) (Kd.V_far (p := ⟨gF_, 3, none⟩) (Kd.V_far (p := ⟨gF_, 2, none⟩) (Kd.V_far (p := ⟨gF_, 1, none⟩) (Kd.V_far (p := ⟨gF_, 0, none⟩) (Kd.V_mono (Kd.V_mono aA.out (fun k_ hk => (⟨hk, hk.2.2.2.2.2.1⟩ : _ ∧ k_ ≠ gF_))) (fun k_ hk => (⟨hk, hk.1.2.2.2.2.2.2⟩ : _ ∧ k_ ≠ gG_))) (fun _ hk => hk.1.2) (.bool cN)) (fun _ hk => hk.1.2) (.string cO)) (fun _ hk => hk.1.2) (.slice dP b8.length dR)) (fun _ hk => hk.1.2) (.string cR)) (fun _ hk => hk.2) (.bool cV)) (fun _ hk => hk.2) (.string cY)) (fun _ hk => hk.2) (.slice dQ cS.length dS)) (fun _ hk => hk.2) (.string c0)) (fun _ h_ => h_.1)) (fun _ h_ => h_.1))); (case side2 => exact (Kd.V_reads' aA.out).2.1); (case side3 => refine (Kd.V_reads' (e := 9) (base := w.heap.size) (ok := fun k_ => (k_ ≠ gA_ ∧ (k_ ≠ gB_ ∧ (k_ ≠ gC_ ∧ (k_ ≠ gD_ ∧ (k_ ≠ gE_ ∧ (k_ ≠ gF_ ∧ k_ ≠ gG_))))))) (n := aL.length) (c := a9) ?_).2.2; exact (vm_ (Kd.V_mono (Kd.V_far (p := ⟨gG_, 3, none⟩) (Kd.V_far (p := ⟨gG_, 2, none⟩) (Kd.V_far (p := ⟨gG_, 1, none⟩) (Kd.V_far (p := ⟨gG_, 0, none⟩) (Kd.V_far (p := ⟨gF_, 3, none⟩) (Kd.V_far (p := ⟨gF_, 2, none⟩) (Kd.V_far (p := ⟨gF_, 1, none⟩) (Kd.V_far (p := ⟨gF_, 0, none⟩) (Kd.V_mono (Kd.V_mono aB.out (fun k_ hk => (⟨hk, hk.2.2.2.2.2.1⟩ : _ ∧ k_ ≠ gF_))) (fun k_ hk => (⟨hk, hk.1.2.2.2.2.2.2⟩ : _ ∧ k_ ≠ gG_))) (fun _ hk => hk.1.2) (.bool cN)) (fun _ hk => hk.1.2) (.string cO)) (fun _ hk => hk.1.2) (.slice dP b8.length dR)) (fun _ hk => hk.1.2) (.string cR)) (fun _ hk => hk.2) (.bool cV)) (fun _ hk => hk.2) (.string cY)) (fun _ hk => hk.2) (.slice dQ cS.length dS)) (fun _ hk => hk.2) (.string c0)) (fun _ h_ => h_.1)) (fun _ h_ => h_.1))); (case side4 => exact (Kd.V_reads' aB.out).2.1); rintro e qS ⟨rfl, hb⟩; refine ⟨_, rfl, ?_⟩; replace aA := am_ (Kd.V_below (vm_ (Kd.V_mono (Kd.V_far (p := ⟨gG_, 3, none⟩) (Kd.V_far (p := ⟨gG_, 2, none⟩) (Kd.V_far (p := ⟨gG_, 1, none⟩) (Kd.V_far (p := ⟨gG_, 0, none⟩) (Kd.V_far (p := ⟨gF_, 3, none⟩) (Kd.V_far (p := ⟨gF_, 2, none⟩) (Kd.V_far (p := ⟨gF_, 1, none⟩) (Kd.V_far (p := ⟨gF_, 0, none⟩) (Kd.V_mono (Kd.V_mono aA.out (fun k_ hk => (⟨hk, hk.2.2.2.2.2.1⟩ : _ ∧ k_ ≠ gF_))) (fun k_ hk => (⟨hk, hk.1.2.2.2.2.2.2⟩ : _ ∧ k_ ≠ gG_))) (fun _ hk => hk.1.2) (.bool cN)) (fun _ hk => hk.1.2) (.string cO)) (fun _ hk => hk.1.2) (.slice dP b8.length dR)) (fun _ hk => hk.1.2) (.string cR)) (fun _ hk => hk.2) (.bool cV)) (fun _ hk => hk.2) (.string cY)) (fun _ hk => hk.2) (.slice dQ cS.length dS)) (fun _ hk => hk.2) (.string c0)) (fun _ h_ => h_.1)) (fun _ h_ => h_.1)) hb); replace aB := am_ (Kd.V_below (vm_ (Kd.V_mono (Kd.V_far (p := ⟨gG_, 3, none⟩) (Kd.V_far (p := ⟨gG_, 2, none⟩) (Kd.V_far (p := ⟨gG_, 1, none⟩) (Kd.V_far (p := ⟨gG_, 0, none⟩) (Kd.V_far (p := ⟨gF_, 3, none⟩) (Kd.V_far (p := ⟨gF_, 2, none⟩) (Kd.V_far (p := ⟨gF_, 1, none⟩) (Kd.V_far (p := ⟨gF_, 0, none⟩) (Kd.V_mono (Kd.V_mono aB.out (fun k_ hk => (⟨hk, hk.2.2.2.2.2.1⟩ : _ ∧ k_ ≠ gF_))) (fun k_ hk => (⟨hk, hk.1.2.2.2.2.2.2⟩ : _ ∧ k_ ≠ gG_))) (fun _ hk => hk.1.2) (.bool cN)) (fun _ hk => hk.1.2) (.string cO)) (fun _ hk => hk.1.2) (.slice dP b8.length dR)) (fun _ hk => hk.1.2) (.string cR)) (fun _ hk => hk.2) (.bool cV)) (fun _ hk => hk.2) (.string cY)) (fun _ hk => hk.2) (.slice dQ cS.length dS)) (fun _ hk => hk.2) (.string c0)) (fun _ h_ => h_.1)) (fun _ h_ => h_.1)) hb); replace aC := am_ (Kd.V_below (vm_ (Kd.V_mono (Kd.V_far (p := ⟨gG_, 3, none⟩) (Kd.V_far (p := ⟨gG_, 2, none⟩) (Kd.V_far (p := ⟨gG_, 1, none⟩) (Kd.V_far (p := ⟨gG_, 0, none⟩) (Kd.V_far (p := ⟨gF_, 3, none⟩) (Kd.V_far (p := ⟨gF_, 2, none⟩) (Kd.V_far (p := ⟨gF_, 1, none⟩) (Kd.V_far (p := ⟨gF_, 0, none⟩) (Kd.V_mono (Kd.V_mono aC.out (fun k_ hk => (⟨hk, hk.2.2.2.2.2.1⟩ : _ ∧ k_ ≠ gF_))) (fun k_ hk => (⟨hk, hk.1.2.2.2.2.2.2⟩ : _ ∧ k_ ≠ gG_))) (fun _ hk => hk.1.2) (.bool cN)) (fun _ hk => hk.1.2) (.string cO)) (fun _ hk => hk.1.2) (.slice dP b8.length dR)) (fun _ hk => hk.1.2) (.string cR)) (fun _ hk => hk.2) (.bool cV)) (fun _ hk => hk.2) (.string cY)) (fun _ hk => hk.2) (.slice dQ cS.length dS)) (fun _ hk => hk.2) (.string c0)) (fun _ h_ => h_.1)) (fun _ h_ => h_.1)) hb); replace aD := am_ (Kd.V_below (vm_ (Kd.V_mono (Kd.V_far (p := ⟨gG_, 3, none⟩) (Kd.V_far (p := ⟨gG_, 2, none⟩) (Kd.V_far (p := ⟨gG_, 1, none⟩) (Kd.V_far (p := ⟨gG_, 0, none⟩) (Kd.V_far (p := ⟨gF_, 3, none⟩) (Kd.V_far (p := ⟨gF_, 2, none⟩) (Kd.V_far (p := ⟨gF_, 1, none⟩) (Kd.V_far (p := ⟨gF_, 0, none⟩) (Kd.V_mono (Kd.V_mono aD.out (fun k_ hk => (⟨hk, hk.2.2.2.2.2.1⟩ : _ ∧ k_ ≠ gF_))) (fun k_ hk => (⟨hk, hk.1.2.2.2.2.2.2⟩ : _ ∧ k_ ≠ gG_))) (fun _ hk => hk.1.2) (.bool cN)) (fun _ hk => hk.1.2) (.string cO)) (fun _ hk => hk.1.2) (.slice dP b8.length dR)) (fun _ hk => hk.1.2) (.string cR)) (fun _ hk => hk.2) (.bool cV)) (fun _ hk => hk.2) (.string cY)) (fun _ hk => hk.2) (.slice dQ cS.length dS)) (fun _ hk => hk.2) (.string c0)) (fun _ h_ => h_.1)) (fun _ h_ => h_.1)) hb); replace aE := am_ (Kd.V_below (vm_ (Kd.V_mono (Kd.V_far (p := ⟨gG_, 3, none⟩) (Kd.V_far (p := ⟨gG_, 2, none⟩) (Kd.V_far (p := ⟨gG_, 1, none⟩) (Kd.V_far (p := ⟨gG_, 0, none⟩) (Kd.V_far (p := ⟨gF_, 3, none⟩) (Kd.V_far (p := ⟨gF_, 2, none⟩) (Kd.V_far (p := ⟨gF_, 1, none⟩) (Kd.V_far (p := ⟨gF_, 0, none⟩) (Kd.V_mono (Kd.V_mono aE.out (fun k_ hk => (⟨hk, hk.2.2.2.2.2.1⟩ : _ ∧ k_ ≠ gF_))) (fun k_ hk => (⟨hk, hk.1.2.2.2.2.2.2⟩ : _ ∧ k_ ≠ gG_))) (fun _ hk => hk.1.2) (.bool cN)) (fun _ hk => hk.1.2) (.string cO)) (fun _ hk => hk.1.2) (.slice dP b8.length dR)) (fun _ hk => hk.1.2) (.string cR)) (fun _ hk => hk.2) (.bool cV)) (fun _ hk => hk.2) (.string cY)) (fun _ hk => hk.2) (.slice dQ cS.length dS)) (fun _ hk => hk.2) (.string c0)) (fun _ h_ => h_.1)) (fun _ h_ => h_.1)) hb); replace aQ := am_ (Kd.V_below (vm_ (Kd.V_mono (Kd.V_far (p := ⟨gG_, 3, none⟩) (Kd.V_far (p := ⟨gG_, 2, none⟩) (Kd.V_far (p := ⟨gG_, 1, none⟩) (Kd.V_far (p := ⟨gG_, 0, none⟩) (Kd.V_far (p := ⟨gF_, 3, none⟩) (Kd.V_far (p := ⟨gF_, 2, none⟩) (Kd.V_far (p := ⟨gF_, 1, none⟩) (Kd.V_far (p := ⟨gF_, 0, none⟩) (Kd.V_mono (Kd.V_mono aQ.out (fun k_ hk => (⟨hk, hk.2.2.2.2.2.1⟩ : _ ∧ k_ ≠ gF_))) (fun k_ hk => (⟨hk, hk.1.2.2.2.2.2.2⟩ : _ ∧ k_ ≠ gG_))) (fun _ hk => hk.1.2) (.bool cN)) (fun _ hk => hk.1.2) (.string cO)) (fun _ hk => hk.1.2) (.slice dP b8.length dR)) (fun _ hk => hk.1.2) (.string cR)) (fun _ hk => hk.2) (.bool cV)) (fun _ hk => hk.2) (.string cY)) (fun _ hk => hk.2) (.slice dQ cS.length dS)) (fun _ hk => hk.2) (.string c0)) (fun _ h_ => h_.1)) (fun _ h_ => h_.1)) hb); replace bA_ := am_ (y0b (g := gA_) (o := .cells #[.bool aG, .string aH, .slice aN aF.length aO, .string aI] 24 (0, 0)) (bs_ bA_.out) hb); replace bB_ := am_ (y0b (g := gB_) (o := .cells #[.bool bX, .string bY, .slice a8 aK.length a7, .string b4] 24 (0, 0)) (bs_ bB_.out) hb); replace bC_ := am_ (y0b (g := gC_) (o := .cells #[.bool bZ, .string b2, .slice bA aL.length a9, .string b6] 24 (0, 0)) (bs_ bC_.out) hb); replace bD_ := am_ (y0b (g := gD_) (o := .cells #[.bool b0, .string b3, .slice bB aM.length bC, .string b7] 24 (0, 0)) (bs_ bD_.out) hb); replace bE_ := am_ (y0b (g := gE_) (o := .cells #[.bool bE, .string bF, .slice aR aJ.length aS, .string bG] 24 (0, 0)) (bs_ bE_.out) hb); replace bF_ := am_ (y0b (g := gF_) (o := .cells #[.bool cN, .string cO, .slice dP b8.length dR, .string cR] 24 (0, 0)) (bs_ bF_.out) hb); replace bG_ := am_ (y0b (g := gG_) (o := .cells #[.bool cV, .string cY, .slice dQ cS.length dS, .string c0] 24 (0, 0)) (bs_ bG_.out) hb); replace HB := am_ (y09 hb_ hb); have oS := nDF.out; have pA := nFD.out; have oT := nDG.out; have pB := nGD.out; obtain ⟨iT, j9, iU, kA, iV, kB, iW, kC⟩ := b4_ bD_.out; have oU := nEF.out; have pC := nFE.out; have oV := nEG.out; have pD := nGE.out; obtain ⟨iX, kD, iY, kE, iZ, kF, i0, kG⟩ := b4_ bE_.out) | (go_at_call 21; (with_reducible refine (zq4.calls k b0 b3 _ _ aM b7 bE bF _ _ aJ bG true _ ?side1 ?side2 ?side3 ?side4 pL.out).mono ?_); (case side1 => exact ck_ (Kd.V_reads' aC.out).2.2); (case side2 => exact (Kd.V_reads' aC.out).2.1); (case side3 => exact ck_ (Kd.V_reads' aD.out).2.2); (case side4 => exact (Kd.V_reads' aD.out).2.1); rintro e p7 ⟨rfl, hb⟩; replace aA := am_ (Kd.V_below aA.out hb); replace aB := am_ (Kd.V_below aB.out hb); replace aC := am_ (Kd.V_below aC.out hb); replace aD := am_ (Kd.V_below aD.out hb); replace aE := am_ (Kd.V_below aE.out hb); replace aQ := am_ (Kd.V_below aQ.out hb); replace bA_ := am_ (y0b bA_.out hb); replace bB_ := am_ (y0b bB_.out hb); replace bC_ := am_ (y0b bC_.out hb); replace bD_ := am_ (y0b bD_.out hb); replace bE_ := am_ (y0b bE_.out hb); replace bF_ := am_ (y0b bF_.out hb); replace bG_ := am_ (y0b bG_.out hb); replace HB := am_ (y09 HB.out hb); have nN := nFA.out; have nQ := nAF.out; have nO := nFG.out; have nR := nGF.out; obtain ⟨fV, gJ, fW, gK, fX, gL, fY, gM⟩ := b4_ bF_.out; have nP := nGA.out; have nS := nAG.out; obtain ⟨fZ, gN, f0, gO, f1, gP, f2, gQ⟩ := b4_ bG_.out) | (go_at_call 21; (with_reducible refine (zq4.calls k cN cO _ _ b8 cR cV cY _ _ cS c0 true _ ?side1 ?side2 ?side3 ?side4 pM.out).mono ?_); (case side1 => exact ck_ (Kd.V_reads' aE.out).2.2); (case side2 => exact (Kd.V_reads' aE.out).2.1); (case side3 => exact ck_ (Kd.V_reads' aQ.out).2.2); (case side4 => exact (Kd.V_reads' aQ.out).2.1); rintro e p8 ⟨rfl, hb⟩; replace aA := am_ (Kd.V_below aA.out hb); replace aB := am_ (Kd.V_below aB.out hb); replace aC := am_ (Kd.V_below aC.out hb); replace aD := am_ (Kd.V_below aD.out hb); replace aE := am_ (Kd.V_below aE.out hb); replace aQ := am_ (Kd.V_below aQ.out hb); replace bA_ := am_ (y0b bA_.out hb); replace bB_ := am_ (y0b bB_.out hb); replace bC_ := am_ (y0b bC_.out hb); replace bD_ := am_ (y0b bD_.out hb); replace bE_ := am_ (y0b bE_.out hb); replace bF_ := am_ (y0b bF_.out hb); replace bG_ := am_ (y0b bG_.out hb); replace HB := am_ (y09 HB.out hb); obtain ⟨f3, gR, f4, gS, f5, gT, f6, gU⟩ := b4_ bB_.out) | (go_at_call 19; (with_reducible refine (zql.calls k bX bY _ _ aK b4 true _ ?side1 ?side2 pN.out).mono ?_); (case side1 => exact ck_ (Kd.V_reads' aA.out).2.2); (case side2 => exact (Kd.V_reads' aA.out).2.1); rintro e p9 ⟨rfl, hb⟩; replace aA := am_ (Kd.V_below aA.out hb); replace aB := am_ (Kd.V_below aB.out hb); replace aC := am_ (Kd.V_below aC.out hb); replace aD := am_ (Kd.V_below aD.out hb); replace aE := am_ (Kd.V_below aE.out hb); replace aQ := am_ (Kd.V_below aQ.out hb); replace bA_ := am_ (y0b bA_.out hb); replace bB_ := am_ (y0b bB_.out hb); replace bC_ := am_ (y0b bC_.out hb); replace bD_ := am_ (y0b bD_.out hb); replace bE_ := am_ (y0b bE_.out hb); replace bF_ := am_ (y0b bF_.out hb); replace bG_ := am_ (y0b bG_.out hb); replace HB := am_ (y09 HB.out hb); obtain ⟨f7, gV, f8, gW, f9, gX, gA, gY⟩ := b4_ bD_.out) | (go_at_call 19; (with_reducible refine (zql.calls k b0 b3 _ _ aM b7 true _ ?side1 ?side2 pO.out).mono ?_); (case side1 => exact ck_ (Kd.V_reads' aC.out).2.2); (case side2 => exact (Kd.V_reads' aC.out).2.1); rintro e qA ⟨rfl, hb⟩; replace aA := am_ (Kd.V_below aA.out hb); replace aB := am_ (Kd.V_below aB.out hb); replace aC := am_ (Kd.V_below aC.out hb); replace aD := am_ (Kd.V_below aD.out hb); replace aE := am_ (Kd.V_below aE.out hb); replace aQ := am_ (Kd.V_below aQ.out hb); replace bA_ := am_ (y0b bA_.out hb); replace bB_ := am_ (y0b bB_.out hb); replace bC_ := am_ (y0b bC_.out hb); replace bD_ := am_ (y0b bD_.out hb); replace bE_ := am_ (y0b bE_.out hb); replace bF_ := am_ (y0b bF_.out hb); replace bG_ := am_ (y0b bG_.out hb); replace HB := am_ (y09 HB.out hb); obtain ⟨gB, gZ, gC, g0, gD, g1, gE, g2⟩ := b4_ bF_.out) | (go_at_call 19; (with_reducible refine (zql.calls k cN cO _ _ b8 cR true _ ?side1 ?side2 pP.out).mono ?_); (case side1 => exact ck_ (Kd.V_reads' aE.out).2.2); (case side2 => exact (Kd.V_reads' aE.out).2.1); rintro e qB ⟨rfl, hb⟩; replace aA := am_ (Kd.V_below aA.out hb); replace aB := am_ (Kd.V_below aB.out hb); replace aC := am_ (Kd.V_below aC.out hb); replace aD := am_ (Kd.V_below aD.out hb); replace aE := am_ (Kd.V_below aE.out hb); replace aQ := am_ (Kd.V_below aQ.out hb); replace bA_ := am_ (y0b bA_.out hb); replace bB_ := am_ (y0b bB_.out hb); replace bC_ := am_ (y0b bC_.out hb); replace bD_ := am_ (y0b bD_.out hb); replace bE_ := am_ (y0b bE_.out hb); replace bF_ := am_ (y0b bF_.out hb); replace bG_ := am_ (y0b bG_.out hb); replace HB := am_ (y09 HB.out hb)) | (go_at_call 11; (with_reducible refine (zq7.calls k  e8 _ pQ.out).mono ?_); rintro e qC ⟨rfl, hb⟩; replace aA := am_ (Kd.V_below aA.out hb); replace aB := am_ (Kd.V_below aB.out hb); replace aC := am_ (Kd.V_below aC.out hb); replace aD := am_ (Kd.V_below aD.out hb); replace aE := am_ (Kd.V_below aE.out hb); replace aQ := am_ (Kd.V_below aQ.out hb); replace bA_ := am_ (y0b bA_.out hb); replace bB_ := am_ (y0b bB_.out hb); replace bC_ := am_ (y0b bC_.out hb); replace bD_ := am_ (y0b bD_.out hb); replace bE_ := am_ (y0b bE_.out hb); replace bF_ := am_ (y0b bF_.out hb); replace bG_ := am_ (y0b bG_.out hb); replace HB := am_ (y09 HB.out hb)))
 go_ret
 exact ⟨ew_, hb_⟩
end Go.Proofs.Ytgcmhfoegbaaiaa.K
end
