/- Lemmas for several laws: what their proofs need of this seat's texts, in one place. -/
import Derived.Test.YtenlmckahaniiaaZcLe17
import Derived.Test.YtenlmckahaniiaaZcLe20
set_option linter.unusedVariables false
set_option linter.unusedSimpArgs false
set_option linter.unusedSectionVars false
section
namespace Go.Proofs.Ytenlmckahaniiaa.Lb
open Go Go.RowKit Go.Proofs.Ytenlmckahaniiaa.K Go.Proofs.YtW.P Go.Proofs.YtW.M Go.Proofs.Ytenlmckahaniiaa.MyBits Go.Proofs.Ytenlmckahaniiaa.MyStr Go.Proofs.Ytenlmckahaniiaa.Oct Go.Proofs.Ytenlmckahaniiaa.Obj
theorem Ev.is {α : Type} {o : Option α} {r : α} (h : o = some r) : Ev (fun _ => o) r := h ▸ Ev.now r
theorem y38 (a0 a1 a2 : ByteArray) : zqe.f a0 a1 a2 = some (a0, (⟨#[0, 0]⟩ : ByteArray), nB_, 0, (if bs a1 = [] then [] else [(⟨a1, 1, 0, true⟩ : S62)]), (if bs a2 = [] then [] else [(⟨1, 0, 4, a2, false⟩ : S43)])) := by
  unfold zqe.f
  rw [y5i, y5i]
  by_cases h1 : bs a1 = [] <;> by_cases h2 : bs a2 = [] <;> simp [h1, h2]
def mk0 (a0 a1 a2 : ByteArray) : S25 := ⟨a0, ⟨#[0, 0]⟩, ⟨#[]⟩, 0, (if bs a1 = [] then [] else [(⟨a1, 1, 0, true⟩ : S62)]), (if bs a2 = [] then [] else [(⟨1, 0, 4, a2, false⟩ : S43)])⟩
def mP : S25 := mk0 ⟨#[112]⟩ ⟨#[112, 117, 116]⟩ ⟨#[98, 117, 102]⟩
def mB : S25 := mk0 ⟨#[98]⟩ ⟨#[98, 117, 102]⟩ ⟨#[]⟩
def mX : S25 := mk0 ⟨#[120]⟩ ⟨#[]⟩ ⟨#[]⟩
def mB2 : S25 := mk0 ⟨#[98]⟩ ⟨#[98, 117, 102, 102, 101, 114]⟩ ⟨#[]⟩
def mM : S25 := mk0 ⟨#[109]⟩ ⟨#[]⟩ ⟨#[112, 117, 116]⟩
def mN : S25 := mk0 ⟨#[109]⟩ ⟨#[]⟩ ⟨#[]⟩
def lib3 : List S25 := [mP, mB, mX]
def smB (x : S25) : Bool := decide (x.f0.size ≤ 100) && decide (x.f1.size ≤ 600) && decide (x.f2.size ≤ 600) && decide (x.f4.length ≤ 40) && decide (x.f5.length ≤ 40) && x.f4.all (fun s => decide (s.f0.size ≤ 100)) && x.f5.all (fun s => decide (s.f3.size ≤ 100))
theorem smB_is {x : S25} (h : smB x = true) : SmM x := by
  unfold smB at h
  simp only [Bool.and_eq_true, decide_eq_true_eq, List.all_eq_true] at h
  obtain ⟨⟨⟨⟨⟨⟨h0, h1⟩, h2⟩, h4⟩, h5⟩, s4⟩, s5⟩ := h
  exact ⟨h0, h1, h2, h4, h5, s4, s5⟩
theorem smL {l : List S25} (h : l.all smB = true) : ∀ x ∈ l, SmM x := fun x hx => smB_is (List.all_eq_true.1 h x hx)
theorem chkL {l : List S25} (h : l.all smB = true) {c : Int} (hc : libC l = c) : Ev (fun k => zq1g.f k l) c := hc ▸ y30 l (smL h)
theorem lib3_sm : lib3.all smB = true := by decide +kernel
theorem lib3_ok : libC lib3 = 0 := by decide +kernel
theorem find_buf : zq1m.f lib3 ⟨#[98, 117, 102]⟩ = some (1, true) := by rw [find_is]; exact congrArg some (by decide +kernel)
theorem find_get : zq1m.f lib3 ⟨#[103, 101, 116]⟩ = some (0, false) := by rw [find_is]; exact congrArg some (by decide +kernel)
theorem idx_b : idxF (pNam ⟨#[98]⟩) lib3 = 1 := by
  rw [show pNam ⟨#[98]⟩ = fun x : S25 => bs x.f0 == [98] from funext fun x => y3r _ x]
  decide +kernel
def rep3 : List S25 := [mP, mB2, mX]
theorem repl3 : Ev (fun k => zq1a.f k lib3 mB2.f0 mB2.f1 mB2.f2 mB2.f3 mB2.f4 mB2.f5) (rep3, 0) := by
  unfold zq1a.f
  refine Ev.congr (fun k => if_pos (by decide)) ?_
  refine Ev.bind (show Ev (fun _ => some lib3) lib3 from Ev.now lib3) ?_
  refine Ev.bind (show Ev (fun k => zq1y.f k lib3 mB2.f0) 1 from Ev.is (by show some (idxF (pNam ⟨#[98]⟩) lib3) = some 1; rw [idx_b])) ?_
  refine Ev.congr (fun k => by rw [if_pos (by decide), if_pos (by decide), if_pos (by decide)]) ?_
  refine Ev.bind (show Ev (fun _ => some rep3) rep3 from Ev.now rep3) ?_
  refine Ev.bind (chkL (l := rep3) (c := 0) (by decide +kernel) (by decide +kernel)) ?_
  exact Ev.congr (fun k => if_pos rfl) (Ev.now _)
theorem enc3_is : Ev (fun k => zq1d.f k lib3) (mkS (seal_ (lbody lib3)), 0) := lenc_is lib3 (smL lib3_sm) lib3_ok
theorem dec3_is : Ev (fun k => zq1c.f k (mkS (seal_ (lbody lib3)))) (lib3, 0) := ldec_is lib3 (smL lib3_sm) lib3_ok
theorem ndM_nil {x : S25} (h : x.f5 = []) : ndM x = [] := by
  have h1 := y3d x.f5
  rw [h] at h1
  unfold ndM
  rw [h]
  exact List.eq_nil_of_length_eq_zero (by have : ([] : List S43).length = 0 := rfl; omega)
theorem y3b {x : S25} {s : S43} (h : x.f5 = [s]) (h4 : s.f2 = 4) : ndM x = [bs s.f3] := by
  unfold ndM
  rw [h]
  refine Asc.unique (y3c _) (by unfold Asc; simp) (fun y => ?_)
  rw [y3e]
  unfold extL
  simp [h4]
theorem needs_mM : [mM].flatMap ndM = [[112, 117, 116]] := by
  rw [List.flatMap_cons, y3b (x := mM) (s := ⟨1, 0, 4, ⟨#[112, 117, 116]⟩, false⟩) (by kernel_rfl) rfl]; rfl
theorem needs_mMP : [mM, mP].flatMap ndM = [[112, 117, 116], [98, 117, 102]] := by
  rw [List.flatMap_cons, List.flatMap_cons, y3b (x := mM) (s := ⟨1, 0, 4, ⟨#[112, 117, 116]⟩, false⟩) (by kernel_rfl) rfl, y3b (x := mP) (s := ⟨1, 0, 4, ⟨#[98, 117, 102]⟩, false⟩) (by kernel_rfl) rfl]; rfl
theorem needs_mMPB : [mM, mP, mB].flatMap ndM = [[112, 117, 116], [98, 117, 102]] := by
  rw [List.flatMap_cons, List.flatMap_cons, List.flatMap_cons, y3b (x := mM) (s := ⟨1, 0, 4, ⟨#[112, 117, 116]⟩, false⟩) (by kernel_rfl) rfl, y3b (x := mP) (s := ⟨1, 0, 4, ⟨#[98, 117, 102]⟩, false⟩) (by kernel_rfl) rfl, ndM_nil (x := mB) (by kernel_rfl)]; rfl
theorem needs_mN : [mN].flatMap ndM = [] := by
  rw [List.flatMap_cons, ndM_nil (x := mN) (by kernel_rfl)]; rfl
theorem nx1 : nxt lib3 [mM] = 0 := by unfold nxt; rw [needs_mM]; decide +kernel
theorem nx2 : nxt lib3 [mM, mP] = 1 := by unfold nxt; rw [needs_mMP]; decide +kernel
theorem nx3 : nxt lib3 [mM, mP, mB] = -1 := by unfold nxt; rw [needs_mMPB]; decide +kernel
theorem nx0 : nxt lib3 [mN] = -1 := by unfold nxt; rw [needs_mN]; decide +kernel
theorem sel1 : selR lib3 [mM] = [0, 1] := by
  show sel lib3 (3 + 1) [mM] [] = _
  rw [y52, nx1, if_pos (by decide)]
  show sel lib3 (2 + 1) [mM, mP] [0] = _
  rw [y52, nx2, if_pos (by decide)]
  show sel lib3 (1 + 1) [mM, mP, mB] [0, 1] = _
  rw [y52, nx3, if_neg (by decide)]
theorem sel0 : selR lib3 [mN] = [] := by
  show sel lib3 (3 + 1) [mN] [] = _
  rw [y52, nx0, if_neg (by decide)]
theorem sel1_is : Ev (fun k => zq1e.f k lib3 [mM]) [0, 1] := sel1 ▸ select_is lib3 [mM] (by decide) (by decide) (by decide +kernel) (by decide +kernel)
theorem sel0_is : Ev (fun k => zq1e.f k lib3 [mN]) [] := sel0 ▸ select_is lib3 [mN] (by decide) (by decide) (by decide +kernel) (by decide +kernel)
theorem same08_l0 (xs : List Int) (hn : xs.length ≤ 1000000) (d : Nat) : ∀ i : Nat, i + d = xs.length → Ev (fun k => zqw.l0 k xs xs (i : Int)) true := by
  induction d with
  | zero => intro i hi; exact Ev.step (f := fun _ => some true) (fun k => by rw [zqw.l0, if_neg (by omega)]) (Ev.now _)
  | succ d ih => intro i hi; exact Ev.step (fun k => by rw [zqw.l0, if_pos (by omega), if_pos (by omega), if_pos (by omega), if_pos rfl, Obj.i64_nat i (by omega)]) (ih (i + 1) (by omega))
theorem same08_is (xs : List Int) (hn : xs.length ≤ 1000000) : Ev (fun k => zqw.f k xs xs) true := by
  unfold zqw.f
  exact Ev.congr (fun k => if_pos rfl) (same08_l0 xs hn xs.length 0 (by omega))
theorem sameM_l1 (x : S25) (hn : x.f5.length ≤ 1000000) (d : Nat) : ∀ i : Nat, i + d = x.f5.length → Ev (fun k => zq7.l1 k (i : Int) x.f0 x.f1 x.f2 x.f3 x.f4 x.f5 x.f0 x.f1 x.f2 x.f3 x.f4 x.f5) true := by
  induction d with
  | zero => intro i hi; exact Ev.step (f := fun _ => some true) (fun k => by rw [zq7.l1, if_neg (by omega)]) (Ev.now _)
  | succ d ih => intro i hi; exact Ev.step (fun k => by rw [zq7.l1, if_pos (by omega), if_pos (by omega), if_pos (by omega), if_neg (by simp), Obj.i64_nat i (by omega)]) (ih (i + 1) (by omega))
theorem sameM_l0 (x : S25) (hn : x.f4.length ≤ 1000000) (hn5 : x.f5.length ≤ 1000000) (d : Nat) : ∀ i : Nat, i + d = x.f4.length → Ev (fun k => zq7.l0 k (i : Int) x.f0 x.f1 x.f2 x.f3 x.f4 x.f5 x.f0 x.f1 x.f2 x.f3 x.f4 x.f5) true := by
  induction d with
  | zero => intro i hi; exact Ev.step (f := fun k => zq7.l1 k 0 x.f0 x.f1 x.f2 x.f3 x.f4 x.f5 x.f0 x.f1 x.f2 x.f3 x.f4 x.f5) (fun k => by rw [zq7.l0, if_neg (by omega)]) (sameM_l1 x hn5 x.f5.length 0 (by omega))
  | succ d ih => intro i hi; exact Ev.step (fun k => by rw [zq7.l0, if_pos (by omega), if_pos (by omega), if_pos (by omega), if_neg (by simp), Obj.i64_nat i (by omega)]) (ih (i + 1) (by omega))
theorem sameM_is (x : S25) (hn : x.f4.length ≤ 1000000) (hn5 : x.f5.length ≤ 1000000) : Ev (fun k => zq7.f k x.f0 x.f1 x.f2 x.f3 x.f4 x.f5 x.f0 x.f1 x.f2 x.f3 x.f4 x.f5) true := by
  unfold zq7.f
  refine Ev.congr (fun k => by rw [if_pos rfl, if_pos rfl, if_pos rfl, if_pos rfl, if_pos rfl]) ?_
  exact Ev.step (f := fun k => zq7.l0 k 0 x.f0 x.f1 x.f2 x.f3 x.f4 x.f5 x.f0 x.f1 x.f2 x.f3 x.f4 x.f5) (fun k => by rw [zq7.j0, if_neg (by simp)]) (sameM_l0 x hn hn5 x.f4.length 0 (by omega))
theorem same29_l0 (l : List S25) (hl : l.length ≤ 1000000) (hs : ∀ x ∈ l, x.f4.length ≤ 1000000 ∧ x.f5.length ≤ 1000000) (d : Nat) : ∀ i : Nat, i + d = l.length → Ev (fun k => zqz.l0 k l l (i : Int)) true := by
  induction d with
  | zero => intro i hi; exact Ev.step (f := fun _ => some true) (fun k => by rw [zqz.l0, if_neg (by omega)]) (Ev.now _)
  | succ d ih =>
    intro i hi
    have hlt : i < l.length := by omega
    obtain ⟨h4, h5⟩ := hs l[i] (List.getElem_mem hlt)
    refine Ev.step (f := fun k => (zq7.f k l[i].f0 l[i].f1 l[i].f2 l[i].f3 l[i].f4 l[i].f5 l[i].f0 l[i].f1 l[i].f2 l[i].f3 l[i].f4 l[i].f5).bind fun t => if t = true then zqz.l0 k l l ((i + 1 : Nat) : Int) else some false) (fun k => by rw [zqz.l0, if_pos (by omega), if_pos (by omega), if_pos (by omega), rd25 l i hlt, Obj.i64_nat i (by omega)]) ?_
    refine Ev.bind (sameM_is l[i] h4 h5) ?_
    exact Ev.congr (fun k => if_pos rfl) (ih (i + 1) (by omega))
theorem y4z (l : List S25) (hl : l.length ≤ 1000000) (hs : ∀ x ∈ l, x.f4.length ≤ 1000000 ∧ x.f5.length ≤ 1000000) : Ev (fun k => zqz.f k l l) true := by
  unfold zqz.f
  exact Ev.congr (fun k => if_pos rfl) (same29_l0 l hl hs l.length 0 (by omega))
theorem alive_is : Ev (fun k => zqm.f k) true := by
  unfold zqm.f
  refine Ev.bind (Ev.is (y38 _ _ _)) ?_
  refine Ev.bind (Ev.is (y38 _ _ _)) ?_
  refine Ev.bind (Ev.is (y38 _ _ _)) ?_
  refine Ev.bind (show Ev (fun _ => some lib3) lib3 from Ev.now lib3) ?_
  refine Ev.bind (Ev.is find_buf) ?_
  refine Ev.bind (Ev.is find_get) ?_
  refine Ev.bind (Ev.is (y38 _ _ _)) ?_
  refine Ev.bind repl3 ?_
  refine Ev.bind enc3_is ?_
  refine Ev.bind dec3_is ?_
  refine Ev.congr (fun k => by rw [if_pos rfl, if_pos (by decide), if_pos (by decide), if_pos (by decide +kernel), if_pos rfl, if_pos rfl]) ?_
  refine Ev.bind (Ev.is (y38 _ _ _)) ?_
  refine Ev.bind sel1_is ?_
  refine Ev.bind (same08_is [0, 1] (by decide)) ?_
  refine Ev.congr (fun k => if_pos rfl) ?_
  refine Ev.bind (Ev.is (y38 _ _ _)) ?_
  refine Ev.bind sel0_is ?_
  refine Ev.congr (fun k => by rw [if_pos (by decide), if_pos rfl, if_pos rfl, if_neg (by decide), if_pos (by decide +kernel), if_pos (by rw [y5i]; decide +kernel)]) ?_
  refine Ev.bind (y4z lib3 (by decide) (by decide +kernel)) ?_
  refine Ev.congr (fun k => by rw [if_pos rfl, if_pos (by decide)]) ?_
  refine Ev.bind (chkL (l := [mB, mB]) (c := 6) (by decide +kernel) (by decide +kernel)) ?_
  refine Ev.congr (fun k => if_pos rfl) ?_
  refine Ev.bind (chkL lib3_sm lib3_ok) ?_
  exact Ev.now _
theorem alive_end : Ev (fun k => (zqm.f k).bind fun t => some t) true := Ev.bind alive_is (Ev.now true)
end Go.Proofs.Ytenlmckahaniiaa.Lb
end
section
namespace Go.Proofs.Ytenlmckahaniiaa.Obj
open Go Go.RowKit Go.Proofs.Ytenlmckahaniiaa.K Go.Proofs.YtW.P Go.Proofs.YtW.M Go.Proofs.Ytenlmckahaniiaa.MyBits Go.Proofs.Ytenlmckahaniiaa.MyStr Go.Proofs.Ytenlmckahaniiaa.Oct
theorem rname_step (k : Nat) (s : ByteArray) (i : Int) (h0 : 0 ≤ i) (h1 : i < (s.size : Int)) :
    zqh.l0 (k + 1) s i = if okc (bt s i) = true then zqh.l0 k s (wrap64 (i + 1)) else some false := by
  rw [zqh.l0, if_pos h1, if_pos h0]
  generalize bt s i = c at *
  unfold okc
  simp only [Bool.or_eq_true, Bool.and_eq_true, decide_eq_true_eq]
  repeat' split
  all_goals first
    | rfl
    | (exfalso; omega)
theorem rname_loop (s : ByteArray) (hl : s.size < 9223372036854775807) (d : Nat) : ∀ i : Nat, i + d = s.size → Ev (fun k => zqh.l0 k s (i : Int)) (((ints (bs s)).drop i).all okc) := by
  induction d with
  | zero =>
    intro i hi
    refine Ev.step (f := fun _ => some true) (fun k => by rw [zqh.l0, if_neg (by omega)]) ?_
    rw [List.drop_eq_nil_of_le (by rw [y2l, y0z]; omega)]
    exact Ev.now _
  | succ d ih =>
    intro i hi
    have hb : i < (bs s).length := by rw [y0z]; omega
    obtain ⟨e, r0, r1⟩ := rd_ints (bs s) i hb
    have e2 : bt s (i : Int) = rd (ints (bs s)) (i : Int) := by rw [bt_bs, e]; simp
    refine Ev.step (f := fun k => if okc (rd (ints (bs s)) (i : Int)) = true then zqh.l0 k s ((i + 1 : Nat) : Int) else some false) (fun k => by rw [rname_step k _ _ (by omega) (by omega), i64_nat i (by omega), e2]) ?_
    rw [drop_all _ _ _ (by rw [y2l]; exact hb)]
    refine Ev.ite (fun h => ?_) (fun h => ?_)
    · rw [h, Bool.true_and]
      exact ih (i + 1) (by omega)
    · rw [Bool.not_eq_true] at h
      rw [h, Bool.false_and]
      exact Ev.now _
theorem rname_is (s : ByteArray) (hs : s.size ≤ 9223372036854775806) : Ev (fun k => zqh.f k s) (isNm s) := by
  have hall : Ev (fun k => zqh.j0 k s false) ((ints (bs s)).all okc) :=
    Ev.step (f := fun k => zqh.l0 k s 0) (fun k => by rw [zqh.j0, if_neg (by decide)]) (by have := rname_loop s (by omega) s.size 0 (by omega); simpa using this)
  have hno : Ev (fun k => zqh.j0 k s true) false := Ev.step (f := fun _ => some false) (fun k => by rw [zqh.j0, if_pos rfl]) (Ev.now _)
  unfold zqh.f isNm nameL
  refine Ev.ite (fun h => ?_) (fun h => ?_)
  · rw [y5j] at h
    rw [h]; exact hno
  · rw [y5j] at h
    have hp : 0 < s.size := by rw [← y0z]; exact List.length_pos_iff.2 h
    rw [decide_eq_true h, Bool.true_and, y0z]
    refine Ev.ite (fun h1 => ?_) (fun h1 => ?_)
    · rw [decide_eq_false (show ¬ s.size ≤ 14 by omega)]; exact hno
    · rw [decide_eq_true (show s.size ≤ 14 by omega), Bool.true_and, ← show bt s 0 = byteAt (bs s) 0 from bt_bs s 0]
      refine Ev.congr (fun k => if_pos (by omega)) ?_
      refine Ev.ite (fun h2 => ?_) (fun h2 => ?_)
      · rw [decide_eq_true (show 48 ≤ bt s 0 from h2), Bool.true_and]
        by_cases h3 : bt s 0 ≤ 57
        · rw [decide_eq_true h3]; exact hno
        · rw [decide_eq_false h3]; exact hall
      · rw [decide_eq_false (show ¬ 48 ≤ bt s 0 from h2), Bool.false_and]; exact hall
theorem word_is (n : Int) : zqx.f n = some (decide (0 ≤ n) && decide (n ≤ 65535)) := by
  unfold zqx.f
  by_cases h : n ≥ 0
  · rw [if_pos h, decide_eq_true (show 0 ≤ n from h)]; rfl
  · rw [if_neg h, decide_eq_false (show ¬ 0 ≤ n from h)]; rfl
theorem rsyms_tail (l : List S62) (hn : l.length ≤ 1000000) (i : Nat) (h : i < l.length) (r : Int) (hr : Ev (fun k => zqb.l0 k l ((i + 1 : Nat) : Int)) r) (d : Nat) : ∀ j : Nat, j + d = i →
    Ev (fun k => zqb.l1 k l (i : Int) (j : Int)) (if bs l[i].f0 ∈ namesOf ((l.take i).drop j) then 6 else if symOk l[i] = true then r else 2) := by
  induction d with
  | zero =>
    intro j hj
    obtain rfl : j = i := by omega
    rw [List.drop_eq_nil_of_le (by rw [List.length_take]; omega)]
    rw [if_neg (by simp [namesOf])]
    refine Ev.step (f := fun k => if l[j].f1 < 0 then some 2 else if l[j].f1 > 3 then some 2 else if (decide (0 ≤ l[j].f2) && decide (l[j].f2 ≤ 65535)) = true then zqb.l0 k l ((j + 1 : Nat) : Int) else some 2) (fun k => ?_) ?_
    · rw [zqb.l1, if_neg (by omega), if_pos (by omega), if_pos (by omega), rd62 l j h, word_is, Option.bind_some, i64_nat j (by omega)]
    · have e := symOk_iff l[j]
      refine Ev.ite (fun h1 => ?_) (fun h1 => Ev.ite (fun h2 => ?_) (fun h2 => Ev.ite (fun h3 => ?_) (fun h3 => ?_)))
      · rw [if_neg (by rw [e]; omega)]; exact Ev.now _
      · rw [if_neg (by rw [e]; omega)]; exact Ev.now _
      · simp only [Bool.and_eq_true, decide_eq_true_eq] at h3
        rw [if_pos (by rw [e]; omega)]; exact hr
      · simp only [Bool.and_eq_true, decide_eq_true_eq] at h3
        rw [if_neg (by rw [e]; omega)]; exact Ev.now _
  | succ d ih =>
    intro j hj
    have hjl : j < l.length := by omega
    have hc : (l.take i).drop j = l[j] :: (l.take i).drop (j + 1) := by
      rw [List.drop_eq_getElem_cons (by rw [List.length_take]; omega), List.getElem_take]
    refine Ev.step (f := fun k => if bs l[j].f0 = bs l[i].f0 then some 6 else zqb.l1 k l (i : Int) ((j + 1 : Nat) : Int)) (fun k => ?_) ?_
    · rw [zqb.l1, if_pos (by omega), if_pos (by omega), if_pos (by omega), if_pos (by omega), if_pos (by omega), rd62 l j hjl, rd62 l i h, y5i, y5i, i64_nat j (by omega)]
    · rw [hc]
      refine Ev.ite (fun h1 => ?_) (fun h1 => ?_)
      · rw [if_pos (by simp [namesOf, h1])]; exact Ev.now _
      · have := ih (j + 1) (by omega)
        have e : (bs l[i].f0 ∈ namesOf (l[j] :: (l.take i).drop (j + 1))) = (bs l[i].f0 ∈ namesOf ((l.take i).drop (j + 1))) := by
          unfold namesOf
          rw [List.map_cons, List.mem_cons]
          simp [show ¬ bs l[i].f0 = bs l[j].f0 from fun e => h1 e.symm]
        simp only [e]
        exact this
theorem rsyms_loop (l : List S62) (hn : l.length ≤ 1000000) (hf : Fine62 l) (d : Nat) : ∀ (i : Nat), i + d = l.length → Ev (fun k => zqb.l0 k l (i : Int)) (symsR (namesOf (l.take i)) (l.drop i)) := by
  induction d with
  | zero =>
    intro i hi
    rw [List.drop_eq_nil_of_le (by omega)]
    exact Ev.step (f := fun _ => some 0) (fun k => by rw [zqb.l0, if_neg (by omega)]) (Ev.now _)
  | succ d ih =>
    intro i hi
    have hlt : i < l.length := by omega
    have h1 := ih (i + 1) (by omega)
    have h2 := rsyms_tail l hn i hlt _ h1 i 0 (by omega)
    rw [List.drop_zero] at h2
    rw [List.drop_eq_getElem_cons hlt]
    unfold symsR
    refine Ev.step (f := fun k => (zqh.f k l[i].f0).bind fun t => (if t = true then zqb.l1 k l (i : Int) 0 else some 4)) (fun k => ?_) ?_
    · rw [zqb.l0, if_pos (by omega), if_pos (by omega), rd62 l i hlt]
    · refine Ev.bind (rname_is _ (hf _ (List.getElem_mem hlt))) ?_
      refine Ev.ite (fun h => ?_) (fun h => ?_)
      · rw [if_pos h]
        have e : namesOf (l.take (i + 1)) = namesOf (l.take i) ++ [bs l[i].f0] := by
          unfold namesOf; rw [List.take_succ_eq_append_getElem hlt, List.map_append]; rfl
        rw [e] at h2
        exact h2
      · rw [if_neg h]; exact Ev.now _
theorem rsyms_is (l : List S62) (hn : l.length ≤ 1000000) (hf : Fine62 l) : Ev (fun k => zqb.f k l) (symsR [] l) := by
  have := rsyms_loop l hn hf l.length 0 (by omega)
  rw [List.drop_zero] at this
  exact this
theorem rrel_j3 (x : S43) (hs : x.f3.size ≤ 9223372036854775806) (b : Bool) : Ev (fun k => zqp.j3 k b x.f0 x.f1 x.f2 x.f3 x.f4) (if b = true then 2 else if x.f2 = 4 then (if isNm x.f3 = true then 0 else 4) else (if bs x.f3 = [] then 0 else 4)) := by
  refine Ev.step (f := fun k => if b = true then some 2 else (if x.f2 = 4 then ((zqh.f k x.f3).bind fun t => (if t = true then some 0 else some 4)) else (if bs x.f3 = [] then some 0 else some 4))) (fun k => by rw [zqp.j3, y5i]) ?_
  refine Ev.ite (fun h => ?_) (fun h => ?_)
  · rw [if_pos h]; exact Ev.now _
  · rw [if_neg h]
    refine Ev.ite (fun h => ?_) (fun h => ?_)
    · rw [if_pos h]
      refine Ev.bind (rname_is _ hs) ?_
      refine Ev.ite (fun h => ?_) (fun h => ?_)
      · rw [if_pos h]; exact Ev.now _
      · rw [if_neg h]; exact Ev.now _
    · rw [if_neg h]
      refine Ev.ite (fun h => ?_) (fun h => ?_)
      · rw [if_pos h]; exact Ev.now _
      · rw [if_neg h]; exact Ev.now _
theorem rrel_j2 (x : S43) (hs : x.f3.size ≤ 9223372036854775806) (b : Bool) : Ev (fun k => zqp.j2 k b x.f0 x.f1 x.f2 x.f3 x.f4) (if b = true then 2 else if x.f2 < 0 ∨ x.f2 > 4 ∨ (x.f2 = 0 ∧ x.f4 = false) then 2 else if x.f2 = 4 then (if isNm x.f3 = true then 0 else 4) else (if bs x.f3 = [] then 0 else 4)) := by
  have e := fun b' => rrel_j3 x hs b'
  refine Ev.step (fun k => by rw [zqp.j2]) ?_
  refine Ev.ite (fun h => ?_) (fun h => ?_)
  · rw [if_pos h]; exact Ev.now _
  · rw [if_neg h]
    refine Ev.ite (fun h => ?_) (fun h => Ev.ite (fun h2 => ?_) (fun h2 => Ev.ite (fun h3 => ?_) (fun h3 => ?_)))
    · rw [if_pos (by omega)]; exact e true
    · rw [if_pos (by omega)]; exact e true
    · cases h4 : x.f4 with
      | true => rw [if_neg (by simp; omega)]; simpa [h4] using e false
      | false => rw [if_pos (by simp [h3])]; simpa [h4] using e true
    · rw [if_neg (by omega)]; exact e false
theorem rrel_j1 (x y : S43) (hs : x.f3.size ≤ 9223372036854775806) (b : Bool) : Ev (fun k => zqp.j1 k b x.f0 x.f1 x.f2 x.f3 x.f4 y.f0 y.f1 y.f2 y.f3 y.f4) (if b = true then 2 else if x.f0 < y.f0 ∨ (x.f0 = y.f0 ∧ x.f1 ≤ y.f1) then 2 else if x.f2 < 0 ∨ x.f2 > 4 ∨ (x.f2 = 0 ∧ x.f4 = false) then 2 else if x.f2 = 4 then (if isNm x.f3 = true then 0 else 4) else (if bs x.f3 = [] then 0 else 4)) := by
  have e := fun b' => rrel_j2 x hs b'
  refine Ev.step (fun k => by rw [zqp.j1]) ?_
  refine Ev.ite (fun h => ?_) (fun h => ?_)
  · rw [if_pos h]; exact Ev.now _
  · rw [if_neg h]
    refine Ev.ite (fun h => ?_) (fun h => Ev.ite (fun h2 => ?_) (fun h2 => ?_))
    · rw [if_pos (by omega)]; exact e true
    · by_cases h3 : x.f1 ≤ y.f1
      · rw [if_pos (by omega), decide_eq_true (show y.f1 ≥ x.f1 from h3)]; exact e true
      · rw [if_neg (by omega), decide_eq_false (show ¬ y.f1 ≥ x.f1 from h3)]; exact e false
    · rw [if_neg (by omega)]; exact e false
theorem rrel_j0 (sz : Int) (x y : S43) (hs : x.f3.size ≤ 9223372036854775806) : Ev (fun k => zqp.j0 k sz x.f0 x.f1 x.f2 x.f3 x.f4 y.f0 y.f1 y.f2 y.f3 y.f4) (if x.f0 ≠ 1 ∧ x.f0 ≠ 2 then 2 else relT sz x y) := by
  have e := fun b' => rrel_j1 x y hs b'
  unfold relT
  refine Ev.step (fun k => by rw [zqp.j0]) ?_
  have key : ∀ (q : Prop) [Decidable q], ¬ (x.f0 ≠ 1 ∧ x.f0 ≠ 2) → Ev (fun k => if x.f1 < 0 then zqp.j1 k true x.f0 x.f1 x.f2 x.f3 x.f4 y.f0 y.f1 y.f2 y.f3 y.f4 else (if (Int.tmod x.f1 2) = 0 then zqp.j1 k (decide (x.f1 > (wrap64 (sz - 2)))) x.f0 x.f1 x.f2 x.f3 x.f4 y.f0 y.f1 y.f2 y.f3 y.f4 else zqp.j1 k true x.f0 x.f1 x.f2 x.f3 x.f4 y.f0 y.f1 y.f2 y.f3 y.f4))
      (if x.f0 ≠ 1 ∧ x.f0 ≠ 2 then 2 else if x.f1 < 0 ∨ Int.tmod x.f1 2 ≠ 0 ∨ x.f1 > wrap64 (sz - 2) then 2 else if x.f0 < y.f0 ∨ (x.f0 = y.f0 ∧ x.f1 ≤ y.f1) then 2 else if x.f2 < 0 ∨ x.f2 > 4 ∨ (x.f2 = 0 ∧ x.f4 = false) then 2 else if x.f2 = 4 then (if isNm x.f3 = true then 0 else 4) else (if bs x.f3 = [] then 0 else 4)) := by
    intro q _ hq
    rw [if_neg hq]
    refine Ev.ite (fun h => ?_) (fun h => Ev.ite (fun h2 => ?_) (fun h2 => ?_))
    · rw [if_pos (by omega)]; exact e true
    · by_cases h3 : x.f1 > wrap64 (sz - 2)
      · rw [if_pos (by omega), decide_eq_true h3]; exact e true
      · rw [if_neg (by omega), decide_eq_false h3]; exact e false
    · rw [if_pos (by omega)]; exact e true
  refine Ev.ite (fun h => key True (by omega)) (fun h => Ev.ite (fun h2 => key True (by omega)) (fun h2 => ?_))
  rw [if_pos (by omega)]; exact e true
theorem rrel_is (a0 a1 a2 : ByteArray) (a3 : Int) (l4 : List S62) (l5 : List S43) (x y : S43) (hs : x.f3.size ≤ 9223372036854775806) :
    Ev (fun k => zqp.f k a0 a1 a2 a3 l4 l5 x.f0 x.f1 x.f2 x.f3 x.f4 y.f0 y.f1 y.f2 y.f3 y.f4) (relR (a1.size : Int) (a2.size : Int) x y) := by
  unfold zqp.f relR
  refine Ev.ite (fun h => ?_) (fun h => ?_)
  · rw [if_pos h]; exact rrel_j0 _ x y hs
  · rw [if_neg h]; exact rrel_j0 _ x y hs
theorem rcheck_l0 (a0 a1 a2 : ByteArray) (a3 : Int) (l4 : List S62) (l5 : List S43) (hn : l5.length ≤ 1000000) (hf : Fine43 l5) (d : Nat) : ∀ (i : Nat) (b : S43), i + d = l5.length →
    Ev (fun k => zqn.l0 k (i : Int) a0 a1 a2 a3 l4 l5 b.f0 b.f1 b.f2 b.f3 b.f4) (relsR (a1.size : Int) (a2.size : Int) b (l5.drop i)) := by
  induction d with
  | zero =>
    intro i b hi
    rw [List.drop_eq_nil_of_le (by omega)]
    exact Ev.step (f := fun _ => some 0) (fun k => by rw [zqn.l0, if_neg (by omega)]) (Ev.now _)
  | succ d ih =>
    intro i b hi
    have hlt : i < l5.length := by omega
    rw [List.drop_eq_getElem_cons hlt]
    unfold relsR
    refine Ev.step (fun k => by rw [zqn.l0, if_pos (by omega), if_pos (by omega), rd43 l5 i hlt, i64_nat i (by omega)]) ?_
    refine Ev.bind (rrel_is a0 a1 a2 a3 l4 l5 l5[i] b (hf _ (List.getElem_mem hlt))) ?_
    refine Ev.ite (fun h => ?_) (fun h => ?_)
    · rw [if_pos h]; exact ih (i + 1) l5[i] (by omega)
    · rw [if_neg h]; exact Ev.now _
theorem rcheck_j1 (a0 a1 a2 : ByteArray) (a3 : Int) (l4 : List S62) (l5 : List S43) (hf : Fine a0 l4 l5) (b : Bool) (h4 : l4.length ≤ 1000000) (h5 : l5.length ≤ 1000000) :
    Ev (fun k => zqn.j1 k b a0 a1 a2 a3 l4 l5) (if b = true then 1 else if symsR [] l4 = 0 then relsR (a1.size : Int) (a2.size : Int) b0 l5 else symsR [] l4) := by
  refine Ev.step (fun k => by rw [zqn.j1]) ?_
  refine Ev.ite (fun h => ?_) (fun h => ?_)
  · rw [if_pos h]; exact Ev.now _
  · rw [if_neg h]
    refine Ev.bind (rsyms_is l4 h4 hf.h4) ?_
    refine Ev.ite (fun h => ?_) (fun h => ?_)
    · rw [if_pos h]
      have := rcheck_l0 a0 a1 a2 a3 l4 l5 h5 hf.h5 l5.length 0 b0 (by omega)
      rw [List.drop_zero] at this
      exact this
    · rw [if_neg h]; exact Ev.now _
theorem rcheck_j0 (a0 a1 a2 : ByteArray) (a3 : Int) (l4 : List S62) (l5 : List S43) (hf : Fine a0 l4 l5) (b : Bool) (h4 : l4.length ≤ 1000000) (h5 : l5.length ≤ 1000000) :
    Ev (fun k => zqn.j0 k b a0 a1 a2 a3 l4 l5) (if b = true then 7 else if a1.size % 2 ≠ 0 ∨ a3 < 0 then 1 else if symsR [] l4 = 0 then relsR (a1.size : Int) (a2.size : Int) b0 l5 else symsR [] l4) := by
  have e := fun b => rcheck_j1 a0 a1 a2 a3 l4 l5 hf b h4 h5
  refine Ev.step (fun k => by rw [zqn.j0]) ?_
  refine Ev.ite (fun h => ?_) (fun h => ?_)
  · rw [if_pos h]; exact Ev.now _
  · rw [if_neg h]
    refine Ev.ite (fun h => ?_) (fun h => ?_)
    · by_cases h2 : a3 < 0
      · rw [if_pos (by omega), decide_eq_true h2]; exact e true
      · rw [if_neg (by omega), decide_eq_false h2]; exact e false
    · rw [if_pos (by omega)]; exact e true
theorem rcheck_is (a0 a1 a2 : ByteArray) (a3 : Int) (l4 : List S62) (l5 : List S43) (hf : Fine a0 l4 l5) (h4 : l4.length ≤ 1000000) (h5 : l5.length ≤ 1000000) :
    Ev (fun k => zqn.f k a0 a1 a2 a3 l4 l5) (checkR a0 a1 a2 a3 l4 l5) := by
  have e := fun b => rcheck_j0 a0 a1 a2 a3 l4 l5 hf b h4 h5
  unfold zqn.f checkR
  refine Ev.bind (rname_is a0 hf.h0) ?_
  refine Ev.ite (fun h => ?_) (fun h => ?_)
  · rw [if_pos h]
    refine Ev.ite (fun h => ?_) (fun h1 => Ev.ite (fun h => ?_) (fun h2 => Ev.ite (fun h => ?_) (fun h3 => Ev.ite (fun h => ?_) (fun h6 => ?_))))
    · rw [if_pos (by omega)]; exact e true
    · rw [if_pos (by omega)]; exact e true
    · rw [if_pos (by omega)]; exact e true
    · rw [if_pos (by omega)]; exact e true
    · by_cases h7 : (l5.length : Int) > 2048
      · rw [if_pos (by omega), decide_eq_true h7]; exact e true
      · rw [if_neg (by omega), decide_eq_false h7]; exact e false
  · rw [if_neg h]; exact Ev.now _
end Go.Proofs.Ytenlmckahaniiaa.Obj
end
section
namespace Go.Proofs.Ytenlmckahaniiaa.Lb
open Go Go.RowKit Go.Proofs.Ytenlmckahaniiaa.K Go.Proofs.YtW.P Go.Proofs.YtW.M Go.Proofs.Ytenlmckahaniiaa.MyBits Go.Proofs.Ytenlmckahaniiaa.MyStr Go.Proofs.Ytenlmckahaniiaa.Oct Go.Proofs.Ytenlmckahaniiaa.Obj
theorem rchk_is {x : S25} (h : OkM x) : Ev (fun k => zqn.f k x.f0 x.f1 x.f2 x.f3 x.f4 x.f5) (chk x) := rcheck_is x.f0 x.f1 x.f2 x.f3 x.f4 x.f5 h.fine h.n4 h.n5
theorem rlib_l1 (l : List S25) (hl : l.length ≤ 1000000) (i : Nat) (hlt : i < l.length) (r : Int) (hr : Ev (fun k => zqq.l0 k l ((i + 1 : Nat) : Int)) r) (d : Nat) : ∀ j : Nat, j + d = i → Ev (fun k => zqq.l1 k l (i : Int) (j : Int)) (if (nms ((l.take i).drop j)).any (fun n => n == bs l[i].f0) = true then 6 else r) := by
  induction d with
  | zero =>
    intro j hj
    rw [List.drop_eq_nil_of_le (by rw [List.length_take]; omega)]
    rw [if_neg (by simp [nms])]
    exact Ev.step (f := fun k => zqq.l0 k l ((i + 1 : Nat) : Int)) (fun k => by rw [zqq.l1, if_neg (by omega), Obj.i64_nat i (by omega)]) hr
  | succ d ih =>
    intro j hj
    have h := ih (j + 1) (by omega)
    have hjl : j < (l.take i).length := by rw [List.length_take]; omega
    have hj2 : j < l.length := by omega
    rw [List.drop_eq_getElem_cons hjl, List.getElem_take]
    unfold nms at h ⊢
    rw [List.map_cons, List.any_cons]
    refine Ev.step (f := fun k => if l[j].f0.toList = l[i].f0.toList then some 6 else zqq.l1 k l (i : Int) ((j + 1 : Nat) : Int)) (fun k => by rw [zqq.l1, if_pos (by omega), if_pos (by omega), if_pos (by omega), if_pos (by omega), if_pos (by omega), rd25 l j hj2, rd25 l i hlt, Obj.i64_nat j (by omega)]) ?_
    rw [y5i, y5i]
    by_cases h1 : bs l[j].f0 = bs l[i].f0
    · refine Ev.congr (fun k => if_pos h1) ?_
      rw [h1, beq_self_eq_true, Bool.true_or, if_pos rfl]; exact Ev.now _
    · refine Ev.congr (fun k => if_neg h1) ?_
      rw [beq_eq_false_iff_ne.2 h1, Bool.false_or]; exact h
theorem rlib_l0 (l : List S25) (hl : l.length ≤ 1000000) (hs : ∀ x ∈ l, OkM x) (d : Nat) : ∀ i : Nat, i + d = l.length → Ev (fun k => zqq.l0 k l (i : Int)) (libR (nms (l.take i)) (l.drop i)) := by
  induction d with
  | zero =>
    intro i hi
    rw [List.drop_eq_nil_of_le (by omega)]
    exact Ev.step (f := fun _ => some 0) (fun k => by rw [zqq.l0, if_neg (by omega)]) (Ev.now _)
  | succ d ih =>
    intro i hi
    have hlt : i < l.length := by omega
    have h := ih (i + 1) (by omega)
    rw [List.drop_eq_getElem_cons hlt]
    rw [show nms (l.take (i + 1)) = nms (l.take i) ++ [bs l[i].f0] by unfold nms; rw [List.take_succ_eq_append_getElem hlt, List.map_append]; rfl] at h
    unfold libR
    refine Ev.step (f := fun k => (zqn.f k l[i].f0 l[i].f1 l[i].f2 l[i].f3 l[i].f4 l[i].f5).bind fun t => if t = 0 then zqq.l1 k l (i : Int) 0 else some t) (fun k => by rw [zqq.l0, if_pos (by omega), if_pos (by omega), rd25 l i hlt]) ?_
    refine Ev.bind (rchk_is (hs l[i] (List.getElem_mem hlt))) ?_
    by_cases h0 : chk l[i] = 0
    · refine Ev.congr (fun k => if_pos h0) ?_
      rw [if_pos h0]
      have := rlib_l1 l hl i hlt _ h i 0 (by omega)
      rw [List.drop_zero] at this
      exact this
    · refine Ev.congr (fun k => if_neg h0) ?_
      rw [if_neg h0]; exact Ev.now _
theorem y4n (l : List S25) (hl : l.length ≤ 1000000) (hs : ∀ x ∈ l, OkM x) : Ev (fun k => zqq.f k l) (libC l) := by
  unfold zqq.f libC
  by_cases h : (l.length : Int) > 32
  · refine Ev.congr (fun k => if_pos h) ?_
    rw [if_pos (by omega)]; exact Ev.now _
  · refine Ev.congr (fun k => if_neg h) ?_
    rw [if_neg (by omega)]
    exact rlib_l0 l hl hs l.length 0 (by omega)
theorem y4m (l : List S25) (hl : l.length ≤ 1000000) (hs : ∀ x ∈ l, SmM x) : Ev (fun k => zqq.f k l) (libC l) := y4n l hl fun x hx => (hs x hx).ok
end Go.Proofs.Ytenlmckahaniiaa.Lb
end
