/- Lemmas for several laws: what their proofs need of this seat's texts, in one place. -/
import Derived.Test.YtenlmckahaniiaaZcLc16
import Derived.Test.YtenlmckahaniiaaZcLc19
set_option linter.unusedVariables false
set_option linter.unusedSimpArgs false
set_option linter.unusedSectionVars false
section
namespace Go.Proofs.Ytenlmckahaniiaa.Lb
open Go Go.RowKit Go.Proofs.Ytenlmckahaniiaa.K Go.Proofs.YtenlmckahaniiaaW.PrintWords Go.Proofs.YtenlmckahaniiaaW.PrintMore Go.Proofs.Ytenlmckahaniiaa.MyBits Go.Proofs.Ytenlmckahaniiaa.MyStr Go.Proofs.Ytenlmckahaniiaa.Oct Go.Proofs.Ytenlmckahaniiaa.Obj
theorem Ev.is {α : Type} {o : Option α} {r : α} (h : o = some r) : Ev (fun _ => o) r := h ▸ Ev.now r
theorem module_is (a0 a1 a2 : ByteArray) : zqa.f a0 a1 a2 = some (a0, (⟨#[0, 0]⟩ : ByteArray), (⟨#[]⟩ : ByteArray), 0, (if bs a1 = [] then [] else [(⟨a1, 1, 0, true⟩ : S62)]), (if bs a2 = [] then [] else [(⟨1, 0, 4, a2, false⟩ : S43)])) := by
  unfold zqa.f
  rw [y0u, y0u]
  by_cases h1 : bs a1 = [] <;> by_cases h2 : bs a2 = [] <;> simp [h1, h2]
def mk0 (a0 a1 a2 : ByteArray) : S25 := ⟨a0, ⟨#[0, 0]⟩, ⟨#[]⟩, 0, (if bs a1 = [] then [] else [(⟨a1, 1, 0, true⟩ : S62)]), (if bs a2 = [] then [] else [(⟨1, 0, 4, a2, false⟩ : S43)])⟩
def mP : S25 := mk0 ⟨#[112]⟩ ⟨#[112, 117, 116]⟩ ⟨#[98, 117, 102]⟩
def mB : S25 := mk0 ⟨#[98]⟩ ⟨#[98, 117, 102]⟩ ⟨#[]⟩
def mX : S25 := mk0 ⟨#[120]⟩ ⟨#[]⟩ ⟨#[]⟩
def mB2 : S25 := mk0 ⟨#[98]⟩ ⟨#[98, 117, 102, 102, 101, 114]⟩ ⟨#[]⟩
def mM : S25 := mk0 ⟨#[109]⟩ ⟨#[]⟩ ⟨#[112, 117, 116]⟩
def mN : S25 := mk0 ⟨#[109]⟩ ⟨#[]⟩ ⟨#[]⟩
def lib3 : List S25 := [mP, mB, mX]
def smB (x : S25) : Bool := decide (x.f0.size ≤ 100) && decide (x.f1.size ≤ 600) && decide (x.f2.size ≤ 600) && decide (x.f4.length ≤ 40) && decide (x.f5.length ≤ 40) && x.f4.all (fun s => decide (s.f0.size ≤ 100)) && x.f5.all (fun s => decide (s.f3.size ≤ 100))
theorem smB_is {x : S25} (h : smB x = true) : SmM x := by
  unfold smB at h
  simp only [Bool.and_eq_true, decide_eq_true_eq, List.all_eq_true] at h
  obtain ⟨⟨⟨⟨⟨⟨h0, h1⟩, h2⟩, h4⟩, h5⟩, s4⟩, s5⟩ := h
  exact ⟨h0, h1, h2, h4, h5, s4, s5⟩
theorem smL {l : List S25} (h : l.all smB = true) : ∀ x ∈ l, SmM x := fun x hx => smB_is (List.all_eq_true.1 h x hx)
theorem chkL {l : List S25} (h : l.all smB = true) {c : Int} (hc : libC l = c) : Ev (fun k => zq1a.f k l) c := hc ▸ libC_is l (smL h)
theorem lib3_sm : lib3.all smB = true := by decide +kernel
theorem lib3_ok : libC lib3 = 0 := by decide +kernel
theorem find_buf : zq1g.f lib3 ⟨#[98, 117, 102]⟩ = some (1, true) := by rw [find_is]; exact congrArg some (by decide +kernel)
theorem find_get : zq1g.f lib3 ⟨#[103, 101, 116]⟩ = some (0, false) := by rw [find_is]; exact congrArg some (by decide +kernel)
theorem idx_b : idxF (pNam ⟨#[98]⟩) lib3 = 1 := by
  rw [show pNam ⟨#[98]⟩ = fun x : S25 => bs x.f0 == [98] from funext fun x => pNam_bs _ x]
  decide +kernel
def rep3 : List S25 := [mP, mB2, mX]
theorem repl3 : Ev (fun k => zq14.f k lib3 mB2.f0 mB2.f1 mB2.f2 mB2.f3 mB2.f4 mB2.f5) (rep3, 0) := by
  unfold zq14.f
  refine Ev.congr (fun k => if_pos (by decide)) ?_
  refine Ev.bind (show Ev (fun _ => some lib3) lib3 from Ev.now lib3) ?_
  refine Ev.bind (show Ev (fun k => zq1s.f k lib3 mB2.f0) 1 from Ev.is (by show some (idxF (pNam ⟨#[98]⟩) lib3) = some 1; rw [idx_b])) ?_
  refine Ev.congr (fun k => by rw [if_pos (by decide), if_pos (by decide), if_pos (by decide)]) ?_
  refine Ev.bind (show Ev (fun _ => some rep3) rep3 from Ev.now rep3) ?_
  refine Ev.bind (chkL (l := rep3) (c := 0) (by decide +kernel) (by decide +kernel)) ?_
  exact Ev.congr (fun k => if_pos rfl) (Ev.now _)
theorem enc3_is : Ev (fun k => zq17.f k lib3) (mkS (seal_ (lbody lib3)), 0) := lenc_is lib3 (smL lib3_sm) lib3_ok
theorem dec3_is : Ev (fun k => zq16.f k (mkS (seal_ (lbody lib3)))) (lib3, 0) := ldec_is lib3 (smL lib3_sm) lib3_ok
theorem ndM_nil {x : S25} (h : x.f5 = []) : ndM x = [] := by
  have h1 := needsL_length x.f5
  rw [h] at h1
  unfold ndM
  rw [h]
  exact List.eq_nil_of_length_eq_zero (by have : ([] : List S43).length = 0 := rfl; omega)
theorem ndM_one {x : S25} {s : S43} (h : x.f5 = [s]) (h4 : s.f2 = 4) : ndM x = [bs s.f3] := by
  unfold ndM
  rw [h]
  refine Asc.unique (needsL_asc _) (by unfold Asc; simp) (fun y => ?_)
  rw [needsL_mem]
  unfold extL
  simp [h4]
theorem needs_mM : [mM].flatMap ndM = [[112, 117, 116]] := by
  rw [List.flatMap_cons, ndM_one (x := mM) (s := ⟨1, 0, 4, ⟨#[112, 117, 116]⟩, false⟩) (by kernel_rfl) rfl]; rfl
theorem needs_mMP : [mM, mP].flatMap ndM = [[112, 117, 116], [98, 117, 102]] := by
  rw [List.flatMap_cons, List.flatMap_cons, ndM_one (x := mM) (s := ⟨1, 0, 4, ⟨#[112, 117, 116]⟩, false⟩) (by kernel_rfl) rfl, ndM_one (x := mP) (s := ⟨1, 0, 4, ⟨#[98, 117, 102]⟩, false⟩) (by kernel_rfl) rfl]; rfl
theorem needs_mMPB : [mM, mP, mB].flatMap ndM = [[112, 117, 116], [98, 117, 102]] := by
  rw [List.flatMap_cons, List.flatMap_cons, List.flatMap_cons, ndM_one (x := mM) (s := ⟨1, 0, 4, ⟨#[112, 117, 116]⟩, false⟩) (by kernel_rfl) rfl, ndM_one (x := mP) (s := ⟨1, 0, 4, ⟨#[98, 117, 102]⟩, false⟩) (by kernel_rfl) rfl, ndM_nil (x := mB) (by kernel_rfl)]; rfl
theorem needs_mN : [mN].flatMap ndM = [] := by
  rw [List.flatMap_cons, ndM_nil (x := mN) (by kernel_rfl)]; rfl
theorem nx1 : nxt lib3 [mM] = 0 := by unfold nxt; rw [needs_mM]; decide +kernel
theorem nx2 : nxt lib3 [mM, mP] = 1 := by unfold nxt; rw [needs_mMP]; decide +kernel
theorem nx3 : nxt lib3 [mM, mP, mB] = -1 := by unfold nxt; rw [needs_mMPB]; decide +kernel
theorem nx0 : nxt lib3 [mN] = -1 := by unfold nxt; rw [needs_mN]; decide +kernel
theorem sel1 : selR lib3 [mM] = [0, 1] := by
  show sel lib3 (3 + 1) [mM] [] = _
  rw [sel_succ, nx1, if_pos (by decide)]
  show sel lib3 (2 + 1) [mM, mP] [0] = _
  rw [sel_succ, nx2, if_pos (by decide)]
  show sel lib3 (1 + 1) [mM, mP, mB] [0, 1] = _
  rw [sel_succ, nx3, if_neg (by decide)]
theorem sel0 : selR lib3 [mN] = [] := by
  show sel lib3 (3 + 1) [mN] [] = _
  rw [sel_succ, nx0, if_neg (by decide)]
theorem sel1_is : Ev (fun k => zq18.f k lib3 [mM]) [0, 1] := sel1 ▸ select_is lib3 [mM] (by decide) (by decide) (by decide +kernel) (by decide +kernel)
theorem sel0_is : Ev (fun k => zq18.f k lib3 [mN]) [] := sel0 ▸ select_is lib3 [mN] (by decide) (by decide) (by decide +kernel) (by decide +kernel)
theorem same08_l0 (xs : List Int) (hn : xs.length ≤ 1000000) (d : Nat) : ∀ i : Nat, i + d = xs.length → Ev (fun k => zqr.l0 k xs xs (i : Int)) true := by
  induction d with
  | zero => intro i hi; exact Ev.step (f := fun _ => some true) (fun k => by rw [zqr.l0, if_neg (by omega)]) (Ev.now _)
  | succ d ih => intro i hi; exact Ev.step (fun k => by rw [zqr.l0, if_pos (by omega), if_pos (by omega), if_pos (by omega), if_pos rfl, Obj.i64_nat i (by omega)]) (ih (i + 1) (by omega))
theorem same08_is (xs : List Int) (hn : xs.length ≤ 1000000) : Ev (fun k => zqr.f k xs xs) true := by
  unfold zqr.f
  exact Ev.congr (fun k => if_pos rfl) (same08_l0 xs hn xs.length 0 (by omega))
theorem sameM_l1 (x : S25) (hn : x.f5.length ≤ 1000000) (d : Nat) : ∀ i : Nat, i + d = x.f5.length → Ev (fun k => zq4.l1 k (i : Int) x.f0 x.f1 x.f2 x.f3 x.f4 x.f5 x.f0 x.f1 x.f2 x.f3 x.f4 x.f5) true := by
  induction d with
  | zero => intro i hi; exact Ev.step (f := fun _ => some true) (fun k => by rw [zq4.l1, if_neg (by omega)]) (Ev.now _)
  | succ d ih => intro i hi; exact Ev.step (fun k => by rw [zq4.l1, if_pos (by omega), if_pos (by omega), if_pos (by omega), if_neg (by simp), Obj.i64_nat i (by omega)]) (ih (i + 1) (by omega))
theorem sameM_l0 (x : S25) (hn : x.f4.length ≤ 1000000) (hn5 : x.f5.length ≤ 1000000) (d : Nat) : ∀ i : Nat, i + d = x.f4.length → Ev (fun k => zq4.l0 k (i : Int) x.f0 x.f1 x.f2 x.f3 x.f4 x.f5 x.f0 x.f1 x.f2 x.f3 x.f4 x.f5) true := by
  induction d with
  | zero => intro i hi; exact Ev.step (f := fun k => zq4.l1 k 0 x.f0 x.f1 x.f2 x.f3 x.f4 x.f5 x.f0 x.f1 x.f2 x.f3 x.f4 x.f5) (fun k => by rw [zq4.l0, if_neg (by omega)]) (sameM_l1 x hn5 x.f5.length 0 (by omega))
  | succ d ih => intro i hi; exact Ev.step (fun k => by rw [zq4.l0, if_pos (by omega), if_pos (by omega), if_pos (by omega), if_neg (by simp), Obj.i64_nat i (by omega)]) (ih (i + 1) (by omega))
theorem sameM_is (x : S25) (hn : x.f4.length ≤ 1000000) (hn5 : x.f5.length ≤ 1000000) : Ev (fun k => zq4.f k x.f0 x.f1 x.f2 x.f3 x.f4 x.f5 x.f0 x.f1 x.f2 x.f3 x.f4 x.f5) true := by
  unfold zq4.f
  refine Ev.congr (fun k => by rw [if_pos rfl, if_pos rfl, if_pos rfl, if_pos rfl, if_pos rfl]) ?_
  exact Ev.step (f := fun k => zq4.l0 k 0 x.f0 x.f1 x.f2 x.f3 x.f4 x.f5 x.f0 x.f1 x.f2 x.f3 x.f4 x.f5) (fun k => by rw [zq4.j0, if_neg (by simp)]) (sameM_l0 x hn hn5 x.f4.length 0 (by omega))
theorem same29_l0 (l : List S25) (hl : l.length ≤ 1000000) (hs : ∀ x ∈ l, x.f4.length ≤ 1000000 ∧ x.f5.length ≤ 1000000) (d : Nat) : ∀ i : Nat, i + d = l.length → Ev (fun k => zqu.l0 k l l (i : Int)) true := by
  induction d with
  | zero => intro i hi; exact Ev.step (f := fun _ => some true) (fun k => by rw [zqu.l0, if_neg (by omega)]) (Ev.now _)
  | succ d ih =>
    intro i hi
    have hlt : i < l.length := by omega
    obtain ⟨h4, h5⟩ := hs l[i] (List.getElem_mem hlt)
    refine Ev.step (f := fun k => (zq4.f k l[i].f0 l[i].f1 l[i].f2 l[i].f3 l[i].f4 l[i].f5 l[i].f0 l[i].f1 l[i].f2 l[i].f3 l[i].f4 l[i].f5).bind fun t => if t = true then zqu.l0 k l l ((i + 1 : Nat) : Int) else some false) (fun k => by rw [zqu.l0, if_pos (by omega), if_pos (by omega), if_pos (by omega), rd25 l i hlt, Obj.i64_nat i (by omega)]) ?_
    refine Ev.bind (sameM_is l[i] h4 h5) ?_
    exact Ev.congr (fun k => if_pos rfl) (ih (i + 1) (by omega))
theorem same29_is (l : List S25) (hl : l.length ≤ 1000000) (hs : ∀ x ∈ l, x.f4.length ≤ 1000000 ∧ x.f5.length ≤ 1000000) : Ev (fun k => zqu.f k l l) true := by
  unfold zqu.f
  exact Ev.congr (fun k => if_pos rfl) (same29_l0 l hl hs l.length 0 (by omega))
theorem alive_is : Ev (fun k => zqg.f k) true := by
  unfold zqg.f
  refine Ev.bind (Ev.is (module_is _ _ _)) ?_
  refine Ev.bind (Ev.is (module_is _ _ _)) ?_
  refine Ev.bind (Ev.is (module_is _ _ _)) ?_
  refine Ev.bind (show Ev (fun _ => some lib3) lib3 from Ev.now lib3) ?_
  refine Ev.bind (Ev.is find_buf) ?_
  refine Ev.bind (Ev.is find_get) ?_
  refine Ev.bind (Ev.is (module_is _ _ _)) ?_
  refine Ev.bind repl3 ?_
  refine Ev.bind enc3_is ?_
  refine Ev.bind dec3_is ?_
  refine Ev.congr (fun k => by rw [if_pos rfl, if_pos (by decide), if_pos (by decide), if_pos (by decide +kernel), if_pos rfl, if_pos rfl]) ?_
  refine Ev.bind (Ev.is (module_is _ _ _)) ?_
  refine Ev.bind sel1_is ?_
  refine Ev.bind (same08_is [0, 1] (by decide)) ?_
  refine Ev.congr (fun k => if_pos rfl) ?_
  refine Ev.bind (Ev.is (module_is _ _ _)) ?_
  refine Ev.bind sel0_is ?_
  refine Ev.congr (fun k => by rw [if_pos (by decide), if_pos rfl, if_pos rfl, if_neg (by decide), if_pos (by decide +kernel), if_pos (by rw [y0u]; decide +kernel)]) ?_
  refine Ev.bind (same29_is lib3 (by decide) (by decide +kernel)) ?_
  refine Ev.congr (fun k => by rw [if_pos rfl, if_pos (by decide)]) ?_
  refine Ev.bind (chkL (l := [mB, mB]) (c := 6) (by decide +kernel) (by decide +kernel)) ?_
  refine Ev.congr (fun k => if_pos rfl) ?_
  refine Ev.bind (chkL lib3_sm lib3_ok) ?_
  exact Ev.now _
theorem alive_end : Ev (fun k => (zqg.f k).bind fun t => some t) true := Ev.bind alive_is (Ev.now true)
end Go.Proofs.Ytenlmckahaniiaa.Lb
end
section
namespace Go.Proofs.Ytenlmckahaniiaa.Lb
open Go Go.RowKit Go.Proofs.Ytenlmckahaniiaa.K Go.Proofs.YtenlmckahaniiaaW.PrintWords Go.Proofs.YtenlmckahaniiaaW.PrintMore Go.Proofs.Ytenlmckahaniiaa.MyBits Go.Proofs.Ytenlmckahaniiaa.MyStr Go.Proofs.Ytenlmckahaniiaa.Oct Go.Proofs.Ytenlmckahaniiaa.Obj
theorem idxF_cons {α : Type} (p : α → Bool) (x : α) (l : List α) : idxF p (x :: l) = if p x = true then 0 else if 0 ≤ idxF p l then idxF p l + 1 else -1 := by
  unfold idxF
  rw [List.findIdx?_cons]
  by_cases h : p x = true
  · rw [if_pos h, if_pos h]; rfl
  · rw [if_neg h, if_neg h]
    cases h2 : l.findIdx? p with
    | none => simp
    | some i => simp only [Option.map_some]; rw [if_pos (by omega)]; omega
theorem rfind_loop (l : List S25) (hl : l.length ≤ 1000000) (hs : ∀ x ∈ l, x.f4.length ≤ 1000000) (name : ByteArray) (d : Nat) : ∀ i : Nat, i + d = l.length → Ev (fun k => zqt.l0 k l name (i : Int)) (if 0 ≤ fndB (l.drop i) (bs name) then (i + fndB (l.drop i) (bs name), true) else (0, false)) := by
  induction d with
  | zero =>
    intro i hi
    rw [List.drop_eq_nil_of_le (by omega)]
    exact Ev.step (f := fun _ => some (0, false)) (fun k => by rw [zqt.l0, if_neg (by omega)]) (Ev.now _)
  | succ d ih =>
    intro i hi
    have hlt : i < l.length := by omega
    have h := ih (i + 1) (by omega)
    rw [List.drop_eq_getElem_cons hlt]
    unfold fndB at h ⊢
    rw [idxF_cons]
    generalize idxF (fun x : S25 => defM x (bs name)) (l.drop (i + 1)) = q at h ⊢
    refine Ev.step (f := fun k => (zq7.f k l[i].f0 l[i].f1 l[i].f2 l[i].f3 l[i].f4 l[i].f5 name).bind fun t => if t = true then some ((i : Int), true) else zqt.l0 k l name ((i + 1 : Nat) : Int)) (fun k => by rw [zqt.l0, if_pos (by omega), if_pos (by omega), rd25 l i hlt, Obj.i64_nat i (by omega)]) ?_
    refine Ev.bind (rdefines_is _ _ _ _ _ _ name (hs l[i] (List.getElem_mem hlt))) ?_
    unfold definesB
    rw [defM_is]
    by_cases h1 : defM l[i] (bs name) = true
    · refine Ev.congr (fun k => if_pos h1) ?_
      rw [if_pos h1, if_pos (by omega), Int.add_zero]; exact Ev.now _
    · refine Ev.congr (fun k => if_neg h1) ?_
      rw [if_neg h1]
      by_cases h2 : 0 ≤ q
      · rw [if_pos h2] at h ⊢
        rw [if_pos (by omega)]
        exact Ev.eq h (by rw [show ((i + 1 : Nat) : Int) + q = (i : Int) + (q + 1) by omega])
      · rw [if_neg h2] at h ⊢
        rw [if_neg (by omega)]; exact h
theorem rfind_is (l : List S25) (hl : l.length ≤ 1000000) (hs : ∀ x ∈ l, x.f4.length ≤ 1000000) (name : ByteArray) : Ev (fun k => zqt.f k l name) (findR l (bs name)) := by
  have h := rfind_loop l hl hs name l.length 0 (by omega)
  rw [List.drop_zero] at h
  unfold findR
  refine Ev.eq h ?_
  by_cases h1 : 0 ≤ fndB l (bs name)
  · rw [if_pos h1, decide_eq_true h1, Int.max_eq_left h1]; simp
  · rw [if_neg h1, decide_eq_false h1, Int.max_eq_right (by omega)]
end Go.Proofs.Ytenlmckahaniiaa.Lb
end
