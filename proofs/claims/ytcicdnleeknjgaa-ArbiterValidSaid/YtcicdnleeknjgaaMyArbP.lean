/- arbiter: what the functions answer. -/
import Derived.Test.YtcicdnleeknjgaaMyArbR
import Derived.Test.YtcicdnleeknjgaaMyStr
import Derived.Test.YtcicdnleeknjgaaKx2
import Derived.Test.YtcicdnleeknjgaaKx3
import Derived.Test.YtcicdnleeknjgaaKx4
import Derived.Test.YtcicdnleeknjgaaKx7
set_option linter.unusedVariables false
set_option linter.unusedSimpArgs false
namespace Go.Proofs.Ytcicdnleeknjgaa.Pure
open Go Go.RowKit Go.Sort Go.Proofs.Ytcicdnleeknjgaa.K Go.Proofs.Ytcicdnleeknjgaa.Stab Go.Proofs.Ytcicdnleeknjgaa.ArbW Go.Proofs.YtcicdnleeknjgaaW.PrintWords Go.Proofs.YtcicdnleeknjgaaW.PrintMore Go.Proofs.Ytcicdnleeknjgaa.MyBits

theorem i64_nat (i : Nat) (h : i < 9223372036854775807) : wrap64 ((i : Int) + 1) = ((i + 1 : Nat) : Int) := by unfold wrap64; omega
theorem rd_at (l : List S23) (i : Nat) (h : i < l.length) : rd_T23 l (i : Int) = l[i] := by
  unfold rd_T23
  rw [show ((i : Int)).toNat = i by omega, List.getD_eq_getElem?_getD, List.getElem?_eq_getElem h]; rfl

/-! valid requests -/
def vld (x : S23) : Bool := decide (x.f0 ≥ 1) && (decide (x.f0 ≤ 7) && (decide (x.f1 ≥ 4) && (decide (x.f1 ≤ 252) && (Int.tmod x.f1 4 == 0))))
theorem valid_at (a b : Int) : arbiter_Valid.f a b = some (vld ⟨a, b⟩) := by
  unfold arbiter_Valid.f vld
  by_cases h1 : a ≥ 1
  · by_cases h2 : a ≤ 7
    · by_cases h3 : b ≥ 4
      · by_cases h4 : b ≤ 252
        · simp [h1, h2, h3, h4]
        · simp [h1, h2, h3, h4]
      · simp [h1, h2, h3]
    · simp [h1, h2]
  · simp [h1]
theorem rvalid_at (a b : Int) : emulatorref12_Valid.f a b = some (vld ⟨a, b⟩) := by
  rw [← valid_at]; rfl
theorem vld_iff (x : S23) : vld x = true → 1 ≤ x.f0 ∧ x.f0 ≤ 7 ∧ 4 ≤ x.f1 := by
  unfold vld
  rw [Bool.and_eq_true, Bool.and_eq_true, Bool.and_eq_true, decide_eq_true_eq, decide_eq_true_eq, decide_eq_true_eq]
  intro h; exact ⟨h.1, h.2.1, h.2.2.1⟩

/-! the order -/
/-- Not after. -/
def LE (x y : S23) : Prop := ltOf cfS y x = false
theorem placeZ_inj {a b : Int} (ha : 4 ≤ a) (hb : 4 ≤ b) (h : placeZ a = placeZ b) : a = b := by
  unfold placeZ at h
  repeat' split at h
  all_goals omega
theorem le_anti {x y : S23} (hx : vld x = true) (hy : vld y = true) (h1 : LE x y) (h2 : LE y x) : x = y := by
  unfold LE at h1 h2
  rw [lt_false] at h1 h2
  have a := vld_iff x hx
  have b := vld_iff y hy
  have e : placeZ x.f1 = placeZ y.f1 := by omega
  have e1 := placeZ_inj a.2.2 b.2.2 e
  have e0 : x.f0 = y.f0 := by omega
  cases x; cases y
  simp only at e0 e1
  rw [e0, e1]
theorem le_trans {x y z : S23} (h1 : LE x y) (h2 : LE y z) : LE x z := swo.ntrans z y x h2 h1
theorem uniq {l1 l2 : List S23} (h1 : l1.Pairwise LE) (h2 : l2.Pairwise LE) (hp : l1.Perm l2) (hv : ∀ x ∈ l1, vld x = true) : l1 = l2 :=
  List.Perm.eq_of_pairwise (fun a b ha hb hab hba => le_anti (hv a ha) (hv b (hp.symm.subset hb)) hab hba) h1 h2 hp
theorem stab_perm (xs : List S23) : (stab xs).Perm xs := by
  have h := (stable_spec swo xs.toArray).1
  have hs := h.1
  have hp := h.2.2
  have e1 : (stable (ltOf cfS) xs.toArray).extract 0 xs.toArray.size = stable (ltOf cfS) xs.toArray := by rw [← hs]; exact Array.extract_size
  rw [e1, Array.extract_size] at hp
  simpa [stab] using hp
theorem stab_sorted (xs : List S23) : (stab xs).Pairwise LE := by
  have h := (stable_spec swo xs.toArray).2
  have hs := (stable_spec swo xs.toArray).1.1
  unfold stab
  rw [List.pairwise_iff_getElem]
  intro i j hi hj hij
  have hi' : i < (stable (ltOf cfS) xs.toArray).size := by simpa using hi
  have hj' : j < (stable (ltOf cfS) xs.toArray).size := by simpa using hj
  have := h i j (Nat.zero_le _) hij (by omega)
  rw [getElem!_pos (stable (ltOf cfS) xs.toArray) j hj', getElem!_pos (stable (ltOf cfS) xs.toArray) i hi'] at this
  simpa [LE] using this
/-- The valid requests in order. -/
def srt (l : List S23) : List S23 := stab (l.filter vld)
theorem srt_perm (l : List S23) : (srt l).Perm (l.filter vld) := stab_perm _
theorem srt_sorted (l : List S23) : (srt l).Pairwise LE := stab_sorted _
theorem srt_vld (l : List S23) : ∀ x ∈ srt l, vld x = true := fun x hx => (List.mem_filter.1 ((srt_perm l).subset hx)).2
theorem srt_eq {l out : List S23} (h1 : out.Perm (l.filter vld)) (h2 : out.Pairwise LE) : out = srt l :=
  (uniq (srt_sorted l) h2 ((srt_perm l).trans h1.symm) (srt_vld l)).symm
theorem srt_length (l : List S23) : (srt l).length = (l.filter vld).length := (srt_perm l).length_eq
theorem srt_le (l : List S23) : (srt l).length ≤ l.length := by rw [srt_length]; exact List.length_filter_le _ _
theorem srt_srt (l : List S23) : srt (srt l) = srt l := by
  refine (srt_eq ?_ (srt_sorted l)).symm
  have : (srt l).filter vld = srt l := List.filter_eq_self.2 (srt_vld l)
  rw [this]
theorem srt_reverse (l : List S23) : srt l.reverse = srt l :=
  srt_eq ((srt_perm _).trans ((List.reverse_perm l).filter vld)) (srt_sorted _)

/-! Sort, Best, Grant -/
theorem sort_is (l : List S23) (hl : l.length ≤ 1000) : Ev (fun k => arbiter_Sort.f k l) (srt l) := by
  unfold arbiter_Sort.f
  have key : ∀ d i acc, i + d = l.length → acc.length ≤ i → Ev (fun k => arbiter_Sort.l0 k acc l (l.length : Int) (i : Int)) (acc ++ (l.drop i).filter vld) := by
    intro d
    induction d with
    | zero =>
      intro i acc hi ha
      rw [List.drop_eq_nil_of_le (by omega), List.filter_nil, List.append_nil]
      exact Ev.step (f := fun _ => some acc) (fun k => by rw [arbiter_Sort.l0, if_neg (by omega)]) (Ev.now _)
    | succ d ih =>
      intro i acc hi ha
      have hil : i < l.length := by omega
      rw [List.drop_eq_getElem_cons hil]
      cases hv : vld l[i] with
      | true =>
        rw [List.filter_cons, if_pos hv]
        have := ih (i + 1) (acc ++ [l[i]]) (by omega) (by rw [List.length_append, List.length_singleton]; omega)
        rw [List.append_assoc] at this
        refine Ev.step (fun k => ?_) this
        rw [arbiter_Sort.l0, if_pos (by omega), if_pos (by omega), if_pos (by omega), valid_at, rd_at l i hil, Option.bind_some, if_pos hv, if_pos (by omega), i64_nat i (by omega)]
      | false =>
        rw [List.filter_cons, if_neg (by rw [hv]; decide)]
        refine Ev.step (fun k => ?_) (ih (i + 1) acc (by omega) (by omega))
        rw [arbiter_Sort.l0, if_pos (by omega), if_pos (by omega), if_pos (by omega), valid_at, rd_at l i hil, Option.bind_some, if_neg (by show ¬ vld l[i] = true; rw [hv]; decide), i64_nat i (by omega)]
  refine Ev.bind (key l.length 0 [] (by omega) (Nat.zero_le _)) ?_
  have : ([] ++ (l.drop 0).filter vld) = l.filter vld := rfl
  rw [this]
  have hf := List.length_filter_le vld l
  exact Ev.congr (fun k => if_pos (by omega)) (Ev.now _)
def bst (s : List S23) : Int × Int × Bool := match s with
  | [] => (0, 0, false)
  | x :: _ => (x.f0, x.f1, true)
theorem best_is (l : List S23) (hl : l.length ≤ 1000) : Ev (fun k => arbiter_Best.f k l) (bst (srt l)) := by
  unfold arbiter_Best.f
  refine Ev.bind (sort_is l hl) ?_
  cases h : srt l with
  | nil => exact Ev.congr (f := fun _ => some (bst [])) (fun k => if_neg (by rw [List.length_nil]; omega)) (Ev.now _)
  | cons x q => exact Ev.congr (f := fun _ => some (bst (x :: q))) (fun k => (if_pos (by rw [List.length_cons]; omega)).trans (if_pos (by rw [List.length_cons]; omega))) (Ev.now _)
/-- The priority of a status word. -/
def prio (a : Int) : Int := (a / 32) % 8
theorem and7 (a : Int) : Go.bits .and .i64 a 7 = a % 8 := and_low a 7 3 (by decide) (by decide)
theorem and0 (a : Int) : Go.bits .and .i64 a ((0 : Nat) : Int) = 0 := by
  have := and_low a 0 0 (by decide) (by decide)
  rw [this]; omega
theorem prio_is (a : Int) : psw_Priority.f a = some (prio a) := by
  unfold psw_Priority.f prio
  have h := and_parts a 224 7 0 5 (by decide) (by decide) (by decide) (by decide)
  have e7 : Go.bits .and .i64 (a / 2 ^ 5) ((7 : Nat) : Int) = (a / 32) % 8 := and7 _
  rw [and0, e7] at h
  have e : Go.bits .and .i64 a 224 = (a / 32) % 8 * 32 := by
    have : ((224 : Nat) : Int) = 224 := rfl
    rw [this] at h
    rw [h]; omega
  rw [e]
  congr 1; omega
theorem rprio_is (a : Int) : emulatorref04_Priority.f a = some (prio a) := by
  unfold emulatorref04_Priority.f prio
  rw [and7]
def grt (s : List S23) (p : Int) : Int × Int × Bool := match s with
  | [] => (0, 0, false)
  | x :: _ => if x.f0 > p then (x.f0, x.f1, true) else (0, 0, false)
theorem grant_is (l : List S23) (hl : l.length ≤ 1000) (a : Int) : Ev (fun k => arbiter_Grant.f k l a) (grt (srt l) (prio a)) := by
  unfold arbiter_Grant.f
  refine Ev.bind (best_is l hl) ?_
  cases h : srt l with
  | nil => exact Ev.congr (f := fun _ => some (grt [] (prio a))) (fun k => if_neg (by show ¬ (false : Bool) = true; decide)) (Ev.now _)
  | cons x q =>
    refine Ev.congr (f := fun _ => some (grt (x :: q) (prio a))) (fun k => (if_pos rfl).trans ?_) (Ev.now _)
    rw [prio_is, Option.bind_some]
    unfold grt bst
    dsimp only
    by_cases hp : x.f0 > prio a
    · rw [if_pos hp, if_pos hp]
    · rw [if_neg hp, if_neg hp]
theorem same_is (x : List S23) (hx : x.length ≤ 1000) : Ev (fun k => emulatorref12_Same.f k x x) true := by
  unfold emulatorref12_Same.f
  refine Ev.congr (fun k => if_pos rfl) ?_
  have key : ∀ d i, i + d = x.length → Ev (fun k => emulatorref12_Same.l0 k x x (i : Int)) true := by
    intro d
    induction d with
    | zero => intro i hi; exact Ev.step (f := fun _ => some true) (fun k => by rw [emulatorref12_Same.l0, if_neg (by omega)]) (Ev.now _)
    | succ d ih =>
      intro i hi
      refine Ev.step (fun k => ?_) (ih (i + 1) (by omega))
      rw [emulatorref12_Same.l0, if_pos (by omega), if_pos (by omega), if_pos (by omega), if_neg (by simp), i64_nat i (by omega)]
  exact key x.length 0 (by omega)

/-! the examples -/
theorem alive_is : Ev (fun k => emulatorlaw12_alive.f k) true := by
  have e : srt [(⟨5, 164⟩ : S23), (⟨5, 160⟩ : S23), (⟨4, 128⟩ : S23), (⟨9, 64⟩ : S23)] = [(⟨5, 160⟩ : S23), (⟨5, 164⟩ : S23), (⟨4, 128⟩ : S23)] := by
    refine (srt_eq ?_ ?_).symm
    · show List.Perm _ [(⟨5, 164⟩ : S23), (⟨5, 160⟩ : S23), (⟨4, 128⟩ : S23)]
      exact List.Perm.swap _ _ _
    · simp only [List.pairwise_cons, LE, lt_false]
      simp [placeZ]
  unfold emulatorlaw12_alive.f
  refine Ev.bind (Ev.now _) (Ev.bind (grant_is _ (by simp) 128) (Ev.bind (grant_is _ (by simp) 160) (Ev.bind (sort_is _ (by simp)) ?_)))
  rw [e]
  refine Ev.bind (same_is _ (by simp)) ?_
  exact Ev.congr (f := fun _ => some true) (fun k => (if_pos rfl).trans (by simp [grt, prio])) (Ev.now _)
theorem alive_end : Ev (fun k => (emulatorlaw12_alive.f k).bind fun t => some t) true := Ev.bind alive_is (Ev.now true)
theorem len_of {l : List S23} (h : ¬ (l.length : Int) > 60) : l.length ≤ 60 := by omega
end Go.Proofs.Ytcicdnleeknjgaa.Pure
