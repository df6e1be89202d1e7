/- The plain theory of the stable sort (blocks by insertion, merged in place by rotations): a permutation, ascending. -/
import Derived.Sort.LotA
import Derived.Sort.Lot0
set_option linter.unusedVariables false
set_option linter.unusedSimpArgs false
namespace Go.Proofs.Ytcicdnleeknjgaa.Stab
open Go.Sort
variable {α : Type} [Inhabited α]

/-! ### Exchanges of two ranges -/
def swapFrom (a b n i : Nat) (d : Array α) : Array α :=
  if i < n then swapFrom a b n (i + 1) (swp d (a + i) (b + i)) else d
termination_by n - i
def swapRange (d : Array α) (a b n : Nat) : Array α := swapFrom a b n 0 d
theorem swapFrom_size (a b n : Nat) : ∀ (k i : Nat) (d : Array α), n - i = k → (swapFrom a b n i d).size = d.size := by
  intro k
  induction k with
  | zero => intro i d h; rw [swapFrom, if_neg (by omega)]
  | succ k ih => intro i d h; rw [swapFrom, if_pos (by omega), ih _ _ (by omega), swp_size]
@[simp] theorem swapRange_size (d : Array α) (a b n : Nat) : (swapRange d a b n).size = d.size := swapFrom_size a b n _ 0 d rfl
theorem swapFrom_get (a b n : Nat) (hab : a + n ≤ b) : ∀ (k i : Nat) (d : Array α), n - i = k → b + n ≤ d.size → ∀ q, (swapFrom a b n i d)[q]! =
    if a + i ≤ q ∧ q < a + n then d[b + (q - a)]! else if b + i ≤ q ∧ q < b + n then d[a + (q - b)]! else d[q]! := by
  intro k
  induction k with
  | zero =>
    intro i d h hb q
    rw [swapFrom, if_neg (by omega), if_neg (by omega), if_neg (by omega)]
  | succ k ih =>
    intro i d h hb q
    rw [swapFrom, if_pos (by omega), ih (i + 1) _ (by omega) (by rw [swp_size]; exact hb) q]
    by_cases h1 : q = a + i
    · subst h1
      rw [if_neg (by omega), if_neg (by omega), if_pos (by omega), swp_left _ _ _ (by omega) (by omega)]
      congr 1; omega
    by_cases h2 : q = b + i
    · subst h2
      rw [if_neg (by omega), if_neg (by omega), if_neg (by omega), if_pos (by omega), swp_right _ _ _ (by omega)]
      congr 1; omega
    by_cases h3 : a + i ≤ q ∧ q < a + n
    · rw [if_pos (by omega), if_pos h3, swp_other _ _ _ _ (by omega) (by omega)]
    rw [if_neg (by omega), if_neg h3]
    by_cases h4 : b + i ≤ q ∧ q < b + n
    · rw [if_pos (by omega), if_pos h4, swp_other _ _ _ _ (by omega) (by omega)]
    · rw [if_neg (by omega), if_neg h4, swp_other _ _ _ _ h1 h2]
theorem swapRange_get (d : Array α) (a b n : Nat) (hab : a + n ≤ b) (hb : b + n ≤ d.size) (q : Nat) : (swapRange d a b n)[q]! =
    if a ≤ q ∧ q < a + n then d[b + (q - a)]! else if b ≤ q ∧ q < b + n then d[a + (q - b)]! else d[q]! := swapFrom_get a b n hab _ 0 d rfl hb q
theorem swapFrom_perm (a b n A B : Nat) (ha : A ≤ a) (hb : A ≤ b) (ha2 : a + n ≤ B) (hb2 : b + n ≤ B) : ∀ (k i : Nat) (d : Array α), n - i = k → B ≤ d.size → PermIn A B d (swapFrom a b n i d) := by
  intro k
  induction k with
  | zero => intro i d h hB; rw [swapFrom, if_neg (by omega)]; exact permIn_refl d A B
  | succ k ih =>
    intro i d h hB
    rw [swapFrom, if_pos (by omega)]
    exact permIn_trans _ _ _ _ _ (swp_permIn d A B _ _ (by omega) (by omega) (by omega) (by omega) hB) (ih (i + 1) _ (by omega) (by rw [swp_size]; exact hB))
theorem swapRange_perm (d : Array α) (a b n A B : Nat) (ha : A ≤ a) (hb : A ≤ b) (ha2 : a + n ≤ B) (hb2 : b + n ≤ B) (hB : B ≤ d.size) : PermIn A B d (swapRange d a b n) := swapFrom_perm a b n A B ha hb ha2 hb2 _ 0 d rfl hB

/-! ### Rotation -/
def rotLoop (m : Nat) : Nat → Nat → Nat → Array α → Array α
  | 0, _, _, d => d
  | k + 1, i, j, d =>
    if i = j then swapRange d (m - i) m i
    else if i > j then rotLoop m k (i - j) j (swapRange d (m - i) m j)
    else rotLoop m k i (j - i) (swapRange d (m - i) (m + j - i) i)
def rotate (d : Array α) (a m b : Nat) : Array α := rotLoop m (b - a) (m - a) (b - m) d
theorem rotLoop_size (m : Nat) : ∀ (k i j : Nat) (d : Array α), (rotLoop m k i j d).size = d.size := by
  intro k
  induction k with
  | zero => intro i j d; rfl
  | succ k ih =>
    intro i j d
    rw [rotLoop]
    split
    · simp
    · split
      · rw [ih]; simp
      · rw [ih]; simp
@[simp] theorem rotate_size (d : Array α) (a m b : Nat) : (rotate d a m b).size = d.size := rotLoop_size m _ _ _ d
theorem rotLoop_get (m : Nat) : ∀ (k i j : Nat) (d : Array α), i + j ≤ k → 1 ≤ i → 1 ≤ j → i ≤ m → m + j ≤ d.size → ∀ q, (rotLoop m k i j d)[q]! =
    if m - i ≤ q ∧ q < m - i + j then d[m + (q - (m - i))]! else if m - i + j ≤ q ∧ q < m + j then d[m - i + (q - (m - i + j))]! else d[q]! := by
  intro k
  induction k with
  | zero => intro i j d h h1 h2; omega
  | succ k ih =>
    intro i j d h h1 h2 hm hs q
    rw [rotLoop]
    by_cases hij : i = j
    · subst hij
      rw [if_pos rfl, swapRange_get _ _ _ _ (by omega) hs]
      by_cases c1 : m - i ≤ q ∧ q < m - i + i
      · rw [if_pos c1, if_pos c1]
      · rw [if_neg c1, if_neg c1]
        by_cases c2 : m ≤ q ∧ q < m + i
        · rw [if_pos c2, if_pos (by omega)]; congr 1; omega
        · rw [if_neg c2, if_neg (by omega)]
    rw [if_neg hij]
    by_cases hgt : i > j
    · rw [if_pos hgt, ih (i - j) j _ (by omega) (by omega) h2 (by omega) (by simpa using hs) q]
      rw [swapRange_get _ _ _ _ (by omega) hs, swapRange_get _ _ _ _ (by omega) hs, swapRange_get _ _ _ _ (by omega) hs]
      by_cases c1 : m - i ≤ q ∧ q < m - i + j
      · rw [if_neg (by omega), if_neg (by omega), if_pos c1, if_pos c1]
      rw [if_neg c1, if_neg c1]
      by_cases c2 : m - i + j ≤ q ∧ q < m + j
      · rw [if_pos c2]
        by_cases c3 : q < m - i + j + j
        · rw [if_pos (by omega), if_neg (by omega), if_pos (by omega)]; congr 1; omega
        · rw [if_neg (by omega), if_pos (by omega)]
          by_cases c4 : m - (i - j) + (q - (m - (i - j) + j)) < m - i + j
          · omega
          · rw [if_neg (by omega), if_neg (by omega)]; congr 1; omega
      · rw [if_neg c2, if_neg (by omega), if_neg (by omega), if_neg (by omega)]
    · rw [if_neg hgt, ih i (j - i) _ (by omega) h1 (by omega) hm (by simp; omega) q]
      rw [swapRange_get _ _ _ _ (by omega) (by omega), swapRange_get _ _ _ _ (by omega) (by omega), swapRange_get _ _ _ _ (by omega) (by omega)]
      by_cases c1 : m - i ≤ q ∧ q < m - i + j
      · rw [if_pos c1]
        by_cases c3 : q < m - i + (j - i)
        · rw [if_pos (by omega)]
          by_cases c4 : m + (q - (m - i)) < m + j - i
          · rw [if_neg (by omega), if_neg (by omega)]
          · omega
        · rw [if_neg (by omega), if_pos (by omega), if_pos (by omega)]; congr 1; omega
      · rw [if_neg c1]
        by_cases c2 : m - i + j ≤ q ∧ q < m + j
        · rw [if_pos c2, if_neg (by omega), if_neg (by omega), if_neg (by omega), if_pos (by omega)]; congr 1; omega
        · rw [if_neg c2, if_neg (by omega), if_neg (by omega), if_neg (by omega), if_neg (by omega)]
theorem rotLoop_perm (m A B : Nat) : ∀ (k i j : Nat) (d : Array α), i + j ≤ k → 1 ≤ i → 1 ≤ j → A + i ≤ m → m + j ≤ B → B ≤ d.size → PermIn A B d (rotLoop m k i j d) := by
  intro k
  induction k with
  | zero => intro i j d h h1 h2; omega
  | succ k ih =>
    intro i j d h h1 h2 hA hB hs
    rw [rotLoop]
    by_cases hij : i = j
    · rw [if_pos hij]; exact swapRange_perm _ _ _ _ _ _ (by omega) (by omega) (by omega) (by omega) hs
    rw [if_neg hij]
    by_cases hgt : i > j
    · rw [if_pos hgt]
      exact permIn_trans _ _ _ _ _ (swapRange_perm _ _ _ _ _ _ (by omega) (by omega) (by omega) (by omega) hs) (ih _ _ _ (by omega) (by omega) h2 (by omega) hB (by simpa using hs))
    · rw [if_neg hgt]
      exact permIn_trans _ _ _ _ _ (swapRange_perm _ _ _ _ _ _ (by omega) (by omega) (by omega) (by omega) hs) (ih _ _ _ (by omega) h1 (by omega) hA (by omega) (by simpa using hs))
theorem rotate_get (d : Array α) (a m b : Nat) (h1 : a < m) (h2 : m < b) (hs : b ≤ d.size) (q : Nat) : (rotate d a m b)[q]! =
    if a ≤ q ∧ q < a + (b - m) then d[m + (q - a)]! else if a + (b - m) ≤ q ∧ q < b then d[a + (q - (a + (b - m)))]! else d[q]! := by
  unfold rotate
  rw [rotLoop_get m (b - a) (m - a) (b - m) d (by omega) (by omega) (by omega) (by omega) (by omega) q]
  rw [show m - (m - a) = a by omega, show m + (b - m) = b by omega]
theorem rotate_perm (d : Array α) (a m b : Nat) (h1 : a < m) (h2 : m < b) (hs : b ≤ d.size) : PermIn a b d (rotate d a m b) :=
  rotLoop_perm m a b _ _ _ d (by omega) (by omega) (by omega) (by omega) (by omega) hs

/-! ### The search by halves -/
def half (p : Nat → Bool) (i j : Nat) : Nat :=
  if i < j then (if p ((i + j) / 2) then half p ((i + j) / 2 + 1) j else half p i ((i + j) / 2)) else i
termination_by j - i
theorem half_spec (p : Nat → Bool) : ∀ (k i j : Nat), j - i ≤ k → i ≤ j → i ≤ half p i j ∧ half p i j ≤ j ∧ (half p i j = i ∨ p (half p i j - 1) = true) ∧ (half p i j = j ∨ p (half p i j) = false) := by
  intro k
  induction k with
  | zero => intro i j h h1; rw [half, if_neg (by omega)]; exact ⟨Nat.le_refl _, h1, .inl rfl, .inl (by omega)⟩
  | succ k ih =>
    intro i j h h1
    rw [half]
    by_cases hij : i < j
    · rw [if_pos hij]
      cases hp : p ((i + j) / 2) with
      | true =>
        rw [if_pos rfl]
        obtain ⟨a1, a2, a3, a4⟩ := ih ((i + j) / 2 + 1) j (by omega) (by omega)
        refine ⟨by omega, a2, .inr ?_, a4⟩
        rcases a3 with a3 | a3
        · rw [a3]; exact hp
        · exact a3
      | false =>
        rw [if_neg (by decide)]
        obtain ⟨a1, a2, a3, a4⟩ := ih i ((i + j) / 2) (by omega) (by omega)
        refine ⟨a1, by omega, a3, .inr ?_⟩
        rcases a4 with a4 | a4
        · rw [a4]; exact hp
        · exact a4
    · rw [if_neg hij]; exact ⟨Nat.le_refl _, h1, .inl rfl, .inl (by omega)⟩

/-! ### Merging in place -/
section
variable (lt : α → α → Bool)
/-- 'for k := a; k < e; k++ { swap k, k+1 }'. -/
def moveUp (e k : Nat) (d : Array α) : Array α := if k < e then moveUp e (k + 1) (swp d k (k + 1)) else d
termination_by e - k
/-- 'for k := ..; k > i; k-- { swap k, k-1 }'. -/
def moveDown (i : Nat) : Nat → Array α → Array α
  | 0, d => d
  | k + 1, d => if k + 1 > i then moveDown i k (swp d (k + 1) k) else d
def symMerge : Nat → Nat → Nat → Nat → Array α → Array α
  | 0, _, _, _, d => d
  | f + 1, a, m, b, d =>
    if m - a = 1 then moveUp (half (fun h => lt d[h]! d[a]!) m b - 1) a d
    else if b - m = 1 then moveDown (half (fun h => !lt d[m]! d[h]!) a m) m d
    else
      let mid := (a + b) / 2
      let n := mid + m
      let s := half (fun c => !lt d[n - 1 - c]! d[c]!) (if m > mid then n - b else a) (if m > mid then mid else m)
      let e := n - s
      let d1 := if s < m ∧ m < e then rotate d s m e else d
      let d2 := if a < s ∧ s < mid then symMerge f a s mid d1 else d1
      if mid < e ∧ e < b then symMerge f mid e b d2 else d2
end
theorem _root_.Go.Sort.SortedIn.smono {lt : α → α → Bool} {a b a' b' : Nat} {d : Array α} (h : SortedIn lt a b d) (ha : a ≤ a') (hb : b' ≤ b) : SortedIn lt a' b' d := fun i j h1 h2 h3 => h i j (by omega) h2 (by omega)
theorem _root_.Go.Sort.SortedIn.scongr {lt : α → α → Bool} {a b : Nat} {d d' : Array α} (h : SortedIn lt a b d) (he : ∀ i, a ≤ i → i < b → d'[i]! = d[i]!) : SortedIn lt a b d' := fun i j h1 h2 h3 => by rw [he i h1 (by omega), he j (by omega) h3]; exact h i j h1 h2 h3
theorem moveUp_get (e : Nat) : ∀ (n k : Nat) (d : Array α), e - k = n → k ≤ e → e < d.size → (moveUp e k d).size = d.size ∧ ∀ q, (moveUp e k d)[q]! = if k ≤ q ∧ q < e then d[q + 1]! else if q = e then d[k]! else d[q]! := by
  intro n
  induction n with
  | zero =>
    intro k d h hk hs
    obtain rfl : k = e := by omega
    rw [moveUp, if_neg (by omega)]
    refine ⟨rfl, fun q => ?_⟩
    rw [if_neg (by omega)]
    split
    · rename_i h; rw [h]
    · rfl
  | succ n ih =>
    intro k d h hk hs
    rw [moveUp, if_pos (by omega)]
    obtain ⟨h1, h2⟩ := ih (k + 1) (swp d k (k + 1)) (by omega) (by omega) (by rw [swp_size]; exact hs)
    refine ⟨by rw [h1, swp_size], fun q => ?_⟩
    rw [h2]
    by_cases c1 : k + 1 ≤ q ∧ q < e
    · rw [if_pos c1, if_pos (by omega), swp_other _ _ _ _ (by omega) (by omega)]
    rw [if_neg c1]
    by_cases c2 : q = e
    · rw [if_pos c2, if_neg (by omega), if_pos c2, swp_right _ _ _ (by omega)]
    rw [if_neg c2]
    by_cases c3 : q = k
    · subst c3; rw [if_pos (by omega), swp_left _ _ _ (by omega) (by omega)]
    · rw [if_neg (by omega), if_neg c2, swp_other _ _ _ _ c3 (by omega)]
theorem moveUp_perm (e A B : Nat) : ∀ (n k : Nat) (d : Array α), e - k = n → A ≤ k → e < B → B ≤ d.size → PermIn A B d (moveUp e k d) := by
  intro n
  induction n with
  | zero => intro k d h hA hB hs; rw [moveUp, if_neg (by omega)]; exact permIn_refl d A B
  | succ n ih =>
    intro k d h hA hB hs
    rw [moveUp, if_pos (by omega)]
    exact permIn_trans _ _ _ _ _ (swp_permIn d A B _ _ (by omega) (by omega) (by omega) (by omega) hs) (ih (k + 1) _ (by omega) (by omega) hB (by rw [swp_size]; exact hs))
theorem moveDown_get (i : Nat) : ∀ (k : Nat) (d : Array α), i ≤ k → k < d.size → (moveDown i k d).size = d.size ∧ ∀ q, (moveDown i k d)[q]! = if i < q ∧ q ≤ k then d[q - 1]! else if q = i then d[k]! else d[q]! := by
  intro k
  induction k with
  | zero =>
    intro d hk hs
    refine ⟨rfl, fun q => ?_⟩
    obtain rfl : i = 0 := by omega
    rw [moveDown, if_neg (by omega)]
    split
    · rename_i h; rw [h]
    · rfl
  | succ k ih =>
    intro d hk hs
    rw [moveDown]
    by_cases hki : k + 1 > i
    · rw [if_pos hki]
      obtain ⟨h1, h2⟩ := ih (swp d (k + 1) k) (by omega) (by rw [swp_size]; omega)
      refine ⟨by rw [h1, swp_size], fun q => ?_⟩
      rw [h2]
      by_cases c1 : i < q ∧ q ≤ k
      · rw [if_pos c1, if_pos (by omega), swp_other _ _ _ _ (by omega) (by omega)]
      rw [if_neg c1]
      by_cases c2 : q = i
      · rw [if_pos c2, if_neg (by omega), if_pos c2, swp_right _ _ _ (by omega)]
      rw [if_neg c2]
      by_cases c3 : q = k + 1
      · subst c3; rw [if_pos (by omega), swp_left _ _ _ (by omega) (by omega)]; rfl
      · rw [if_neg (by omega), if_neg c2, swp_other _ _ _ _ c3 (by omega)]
    · rw [if_neg hki]
      refine ⟨rfl, fun q => ?_⟩
      rw [if_neg (by omega)]
      split
      · rename_i h; rw [h]; congr 1; omega
      · rfl
theorem moveDown_perm (i A B : Nat) : ∀ (k : Nat) (d : Array α), A ≤ i → k < B → B ≤ d.size → PermIn A B d (moveDown i k d) := by
  intro k
  induction k with
  | zero => intro d hA hB hs; exact permIn_refl d A B
  | succ k ih =>
    intro d hA hB hs
    rw [moveDown]
    by_cases hki : k + 1 > i
    · rw [if_pos hki]
      exact permIn_trans _ _ _ _ _ (swp_permIn d A B _ _ (by omega) (by omega) (by omega) (by omega) hs) (ih _ hA (by omega) (by rw [swp_size]; exact hs))
    · rw [if_neg hki]; exact permIn_refl d A B
theorem symMerge_spec {lt : α → α → Bool} (hS : SWO lt) : ∀ (f a m b : Nat) (d : Array α), b - a ≤ f → a < m → m < b → b ≤ d.size → SortedIn lt a m d → SortedIn lt m b d →
    PermIn a b d (symMerge lt f a m b d) ∧ SortedIn lt a b (symMerge lt f a m b d) := by
  intro f
  induction f with
  | zero => intro a m b d hf h1 h2; omega
  | succ f ih =>
    intro a m b d hf h1 h2 hs hA hB
    rw [symMerge]
    by_cases hm1 : m - a = 1
    · rw [if_pos hm1]
      obtain ⟨s1, s2, s3, s4⟩ := half_spec (fun h => lt d[h]! d[a]!) _ m b (Nat.le_refl _) (by omega)
      generalize half (fun h => lt d[h]! d[a]!) m b = i at s1 s2 s3 s4 ⊢
      have p1 : ∀ q, m ≤ q → q < i → lt d[q]! d[a]! = true := by
        intro q hq hqi
        rcases s3 with s3 | s3
        · omega
        · cases hc : lt d[q]! d[a]! with
          | true => rfl
          | false =>
            have s3' : lt d[i - 1]! d[a]! = true := s3
            by_cases hqe : q = i - 1
            · rw [← hqe, hc] at s3'; exact absurd s3' (by decide)
            · have := hS.ntrans _ _ _ (hB q (i - 1) hq (by omega) (by omega)) hc
              rw [this] at s3'; exact absurd s3' (by decide)
      have p2 : ∀ q, i ≤ q → q < b → lt d[q]! d[a]! = false := by
        intro q hq hqb
        rcases s4 with s4 | s4
        · omega
        · have s4' : lt d[i]! d[a]! = false := s4
          by_cases hqe : q = i
          · rw [hqe]; exact s4'
          · exact hS.ntrans _ _ _ (hB i q s1 (by omega) hqb) s4'
      obtain ⟨g1, g2⟩ := moveUp_get (i - 1) _ a d rfl (by omega) (by omega)
      refine ⟨moveUp_perm _ a b _ a d rfl (Nat.le_refl _) (by omega) hs, fun x y hx hxy hy => ?_⟩
      rw [g2, g2]
      by_cases cx : a ≤ x ∧ x < i - 1
      · rw [if_pos cx]
        by_cases cy : a ≤ y ∧ y < i - 1
        · rw [if_pos cy]; exact hB _ _ (by omega) (by omega) (by omega)
        rw [if_neg cy]
        by_cases cy2 : y = i - 1
        · rw [if_pos cy2]; exact hS.asymmA (p1 (x + 1) (by omega) (by omega))
        · rw [if_neg cy2]; exact hB _ _ (by omega) (by omega) hy
      rw [if_neg cx, if_neg (by omega), if_neg (by omega)]
      by_cases cx2 : x = i - 1
      · rw [if_pos cx2]; exact p2 y (by omega) hy
      · rw [if_neg cx2]; exact hB _ _ (by omega) hxy hy
    rw [if_neg hm1]
    by_cases hb1 : b - m = 1
    · rw [if_pos hb1]
      obtain ⟨s1, s2, s3, s4⟩ := half_spec (fun h => !lt d[m]! d[h]!) _ a m (Nat.le_refl _) (by omega)
      generalize half (fun h => !lt d[m]! d[h]!) a m = i at s1 s2 s3 s4 ⊢
      have p1 : ∀ q, a ≤ q → q < i → lt d[m]! d[q]! = false := by
        intro q hq hqi
        rcases s3 with s3 | s3
        · omega
        · have s3' : lt d[m]! d[i - 1]! = false := by simpa using s3
          by_cases hqe : q = i - 1
          · rw [hqe]; exact s3'
          · exact hS.ntrans _ _ _ s3' (hA q (i - 1) hq (by omega) (by omega))
      have p2 : ∀ q, i ≤ q → q < m → lt d[m]! d[q]! = true := by
        intro q hq hqm
        rcases s4 with s4 | s4
        · omega
        · have s4' : lt d[m]! d[i]! = true := by simpa using s4
          cases hc : lt d[m]! d[q]! with
          | true => rfl
          | false =>
            by_cases hqe : q = i
            · rw [← hqe, hc] at s4'; exact absurd s4' (by decide)
            · have := hS.ntrans _ _ _ hc (hA i q (by omega) (by omega) hqm)
              rw [this] at s4'; exact absurd s4' (by decide)
      obtain ⟨g1, g2⟩ := moveDown_get i m d s2 (by omega)
      refine ⟨moveDown_perm _ a b _ d s1 (by omega) hs, fun x y hx hxy hy => ?_⟩
      rw [g2, g2]
      by_cases cx : i < x ∧ x ≤ m
      · rw [if_pos cx, if_pos (by omega)]; exact hA _ _ (by omega) (by omega) (by omega)
      rw [if_neg cx]
      by_cases cx2 : x = i
      · rw [if_pos cx2, if_pos (by omega)]; exact hS.asymmA (p2 (y - 1) (by omega) (by omega))
      rw [if_neg cx2]
      by_cases cy : i < y ∧ y ≤ m
      · rw [if_pos cy]; exact hA _ _ hx (by omega) (by omega)
      rw [if_neg cy]
      by_cases cy2 : y = i
      · rw [if_pos cy2]; exact p1 x hx (by omega)
      · rw [if_neg cy2]; exact hA _ _ hx hxy (by omega)
    rw [if_neg hb1]
    dsimp only
    obtain ⟨mid, hmid⟩ : ∃ mid, mid = (a + b) / 2 := ⟨_, rfl⟩
    rw [← hmid]
    obtain ⟨lo, hlo⟩ : ∃ lo, lo = if m > mid then mid + m - b else a := ⟨_, rfl⟩
    obtain ⟨hi, hhi⟩ : ∃ hi, hi = if m > mid then mid else m := ⟨_, rfl⟩
    rw [← hlo, ← hhi]
    have hlh : lo ≤ hi ∧ a ≤ lo ∧ hi ≤ m ∧ hi ≤ mid ∧ mid + m - lo ≤ b ∧ (lo = a ∨ mid + m - lo = b) ∧ (hi = m ∨ hi = mid) := by
      by_cases c : m > mid
      · rw [if_pos c] at hlo hhi; omega
      · rw [if_neg c] at hlo hhi; omega
    obtain ⟨l1, l2, l3, l4, l5, l6, l7⟩ := hlh
    obtain ⟨s1, s2, s3, s4⟩ := half_spec (fun c => !lt d[mid + m - 1 - c]! d[c]!) _ lo hi (Nat.le_refl _) l1
    generalize half (fun c => !lt d[mid + m - 1 - c]! d[c]!) lo hi = s at s1 s2 s3 s4 ⊢
    obtain ⟨e, he⟩ : ∃ e, e = mid + m - s := ⟨_, rfl⟩
    rw [← he]
    have c1 : ∀ i j, a ≤ i → i < s → e ≤ j → j < b → lt d[j]! d[i]! = false := by
      intro i j hi1 hi2 hj1 hj2
      rcases s3 with s3 | s3
      · omega
      · have s3' : lt d[mid + m - 1 - (s - 1)]! d[s - 1]! = false := by simpa using s3
        rw [show mid + m - 1 - (s - 1) = e by omega] at s3'
        have t1 : lt d[e]! d[i]! = false := by
          by_cases hie : i = s - 1
          · rw [hie]; exact s3'
          · exact hS.ntrans _ _ _ s3' (hA i (s - 1) hi1 (by omega) (by omega))
        by_cases hje : j = e
        · rw [hje]; exact t1
        · exact hS.ntrans _ _ _ (hB e j (by omega) (by omega) hj2) t1
    have c2 : ∀ i j, m ≤ i → i < e → s ≤ j → j < m → lt d[j]! d[i]! = false := by
      intro i j hi1 hi2 hj1 hj2
      rcases s4 with s4 | s4
      · omega
      · have s4' : lt d[mid + m - 1 - s]! d[s]! = true := by simpa using s4
        rw [show mid + m - 1 - s = e - 1 by omega] at s4'
        have t0 := hS.asymmA s4'
        have t1 : lt d[s]! d[i]! = false := by
          by_cases hie : i = e - 1
          · rw [hie]; exact t0
          · exact hS.ntrans _ _ _ t0 (hB i (e - 1) hi1 (by omega) (by omega))
        by_cases hje : j = s
        · rw [hje]; exact t1
        · exact hS.ntrans _ _ _ (hA s j (by omega) (by omega) hj2) t1
    obtain ⟨d1, hd1⟩ : ∃ d1, d1 = if s < m ∧ m < e then rotate d s m e else d := ⟨_, rfl⟩
    rw [← hd1]
    have hP1 : PermIn a b d d1 := by
      rw [hd1]
      split
      · rename_i h
        exact permIn_mono d _ s e a b (by omega) (by omega) hs (rotate_perm d s m e h.1 h.2 (by omega))
      · exact permIn_refl d a b
    have g : (∀ q, a ≤ q → q < s → d1[q]! = d[q]!) ∧ (∀ q, s ≤ q → q < mid → d1[q]! = d[m + (q - s)]!) ∧ (∀ q, mid ≤ q → q < e → d1[q]! = d[s + (q - mid)]!) ∧ (∀ q, e ≤ q → q < b → d1[q]! = d[q]!) := by
      by_cases h : s < m ∧ m < e
      · rw [if_pos h] at hd1
        have hg := rotate_get d s m e h.1 h.2 (by omega)
        rw [← hd1] at hg
        refine ⟨fun q q1 q2 => ?_, fun q q1 q2 => ?_, fun q q1 q2 => ?_, fun q q1 q2 => ?_⟩
        · rw [hg, if_neg (by omega), if_neg (by omega)]
        · rw [hg, if_pos (by omega)]
        · rw [hg, if_neg (by omega), if_pos (by omega)]; congr 1; omega
        · rw [hg, if_neg (by omega), if_neg (by omega)]
      · rw [if_neg h] at hd1
        subst hd1
        refine ⟨fun q q1 q2 => rfl, fun q q1 q2 => ?_, fun q q1 q2 => ?_, fun q q1 q2 => rfl⟩
        · congr 1; omega
        · congr 1; omega
    obtain ⟨g1, g2, g3, g4⟩ := g
    have b1 : d1.size = d.size := hP1.1
    have k1 : SortedIn lt a s d1 := (hA.smono (Nat.le_refl _) (by omega)).scongr g1
    have k4 : SortedIn lt e b d1 := (hB.smono (by omega) (Nat.le_refl _)).scongr g4
    have k2 : SortedIn lt s mid d1 := fun x y hx hxy hy => by rw [g2 x hx (by omega), g2 y (by omega) hy]; exact hB _ _ (by omega) (by omega) (by omega)
    have k3 : SortedIn lt mid e d1 := fun x y hx hxy hy => by rw [g3 x hx (by omega), g3 y (by omega) hy]; exact hA _ _ (by omega) (by omega) (by omega)
    have kx : ∀ x y, a ≤ x → x < mid → mid ≤ y → y < b → lt d1[y]! d1[x]! = false := by
      intro x y x1 x2 y1 y2
      by_cases cx : x < s
      · rw [g1 x x1 cx]
        by_cases cy : y < e
        · rw [g3 y y1 cy]; exact hA _ _ x1 (by omega) (by omega)
        · rw [g4 y (by omega) y2]; exact c1 _ _ x1 cx (by omega) y2
      · rw [g2 x (by omega) x2]
        by_cases cy : y < e
        · rw [g3 y y1 cy]; exact c2 _ _ (by omega) (by omega) (by omega) (by omega)
        · rw [g4 y (by omega) y2]; exact hB _ _ (by omega) (by omega) y2
    obtain ⟨d2, hd2⟩ : ∃ d2, d2 = if a < s ∧ s < mid then symMerge lt f a s mid d1 else d1 := ⟨_, rfl⟩
    rw [← hd2]
    have h2' : PermIn a mid d1 d2 ∧ SortedIn lt a mid d2 := by
      by_cases h : a < s ∧ s < mid
      · rw [if_pos h] at hd2; rw [hd2]
        exact ih a s mid d1 (by omega) h.1 h.2 (by omega) k1 k2
      · rw [if_neg h] at hd2; rw [hd2]
        refine ⟨permIn_refl _ _ _, ?_⟩
        by_cases hsa : s = a
        · rw [← hsa]; exact k2
        · have : s = mid := by omega
          rw [← this]; exact k1
    have b2 : d2.size = d.size := h2'.1.1.trans b1
    obtain ⟨d3, hd3⟩ : ∃ d3, d3 = if mid < e ∧ e < b then symMerge lt f mid e b d2 else d2 := ⟨_, rfl⟩
    rw [← hd3]
    have o2 : ∀ q, mid ≤ q → d2[q]! = d1[q]! := fun q hq => h2'.1.2.1 q (.inr hq)
    have h3' : PermIn mid b d2 d3 ∧ SortedIn lt mid b d3 := by
      have k3' : SortedIn lt mid e d2 := k3.scongr (fun q q1 _ => o2 q q1)
      have k4' : SortedIn lt e b d2 := k4.scongr (fun q q1 _ => o2 q (by omega))
      by_cases h : mid < e ∧ e < b
      · rw [if_pos h] at hd3; rw [hd3]
        exact ih mid e b d2 (by omega) h.1 h.2 (by omega) k3' k4'
      · rw [if_neg h] at hd3; rw [hd3]
        refine ⟨permIn_refl _ _ _, ?_⟩
        by_cases hsa : e = mid
        · rw [← hsa]; exact k4'
        · have : e = b := by omega
          rw [← this]; exact k3'
    have o3 : ∀ q, q < mid → d3[q]! = d2[q]! := fun q hq => h3'.1.2.1 q (.inl hq)
    refine ⟨permIn_trans _ _ _ _ _ hP1 (permIn_trans _ _ _ _ _ (permIn_mono _ _ a mid a b (Nat.le_refl _) (by omega) (by omega) h2'.1) (permIn_mono _ _ mid b a b (by omega) (Nat.le_refl _) (by omega) h3'.1)), ?_⟩
    have x2 : ∀ x, a ≤ x → x < mid → ∀ y, mid ≤ y → y < b → lt d1[y]! d2[x]! = false :=
      permIn_all d1 d2 a mid (fun v => ∀ y, mid ≤ y → y < b → lt d1[y]! v = false) (by omega) h2'.1 (fun x x1 x2 y y1 y2 => kx x y x1 x2 y1 y2)
    have x3 : ∀ y, mid ≤ y → y < b → ∀ x, a ≤ x → x < mid → lt d3[y]! d2[x]! = false :=
      permIn_all d2 d3 mid b (fun v => ∀ x, a ≤ x → x < mid → lt v d2[x]! = false) (by omega) h3'.1 (fun y y1 y2 x x1 x2' => by rw [o2 y y1]; exact x2 x x1 x2' y y1 y2)
    intro x y hx hxy hy
    by_cases cy : y < mid
    · rw [o3 x (by omega), o3 y cy]; exact h2'.2 x y hx hxy cy
    by_cases cx : x < mid
    · rw [o3 x cx]; exact x3 y (by omega) hy x hx cx
    · exact h3'.2 x y (by omega) hxy hy

/-! ### The whole: blocks, then merges -/
section
variable (lt : α → α → Bool)
def insBlocks (n a b : Nat) (d : Array α) : Array α :=
  if b ≤ n ∧ a < b then insBlocks n b (b + 20) (insertionSort lt d a b) else insertionSort lt d a n
termination_by n + 1 - a
def mergeBlocks (n bs a b : Nat) (d : Array α) : Array α :=
  if b ≤ n ∧ a < b then mergeBlocks n bs b (b + 2 * bs) (symMerge lt (b - a) a (a + bs) b d)
  else if a + bs < n then symMerge lt (n - a) a (a + bs) n d else d
termination_by n + 1 - a
def stLoop (n bs : Nat) (d : Array α) : Array α :=
  if bs < n ∧ 0 < bs then stLoop n (bs * 2) (mergeBlocks lt n bs 0 (2 * bs) d) else d
termination_by n - bs
def stable (d : Array α) : Array α := stLoop lt d.size 20 (insBlocks lt d.size 0 20 d)
end
/-- Every block of bs elements is ascending, from p on. -/
def Bl (lt : α → α → Bool) (n bs : Nat) (d : Array α) : Prop := ∀ q, SortedIn lt (q * bs) (min (q * bs + bs) n) d
theorem insBlocks_spec {lt : α → α → Bool} (hS : SWO lt) (n : Nat) : ∀ (k c : Nat) (d : Array α), n + 1 - c * 20 ≤ k → n ≤ d.size → c * 20 ≤ n → (∀ q, q < c → SortedIn lt (q * 20) (q * 20 + 20) d) →
    PermIn 0 n d (insBlocks lt n (c * 20) (c * 20 + 20) d) ∧ Bl lt n 20 (insBlocks lt n (c * 20) (c * 20 + 20) d) := by
  intro k
  induction k with
  | zero => intro c d h hs hc; omega
  | succ k ih =>
    intro c d h hs hc hd
    rw [insBlocks]
    by_cases hb : c * 20 + 20 ≤ n
    · rw [if_pos ⟨hb, by omega⟩]
      obtain ⟨p1, p2⟩ := insertionSort_holds (lt := lt) hS d (c * 20) (c * 20 + 20) (by omega) (by omega)
      have := ih (c + 1) (insertionSort lt d (c * 20) (c * 20 + 20)) (by omega) (by rw [p1.1]; exact hs) (by omega) (fun q hq => ?_)
      · rw [show (c + 1) * 20 = c * 20 + 20 by omega] at this
        exact ⟨permIn_trans _ _ _ _ _ (permIn_mono _ _ _ _ 0 n (by omega) hb hs p1) this.1, this.2⟩
      · by_cases hqc : q = c
        · rw [hqc]; exact p2
        · exact (hd q (by omega)).scongr (fun i i1 i2 => p1.2.1 i (.inl (by omega)))
    · rw [if_neg (by omega)]
      obtain ⟨p1, p2⟩ := insertionSort_holds (lt := lt) hS d (c * 20) n hc hs
      refine ⟨permIn_mono _ _ _ _ 0 n (by omega) (Nat.le_refl _) hs p1, fun q => ?_⟩
      by_cases hqc : q < c
      · exact ((hd q hqc).scongr (fun i i1 i2 => p1.2.1 i (.inl (by omega)))).smono (Nat.le_refl _) (by omega)
      · by_cases hqe : q = c
        · rw [hqe]; exact p2.smono (Nat.le_refl _) (by omega)
        · intro i j h1 h2 h3; omega
theorem mergeBlocks_spec {lt : α → α → Bool} (hS : SWO lt) (n bs : Nat) (hbs : 0 < bs) : ∀ (k c : Nat) (d : Array α), n + 1 - c * (2 * bs) ≤ k → n ≤ d.size → c * (2 * bs) ≤ n → (∀ q, q < c → SortedIn lt (q * (2 * bs)) (q * (2 * bs) + 2 * bs) d) → (∀ q, 2 * c ≤ q → SortedIn lt (q * bs) (min (q * bs + bs) n) d) →
    PermIn 0 n d (mergeBlocks lt n bs (c * (2 * bs)) (c * (2 * bs) + 2 * bs) d) ∧ Bl lt n (2 * bs) (mergeBlocks lt n bs (c * (2 * bs)) (c * (2 * bs) + 2 * bs) d) := by
  intro k
  induction k with
  | zero => intro c d h hs hc; omega
  | succ k ih =>
    intro c d h hs hc hd hr
    have e1 : (2 * c) * bs = c * (2 * bs) := by rw [Nat.mul_comm 2 c, Nat.mul_assoc]
    have e2 : (2 * c + 1) * bs = c * (2 * bs) + bs := by rw [Nat.add_mul, e1, Nat.one_mul]
    have e3 : (c + 1) * (2 * bs) = c * (2 * bs) + 2 * bs := by rw [Nat.add_mul, Nat.one_mul]
    have r1 := hr (2 * c) (Nat.le_refl _)
    have r2 := hr (2 * c + 1) (by omega)
    rw [e1] at r1
    rw [e2] at r2
    rw [mergeBlocks]
    generalize hA : c * (2 * bs) = A at *
    by_cases hb : A + 2 * bs ≤ n
    · rw [if_pos ⟨hb, by omega⟩]
      obtain ⟨p1, p2⟩ := symMerge_spec hS (A + 2 * bs - A) A (A + bs) (A + 2 * bs) d (Nat.le_refl _) (by omega) (by omega) (by omega) (r1.smono (Nat.le_refl _) (by omega)) (r2.smono (Nat.le_refl _) (by omega))
      have := ih (c + 1) (symMerge lt (A + 2 * bs - A) A (A + bs) (A + 2 * bs) d) (by rw [e3]; omega) (by rw [p1.1]; exact hs) (by rw [e3]; exact hb) (fun q hq => ?_) (fun q hq => ?_)
      · rw [e3] at this
        exact ⟨permIn_trans _ _ _ _ _ (permIn_mono _ _ _ _ 0 n (by omega) hb hs p1) this.1, this.2⟩
      · by_cases hqc : q = c
        · rw [hqc, hA]; exact p2
        · refine (hd q (by omega)).scongr (fun i i1 i2 => p1.2.1 i (.inl ?_))
          have : (q + 1) * (2 * bs) ≤ c * (2 * bs) := Nat.mul_le_mul_right _ (by omega)
          rw [Nat.add_mul, Nat.one_mul, hA] at this
          omega
      · refine (hr q (by omega)).scongr (fun i i1 i2 => p1.2.1 i (.inr ?_))
        have : (2 * c + 2) * bs ≤ q * bs := Nat.mul_le_mul_right _ (by omega)
        rw [Nat.add_mul, e1] at this
        omega
    · rw [if_neg (by omega)]
      have low : ∀ d' : Array α, PermIn A n d d' → SortedIn lt A n d' → Bl lt n (2 * bs) d' := by
        intro d' p1 p2 q
        by_cases hqc : q < c
        · refine ((hd q hqc).scongr (fun i i1 i2 => p1.2.1 i (.inl ?_))).smono (Nat.le_refl _) (by omega)
          have : (q + 1) * (2 * bs) ≤ c * (2 * bs) := Nat.mul_le_mul_right _ (by omega)
          rw [Nat.add_mul, Nat.one_mul, hA] at this
          omega
        · by_cases hqe : q = c
          · rw [hqe, hA]; exact p2.smono (Nat.le_refl _) (by omega)
          · have : (c + 1) * (2 * bs) ≤ q * (2 * bs) := Nat.mul_le_mul_right _ (by omega)
            rw [e3] at this
            intro i j h1 h2 h3; omega
      by_cases hm : A + bs < n
      · rw [if_pos hm]
        obtain ⟨p1, p2⟩ := symMerge_spec hS (n - A) A (A + bs) n d (Nat.le_refl _) (by omega) hm hs (r1.smono (Nat.le_refl _) (by omega)) (r2.smono (Nat.le_refl _) (by omega))
        exact ⟨permIn_mono _ _ _ _ 0 n (by omega) (Nat.le_refl _) hs p1, low _ p1 p2⟩
      · rw [if_neg hm]
        exact ⟨permIn_refl _ _ _, low _ (permIn_refl _ _ _) (r1.smono (Nat.le_refl _) (by omega))⟩
theorem stLoop_spec {lt : α → α → Bool} (hS : SWO lt) (n : Nat) : ∀ (k bs : Nat) (d : Array α), n - bs ≤ k → 0 < bs → n ≤ d.size → Bl lt n bs d → PermIn 0 n d (stLoop lt n bs d) ∧ SortedIn lt 0 n (stLoop lt n bs d) := by
  intro k
  induction k with
  | zero =>
    intro bs d h hb hs hd
    rw [stLoop, if_neg (by omega)]
    have := hd 0
    rw [Nat.zero_mul] at this
    exact ⟨permIn_refl _ _ _, this.smono (Nat.le_refl _) (by omega)⟩
  | succ k ih =>
    intro bs d h hb hs hd
    rw [stLoop]
    by_cases hbn : bs < n
    · rw [if_pos ⟨hbn, hb⟩]
      have m := mergeBlocks_spec hS n bs hb (n + 1) 0 d (by omega) hs (by omega) (fun q hq => by omega) (fun q _ => hd q)
      rw [Nat.zero_mul, Nat.zero_add] at m
      have := ih (bs * 2) (mergeBlocks lt n bs 0 (2 * bs) d) (by omega) (by omega) (by rw [m.1.1]; exact hs) (by rw [Nat.mul_comm]; exact m.2)
      exact ⟨permIn_trans _ _ _ _ _ m.1 this.1, this.2⟩
    · rw [if_neg (by omega)]
      have := hd 0
      rw [Nat.zero_mul] at this
      exact ⟨permIn_refl _ _ _, this.smono (Nat.le_refl _) (by omega)⟩
theorem stable_spec {lt : α → α → Bool} (hS : SWO lt) (d : Array α) : PermIn 0 d.size d (stable lt d) ∧ SortedIn lt 0 d.size (stable lt d) := by
  have b := insBlocks_spec hS d.size (d.size + 1) 0 d (by omega) (Nat.le_refl _) (by omega) (fun q hq => by omega)
  rw [Nat.zero_mul, Nat.zero_add] at b
  have s := stLoop_spec hS d.size d.size 20 _ (by omega) (by omega) (by rw [b.1.1]; exact Nat.le_refl _) b.2
  exact ⟨permIn_trans _ _ _ _ _ b.1 s.1, s.2⟩
end Go.Proofs.Ytcicdnleeknjgaa.Stab
