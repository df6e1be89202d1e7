/- arbiter: the walks of the stable sort's parts, at elements of k cells. -/
import Derived.Test.YtcicdnleeknjgaaProg
import Derived.Test.YtcicdnleeknjgaaChecked
import Derived.Test.YtcicdnleeknjgaaMyStab
import Derived.Shelf.SlSortCmp.InsertionK
set_option linter.unusedVariables false
set_option linter.unusedSimpArgs false
namespace Go.Proofs.Ytcicdnleeknjgaa.ArbW
open Go Go.Proofs Go.Shelf Go.RowKit Go.Lib Go.Sort Go.Proofs.Ytcicdnleeknjgaa.Stab
variable {α : Type} [Inhabited α]

theorem swapFrom_go (a b n i : Nat) (d : Array α) (h : i < n) : swapFrom a b n i d = swapFrom a b n (i + 1) (swp d (a + i) (b + i)) := by rw [swapFrom, if_pos h]
theorem swapFrom_stop (a b n i : Nat) (d : Array α) (h : ¬ i < n) : swapFrom a b n i d = d := by rw [swapFrom, if_neg h]

set_option maxHeartbeats 4000000 in
set_option maxRecDepth 1000000 in
theorem swapRange_calls (k : Nat) (zE : ∀ w, (Go.sizeOf 23).run Try.prog w = .ok k w) (enc : α → List Value) (hk : ∀ x, (enc x).length = k) (h1 : ∀ x, ∀ v ∈ enc x, v.oneCell' = true)
    (fv : Value) (blk off cap a b n L : Nat) (d : Array α) (w : World)
    (hH : HoldsK enc k w blk off d) (hblk : blk < w.heap.size) (hab : a + n ≤ b) (hb : b + n ≤ d.size) (hL : d.size = L) (hsz : L < 4611686018427387904) :
    Calls Try.prog 33 #[.slice (some ⟨blk, off, none⟩) L cap, .int .i64 a, .int .i64 b, .int .i64 n, fv] w fun e w' =>
      e = .returned (.tuple #[]) ∧ ∃ m os, w' = sortWorldK enc k w blk off m (swapRange d a b n) os := by
  subst hL
  have mixed : Try.prog.follows .mixedOrders = true := by kernel_rfl
  have aE : ∀ w, (isAgg 23).run Try.prog w = .ok true w := fun w => by rfl
  have HST : Hid (w = sortWorldK enc k w blk off 0 d #[]) := by show w = _; unfold sortWorldK; rw [grow_empty]; exact (putRowK_self enc k w blk off d hH).symm
  have HH : Hid (HoldsK enc k w blk off d) := hH
  have HK : Hid (∀ x, (enc x).length = k) := hk
  have H1 : Hid (∀ x, ∀ v ∈ enc x, v.oneCell' = true) := h1
  clear hH hk h1
  go_enter Try.func33, Try.ntmps33
  go_wp2
  go_loopg [10] n (fun g1 vi wr => ∃ (i m : Nat) (dk : Array α) (os : Array Obj), vi = .int .i64 i ∧ i ≤ n ∧ n - i ≤ g1 ∧ dk.size = d.size ∧ wr = sortWorldK enc k w blk off m dk os ∧ Hid (swapFrom a b n i dk = swapFrom a b n 0 d))
  case atStart => exact ⟨0, 0, d, #[], rfl, by omega, by omega, rfl, HST.out, rfl⟩
  case round =>
    obtain ⟨i, m, dk, os, rfl, hin, hg1, hsk, rfl, HO⟩ := hrel
    by_cases hlt : i < n
    · have hltz : (i : Int) < (n : Int) := by omega
      obtain ⟨xa, hxa⟩ : ∃ x, dk[a + i]! = x := ⟨_, rfl⟩
      obtain ⟨xb, hxb⟩ : ∃ x, dk[b + i]! = x := ⟨_, rfl⟩
      have wa : IntKind.i64.wrap ((a : Int) + (i : Int)) = (a : Int) + (i : Int) := by rw [IntKind.wrap_i64]; omega
      have wb : IntKind.i64.wrap ((b : Int) + (i : Int)) = (b : Int) + (i : Int) := by rw [IntKind.wrap_i64]; omega
      have wi : IntKind.i64.wrap ((i : Int) + 1) = (i : Int) + 1 := by rw [IntKind.wrap_i64]; omega
      have ta : ((a : Int) + (i : Int)).toNat = a + i := by omega
      have tb : ((b : Int) + (i : Int)).toNat = b + i := by omega
      have pa0 : (0 : Int) ≤ (a : Int) + (i : Int) := by omega
      have pb0 : (0 : Int) ≤ (b : Int) + (i : Int) := by omega
      have pa1 : (a : Int) + (i : Int) < (d.size : Int) := by omega
      have pb1 : (b : Int) + (i : Int) < (d.size : Int) := by omega
      have hHd : HoldsK enc k (sortWorldK enc k w blk off m dk os).drew blk off dk := by
        have : HoldsK enc k (sortWorldK enc k w blk off m dk os) blk off dk := holdsK_sortWorldK_c enc k w blk off d dk _ _ HH.out hblk hsk
        exact this
      have bnd : ∀ x, x < dk.size → x * k + k ≤ dk.size * k := fun x hx => by
        have := Nat.mul_le_mul_right k (show x + 1 ≤ dk.size from hx); rwa [Nat.add_mul, Nat.one_mul] at this
      generalize hw2 : sortWorldK enc k w blk off m dk os = wq at hHd ⊢
      go_wp2_with fail
      have la : Sem.run Try.prog (loadCellsFrom ⟨blk, off + (a + i) * k, none⟩ 0 k #[]) wq.drew = .ok (enc xa).toArray wq.drew := by rw [← hxa]; exact run_loadCellsFrom_list Try.prog _ _ _ k (HK.out _) (HoldsK.cells hHd HK.out (by omega))
      have lb : Sem.run Try.prog (loadCellsFrom ⟨blk, off + (b + i) * k, none⟩ 0 k #[]) wq.drew = .ok (enc xb).toArray wq.drew := by rw [← hxb]; exact run_loadCellsFrom_list Try.prog _ _ _ k (HK.out _) (HoldsK.cells hHd HK.out (by omega))
      have s1 : Sem.run Try.prog (storeCells ⟨blk, off + (a + i) * k, none⟩ (enc xb) 0) wq.drew = .ok () (wq.drew.setCells blk (off + (a + i) * k) (enc xb)) := stores_of_holds Try.prog hHd ((a + i) * k) _ (by rw [HK.out, size_flatK]; exact bnd (a + i) (by omega)) (H1.out _)
      have s2 : Sem.run Try.prog (storeCells ⟨blk, off + (b + i) * k, none⟩ (enc xa) 0) (wq.drew.setCells blk (off + (a + i) * k) (enc xb)) = .ok () ((wq.drew.setCells blk (off + (a + i) * k) (enc xb)).setCells blk (off + (b + i) * k) (enc xa)) :=
        stores_of_holds Try.prog (holds_setCells_c hHd ((a + i) * k) _ (by rw [HK.out, size_flatK]; exact bnd (a + i) (by omega))) ((b + i) * k) _ (by rw [HK.out, size_setMany, size_flatK]; exact bnd (b + i) (by omega)) (H1.out _)
      have hsA : (enc xa).length = k := HK.out _
      have hsB : (enc xb).length = k := HK.out _
      have HW2 : Hid (wq = sortWorldK enc k w blk off m dk os) := hw2.symm
      clear hw2 hHd bnd
      obtain ⟨cA, hcA⟩ : ∃ c, c = enc xa := ⟨_, rfl⟩
      obtain ⟨cB, hcB⟩ : ∃ c, c = enc xb := ⟨_, rfl⟩
      rw [← hcA] at la hsA
      rw [← hcB] at lb hsB s1
      rw [← hcA, ← hcB] at s2
      have CC : Hid (cA = enc xa ∧ cB = enc xb) := ⟨hcA, hcB⟩
      clear hcA hcB
      go_big_region_o
      all_goals go_wp2
      go_roundg (n - (i + 1))
      case measure => omega
      case rel =>
        refine ⟨i + 1, m + 1, swp dk (a + i) (b + i), os, by first | rfl | go_num | (congr 1; omega), by omega, by omega, by rw [size_swp]; exact hsk, ?_, (show Hid _ from ?_)⟩
        · rw [CC.out.1, CC.out.2, HW2.out, ← hxa, ← hxb]
          exact sortWorldK_swp_c enc k w blk off HK.out m dk os hblk (a + i) (b + i) (by omega) (by omega)
        · show _ = _
          rw [← HO.out, swapFrom_go a b n i dk hlt]
    · have hltz : ¬ (i : Int) < (n : Int) := by omega
      go_wp2
      go_end0
      exact ⟨rfl, m, os, by unfold swapRange; rw [← HO.out, swapFrom_stop _ _ _ _ _ hlt]⟩

theorem rotLoop_eq (m k i : Nat) (d : Array α) : rotLoop m (k + 1) i i d = swapRange d (m - i) m i := by rw [rotLoop, if_pos rfl]
theorem rotLoop_gt (m k i j : Nat) (d : Array α) (h : i > j) : rotLoop m (k + 1) i j d = rotLoop m k (i - j) j (swapRange d (m - i) m j) := by rw [rotLoop, if_neg (by omega), if_pos h]
theorem rotLoop_lt (m k i j : Nat) (d : Array α) (h : i < j) : rotLoop m (k + 1) i j d = rotLoop m k i (j - i) (swapRange d (m - i) (m + j - i) i) := by rw [rotLoop, if_neg (by omega), if_neg (by omega)]
theorem sortWorldK_on' (enc : α → List Value) (k : Nat) (w : World) (blk off n m : Nat) (dk dk' : Array α) (os os' : Array Obj) (hblk : blk < w.heap.size) (h : dk'.size = dk.size) :
    sortWorldK enc k (sortWorldK enc k w blk off n dk os) blk off m dk' os' = sortWorldK enc k w blk off (n + m) dk' (os ++ os') := grow_step_growK enc k w os os' n m blk off dk dk' hblk h

set_option maxHeartbeats 4000000 in
set_option maxRecDepth 1000000 in
theorem rotate_calls (k : Nat) (zE : ∀ w, (Go.sizeOf 23).run Try.prog w = .ok k w) (enc : α → List Value) (hk : ∀ x, (enc x).length = k) (h1 : ∀ x, ∀ v ∈ enc x, v.oneCell' = true)
    (fv : Value) (blk off cap a m b L : Nat) (d : Array α) (w : World)
    (hH : HoldsK enc k w blk off d) (hblk : blk < w.heap.size) (ham : a < m) (hmb : m < b) (hb : b ≤ d.size) (hL : d.size = L) (hsz : L < 4611686018427387904) :
    Calls Try.prog 32 #[.slice (some ⟨blk, off, none⟩) L cap, .int .i64 a, .int .i64 m, .int .i64 b, fv] w fun e w' =>
      e = .returned (.tuple #[]) ∧ ∃ n os, w' = sortWorldK enc k w blk off n (rotate d a m b) os := by
  subst hL
  have HST : Hid (w = sortWorldK enc k w blk off 0 d #[]) := by show w = _; unfold sortWorldK; rw [grow_empty]; exact (putRowK_self enc k w blk off d hH).symm
  have HH : Hid (HoldsK enc k w blk off d) := hH
  have HK : Hid (∀ x, (enc x).length = k) := hk
  have H1 : Hid (∀ x, ∀ v ∈ enc x, v.oneCell' = true) := h1
  have ZE : Hid (∀ w, (Go.sizeOf 23).run Try.prog w = .ok k w) := zE
  clear hH hk h1 zE
  have wma : IntKind.i64.wrap ((m : Int) - (a : Int)) = ((m - a : Nat) : Int) := by rw [IntKind.wrap_i64]; omega
  have wbm : IntKind.i64.wrap ((b : Int) - (m : Int)) = ((b - m : Nat) : Int) := by rw [IntKind.wrap_i64]; omega
  go_enter Try.func32, Try.ntmps32
  go_wp2
  go_loopg [10, 11] (b - a) (fun g1 vi vj wr => ∃ (i j f n : Nat) (dk : Array α) (os : Array Obj), vi = .int .i64 i ∧ vj = .int .i64 j ∧ 1 ≤ i ∧ 1 ≤ j ∧ a + i ≤ m ∧ m + j ≤ b ∧ i + j ≤ f + 1 ∧ f ≤ g1 ∧ dk.size = d.size ∧ wr = sortWorldK enc k w blk off n dk os ∧ Hid (rotLoop m (f + 1) i j dk = rotate d a m b))
  case atStart => exact ⟨m - a, b - m, b - a - 1, 0, d, #[], rfl, rfl, by omega, by omega, by omega, by omega, by omega, by omega, rfl, HST.out, by show _ = _; unfold rotate; rw [show b - a - 1 + 1 = b - a by omega]⟩
  case round =>
    obtain ⟨i, j, f, n, dk, os, rfl, rfl, hi1, hj1, hai, hjb, hf, hg1, hsk, rfl, HO⟩ := hrel
    have hHk : HoldsK enc k (sortWorldK enc k w blk off n dk os) blk off dk := holdsK_sortWorldK_c enc k w blk off d dk _ _ HH.out hblk hsk
    have hlt : blk < (sortWorldK enc k w blk off n dk os).heap.size := Nat.lt_of_lt_of_le hblk (size_sortWorldK_c enc k w blk off n dk os)
    have wmi : IntKind.i64.wrap ((m : Int) - (i : Int)) = ((m - i : Nat) : Int) := by rw [IntKind.wrap_i64]; omega
    by_cases hij : i = j
    · subst hij
      go_wp2_with (first | (go_at_call 33; refine (swapRange_calls k ZE.out enc HK.out H1.out fv blk off cap (m - i) m i d.size dk _ hHk hlt (by omega) (by omega) hsk hsz).mono ?_; rintro e w' ⟨rfl, n1, os1, rfl⟩))
      go_end0
      refine ⟨rfl, n + n1, os ++ os1, ?_⟩
      rw [sortWorldK_on' enc k w blk off n n1 dk _ os os1 hblk (by simp), ← HO.out, rotLoop_eq]
    · have hijz : ¬ (i : Int) = (j : Int) := by omega
      by_cases hgt : j < i
      · have hgtz : (j : Int) < (i : Int) := by omega
        have wij : IntKind.i64.wrap ((i : Int) - (j : Int)) = ((i - j : Nat) : Int) := by rw [IntKind.wrap_i64]; omega
        obtain ⟨f', rfl⟩ : ∃ f', f = f' + 1 := ⟨f - 1, by omega⟩
        go_wp2_with (first | (go_at_call 33; refine (swapRange_calls k ZE.out enc HK.out H1.out fv blk off cap (m - i) m j d.size dk _ hHk hlt (by omega) (by omega) hsk hsz).mono ?_; rintro e w' ⟨rfl, n1, os1, rfl⟩))
        go_roundg f'
        case measure => omega
        case rel =>
          refine ⟨i - j, j, f', n + n1, swapRange dk (m - i) m j, os ++ os1, rfl, rfl, by omega, hj1, by omega, hjb, by omega, Nat.le_refl _, by simpa using hsk, ?_, (show Hid _ from ?_)⟩
          · exact sortWorldK_on' enc k w blk off n n1 dk _ os os1 hblk (by simp)
          · show _ = _
            rw [← HO.out, rotLoop_gt _ _ _ _ _ hgt]
      · have hgtz : ¬ (j : Int) < (i : Int) := by omega
        have wji : IntKind.i64.wrap ((j : Int) - (i : Int)) = ((j - i : Nat) : Int) := by rw [IntKind.wrap_i64]; omega
        have wmj : IntKind.i64.wrap ((m : Int) + (j : Int)) = (m : Int) + (j : Int) := by rw [IntKind.wrap_i64]; omega
        have wmji : IntKind.i64.wrap ((m : Int) + (j : Int) - (i : Int)) = ((m + j - i : Nat) : Int) := by rw [IntKind.wrap_i64]; omega
        obtain ⟨f', rfl⟩ : ∃ f', f = f' + 1 := ⟨f - 1, by omega⟩
        go_wp2_with (first | (go_at_call 33; refine (swapRange_calls k ZE.out enc HK.out H1.out fv blk off cap (m - i) (m + j - i) i d.size dk _ hHk hlt (by omega) (by omega) hsk hsz).mono ?_; rintro e w' ⟨rfl, n1, os1, rfl⟩))
        go_roundg f'
        case measure => omega
        case rel =>
          refine ⟨i, j - i, f', n + n1, swapRange dk (m - i) (m + j - i) i, os ++ os1, rfl, rfl, hi1, by omega, hai, by omega, by omega, Nat.le_refl _, by simpa using hsk, ?_, (show Hid _ from ?_)⟩
          · exact sortWorldK_on' enc k w blk off n n1 dk _ os os1 hblk (by simp)
          · show _ = _
            rw [← HO.out, rotLoop_lt m _ i j dk (show i < j by omega)]
end Go.Proofs.Ytcicdnleeknjgaa.ArbW
