/- arbiter: the walk of the merge in place. -/
import Derived.Test.YtcicdnleeknjgaaMyArbW
set_option linter.unusedVariables false
set_option linter.unusedSimpArgs false
namespace Go.Proofs.Ytcicdnleeknjgaa.ArbW
open Go Go.Proofs Go.Shelf Go.RowKit Go.Lib Go.Sort Go.Proofs.Ytcicdnleeknjgaa.Stab
variable {α : Type} [Inhabited α]

theorem half_go1 (p : Nat → Bool) (i j h : Nat) (hij : i < j) (hh : h = (i + j) / 2) (hp : p h = true) : half p i j = half p (h + 1) j := by rw [half, if_pos hij, ← hh, if_pos hp]
theorem half_go0 (p : Nat → Bool) (i j h : Nat) (hij : i < j) (hh : h = (i + j) / 2) (hp : p h = false) : half p i j = half p i h := by rw [half, if_pos hij, ← hh, if_neg (by rw [hp]; decide)]
theorem half_stop (p : Nat → Bool) (i j : Nat) (hij : ¬ i < j) : half p i j = i := by rw [half, if_neg hij]
theorem moveUp_go (e k : Nat) (d : Array α) (h : k < e) : moveUp e k d = moveUp e (k + 1) (swp d k (k + 1)) := by rw [moveUp, if_pos h]
theorem moveUp_stop (e k : Nat) (d : Array α) (h : ¬ k < e) : moveUp e k d = d := by rw [moveUp, if_neg h]
theorem moveDown_go (i k : Nat) (d : Array α) (h : k + 1 > i) : moveDown i (k + 1) d = moveDown i k (swp d (k + 1) k) := by rw [moveDown, if_pos h]
theorem moveDown_stop (i k : Nat) (d : Array α) (h : ¬ k > i) : moveDown i k d = d := by
  cases k with
  | zero => rfl
  | succ k => rw [moveDown, if_neg h]

section
variable {P : Program} {enc : α → List Value} {k : Nat} {w : World} {blk off : Nat} {d dk : Array α}
/-- The exchange of two elements: what is loaded, what is stored, the world behind it. -/
theorem exch (hk : ∀ x, (enc x).length = k) (h1 : ∀ x, ∀ v ∈ enc x, v.oneCell' = true) (hH : HoldsK enc k w blk off d) (hblk : blk < w.heap.size) (hsk : dk.size = d.size) (n : Nat) (os : Array Obj) (x y : Nat) (hx : x < d.size) (hy : y < d.size) :
    ∃ cx cy : List Value, cx.length = k ∧ cy.length = k ∧
      Sem.run P (loadCellsFrom ⟨blk, off + x * k, none⟩ 0 k #[]) (sortWorldK enc k w blk off n dk os).drew = .ok cx.toArray (sortWorldK enc k w blk off n dk os).drew ∧
      Sem.run P (loadCellsFrom ⟨blk, off + y * k, none⟩ 0 k #[]) (sortWorldK enc k w blk off n dk os).drew = .ok cy.toArray (sortWorldK enc k w blk off n dk os).drew ∧
      Sem.run P (storeCells ⟨blk, off + x * k, none⟩ cy 0) (sortWorldK enc k w blk off n dk os).drew = .ok () ((sortWorldK enc k w blk off n dk os).drew.setCells blk (off + x * k) cy) ∧
      Sem.run P (storeCells ⟨blk, off + y * k, none⟩ cx 0) ((sortWorldK enc k w blk off n dk os).drew.setCells blk (off + x * k) cy) = .ok () (((sortWorldK enc k w blk off n dk os).drew.setCells blk (off + x * k) cy).setCells blk (off + y * k) cx) ∧
      (((sortWorldK enc k w blk off n dk os).drew.setCells blk (off + x * k) cy).setCells blk (off + y * k) cx) = sortWorldK enc k w blk off (n + 1) (swp dk x y) os := by
  have hHd : HoldsK enc k (sortWorldK enc k w blk off n dk os).drew blk off dk := by
    have : HoldsK enc k (sortWorldK enc k w blk off n dk os) blk off dk := holdsK_sortWorldK_c enc k w blk off d dk _ _ hH hblk hsk
    exact this
  have bnd : ∀ x, x < dk.size → x * k + k ≤ dk.size * k := fun x hx => by
    have := Nat.mul_le_mul_right k (show x + 1 ≤ dk.size from hx); rwa [Nat.add_mul, Nat.one_mul] at this
  refine ⟨enc dk[x]!, enc dk[y]!, hk _, hk _, run_loadCellsFrom_list P _ _ _ k (hk _) (HoldsK.cells hHd hk (by omega)), run_loadCellsFrom_list P _ _ _ k (hk _) (HoldsK.cells hHd hk (by omega)),
    stores_of_holds P hHd (x * k) _ (by rw [hk, size_flatK]; exact bnd x (by omega)) (h1 _),
    stores_of_holds P (holds_setCells_c hHd (x * k) _ (by rw [hk, size_flatK]; exact bnd x (by omega))) (y * k) _ (by rw [hk, size_setMany, size_flatK]; exact bnd y (by omega)) (h1 _), ?_⟩
  exact sortWorldK_swp_c enc k w blk off hk n dk os hblk x y (by omega) (by omega)
theorem load_at (hk : ∀ x, (enc x).length = k) (hH : HoldsK enc k w blk off d) (hblk : blk < w.heap.size) (hsk : dk.size = d.size) (n : Nat) (os : Array Obj) (x : Nat) (hx : x < d.size) (n' : Nat) (os' : Array Obj) :
    Sem.run P (loadCellsFrom ⟨blk, off + x * k, none⟩ 0 k #[]) (grow ((sortWorldK enc k w blk off n dk os).drewN n') os') = .ok (enc dk[x]!).toArray (grow ((sortWorldK enc k w blk off n dk os).drewN n') os') := by
  have hHc : HoldsK enc k (grow ((sortWorldK enc k w blk off n dk os).drewN n') os') blk off dk := by rw [sortWorldK_grown_c]; exact holdsK_sortWorldK_c enc k w blk off d dk _ _ hH hblk hsk
  exact run_loadCellsFrom_list P _ _ _ k (hk _) (HoldsK.cells hHc hk (by omega))
theorem call_at {g : Nat} {cb : Array Value} {cf : α → α → Int} {L : Nat} (hcmp : CmpLays P g cb enc k cf blk off L w) (hsk : dk.size = L) (n : Nat) (os : Array Obj) (x y : α) (n' : Nat) (os' : Array Obj) :
    Calls P g (#[.agg (enc x).toArray, .agg (enc y).toArray] ++ cb) (grow ((sortWorldK enc k w blk off n dk os).drewN n') os') fun e w' => e = .returned (.int .i64 (cf x y)) ∧ ∃ q os'', w' = grow ((grow ((sortWorldK enc k w blk off n dk os).drewN n') os').drewN q) os'' := by
  rw [sortWorldK_grown_c]; exact hcmp _ _ dk hsk x y
theorem CmpLays.on {g : Nat} {cb : Array Value} {cf : α → α → Int} {L : Nat} (hcmp : CmpLays P g cb enc k cf blk off L w) (hblk : blk < w.heap.size) (hsk : dk.size = L) (n : Nat) (os : Array Obj) : CmpLays P g cb enc k cf blk off L (sortWorldK enc k w blk off n dk os) := by
  intro m' os' dk' hs x y
  rw [sortWorldK_on' enc k w blk off n m' dk dk' os os' hblk (by rw [hs, hsk])]
  exact hcmp _ _ dk' hs x y
end

set_option maxHeartbeats 4000000 in
set_option maxRecDepth 1000000 in
theorem symMerge_one (k : Nat) (zE : ∀ w, (Go.sizeOf 23).run Try.prog w = .ok k w) (enc : α → List Value) (hk : ∀ x, (enc x).length = k) (h1 : ∀ x, ∀ v ∈ enc x, v.oneCell' = true)
    (cf : α → α → Int) (g : Nat) (cb : Array Value) (eg : ∀ args w, (callFunc g args).run Try.prog w = .ok (.enter g args) w)
    (blk off cap a m b L F : Nat) (d : Array α) (w : World) (hcmp : CmpLays Try.prog g cb enc k cf blk off L w)
    (hH : HoldsK enc k w blk off d) (hblk : blk < w.heap.size) (ham : m = a + 1) (hmb : m < b) (hb : b ≤ d.size) (hL : d.size = L) (hsz : L < 4611686018427387904) :
    Calls Try.prog 31 #[.slice (some ⟨blk, off, none⟩) L cap, .int .i64 a, .int .i64 m, .int .i64 b, .func (.func g) #[] cb] w fun e w' =>
      e = .returned (.tuple #[]) ∧ ∃ n os, w' = sortWorldK enc k w blk off n (symMerge (ltOf cf) (F + 1) a m b d) os := by
  subst hL
  have mixed : Try.prog.follows .mixedOrders = true := by kernel_rfl
  have aE : ∀ w, (isAgg 23).run Try.prog w = .ok true w := fun w => by rfl
  have HST : Hid (w = sortWorldK enc k w blk off 0 d #[]) := by show w = _; unfold sortWorldK; rw [grow_empty]; exact (putRowK_self enc k w blk off d hH).symm
  have HC : Aside _ := hcmp
  have HH : Hid (HoldsK enc k w blk off d) := hH
  have HK : Hid (∀ x, (enc x).length = k) := hk
  have H1 : Hid (∀ x, ∀ v ∈ enc x, v.oneCell' = true) := h1
  have wma : IntKind.i64.wrap ((m : Int) - (a : Int)) = 1 := by rw [IntKind.wrap_i64]; omega
  have zma : (m : Int) - (a : Int) = 1 := by omega
  have ham1 : m ≤ a + 1 := by omega
  have ham2 : a + 1 ≤ m := by omega
  clear hH hk h1 hcmp ham
  go_enter Try.func31, Try.ntmps31
  go_wp2
  go_loopg [10, 11] (b - m) (fun g1 vi vj wr => ∃ (i j n : Nat) (os : Array Obj), vi = .int .i64 i ∧ vj = .int .i64 j ∧ m ≤ i ∧ i ≤ j ∧ j ≤ b ∧ j - i ≤ g1 ∧ wr = sortWorldK enc k w blk off n d os ∧ Hid (half (fun h => ltOf cf d[h]! d[a]!) i j = half (fun h => ltOf cf d[h]! d[a]!) m b))
  case atStart => exact ⟨m, b, 0, #[], by first | rfl | go_num, by first | rfl | go_num, by omega, by omega, by omega, by omega, HST.out, rfl⟩
  case round =>
    obtain ⟨i, j, n, os, rfl, rfl, him, hij, hjb, hg1, rfl, HO⟩ := hrel
    by_cases hlt : i < j
    · have hltz : (i : Int) < (j : Int) := by omega
      obtain ⟨h, hh⟩ : ∃ h, h = (i + j) / 2 := ⟨_, rfl⟩
      have hhn : (h : Int) < (d.size : Int) := by omega
      have han : (a : Int) < (d.size : Int) := by omega
      have hmn : (m : Int) < (d.size : Int) := by omega
      have lx := load_at (P := Try.prog) HK.out HH.out hblk rfl n os (dk := d) (h) (by omega)
      have ly := load_at (P := Try.prog) HK.out HH.out hblk rfl n os (dk := d) (a) (by omega)
      have hcg := call_at HC.out (dk := d) rfl n os d[h]! d[a]!
      have CLS : Hid (∀ n' os', grow ((sortWorldK enc k w blk off n d os).drewN n') os' = sortWorldK enc k w blk off (n + n') d (os ++ os')) := fun n' os' => sortWorldK_grown_c enc k w blk off n n' d os os'
      obtain ⟨x, hx⟩ : ∃ x, d[h]! = x := ⟨_, rfl⟩
      obtain ⟨y, hy⟩ : ∃ y, d[a]! = y := ⟨_, rfl⟩
      rw [hx] at lx
      rw [hy] at ly
      rw [hx, hy] at hcg
      have HX : Hid (d[h]! = x ∧ d[a]! = y) := ⟨hx, hy⟩
      clear hx hy
      generalize sortWorldK enc k w blk off n d os = wq at lx ly hcg CLS ⊢
      have HHH : Hid (h = (i + j) / 2 ∧ i ≤ h ∧ h < j) := ⟨hh, by omega, by omega⟩
      clear hh
      by_cases hlv : cf x y < 0
      · go_wp2_with fail
        have hhz : ((i : Int) + (j : Int)) / 2 = (h : Int) := by have := HHH.out; omega
        rw [hhz]
        clear hhz
        go_quiet_grown (first | (go_at_fn g; refine Calls.grown_of (hcg _ _)))
        go_wp2_with fail
        go_roundg (j - (h + 1))
        case measure => have := HHH.out; omega
        case rel =>
          have := HHH.out
          refine ⟨h + 1, j, n + nq, os ++ osq, by first | rfl | go_num, by first | rfl | go_num, by omega, by omega, by omega, Nat.le_refl _, CLS.out nq osq, (show Hid _ from ?_)⟩
          show _ = _
          rw [← HO.out]
          exact (half_go1 _ i j h hlt HHH.out.1 (by (try dsimp only); rw [HX.out.1, HX.out.2]; exact decide_eq_true hlv)).symm
      · go_wp2_with fail
        have hhz : ((i : Int) + (j : Int)) / 2 = (h : Int) := by have := HHH.out; omega
        rw [hhz]
        clear hhz
        go_quiet_grown (first | (go_at_fn g; refine Calls.grown_of (hcg _ _)))
        go_wp2_with fail
        go_roundg (h - i)
        case measure => have := HHH.out; omega
        case rel =>
          have := HHH.out
          refine ⟨i, h, n + nq, os ++ osq, by first | rfl | go_num, by first | rfl | go_num, by omega, by omega, by omega, Nat.le_refl _, CLS.out nq osq, (show Hid _ from ?_)⟩
          show _ = _
          rw [← HO.out]
          exact (half_go0 _ i j h hlt HHH.out.1 (by (try dsimp only); rw [HX.out.1, HX.out.2]; exact decide_eq_false (show ¬ cf x y < 0 by omega))).symm
    · have hltz : ¬ (i : Int) < (j : Int) := by omega
      have hI : i = half (fun h => ltOf cf d[h]! d[a]!) m b := by rw [← HO.out, half_stop _ _ _ hlt]
      have HI : Hid (i = half (fun h => ltOf cf d[h]! d[a]!) m b) := hI
      have HST2 : Hid (sortWorldK enc k w blk off n d os = sortWorldK enc k w blk off n d os) := rfl
      clear hI HO
      go_wp2
      go_loopg [13] (i - 1 - a) (fun g1 vk wr => ∃ (q n : Nat) (dk : Array α) (os : Array Obj), vk = .int .i64 q ∧ a ≤ q ∧ q ≤ i ∧ i - 1 - q ≤ g1 ∧ dk.size = d.size ∧ wr = sortWorldK enc k w blk off n dk os ∧ Hid (moveUp (i - 1) q dk = moveUp (i - 1) a d))
      case atStart => exact ⟨a, n, d, os, by first | rfl | go_num, by omega, by omega, by omega, rfl, rfl, rfl⟩
      case round =>
        obtain ⟨q, n, dk, os, rfl, haq, hqi, hg1, hsk, rfl, HO⟩ := hrel
        by_cases hq : q < i - 1
        · have hqz : (q : Int) < (i : Int) - 1 := by omega
          have pq0 : (0 : Int) ≤ (q : Int) + 1 := by omega
          have pq1 : (q : Int) + 1 < (d.size : Int) := by omega
          have pq2 : (q : Int) < (d.size : Int) := by omega
          have tq : ((q : Int) + 1).toNat = q + 1 := by omega
          obtain ⟨cx, cy, kx, ky, lx, ly, s1, s2, hw⟩ := exch (P := Try.prog) HK.out H1.out HH.out hblk hsk n os q (q + 1) (by omega) (by omega)
          generalize sortWorldK enc k w blk off n dk os = wq at lx ly s1 s2 hw ⊢
          have HW : Hid _ := hw
          clear hw
          go_wp2_with fail
          go_big_region_o
          all_goals go_wp2
          go_roundg (i - 1 - (q + 1))
          case measure => omega
          case rel =>
            refine ⟨q + 1, n + 1, swp dk q (q + 1), os, by first | rfl | go_num, by omega, by omega, Nat.le_refl _, by rw [swp_size]; exact hsk, HW.out, (show Hid _ from ?_)⟩
            show _ = _
            rw [← HO.out, moveUp_go _ _ _ hq]
        · have hqz : ¬ (q : Int) < (i : Int) - 1 := by omega
          go_wp2
          (try simp only [Exit.inBlock, Exit.then])
          refine bodyPost_ret (results_none rfl _ _ _) rfl ?_
          refine ⟨rfl, n, os, ?_⟩
          rw [symMerge, if_pos (by omega), ← HI.out, ← HO.out, moveUp_stop _ _ _ hq]

set_option maxHeartbeats 4000000 in
set_option maxRecDepth 1000000 in
theorem symMerge_two (k : Nat) (zE : ∀ w, (Go.sizeOf 23).run Try.prog w = .ok k w) (enc : α → List Value) (hk : ∀ x, (enc x).length = k) (h1 : ∀ x, ∀ v ∈ enc x, v.oneCell' = true)
    (cf : α → α → Int) (g : Nat) (cb : Array Value) (eg : ∀ args w, (callFunc g args).run Try.prog w = .ok (.enter g args) w)
    (blk off cap a m b L F : Nat) (d : Array α) (w : World) (hcmp : CmpLays Try.prog g cb enc k cf blk off L w)
    (hH : HoldsK enc k w blk off d) (hblk : blk < w.heap.size) (ham : a < m) (hma : ¬ m - a = 1) (hmb : b = m + 1) (hb : b ≤ d.size) (hL : d.size = L) (hsz : L < 4611686018427387904) :
    Calls Try.prog 31 #[.slice (some ⟨blk, off, none⟩) L cap, .int .i64 a, .int .i64 m, .int .i64 b, .func (.func g) #[] cb] w fun e w' =>
      e = .returned (.tuple #[]) ∧ ∃ n os, w' = sortWorldK enc k w blk off n (symMerge (ltOf cf) (F + 1) a m b d) os := by
  subst hL
  have mixed : Try.prog.follows .mixedOrders = true := by kernel_rfl
  have aE : ∀ w, (isAgg 23).run Try.prog w = .ok true w := fun w => by rfl
  have HST : Hid (w = sortWorldK enc k w blk off 0 d #[]) := by show w = _; unfold sortWorldK; rw [grow_empty]; exact (putRowK_self enc k w blk off d hH).symm
  have HC : Aside _ := hcmp
  have HH : Hid (HoldsK enc k w blk off d) := hH
  have HK : Hid (∀ x, (enc x).length = k) := hk
  have H1 : Hid (∀ x, ∀ v ∈ enc x, v.oneCell' = true) := h1
  have zma : ¬ (m : Int) - (a : Int) = 1 := by omega
  have bma : ((m : Int) - (a : Int) == 1) = false := beq_eq_false_iff_ne.mpr zma
  have zbm : (b : Int) - (m : Int) = 1 := by omega
  have hmb1 : b ≤ m + 1 := by omega
  have hmb2 : m + 1 ≤ b := by omega
  clear hH hk h1 hcmp hmb
  go_enter Try.func31, Try.ntmps31
  go_wp2
  go_loopg [14, 15] (m - a) (fun g1 vi vj wr => ∃ (i j n : Nat) (os : Array Obj), vi = .int .i64 i ∧ vj = .int .i64 j ∧ a ≤ i ∧ i ≤ j ∧ j ≤ m ∧ j - i ≤ g1 ∧ wr = sortWorldK enc k w blk off n d os ∧ Hid (half (fun h => !ltOf cf d[m]! d[h]!) i j = half (fun h => !ltOf cf d[m]! d[h]!) a m))
  case atStart => exact ⟨a, m, 0, #[], by first | rfl | go_num, by first | rfl | go_num, by omega, by omega, by omega, by omega, HST.out, rfl⟩
  case round =>
    obtain ⟨i, j, n, os, rfl, rfl, him, hij, hjb, hg1, rfl, HO⟩ := hrel
    by_cases hlt : i < j
    · have hltz : (i : Int) < (j : Int) := by omega
      obtain ⟨h, hh⟩ : ∃ h, h = (i + j) / 2 := ⟨_, rfl⟩
      have hhn : (h : Int) < (d.size : Int) := by omega
      have han : (a : Int) < (d.size : Int) := by omega
      have hmn : (m : Int) < (d.size : Int) := by omega
      have lx := load_at (P := Try.prog) HK.out HH.out hblk rfl n os (dk := d) (m) (by omega)
      have ly := load_at (P := Try.prog) HK.out HH.out hblk rfl n os (dk := d) (h) (by omega)
      have hcg := call_at HC.out (dk := d) rfl n os d[m]! d[h]!
      have CLS : Hid (∀ n' os', grow ((sortWorldK enc k w blk off n d os).drewN n') os' = sortWorldK enc k w blk off (n + n') d (os ++ os')) := fun n' os' => sortWorldK_grown_c enc k w blk off n n' d os os'
      obtain ⟨x, hx⟩ : ∃ x, d[m]! = x := ⟨_, rfl⟩
      obtain ⟨y, hy⟩ : ∃ y, d[h]! = y := ⟨_, rfl⟩
      rw [hx] at lx
      rw [hy] at ly
      rw [hx, hy] at hcg
      have HX : Hid (d[m]! = x ∧ d[h]! = y) := ⟨hx, hy⟩
      clear hx hy
      generalize sortWorldK enc k w blk off n d os = wq at lx ly hcg CLS ⊢
      have HHH : Hid (h = (i + j) / 2 ∧ i ≤ h ∧ h < j) := ⟨hh, by omega, by omega⟩
      clear hh
      by_cases hlv : cf x y < 0
      · go_wp2_with fail
        have hhz : ((i : Int) + (j : Int)) / 2 = (h : Int) := by have := HHH.out; omega
        rw [hhz]
        clear hhz
        go_quiet_grown (first | (go_at_fn g; refine Calls.grown_of (hcg _ _)))
        go_wp2_with fail
        go_roundg (h - i)
        case measure => have := HHH.out; omega
        case rel =>
          have := HHH.out
          refine ⟨i, h, n + nq, os ++ osq, by first | rfl | go_num, by first | rfl | go_num, by omega, by omega, by omega, Nat.le_refl _, CLS.out nq osq, (show Hid _ from ?_)⟩
          show _ = _
          rw [← HO.out]
          exact (half_go0 _ i j h hlt HHH.out.1 (by (try dsimp only); rw [HX.out.1, HX.out.2]; unfold ltOf; rw [decide_eq_true hlv]; rfl)).symm
      · have hd : decide (cf x y < 0) = false := decide_eq_false hlv
        go_wp2_with fail
        have hhz : ((i : Int) + (j : Int)) / 2 = (h : Int) := by have := HHH.out; omega
        rw [hhz]
        clear hhz
        go_quiet_grown (first | (go_at_fn g; refine Calls.grown_of (hcg _ _)))
        go_wp2_with fail
        go_roundg (j - (h + 1))
        case measure => have := HHH.out; omega
        case rel =>
          have := HHH.out
          refine ⟨h + 1, j, n + nq, os ++ osq, by first | rfl | go_num, by first | rfl | go_num, by omega, by omega, by omega, Nat.le_refl _, CLS.out nq osq, (show Hid _ from ?_)⟩
          show _ = _
          rw [← HO.out]
          exact (half_go1 _ i j h hlt HHH.out.1 (by (try dsimp only); rw [HX.out.1, HX.out.2]; unfold ltOf; rw [decide_eq_false (show ¬ cf x y < 0 by omega)]; rfl)).symm
    · have hltz : ¬ (i : Int) < (j : Int) := by omega
      have hI : i = half (fun h => !ltOf cf d[m]! d[h]!) a m := by rw [← HO.out, half_stop _ _ _ hlt]
      have HI : Hid (i = half (fun h => !ltOf cf d[m]! d[h]!) a m) := hI
      clear hI HO
      go_wp2
      go_loopg [17] (m - i) (fun g1 vk wr => ∃ (q n : Nat) (dk : Array α) (os : Array Obj), vk = .int .i64 q ∧ i ≤ q ∧ q ≤ m ∧ q - i ≤ g1 ∧ dk.size = d.size ∧ wr = sortWorldK enc k w blk off n dk os ∧ Hid (moveDown i q dk = moveDown i m d))
      case atStart => exact ⟨m, n, d, os, by first | rfl | go_num, by omega, by omega, by omega, rfl, rfl, rfl⟩
      case round =>
        obtain ⟨q, n, dk, os, rfl, haq, hqi, hg1, hsk, rfl, HO⟩ := hrel
        by_cases hq : q > i
        · have hqz : (i : Int) < (q : Int) := by omega
          obtain ⟨q, rfl⟩ : ∃ q', q = q' + 1 := ⟨q - 1, by omega⟩
          have eq1 : (q : Int) + 1 - 1 = (q : Int) := by omega
          have pq0 : (0 : Int) ≤ (q : Int) + 1 := by omega
          have pq1 : (q : Int) + 1 < (d.size : Int) := by omega
          have pq2 : (q : Int) < (d.size : Int) := by omega
          have tq : ((q : Int) + 1).toNat = q + 1 := by omega
          have hqz2 : (i : Int) < (q : Int) + 1 := by omega
          obtain ⟨cx, cy, kx, ky, lx, ly, s1, s2, hw⟩ := exch (P := Try.prog) HK.out H1.out HH.out hblk hsk n os (q + 1) q (by omega) (by omega)
          generalize sortWorldK enc k w blk off n dk os = wq at lx ly s1 s2 hw ⊢
          have HW : Hid _ := hw
          clear hw
          go_wp2_with fail
          go_big_region_o
          all_goals go_wp2
          go_roundg (q - i)
          case measure => omega
          case rel =>
            refine ⟨q, n + 1, swp dk (q + 1) q, os, by first | rfl | go_num, by omega, by omega, Nat.le_refl _, by rw [swp_size]; exact hsk, HW.out, (show Hid _ from ?_)⟩
            show _ = _
            rw [← HO.out, moveDown_go _ _ _ hq]
        · have hqz : ¬ (i : Int) < (q : Int) := by omega
          go_wp2
          (try simp only [Exit.inBlock, Exit.then])
          refine bodyPost_ret (results_none rfl _ _ _) rfl ?_
          refine ⟨rfl, n, os, ?_⟩
          rw [symMerge, if_neg (by omega), if_pos (by omega), ← HI.out, ← HO.out, moveDown_stop _ _ _ hq]
end Go.Proofs.Ytcicdnleeknjgaa.ArbW
