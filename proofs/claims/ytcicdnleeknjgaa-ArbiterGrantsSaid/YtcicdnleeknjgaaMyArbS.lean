/- arbiter: the walk of the stable sort. -/
import Derived.Test.YtcicdnleeknjgaaMyArbN
set_option linter.unusedVariables false
set_option linter.unusedSimpArgs false
namespace Go.Proofs.Ytcicdnleeknjgaa.ArbW
open Go Go.Proofs Go.Shelf Go.RowKit Go.Lib Go.Sort Go.Proofs.Ytcicdnleeknjgaa.Stab
variable {α : Type} [Inhabited α]

/-- The library's numbers, led to this program's. -/
def ren : Ren := ⟨fun n => if n = 20 then 30 else n, fun n => if n = 22 then 26 else if n = 24 then 23 else if n = 25 then 39 else n, fun n => n⟩
theorem lays20 : SlLaysF0.n20 Try.prog ren where
  mixed := by kernel_rfl
  f20 := ⟨"slices.insertionSortCmpFunc[emulator/api.Request]", by decide, by kernel_rfl⟩
  t0 := by kernel_rfl
  a0 := fun _ => by rfl
  z0 := fun _ => by rfl
  v0 := fun _ => by rfl
  t3 := by kernel_rfl
  a3 := fun _ => by rfl
  z3 := fun _ => by rfl
  v3 := fun _ => by rfl
  t4 := by kernel_rfl
  a4 := fun _ => by rfl
  z4 := fun _ => by rfl
  v4 := fun _ => by rfl
  t22 := by kernel_rfl
  a22 := fun _ => by rfl
  z22 := fun _ => by rfl
  v22 := fun _ => by rfl
  t25 := by kernel_rfl
  a25 := fun _ => by rfl
  z25 := fun _ => by rfl
  v25 := fun _ => by rfl
theorem ins_calls (k : Nat) (zE : ∀ w, (Go.sizeOf 23).run Try.prog w = .ok k w) (enc : α → List Value) (hk : ∀ x, (enc x).length = k) (h1 : ∀ x, ∀ v ∈ enc x, v.oneCell' = true)
    (cf : α → α → Int) (g : Nat) (cb : Array Value) (eg : ∀ args w, (callFunc g args).run Try.prog w = .ok (.enter g args) w)
    (blk off cap a b L : Nat) (d : Array α) (w : World) (hcmp : CmpLays Try.prog g cb enc k cf blk off L w) (hH : HoldsK enc k w blk off d) (hblk : blk < w.heap.size) (hab : a ≤ b) (hb : b ≤ d.size) (hL : d.size = L) (hsz : L < 4611686018427387904) :
    Calls Try.prog 30 #[.slice (some ⟨blk, off, none⟩) L cap, .int .i64 a, .int .i64 b, .func (.func g) #[] cb] w fun e w' =>
      e = .returned (.tuple #[]) ∧ ∃ n os, w' = sortWorldK enc k w blk off n (Sort.insertionSort (ltOf cf) d a b) os := by
  subst hL
  exact AnyQ.insertionSortCmpFunc lays20 k (fun _ => by rfl) zE enc hk h1 cf g cb blk off cap a b d w eg hcmp hH hblk hab hb hsz
theorem insBlocks_go (lt : α → α → Bool) (n a b : Nat) (d : Array α) (h : b ≤ n ∧ a < b) : insBlocks lt n a b d = insBlocks lt n b (b + 20) (insertionSort lt d a b) := by rw [insBlocks, if_pos h]
theorem insBlocks_stop (lt : α → α → Bool) (n a b : Nat) (d : Array α) (h : ¬ (b ≤ n ∧ a < b)) : insBlocks lt n a b d = insertionSort lt d a n := by rw [insBlocks, if_neg h]
theorem mergeBlocks_go (lt : α → α → Bool) (n bs a b : Nat) (d : Array α) (h : b ≤ n ∧ a < b) : mergeBlocks lt n bs a b d = mergeBlocks lt n bs b (b + 2 * bs) (symMerge lt (b - a) a (a + bs) b d) := by rw [mergeBlocks, if_pos h]
theorem mergeBlocks_one (lt : α → α → Bool) (n bs a b : Nat) (d : Array α) (h : ¬ (b ≤ n ∧ a < b)) (h2 : a + bs < n) : mergeBlocks lt n bs a b d = symMerge lt (n - a) a (a + bs) n d := by rw [mergeBlocks, if_neg h, if_pos h2]
theorem mergeBlocks_stop (lt : α → α → Bool) (n bs a b : Nat) (d : Array α) (h : ¬ (b ≤ n ∧ a < b)) (h2 : ¬ a + bs < n) : mergeBlocks lt n bs a b d = d := by rw [mergeBlocks, if_neg h, if_neg h2]
theorem stLoop_go (lt : α → α → Bool) (n bs : Nat) (d : Array α) (h : bs < n ∧ 0 < bs) : stLoop lt n bs d = stLoop lt n (bs * 2) (mergeBlocks lt n bs 0 (2 * bs) d) := by rw [stLoop, if_pos h]
theorem stLoop_stop (lt : α → α → Bool) (n bs : Nat) (d : Array α) (h : ¬ (bs < n ∧ 0 < bs)) : stLoop lt n bs d = d := by rw [stLoop, if_neg h]
theorem insInner_size (lt : α → α → Bool) (a : Nat) : ∀ (j : Nat) (d : Array α), (insInner lt a j d).size = d.size := by
  intro j
  induction j with
  | zero => intro d; rfl
  | succ j ih =>
    intro d
    rw [insInner]
    split
    · rw [ih, swp_size]
    · rfl
theorem insOuter_size (lt : α → α → Bool) (a b : Nat) : ∀ (n i : Nat) (d : Array α), b - i = n → (insOuter lt a b i d).size = d.size := by
  intro n
  induction n with
  | zero => intro i d h; rw [insOuter, if_neg (by omega)]
  | succ n ih => intro i d h; rw [insOuter, if_pos (by omega), ih _ _ (by omega), insInner_size]
theorem insertionSort_size (lt : α → α → Bool) (d : Array α) (a b : Nat) : (insertionSort lt d a b).size = d.size := insOuter_size lt a b _ _ d rfl

set_option maxHeartbeats 16000000 in
set_option maxRecDepth 1000000 in
theorem stable_calls (k : Nat) (zE : ∀ w, (Go.sizeOf 23).run Try.prog w = .ok k w) (enc : α → List Value) (hk : ∀ x, (enc x).length = k) (h1 : ∀ x, ∀ v ∈ enc x, v.oneCell' = true)
    (cf : α → α → Int) (g : Nat) (cb : Array Value) (eg : ∀ args w, (callFunc g args).run Try.prog w = .ok (.enter g args) w)
    (blk off cap L : Nat) (d : Array α) (w : World) (hcmp : CmpLays Try.prog g cb enc k cf blk off L w) (hH : HoldsK enc k w blk off d) (hblk : blk < w.heap.size) (hL : d.size = L) (hsz : L < 1152921504606846976) :
    Calls Try.prog 26 #[.slice (some ⟨blk, off, none⟩) L cap, .int .i64 L, .func (.func g) #[] cb] w fun e w' =>
      e = .returned (.tuple #[]) ∧ ∃ n os, w' = sortWorldK enc k w blk off n (stable (ltOf cf) d) os := by
  subst hL
  have HST : Hid (w = sortWorldK enc k w blk off 0 d #[]) := by show w = _; unfold sortWorldK; rw [grow_empty]; exact (putRowK_self enc k w blk off d hH).symm
  have HC : Aside _ := hcmp
  have HH : Hid (HoldsK enc k w blk off d) := hH
  have HK : Hid (∀ x, (enc x).length = k) := hk
  have H1 : Hid (∀ x, ∀ v ∈ enc x, v.oneCell' = true) := h1
  have ZE : Hid (∀ w, (Go.sizeOf 23).run Try.prog w = .ok k w) := zE
  have EG : Hid (∀ args w, (callFunc g args).run Try.prog w = .ok (.enter g args) w) := eg
  clear hH hk h1 hcmp zE eg
  go_enter Try.func26, Try.ntmps26
  go_wp2
  go_loopg [7, 8] (d.size + 1) (fun g1 va vb wr => ∃ (a b n : Nat) (dk : Array α) (os : Array Obj), va = .int .i64 a ∧ vb = .int .i64 b ∧ b ≤ a + 20 ∧ a + 20 ≤ b ∧ a ≤ d.size ∧ d.size + 1 - a ≤ g1 ∧ dk.size = d.size ∧ wr = sortWorldK enc k w blk off n dk os ∧ Hid (insBlocks (ltOf cf) d.size a b dk = insBlocks (ltOf cf) d.size 0 20 d))
  case atStart => exact ⟨0, 20, 0, d, #[], by first | rfl | go_num, by first | rfl | go_num, by omega, by omega, by omega, by omega, rfl, HST.out, rfl⟩
  case round =>
    obtain ⟨a, b, n, dk, os, rfl, rfl, hb1, hb2, ha, hg1, hsk, rfl, HO⟩ := hrel
    by_cases hbn : b ≤ d.size
    · have hbz : (b : Int) ≤ (d.size : Int) := by omega
      go_wp2_with (first | (go_at_call 30; refine (ins_calls k ZE.out enc HK.out H1.out cf g cb EG.out blk off cap a b d.size dk _ (CmpLays.on HC.out hblk hsk n os) (holdsK_sortWorldK_c enc k w blk off d dk _ _ HH.out hblk hsk) (Nat.lt_of_lt_of_le hblk (size_sortWorldK_c enc k w blk off n dk os)) (by omega) (by omega) hsk (by omega)).mono ?_; rintro e_ w_ ⟨rfl, n1, os1, hw1⟩; rw [sortWorldK_on' enc k w blk off n n1 dk _ os os1 hblk (insertionSort_size _ _ _ _)] at hw1; subst hw1))
      go_roundg (d.size + 1 - b)
      case measure => omega
      case rel =>
        refine ⟨b, b + 20, n + n1, insertionSort (ltOf cf) dk a b, os ++ os1, by first | rfl | go_num, by first | rfl | go_num, by omega, by omega, hbn, Nat.le_refl _, by rw [insertionSort_size]; exact hsk, rfl, (show Hid _ from ?_)⟩
        show _ = _
        rw [← HO.out, insBlocks_go _ _ _ _ _ ⟨hbn, by omega⟩]
    · have hbz : ¬ (b : Int) ≤ (d.size : Int) := by omega
      obtain ⟨D1, hD1⟩ : ∃ D1, D1 = insertionSort (ltOf cf) dk a d.size := ⟨_, rfl⟩
      have HD1 : Hid (D1 = insBlocks (ltOf cf) d.size 0 20 d ∧ D1.size = d.size) := ⟨by rw [← HO.out, insBlocks_stop _ _ _ _ _ (by omega)]; exact hD1, by rw [hD1, insertionSort_size]; exact hsk⟩
      have HDD : Hid (D1 = insertionSort (ltOf cf) dk a d.size) := hD1
      clear hD1
      go_wp2_with (first | (go_at_call 30; refine (ins_calls k ZE.out enc HK.out H1.out cf g cb EG.out blk off cap a d.size d.size dk _ (CmpLays.on HC.out hblk hsk n os) (holdsK_sortWorldK_c enc k w blk off d dk _ _ HH.out hblk hsk) (Nat.lt_of_lt_of_le hblk (size_sortWorldK_c enc k w blk off n dk os)) (by omega) (by omega) hsk (by omega)).mono ?_; rintro e_ w_ ⟨rfl, n1, os1, hw1⟩; rw [sortWorldK_on' enc k w blk off n n1 dk _ os os1 hblk (insertionSort_size _ _ _ _)] at hw1; subst hw1))
      clear hbz
      go_loopg [6] (d.size + 1) (fun g1 vs wr => ∃ (bs n : Nat) (dk : Array α) (os : Array Obj), vs = .int .i64 bs ∧ 0 < bs ∧ bs ≤ 2 * d.size + 20 ∧ d.size + 1 - bs ≤ g1 ∧ dk.size = d.size ∧ wr = sortWorldK enc k w blk off n dk os ∧ Hid (stLoop (ltOf cf) d.size bs dk = stLoop (ltOf cf) d.size 20 D1))
      case atStart => exact ⟨20, n + n1, D1, os ++ os1, by first | rfl | go_num, by omega, by omega, by omega, HD1.out.2, by rw [HDD.out], rfl⟩
      case round =>
        obtain ⟨bs, n, dk, os, rfl, hb0, hbm, hg1, hsk, rfl, HO⟩ := hrel
        by_cases hbn : bs < d.size
        · have hbz : (bs : Int) < (d.size : Int) := by omega
          obtain ⟨c2, hc2⟩ : ∃ c2, c2 = 2 * bs := ⟨_, rfl⟩
          have hcz : (2 : Int) * (bs : Int) = (c2 : Int) := by omega
          have hcw : IntKind.i64.wrap (c2 : Int) = (c2 : Int) := by rw [IntKind.wrap_i64]; omega
          have hc3 : c2 ≤ 2 * bs := by omega
          have hc4 : 2 * bs ≤ c2 := by omega
          have HC2 : Hid (c2 = 2 * bs) := hc2
          clear hc2
          have HDK : Hid (stLoop (ltOf cf) d.size (bs * 2) (mergeBlocks (ltOf cf) d.size bs 0 (2 * bs) dk) = stLoop (ltOf cf) d.size 20 D1) := by show _ = _; rw [← HO.out, stLoop_go _ _ _ _ ⟨hbn, hb0⟩]
          have HSK : Hid (dk.size = d.size) := hsk
          obtain ⟨D2, hD2⟩ : ∃ D2, D2 = mergeBlocks (ltOf cf) d.size bs 0 (2 * bs) dk := ⟨_, rfl⟩
          have HD2 : Hid (D2 = mergeBlocks (ltOf cf) d.size bs 0 (2 * bs) dk) := hD2
          clear hD2 HO
          go_wp2
          go_loopg [7, 8] (d.size + 1) (fun g2 va vb wr => ∃ (a b n : Nat) (dl : Array α) (os : Array Obj), va = .int .i64 a ∧ vb = .int .i64 b ∧ b ≤ a + c2 ∧ a + c2 ≤ b ∧ a ≤ d.size ∧ d.size + 1 - a ≤ g2 ∧ dl.size = d.size ∧ wr = sortWorldK enc k w blk off n dl os ∧ Hid (mergeBlocks (ltOf cf) d.size bs a b dl = D2))
          case atStart => exact ⟨0, c2, n, dk, os, by first | rfl | go_num, by first | rfl | go_num, by omega, by omega, by omega, by omega, hsk, rfl, by show _ = _; rw [HC2.out]; exact HD2.out.symm⟩
          case round =>
            obtain ⟨a, b, n, dl, os, rfl, rfl, hb1, hb2, ha, hg2, hsl, rfl, HM⟩ := hrel
            by_cases hbl : b ≤ d.size
            · have hblz : (b : Int) ≤ (d.size : Int) := by omega
              obtain ⟨m, hm⟩ : ∃ m, m = a + bs := ⟨_, rfl⟩
              have hmz : (a : Int) + (bs : Int) = (m : Int) := by omega
              have hmw : IntKind.i64.wrap (m : Int) = (m : Int) := by rw [IntKind.wrap_i64]; omega
              have hm1 : a < m := by omega
              have hm2 : m < b := by omega
              have HMM : Hid (m = a + bs) := hm
              clear hm
              go_wp2_with (first | (go_at_call 31; refine (symMerge_calls k ZE.out enc HK.out H1.out cf g cb EG.out blk off cap d.size (by omega) (b - a) a m b dl _ (Nat.le_refl _) hm1 hm2 (by omega) hsl (CmpLays.on HC.out hblk hsl n os) (holdsK_sortWorldK_c enc k w blk off d dl _ _ HH.out hblk hsl) (Nat.lt_of_lt_of_le hblk (size_sortWorldK_c enc k w blk off n dl os))).mono ?_; rintro e_ w_ ⟨rfl, n1, os1, hw1⟩; rw [sortWorldK_on' enc k w blk off n n1 dl _ os os1 hblk (symMerge_size _ _ _ _ _ _)] at hw1; subst hw1))
              go_roundg (d.size + 1 - b)
              case measure => omega
              case rel =>
                refine ⟨b, b + c2, n + n1, symMerge (ltOf cf) (b - a) a m b dl, os ++ os1, by first | rfl | go_num, by first | rfl | go_num, by omega, by omega, hbl, Nat.le_refl _, by rw [symMerge_size]; exact hsl, rfl, (show Hid _ from ?_)⟩
                show _ = _
                rw [← HM.out, mergeBlocks_go _ _ _ _ _ _ ⟨hbl, by omega⟩, HC2.out, HMM.out]
            · have hblz : ¬ (b : Int) ≤ (d.size : Int) := by omega
              obtain ⟨m, hm⟩ : ∃ m, m = a + bs := ⟨_, rfl⟩
              have hmz : (a : Int) + (bs : Int) = (m : Int) := by omega
              have hmw : IntKind.i64.wrap (m : Int) = (m : Int) := by rw [IntKind.wrap_i64]; omega
              have hm1 : a < m := by omega
              have HMM : Hid (m = a + bs) := hm
              clear hm
              by_cases hmn : m < d.size
              · have hmnz : (m : Int) < (d.size : Int) := by omega
                go_wp2_with (first | (go_at_call 31; refine (symMerge_calls k ZE.out enc HK.out H1.out cf g cb EG.out blk off cap d.size (by omega) (d.size - a) a m d.size dl _ (Nat.le_refl _) hm1 hmn (by omega) hsl (CmpLays.on HC.out hblk hsl n os) (holdsK_sortWorldK_c enc k w blk off d dl _ _ HH.out hblk hsl) (Nat.lt_of_lt_of_le hblk (size_sortWorldK_c enc k w blk off n dl os))).mono ?_; rintro e_ w_ ⟨rfl, n1, os1, hw1⟩; rw [sortWorldK_on' enc k w blk off n n1 dl _ os os1 hblk (symMerge_size _ _ _ _ _ _)] at hw1; subst hw1))
                go_roundg (d.size + 1 - bs * 2)
                case measure => omega
                case rel =>
                  refine ⟨bs * 2, n + n1, symMerge (ltOf cf) (d.size - a) a m d.size dl, os ++ os1, by first | rfl | go_num, by omega, by omega, Nat.le_refl _, by rw [symMerge_size]; exact hsl, rfl, (show Hid _ from ?_)⟩
                  show _ = _
                  rw [← HDK.out, ← HD2.out, ← HM.out, mergeBlocks_one _ _ _ _ _ _ (by omega) (by rw [← HMM.out]; exact hmn), HMM.out]
              · have hmnz : ¬ (m : Int) < (d.size : Int) := by omega
                go_wp2_with (fail)
                go_roundg (d.size + 1 - bs * 2)
                case measure => omega
                case rel =>
                  refine ⟨bs * 2, n, dl, os, by first | rfl | go_num, by omega, by omega, Nat.le_refl _, hsl, rfl, (show Hid _ from ?_)⟩
                  show _ = _
                  rw [← HDK.out, ← HD2.out, ← HM.out, mergeBlocks_stop _ _ _ _ _ _ (by omega) (by rw [← HMM.out]; exact hmn)]
        · have hbz : ¬ (bs : Int) < (d.size : Int) := by omega
          go_wp2
          go_end0
          refine ⟨rfl, n, os, ?_⟩
          unfold stable
          rw [← HD1.out.1, ← HO.out, stLoop_stop _ _ _ _ (by omega)]
theorem sortStable_calls (k : Nat) (zE : ∀ w, (Go.sizeOf 23).run Try.prog w = .ok k w) (enc : α → List Value) (hk : ∀ x, (enc x).length = k) (h1 : ∀ x, ∀ v ∈ enc x, v.oneCell' = true)
    (cf : α → α → Int) (g : Nat) (cb : Array Value) (eg : ∀ args w, (callFunc g args).run Try.prog w = .ok (.enter g args) w)
    (blk off cap L : Nat) (d : Array α) (w : World) (hcmp : CmpLays Try.prog g cb enc k cf blk off L w) (hH : HoldsK enc k w blk off d) (hblk : blk < w.heap.size) (hL : d.size = L) (hsz : L < 1152921504606846976) :
    Calls Try.prog 18 #[.slice (some ⟨blk, off, none⟩) L cap, .func (.func g) #[] cb] w fun e w' =>
      e = .returned (.tuple #[]) ∧ ∃ n os, w' = sortWorldK enc k w blk off n (stable (ltOf cf) d) os := by
  have HS : Aside _ := stable_calls k zE enc hk h1 cf g cb eg blk off cap L d w hcmp hH hblk hL hsz
  clear hk h1 hcmp zE eg hH
  go_enter Try.func18, Try.ntmps18
  go_wp2_with (first | (go_at_call 26; refine Calls.mono HS.out ?_; rintro e_ w_ ⟨rfl, n1, os1, hw1⟩; subst hw1))
  go_end0
  exact ⟨rfl, n1, os1, rfl⟩
theorem ins_nil (A : Option Addr) (cap g : Nat) (cb : Array Value) (w : World) :
    Calls Try.prog 30 #[.slice A 0 cap, .int .i64 0, .int .i64 0, .func (.func g) #[] cb] w fun e w' => e = .returned (.tuple #[]) ∧ w' = w := by
  go_enter Try.func30, Try.ntmps30
  go_wp2
  go_loopg [8] 0 (fun g1 vi wr => vi = .int .i64 1 ∧ wr = w)
  case atStart => exact ⟨rfl, rfl⟩
  case round =>
    obtain ⟨rfl, rfl⟩ := hrel
    go_wp2
    go_end0
    exact ⟨rfl, rfl⟩
theorem stable_nil (A : Option Addr) (cap g : Nat) (cb : Array Value) (w : World) :
    Calls Try.prog 26 #[.slice A 0 cap, .int .i64 0, .func (.func g) #[] cb] w fun e w' => e = .returned (.tuple #[]) ∧ w' = w := by
  go_enter Try.func26, Try.ntmps26
  go_wp2
  go_loopg [7, 8] 0 (fun g1 va vb wr => va = .int .i64 0 ∧ vb = .int .i64 20 ∧ wr = w)
  case atStart => exact ⟨rfl, rfl, rfl⟩
  case round =>
    obtain ⟨rfl, rfl, rfl⟩ := hrel
    go_wp2_with (first | (go_at_call 30; refine (ins_nil A cap g cb _).mono ?_; rintro e_ w_ ⟨rfl, rfl⟩))
    go_loopg [6] 0 (fun g1 va wr => va = .int .i64 20 ∧ wr = w_)
    case atStart => exact ⟨rfl, rfl⟩
    case round =>
      obtain ⟨rfl, rfl⟩ := hrel
      go_wp2
      go_end0
      exact ⟨rfl, rfl⟩
/-- A nil slice, or an empty one: nothing is done. -/
theorem sortStable_nil (A : Option Addr) (cap g : Nat) (cb : Array Value) (w : World) :
    Calls Try.prog 18 #[.slice A 0 cap, .func (.func g) #[] cb] w fun e w' => e = .returned (.tuple #[]) ∧ w' = w := by
  go_enter Try.func18, Try.ntmps18
  go_wp2_with (first | (go_at_call 26; refine (stable_nil A cap g cb _).mono ?_; rintro e_ w_ ⟨rfl, rfl⟩))
  go_end0
  exact ⟨rfl, rfl⟩
end Go.Proofs.Ytcicdnleeknjgaa.ArbW
