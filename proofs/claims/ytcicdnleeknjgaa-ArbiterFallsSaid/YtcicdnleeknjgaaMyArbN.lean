/- arbiter: the walk of the merge in place, its long way. -/
import Derived.Test.YtcicdnleeknjgaaMyArbM
import Derived.Deep.DeepCutAuto
set_option linter.unusedVariables false
set_option linter.unusedSimpArgs false
namespace Go.Proofs.Ytcicdnleeknjgaa.ArbW
open Go Go.Proofs Go.Shelf Go.RowKit Go.Lib Go.Sort Go.Proofs.Ytcicdnleeknjgaa.Stab
variable {α : Type} [Inhabited α]

theorem moveUp_size (e : Nat) : ∀ (n k : Nat) (d : Array α), e - k = n → (moveUp e k d).size = d.size := by
  intro n
  induction n with
  | zero => intro k d h; rw [moveUp, if_neg (by omega)]
  | succ n ih => intro k d h; rw [moveUp, if_pos (by omega), ih _ _ (by omega), swp_size]
theorem moveDown_size (i : Nat) : ∀ (k : Nat) (d : Array α), (moveDown i k d).size = d.size := by
  intro k
  induction k with
  | zero => intro d; rfl
  | succ k ih =>
    intro d
    rw [moveDown]
    split
    · rw [ih, swp_size]
    · rfl
theorem symMerge_size (lt : α → α → Bool) : ∀ (f a m b : Nat) (d : Array α), (symMerge lt f a m b d).size = d.size := by
  intro f
  induction f with
  | zero => intro a m b d; rfl
  | succ f ih =>
    intro a m b d
    have key : ∀ (c : Prop) [Decidable c] (x y : Array α), x.size = d.size → y.size = d.size → (if c then x else y).size = d.size := fun c _ x y hx hy => by
      split
      · exact hx
      · exact hy
    have k1 := key (half (fun c => !lt d[(a + b) / 2 + m - 1 - c]! d[c]!) (if m > (a + b) / 2 then (a + b) / 2 + m - b else a) (if m > (a + b) / 2 then (a + b) / 2 else m) < m ∧ m < (a + b) / 2 + m - half (fun c => !lt d[(a + b) / 2 + m - 1 - c]! d[c]!) (if m > (a + b) / 2 then (a + b) / 2 + m - b else a) (if m > (a + b) / 2 then (a + b) / 2 else m)) _ _ (rotate_size d (half (fun c => !lt d[(a + b) / 2 + m - 1 - c]! d[c]!) (if m > (a + b) / 2 then (a + b) / 2 + m - b else a) (if m > (a + b) / 2 then (a + b) / 2 else m)) m ((a + b) / 2 + m - half (fun c => !lt d[(a + b) / 2 + m - 1 - c]! d[c]!) (if m > (a + b) / 2 then (a + b) / 2 + m - b else a) (if m > (a + b) / 2 then (a + b) / 2 else m))) rfl
    rw [symMerge]
    refine key _ _ _ (moveUp_size _ _ _ _ rfl) (key _ _ _ (moveDown_size _ _ _) ?_)
    dsimp only
    exact key _ _ _ ((ih _ _ _ _).trans (key _ _ _ ((ih _ _ _ _).trans k1) k1)) (key _ _ _ ((ih _ _ _ _).trans k1) k1)
theorem symMerge_main (lt : α → α → Bool) (F a m b : Nat) (d : Array α) (h1 : ¬ m - a = 1) (h2 : ¬ b - m = 1) (mid lo hi s e : Nat) (hmid : mid = (a + b) / 2) (hlo : lo = if m > mid then mid + m - b else a) (hhi : hi = if m > mid then mid else m)
    (hs : s = half (fun c => !lt d[mid + m - 1 - c]! d[c]!) lo hi) (he : e = mid + m - s) (D1 D2 D3 : Array α) (e1 : D1 = if s < m ∧ m < e then rotate d s m e else d) (e2 : D2 = if a < s ∧ s < mid then symMerge lt F a s mid D1 else D1)
    (e3 : D3 = if mid < e ∧ e < b then symMerge lt F mid e b D2 else D2) : symMerge lt (F + 1) a m b d = D3 := by
  rw [symMerge, if_neg h1, if_neg h2]
  dsimp only
  rw [e3, e2, e1, he, hs, hlo, hhi, hmid]

set_option maxHeartbeats 16000000 in
set_option maxRecDepth 1000000 in
theorem symMerge_gt (k : Nat) (zE : ∀ w, (Go.sizeOf 23).run Try.prog w = .ok k w) (enc : α → List Value) (hk : ∀ x, (enc x).length = k) (h1 : ∀ x, ∀ v ∈ enc x, v.oneCell' = true)
    (cf : α → α → Int) (g : Nat) (cb : Array Value) (eg : ∀ args w, (callFunc g args).run Try.prog w = .ok (.enter g args) w)
    (blk off cap a m b L F : Nat) (d : Array α) (w : World) (hcmp : CmpLays Try.prog g cb enc k cf blk off L w)
    (IH : ∀ (a m b : Nat) (d : Array α) (w : World), b - a ≤ F → a < m → m < b → b ≤ d.size → d.size = L → CmpLays Try.prog g cb enc k cf blk off L w → HoldsK enc k w blk off d → blk < w.heap.size →
      Calls Try.prog 31 #[.slice (some ⟨blk, off, none⟩) L cap, .int .i64 a, .int .i64 m, .int .i64 b, .func (.func g) #[] cb] w fun e w' => e = .returned (.tuple #[]) ∧ ∃ n os, w' = sortWorldK enc k w blk off n (symMerge (ltOf cf) F a m b d) os)
    (hH : HoldsK enc k w blk off d) (hblk : blk < w.heap.size) (ham : a < m) (hmb : m < b) (hma : ¬ m - a = 1) (hbm : ¬ b - m = 1) (hF : b - a ≤ F + 1) (hb : b ≤ d.size) (hL : d.size = L) (hsz : L < 4611686018427387904)
    (mid : Nat) (hmid : mid = (a + b) / 2) (hc : m > mid) :
    Calls Try.prog 31 #[.slice (some ⟨blk, off, none⟩) L cap, .int .i64 a, .int .i64 m, .int .i64 b, .func (.func g) #[] cb] w fun e w' =>
      e = .returned (.tuple #[]) ∧ ∃ n os, w' = sortWorldK enc k w blk off n (symMerge (ltOf cf) (F + 1) a m b d) os := by
  subst hL
  have mixed : Try.prog.follows .mixedOrders = true := by kernel_rfl
  have aE : ∀ w, (isAgg 23).run Try.prog w = .ok true w := fun w => by rfl
  have HST : Hid (w = sortWorldK enc k w blk off 0 d #[]) := by show w = _; unfold sortWorldK; rw [grow_empty]; exact (putRowK_self enc k w blk off d hH).symm
  have HC : Aside _ := hcmp
  have HIH : Aside _ := IH
  have HH : Hid (HoldsK enc k w blk off d) := hH
  have HK : Hid (∀ x, (enc x).length = k) := hk
  have H1 : Hid (∀ x, ∀ v ∈ enc x, v.oneCell' = true) := h1
  have ZE : Hid (∀ w, (Go.sizeOf 23).run Try.prog w = .ok k w) := zE
  have zma : ¬ (m : Int) - (a : Int) = 1 := by omega
  have bma : ((m : Int) - (a : Int) == 1) = false := beq_eq_false_iff_ne.mpr zma
  have zbm : ¬ (b : Int) - (m : Int) = 1 := by omega
  have bbm : ((b : Int) - (m : Int) == 1) = false := beq_eq_false_iff_ne.mpr zbm
  have hmz : ((a : Int) + (b : Int)) / 2 = (mid : Int) := by omega
  have mid1 : a < mid := by omega
  have mid2 : mid < b := by omega
  have mid3 : 2 * mid ≤ a + b := by omega
  have mid4 : a + b ≤ 2 * mid + 1 := by omega
  have HMID : Hid (mid = (a + b) / 2) := hmid
  obtain ⟨p, hp⟩ : ∃ p, p = mid + m - 1 := ⟨_, rfl⟩
  have hpz : (mid : Int) + (m : Int) - 1 = (p : Int) := by omega
  have HP : Hid (p = mid + m - 1) := hp
  have p1 : p < mid + m := by omega
  have p2 : mid + m ≤ p + 1 := by omega
  obtain ⟨lo, hlo⟩ : ∃ lo, lo = mid + m - b := ⟨_, rfl⟩
  have hloz : (mid : Int) + (m : Int) - (b : Int) = (lo : Int) := by omega
  have HLO : Hid (lo = mid + m - b) := hlo
  have lo1 : lo + b = mid + m := by omega
  have lo2 : a ≤ lo := by omega
  have lo3 : lo ≤ mid := by omega
  have hcz : (mid : Int) < (m : Int) := by omega
  clear hlo
  clear hH hk h1 hcmp IH hmid hp
  go_enter Try.func31, Try.ntmps31
  go_wp2
  go_loopg [20, 21] (mid - lo) (fun g1 vi vj wr => ∃ (i j n : Nat) (os : Array Obj), vi = .int .i64 i ∧ vj = .int .i64 j ∧ lo ≤ i ∧ i ≤ j ∧ j ≤ mid ∧ j - i ≤ g1 ∧ wr = sortWorldK enc k w blk off n d os ∧ Hid (half (fun c => !ltOf cf d[mid + m - 1 - c]! d[c]!) i j = half (fun c => !ltOf cf d[mid + m - 1 - c]! d[c]!) lo mid))
  case atStart => exact ⟨lo, mid, 0, #[], by first | rfl | go_num, by first | rfl | go_num, by omega, by omega, by omega, by omega, HST.out, rfl⟩
  case round =>
    obtain ⟨i, j, n, os, rfl, rfl, him, hij, hjb, hg1, rfl, HO⟩ := hrel
    by_cases hlt : i < j
    · have hltz : (i : Int) < (j : Int) := by omega
      obtain ⟨h, hh⟩ : ∃ h, h = (i + j) / 2 := ⟨_, rfl⟩
      obtain ⟨q, hq⟩ : ∃ q, q = mid + m - 1 - h := ⟨_, rfl⟩
      have hhn : (h : Int) < (d.size : Int) := by omega
      have hqn : (q : Int) < (d.size : Int) := by omega
      have hqz : (p : Int) - (h : Int) = (q : Int) := by omega
      have hqw : IntKind.i64.wrap (q : Int) = (q : Int) := by rw [IntKind.wrap_i64]; omega
      have hqw2 : IntKind.i64.wrap ((p : Int) - (h : Int)) = (q : Int) := by rw [hqz]; exact hqw
      have lx := load_at (P := Try.prog) HK.out HH.out hblk rfl n os (dk := d) q (by omega)
      have ly := load_at (P := Try.prog) HK.out HH.out hblk rfl n os (dk := d) h (by omega)
      have hcg := call_at HC.out (dk := d) rfl n os d[q]! d[h]!
      have CLS : Hid (∀ n' os', grow ((sortWorldK enc k w blk off n d os).drewN n') os' = sortWorldK enc k w blk off (n + n') d (os ++ os')) := fun n' os' => sortWorldK_grown_c enc k w blk off n n' d os os'
      obtain ⟨x, hx⟩ : ∃ x, d[q]! = x := ⟨_, rfl⟩
      obtain ⟨y, hy⟩ : ∃ y, d[h]! = y := ⟨_, rfl⟩
      rw [hx] at lx
      rw [hy] at ly
      rw [hx, hy] at hcg
      have HX : Hid (d[mid + m - 1 - h]! = x ∧ d[h]! = y) := ⟨by rw [← hq]; exact hx, hy⟩
      clear hx hy
      generalize sortWorldK enc k w blk off n d os = wq at lx ly hcg CLS ⊢
      have HHH : Hid (h = (i + j) / 2 ∧ i ≤ h ∧ h < j) := ⟨hh, by omega, by omega⟩
      clear hh hq
      by_cases hlv : cf x y < 0
      · go_wp2_with fail
        have hhz : ((i : Int) + (j : Int)) / 2 = (h : Int) := by have := HHH.out; omega
        rw [hhz]
        clear hhz
        go_quiet_grown (first | (go_at_fn g; refine Calls.grown_of (hcg _ _)))
        go_wp2_with fail
        go_roundg (h - i)
        case measure => have := HHH.out; omega
        case rel =>
          have := HHH.out
          refine ⟨i, h, n + nq, os ++ osq, by first | rfl | go_num, by first | rfl | go_num, by omega, by omega, by omega, Nat.le_refl _, CLS.out nq osq, (show Hid _ from ?_)⟩
          show _ = _
          rw [← HO.out]
          exact (half_go0 _ i j h hlt HHH.out.1 (by (try dsimp only); rw [HX.out.1, HX.out.2]; unfold ltOf; rw [decide_eq_true hlv]; rfl)).symm
      · have hd : decide (cf x y < 0) = false := decide_eq_false hlv
        go_wp2_with fail
        have hhz : ((i : Int) + (j : Int)) / 2 = (h : Int) := by have := HHH.out; omega
        rw [hhz]
        clear hhz
        go_quiet_grown (first | (go_at_fn g; refine Calls.grown_of (hcg _ _)))
        go_wp2_with fail
        go_roundg (j - (h + 1))
        case measure => have := HHH.out; omega
        case rel =>
          have := HHH.out
          refine ⟨h + 1, j, n + nq, os ++ osq, by first | rfl | go_num, by first | rfl | go_num, by omega, by omega, by omega, Nat.le_refl _, CLS.out nq osq, (show Hid _ from ?_)⟩
          show _ = _
          rw [← HO.out]
          exact (half_go1 _ i j h hlt HHH.out.1 (by (try dsimp only); rw [HX.out.1, HX.out.2]; unfold ltOf; rw [decide_eq_false (show ¬ cf x y < 0 by omega)]; rfl)).symm
    · have hltz : ¬ (i : Int) < (j : Int) := by omega
      have HI : Hid (i = half (fun c => !ltOf cf d[mid + m - 1 - c]! d[c]!) lo mid) := by show _ = _; rw [← HO.out, half_stop _ _ _ hlt]
      clear HO
      obtain ⟨e, he⟩ : ∃ e, e = mid + m - i := ⟨_, rfl⟩
      have hez : (mid : Int) + (m : Int) - (i : Int) = (e : Int) := by omega
      have HE : Hid (e = mid + m - i) := he
      have e1 : e + i = mid + m := by omega
      clear he
      by_cases q1 : i < mid
      · by_cases q2 : a < i
        · by_cases q3 : e < b
          · skip
            have z1 : (i : Int) < (m : Int) := by omega
            have z2 : (m : Int) < (e : Int) := by omega
            have z3 : (a : Int) < (i : Int) := by omega
            have z4 : (i : Int) < (mid : Int) := by omega
            have z5 : (mid : Int) < (e : Int) := by omega
            have z6 : (e : Int) < (b : Int) := by omega
            have S1 : Hid ((rotate d i m e).size = d.size) := by show _ = _; exact rotate_size _ _ _ _
            have S2 : Hid ((symMerge (ltOf cf) F a i mid (rotate d i m e)).size = d.size) := by show _ = _; rw [symMerge_size]; try exact S1.out
            go_upto_region 43 with (first | (go_at_call 32; refine (rotate_calls k ZE.out enc HK.out H1.out (.func (.func g) #[] cb) blk off cap i m e d.size d _ (holdsK_sortWorldK_c enc k w blk off d d _ _ HH.out hblk rfl) (Nat.lt_of_lt_of_le hblk (size_sortWorldK_c enc k w blk off n d os)) (by omega) (by omega) (by omega) rfl hsz).mono ?_; rintro e_ w_ ⟨rfl, n1, os1, hw1⟩; rw [sortWorldK_on' enc k w blk off n n1 d _ os os1 hblk S1.out] at hw1; subst hw1) | (go_at_call 31; refine (HIH.out a i mid (rotate d i m e) _ (by omega) (by omega) (by omega) (by have := S1.out; omega) S1.out (CmpLays.on HC.out hblk S1.out (n + n1) (os ++ os1)) (holdsK_sortWorldK_c enc k w blk off d _ _ _ HH.out hblk S1.out) (Nat.lt_of_lt_of_le hblk (size_sortWorldK_c enc k w blk off (n + n1) _ (os ++ os1)))).mono ?_; rintro e_ w_ ⟨rfl, n2, os2, hw2⟩; rw [sortWorldK_on' enc k w blk off (n + n1) n2 _ _ (os ++ os1) os2 hblk (by rw [symMerge_size])] at hw2; subst hw2))
            go_wp2_with (first | (go_at_call 31; refine (HIH.out mid e b (symMerge (ltOf cf) F a i mid (rotate d i m e)) _ (by omega) (by omega) (by omega) (by have := S2.out; omega) S2.out (CmpLays.on HC.out hblk S2.out ((n + n1) + n2) (os ++ (os1 ++ os2))) (holdsK_sortWorldK_c enc k w blk off d _ _ _ HH.out hblk S2.out) (Nat.lt_of_lt_of_le hblk (size_sortWorldK_c enc k w blk off ((n + n1) + n2) _ (os ++ (os1 ++ os2))))).mono ?_; rintro e_ w_ ⟨rfl, n3, os3, hw3⟩; rw [sortWorldK_on' enc k w blk off ((n + n1) + n2) n3 _ _ (os ++ (os1 ++ os2)) os3 hblk (by rw [symMerge_size])] at hw3; subst hw3))
            go_end0
            refine ⟨rfl, (((n + n1) + n2) + n3), (os ++ (os1 ++ (os2 ++ os3))), ?_⟩
            rw [symMerge_main (ltOf cf) F a m b d hma hbm mid lo mid i e HMID.out (by rw [if_pos hc]; exact HLO.out) (by rw [if_pos hc]) HI.out HE.out (rotate d i m e) (symMerge (ltOf cf) F a i mid (rotate d i m e)) (symMerge (ltOf cf) F mid e b (symMerge (ltOf cf) F a i mid (rotate d i m e))) (by rw [if_pos (by omega)]) (by rw [if_pos (by omega)]) (by rw [if_pos (by omega)])]
            all_goals (try simp only [Array.append_assoc])
          · skip
            have z1 : (i : Int) < (m : Int) := by omega
            have z2 : (m : Int) < (e : Int) := by omega
            have z3 : (a : Int) < (i : Int) := by omega
            have z4 : (i : Int) < (mid : Int) := by omega
            have z5 : (mid : Int) < (e : Int) := by omega
            have z6 : ¬ (e : Int) < (b : Int) := by omega
            have S1 : Hid ((rotate d i m e).size = d.size) := by show _ = _; exact rotate_size _ _ _ _
            have S2 : Hid ((symMerge (ltOf cf) F a i mid (rotate d i m e)).size = d.size) := by show _ = _; rw [symMerge_size]; try exact S1.out
            go_upto_region 43 with (first | (go_at_call 32; refine (rotate_calls k ZE.out enc HK.out H1.out (.func (.func g) #[] cb) blk off cap i m e d.size d _ (holdsK_sortWorldK_c enc k w blk off d d _ _ HH.out hblk rfl) (Nat.lt_of_lt_of_le hblk (size_sortWorldK_c enc k w blk off n d os)) (by omega) (by omega) (by omega) rfl hsz).mono ?_; rintro e_ w_ ⟨rfl, n1, os1, hw1⟩; rw [sortWorldK_on' enc k w blk off n n1 d _ os os1 hblk S1.out] at hw1; subst hw1) | (go_at_call 31; refine (HIH.out a i mid (rotate d i m e) _ (by omega) (by omega) (by omega) (by have := S1.out; omega) S1.out (CmpLays.on HC.out hblk S1.out (n + n1) (os ++ os1)) (holdsK_sortWorldK_c enc k w blk off d _ _ _ HH.out hblk S1.out) (Nat.lt_of_lt_of_le hblk (size_sortWorldK_c enc k w blk off (n + n1) _ (os ++ os1)))).mono ?_; rintro e_ w_ ⟨rfl, n2, os2, hw2⟩; rw [sortWorldK_on' enc k w blk off (n + n1) n2 _ _ (os ++ os1) os2 hblk (by rw [symMerge_size])] at hw2; subst hw2))
            go_wp2_with (fail)
            go_end0
            refine ⟨rfl, ((n + n1) + n2), (os ++ (os1 ++ os2)), ?_⟩
            rw [symMerge_main (ltOf cf) F a m b d hma hbm mid lo mid i e HMID.out (by rw [if_pos hc]; exact HLO.out) (by rw [if_pos hc]) HI.out HE.out (rotate d i m e) (symMerge (ltOf cf) F a i mid (rotate d i m e)) (symMerge (ltOf cf) F a i mid (rotate d i m e)) (by rw [if_pos (by omega)]) (by rw [if_pos (by omega)]) (by rw [if_neg (by omega)])]
            all_goals (try simp only [Array.append_assoc])
        · by_cases q3 : e < b
          · skip
            have z1 : (i : Int) < (m : Int) := by omega
            have z2 : (m : Int) < (e : Int) := by omega
            have z3 : ¬ (a : Int) < (i : Int) := by omega
            have z5 : (mid : Int) < (e : Int) := by omega
            have z6 : (e : Int) < (b : Int) := by omega
            have S1 : Hid ((rotate d i m e).size = d.size) := by show _ = _; exact rotate_size _ _ _ _
            have S2 : Hid ((rotate d i m e).size = d.size) := by show _ = _; exact S1.out
            go_upto_region 43 with (first | (go_at_call 32; refine (rotate_calls k ZE.out enc HK.out H1.out (.func (.func g) #[] cb) blk off cap i m e d.size d _ (holdsK_sortWorldK_c enc k w blk off d d _ _ HH.out hblk rfl) (Nat.lt_of_lt_of_le hblk (size_sortWorldK_c enc k w blk off n d os)) (by omega) (by omega) (by omega) rfl hsz).mono ?_; rintro e_ w_ ⟨rfl, n1, os1, hw1⟩; rw [sortWorldK_on' enc k w blk off n n1 d _ os os1 hblk S1.out] at hw1; subst hw1))
            go_wp2_with (first | (go_at_call 31; refine (HIH.out mid e b (rotate d i m e) _ (by omega) (by omega) (by omega) (by have := S2.out; omega) S2.out (CmpLays.on HC.out hblk S2.out (n + n1) (os ++ os1)) (holdsK_sortWorldK_c enc k w blk off d _ _ _ HH.out hblk S2.out) (Nat.lt_of_lt_of_le hblk (size_sortWorldK_c enc k w blk off (n + n1) _ (os ++ os1)))).mono ?_; rintro e_ w_ ⟨rfl, n3, os3, hw3⟩; rw [sortWorldK_on' enc k w blk off (n + n1) n3 _ _ (os ++ os1) os3 hblk (by rw [symMerge_size])] at hw3; subst hw3))
            go_end0
            refine ⟨rfl, ((n + n1) + n3), (os ++ (os1 ++ os3)), ?_⟩
            rw [symMerge_main (ltOf cf) F a m b d hma hbm mid lo mid i e HMID.out (by rw [if_pos hc]; exact HLO.out) (by rw [if_pos hc]) HI.out HE.out (rotate d i m e) (rotate d i m e) (symMerge (ltOf cf) F mid e b (rotate d i m e)) (by rw [if_pos (by omega)]) (by rw [if_neg (by omega)]) (by rw [if_pos (by omega)])]
            all_goals (try simp only [Array.append_assoc])
          · skip
            have z1 : (i : Int) < (m : Int) := by omega
            have z2 : (m : Int) < (e : Int) := by omega
            have z3 : ¬ (a : Int) < (i : Int) := by omega
            have z5 : (mid : Int) < (e : Int) := by omega
            have z6 : ¬ (e : Int) < (b : Int) := by omega
            have S1 : Hid ((rotate d i m e).size = d.size) := by show _ = _; exact rotate_size _ _ _ _
            have S2 : Hid ((rotate d i m e).size = d.size) := by show _ = _; exact S1.out
            go_upto_region 43 with (first | (go_at_call 32; refine (rotate_calls k ZE.out enc HK.out H1.out (.func (.func g) #[] cb) blk off cap i m e d.size d _ (holdsK_sortWorldK_c enc k w blk off d d _ _ HH.out hblk rfl) (Nat.lt_of_lt_of_le hblk (size_sortWorldK_c enc k w blk off n d os)) (by omega) (by omega) (by omega) rfl hsz).mono ?_; rintro e_ w_ ⟨rfl, n1, os1, hw1⟩; rw [sortWorldK_on' enc k w blk off n n1 d _ os os1 hblk S1.out] at hw1; subst hw1))
            go_wp2_with (fail)
            go_end0
            refine ⟨rfl, (n + n1), (os ++ os1), ?_⟩
            rw [symMerge_main (ltOf cf) F a m b d hma hbm mid lo mid i e HMID.out (by rw [if_pos hc]; exact HLO.out) (by rw [if_pos hc]) HI.out HE.out (rotate d i m e) (rotate d i m e) (rotate d i m e) (by rw [if_pos (by omega)]) (by rw [if_neg (by omega)]) (by rw [if_neg (by omega)])]
            all_goals (try simp only [Array.append_assoc])
      · skip
        have z1 : (i : Int) < (m : Int) := by omega
        have z2 : ¬ (m : Int) < (e : Int) := by omega
        have z3 : (a : Int) < (i : Int) := by omega
        have z4 : ¬ (i : Int) < (mid : Int) := by omega
        have z5 : (mid : Int) < (e : Int) := by omega
        have z6 : (e : Int) < (b : Int) := by omega
        have S1 : Hid (d.size = d.size) := by show _ = _; rfl
        have S2 : Hid (d.size = d.size) := by show _ = _; exact S1.out
        go_upto_region 43 with (fail)
        go_wp2_with (first | (go_at_call 31; refine (HIH.out mid e b d _ (by omega) (by omega) (by omega) (by have := S2.out; omega) S2.out (CmpLays.on HC.out hblk S2.out n os) (holdsK_sortWorldK_c enc k w blk off d _ _ _ HH.out hblk S2.out) (Nat.lt_of_lt_of_le hblk (size_sortWorldK_c enc k w blk off n _ os))).mono ?_; rintro e_ w_ ⟨rfl, n3, os3, hw3⟩; rw [sortWorldK_on' enc k w blk off n n3 _ _ os os3 hblk (by rw [symMerge_size])] at hw3; subst hw3))
        go_end0
        refine ⟨rfl, (n + n3), (os ++ os3), ?_⟩
        rw [symMerge_main (ltOf cf) F a m b d hma hbm mid lo mid i e HMID.out (by rw [if_pos hc]; exact HLO.out) (by rw [if_pos hc]) HI.out HE.out d d (symMerge (ltOf cf) F mid e b d) (by rw [if_neg (by omega)]) (by rw [if_neg (by omega)]) (by rw [if_pos (by omega)])]
        all_goals (try simp only [Array.append_assoc])

set_option maxHeartbeats 16000000 in
set_option maxRecDepth 1000000 in
theorem symMerge_le (k : Nat) (zE : ∀ w, (Go.sizeOf 23).run Try.prog w = .ok k w) (enc : α → List Value) (hk : ∀ x, (enc x).length = k) (h1 : ∀ x, ∀ v ∈ enc x, v.oneCell' = true)
    (cf : α → α → Int) (g : Nat) (cb : Array Value) (eg : ∀ args w, (callFunc g args).run Try.prog w = .ok (.enter g args) w)
    (blk off cap a m b L F : Nat) (d : Array α) (w : World) (hcmp : CmpLays Try.prog g cb enc k cf blk off L w)
    (IH : ∀ (a m b : Nat) (d : Array α) (w : World), b - a ≤ F → a < m → m < b → b ≤ d.size → d.size = L → CmpLays Try.prog g cb enc k cf blk off L w → HoldsK enc k w blk off d → blk < w.heap.size →
      Calls Try.prog 31 #[.slice (some ⟨blk, off, none⟩) L cap, .int .i64 a, .int .i64 m, .int .i64 b, .func (.func g) #[] cb] w fun e w' => e = .returned (.tuple #[]) ∧ ∃ n os, w' = sortWorldK enc k w blk off n (symMerge (ltOf cf) F a m b d) os)
    (hH : HoldsK enc k w blk off d) (hblk : blk < w.heap.size) (ham : a < m) (hmb : m < b) (hma : ¬ m - a = 1) (hbm : ¬ b - m = 1) (hF : b - a ≤ F + 1) (hb : b ≤ d.size) (hL : d.size = L) (hsz : L < 4611686018427387904)
    (mid : Nat) (hmid : mid = (a + b) / 2) (hc : ¬ m > mid) :
    Calls Try.prog 31 #[.slice (some ⟨blk, off, none⟩) L cap, .int .i64 a, .int .i64 m, .int .i64 b, .func (.func g) #[] cb] w fun e w' =>
      e = .returned (.tuple #[]) ∧ ∃ n os, w' = sortWorldK enc k w blk off n (symMerge (ltOf cf) (F + 1) a m b d) os := by
  subst hL
  have mixed : Try.prog.follows .mixedOrders = true := by kernel_rfl
  have aE : ∀ w, (isAgg 23).run Try.prog w = .ok true w := fun w => by rfl
  have HST : Hid (w = sortWorldK enc k w blk off 0 d #[]) := by show w = _; unfold sortWorldK; rw [grow_empty]; exact (putRowK_self enc k w blk off d hH).symm
  have HC : Aside _ := hcmp
  have HIH : Aside _ := IH
  have HH : Hid (HoldsK enc k w blk off d) := hH
  have HK : Hid (∀ x, (enc x).length = k) := hk
  have H1 : Hid (∀ x, ∀ v ∈ enc x, v.oneCell' = true) := h1
  have ZE : Hid (∀ w, (Go.sizeOf 23).run Try.prog w = .ok k w) := zE
  have zma : ¬ (m : Int) - (a : Int) = 1 := by omega
  have bma : ((m : Int) - (a : Int) == 1) = false := beq_eq_false_iff_ne.mpr zma
  have zbm : ¬ (b : Int) - (m : Int) = 1 := by omega
  have bbm : ((b : Int) - (m : Int) == 1) = false := beq_eq_false_iff_ne.mpr zbm
  have hmz : ((a : Int) + (b : Int)) / 2 = (mid : Int) := by omega
  have mid1 : a < mid := by omega
  have mid2 : mid < b := by omega
  have mid3 : 2 * mid ≤ a + b := by omega
  have mid4 : a + b ≤ 2 * mid + 1 := by omega
  have HMID : Hid (mid = (a + b) / 2) := hmid
  obtain ⟨p, hp⟩ : ∃ p, p = mid + m - 1 := ⟨_, rfl⟩
  have hpz : (mid : Int) + (m : Int) - 1 = (p : Int) := by omega
  have HP : Hid (p = mid + m - 1) := hp
  have p1 : p < mid + m := by omega
  have p2 : mid + m ≤ p + 1 := by omega
  have hcz : ¬ (mid : Int) < (m : Int) := by omega
  clear hH hk h1 hcmp IH hmid hp
  go_enter Try.func31, Try.ntmps31
  go_wp2
  go_loopg [20, 21] (m - a) (fun g1 vi vj wr => ∃ (i j n : Nat) (os : Array Obj), vi = .int .i64 i ∧ vj = .int .i64 j ∧ a ≤ i ∧ i ≤ j ∧ j ≤ m ∧ j - i ≤ g1 ∧ wr = sortWorldK enc k w blk off n d os ∧ Hid (half (fun c => !ltOf cf d[mid + m - 1 - c]! d[c]!) i j = half (fun c => !ltOf cf d[mid + m - 1 - c]! d[c]!) a m))
  case atStart => exact ⟨a, m, 0, #[], by first | rfl | go_num, by first | rfl | go_num, by omega, by omega, by omega, by omega, HST.out, rfl⟩
  case round =>
    obtain ⟨i, j, n, os, rfl, rfl, him, hij, hjb, hg1, rfl, HO⟩ := hrel
    by_cases hlt : i < j
    · have hltz : (i : Int) < (j : Int) := by omega
      obtain ⟨h, hh⟩ : ∃ h, h = (i + j) / 2 := ⟨_, rfl⟩
      obtain ⟨q, hq⟩ : ∃ q, q = mid + m - 1 - h := ⟨_, rfl⟩
      have hhn : (h : Int) < (d.size : Int) := by omega
      have hqn : (q : Int) < (d.size : Int) := by omega
      have hqz : (p : Int) - (h : Int) = (q : Int) := by omega
      have hqw : IntKind.i64.wrap (q : Int) = (q : Int) := by rw [IntKind.wrap_i64]; omega
      have hqw2 : IntKind.i64.wrap ((p : Int) - (h : Int)) = (q : Int) := by rw [hqz]; exact hqw
      have lx := load_at (P := Try.prog) HK.out HH.out hblk rfl n os (dk := d) q (by omega)
      have ly := load_at (P := Try.prog) HK.out HH.out hblk rfl n os (dk := d) h (by omega)
      have hcg := call_at HC.out (dk := d) rfl n os d[q]! d[h]!
      have CLS : Hid (∀ n' os', grow ((sortWorldK enc k w blk off n d os).drewN n') os' = sortWorldK enc k w blk off (n + n') d (os ++ os')) := fun n' os' => sortWorldK_grown_c enc k w blk off n n' d os os'
      obtain ⟨x, hx⟩ : ∃ x, d[q]! = x := ⟨_, rfl⟩
      obtain ⟨y, hy⟩ : ∃ y, d[h]! = y := ⟨_, rfl⟩
      rw [hx] at lx
      rw [hy] at ly
      rw [hx, hy] at hcg
      have HX : Hid (d[mid + m - 1 - h]! = x ∧ d[h]! = y) := ⟨by rw [← hq]; exact hx, hy⟩
      clear hx hy
      generalize sortWorldK enc k w blk off n d os = wq at lx ly hcg CLS ⊢
      have HHH : Hid (h = (i + j) / 2 ∧ i ≤ h ∧ h < j) := ⟨hh, by omega, by omega⟩
      clear hh hq
      by_cases hlv : cf x y < 0
      · go_wp2_with fail
        have hhz : ((i : Int) + (j : Int)) / 2 = (h : Int) := by have := HHH.out; omega
        rw [hhz]
        clear hhz
        go_quiet_grown (first | (go_at_fn g; refine Calls.grown_of (hcg _ _)))
        go_wp2_with fail
        go_roundg (h - i)
        case measure => have := HHH.out; omega
        case rel =>
          have := HHH.out
          refine ⟨i, h, n + nq, os ++ osq, by first | rfl | go_num, by first | rfl | go_num, by omega, by omega, by omega, Nat.le_refl _, CLS.out nq osq, (show Hid _ from ?_)⟩
          show _ = _
          rw [← HO.out]
          exact (half_go0 _ i j h hlt HHH.out.1 (by (try dsimp only); rw [HX.out.1, HX.out.2]; unfold ltOf; rw [decide_eq_true hlv]; rfl)).symm
      · have hd : decide (cf x y < 0) = false := decide_eq_false hlv
        go_wp2_with fail
        have hhz : ((i : Int) + (j : Int)) / 2 = (h : Int) := by have := HHH.out; omega
        rw [hhz]
        clear hhz
        go_quiet_grown (first | (go_at_fn g; refine Calls.grown_of (hcg _ _)))
        go_wp2_with fail
        go_roundg (j - (h + 1))
        case measure => have := HHH.out; omega
        case rel =>
          have := HHH.out
          refine ⟨h + 1, j, n + nq, os ++ osq, by first | rfl | go_num, by first | rfl | go_num, by omega, by omega, by omega, Nat.le_refl _, CLS.out nq osq, (show Hid _ from ?_)⟩
          show _ = _
          rw [← HO.out]
          exact (half_go1 _ i j h hlt HHH.out.1 (by (try dsimp only); rw [HX.out.1, HX.out.2]; unfold ltOf; rw [decide_eq_false (show ¬ cf x y < 0 by omega)]; rfl)).symm
    · have hltz : ¬ (i : Int) < (j : Int) := by omega
      have HI : Hid (i = half (fun c => !ltOf cf d[mid + m - 1 - c]! d[c]!) a m) := by show _ = _; rw [← HO.out, half_stop _ _ _ hlt]
      clear HO
      obtain ⟨e, he⟩ : ∃ e, e = mid + m - i := ⟨_, rfl⟩
      have hez : (mid : Int) + (m : Int) - (i : Int) = (e : Int) := by omega
      have HE : Hid (e = mid + m - i) := he
      have e1 : e + i = mid + m := by omega
      clear he
      by_cases q1 : i < m
      · by_cases q2 : a < i
        · by_cases q3 : e < b
          · skip
            have z1 : (i : Int) < (m : Int) := by omega
            have z2 : (m : Int) < (e : Int) := by omega
            have z3 : (a : Int) < (i : Int) := by omega
            have z4 : (i : Int) < (mid : Int) := by omega
            have z5 : (mid : Int) < (e : Int) := by omega
            have z6 : (e : Int) < (b : Int) := by omega
            have S1 : Hid ((rotate d i m e).size = d.size) := by show _ = _; exact rotate_size _ _ _ _
            have S2 : Hid ((symMerge (ltOf cf) F a i mid (rotate d i m e)).size = d.size) := by show _ = _; rw [symMerge_size]; try exact S1.out
            go_upto_region 43 with (first | (go_at_call 32; refine (rotate_calls k ZE.out enc HK.out H1.out (.func (.func g) #[] cb) blk off cap i m e d.size d _ (holdsK_sortWorldK_c enc k w blk off d d _ _ HH.out hblk rfl) (Nat.lt_of_lt_of_le hblk (size_sortWorldK_c enc k w blk off n d os)) (by omega) (by omega) (by omega) rfl hsz).mono ?_; rintro e_ w_ ⟨rfl, n1, os1, hw1⟩; rw [sortWorldK_on' enc k w blk off n n1 d _ os os1 hblk S1.out] at hw1; subst hw1) | (go_at_call 31; refine (HIH.out a i mid (rotate d i m e) _ (by omega) (by omega) (by omega) (by have := S1.out; omega) S1.out (CmpLays.on HC.out hblk S1.out (n + n1) (os ++ os1)) (holdsK_sortWorldK_c enc k w blk off d _ _ _ HH.out hblk S1.out) (Nat.lt_of_lt_of_le hblk (size_sortWorldK_c enc k w blk off (n + n1) _ (os ++ os1)))).mono ?_; rintro e_ w_ ⟨rfl, n2, os2, hw2⟩; rw [sortWorldK_on' enc k w blk off (n + n1) n2 _ _ (os ++ os1) os2 hblk (by rw [symMerge_size])] at hw2; subst hw2))
            go_wp2_with (first | (go_at_call 31; refine (HIH.out mid e b (symMerge (ltOf cf) F a i mid (rotate d i m e)) _ (by omega) (by omega) (by omega) (by have := S2.out; omega) S2.out (CmpLays.on HC.out hblk S2.out ((n + n1) + n2) (os ++ (os1 ++ os2))) (holdsK_sortWorldK_c enc k w blk off d _ _ _ HH.out hblk S2.out) (Nat.lt_of_lt_of_le hblk (size_sortWorldK_c enc k w blk off ((n + n1) + n2) _ (os ++ (os1 ++ os2))))).mono ?_; rintro e_ w_ ⟨rfl, n3, os3, hw3⟩; rw [sortWorldK_on' enc k w blk off ((n + n1) + n2) n3 _ _ (os ++ (os1 ++ os2)) os3 hblk (by rw [symMerge_size])] at hw3; subst hw3))
            go_end0
            refine ⟨rfl, (((n + n1) + n2) + n3), (os ++ (os1 ++ (os2 ++ os3))), ?_⟩
            rw [symMerge_main (ltOf cf) F a m b d hma hbm mid a m i e HMID.out (by rw [if_neg hc]) (by rw [if_neg hc]) HI.out HE.out (rotate d i m e) (symMerge (ltOf cf) F a i mid (rotate d i m e)) (symMerge (ltOf cf) F mid e b (symMerge (ltOf cf) F a i mid (rotate d i m e))) (by rw [if_pos (by omega)]) (by rw [if_pos (by omega)]) (by rw [if_pos (by omega)])]
            all_goals (try simp only [Array.append_assoc])
          · skip
            have z1 : (i : Int) < (m : Int) := by omega
            have z2 : (m : Int) < (e : Int) := by omega
            have z3 : (a : Int) < (i : Int) := by omega
            have z4 : (i : Int) < (mid : Int) := by omega
            have z5 : (mid : Int) < (e : Int) := by omega
            have z6 : ¬ (e : Int) < (b : Int) := by omega
            have S1 : Hid ((rotate d i m e).size = d.size) := by show _ = _; exact rotate_size _ _ _ _
            have S2 : Hid ((symMerge (ltOf cf) F a i mid (rotate d i m e)).size = d.size) := by show _ = _; rw [symMerge_size]; try exact S1.out
            go_upto_region 43 with (first | (go_at_call 32; refine (rotate_calls k ZE.out enc HK.out H1.out (.func (.func g) #[] cb) blk off cap i m e d.size d _ (holdsK_sortWorldK_c enc k w blk off d d _ _ HH.out hblk rfl) (Nat.lt_of_lt_of_le hblk (size_sortWorldK_c enc k w blk off n d os)) (by omega) (by omega) (by omega) rfl hsz).mono ?_; rintro e_ w_ ⟨rfl, n1, os1, hw1⟩; rw [sortWorldK_on' enc k w blk off n n1 d _ os os1 hblk S1.out] at hw1; subst hw1) | (go_at_call 31; refine (HIH.out a i mid (rotate d i m e) _ (by omega) (by omega) (by omega) (by have := S1.out; omega) S1.out (CmpLays.on HC.out hblk S1.out (n + n1) (os ++ os1)) (holdsK_sortWorldK_c enc k w blk off d _ _ _ HH.out hblk S1.out) (Nat.lt_of_lt_of_le hblk (size_sortWorldK_c enc k w blk off (n + n1) _ (os ++ os1)))).mono ?_; rintro e_ w_ ⟨rfl, n2, os2, hw2⟩; rw [sortWorldK_on' enc k w blk off (n + n1) n2 _ _ (os ++ os1) os2 hblk (by rw [symMerge_size])] at hw2; subst hw2))
            go_wp2_with (fail)
            go_end0
            refine ⟨rfl, ((n + n1) + n2), (os ++ (os1 ++ os2)), ?_⟩
            rw [symMerge_main (ltOf cf) F a m b d hma hbm mid a m i e HMID.out (by rw [if_neg hc]) (by rw [if_neg hc]) HI.out HE.out (rotate d i m e) (symMerge (ltOf cf) F a i mid (rotate d i m e)) (symMerge (ltOf cf) F a i mid (rotate d i m e)) (by rw [if_pos (by omega)]) (by rw [if_pos (by omega)]) (by rw [if_neg (by omega)])]
            all_goals (try simp only [Array.append_assoc])
        · by_cases q3 : e < b
          · skip
            have z1 : (i : Int) < (m : Int) := by omega
            have z2 : (m : Int) < (e : Int) := by omega
            have z3 : ¬ (a : Int) < (i : Int) := by omega
            have z5 : (mid : Int) < (e : Int) := by omega
            have z6 : (e : Int) < (b : Int) := by omega
            have S1 : Hid ((rotate d i m e).size = d.size) := by show _ = _; exact rotate_size _ _ _ _
            have S2 : Hid ((rotate d i m e).size = d.size) := by show _ = _; exact S1.out
            go_upto_region 43 with (first | (go_at_call 32; refine (rotate_calls k ZE.out enc HK.out H1.out (.func (.func g) #[] cb) blk off cap i m e d.size d _ (holdsK_sortWorldK_c enc k w blk off d d _ _ HH.out hblk rfl) (Nat.lt_of_lt_of_le hblk (size_sortWorldK_c enc k w blk off n d os)) (by omega) (by omega) (by omega) rfl hsz).mono ?_; rintro e_ w_ ⟨rfl, n1, os1, hw1⟩; rw [sortWorldK_on' enc k w blk off n n1 d _ os os1 hblk S1.out] at hw1; subst hw1))
            go_wp2_with (first | (go_at_call 31; refine (HIH.out mid e b (rotate d i m e) _ (by omega) (by omega) (by omega) (by have := S2.out; omega) S2.out (CmpLays.on HC.out hblk S2.out (n + n1) (os ++ os1)) (holdsK_sortWorldK_c enc k w blk off d _ _ _ HH.out hblk S2.out) (Nat.lt_of_lt_of_le hblk (size_sortWorldK_c enc k w blk off (n + n1) _ (os ++ os1)))).mono ?_; rintro e_ w_ ⟨rfl, n3, os3, hw3⟩; rw [sortWorldK_on' enc k w blk off (n + n1) n3 _ _ (os ++ os1) os3 hblk (by rw [symMerge_size])] at hw3; subst hw3))
            go_end0
            refine ⟨rfl, ((n + n1) + n3), (os ++ (os1 ++ os3)), ?_⟩
            rw [symMerge_main (ltOf cf) F a m b d hma hbm mid a m i e HMID.out (by rw [if_neg hc]) (by rw [if_neg hc]) HI.out HE.out (rotate d i m e) (rotate d i m e) (symMerge (ltOf cf) F mid e b (rotate d i m e)) (by rw [if_pos (by omega)]) (by rw [if_neg (by omega)]) (by rw [if_pos (by omega)])]
            all_goals (try simp only [Array.append_assoc])
          · skip
            have z1 : (i : Int) < (m : Int) := by omega
            have z2 : (m : Int) < (e : Int) := by omega
            have z3 : ¬ (a : Int) < (i : Int) := by omega
            have z5 : (mid : Int) < (e : Int) := by omega
            have z6 : ¬ (e : Int) < (b : Int) := by omega
            have S1 : Hid ((rotate d i m e).size = d.size) := by show _ = _; exact rotate_size _ _ _ _
            have S2 : Hid ((rotate d i m e).size = d.size) := by show _ = _; exact S1.out
            go_upto_region 43 with (first | (go_at_call 32; refine (rotate_calls k ZE.out enc HK.out H1.out (.func (.func g) #[] cb) blk off cap i m e d.size d _ (holdsK_sortWorldK_c enc k w blk off d d _ _ HH.out hblk rfl) (Nat.lt_of_lt_of_le hblk (size_sortWorldK_c enc k w blk off n d os)) (by omega) (by omega) (by omega) rfl hsz).mono ?_; rintro e_ w_ ⟨rfl, n1, os1, hw1⟩; rw [sortWorldK_on' enc k w blk off n n1 d _ os os1 hblk S1.out] at hw1; subst hw1))
            go_wp2_with (fail)
            go_end0
            refine ⟨rfl, (n + n1), (os ++ os1), ?_⟩
            rw [symMerge_main (ltOf cf) F a m b d hma hbm mid a m i e HMID.out (by rw [if_neg hc]) (by rw [if_neg hc]) HI.out HE.out (rotate d i m e) (rotate d i m e) (rotate d i m e) (by rw [if_pos (by omega)]) (by rw [if_neg (by omega)]) (by rw [if_neg (by omega)])]
            all_goals (try simp only [Array.append_assoc])
      · by_cases q2 : i < mid
        · skip
          have z1 : ¬ (i : Int) < (m : Int) := by omega
          have z3 : (a : Int) < (i : Int) := by omega
          have z4 : (i : Int) < (mid : Int) := by omega
          have z5 : ¬ (mid : Int) < (e : Int) := by omega
          have S1 : Hid (d.size = d.size) := by show _ = _; rfl
          have S2 : Hid ((symMerge (ltOf cf) F a i mid d).size = d.size) := by show _ = _; rw [symMerge_size]; try exact S1.out
          go_upto_region 43 with (first | (go_at_call 31; refine (HIH.out a i mid d _ (by omega) (by omega) (by omega) (by have := S1.out; omega) S1.out (CmpLays.on HC.out hblk S1.out n os) (holdsK_sortWorldK_c enc k w blk off d _ _ _ HH.out hblk S1.out) (Nat.lt_of_lt_of_le hblk (size_sortWorldK_c enc k w blk off n _ os))).mono ?_; rintro e_ w_ ⟨rfl, n2, os2, hw2⟩; rw [sortWorldK_on' enc k w blk off n n2 _ _ os os2 hblk (by rw [symMerge_size])] at hw2; subst hw2))
          go_wp2_with (fail)
          go_end0
          refine ⟨rfl, (n + n2), (os ++ os2), ?_⟩
          rw [symMerge_main (ltOf cf) F a m b d hma hbm mid a m i e HMID.out (by rw [if_neg hc]) (by rw [if_neg hc]) HI.out HE.out d (symMerge (ltOf cf) F a i mid d) (symMerge (ltOf cf) F a i mid d) (by rw [if_neg (by omega)]) (by rw [if_pos (by omega)]) (by rw [if_neg (by omega)])]
          all_goals (try simp only [Array.append_assoc])
        · skip
          have z1 : ¬ (i : Int) < (m : Int) := by omega
          have z3 : (a : Int) < (i : Int) := by omega
          have z4 : ¬ (i : Int) < (mid : Int) := by omega
          have z5 : ¬ (mid : Int) < (e : Int) := by omega
          have S1 : Hid (d.size = d.size) := by show _ = _; rfl
          have S2 : Hid (d.size = d.size) := by show _ = _; exact S1.out
          go_upto_region 43 with (fail)
          go_wp2_with (fail)
          go_end0
          refine ⟨rfl, n, os, ?_⟩
          rw [symMerge_main (ltOf cf) F a m b d hma hbm mid a m i e HMID.out (by rw [if_neg hc]) (by rw [if_neg hc]) HI.out HE.out d d d (by rw [if_neg (by omega)]) (by rw [if_neg (by omega)]) (by rw [if_neg (by omega)])]
          all_goals (try simp only [Array.append_assoc])

theorem symMerge_calls (k : Nat) (zE : ∀ w, (Go.sizeOf 23).run Try.prog w = .ok k w) (enc : α → List Value) (hk : ∀ x, (enc x).length = k) (h1 : ∀ x, ∀ v ∈ enc x, v.oneCell' = true)
    (cf : α → α → Int) (g : Nat) (cb : Array Value) (eg : ∀ args w, (callFunc g args).run Try.prog w = .ok (.enter g args) w) (blk off cap L : Nat) (hsz : L < 4611686018427387904) :
    ∀ (F a m b : Nat) (d : Array α) (w : World), b - a ≤ F → a < m → m < b → b ≤ d.size → d.size = L → CmpLays Try.prog g cb enc k cf blk off L w → HoldsK enc k w blk off d → blk < w.heap.size →
      Calls Try.prog 31 #[.slice (some ⟨blk, off, none⟩) L cap, .int .i64 a, .int .i64 m, .int .i64 b, .func (.func g) #[] cb] w fun e w' => e = .returned (.tuple #[]) ∧ ∃ n os, w' = sortWorldK enc k w blk off n (symMerge (ltOf cf) F a m b d) os := by
  intro F
  induction F with
  | zero => intro a m b d w hF h2 h3; omega
  | succ F ih =>
    intro a m b d w hF ham hmb hb hL hcmp hH hblk
    by_cases hma : m - a = 1
    · exact symMerge_one k zE enc hk h1 cf g cb eg blk off cap a m b L F d w hcmp hH hblk (by omega) hmb hb hL hsz
    by_cases hbm : b - m = 1
    · exact symMerge_two k zE enc hk h1 cf g cb eg blk off cap a m b L F d w hcmp hH hblk ham hma (by omega) hb hL hsz
    by_cases hc : m > (a + b) / 2
    · exact symMerge_gt k zE enc hk h1 cf g cb eg blk off cap a m b L F d w hcmp ih hH hblk ham hmb hma hbm hF hb hL hsz _ rfl hc
    · exact symMerge_le k zE enc hk h1 cf g cb eg blk off cap a m b L F d w hcmp ih hH hblk ham hmb hma hbm hF hb hL hsz _ rfl hc
end Go.Proofs.Ytcicdnleeknjgaa.ArbW
