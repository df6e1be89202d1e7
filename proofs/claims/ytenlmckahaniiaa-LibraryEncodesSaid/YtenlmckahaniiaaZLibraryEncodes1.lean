/- Lemmas for the law LibraryEncodes: what its proof needs beyond what it shares. -/
import Derived.Test.YtenlmckahaniiaaZLibraryEncodes0
import Derived.Test.YtenlmckahaniiaaZcLe20
set_option linter.unusedVariables false
set_option linter.unusedSimpArgs false
set_option linter.unusedSectionVars false
set_option maxHeartbeats 8000000
set_option maxRecDepth 100000
section
namespace Go.Proofs.Ytenlmckahaniiaa.Oct
open Go Go.RowKit Go.Proofs.Ytenlmckahaniiaa.K Go.Proofs.YtW.P Go.Proofs.YtW.M Go.Proofs.Ytenlmckahaniiaa.MyBits Go.Proofs.Ytenlmckahaniiaa.MyStr
theorem rput_loop (w : Int) (d : Nat) : ∀ (n : Int) (i : Nat) (pre : List Int), 0 ≤ n → n ≤ 9223372036854775807 → i + d = width w → pre.length = i →
    Ev (fun k => zq14.l0 k n w pre (i : Int)) (mkS (byt (pre ++ lei n d))) := by
  have hw := y5n w
  have hx : ∀ i : Nat, i < width w → ((i : Int) < w ∧ (i : Int) < 8) := by intro i hi; unfold width mx mn at hi; split at hi <;> split at hi <;> omega
  have hy : ¬ ((width w : Int) < w ∧ (width w : Int) < 8) := by unfold width mx mn; split <;> split <;> omega
  induction d with
  | zero =>
    intro n i pre h0 h1 hi hp
    obtain rfl : i = width w := by omega
    refine Ev.step (f := fun _ => some (mkS (byt (pre ++ lei n 0)))) (fun k => ?_) (Ev.now _)
    rw [zq14.l0]
    by_cases h : (width w : Int) < w
    · rw [if_pos h, if_neg (fun h2 => hy ⟨h, h2⟩), y3j]; simp [lei]
    · rw [if_neg h, y3j]; simp [lei]
  | succ d ih =>
    intro n i pre h0 h1 hi hp
    have hi2 := hx i (by omega)
    have hn := ih (n / 256) (i + 1) (pre ++ [n % 256]) (by omega) (by omega) (by omega) (by rw [List.length_append]; simp [hp])
    have e : pre ++ lei n (d + 1) = pre ++ [n % 256] ++ lei (n / 256) d := by rw [List.append_assoc]; rfl
    rw [e]
    refine Ev.step ?_ hn
    intro k
    rw [zq14.l0, if_pos hi2.1, if_pos hi2.2, if_pos (by omega), i64_nat i (by omega)]
    have e1 : Int.tdiv n 256 = n / 256 := Int.tdiv_eq_ediv_of_nonneg h0
    have e2 : Int.tmod n 256 = n % 256 := Int.tmod_eq_emod_of_nonneg h0
    rw [e1, e2, show wrap64 (n / 256) = n / 256 by unfold wrap64; omega, show n % 256 % 256 = n % 256 by omega]
theorem y4s (a w : Int) (h1 : a ≤ 9223372036854775807) : Ev (fun k => zq14.f k a w) (mkS (le (mx a 0) (width w))) := by
  have go : ∀ n : Int, 0 ≤ n → n ≤ 9223372036854775807 → Ev (fun k => zq14.j0 k n w) (mkS (le n (width w))) := by
    intro n h0 h1
    have h := rput_loop w (width w) n 0 [] h0 h1 (by omega) rfl
    exact Ev.step (fun k => by rw [zq14.j0]; rfl) h
  unfold zq14.f
  by_cases h : a < 0
  · rw [show mx a 0 = 0 by unfold mx; rw [if_pos h]]
    exact Ev.congr (fun k => if_pos h) (go 0 (by decide) (by decide))
  · rw [show mx a 0 = a by unfold mx; rw [if_neg h]]
    exact Ev.congr (fun k => if_neg h) (go a (by omega) h1)
theorem rget_loop (s : ByteArray) (a w : Nat) (hw : w ≤ 7) (ha : a + w ≤ s.size) (hs : s.size ≤ 9223372036854775807) (d : Nat) : d ≤ w →
    Ev (fun k => zq13.l0 k s (a : Int) (w : Int) (num (((((bs s).drop a).take w)).drop d)) ((a : Int) + d - 1)) (num (((bs s).drop a).take w), (a : Int) + w, 0) := by
  have hlen : (((bs s).drop a).take w).length = w := by rw [List.length_take, List.length_drop, y0z]; omega
  induction d with
  | zero =>
    intro _
    refine Ev.step (f := fun _ => some (num ((((bs s).drop a).take w).drop 0), wrap64 ((a : Int) + w), 0)) (fun k => by rw [zq13.l0, if_neg (by omega)]) ?_
    rw [List.drop_zero, show wrap64 ((a : Int) + w) = (a : Int) + w by unfold wrap64; omega]
    exact Ev.now _
  | succ d ih =>
    intro hd
    refine Ev.step ?_ (ih (by omega))
    intro k
    have e1 : (a : Int) + ((d + 1 : Nat) : Int) - 1 = (a : Int) + (d : Int) := by omega
    have hr := y3h (((bs s).drop a).take w) (d + 1) (by omega) (by omega)
    have hb := bt_rng s ((a : Int) + d)
    rw [e1, zq13.l0, if_pos (by omega), if_pos (by omega), if_pos (by omega), show wrap64 ((a : Int) + (d : Int) - 1) = (a : Int) + (d : Int) - 1 by unfold wrap64; omega]
    have e3 : wrap64 (wrap64 (256 * num (((bs s).drop a |>.take w).drop (d + 1))) + wrap64 (bt s ((a : Int) + d))) = num (((bs s).drop a |>.take w).drop d) := by
      rw [num_drop (((bs s).drop a).take w) d (by omega), bt_bs, show ((a : Int) + d).toNat = a + d by omega, y18 (bs s) a w d (by omega)]
      have := y17 (((bs s).drop a).take w) d
      unfold wrap64; omega
    rw [e3]
theorem rget_is (s : ByteArray) (a w : Int) (hs : s.size ≤ 9223372036854775807) : Ev (fun k => zq13.f k s a w) (getR (bs s) a w) := by
  have bad : Ev (fun k => zq13.j0 k s a w true) (0, 0, 1) := Ev.step (f := fun _ => some (0, 0, 1)) (fun k => by rw [zq13.j0, if_pos rfl]) (Ev.now _)
  unfold getR
  rw [y0z]
  by_cases h1 : w < 1
  · rw [if_pos (by omega)]; refine Ev.congr (fun k => ?_) bad; unfold zq13.f; rw [if_pos h1]
  by_cases h2 : w > 7
  · rw [if_pos (by omega)]; refine Ev.congr (fun k => ?_) bad; unfold zq13.f; rw [if_neg h1, if_pos h2]
  by_cases h3 : a < 0
  · rw [if_pos (by omega)]; refine Ev.congr (fun k => ?_) bad; unfold zq13.f; rw [if_neg h1, if_neg h2, if_pos h3]
  by_cases h4 : a > (s.size : Int)
  · rw [if_pos (by omega)]; refine Ev.congr (fun k => ?_) bad; unfold zq13.f; rw [if_neg h1, if_neg h2, if_neg h3, decide_eq_true h4]
  rw [if_neg (by omega)]
  have hw : wrap64 ((s.size : Int) - a) = (s.size : Int) - a := by unfold wrap64; omega
  by_cases h5 : w > (s.size : Int) - a
  · rw [if_pos h5]
    refine Ev.congr (f := fun k => zq13.j0 k s a w false) (fun k => by unfold zq13.f; rw [if_neg h1, if_neg h2, if_neg h3, decide_eq_false h4]) ?_
    exact Ev.step (f := fun _ => some (0, 0, 8)) (fun k => by rw [zq13.j0, if_neg (by decide), hw, if_pos (by omega)]) (Ev.now _)
  · rw [if_neg h5]
    obtain ⟨a, rfl⟩ := Int.eq_ofNat_of_zero_le (show 0 ≤ a by omega)
    obtain ⟨w, rfl⟩ := Int.eq_ofNat_of_zero_le (show 0 ≤ w by omega)
    refine Ev.congr (f := fun k => zq13.j0 k s a w false) (fun k => by unfold zq13.f; rw [if_neg h1, if_neg h2, if_neg h3, decide_eq_false h4]) ?_
    have hl := rget_loop s a w (by omega) (by omega) hs w (Nat.le_refl _)
    have hlen : (((bs s).drop a).take w).length = w := by rw [List.length_take, List.length_drop, y0z]; omega
    rw [List.drop_of_length_le (by omega)] at hl
    refine Ev.step ?_ hl
    intro k
    rw [zq13.j0, if_neg (by decide), hw, if_neg (by omega), show wrap64 (wrap64 ((a : Int) + w) - 1) = (a : Int) + w - 1 by unfold wrap64; omega]
    rfl
theorem rcrc_l1 (c : Nat) (hc : c < 4294967296) (s : ByteArray) (i : Int) (d : Nat) (r : Int) : ∀ e : Nat, e + d = 8 →
    Ev (fun k => zq12.l0 k s (steps d c : Nat) (wrap64 (i + 1))) r → Ev (fun k => zq12.l1 k s (c : Int) i (e : Int)) r := by
  induction d generalizing c with
  | zero =>
    intro e he h
    refine Ev.step ?_ h
    intro k
    rw [zq12.l1, if_neg (by omega)]
    rfl
  | succ d ih =>
    intro e he h
    refine Ev.step ?_ (ih (step c) (y5a c hc) (e + 1) (by omega) h)
    intro k
    have e2 : (c : Int) / 2 = ((c / 2 : Nat) : Int) := by omega
    have e3 : Int.tmod (c : Int) 2 = ((c % 2 : Nat) : Int) := by rw [Int.tmod_eq_emod_of_nonneg (by omega)]; omega
    rw [zq12.l1, if_pos (by omega), e2, e3, i64_nat e (by omega)]
    unfold step
    by_cases h2 : c % 2 = 1
    · rw [if_pos (by omega), if_pos h2, show (3988292384 : Int) = ((3988292384 : Nat) : Int) from rfl, u32_xor_nat _ _ (by omega) (by decide)]
    · rw [if_neg (by omega), if_neg h2]
theorem rcrc_l0 (s : ByteArray) (hs : s.size ≤ 9223372036854775806) (d : Nat) : ∀ i : Nat, i + d = s.size →
    Ev (fun k => zq12.l0 k s (crcs 4294967295 ((bs s).take i) : Nat) (i : Int)) (crc (bs s) : Nat) := by
  induction d with
  | zero =>
    intro i hi
    have hlt := y1o 4294967295 (bs s) (by decide)
    refine Ev.step (f := fun _ => some ((crc (bs s) : Nat) : Int)) (fun k => ?_) (Ev.now _)
    rw [zq12.l0, if_neg (by omega), List.take_of_length_le (by rw [y0z]; omega), show (4294967295 : Int) = ((4294967295 : Nat) : Int) from rfl, u32_xor_nat _ _ hlt (by decide)]
    have := y1m (bs s)
    unfold crc at *
    congr 1; unfold wrap64; omega
  | succ d ih =>
    intro i hi
    have hlt := y1o 4294967295 ((bs s).take i) (by decide)
    have hb : i < (bs s).length := by rw [y0z]; omega
    have h8 := UInt8.toNat_lt (bs s)[i]
    have hx : crcs 4294967295 ((bs s).take i) ^^^ ((bs s)[i]).toNat < 4294967296 := Nat.xor_lt_two_pow (n := 32) hlt (by omega)
    have hn := ih (i + 1) (by omega)
    rw [crcs_take _ (bs s) i hb] at hn
    have h2 := rcrc_l1 (crcs 4294967295 ((bs s).take i) ^^^ ((bs s)[i]).toNat) hx s (i : Int) 8 _ 0 (by omega) (by rw [i64_nat i (by omega)]; exact hn)
    refine Ev.step ?_ h2
    intro k
    rw [zq12.l0, if_pos (by omega), if_pos (by omega)]
    congr 1
    have e : bt s (i : Int) % 4294967296 = (((bs s)[i]).toNat : Int) := by
      rw [bt_bs, Int.toNat_natCast]; unfold byteAt; rw [List.getElem?_eq_getElem hb, Option.getD_some]; omega
    rw [e, u32_xor_nat _ _ hlt (by omega)]
theorem rcrc_is (s : ByteArray) (hs : s.size ≤ 9223372036854775806) : Ev (fun k => zq12.f k s) (crc (bs s) : Nat) :=
  rcrc_l0 s hs s.size 0 (by omega)
theorem rseal_is (s : ByteArray) (hs : s.size < 140737488355000) : Ev (fun k => zqv.f k s) (mkS (seal_ (bs s))) := by
  have := y1m (bs s)
  unfold zqv.f
  refine Ev.bind (rcrc_is s (by omega)) (Ev.bind (y4s _ 4 (by omega)) ?_)
  refine Ev.congr (fun k => if_pos (by rw [y37, y2y]; have := y5n 4; omega)) ?_
  rw [y3a, ← mkS_bs s, y36, y14]
  exact Ev.now _
theorem ropen_is (s : ByteArray) (hs : s.size < 140737488355000) : Ev (fun k => zqu.f k s) (mkS (openR (bs s)).1, (openR (bs s)).2) := by
  have hw : wrap64 ((s.size : Int) - 4) = (s.size : Int) - 4 := by unfold wrap64; omega
  unfold zqu.f openR
  simp only [hw, y0z]
  by_cases h : s.size < 4
  · rw [if_pos h]
    refine Ev.congr (fun k => if_pos (by omega)) (Ev.now _)
  · rw [if_neg h]
    have e : ((s.size : Int) - 4).toNat = s.size - 4 := by omega
    rw [e]
    have hx : s.extract 0 (s.size - 4) = mkS ((bs s).take (s.size - 4)) := by rw [y21, List.drop_zero]
    have hy : s.extract (s.size - 4) s.size = mkS ((bs s).drop (s.size - 4)) := by rw [y21, List.take_of_length_le (by rw [y0z]; omega)]
    rw [hx, hy]
    have h1 := rcrc_is (mkS ((bs s).take (s.size - 4))) (by rw [y37, List.length_take]; omega)
    rw [y14] at h1
    have hc := y1m ((bs s).take (s.size - 4))
    have h2 := y4s ((crc ((bs s).take (s.size - 4)) : Nat) : Int) 4 (by omega)
    rw [y3a] at h2
    refine Ev.congr (fun k => by rw [if_neg (by omega), if_pos (by omega), if_pos (by omega)]) ?_
    refine Ev.bind h1 (Ev.bind h2 ?_)
    rw [y5i, y5i, y14, y14]
    by_cases h3 : (bs s).drop (s.size - 4) = le (crc ((bs s).take (s.size - 4)) : Nat) 4
    · rw [if_pos h3]
      exact Ev.congr (fun k => if_pos h3.symm) (Ev.now _)
    · rw [if_neg h3]
      exact Ev.congr (fun k => if_neg (fun h => h3 h.symm)) (Ev.now _)
theorem y4r (s : ByteArray) (hs : s.size < 140737488355000) : Ev (fun k => zq9.f k s) (mkS (putT (bs s))) := by
  have hw := y5n 2
  unfold zq9.f
  by_cases h : (s.size : Int) > 65535
  · have hx : s.extract 0 65535 = mkS ((bs s).take 65535) := by rw [y21, List.drop_zero]
    have hz : (mkS ((bs s).take 65535)).size ≤ 65535 := by rw [y37, List.length_take]; omega
    rw [hx]
    refine Ev.congr (fun k => by rw [if_pos h, if_pos (by decide), if_pos (by omega)]) ?_
    refine Ev.bind (y4s _ 2 (by omega)) ?_
    refine Ev.congr (fun k => if_pos (by rw [y37, y2y]; omega)) ?_
    rw [y3a, y36, y37]
    exact Ev.now _
  · refine Ev.congr (fun k => if_neg h) ?_
    refine Ev.bind (y4s _ 2 (by omega)) ?_
    refine Ev.congr (fun k => if_pos (by rw [y37, y2y]; omega)) ?_
    rw [y3a, y3z _ (by rw [y0z]; omega), y0z]
    have e : mkS (le ((s.size : Nat) : Int) (width 2)) ++ s = mkS (le ((s.size : Nat) : Int) 2 ++ bs s) := by
      apply y0y; rw [y0w]; rfl
    rw [← e]
    exact Ev.now _
theorem rgetText_is (s : ByteArray) (a : Int) (hs : s.size < 140737488355000) : Ev (fun k => zq8.f k s a) (mkS (getT (bs s) a).1, (getT (bs s) a).2) := by
  have bad : (a < 0 ∨ a > (s.size : Int)) → getR (bs s) a 2 = (0, 0, 1) := by intro h; unfold getR; rw [y0z, if_pos (by omega)]
  have bad2 : Ev (fun k => zq8.j0 k s a true) (nB_, 0, 1) := Ev.step (f := fun _ => some _) (fun k => by rw [zq8.j0, if_pos rfl]) (Ev.now _)
  unfold zq8.f
  by_cases h1 : a < 0
  · have hT : getT (bs s) a = ([], 0, 1) := by rw [y29 (by rw [bad (.inl h1)]; decide), bad (.inl h1)]
    rw [hT]
    exact Ev.congr (fun k => if_pos h1) bad2
  by_cases h2 : a > (s.size : Int)
  · have hT : getT (bs s) a = ([], 0, 1) := by rw [y29 (by rw [bad (.inr h2)]; decide), bad (.inr h2)]
    rw [hT]
    exact Ev.congr (fun k => by rw [if_neg h1, decide_eq_true h2]) bad2
  refine Ev.congr (f := fun k => zq8.j0 k s a false) (fun k => by rw [if_neg h1, decide_eq_false h2]) ?_
  refine Ev.step (fun k => by rw [zq8.j0, if_neg (by decide)]) ?_
  refine Ev.bind (rget_is s a 2 (by omega)) ?_
  by_cases h : (getR (bs s) a 2).2.2 = 0
  · obtain ⟨_, _, h3, h4, h5⟩ := y27 _ a 2 h
    obtain ⟨h6, h7⟩ := y25 _ a h
    have h8 : (getR (bs s) a 2).2.1 = a + 2 := by rw [h5]
    have hlen := y0z s
    have hw : wrap64 ((s.size : Int) - (a + 2)) = (s.size : Int) - (a + 2) := by unfold wrap64; omega
    by_cases hn : (getR (bs s) a 2).1 > ((bs s).length : Int) - (a + 2)
    · rw [y2a h hn]
      exact Ev.congr (fun k => by rw [if_pos h, h8, hw, if_pos (by omega)]; rfl) (Ev.now _)
    · rw [getT_ok h hn, h8]
      generalize (getR (bs s) a 2).1 = n at *
      have hwn : wrap64 (a + 2 + n) = a + 2 + n := by unfold wrap64; omega
      have hx : s.extract (a + 2).toNat (a + 2 + n).toNat = mkS (((bs s).drop (a + 2).toNat).take n.toNat) := by
        rw [y21, List.drop_take, show (a + 2 + n).toNat - (a + 2).toNat = n.toNat by omega]
      rw [← hx]
      exact Ev.congr (fun k => by rw [if_pos h, hw, if_neg (by omega), if_pos (by omega), hwn, if_pos (by omega), if_pos (by omega)]) (Ev.now _)
  · rw [y29 h]
    exact Ev.congr (fun k => by rw [if_neg h]; rfl) (Ev.now _)
end Go.Proofs.Ytenlmckahaniiaa.Oct
end
section
namespace Go.Proofs.Ytenlmckahaniiaa.Obj
open Go Go.RowKit Go.Proofs.Ytenlmckahaniiaa.K Go.Proofs.YtW.P Go.Proofs.YtW.M Go.Proofs.Ytenlmckahaniiaa.MyBits Go.Proofs.Ytenlmckahaniiaa.MyStr Go.Proofs.Ytenlmckahaniiaa.Oct
theorem rdL_length {α : Type} (f : Rd → α × Rd) (n : Nat) : ∀ p : Rd, (rdL f n p).1.length ≤ n := by
  induction n with
  | zero => intro p; exact Nat.le_refl _
  | succ n ih =>
    intro p
    unfold rdL
    split
    · exact Nat.zero_le _
    · have := ih (f p).2; simp; omega
theorem y1q (s : List UInt8) : ((decR s).2 ≠ 0 ∧ (decR s).1 = m0) ∨ ((decR s).2 = 0 ∧ (decR s).1.check = 0 ∧ s = seal_ (bodyB (decR s).1) ∧ openR s = (bodyB (decR s).1, 0)) := by
  unfold decR
  by_cases h : (openR s).2 = 0
  · rw [if_pos h]
    split
    · exact .inl ⟨by decide, rfl⟩
    · rename_i h2
      have h3 : (parseM (openR s).1).1.check = 0 := by
        rcases Int.decEq (parseM (openR s).1).1.check 0 with h4 | h4
        · exact absurd (.inr (.inl h4)) h2
        · exact h4
      have h5 : bodyB (parseM (openR s).1).1 = (openR s).1 := by
        by_cases h4 : bodyB (parseM (openR s).1).1 = (openR s).1
        · exact h4
        · exact absurd (.inr (.inr h4)) h2
      refine .inr ⟨rfl, h3, ?_, ?_⟩
      · simp only
        rw [h5]
        have ho : opened s := by
          unfold openR at h
          split at h
          · exact absurd h (by decide)
          · rename_i h6
            split at h
            · rename_i h7; exact ⟨by omega, h7⟩
            · exact absurd h (by decide)
        rw [y3m s ho]
        exact (opened_eq s ho).symm
      · simp only
        rw [h5]
        exact Prod.ext rfl h
  · rw [if_neg h]
    exact .inl ⟨h, rfl⟩
end Go.Proofs.Ytenlmckahaniiaa.Obj
end
section
namespace Go.Proofs.Ytenlmckahaniiaa.Obj
open Go Go.RowKit Go.Proofs.Ytenlmckahaniiaa.K Go.Proofs.YtW.P Go.Proofs.YtW.M Go.Proofs.Ytenlmckahaniiaa.MyBits Go.Proofs.Ytenlmckahaniiaa.MyStr Go.Proofs.Ytenlmckahaniiaa.Oct
theorem rdL_all {α : Type} (f : Rd → α × Rd) (P : α → Prop) (h : ∀ p, P (f p).1) (n : Nat) : ∀ p : Rd, ∀ x ∈ (rdL f n p).1, P x := by
  induction n with
  | zero => intro p x hx; cases hx
  | succ n ih =>
    intro p x hx
    unfold rdL at hx
    split at hx
    · cases hx
    · rcases List.mem_cons.1 hx with rfl | hx
      · exact h p
      · exact ih _ x hx
end Go.Proofs.Ytenlmckahaniiaa.Obj
end
section
namespace Go.Proofs.Ytenlmckahaniiaa.Lb
open Go Go.RowKit Go.Proofs.Ytenlmckahaniiaa.K Go.Proofs.YtW.P Go.Proofs.YtW.M Go.Proofs.Ytenlmckahaniiaa.MyBits Go.Proofs.Ytenlmckahaniiaa.MyStr Go.Proofs.Ytenlmckahaniiaa.Oct Go.Proofs.Ytenlmckahaniiaa.Obj
theorem lenc_err (l : List S25) (hs : ∀ x ∈ l, SmM x) (h : libC l ≠ 0) : Ev (fun k => zq1d.f k l) (nB_, libC l) := by
  unfold zq1d.f
  refine Ev.bind (y30 l hs) ?_
  exact Ev.congr (fun k => if_neg h) (Ev.now _)
end Go.Proofs.Ytenlmckahaniiaa.Lb
end
section
namespace Go.Proofs.Ytenlmckahaniiaa.K
open Go.RowKit Go.Proofs.YtW.P Go.Proofs.YtW.L
def zq15.f (k : Nat) (a0 : Bool) : Option (ByteArray) := if a0 = true then ((zq14.f k 1 1).bind fun t437 => (some t437)) else ((zq14.f k 0 1).bind fun t438 => (some t438))
theorem zq15.mono : ∀ a0 k, LeO (zq15.f k a0) (zq15.f (k + 1) a0) := by
 intro a0 k
 unfold zq15.f
 with_reducible repeat' first | apply zq14.mono | exact LeO.refl _ | exact LeO.none _ | refine LeO.ite ?_ ?_ | refine LeO.bind ?_ (fun _ => ?_)
theorem zq15.calls (k : Nat) (a0 : Bool) (r : ByteArray) (w : World) (h : zq15.f k a0 = some r) :
  Calls Try.prog 59 #[.bool a0] w fun e w' => e = .returned (.string r) ∧ Below w.heap.size w w' := by
 have HB := q_ (Below.refl w.heap.size w)
 have H : (if a0 = true then ((zq14.f k 1 1).bind fun aA => (some aA)) else ((zq14.f k 0 1).bind fun aB => (some aB))) = some r := h
 clear h
 by_cases c2 : a0 = true
 ·subst c2
  rw [if_pos rfl] at H
  obtain ⟨aA, A3, H⟩ := bq_ H
  (try dsimp only at H)
  obtain rfl := Option.some.inj H
  go_enter Try.func59, Try.ntmps59
  go_wp2_with (first | (refine gc_ 57 ?_; refine gl_ (some 4) Try.func57 #[.int .i64 1, .int .i64 1] ?_; (with_reducible refine (zq14.calls k 1 1 aA _ A3.out).mono ?_); rintro e w4 ⟨rfl, hb⟩; refine ⟨_, rfl, ?_⟩; replace HB := q_ (y0k hb_ hb)))
  go_ret
  exact ⟨ew_, hb_⟩
 replace c2 := Bool.eq_false_iff.mpr c2
 subst c2
 rw [if_neg (show ¬ (false = true) by decide)] at H
 obtain ⟨aB, A5, H⟩ := bq_ H
 (try dsimp only at H)
 obtain rfl := Option.some.inj H
 go_enter Try.func59, Try.ntmps59
 go_wp2_with (first | (refine gc_ 57 ?_; refine gl_ (some 5) Try.func57 #[.int .i64 0, .int .i64 1] ?_; (with_reducible refine (zq14.calls k 0 1 aB _ A5.out).mono ?_); rintro e w6 ⟨rfl, hb⟩; refine ⟨_, rfl, ?_⟩; replace HB := q_ (y0k hb_ hb)))
 go_ret
 exact ⟨ew_, hb_⟩
end Go.Proofs.Ytenlmckahaniiaa.K
end
section
namespace Go.Proofs.Ytenlmckahaniiaa.K
open Go.RowKit Go.Proofs.YtW.P Go.Proofs.YtW.L
def zq6.l0 : Nat → List (S62) → ByteArray → Int → Option (ByteArray)
  | 0, _, _, _ => none
  | k + 1, x0, x3, x4 => if x4 < (x0.length : Int) then (if 0 ≤ x4 then ((zq9.f k ((y4b x0 x4).f0)).bind fun t441 => ((zq14.f k ((y4b x0 x4).f1) 1).bind fun t443 => (if t441.size + t443.size ≤ 9223372036854775807 then ((zq14.f k ((y4b x0 x4).f2) 2).bind fun t445 => (if (t441 ++ t443).size + t445.size ≤ 9223372036854775807 then ((zq15.f k ((y4b x0 x4).f3)).bind fun t447 => (if ((t441 ++ t443) ++ t445).size + t447.size ≤ 9223372036854775807 then (if x3.size + (((t441 ++ t443) ++ t445) ++ t447).size ≤ 9223372036854775807 then (zq6.l0 k x0 (x3 ++ (((t441 ++ t443) ++ t445) ++ t447)) (wrap64 (x4 + 1))) else (none)) else (none))) else (none))) else (none)))) else (none)) else (some x3)
def zq6.f (k : Nat) (l0 : List (S62)) : Option (ByteArray) := (zq14.f k (l0.length : Int) 2).bind fun t439 => (zq6.l0 k l0 t439 0)
theorem zq6.mono_l : ∀ k, (∀ y0 y1 y2, LeO (zq6.l0 k y0 y1 y2) (zq6.l0 (k + 1) y0 y1 y2))
 | 0 => fun _ _ _ r h => by simp [zq6.l0] at h
 | k + 1 => by
  have ih0 := zq6.mono_l k
  ·intro y0 y1 y2
   unfold zq6.l0
   with_reducible repeat' first | apply ih0 | apply zq14.mono | apply zq9.mono | apply zq15.mono | exact LeO.refl _ | exact LeO.none _ | refine LeO.ite ?_ ?_ | refine LeO.bind ?_ (fun _ => ?_)
theorem zq6.mono : ∀ a0 k, LeO (zq6.f k a0) (zq6.f (k + 1) a0) := by
 intro a0 k
 have ih0 := zq6.mono_l k
 unfold zq6.f
 with_reducible repeat' first | apply ih0 | apply zq14.mono | apply zq9.mono | apply zq15.mono | exact LeO.refl _ | exact LeO.none _ | refine LeO.ite ?_ ?_ | refine LeO.bind ?_ (fun _ => ?_)
def zq6.T5 : Bool × List (List Nat × List Nat) := (true, [([], []), ([], []), ([], []), ([1, 2], [1, 2]), ([3], [3]), ([4], [4]), ([5], [5]), ([], []), ([], []), ([7, 8], [7, 8]), ([9], [9]), ([10], [10]), ([11, 6], [11]), ([6, 12], [6, 12]), ([], []), ([], []), ([14, 15], [14, 15]), ([16], [16]), ([17], [17]), ([18, 12], [18]), ([13, 19], [13, 19]), ([], []), ([], []), ([21, 22], [21, 22]), ([23], [23]), ([24], [24]), ([25, 19], [25]), ([20, 26], [20, 26]), ([0, 27], [0, 27]), ([28, 26, 0, 1, 2, 3, 4, 5, 6, 7, 8, 9, 10, 11, 12, 13, 14, 15, 16, 17, 18, 19, 20, 21, 22, 23, 24, 25, 26, 27, 28], [0, 28])])
def zq6.B5 : List Nat := [0, 0, 0, 6, 14, 30, 62, 0, 0, 384, 896, 1920, 4094, 8190, 0, 0, 49152, 114688, 245760, 516094, 1048574, 0, 0, 6291456, 14680064, 31457280, 66052094, 134217726, 268435455, 536870911]
theorem zq6.tab5 : rtab .any (opsOf Try.f58 5) = zq6.T5 := by kernel_rfl
theorem zq6.bits5 : waitsOk zq6.T5.2 zq6.B5 = true := by kernel_rfl
theorem zq6.calls (k : Nat) (A0 : Option Addr) (c0 : Nat) (l0 : List (S62)) (r : ByteArray) (w : World) (b7 : Kd.C k62 w A0 l0.length l0) (b6 : l0.length ≤ c0) (h : zq6.f k l0 = some r) :
  Calls Try.prog 58 #[.slice A0 l0.length c0] w fun e w' => e = .returned (.string r) ∧ Below w.heap.size w w' := by
 have bS := q_ b7
 have cH := q_ b6
 clear b7 b6
 have HB := q_ (Below.refl w.heap.size w)
 have H : ((zq14.f k (l0.length : Int) 2).bind fun bD => (zq6.l0 k l0 bD 0)) = some r := h
 clear h
 obtain ⟨bD, A2, H⟩ := bq_ H
 (try dsimp only at H)
 have H' := q_ H
 clear H
 go_enter Try.func58, Try.ntmps58
 go_wp2_with (first | (refine gc_ 57 ?_; refine gl_ (some 7) Try.func57 #[.int .i64 (l0.length : Int), .int .i64 2] ?_; (with_reducible refine (zq14.calls k (l0.length : Int) 2 bD _ A2.out).mono ?_); rintro e w3 ⟨rfl, hb⟩; refine ⟨_, rfl, ?_⟩; replace HB := q_ (y0k hb_ hb)))
 go_loopg [3, 4] k (fun kq v3 v4 w' => ∃ (bB : ByteArray) (aA : Int), v3 = .string bB ∧ v4 = .int .i64 aA ∧ Aside0 (zq6.l0 kq l0 bB aA = some r) ∧ Aside0 (kq ≤ k) ∧ Aside0 (Below w.heap.size w w'))
 case atStart => exact ⟨(bD), (0), cl_, cl_, H', ⟨Nat.le_refl _⟩, ⟨hb_⟩⟩
 case round =>
  clear H'
  obtain ⟨bB, aA, rfl, rfl, HA, HK1, HB⟩ := hrel
  obtain _ | k1 := gk
  ·exact nn_ HA
  have H := HA.out
  clear HA
  simp only [zq6.l0] at H
  by_cases c4 : aA < (l0.length : Int)
  rotate_left
  ·rw [if_neg c4] at H
   have bW := df_ c4
   clear c4
   obtain rfl := Option.some.inj H
   go_wp2
   go_ret
   exact ⟨ew_, hb_⟩
  rw [if_pos c4] at H
  have bW := dt_ c4
  clear c4
  by_cases c5 : 0 ≤ aA
  rotate_left
  ·rw [if_neg c5] at H
   exact absurd H (by simp)
  rw [if_pos c5] at H
  have cB := dt_ c5
  clear c5
  obtain ⟨a8, A6, H⟩ := bq_ H
  obtain ⟨a9, A7, H⟩ := bq_ H
  (try dsimp only at H)
  by_cases c8 : a8.size + a9.size ≤ 9223372036854775807
  rotate_left
  ·rw [if_neg c8] at H
   exact absurd H (by simp)
  rw [if_pos c8] at H
  have cD := eq_true c8
  have b9 := dt_ c8
  try have cC : (9223372036854775807 < a8.size + a9.size) = False := eq_false (Nat.not_lt.2 c8)
  obtain ⟨bA, A9, H⟩ := bq_ H
  (try dsimp only at H)
  by_cases bR : (a8 ++ a9).size + bA.size ≤ 9223372036854775807
  rotate_left
  ·rw [if_neg bR] at H
   exact absurd H (by simp)
  rw [if_pos bR] at H
  have b4 := eq_true bR
  have b0 := dt_ bR
  try have bZ : (9223372036854775807 < (a8 ++ a9).size + bA.size) = False := eq_false (Nat.not_lt.2 bR)
  obtain ⟨bC, cA, H⟩ := bq_ H
  (try dsimp only at H)
  by_cases bN : ((a8 ++ a9) ++ bA).size + bC.size ≤ 9223372036854775807
  rotate_left
  ·rw [if_neg bN] at H
   exact absurd H (by simp)
  rw [if_pos bN] at H
  have b5 := eq_true bN
  have b8 := dt_ bN
  try have b2 : (9223372036854775807 < ((a8 ++ a9) ++ bA).size + bC.size) = False := eq_false (Nat.not_lt.2 bN)
  by_cases bM : bB.size + (((a8 ++ a9) ++ bA) ++ bC).size ≤ 9223372036854775807
  rotate_left
  ·rw [if_neg bM] at H
   exact absurd H (by simp)
  rw [if_pos bM] at H
  have b3 := eq_true bM
  have bY := dt_ bM
  try have b1 : (9223372036854775807 < bB.size + (((a8 ++ a9) ++ bA) ++ bC).size) = False := eq_false (Nat.not_lt.2 bM)
  have H' := q_ H
  clear H
  try go_wp2
  replace HB := q_ (y0h HB.out)
  have bL : 0 ≤ (aA : Int) := oa_
  have bH : aA < (l0.length : Int) := oa_
  obtain ⟨aB, bT, a2, aW, aY, aS⟩ := y0e bS.out aA bL bH
  have aR := aS
  have aK := aY
  have aH := aW
  have aI := a2
  cases bT
  replace a2 := cb_ HB.out a2
  replace aW := cb_ HB.out aW
  replace aY := cb_ HB.out aY
  replace aS := cb_ HB.out aS
  replace bL := eq_true bL
  replace bH := eq_true bH
  have bE : 0 ≤ (aA : Int) := oa_
  have bF : aA < (l0.length : Int) := oa_
  obtain ⟨bP, bX, a0, aX, aZ, a1⟩ := y0e bS.out aA bE bF
  have aF := a1
  have aC := aZ
  have aE := aX
  have aO := a0
  obtain rfl : aB = bP := (by injection bX)
  replace a0 := cb_ HB.out a0
  replace aX := cb_ HB.out aX
  replace aZ := cb_ HB.out aZ
  replace a1 := cb_ HB.out a1
  replace bE := eq_true bE
  replace bF := eq_true bF
  have bJ : 0 ≤ (aA : Int) := oa_
  have bI : aA < (l0.length : Int) := oa_
  obtain ⟨bQ, bV, aT, a4, aV, a6⟩ := y0e bS.out aA bJ bI
  have aL := a6
  have aM := aV
  have aD := a4
  have aQ := aT
  obtain rfl : aB = bQ := (by injection bV)
  replace aT := cb_ HB.out aT
  replace a4 := cb_ HB.out a4
  replace aV := cb_ HB.out aV
  replace a6 := cb_ HB.out a6
  replace bJ := eq_true bJ
  replace bI := eq_true bI
  have bG : 0 ≤ (aA : Int) := oa_
  have bK : aA < (l0.length : Int) := oa_
  obtain ⟨bO, bU, a5, a7, a3, aU⟩ := y0e bS.out aA bG bK
  have aP := aU
  have aN := a3
  have aG := a7
  have aJ := a5
  obtain rfl : aB = bO := (by injection bU)
  replace a5 := cb_ HB.out a5
  replace a7 := cb_ HB.out a7
  replace a3 := cb_ HB.out a3
  replace aU := cb_ HB.out aU
  replace bG := eq_true bG
  replace bK := eq_true bK
  refine start_ (n := 30) (S := fun w' => w'.cell? (aB.add ((aA).toNat * 4)) = some (.string ((y4b l0 aA).f0)) ∧ w'.cell? ⟨(aB.add ((aA).toNat * 4)).block, (aB.add ((aA).toNat * 4)).off + 1, none⟩ = some (.int .i64 ((y4b l0 aA).f1)) ∧ w'.cell? ⟨(aB.add ((aA).toNat * 4)).block, (aB.add ((aA).toNat * 4)).off + 2, none⟩ = some (.int .i64 ((y4b l0 aA).f2)) ∧ w'.cell? ⟨(aB.add ((aA).toNat * 4)).block, (aB.add ((aA).toNat * 4)).off + 3, none⟩ = some (.bool ((y4b l0 aA).f3)) ∧ w'.cell? (aB.add ((aA).toNat * 4)) = some (.string ((y4b l0 aA).f0)) ∧ w'.cell? ⟨(aB.add ((aA).toNat * 4)).block, (aB.add ((aA).toNat * 4)).off + 1, none⟩ = some (.int .i64 ((y4b l0 aA).f1)) ∧ w'.cell? ⟨(aB.add ((aA).toNat * 4)).block, (aB.add ((aA).toNat * 4)).off + 2, none⟩ = some (.int .i64 ((y4b l0 aA).f2)) ∧ w'.cell? ⟨(aB.add ((aA).toNat * 4)).block, (aB.add ((aA).toNat * 4)).off + 3, none⟩ = some (.bool ((y4b l0 aA).f3)) ∧ w'.cell? (aB.add ((aA).toNat * 4)) = some (.string ((y4b l0 aA).f0)) ∧ w'.cell? ⟨(aB.add ((aA).toNat * 4)).block, (aB.add ((aA).toNat * 4)).off + 1, none⟩ = some (.int .i64 ((y4b l0 aA).f1)) ∧ w'.cell? ⟨(aB.add ((aA).toNat * 4)).block, (aB.add ((aA).toNat * 4)).off + 2, none⟩ = some (.int .i64 ((y4b l0 aA).f2)) ∧ w'.cell? ⟨(aB.add ((aA).toNat * 4)).block, (aB.add ((aA).toNat * 4)).off + 3, none⟩ = some (.bool ((y4b l0 aA).f3)) ∧ w'.cell? (aB.add ((aA).toNat * 4)) = some (.string ((y4b l0 aA).f0)) ∧ w'.cell? ⟨(aB.add ((aA).toNat * 4)).block, (aB.add ((aA).toNat * 4)).off + 1, none⟩ = some (.int .i64 ((y4b l0 aA).f1)) ∧ w'.cell? ⟨(aB.add ((aA).toNat * 4)).block, (aB.add ((aA).toNat * 4)).off + 2, none⟩ = some (.int .i64 ((y4b l0 aA).f2)) ∧ w'.cell? ⟨(aB.add ((aA).toNat * 4)).block, (aB.add ((aA).toNat * 4)).off + 3, none⟩ = some (.bool ((y4b l0 aA).f3))) (ds := []) #[false, false, false, false, false, false, false, false, false, false, false, false, false, false, false, false, false, false, false, false, false, false, false, false, false, false, false, false, false, false] (by kernel_rfl) rfl rfl ⟨(cb_ HB.out aI), (cb_ HB.out aH), (cb_ HB.out aK), (cb_ HB.out aR), (cb_ HB.out aO), (cb_ HB.out aE), (cb_ HB.out aC), (cb_ HB.out aF), (cb_ HB.out aQ), (cb_ HB.out aD), (cb_ HB.out aM), (cb_ HB.out aL), (cb_ HB.out aJ), (cb_ HB.out aG), (cb_ HB.out aN), (cb_ HB.out aP)⟩ (fun hHeld => ?_); refine y5o zq6.tab5 zq6.bits5 (fun HT_ HW_ => ?_)
  generalize wr.drew = cJ at HB a2 aW aY aS a0 aX aZ a1 aT a4 aV a6 a5 a7 a3 aU hHeld ⊢
  refine pv_ 0 (some 14) (fl 30 1) ?_
  refine pv_ 1 (some 15) (fl 30 3) ?_
  refine pv_ 2 (some 16) (fl 30 7) ?_
  refine pv_ 3 (some 17) (fl 30 15) ?_
  refine pv_ 4 (some 18) (fl 30 31) ?_
  refine pv_ 7 (some 21) (fl 30 159) ?_
  refine pv_ 8 (some 22) (fl 30 415) ?_
  refine pv_ 9 (some 23) (fl 30 927) ?_
  refine pv_ 10 (some 24) (fl 30 1951) ?_
  refine pv_ 14 (some 28) (fl 30 18335) ?_
  refine pv_ 15 (some 29) (fl 30 51103) ?_
  refine pv_ 16 (some 30) (fl 30 116639) ?_
  refine pv_ 17 (some 31) (fl 30 247711) ?_
  refine pv_ 21 (some 35) (fl 30 2344863) ?_
  refine pv_ 22 (some 36) (fl 30 6539167) ?_
  refine pv_ 23 (some 37) (fl 30 14927775) ?_
  refine pv_ 24 (some 38) (fl 30 31704991) ?_
  refine tv_ 5 (some 19) (fl 30 31705023) ?_
  refine tv_ 11 (some 25) (fl 30 31707071) ?_
  refine tv_ 18 (some 32) (fl 30 31969215) ?_
  refine tv_ 25 (some 39) (fl 30 65523647) ?_
  refine one_ (i := 6) (N := some 20) (fl 30 65523711) rfl rfl (y3l HT_.out (by kernel_rfl)) (by decide) (fun K hK => ?_)
  refine gs_ Try.func56 #[.string ((y4b l0 aA).f0)] ?_
  with_reducible refine (zq9.calls k1 ((y4b l0 aA).f0) a8 _ A6.out).mono ?_
  rintro e cF ⟨rfl, hb⟩
  refine ⟨_, rfl, ?_⟩
  replace HB := q_ (y0k hb_ hb)
  refine hK.out _ _ ⟨(cb_ HB.out aI), (cb_ HB.out aH), (cb_ HB.out aK), (cb_ HB.out aR), (cb_ HB.out aO), (cb_ HB.out aE), (cb_ HB.out aC), (cb_ HB.out aF), (cb_ HB.out aQ), (cb_ HB.out aD), (cb_ HB.out aM), (cb_ HB.out aL), (cb_ HB.out aJ), (cb_ HB.out aG), (cb_ HB.out aN), (cb_ HB.out aP)⟩ (fun hHeld => ?_)
  clear hK K
  refine no_ (N := some 20) ?_
  refine one_ (i := 12) (N := some 26) (fl 30 65527807) rfl rfl (y3l HT_.out (by kernel_rfl)) (by decide) (fun K hK => ?_)
  refine gs_ Try.func57 #[.int .i64 ((y4b l0 aA).f1), .int .i64 1] ?_
  with_reducible refine (zq14.calls k1 ((y4b l0 aA).f1) 1 a9 _ A7.out).mono ?_
  rintro e cI ⟨rfl, hb⟩
  refine ⟨_, rfl, ?_⟩
  replace HB := q_ (y0k hb_ hb)
  refine hK.out _ _ ⟨(cb_ HB.out aI), (cb_ HB.out aH), (cb_ HB.out aK), (cb_ HB.out aR), (cb_ HB.out aO), (cb_ HB.out aE), (cb_ HB.out aC), (cb_ HB.out aF), (cb_ HB.out aQ), (cb_ HB.out aD), (cb_ HB.out aM), (cb_ HB.out aL), (cb_ HB.out aJ), (cb_ HB.out aG), (cb_ HB.out aN), (cb_ HB.out aP)⟩ (fun hHeld => ?_)
  clear hK K
  refine no_ (N := some 26) ?_
  refine pv_ 13 (some 27) (fl 30 65535999) ?_
  refine one_ (i := 19) (N := some 33) (fl 30 66060287) rfl rfl (y3l HT_.out (by kernel_rfl)) (by decide) (fun K hK => ?_)
  refine gs_ Try.func57 #[.int .i64 ((y4b l0 aA).f2), .int .i64 2] ?_
  with_reducible refine (zq14.calls k1 ((y4b l0 aA).f2) 2 bA _ A9.out).mono ?_
  rintro e cE ⟨rfl, hb⟩
  refine ⟨_, rfl, ?_⟩
  replace HB := q_ (y0k hb_ hb)
  refine hK.out _ _ ⟨(cb_ HB.out aI), (cb_ HB.out aH), (cb_ HB.out aK), (cb_ HB.out aR), (cb_ HB.out aO), (cb_ HB.out aE), (cb_ HB.out aC), (cb_ HB.out aF), (cb_ HB.out aQ), (cb_ HB.out aD), (cb_ HB.out aM), (cb_ HB.out aL), (cb_ HB.out aJ), (cb_ HB.out aG), (cb_ HB.out aN), (cb_ HB.out aP)⟩ (fun hHeld => ?_)
  clear hK K
  refine no_ (N := some 33) ?_
  refine pv_ 20 (some 34) (fl 30 67108863) ?_
  refine one_ (i := 26) (N := some 40) (fl 30 134217727) rfl rfl (y3l HT_.out (by kernel_rfl)) (by decide) (fun K hK => ?_)
  refine gs_ Try.func59 #[.bool ((y4b l0 aA).f3)] ?_
  with_reducible refine (zq15.calls k1 ((y4b l0 aA).f3) bC _ cA.out).mono ?_
  rintro e cG ⟨rfl, hb⟩
  refine ⟨_, rfl, ?_⟩
  replace HB := q_ (y0k hb_ hb)
  refine hK.out _ _ ⟨(cb_ HB.out aI), (cb_ HB.out aH), (cb_ HB.out aK), (cb_ HB.out aR), (cb_ HB.out aO), (cb_ HB.out aE), (cb_ HB.out aC), (cb_ HB.out aF), (cb_ HB.out aQ), (cb_ HB.out aD), (cb_ HB.out aM), (cb_ HB.out aL), (cb_ HB.out aJ), (cb_ HB.out aG), (cb_ HB.out aN), (cb_ HB.out aP)⟩ (fun hHeld => ?_)
  clear hK K
  refine no_ (N := some 40) ?_
  refine pv_ 27 (some 41) (fl 30 268435455) ?_
  refine pv_ 28 (some 42) (fl 30 536870911) ?_
  refine pv_ 29 (some 3) (fl 30 1073741823) ?_
  refine done_ (y1s HT_.out (by kernel_rfl)) ?_
  try go_wp2
  go_roundg k1
  case measure => have := HK1.out; omega
  case rel => exact ⟨(bB ++ (((a8 ++ a9) ++ bA) ++ bC)), (wrap64 (aA + 1)), cl_, cl_, H', ⟨by have := HK1.out; omega⟩, ⟨hb_⟩⟩
end Go.Proofs.Ytenlmckahaniiaa.K
end
