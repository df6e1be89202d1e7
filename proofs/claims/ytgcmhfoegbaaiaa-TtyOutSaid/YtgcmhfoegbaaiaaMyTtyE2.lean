/- The law TtyOut. -/
import Derived.Test.YtgcmhfoegbaaiaaMyTtyL
import Derived.Test.YtgcmhfoegbaaiaaMyTtyD
import Derived.Test.YtgcmhfoegbaaiaaMyTtyN
import Derived.Test.YtgcmhfoegbaaiaaKlTtyOut
import Derived.Test.YtgcmhfoegbaaiaaKx11
import Derived.Test.YtgcmhfoegbaaiaaKx14
import Derived.Test.YtgcmhfoegbaaiaaKx15
set_option linter.unusedVariables false
set_option linter.unusedSimpArgs false
namespace Go.Proofs.Ytgcmhfoegbaaiaa.Pure
open Go Go.RowKit Go.Proofs.Ytgcmhfoegbaaiaa.K Go.Proofs.YtgcmhfoegbaaiaaW.PrintWords Go.Proofs.YtgcmhfoegbaaiaaW.PrintMore Go.Proofs.Ytgcmhfoegbaaiaa.MyBits Go.Proofs.Ytgcmhfoegbaaiaa.MyStr Go.Proofs.Ytgcmhfoegbaaiaa.Tty

/-! what is written comes out -/
theorem wr_out : ∀ (L : List UInt8) (o : ByteArray), o.size ≤ 256 → (wr L o).2 < L.length → (wr L o).1.size ≥ 255
  | [], _, _, h => absurd h (Nat.not_lt_zero _)
  | c :: q, o, ho, h => by
    unfold wr at h ⊢
    have h2 := wre_two c
    by_cases hc : o.size + (wre c).size > 256
    · rw [if_pos hc]; show o.size ≥ 255; omega
    · rw [if_neg hc] at h ⊢
      exact wr_out q (o ++ wre c) (by rw [ByteArray.size_append]; omega) (by rw [List.length_cons] at h; exact Nat.lt_of_succ_lt_succ h)
theorem wr_zero {L : List UInt8} {o : ByteArray} (h : (wr L o).2 = 0) : (wr L o).1 = o := by
  cases L with
  | nil => rfl
  | cons c q =>
    unfold wr at h ⊢
    by_cases hc : o.size + (wre c).size > 256
    · rw [if_pos hc]
    · rw [if_neg hc] at h; exact absurd h (Nat.succ_ne_zero _)
theorem wr_succ {L : List UInt8} {o : ByteArray} {n : Nat} (h : (wr L o).2 = n + 1) : ∃ c q, L = c :: q ∧ (o ++ wre c).size ≤ 256 ∧ (wr q (o ++ wre c)).2 = n ∧ (wr q (o ++ wre c)).1 = (wr L o).1 := by
  cases L with
  | nil => cases h
  | cons c q =>
    have h' := h
    unfold wr at h'
    by_cases hc : o.size + (wre c).size > 256
    · rw [if_pos hc] at h'; cases h'
    · rw [if_neg hc] at h'
      refine ⟨c, q, rfl, by rw [ByteArray.size_append]; omega, Nat.succ.inj h', ?_⟩
      conv => rhs; unfold wr
      rw [if_neg hc]
theorem bs_cons {o : ByteArray} (h : 0 < o.size) : bs o = UInt8.ofNat (bt o 0).toNat :: bs (o.extract 1 o.size) := by
  have hl := bs_length o
  have h' : 0 < (bs o).length := by omega
  have hb : bt o 0 = ((bs o)[0]).toNat := byte_eq (i := 0) h'
  rw [hb, ofNat_toNat, bs_extract, List.take_of_length_le (by omega)]
  exact (List.getElem_cons_drop (h := h')).symm
theorem drain_is (r : Bool) (t : ByteArray) (l : List ByteArray) : ∀ (m : Nat) (o : ByteArray) (xs : List Int) (i : Nat), o.size = m → i + m < 300 → xs.length = i →
    Ev (fun k => emulatorlaw43_drain.l0 k xs (i : Int) r t l o) (strOfNums (xs ++ bytesOf o)) := by
  intro m
  induction m with
  | zero =>
    intro o xs i ho hi hx
    have hn : o.toList = [] := by rw [toList_bs, ← List.length_eq_zero_iff, bs_length]; exact ho
    refine Ev.step (f := fun _ => some (strOfNums (xs ++ bytesOf o))) (fun k => ?_) (Ev.now _)
    rw [emulatorlaw43_drain.l0, if_pos (by omega), next_is]
    unfold nxt
    rw [if_pos hn, Option.bind_some]
    dsimp only
    rw [if_neg (by decide), show bytesOf o = [] by rw [bytesOf_bs, ← toList_bs, hn]; rfl, List.append_nil]
  | succ m ih =>
    intro o xs i ho hi hx
    have hn : ¬ o.toList = [] := by rw [toList_bs, ← List.length_eq_zero_iff, bs_length]; omega
    have hr := bt_rng o 0
    have hc := bs_cons (o := o) (by omega)
    have h2 := ih (o.extract 1 o.size) (xs ++ [bt o 0 % 256]) (i + 1) (by rw [size_extract _ _ _ (Nat.le_refl _)]; omega) (by omega) (by rw [List.length_append, List.length_singleton]; omega)
    have e : xs ++ [bt o 0 % 256] ++ bytesOf (o.extract 1 o.size) = xs ++ bytesOf o := by
      rw [List.append_assoc, bytesOf_bs o, hc, List.map_cons, bytesOf_bs, show bt o 0 % 256 = bt o 0 by omega]
      have : ((UInt8.ofNat (bt o 0).toNat).toNat : Int) = bt o 0 := by rw [UInt8.toNat_ofNat']; omega
      rw [this]; rfl
    rw [e] at h2
    refine Ev.step (fun k => ?_) h2
    rw [emulatorlaw43_drain.l0, if_pos (by omega), next_is]
    unfold nxt
    rw [if_neg hn, Option.bind_some]
    dsimp only
    rw [if_pos rfl, if_pos (by omega), i64_nat i (by omega)]
theorem TtyOut : emulatorlaw43_TtyOut.Pure := by
  intro r t l o s ht hl ho hs
  refine Ev.rounds ?_
  unfold emulatorlaw43_TtyOut.f
  refine Ev.bind (good_is r t l o) ?_
  cases h : (fairB t l o && okB r t l o) with
  | false => exact Ev.congr (fun k => if_neg (by decide)) alive_end
  | true =>
    rw [Bool.and_eq_true, ok_iff] at h
    refine Ev.congr (fun k => if_pos rfl) ?_
    by_cases h6 : (s.size : Int) > 600
    · exact Ev.congr (fun k => if_pos h6) alive_end
    refine Ev.congr (fun k => if_neg h6) ?_
    refine Ev.bind (write_is r t l o s h.2.ho (by omega)) ?_
    have hle := wr_le (bs s) o
    have hbl := bs_length s
    have hsz := wr_size (bs s) o h.2.ho
    have hout := wr_out (bs s) o h.2.ho
    have e0 : (bs s).drop 0 = bs s := rfl
    unfold wres
    rw [e0]
    simp only
    have hz : ∀ L o n d, (wr L o).2 = d → n = d → (wr L o).1 = (wr L o).1 := fun _ _ _ _ _ _ => rfl
    generalize hn : (wr (bs s) o).2 = n at hle hout ⊢
    generalize ho' : (wr (bs s) o).1 = o' at hsz hout ⊢
    rw [Nat.zero_add]
    refine Ev.congr (fun k => (if_neg (by omega)).trans (if_neg (by omega))) ?_
    have key : ∀ d i w, i + d = n → w.size ≤ 256 → (wr ((bs s).drop i) w).2 = d → (wr ((bs s).drop i) w).1 = o' → Ev (fun k => emulatorlaw43_TtyOut.l0 k s (n : Int) w (i : Int) r t l o') true := by
      intro d
      induction d with
      | zero =>
        intro i w hi hw h2 h1
        obtain rfl : i = n := by omega
        rw [wr_zero h2] at h1
        subst h1
        have hd : Ev (fun k => emulatorlaw43_drain.f k r t l w) w := by
          have := drain_is r t l w.size w [] 0 rfl (by omega) rfl
          rw [List.nil_append, nums_bytesOf] at this
          exact this
        refine Ev.step (f := fun k => (emulatorlaw43_drain.f k r t l w).bind fun t401 => (if t401.toList = w.toList then (if (i : Int) = (s.size : Int) then ((emulatorlaw43_alive.f k).bind fun t402 => (some t402)) else (if (w.size : Int) ≥ 255 then ((emulatorlaw43_alive.f k).bind fun t403 => (some t403)) else (none))) else (none))) (fun k => ?_) (Ev.bind hd ?_)
        · rw [emulatorlaw43_TtyOut.l0, if_neg (by omega)]
        · refine Ev.congr (fun k => if_pos rfl) ?_
          by_cases he : i = s.size
          · exact Ev.congr (fun k => if_pos (by omega)) alive_end
          · exact Ev.congr (fun k => (if_neg (by omega)).trans (if_pos (by have := hout (by omega); omega))) alive_end
      | succ d ih =>
        intro i w hi hw h2 h1
        obtain ⟨c, q, hcq, hwc, h3, h4⟩ := wr_succ h2
        have hib : i < (bs s).length := by omega
        rw [List.drop_eq_getElem_cons hib] at hcq
        obtain ⟨rfl, rfl⟩ := List.cons.inj hcq
        have hb := byte_eq hib
        have hx : s.extract i (i + 1) = ⟨#[(bs s)[i]]⟩ := by
          apply bs_inj
          rw [← toList_bs, bs_one s i (by omega), hb]
          show [UInt8.ofNat (((bs s)[i].toNat : Int)).toNat] = [(bs s)[i]]
          rw [ofNat_toNat]
        have hnext := ih (i + 1) (w ++ wre (bs s)[i]) (by omega) hwc h3 (h4.trans h1)
        have hrw := rwre_if (bs s)[i]
        rw [ByteArray.size_append] at hwc
        have hsz1 : (⟨#[(bs s)[i]]⟩ : ByteArray).size = 1 := rfl
        refine Ev.step (fun k => ?_) hnext
        generalize (bs s)[i] = c at hb hx hrw hwc hsz1 ⊢
        rw [emulatorlaw43_TtyOut.l0, if_pos (by omega), if_pos (by omega), if_pos (by omega), hb, i64_nat i (by omega)]
        by_cases h10 : c = 10
        · rw [if_pos h10] at hrw
          rw [if_pos ((c10 c).2 h10), if_pos (by omega), hrw]
        · rw [if_neg h10] at hrw
          rw [if_neg (fun h' => h10 ((c10 c).1 h')), if_pos (by omega), if_pos (by omega), show ((i : Int)).toNat = i by omega, show (((i + 1 : Nat) : Int)).toNat = i + 1 by omega, hx, if_pos (by rw [hsz1]; omega), hrw]
    exact key n 0 o (by omega) h.2.ho hn ho'

end Go.Proofs.Ytgcmhfoegbaaiaa.Pure
