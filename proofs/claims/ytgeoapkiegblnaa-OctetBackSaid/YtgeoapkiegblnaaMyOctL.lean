/- The laws of octet. -/
import Derived.Test.YtgeoapkiegblnaaMyOctD
import Derived.Test.YtgeoapkiegblnaaKx2
import Derived.Test.YtgeoapkiegblnaaKx3
import Derived.Test.YtgeoapkiegblnaaKx4
import Derived.Test.YtgeoapkiegblnaaKx5
import Derived.Test.YtgeoapkiegblnaaKx6
import Derived.Test.YtgeoapkiegblnaaKx7
set_option linter.unusedVariables false
set_option linter.unusedSimpArgs false
namespace Go.Proofs.Ytgeoapkiegblnaa.Pure
open Go Go.RowKit Go.Proofs.Ytgeoapkiegblnaa.K Go.Proofs.YtgeoapkiegblnaaW.PrintWords Go.Proofs.YtgeoapkiegblnaaW.PrintMore Go.Proofs.Ytgeoapkiegblnaa.MyBits Go.Proofs.Ytgeoapkiegblnaa.MyStr Go.Proofs.Ytgeoapkiegblnaa.Oct

theorem alive_k : emulatorlaw03_alive.f 400 = some true := by decide +kernel
theorem alive_is : Ev (fun k => emulatorlaw03_alive.f k) true := Ev.of (fun k => emulatorlaw03_alive.mono k) alive_k
theorem alive_end : Ev (fun k => (emulatorlaw03_alive.f k).bind fun t => some t) true := Ev.bind alive_is (Ev.now true)
theorem wf64 {a : Int} (h : (Lit.int .i64 a).wf = true) : -9223372036854775808 ≤ a ∧ a ≤ 9223372036854775807 := by
  simp only [Lit.wf, IntKind.min, IntKind.max, IntKind.signed, IntKind.bits, Bool.and_eq_true, decide_eq_true_eq, if_true] at h
  omega

theorem OctetPuts : emulatorlaw03_OctetPuts.Pure := by
  intro a w ha hw
  obtain ⟨_, h1⟩ := wf64 ha
  refine Ev.rounds ?_
  unfold emulatorlaw03_OctetPuts.f
  refine Ev.bind (put_is a w) (Ev.bind (rput_is a w h1) ?_)
  exact Ev.congr (fun k => if_pos rfl) alive_end
theorem OctetGets : emulatorlaw03_OctetGets.Pure := by
  intro s a w hs ha hw
  refine Ev.rounds ?_
  unfold emulatorlaw03_OctetGets.f
  by_cases h : (s.size : Int) > 2000
  · exact Ev.congr (fun k => if_pos h) alive_end
  · refine Ev.congr (fun k => if_neg h) ?_
    refine Ev.bind (get_is s a w (by omega)) (Ev.bind (rget_is s a w (by omega)) ?_)
    exact Ev.congr (fun k => by rw [if_pos rfl, if_pos rfl, if_pos rfl]) alive_end
theorem OctetSums : emulatorlaw03_OctetSums.Pure := by
  intro s hs
  refine Ev.rounds ?_
  unfold emulatorlaw03_OctetSums.f
  by_cases h : (s.size : Int) > 2000
  · exact Ev.congr (fun k => if_pos h) alive_end
  · refine Ev.congr (fun k => if_neg h) ?_
    have hc : Ev (fun k => octet_Crc.f k s) (crc (bs s) : Nat) := Ev.bind (crc_is s (by omega)) (Ev.now _)
    refine Ev.bind (open_is s (by omega)) (Ev.bind (ropen_is s (by omega)) (Ev.bind hc (Ev.bind (rcrc_is s (by omega)) ?_)))
    refine Ev.congr (fun k => if_pos rfl) ?_
    refine Ev.bind (seal_is s (by omega)) (Ev.bind (rseal_is s (by omega)) ?_)
    exact Ev.congr (fun k => by rw [if_pos rfl, if_pos rfl, if_pos rfl]) alive_end
theorem le_two (n : Int) : (le n 2).length = 2 := le_length n 2
theorem OctetTexts : emulatorlaw03_OctetTexts.Pure := by
  intro s a m hs ha hm
  refine Ev.rounds ?_
  unfold emulatorlaw03_OctetTexts.f
  by_cases h : (s.size : Int) > 2000
  · exact Ev.congr (fun k => if_pos h) alive_end
  · refine Ev.congr (fun k => if_neg h) ?_
    refine Ev.bind (getText_is s a (by omega)) (Ev.bind (rgetText_is s a (by omega)) ?_)
    refine Ev.congr (fun k => by rw [if_pos rfl, if_pos rfl, if_pos rfl]) ?_
    refine Ev.bind (putText_is s (by omega)) (Ev.bind (rputText_is s (by omega)) ?_)
    rw [show (((mkS (putT (bs s))).toList) != ((mkS (putT (bs s))).toList)) = false by simp]
    refine Ev.step (fun k => by rw [emulatorlaw03_OctetTexts.j0, if_neg (by decide)]) ?_
    by_cases h2 : m = 0
    · refine Ev.congr (fun k => by rw [if_pos h2, if_pos (by decide)]) ?_
      generalize hL : strOfNums (List.replicate 65540 0) = L
      have hsz : L.size = 65540 := by rw [← hL, size_nums, List.length_replicate]
      refine Ev.bind (putText_is L (by omega)) ?_
      have hz : ((mkS (putT (bs L))).size : Int) = 65537 := by
        rw [mkS_size]; unfold putT
        rw [List.length_append, le_two, List.length_take, bs_length, hsz]; rfl
      exact Ev.congr (fun k => if_pos hz) alive_end
    · exact Ev.congr (fun k => if_neg h2) alive_end
theorem OctetWords : emulatorlaw03_OctetWords.Pure := by
  intro l s hl hl8 hx hs
  refine Ev.rounds ?_
  have great : Ev (fun k => emulatorlaw03_OctetWords.j0 k l s true) true := Ev.step (fun k => by rw [emulatorlaw03_OctetWords.j0, if_pos rfl]) alive_end
  unfold emulatorlaw03_OctetWords.f
  by_cases h : (l.length : Int) > 1000
  · exact Ev.congr (fun k => if_pos h) great
  by_cases h2 : (s.size : Int) > 2000
  · exact Ev.congr (fun k => by rw [if_neg h, decide_eq_true h2]) great
  refine Ev.congr (f := fun k => emulatorlaw03_OctetWords.j0 k l s false) (fun k => by rw [if_neg h, decide_eq_false h2]) ?_
  refine Ev.step (fun k => by rw [emulatorlaw03_OctetWords.j0, if_neg (by decide)]) ?_
  have hlw : (getW (bs s)).1.length ≤ 100000 := by
    have := bs_length s
    unfold getW; split
    · simp
    · rw [wordsN_length]; omega
  refine Ev.bind (getWords_is s (by omega)) (Ev.bind (rgetWords_is s (by omega)) (Ev.bind (putWords_is l (by omega)) (Ev.bind (rputWords_is l (by omega) (fun x h => wf64 (hx x h))) ?_)))
  refine Ev.congr (fun k => if_pos rfl) ?_
  refine Ev.bind (sameInts_is _ hlw) ?_
  exact Ev.congr (fun k => by rw [if_pos rfl, if_pos rfl]) alive_end
theorem OctetBack : emulatorlaw03_OctetBack.Pure := by
  intro b s z n l hb hs hz hn hl hl2 hx
  refine Ev.rounds ?_
  have great : Ev (fun k => emulatorlaw03_OctetBack.j0 k b s z n l true) true := Ev.step (fun k => by rw [emulatorlaw03_OctetBack.j0, if_pos rfl]) alive_end
  unfold emulatorlaw03_OctetBack.f
  by_cases h : (b.size : Int) > 500
  · exact Ev.congr (fun k => if_pos h) great
  by_cases h2 : (s.size : Int) > 500
  · exact Ev.congr (fun k => by rw [if_neg h, if_pos h2]) great
  by_cases h3 : (z.size : Int) > 500
  · exact Ev.congr (fun k => by rw [if_neg h, if_neg h2, if_pos h3]) great
  by_cases h4 : (l.length : Int) > 200
  · exact Ev.congr (fun k => by rw [if_neg h, if_neg h2, if_neg h3, decide_eq_true h4]) great
  refine Ev.congr (f := fun k => emulatorlaw03_OctetBack.j0 k b s z n l false) (fun k => by rw [if_neg h, if_neg h2, if_neg h3, decide_eq_false h4]) ?_
  refine Ev.step (fun k => by rw [emulatorlaw03_OctetBack.j0, if_neg (by decide)]) ?_
  have hn' : 0 ≤ n ∧ n < 4294967296 := by
    simp only [Lit.wf, IntKind.min, IntKind.max, IntKind.signed, IntKind.bits, Bool.and_eq_true, decide_eq_true_eq] at hn
    have h5 := hn.1; have h6 := hn.2
    simp at h5 h6
    omega
  have hx' : ∀ x ∈ l, 0 ≤ x ∧ x < 65536 := by
    intro x h
    have := hx x h
    simp only [Lit.wf, IntKind.min, IntKind.max, IntKind.signed, IntKind.bits, Bool.and_eq_true, decide_eq_true_eq] at this
    have h5 := this.1; have h6 := this.2
    simp at h5 h6
    omega
  have w5 : width 5 = 5 := by decide
  have wn : wrap64 n = n := by unfold wrap64; omega
  have mn' : mx n 0 = n := by unfold mx; rw [if_neg (by omega)]
  -- the end
  have fin : Ev (fun k => emulatorlaw03_OctetBack.j2 k b s n l n ((b.size : Int) + 5) s ((b.size : Int) + 2 + s.size) l s false) true := by
    have c2 : (b.size : Int) + 5 = wrap64 ((b.size : Int) + 5) := by unfold wrap64; omega
    have c4 : (b.size : Int) + 2 + s.size = wrap64 (wrap64 ((b.size : Int) + 2) + (s.size : Int)) := by rw [wrap64_id (n := (b.size : Int) + 2) (by omega) (by omega), wrap64_id (n := (b.size : Int) + 2 + (s.size : Int)) (by omega) (by omega)]
    refine Ev.step (fun k => by rw [emulatorlaw03_OctetBack.j2]) ?_
    refine Ev.congr (fun k => (if_neg (by decide)).trans ((if_pos wn.symm).trans ((if_pos c2).trans ((if_pos rfl).trans (if_pos c4))))) ?_
    refine Ev.bind (sameInts_is l (by omega)) ?_
    exact Ev.congr (fun k => by rw [if_pos rfl, if_pos rfl]) alive_end
  have rest : Ev (fun k => emulatorlaw03_OctetBack.l0 k b s z n l l (l.length : Int)) true := by
    refine Ev.step (fun k => by rw [emulatorlaw03_OctetBack.l0, if_neg (by omega), wn]) ?_
    refine Ev.bind (put_is n 5) ?_
    rw [mn', w5]
    have e1 : (b ++ mkS (le n 5)) ++ z = mkS (bs b ++ le n 5 ++ bs z) := bs_inj (by rw [bs_append, bs_append]; rfl)
    have z1 : (b ++ mkS (le n 5)).size = b.size + 5 := by rw [ByteArray.size_append, mkS_size, le_length]
    have c1 : b.size + (mkS (le n 5)).size ≤ 9223372036854775807 := by rw [mkS_size, le_length]; omega
    have c2 : (b ++ mkS (le n 5)).size + z.size ≤ 9223372036854775807 := by rw [z1]; omega
    refine Ev.congr (fun k => (if_pos c1).trans (if_pos c2)) ?_
    rw [e1]
    have g1 := get_is (mkS (bs b ++ le n 5 ++ bs z)) (b.size : Int) 5 (by rw [mkS_size, List.length_append, List.length_append, le_length, bs_length, bs_length]; omega)
    rw [bs_mkS] at g1
    have g2 := getR_put (bs b) (bs z) n 5 (by decide) (by decide) hn'.1 (by omega)
    rw [bs_length] at g2
    have g3 : getR (bs b ++ le n 5 ++ bs z) (b.size : Int) 5 = (n, (b.size : Int) + 5, 0) := g2
    rw [g3] at g1
    refine Ev.bind g1 ?_
    refine Ev.bind (putText_is s (by omega)) ?_
    have hpl : (putT (bs s)).length = 2 + s.size := by rw [putT_small _ (by rw [bs_length]; omega), List.length_append, le_length, bs_length]
    have e2 : (b ++ mkS (putT (bs s))) ++ z = mkS (bs b ++ putT (bs s) ++ bs z) := bs_inj (by rw [bs_append, bs_append]; rfl)
    have z2 : (b ++ mkS (putT (bs s))).size = b.size + (2 + s.size) := by rw [ByteArray.size_append, mkS_size, hpl]
    have c3 : b.size + (mkS (putT (bs s))).size ≤ 9223372036854775807 := by rw [mkS_size, hpl]; omega
    have c4 : (b ++ mkS (putT (bs s))).size + z.size ≤ 9223372036854775807 := by rw [z2]; omega
    refine Ev.congr (fun k => (if_pos c3).trans (if_pos c4)) ?_
    rw [e2]
    have t1 := getText_is (mkS (bs b ++ putT (bs s) ++ bs z)) (b.size : Int) (by rw [mkS_size, List.length_append, List.length_append, hpl, bs_length, bs_length]; omega)
    rw [bs_mkS] at t1
    have t2 := getT_put (bs b) (bs z) (bs s) (by rw [bs_length]; omega)
    rw [bs_length b, bs_length s] at t2
    rw [t2] at t1
    refine Ev.bind t1 ?_
    refine Ev.bind (putWords_is l (by omega)) ?_
    have v1 := getWords_is (mkS (byt (putW l))) (by rw [mkS_size, byt_length, putW_length]; omega)
    rw [bs_mkS, getW_putW l hx'] at v1
    refine Ev.bind v1 ?_
    refine Ev.bind (seal_is s (by omega)) ?_
    have o1 := open_is (mkS (seal_ (bs s))) (by rw [mkS_size, seal_length, bs_length]; omega)
    rw [bs_mkS, openR_seal] at o1
    refine Ev.bind o1 ?_
    refine Ev.congr (fun k => (if_pos rfl).trans ((if_pos rfl).trans (if_pos rfl))) ?_
    rw [mkS_bs, show ((0 : Int) != 0) = false from rfl]
    exact fin
  have loop : ∀ (d i : Nat), i + d = l.length → Ev (fun k => emulatorlaw03_OctetBack.l0 k b s z n l (l.take i) (i : Int)) true := by
    intro d
    induction d with
    | zero =>
      intro i hi
      obtain rfl : i = l.length := by omega
      rw [List.take_length]; exact rest
    | succ d ih =>
      intro i hi
      have hn := ih (i + 1) (by omega)
      rw [List.take_succ_eq_append_getElem (show i < l.length by omega)] at hn
      refine Ev.step ?_ hn
      intro k
      have hr := hx' _ (List.getElem_mem (show i < l.length by omega))
      rw [emulatorlaw03_OctetBack.l0, if_pos (by omega), if_pos (by omega), if_pos (by rw [List.length_take]; omega), rd_get l i (by omega), i64_nat i (by omega), show wrap64 l[i] = l[i] by unfold wrap64; omega]
  exact loop l.length 0 (by omega)
end Go.Proofs.Ytgeoapkiegblnaa.Pure
