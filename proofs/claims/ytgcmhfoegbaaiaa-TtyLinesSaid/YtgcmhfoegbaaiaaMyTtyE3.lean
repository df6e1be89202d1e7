/- The law TtyLines. -/
import Derived.Test.YtgcmhfoegbaaiaaMyTtyE
import Derived.Test.YtgcmhfoegbaaiaaMyTtyR
import Derived.Test.YtgcmhfoegbaaiaaKlTtyLines
import Derived.Test.YtgcmhfoegbaaiaaKx8
import Derived.Test.YtgcmhfoegbaaiaaKx11
import Derived.Test.YtgcmhfoegbaaiaaKx12
set_option linter.unusedVariables false
set_option linter.unusedSimpArgs false
namespace Go.Proofs.Ytgcmhfoegbaaiaa.Pure
open Go Go.RowKit Go.Proofs.Ytgcmhfoegbaaiaa.K Go.Proofs.YtgcmhfoegbaaiaaW.PrintWords Go.Proofs.YtgcmhfoegbaaiaaW.PrintMore Go.Proofs.Ytgcmhfoegbaaiaa.MyBits Go.Proofs.Ytgcmhfoegbaaiaa.MyStr Go.Proofs.Ytgcmhfoegbaaiaa.Tty

/-! lines -/
theorem typ_q (s : ByteArray) (o : ByteArray) (hs : s.size ≤ 78) : ∃ o', typ (false, s, [], o) [113, 8] = (false, s, [], o') := by
  have e1 : inpS (false, s, [], o) 113 = (false, s ++ one 113, [], ech o (one 113)) := by
    unfold inpS inp
    dsimp only
    rw [if_neg (by decide), if_pos (by decide), if_neg (by show ¬ s.size ≥ 79; omega)]
    rfl
  have hz : (s ++ one 113).size = s.size + 1 := by rw [ByteArray.size_append, one_size]
  have e2 : ∀ o, inpS (false, s ++ one 113, [], o) 8 = (false, s, [], ech o ⟨#[8, 32, 8]⟩) := fun o => by
    unfold inpS inp
    dsimp only
    rw [if_neg (by decide), if_neg (by decide), if_pos (by decide), if_neg (by
      show ¬ (s ++ one 113).toList = []
      rw [toList_bs, ← List.length_eq_zero_iff, bs_length]; omega)]
    show (false, (s ++ one 113).extract 0 ((s ++ one 113).size - 1), _, _) = _
    rw [show (s ++ one 113).extract 0 ((s ++ one 113).size - 1) = s from ?_]
    apply bs_inj
    rw [bs_extract, bs_append, hz, List.drop_zero, Nat.add_sub_cancel, ← bs_length, List.take_left']
    rfl
  exact ⟨_, by show inpS (inpS (false, s, [], o) 113) 8 = _; rw [e1]; exact e2 _⟩
theorem typ_nl (s : ByteArray) (o : ByteArray) : ∃ o', typ (false, s, [], o) [10] = (false, ByteArray.empty, [s ++ nl], o') := by
  refine ⟨ech o ⟨#[13, 10]⟩, ?_⟩
  show inpS (false, s, [], o) 10 = _
  unfold inpS inp
  dsimp only
  rw [if_neg (by decide), if_neg (by decide), if_neg (by decide), if_neg (by decide), if_pos (by decide)]
  rfl
theorem nl_at (c : UInt8) : ((c.toNat : Nat) : Int) = ((c.toNat : Nat) : Int) := rfl
theorem TtyLines : emulatorlaw43_TtyLines.Pure := by
  intro r t l o s p ht hl ho hs hp
  refine Ev.rounds ?_
  unfold emulatorlaw43_TtyLines.f
  refine Ev.bind (good_is r t l o) ?_
  cases h : (fairB t l o && okB r t l o) with
  | false => exact Ev.congr (fun k => if_neg (by decide)) alive_end
  | true =>
    rw [Bool.and_eq_true, ok_iff] at h
    refine Ev.congr (fun k => if_pos rfl) ?_
    by_cases hr : r = true
    · exact Ev.congr (fun k => if_pos hr) alive_end
    refine Ev.congr (fun k => if_neg hr) ?_
    by_cases ht0 : t.toList = []
    case neg => exact Ev.congr (fun k => if_neg ht0) alive_end
    refine Ev.congr (fun k => if_pos ht0) ?_
    by_cases h15 : (l.length : Int) > 15
    · exact Ev.congr (fun k => if_pos h15) alive_end
    refine Ev.congr (fun k => if_neg h15) ?_
    by_cases h78 : (s.size : Int) > 78
    · exact Ev.congr (fun k => if_pos h78) alive_end
    refine Ev.congr (fun k => if_neg h78) ?_
    obtain rfl : r = false := by cases r <;> simp_all
    obtain rfl := empty_of ht0
    have hbl := bs_length s
    have hok : OkS (false, ByteArray.empty, [], o) := ⟨h.2.ho, Nat.zero_le _, Nat.zero_le _, fun h => rfl, fun j hj => absurd hj (Nat.not_lt_zero _), fun x hx => by cases hx⟩
    have hp0 : 0 ≤ p ∧ p < 256 := by
      have := hp
      simp only [Lit.wf, IntKind.min, IntKind.max, IntKind.signed, IntKind.bits, Bool.and_eq_true, decide_eq_true_eq] at this
      have h5 := this.1; have h6 := this.2
      simp at h5 h6
      omega
    have hm0 : 0 ≤ Int.tmod p 20 := by rw [Int.tmod_eq_emod_of_nonneg hp0.1]; omega
    have hm1 : Int.tmod p 20 < 20 := by rw [Int.tmod_eq_emod_of_nonneg hp0.1]; omega
    -- the parts
    have parts : ∀ (m : Nat) (u g : ByteArray) (i : Nat) (o1 o2 o3 : ByteArray), u.size ≤ m → 1 ≤ u.size → i + m < 100 → bs g ++ bs u = bs s ++ [10] → g.size ≤ 100 →
        Ev (fun k => emulatorlaw43_TtyLines.l1 k s p g (i : Int) false s [] o1 false s [] o2 false ByteArray.empty [u] o3) true := by
      have endp : ∀ (g : ByteArray) (i : Nat) (o1 o2 o3 : ByteArray), i ≤ 100 → bs g = bs s ++ [10] → Ev (fun k => emulatorlaw43_TtyLines.l1 k s p g (i : Int) false s [] o1 false s [] o2 false ByteArray.empty [] o3) true := by
        intro g i o1 o2 o3 hi hg
        refine Ev.step (f := fun k => (emulatorlaw43_alive.f k).bind fun t324 => (some t324)) (fun k => ?_) alive_end
        have e : g.toList = (s ++ (⟨#[10]⟩ : ByteArray)).toList := by rw [toList_bs, toList_bs, bs_append, hg]; rfl
        rw [emulatorlaw43_TtyLines.l1]
        by_cases h100 : (i : Int) < 100
        · rw [if_pos h100, if_neg (by rw [List.length_nil]; omega), if_pos rfl, if_pos rfl, if_pos (by omega), if_pos e, if_pos te]
        · rw [if_neg h100, if_pos rfl, if_pos rfl, if_pos (by omega), if_pos e, if_pos te]
      intro m
      induction m with
      | zero => intro u g i o1 o2 o3 h1 h2; omega
      | succ m ih =>
        intro u g i o1 o2 o3 h1 h2 hi hg hgs
        have hgu : g.size + u.size = s.size + 1 := by
          have := congrArg List.length hg
          rw [List.length_append, List.length_append, bs_length, bs_length, bs_length] at this
          exact this
        have e : wrap64 (1 + wrap64 (Int.tmod p 20)) = 1 + Int.tmod p 20 := by rw [wrap64_id (n := Int.tmod p 20) (by omega) (by omega), wrap64_id (by omega) (by omega)]
        obtain ⟨n, hn⟩ : ∃ n : Nat, 1 + Int.tmod p 20 = (n : Int) := ⟨(1 + Int.tmod p 20).toNat, by omega⟩
        have hn1 : 1 ≤ n := by omega
        have hread := read_is false ByteArray.empty [u] o3 (n : Int) (by show 1 ≤ 1000; decide) (fun x hx => by rw [List.mem_singleton.1 hx]; omega)
        by_cases hk : n < u.size
        · have hv : rdr false ByteArray.empty [u] o3 (n : Int) = (false, ByteArray.empty, [u.extract n u.size], o3, u.extract 0 n, 0) := by
            unfold rdr
            rw [if_neg (by omega)]
            simp only
            rw [if_neg (by omega), show min ((n : Int)).toNat u.size = n by omega, if_pos hk]
          have hz1 : (u.extract n u.size).size = u.size - n := size_extract _ _ _ (Nat.le_refl _)
          have hz2 : (u.extract 0 n).size = n := by rw [size_extract _ _ _ (by omega)]; omega
          refine Ev.step (fun k => ?_) (ih (u.extract n u.size) (g ++ u.extract 0 n) (i + 1) o1 o2 o3 (by omega) (by omega) (by omega) ?_ (by rw [ByteArray.size_append]; omega))
          · rw [emulatorlaw43_TtyLines.l1, if_pos (by omega), if_pos (by rw [List.length_singleton]; decide), e, hn, hread, hv, Option.bind_some]
            dsimp only
            rw [if_pos rfl, if_pos (by omega), i64_nat i (by omega)]
          · rw [bs_append, List.append_assoc, ← hg, bs_extract, bs_extract, List.drop_zero, ← bs_length u, List.take_length, List.take_append_drop]
        · have hv : rdr false ByteArray.empty [u] o3 (n : Int) = (false, ByteArray.empty, [], o3, u.extract 0 u.size, 0) := by
            unfold rdr
            rw [if_neg (by omega)]
            simp only
            rw [if_neg (by omega), if_neg (by omega)]
          have hz2 : (u.extract 0 u.size).size = u.size := by rw [size_extract _ _ _ (by omega)]; omega
          refine Ev.step (fun k => ?_) (endp (g ++ u.extract 0 u.size) (i + 1) o1 o2 o3 (by omega) ?_)
          · rw [emulatorlaw43_TtyLines.l1, if_pos (by omega), if_pos (by rw [List.length_singleton]; decide), e, hn, hread, hv, Option.bind_some]
            dsimp only
            rw [if_pos rfl, if_pos (by omega), i64_nat i (by omega)]
          · rw [bs_append, ← hg, bs_extract, List.drop_zero, ← bs_length u, List.take_length]
    -- the bytes are shown, or the examples alone are asked
    have key : ∀ d i, i + d = s.size → (∀ j, j < i → sh s j = true) → Ev (fun k => emulatorlaw43_TtyLines.l0 k s p (i : Int) false ByteArray.empty l o) true := by
      intro d
      induction d with
      | zero =>
        intro i hi hsh
        obtain rfl : i = s.size := by omega
        have hall : ∀ c ∈ bs s, shw ((c.toNat : Nat) : Int) = true := by
          intro c hc
          obtain ⟨j, hj, rfl⟩ := List.getElem_of_mem hc
          have := hsh j (by omega)
          unfold sh at this
          rw [byte_eq hj] at this
          exact this
        have hT := typed_is hok s (by omega)
        obtain ⟨u, o1, hu, hbu⟩ := typ_shown (bs s) ByteArray.empty [] o hall (by show 0 + _ ≤ _; omega)
        obtain rfl : u = s := bs_inj (by rw [hbu]; rfl)
        have ok1 := typ_ok (bs u) hok
        rw [hu] at hT ok1
        have hT2 := typed_is ok1 ⟨#[113, 8]⟩ (by decide)
        have ok2 := typ_ok (bs ⟨#[113, 8]⟩) ok1
        obtain ⟨o2, ho2⟩ := typ_q u o1 (by omega)
        have eq2 : bs ⟨#[113, 8]⟩ = [113, 8] := rfl
        rw [eq2, ho2] at hT2 ok2
        have hT3 := typed_is ok2 ⟨#[10]⟩ (by decide)
        obtain ⟨o3, ho3⟩ := typ_nl u o2
        have eq3 : bs ⟨#[10]⟩ = [10] := rfl
        rw [eq3, ho3] at hT3
        have hsz : (u ++ nl).size = u.size + 1 := ByteArray.size_append
        refine Ev.step (f := fun k => (emulatorlaw43_typed.f k false ByteArray.empty ([] : List ByteArray) o u).bind fun bt294 => ((emulatorlaw43_typed.f k bt294.1 bt294.2.1 bt294.2.2.1 bt294.2.2.2 (⟨#[113, 8]⟩ : ByteArray)).bind fun bt301 => ((emulatorlaw43_typed.f k bt301.1 bt301.2.1 bt301.2.2.1 bt301.2.2.2 (⟨#[10]⟩ : ByteArray)).bind fun bt308 => (emulatorlaw43_TtyLines.l1 k u p (⟨#[]⟩ : ByteArray) 0 bt294.1 bt294.2.1 bt294.2.2.1 bt294.2.2.2 bt301.1 bt301.2.1 bt301.2.2.1 bt301.2.2.2 bt308.1 bt308.2.1 bt308.2.2.1 bt308.2.2.2)))) (fun k => ?_) ?_
        · rw [emulatorlaw43_TtyLines.l0, if_neg (by omega)]
        · refine Ev.bind hT (Ev.bind hT2 (Ev.bind hT3 ?_))
          exact parts 80 (u ++ nl) ⟨#[]⟩ 0 o1 o2 o3 (by omega) (by omega) (by omega) (by rw [bs_append]; rfl) (by decide)
      | succ d ih =>
        intro i hi hsh
        by_cases hc : sh s i = true
        · refine Ev.step (fun k => ?_) (ih (i + 1) (by omega) (fun j hj => if h : j = i then h ▸ hc else hsh j (by omega)))
          unfold sh shw at hc
          rw [Bool.or_eq_true, Bool.and_eq_true, decide_eq_true_eq, decide_eq_true_eq, beq_iff_eq] at hc
          rw [emulatorlaw43_TtyLines.l0, if_pos (by omega), if_pos (by omega), i64_nat i (by omega)]
          by_cases h32 : bt s (i : Int) < 32
          · rw [if_pos h32, if_pos (by omega)]
          · rw [if_neg h32, if_neg (by omega)]
        · refine Ev.step (f := fun k => (emulatorlaw43_alive.f k).bind fun t292 => (some t292)) (fun k => ?_) alive_end
          unfold sh shw at hc
          rw [Bool.or_eq_true, Bool.and_eq_true, decide_eq_true_eq, decide_eq_true_eq, beq_iff_eq] at hc
          rw [emulatorlaw43_TtyLines.l0, if_pos (by omega), if_pos (by omega)]
          by_cases h32 : bt s (i : Int) < 32
          · rw [if_pos h32, if_neg (by omega)]
          · rw [if_neg h32, if_pos (by omega), if_neg (by omega)]
    exact key s.size 0 (by omega) (fun j hj => absurd hj (Nat.not_lt_zero _))
end Go.Proofs.Ytgcmhfoegbaaiaa.Pure
