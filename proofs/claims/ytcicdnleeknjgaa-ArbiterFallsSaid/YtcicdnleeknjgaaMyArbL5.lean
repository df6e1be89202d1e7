/- The law ArbiterFalls. -/
import Derived.Test.YtcicdnleeknjgaaMyArbP
import Derived.Test.YtcicdnleeknjgaaKlArbiterFalls
import Derived.Test.YtcicdnleeknjgaaKx3
import Derived.Test.YtcicdnleeknjgaaKx4
import Derived.Test.YtcicdnleeknjgaaKx10
set_option linter.unusedVariables false
set_option linter.unusedSimpArgs false
namespace Go.Proofs.Ytcicdnleeknjgaa.Pure
open Go Go.RowKit Go.Sort Go.Proofs.Ytcicdnleeknjgaa.K Go.Proofs.Ytcicdnleeknjgaa.Stab Go.Proofs.Ytcicdnleeknjgaa.ArbW Go.Proofs.YtcicdnleeknjgaaW.PrintWords Go.Proofs.YtcicdnleeknjgaaW.PrintMore Go.Proofs.Ytcicdnleeknjgaa.MyBits

theorem ArbiterFalls : emulatorlaw12_ArbiterFalls.Pure := by
  intro l a hl ha
  refine Ev.rounds ?_
  unfold emulatorlaw12_ArbiterFalls.f
  by_cases h : (l.length : Int) > 60
  · exact Ev.congr (fun k => if_pos h) alive_end
  refine Ev.congr (fun k => if_neg h) ?_
  have h6 : l.length ≤ 1000 := by have := len_of h; omega
  have ha' : 0 ≤ a ∧ a < 256 := by
    have := ha
    simp only [Lit.wf, IntKind.min, IntKind.max, IntKind.signed, IntKind.bits, Bool.and_eq_true, decide_eq_true_eq] at this
    have h5 := this.1; have h7 := this.2
    simp at h5 h7
    omega
  have hm : Int.tmod a 8 = a % 8 := by rw [Int.tmod_eq_emod_of_nonneg ha'.1]
  obtain ⟨p, hp⟩ : ∃ p : Nat, a % 8 = (p : Int) := ⟨(a % 8).toNat, by omega⟩
  have hp8 : p < 8 := by omega
  have e1 : wrap64 (Int.tmod a 8) = (p : Int) := by rw [hm, hp]; unfold wrap64; omega
  rw [e1]
  have e2 : ∀ i : Nat, i < 8 → wrap64 (32 * (i : Int)) = 32 * (i : Int) := fun i hi => by unfold wrap64; omega
  have e3 : ∀ i : Nat, i < 8 → prio (32 * (i : Int)) = (i : Int) := fun i hi => by unfold prio; omega
  rw [e2 p hp8]
  refine Ev.bind (grant_is l h6 _) (Ev.bind (grant_is l h6 224) ?_)
  rw [e3 p hp8]
  have e7 : prio 224 = 7 := by unfold prio; omega
  rw [e7]
  have hv := srt_vld l
  -- what is granted at p is granted below
  have loop : ∀ d i, i + d = p → Ev (fun k => emulatorlaw12_ArbiterFalls.l0 k l (p : Int) (grt (srt l) (p : Int)).2.2 (i : Int) (grt (srt l) (p : Int)).1 (grt (srt l) (p : Int)).2.1) true := by
    intro d
    induction d with
    | zero => intro i hi; exact Ev.step (f := fun k => (emulatorlaw12_alive.f k).bind fun t => some t) (fun k => by rw [emulatorlaw12_ArbiterFalls.l0, if_neg (by omega)]) alive_end
    | succ d ih =>
      intro i hi
      have hg := grant_is l h6 (32 * (i : Int))
      rw [e3 i (by omega)] at hg
      refine Ev.step (f := fun k => (arbiter_Grant.f k l (32 * (i : Int))).bind fun bt260 => (if (grt (srt l) (p : Int)).2.2 = true then (if bt260.2.2 = true then (if (!(bt260.1 == (grt (srt l) (p : Int)).1) || (!(bt260.2.1 == (grt (srt l) (p : Int)).2.1))) = true then (none) else (emulatorlaw12_ArbiterFalls.l0 k l (p : Int) (grt (srt l) (p : Int)).2.2 ((i + 1 : Nat) : Int) (grt (srt l) (p : Int)).1 (grt (srt l) (p : Int)).2.1)) else (none)) else (emulatorlaw12_ArbiterFalls.l0 k l (p : Int) (grt (srt l) (p : Int)).2.2 ((i + 1 : Nat) : Int) (grt (srt l) (p : Int)).1 (grt (srt l) (p : Int)).2.1))) (fun k => by rw [emulatorlaw12_ArbiterFalls.l0, if_pos (by omega), e2 i (by omega), i64_nat i (by omega)]) ?_
      refine Ev.bind hg ?_
      have hn := ih (i + 1) (by omega)
      cases hc : (grt (srt l) (p : Int)).2.2 with
      | false => rw [hc] at hn; exact Ev.congr (fun k => if_neg (by decide)) hn
      | true =>
        have e : grt (srt l) (i : Int) = grt (srt l) (p : Int) := by
          cases hs : srt l with
          | nil => rfl
          | cons x q =>
            rw [hs] at hc
            unfold grt at hc ⊢
            dsimp only at hc ⊢
            by_cases hx : x.f0 > (p : Int)
            · rw [if_pos hx, if_pos (by omega)]
            · rw [if_neg hx] at hc; cases hc
        rw [e]
        rw [hc] at hn
        exact Ev.congr (fun k => (if_pos rfl).trans ((if_pos hc).trans (if_neg (by simp)))) hn
  have top : (grt (srt l) 7).2.2 = false := by
    cases hs : srt l with
    | nil => rfl
    | cons x q =>
      have := vld_iff x (hv x (by rw [hs]; simp))
      unfold grt
      dsimp only
      rw [if_neg (by omega)]
  refine Ev.congr (fun k => if_neg (by rw [top]; decide)) ?_
  have hl0 := loop p 0 (by omega)
  cases hc : (grt (srt l) (p : Int)).2.2 with
  | false => rw [hc] at hl0; exact Ev.congr (fun k => if_neg (by decide)) hl0
  | true =>
    rw [hc] at hl0
    refine Ev.congr (fun k => if_pos rfl) ?_
    have hq : (grt (srt l) (p : Int)).1 > (p : Int) ∧ vld ⟨(grt (srt l) (p : Int)).1, (grt (srt l) (p : Int)).2.1⟩ = true := by
      cases hs : srt l with
      | nil => rw [hs] at hc; cases hc
      | cons x q =>
        rw [hs] at hc
        unfold grt at hc ⊢
        dsimp only at hc ⊢
        by_cases hx : x.f0 > (p : Int)
        · rw [if_pos hx]; exact ⟨hx, hv x (by rw [hs]; simp)⟩
        · rw [if_neg hx] at hc; cases hc
    refine Ev.congr (fun k => (if_neg (by omega)).trans ?_) hl0
    rw [valid_at, hq.2, Option.bind_some, if_pos rfl]
    rfl
end Go.Proofs.Ytcicdnleeknjgaa.Pure
