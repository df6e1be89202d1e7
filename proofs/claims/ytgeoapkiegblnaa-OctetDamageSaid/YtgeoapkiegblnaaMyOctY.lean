/- The law OctetDamage: a sealed string of which one bit was changed is not opened. -/
import Derived.Test.YtgeoapkiegblnaaMyOctB
import Derived.Test.YtgeoapkiegblnaaMyOctX
import Derived.Test.YtgeoapkiegblnaaKx5
import Derived.Test.YtgeoapkiegblnaaKx8
import Derived.Test.YtgeoapkiegblnaaKx12
set_option linter.unusedVariables false
set_option linter.unusedSimpArgs false
namespace Go.Proofs.Ytgeoapkiegblnaa.Pure
open Go Go.RowKit Go.Proofs.Ytgeoapkiegblnaa.K Go.Proofs.YtgeoapkiegblnaaW.PrintWords Go.Proofs.YtgeoapkiegblnaaW.PrintMore Go.Proofs.Ytgeoapkiegblnaa.MyBits Go.Proofs.Ytgeoapkiegblnaa.MyStr Go.Proofs.Ytgeoapkiegblnaa.Oct

theorem damage_alive : emulatorlaw03_alive.f 400 = some true := by decide +kernel
theorem damage_alive_is : Ev (fun k => emulatorlaw03_alive.f k) true := Ev.of (fun k => emulatorlaw03_alive.mono k) damage_alive
theorem xor_byte : ∀ (n : Fin 256) (i : Fin 8), 0 ≤ Go.bits .xor .u8 (n.val : Int) (2 ^ i.val % 256) ∧ Go.bits .xor .u8 (n.val : Int) (2 ^ i.val % 256) < 256 ∧ Go.bits .xor .u8 (n.val : Int) (2 ^ i.val % 256) ≠ (n.val : Int) := by decide +kernel
theorem dmgB_ne (s : ByteArray) (q : Nat) (b : Int) (hq : q < (bs s).length) : UInt8.ofNat (dmgB s q b).toNat ≠ (bs s)[q] := by
  have hr : rd (bytesOf s) (q : Int) = (((bs s)[q]).toNat : Int) := by
    unfold rd
    rw [show ((q : Int)).toNat = q by omega, bytesOf_bs, List.getD_eq_getElem?_getD, List.getElem?_map, List.getElem?_eq_getElem hq]; rfl
  have hn := UInt8.toNat_lt ((bs s)[q])
  have hi : (b % 8).toNat < 8 := by omega
  obtain ⟨h0, h1, h2⟩ := xor_byte ⟨((bs s)[q]).toNat, hn⟩ ⟨(b % 8).toNat, hi⟩
  unfold dmgB
  rw [hr]
  dsimp only at h0 h1 h2
  generalize Go.bits .xor .u8 (((bs s)[q]).toNat : Int) (2 ^ (b % 8).toNat % 256) = x at h0 h1 h2
  intro h
  have := congrArg UInt8.toNat h
  rw [UInt8.toNat_ofNat'] at this
  omega
theorem dmg_bs (s : ByteArray) (q : Nat) (b : Int) : bs (dmg s q b) = (bs s).set q (UInt8.ofNat (dmgB s q b).toNat) := by
  unfold dmg
  rw [bs_nums, bytesOf_bs, List.map_set, List.map_map]
  congr 1
  conv => rhs; rw [← List.map_id (bs s)]
  congr 1; funext b; exact ofNat_toNat b
theorem OctetDamage : emulatorlaw03_OctetDamage.Pure := by
  intro a a1 a2 hs h1 h2
  have h1' := wf16 h1
  by_cases h500 : a.size ≤ 500
  · have hS := seal_is a (by omega)
    obtain ⟨s, hs'⟩ : ∃ s, s = mkS (seal_ (bs a)) := ⟨_, rfl⟩
    rw [← hs'] at hS
    have hbs : bs s = seal_ (bs a) := by rw [hs', bs_mkS]
    have hsz : s.size = a.size + 4 := by rw [← bs_length, hbs, seal_length, bs_length]
    obtain ⟨q, hq⟩ : ∃ q : Nat, a1 % (s.size : Int) = (q : Int) := ⟨(a1 % (s.size : Int)).toNat, by have := Int.emod_nonneg a1 (show (s.size : Int) ≠ 0 by omega); omega⟩
    have hqs : q < s.size := by have := Int.emod_lt_of_pos a1 (show (0 : Int) < (s.size : Int) by omega); omega
    have hql : q < (bs s).length := by rw [bs_length]; exact hqs
    have hd : bs (dmg s q a2) = (bs s).take q ++ UInt8.ofNat (dmgB s q a2).toNat :: (bs s).drop (q + 1) := by
      rw [dmg_bs, List.set_eq_take_append_cons_drop, if_pos hql]
    have hno : ¬ opened (bs (dmg s q a2)) := by
      rw [hd]
      refine seal_one (bs a) _ _ (bs s)[q] _ (fun h => dmgB_ne s q a2 hql h.symm) ?_
      rw [← hbs, ← List.drop_eq_getElem_cons hql, List.take_append_drop]
    have hdl : (bs (dmg s q a2)).length = s.size := by rw [dmg_bs, List.length_set, bs_length]
    have hR : openR (bs (dmg s q a2)) = ([], 10) := by
      unfold openR
      rw [if_neg (by omega), if_neg]
      intro h
      exact hno ⟨by omega, h⟩
    have hO := open_is (dmg s q a2) (by rw [← bs_length, hdl]; omega)
    rw [hR] at hO
    have hall : Ev (fun k => (emulatorlaw03_alive.f k).bind fun t => (octet_Seal.f k a).bind fun u => (octet_Open.f k (dmg s q a2)).bind fun v => some (t, u, v)) (true, s, (mkS [], (10 : Int))) :=
      Ev.bind damage_alive_is (Ev.bind hS (Ev.bind hO (Ev.now _)))
    obtain ⟨k, hk⟩ := Ev.rounds hall
    obtain ⟨t, ht, hk⟩ := Option.bind_eq_some_iff.1 hk
    obtain ⟨u, hu, hk⟩ := Option.bind_eq_some_iff.1 hk
    obtain ⟨v, hv, hk⟩ := Option.bind_eq_some_iff.1 hk
    simp only [Option.some.injEq, Prod.mk.injEq] at hk
    obtain ⟨rfl, rfl, rfl⟩ := hk
    exact ⟨k, ht, fun _ => ⟨u, q, hu, hsz, hq, hqs, hv⟩⟩
  · obtain ⟨k, hk⟩ := Ev.rounds damage_alive_is
    exact ⟨k, hk, fun h => absurd h h500⟩
end Go.Proofs.Ytgeoapkiegblnaa.Pure
