/- Lemmas for several laws: what their proofs need of this seat's texts, in one place. -/
import Derived.Test.YtenlmckahaniiaaZcLc10
set_option linter.unusedVariables false
set_option linter.unusedSimpArgs false
set_option linter.unusedSectionVars false
set_option maxHeartbeats 8000000
set_option maxRecDepth 100000
section
namespace Go.Proofs.Ytenlmckahaniiaa.K
open Go.RowKit Go.Proofs.YtenlmckahaniiaaW.PrintWords Go.Proofs.YtenlmckahaniiaaW.PrintLast
mutual
def zq15.l0 : Nat → ByteArray → Int → List (S25) → Int → Int → Option ((List (S25)) × Bool)
  | 0, _, _, _, _, _ => none
  | k + 1, x0, x1, x8, x13, x14 => if x14 < x13 then ((zq1p.f k x0 x1 4).bind fun bt714 => (if bt714.2.2 = 0 then (zq15.j1 k x0 x8 bt714.1 bt714.2.1 x13 x14 (decide (bt714.1 > (wrap64 ((x0.size : Int) - bt714.2.1))))) else (zq15.j1 k x0 x8 bt714.1 bt714.2.1 x13 x14 true))) else (some (x8, (x1 == (x0.size : Int))))
def zq15.j1 : Nat → ByteArray → List (S25) → Int → Int → Int → Int → Bool → Option ((List (S25)) × Bool)
  | 0, _, _, _, _, _, _, _ => none
  | k + 1, x0, x8, x9, x10, x13, x14, x32 => if x32 = true then (some (([] : List (S25)), false)) else (if 0 ≤ x10 then (if x10 ≤ (wrap64 (x10 + x9)) then (if (wrap64 (x10 + x9)) ≤ (x0.size : Int) then ((zq1b.f k (x0.extract (x10 : Int).toNat ((wrap64 (x10 + x9)) : Int).toNat)).bind fun bt717 => (if bt717.2.2.2.2.2.2 = 0 then (if x8.length < 1353245080339 then (zq15.l0 k x0 (wrap64 (x10 + x9)) (x8 ++ [(⟨bt717.1, bt717.2.1, bt717.2.2.1, bt717.2.2.2.1, bt717.2.2.2.2.1, bt717.2.2.2.2.2.1⟩ : S25)]) x13 (wrap64 (x14 + 1))) else (none)) else (some (([] : List (S25)), false)))) else (none)) else (none)) else (none))
end
def zq15.f (k : Nat) (a0 : ByteArray) (a1 : Int) (a2 : Int) : Option ((List (S25)) × Bool) := zq15.l0 k a0 a1 ([] : List (S25)) a2 0
theorem zq15.calls (k : Nat) (a0 : ByteArray) (a1 : Int) (a2 : Int) (r1 : List (S25)) (r2 : Bool) (w : World) (h : zq15.f k a0 a1 a2 = some (r1, r2)) :
  Calls Try.prog 81 #[.string a0, .int .i64 a1, .int .i64 a2] w fun e w' => ∃ v0_ : Value, e = .returned (.tuple #[v0_, .bool r2]) ∧ Kd.S k25 25 w' w.heap.size (fun _ => True) v0_ r1 ∧ Below w.heap.size w w' := by
 have hu25 := Try.underlying25
 have HB := q_ (Below.refl w.heap.size w)
 have H : (zq15.l0 k a0 a1 ([] : List (S25)) a2 0) = some (r1, r2) := h
 clear h
 have H' := q_ H
 clear H
 go_enter Try.func81, Try.ntmps81
 go_wp2
 go_loopg [1, 8, 14] k (fun kq v1 v8 v14 w' => ∃ (x1_1 : Int) (x8_1 : List (S25)) (x14_1 : Int), v1 = .int .i64 x1_1 ∧ v14 = .int .i64 x14_1 ∧ Aside0 (zq15.l0 kq a0 x1_1 x8_1 a2 x14_1 = some (r1, r2)) ∧ Aside0 (kq ≤ k) ∧ Aside0 (Kd.S k25 25 w' w.heap.size (fun _ => True) v8 x8_1) ∧ Aside0 (Below w.heap.size w w'))
 case atStart => exact ⟨(a1), (([] : List (S25))), (0), cl_, cl_, H', ⟨Nat.le_refl _⟩, ⟨by first | exact Kd.S_nil _ _ _ _ _ | exact Kd.N_nil _ _ _ _ _ | exact Kd.V_nil _ _ _ _ _ | exact Kd.Q_nil _ _ _ _ _ | exact Kd.R_nil _ _ _ _ _⟩, ⟨hb_⟩⟩
 case round =>
  clear H'
  (try clear p2)
  obtain ⟨x1_1, x8_1, x14_1, rfl, rfl, HA, HK1, HO_8, HB⟩ := hrel
  cases gk with
  | zero => exact absurd HA.out (by simp [zq15.l0])
  | succ k1 =>
   have H := HA.out
   clear HA
   simp only [zq15.l0] at H
   by_cases c4 : x14_1 < a2
   rotate_left
   ·rw [if_neg c4] at H
    have c4b0 : decide (x14_1 < a2) = false := decide_eq_false c4
    clear c4
    simp only [Option.some.injEq, Prod.mk.injEq] at H
    obtain ⟨rfl, rfl⟩ := H
    go_wp2
    go_ret2
    exact ⟨_, ew_, by (with_reducible repeat (first | apply Kd.S_alloc | apply Kd.S_drewN | apply Kd.S_drew)); exact HO_8.out, hb_⟩
   rw [if_pos c4] at H
   have c4b0 : decide (x14_1 < a2) = true := decide_eq_true c4
   clear c4
   replace H := Option.bind_eq_some_iff.mp H
   obtain ⟨⟨t714, t715, t716⟩, A50, H⟩ := H
   (try dsimp only at H)
   have A5 := q_ A50
   clear A50
   have HC6 := q_ H
   clear H
   go_upto_region 5 with (first | ((with_reducible refine y0j (f := 80) rfl ?_); refine goesL_ (some 19) rfl rfl Try.func80 (by kernel_rfl) rfl #[.string a0, .int .i64 x1_1, .int .i64 4] rfl ar_ ?_; (with_reducible refine (zq1p.calls k1 a0 x1_1 4 t714 t715 t716 _ A5.out).mono ?_); rintro e w' ⟨rfl, ⟨nd, rfl⟩⟩; refine ⟨_, rfl, ?_⟩))
   (try simp only [Act.put, List.setIfInBounds_toArray, List.set_cons_zero, List.set_cons_succ])
   go_cut [32] (fun v32 wc => ∃ (kq : Nat) (x32_5 : Bool), v32 = .bool x32_5 ∧ Aside0 (zq15.j1 kq a0 x8_1 t714 t715 a2 x14_1 x32_5 = some (r1, r2)) ∧ Aside0 (kq ≤ k1) ∧ Aside0 (Kd.S k25 25 wc w.heap.size (fun _ => True) u8 x8_1) ∧ Aside0 (Below w.heap.size w wc))
   case first =>
    have H := HC6.out
    clear HC6
    by_cases c7 : t716 = 0
    rotate_left
    ·rw [if_neg c7] at H
     have c7b0 : (t716 == 0) = false := beq_eq_false_iff_ne.mpr c7
     have c7b1 : (t716 != 0) = true := bne_iff_ne.mpr c7
     (first | rw [c7b0] | (simp only [i64_w, i32_w]; rw [c7b0]) | skip)
     have H' := q_ H
     clear H
     go_wp2
     go_meet
     case rel => exact ⟨_, (true), cl_, H', ⟨by have := HK1.out; first | omega | exact Nat.le_refl _⟩, ⟨by (with_reducible repeat (first | apply Kd.S_alloc | apply Kd.S_drewN | apply Kd.S_drew)); exact HO_8.out⟩, ⟨hb_⟩⟩
    rw [if_pos c7] at H
    have c7b0 : (t716 == 0) = true := beq_iff_eq.mpr c7
    have c7b1 : (t716 != 0) = false := bne_eq_false_iff_eq.mpr c7
    clear c7
    (first | rw [c7b0] | (simp only [i64_w, i32_w]; rw [c7b0]) | skip)
    have H' := q_ H
    clear H
    go_wp2
    go_meet
    case rel => exact ⟨_, (decide (t714 > (wrap64 ((a0.size : Int) - t715)))), cl_, H', ⟨by have := HK1.out; first | omega | exact Nat.le_refl _⟩, ⟨by (with_reducible repeat (first | apply Kd.S_alloc | apply Kd.S_drewN | apply Kd.S_drew)); exact HO_8.out⟩, ⟨hb_⟩⟩
   case rest =>
    clear HC6
    (try clear p2); (try clear c4); (try clear c4b0); (try clear p6); (try clear c7); (try clear c7b0); (try clear c7b1); (try clear p2)
    obtain ⟨kq, x32_5, rfl, HA, HJ5, HO_8, HB⟩ := hcut
    cases kq with
    | zero => exact absurd HA.out (by simp [zq15.j1])
    | succ kj5 =>
     have H := HA.out
     clear HA
     simp only [zq15.j1] at H
     by_cases c8 : x32_5 = true
     ·subst c8
      rw [if_pos rfl] at H
      simp only [Option.some.injEq, Prod.mk.injEq] at H
      obtain ⟨rfl, rfl⟩ := H
      go_wp2
      go_ret2
      exact ⟨_, ew_, by first | exact Kd.S_nil _ _ _ _ _ | exact Kd.N_nil _ _ _ _ _ | exact Kd.V_nil _ _ _ _ _ | exact Kd.Q_nil _ _ _ _ _ | exact Kd.R_nil _ _ _ _ _, hb_⟩
     replace c8 := Bool.eq_false_iff.mpr c8
     subst c8
     rw [if_neg (show ¬ (false = true) by decide)] at H
     by_cases c9 : 0 ≤ t715
     rotate_left
     ·rw [if_neg c9] at H
      exact absurd H (by simp)
     rw [if_pos c9] at H
     have c9b0 := eq_true c9
     have c9b1 : decide (0 ≤ t715) = true := decide_eq_true c9
     clear c9
     by_cases c10 : t715 ≤ (wrap64 (t715 + t714))
     rotate_left
     ·rw [if_neg c10] at H
      exact absurd H (by simp)
     rw [if_pos c10] at H
     have c10b0 := eq_true c10
     have c10b1 : decide (t715 ≤ (wrap64 (t715 + t714))) = true := decide_eq_true c10
     by_cases c11 : (wrap64 (t715 + t714)) ≤ (a0.size : Int)
     rotate_left
     ·rw [if_neg c11] at H
      exact absurd H (by simp)
     rw [if_pos c11] at H
     have c11b0 := eq_true c11
     have c11b1 : decide ((wrap64 (t715 + t714)) ≤ (a0.size : Int)) = true := decide_eq_true c11
     replace H := Option.bind_eq_some_iff.mp H
     obtain ⟨⟨t717, t718, t719, t720, t721, t724, t727⟩, A120, H⟩ := H
     (try dsimp only at H)
     have A12 := q_ A120
     clear A120
     by_cases c13 : t727 = 0
     rotate_left
     ·rw [if_neg c13] at H
      have c13b0 : (t727 == 0) = false := beq_eq_false_iff_ne.mpr c13
      have c13b1 : (t727 != 0) = true := bne_iff_ne.mpr c13
      simp only [Option.some.injEq, Prod.mk.injEq] at H
      obtain ⟨rfl, rfl⟩ := H
      go_wp2_with (first | ((with_reducible refine y0j (f := 24) rfl ?_); refine goesL_ (some 40) rfl rfl Try.func24 (by kernel_rfl) rfl #[.string (a0.extract (t715 : Int).toNat ((wrap64 (t715 + t714)) : Int).toNat)] rfl (by (try simp only [List.map_toArray, List.map_cons, List.map_nil]); first | done | rfl | (simp only [List.length_drop, List.length_take]; rfl) | (simp only [ByteArray.size_extract, Nat.sub_zero]; rfl) | (simp only [ByteArray.size_extract, Nat.sub_zero]; done) | ((try go_simp); (try simp only [ByteArray.size_extract, Nat.sub_zero]); (try simp only [eq_iff_iff, iff_true] at *); repeat (first | rfl | omega | congr 1))) ?_; (with_reducible refine (zq1b.calls kj5 (a0.extract (t715 : Int).toNat ((wrap64 (t715 + t714)) : Int).toNat) t717 t718 t719 t720 t721 t724 t727 _ A12.out).mono ?_); rintro e w23 ⟨v722, v725, rfl, ho0, ho1, hb⟩; refine ⟨_, rfl, ?_⟩; have n0_ := q_ (Kd.S_mono (Kd.S_told (Kd.S_told (Kd.S_old (by (with_reducible repeat (first | apply Kd.S_alloc | apply Kd.S_drewN | apply Kd.S_drew)); exact HO_8.out) hb) (Kd.R_base ho0)) (Kd.R_base ho1)) (fun _ h_ => h_.1)); have n1_ := q_ (Kd.R_lower ho0 (y04 hb_)); have n2_ := q_ (Kd.R_lower ho1 (y04 hb_)); have n3_ := q_ (y05 hb_ hb); clear HO_8 HB; have HO_8 := n0_; have HO723 := n1_; have HO726 := n2_; have HB := n3_; clear n0_ n1_ n2_ n3_; (try clear hb); (try clear hb2); (try clear hk); (try clear hi); (try clear ho0); (try clear ho1)) | ((with_reducible refine y0k (N := 12) rfl ?_); (try (refine y0l (by rfl) ?_; dsimp only)); refine y0g ?hg (N := 12) ?hd (cs := #[.string (⟨#[]⟩ : ByteArray), .string (⟨#[]⟩ : ByteArray), .string (⟨#[]⟩ : ByteArray), .int .i64 0, .slice none 0 0, .slice none 0 0]) (t := 25) ?hr ?_; (case hd => rfl); (case hg => rfl); (case hr => first | (go_simp; done) | (go_simp; rfl)); intro gb728 hg w24 hbox hb; have n0_ := q_ (Kd.S_below (Kd.S_elderB (by (with_reducible repeat (first | apply Kd.S_alloc | apply Kd.S_drewN | apply Kd.S_drew)); exact HO_8.out) gb728 (Nat.le_of_eq hg.symm)) hb); have n1_ := q_ (Kd.R_below (rk_ HO723.out) hb); have n2_ := q_ (Kd.R_below (rk_ HO726.out) hb); have n3_ := q_ (y05 hb_ hb); have n4_ := q_ (hbox); have n5_ := q_ ((by rw [hg]; exact (y04 hb_) : w.heap.size ≤ gb728)); have n6_ := q_ ((by rw [hg]; exact (y04 hb_) : w.heap.size ≤ gb728)); clear HO_8 HO723 HO726 HB; have HO_8 := n0_; have HO723 := n1_; have HO726 := n2_; have HB := n3_; have BK728 := n4_; have GW728 := n5_; have GE728 := n6_; clear n0_ n1_ n2_ n3_ n4_ n5_ n6_; clear hb hbox hg; obtain ⟨hcz25_0, hfz25_0, hcz25_1, hfz25_1, hcz25_2, hfz25_2, hcz25_3, hfz25_3, hcz25_4, hfz25_4, hcz25_5, hfz25_5⟩ := b6_ BK728.out; obtain ⟨Ao26, co26, eo26⟩ := Kd.R_slice HO723.out; subst eo26; obtain ⟨Ao27, co27, eo27⟩ := Kd.R_slice HO726.out; subst eo27))
      go_ret2
      exact ⟨_, ew_, by first | exact Kd.S_nil _ _ _ _ _ | exact Kd.N_nil _ _ _ _ _ | exact Kd.V_nil _ _ _ _ _ | exact Kd.Q_nil _ _ _ _ _ | exact Kd.R_nil _ _ _ _ _, hb_⟩
     rw [if_pos c13] at H
     have c13b0 : (t727 == 0) = true := beq_iff_eq.mpr c13
     have c13b1 : (t727 != 0) = false := bne_eq_false_iff_eq.mpr c13
     clear c13
     by_cases c14 : x8_1.length < 1353245080339
     rotate_left
     ·rw [if_neg c14] at H
      exact absurd H (by simp)
     rw [if_pos c14] at H
     have LMc14 := q_ c14
     clear c14
     obtain ⟨y729, hy729⟩ : ∃ y_ : List (S25), y_ = (x8_1 ++ [(⟨t717, t718, t719, t720, t721, t724⟩ : S25)]) := ⟨_, rfl⟩
     replace H : (zq15.l0 kj5 a0 (wrap64 (t715 + t714)) y729 a2 (wrap64 (x14_1 + 1))) = some (r1, r2) := by first | (rw [hy729]; with_reducible exact H) | (have H2_ := (Option.bind_some _ _).symm.trans H; rw [hy729]; with_reducible exact H2_) | (have H2_ := (Option.bind_some _ _).symm.trans H; with_reducible exact H2_) | with_reducible exact H | (rw [hy729]; exact H) | exact H
     have Ny729 := q_ hy729
     clear hy729
     have H' := q_ H
     clear H
     go_wp2_with (first | ((with_reducible refine y0j (f := 24) rfl ?_); refine goesL_ (some 40) rfl rfl Try.func24 (by kernel_rfl) rfl #[.string (a0.extract (t715 : Int).toNat ((wrap64 (t715 + t714)) : Int).toNat)] rfl (by (try simp only [List.map_toArray, List.map_cons, List.map_nil]); first | done | rfl | (simp only [List.length_drop, List.length_take]; rfl) | (simp only [ByteArray.size_extract, Nat.sub_zero]; rfl) | (simp only [ByteArray.size_extract, Nat.sub_zero]; done) | ((try go_simp); (try simp only [ByteArray.size_extract, Nat.sub_zero]); (try simp only [eq_iff_iff, iff_true] at *); repeat (first | rfl | omega | congr 1))) ?_; (with_reducible refine (zq1b.calls kj5 (a0.extract (t715 : Int).toNat ((wrap64 (t715 + t714)) : Int).toNat) t717 t718 t719 t720 t721 t724 t727 _ A12.out).mono ?_); rintro e w15 ⟨v722, v725, rfl, ho0, ho1, hb⟩; refine ⟨_, rfl, ?_⟩; have n0_ := q_ (Kd.S_mono (Kd.S_told (Kd.S_told (Kd.S_old (by (with_reducible repeat (first | apply Kd.S_alloc | apply Kd.S_drewN | apply Kd.S_drew)); exact HO_8.out) hb) (Kd.R_base ho0)) (Kd.R_base ho1)) (fun _ h_ => h_.1)); have n1_ := q_ (Kd.R_lower ho0 (y04 hb_)); have n2_ := q_ (Kd.R_lower ho1 (y04 hb_)); have n3_ := q_ (y05 hb_ hb); clear HO_8 HB; have HO_8 := n0_; have HO723 := n1_; have HO726 := n2_; have HB := n3_; clear n0_ n1_ n2_ n3_; (try clear hb); (try clear hb2); (try clear hk); (try clear hi); (try clear ho0); (try clear ho1)) | ((with_reducible refine y0k (N := 12) rfl ?_); (try (refine y0l (by rfl) ?_; dsimp only)); refine y0g ?hg (N := 12) ?hd (cs := #[.string (⟨#[]⟩ : ByteArray), .string (⟨#[]⟩ : ByteArray), .string (⟨#[]⟩ : ByteArray), .int .i64 0, .slice none 0 0, .slice none 0 0]) (t := 25) ?hr ?_; (case hd => rfl); (case hg => rfl); (case hr => first | (go_simp; done) | (go_simp; rfl)); intro gb728 hg w16 hbox hb; have n0_ := q_ (Kd.S_below (Kd.S_elderB (by (with_reducible repeat (first | apply Kd.S_alloc | apply Kd.S_drewN | apply Kd.S_drew)); exact HO_8.out) gb728 (Nat.le_of_eq hg.symm)) hb); have n1_ := q_ (Kd.R_below (rk_ HO723.out) hb); have n2_ := q_ (Kd.R_below (rk_ HO726.out) hb); have n3_ := q_ (y05 hb_ hb); have n4_ := q_ (hbox); have n5_ := q_ ((by rw [hg]; exact (y04 hb_) : w.heap.size ≤ gb728)); have n6_ := q_ ((by rw [hg]; exact (y04 hb_) : w.heap.size ≤ gb728)); clear HO_8 HO723 HO726 HB; have HO_8 := n0_; have HO723 := n1_; have HO726 := n2_; have HB := n3_; have BK728 := n4_; have GW728 := n5_; have GE728 := n6_; clear n0_ n1_ n2_ n3_ n4_ n5_ n6_; clear hb hbox hg; obtain ⟨hcz17_0, hfz17_0, hcz17_1, hfz17_1, hcz17_2, hfz17_2, hcz17_3, hfz17_3, hcz17_4, hfz17_4, hcz17_5, hfz17_5⟩ := b6_ BK728.out; obtain ⟨Ao18, co18, eo18⟩ := Kd.R_slice HO723.out; subst eo18; obtain ⟨Ao19, co19, eo19⟩ := Kd.R_slice HO726.out; subst eo19) | ((with_reducible refine gate_store (t := 25) (p := 12) rfl ?_); refine store_event (t := 25) (p := 12) (v := ?vo_w20) (w1 := ((((((w16.setCell ⟨gb728, 0, none⟩ (.string t717)).setCell ⟨gb728, 1, none⟩ (.string t718)).setCell ⟨gb728, 2, none⟩ (.string t719)).setCell ⟨gb728, 3, none⟩ (.int .i64 t720)).setCell ⟨gb728, 4, none⟩ (.slice Ao18 t721.length co18)).setCell ⟨gb728, 5, none⟩ (.slice Ao19 t724.length co19))) ?hg ?ho ?hn ?hr ?_; (case ho => rfl); (case hg => rfl); (case hn => rfl); (case hr => first | (go_simp; done) | (go_simp; rfl)); intro w20 hw; have n0_ : Aside0 (Kd.S k25 25 w20 w.heap.size (fun k_ => some k_ ≠ (.slice Ao18 t721.length co18 : Value).ownBlock ∧ some k_ ≠ (.slice Ao19 t724.length co19 : Value).ownBlock ∧ k_ ≠ gb728) u8 x8_1) := ⟨(by rw [hw]; exact (by (with_reducible repeat (first | apply Kd.S_alloc | apply Kd.S_drewN | apply Kd.S_drew)); exact Kd.S_mono (Kd.S_far (p := ⟨gb728, 5, none⟩) (Kd.S_far (p := ⟨gb728, 4, none⟩) (Kd.S_far (p := ⟨gb728, 3, none⟩) (Kd.S_far (p := ⟨gb728, 2, none⟩) (Kd.S_far (p := ⟨gb728, 1, none⟩) (Kd.S_far (p := ⟨gb728, 0, none⟩) (Kd.S_mono HO_8.out (fun k_ hk => (⟨hk, hk.2⟩ : _ ∧ k_ ≠ gb728))) (fun _ hk => hk.2) (.string t717)) (fun _ hk => hk.2) (.string t718)) (fun _ hk => hk.2) (.string t719)) (fun _ hk => hk.2) (.int .i64 t720)) (fun _ hk => hk.2) (.slice Ao18 t721.length co18)) (fun _ hk => hk.2) (.slice Ao19 t724.length co19)) (fun _ hk => ⟨hk.1.1.1.2, ⟨hk.1.1.2, hk.1.2⟩⟩)))⟩; have n1_ : Aside0 (Kd.R k62 62 w20 w.heap.size (fun _ => True) (.slice Ao18 t721.length co18) t721) := ⟨(by rw [hw]; exact (by (with_reducible repeat (first | apply Kd.R_alloc | apply Kd.R_drewN | apply Kd.R_drew)); exact Kd.R_mono (Kd.R_far (p := ⟨gb728, 5, none⟩) (Kd.R_far (p := ⟨gb728, 4, none⟩) (Kd.R_far (p := ⟨gb728, 3, none⟩) (Kd.R_far (p := ⟨gb728, 2, none⟩) (Kd.R_far (p := ⟨gb728, 1, none⟩) (Kd.R_far (p := ⟨gb728, 0, none⟩) (Kd.R_types HO723.out BK728.out (by decide)) (fun _ hk => hk.2) (.string t717)) (fun _ hk => hk.2) (.string t718)) (fun _ hk => hk.2) (.string t719)) (fun _ hk => hk.2) (.int .i64 t720)) (fun _ hk => hk.2) (.slice Ao18 t721.length co18)) (fun _ hk => hk.2) (.slice Ao19 t724.length co19)) (fun _ hk => trivial)))⟩; have n2_ : Aside0 (Kd.R k43 43 w20 w.heap.size (fun _ => True) (.slice Ao19 t724.length co19) t724) := ⟨(by rw [hw]; exact (by (with_reducible repeat (first | apply Kd.R_alloc | apply Kd.R_drewN | apply Kd.R_drew)); exact Kd.R_mono (Kd.R_far (p := ⟨gb728, 5, none⟩) (Kd.R_far (p := ⟨gb728, 4, none⟩) (Kd.R_far (p := ⟨gb728, 3, none⟩) (Kd.R_far (p := ⟨gb728, 2, none⟩) (Kd.R_far (p := ⟨gb728, 1, none⟩) (Kd.R_far (p := ⟨gb728, 0, none⟩) (Kd.R_types HO726.out BK728.out (by decide)) (fun _ hk => hk.2) (.string t717)) (fun _ hk => hk.2) (.string t718)) (fun _ hk => hk.2) (.string t719)) (fun _ hk => hk.2) (.int .i64 t720)) (fun _ hk => hk.2) (.slice Ao18 t721.length co18)) (fun _ hk => hk.2) (.slice Ao19 t724.length co19)) (fun _ hk => trivial)))⟩; have n3_ : Aside0 (w20.heap[gb728]? = some (.cells #[.string t717, .string t718, .string t719, .int .i64 t720, .slice Ao18 t721.length co18, .slice Ao19 t724.length co19] 25 (0, 0))) := ⟨(by rw [hw]; exact (by (with_reducible repeat (first | refine y0a ?_ _ | refine y09 ?_ | refine y06 ?_ _)); refine y0f (cs := #[.string t717, .string t718, .string t719, .int .i64 t720, .slice Ao18 t721.length co18, .slice none 0 0]) ?_ 5 _ rfl; (with_reducible repeat (first | refine y0a ?_ _ | refine y09 ?_ | refine y06 ?_ _)); refine y0f (cs := #[.string t717, .string t718, .string t719, .int .i64 t720, .slice none 0 0, .slice none 0 0]) ?_ 4 _ rfl; (with_reducible repeat (first | refine y0a ?_ _ | refine y09 ?_ | refine y06 ?_ _)); refine y0f (cs := #[.string t717, .string t718, .string t719, .int .i64 0, .slice none 0 0, .slice none 0 0]) ?_ 3 _ rfl; (with_reducible repeat (first | refine y0a ?_ _ | refine y09 ?_ | refine y06 ?_ _)); refine y0f (cs := #[.string t717, .string t718, .string (⟨#[]⟩ : ByteArray), .int .i64 0, .slice none 0 0, .slice none 0 0]) ?_ 2 _ rfl; (with_reducible repeat (first | refine y0a ?_ _ | refine y09 ?_ | refine y06 ?_ _)); refine y0f (cs := #[.string t717, .string (⟨#[]⟩ : ByteArray), .string (⟨#[]⟩ : ByteArray), .int .i64 0, .slice none 0 0, .slice none 0 0]) ?_ 1 _ rfl; (with_reducible repeat (first | refine y0a ?_ _ | refine y09 ?_ | refine y06 ?_ _)); refine y0f (cs := #[.string (⟨#[]⟩ : ByteArray), .string (⟨#[]⟩ : ByteArray), .string (⟨#[]⟩ : ByteArray), .int .i64 0, .slice none 0 0, .slice none 0 0]) ?_ 0 _ rfl; exact bk_ BK728.out))⟩; have n4_ : Aside0 (Below w.heap.size w w20) := ⟨(by rw [hw]; exact hb_)⟩; clear hw HO_8 HO723 HO726 BK728 HB; have HO_8 := n0_; have HO723 := n1_; have HO726 := n2_; have BK728 := n3_; have HB := n4_; clear n0_ n1_ n2_ n3_ n4_; obtain ⟨hcz21_0, hfz21_0, hcz21_1, hfz21_1, hcz21_2, hfz21_2, hcz21_3, hfz21_3, hcz21_4, hfz21_4, hcz21_5, hfz21_5⟩ := b6_ BK728.out) | ((with_reducible refine y0i (b := .append) (xs := #[.tmp 45, .tmp 47]) rfl ?_); (try (refine y0l (by rfl) ?_; dsimp only)); at_builtin; refine Kd.S_append k25 (w0 := w) w.heap.size rfl (.tmp 45) (.tmp 47) 46 25 (.agg #[(.string ⟨#[]⟩), (.string ⟨#[]⟩), (.string ⟨#[]⟩), (.int .i64 0), (.slice none 0 0), (.slice none 0 0)]) 104 rfl Try.underlying46 info25 rfl (by decide) (by omega) u8 x8_1 (⟨t717, t718, t719, t720, t721, t724⟩ : S25) [.string t717, .string t718, .string t719, .int .i64 t720, .slice Ao18 t721.length co18, .slice Ao19 t724.length co19] (fun k_ => k_ ≠ gb728) (fun k_ => some k_ = (.slice Ao18 t721.length co18 : Value).ownBlock ∨ some k_ = (.slice Ao19 t724.length co19 : Value).ownBlock) rfl rfl ?aP (fun k_ hk_ => hk_.elim (fun h_ => ((Kd.R_mono (ok' := fun k_ => ((fun k_ => k_ ≠ gb728)) k_ ∧ some k_ ≠ (u8 : Value).ownBlock) (Kd.R_types (Kd.R_apart' (HO723.out) (Kd.S_typed HO_8.out) (by decide)) BK728.out (by decide)) (fun k_ hk => ⟨hk.2, hk.1.2⟩))).1 k_ h_.symm) (fun h_ => ((Kd.R_mono (ok' := fun k_ => ((fun k_ => k_ ≠ gb728)) k_ ∧ some k_ ≠ (u8 : Value).ownBlock) (Kd.R_types (Kd.R_apart' (HO726.out) (Kd.S_typed HO_8.out) (by decide)) BK728.out (by decide)) (fun k_ hk => ⟨hk.2, hk.1.2⟩))).1 k_ h_.symm)) ?aF ?aO ?aB ?aS ?aL ?_; (case aP => exact k25_mkM _ _ _ (⟨t717, t718, t719, t720, t721, t724⟩ : S25) (Kd.R_mono (Kd.R_tight rfl (Kd.R_mono (ok' := fun k_ => ((fun k_ => k_ ≠ gb728)) k_ ∧ some k_ ≠ (u8 : Value).ownBlock) (Kd.R_types (Kd.R_apart' (HO723.out) (Kd.S_typed HO_8.out) (by decide)) BK728.out (by decide)) (fun k_ hk => ⟨hk.2, hk.1.2⟩))) (fun _ h_ => Or.inl h_)) (Kd.R_mono (Kd.R_tight rfl (Kd.R_mono (ok' := fun k_ => ((fun k_ => k_ ≠ gb728)) k_ ∧ some k_ ≠ (u8 : Value).ownBlock) (Kd.R_types (Kd.R_apart' (HO726.out) (Kd.S_typed HO_8.out) (by decide)) BK728.out (by decide)) (fun k_ hk => ⟨hk.2, hk.1.2⟩))) (fun _ h_ => Or.inr (h_)))); (case aB => exact hb_); (case aF => exact (fun k_ hk => Kd.freshB (bk_ BK728.out) k_ hk)); (case aO => exact (by (with_reducible repeat (first | apply Kd.S_alloc | apply Kd.S_drewN | apply Kd.S_drew)); exact Kd.S_mono HO_8.out (fun k_ hk => ⟨hk.2.2, fun e_ => e_.elim (fun h_ => hk.1 h_) (fun h_ => hk.2.1 h_)⟩))); (case aS => exact (y04 hb_)); (case aL => have := LMc14.out; omega); intro v730 w22 ho hb hg hat; rw [← Ny729.out] at ho; have n0_ := q_ (y0d (bk_ BK728.out) hg (Kd.S_away HO_8.out (fun _ hk => hk.2.2))); have n1_ := q_ (hb); have n2_ := q_ (ho); clear BK728 HB HO_8 HO723 HO726; have BK728 := n0_; have HB := n1_; have HO731 := n2_; clear n0_ n1_ n2_; clear ho hb hg hat))
     go_roundg kj5
     case measure => have := HK1.out; have := HJ5.out; omega
     case rel => exact ⟨(wrap64 (t715 + t714)), (y729), (wrap64 (x14_1 + 1)), cl_, cl_, H', ⟨by have := HK1.out; have := HJ5.out; omega⟩, ⟨by (with_reducible repeat (first | apply Kd.S_alloc | apply Kd.S_drewN | apply Kd.S_drew)); exact Kd.S_mono HO731.out (fun _ hk => trivial)⟩, ⟨hb_⟩⟩
end Go.Proofs.Ytenlmckahaniiaa.K
end
section
namespace Go.Proofs.Ytenlmckahaniiaa.K
open Go.RowKit Go.Proofs.YtenlmckahaniiaaW.PrintWords Go.Proofs.YtenlmckahaniiaaW.PrintLast
mutual
def zq16.j0 : Nat → ByteArray → Bool → Option ((List (S25)) × Int)
  | 0, _, _ => none
  | k + 1, x4, x25 => if x25 = true then (some (([] : List (S25)), 9)) else ((zq1p.f k x4 4 2).bind fun bt734 => (if bt734.2.2 = 0 then (zq16.j1 k x4 bt734.1 bt734.2.1 (decide (bt734.1 > 32))) else (zq16.j1 k x4 bt734.1 bt734.2.1 true)))
def zq16.j1 : Nat → ByteArray → Int → Int → Bool → Option ((List (S25)) × Int)
  | 0, _, _, _, _ => none
  | k + 1, x4, x6, x7, x37 => if x37 = true then (some (([] : List (S25)), 9)) else ((zq15.f k x4 x7 x6).bind fun bt737 => (if bt737.2 = true then ((zq1a.f k bt737.1).bind fun t741 => (if t741 = 0 then (some (bt737.1, 0)) else (some (([] : List (S25)), 9)))) else (some (([] : List (S25)), 9))))
end
def zq16.f (k : Nat) (a0 : ByteArray) : Option ((List (S25)) × Int) := (zq1n.f k a0).bind fun bt732 => (if bt732.2 = 0 then (if (bt732.1.size : Int) < 6 then (zq16.j0 k bt732.1 true) else (if 0 ≤ 4 then (if 4 ≤ (bt732.1.size : Int) then (zq16.j0 k bt732.1 ((bt732.1.extract 0 4).toList != ([76, 73, 66, 49] : List UInt8))) else (none)) else (none))) else (some (([] : List (S25)), bt732.2)))
theorem zq16.calls (k : Nat) (a0 : ByteArray) (r1 : List (S25)) (r2 : Int) (w : World) (h : zq16.f k a0 = some (r1, r2)) :
  Calls Try.prog 39 #[.string a0] w fun e w' => ∃ v0_ : Value, e = .returned (.tuple #[v0_, .int .i64 r2]) ∧ Kd.S k25 25 w' w.heap.size (fun _ => True) v0_ r1 ∧ Below w.heap.size w w' := by
 have HB := q_ (Below.refl w.heap.size w)
 have H : ((zq1n.f k a0).bind fun bt732 => (if bt732.2 = 0 then (if (bt732.1.size : Int) < 6 then (zq16.j0 k bt732.1 true) else (if 0 ≤ 4 then (if 4 ≤ (bt732.1.size : Int) then (zq16.j0 k bt732.1 ((bt732.1.extract 0 4).toList != ([76, 73, 66, 49] : List UInt8))) else (none)) else (none))) else (some (([] : List (S25)), bt732.2)))) = some (r1, r2) := h
 clear h
 replace H := Option.bind_eq_some_iff.mp H
 obtain ⟨⟨t732, t733⟩, A20, H⟩ := H
 (try dsimp only at H)
 have A2 := q_ A20
 clear A20
 by_cases c3 : t733 = 0
 rotate_left
 ·rw [if_neg c3] at H
  have c3b0 : (t733 == 0) = false := beq_eq_false_iff_ne.mpr c3
  have c3b1 : (t733 != 0) = true := bne_iff_ne.mpr c3
  simp only [Option.some.injEq, Prod.mk.injEq] at H
  obtain ⟨rfl, rfl⟩ := H
  go_enter Try.func39, Try.ntmps39
  go_wp2_with (first | ((with_reducible refine y0j (f := 61) rfl ?_); refine goesL_ (some 12) rfl rfl Try.func61 (by kernel_rfl) rfl #[.string a0] rfl ar_ ?_; (with_reducible refine (zq1n.calls k a0 t732 t733 _ A2.out).mono ?_); rintro e w25 ⟨rfl, hb⟩; refine ⟨_, rfl, ?_⟩; have n0_ := q_ (y05 hb_ hb); clear HB; have HB := n0_; clear n0_; clear hb))
  go_ret2
  exact ⟨_, ew_, by first | exact Kd.S_nil _ _ _ _ _ | exact Kd.N_nil _ _ _ _ _ | exact Kd.V_nil _ _ _ _ _ | exact Kd.Q_nil _ _ _ _ _ | exact Kd.R_nil _ _ _ _ _, hb_⟩
 rw [if_pos c3] at H
 have c3b0 : (t733 == 0) = true := beq_iff_eq.mpr c3
 have c3b1 : (t733 != 0) = false := bne_eq_false_iff_eq.mpr c3
 clear c3
 have HC4 := q_ H
 clear H
 go_enter Try.func39, Try.ntmps39
 go_upto_region 4 with (first | ((with_reducible refine y0j (f := 61) rfl ?_); refine goesL_ (some 12) rfl rfl Try.func61 (by kernel_rfl) rfl #[.string a0] rfl ar_ ?_; (with_reducible refine (zq1n.calls k a0 t732 t733 _ A2.out).mono ?_); rintro e w5 ⟨rfl, hb⟩; refine ⟨_, rfl, ?_⟩; have n0_ := q_ (y05 hb_ hb); clear HB; have HB := n0_; clear n0_; clear hb))
 (try simp only [Act.put, List.setIfInBounds_toArray, List.set_cons_zero, List.set_cons_succ])
 go_cut [25] (fun v25 wc => ∃ (kq : Nat) (x25_3 : Bool), v25 = .bool x25_3 ∧ Aside0 (zq16.j0 kq t732 x25_3 = some (r1, r2)) ∧ Aside0 (kq ≤ k) ∧ Aside0 (Below w.heap.size w wc))
 case first =>
  have H := HC4.out
  clear HC4
  by_cases c6 : (t732.size : Int) < 6
  ·rw [if_pos c6] at H
   have c6b0 : decide ((t732.size : Int) < 6) = true := decide_eq_true c6
   have c6b1 : decide (t732.size < 6) = true := decide_eq_true (by omega)
   clear c6
   (first | rw [c6b0] | (simp only [i64_w, i32_w]; rw [c6b0]) | skip)
   have H' := q_ H
   clear H
   go_wp2
   go_meet
   case rel => exact ⟨_, (true), cl_, H', ⟨by first | omega | exact Nat.le_refl _⟩, ⟨hb_⟩⟩
  rw [if_neg c6] at H
  have c6b0 : decide ((t732.size : Int) < 6) = false := decide_eq_false c6
  have c6b1 : decide (t732.size < 6) = false := decide_eq_false (by omega)
  clear c6
  (first | rw [c6b0] | (simp only [i64_w, i32_w]; rw [c6b0]) | skip)
  by_cases c7 : 0 ≤ 4
  rotate_left
  ·rw [if_neg c7] at H
   exact absurd H (by simp)
  rw [if_pos c7] at H
  have c7b0 := eq_true c7
  have c7b1 : decide (0 ≤ 4) = true := decide_eq_true c7
  clear c7
  by_cases c8 : 4 ≤ (t732.size : Int)
  rotate_left
  ·rw [if_neg c8] at H
   exact absurd H (by simp)
  rw [if_pos c8] at H
  have c8b0 := eq_true c8
  have c8b1 : decide (4 ≤ (t732.size : Int)) = true := decide_eq_true c8
  clear c8
  have H' := q_ H
  clear H
  go_wp2
  go_meet
  case rel => exact ⟨_, (((t732.extract 0 4).toList != ([76, 73, 66, 49] : List UInt8))), cl_, H', ⟨by first | omega | exact Nat.le_refl _⟩, ⟨hb_⟩⟩
 case rest =>
  clear HC4
  clear c3b0; clear c3b1
  obtain ⟨kq, x25_3, rfl, HA, HJ3, HB⟩ := hcut
  cases kq with
  | zero => exact absurd HA.out (by simp [zq16.j0])
  | succ kj3 =>
   have H := HA.out
   clear HA
   simp only [zq16.j0] at H
   by_cases c9 : x25_3 = true
   ·subst c9
    rw [if_pos rfl] at H
    simp only [Option.some.injEq, Prod.mk.injEq] at H
    obtain ⟨rfl, rfl⟩ := H
    go_wp2
    go_ret2
    exact ⟨_, ew_, by first | exact Kd.S_nil _ _ _ _ _ | exact Kd.N_nil _ _ _ _ _ | exact Kd.V_nil _ _ _ _ _ | exact Kd.Q_nil _ _ _ _ _ | exact Kd.R_nil _ _ _ _ _, hb_⟩
   replace c9 := Bool.eq_false_iff.mpr c9
   subst c9
   rw [if_neg (show ¬ (false = true) by decide)] at H
   replace H := Option.bind_eq_some_iff.mp H
   obtain ⟨⟨t734, t735, t736⟩, A100, H⟩ := H
   (try dsimp only at H)
   have A10 := q_ A100
   clear A100
   have HC11 := q_ H
   clear H
   go_upto_region 7 with (first | ((with_reducible refine y0j (f := 80) rfl ?_); refine goesL_ (some 28) rfl rfl Try.func80 (by kernel_rfl) rfl #[.string t732, .int .i64 4, .int .i64 2] rfl ar_ ?_; (with_reducible refine (zq1p.calls kj3 t732 4 2 t734 t735 t736 _ A10.out).mono ?_); rintro e w' ⟨rfl, ⟨nd, rfl⟩⟩; refine ⟨_, rfl, ?_⟩))
   (try simp only [Act.put, List.setIfInBounds_toArray, List.set_cons_zero, List.set_cons_succ])
   go_cut [37] (fun v37 wc => ∃ (kq : Nat) (x37_10 : Bool), v37 = .bool x37_10 ∧ Aside0 (zq16.j1 kq t732 t734 t735 x37_10 = some (r1, r2)) ∧ Aside0 (kq ≤ kj3) ∧ Aside0 (Below w.heap.size w wc))
   case first =>
    have H := HC11.out
    clear HC11
    by_cases c12 : t736 = 0
    rotate_left
    ·rw [if_neg c12] at H
     have c12b0 : (t736 == 0) = false := beq_eq_false_iff_ne.mpr c12
     have c12b1 : (t736 != 0) = true := bne_iff_ne.mpr c12
     (first | rw [c12b0] | (simp only [i64_w, i32_w]; rw [c12b0]) | skip)
     have H' := q_ H
     clear H
     go_wp2
     go_meet
     case rel => exact ⟨_, (true), cl_, H', ⟨by have := HJ3.out; first | omega | exact Nat.le_refl _⟩, ⟨hb_⟩⟩
    rw [if_pos c12] at H
    have c12b0 : (t736 == 0) = true := beq_iff_eq.mpr c12
    have c12b1 : (t736 != 0) = false := bne_eq_false_iff_eq.mpr c12
    clear c12
    (first | rw [c12b0] | (simp only [i64_w, i32_w]; rw [c12b0]) | skip)
    have H' := q_ H
    clear H
    go_wp2
    go_meet
    case rel => exact ⟨_, (decide (t734 > 32)), cl_, H', ⟨by have := HJ3.out; first | omega | exact Nat.le_refl _⟩, ⟨hb_⟩⟩
   case rest =>
    clear HC11
    obtain ⟨kq, x37_10, rfl, HA, HJ10, HB⟩ := hcut
    cases kq with
    | zero => exact absurd HA.out (by simp [zq16.j1])
    | succ kj10 =>
     have H := HA.out
     clear HA
     simp only [zq16.j1] at H
     by_cases c13 : x37_10 = true
     ·subst c13
      rw [if_pos rfl] at H
      simp only [Option.some.injEq, Prod.mk.injEq] at H
      obtain ⟨rfl, rfl⟩ := H
      go_wp2
      go_ret2
      exact ⟨_, ew_, by first | exact Kd.S_nil _ _ _ _ _ | exact Kd.N_nil _ _ _ _ _ | exact Kd.V_nil _ _ _ _ _ | exact Kd.Q_nil _ _ _ _ _ | exact Kd.R_nil _ _ _ _ _, hb_⟩
     replace c13 := Bool.eq_false_iff.mpr c13
     subst c13
     rw [if_neg (show ¬ (false = true) by decide)] at H
     replace H := Option.bind_eq_some_iff.mp H
     obtain ⟨⟨t737, t738⟩, A140, H⟩ := H
     (try dsimp only at H)
     have A14 := q_ A140
     clear A140
     by_cases c15 : t738 = true
     rotate_left
     ·replace c15 := Bool.eq_false_iff.mpr c15
      subst c15
      rw [if_neg (show ¬ (false = true) by decide)] at H
      simp only [Option.some.injEq, Prod.mk.injEq] at H
      obtain ⟨rfl, rfl⟩ := H
      go_wp2_with (first | ((with_reducible refine y0j (f := 81) rfl ?_); refine goesL_ (some 42) rfl rfl Try.func81 (by kernel_rfl) rfl #[.string t732, .int .i64 t735, .int .i64 t734] rfl ar_ ?_; (with_reducible refine (zq15.calls kj10 t732 t735 t734 t737 false _ A14.out).mono ?_); rintro e w24 ⟨v739, rfl, ho0, hb⟩; refine ⟨_, rfl, ?_⟩; have n0_ := q_ (Kd.S_lower ho0 (y04 hb_)); have n1_ := q_ (y05 hb_ hb); clear HB; have HO740 := n0_; have HB := n1_; clear n0_ n1_; clear hb; clear ho0))
      go_ret2
      exact ⟨_, ew_, by first | exact Kd.S_nil _ _ _ _ _ | exact Kd.N_nil _ _ _ _ _ | exact Kd.V_nil _ _ _ _ _ | exact Kd.Q_nil _ _ _ _ _ | exact Kd.R_nil _ _ _ _ _, hb_⟩
     subst c15
     rw [if_pos rfl] at H
     replace H := Option.bind_eq_some_iff.mp H
     obtain ⟨t741, A160, H⟩ := H
     (try dsimp only at H)
     have A16 := q_ A160
     clear A160
     by_cases c17 : t741 = 0
     rotate_left
     ·rw [if_neg c17] at H
      have c17b0 : (t741 == 0) = false := beq_eq_false_iff_ne.mpr c17
      have c17b1 : (t741 != 0) = true := bne_iff_ne.mpr c17
      simp only [Option.some.injEq, Prod.mk.injEq] at H
      obtain ⟨rfl, rfl⟩ := H
      go_wp2_with (first | ((with_reducible refine y0j (f := 81) rfl ?_); refine goesL_ (some 42) rfl rfl Try.func81 (by kernel_rfl) rfl #[.string t732, .int .i64 t735, .int .i64 t734] rfl ar_ ?_; (with_reducible refine (zq15.calls kj10 t732 t735 t734 t737 true _ A14.out).mono ?_); rintro e w21 ⟨v739, rfl, ho0, hb⟩; refine ⟨_, rfl, ?_⟩; have n0_ := q_ (Kd.S_lower ho0 (y04 hb_)); have n1_ := q_ (y05 hb_ hb); clear HB; have HO740 := n0_; have HB := n1_; clear n0_ n1_; clear hb; clear ho0; obtain ⟨Ao22, co22, eo22⟩ := Kd.S_slice HO740.out; subst eo22) | (go_at_call 34; (with_reducible refine (zq1a.calls kj10 _ _ t737 t741 _ ?side1 ?side2 A16.out).mono ?_); (case side1 => exact ck_ (Kd.S_reads' HO740.out).2.2); (case side2 => exact (Kd.S_reads' HO740.out).2.1); rintro e w23 ⟨rfl, hb⟩; have n0_ := q_ (Kd.S_below (by (with_reducible repeat (first | apply Kd.S_alloc | apply Kd.S_drewN | apply Kd.S_drew)); exact HO740.out) hb); have n1_ := q_ (y05 hb_ hb); clear HO740 HB; have HO740 := n0_; have HB := n1_; clear n0_ n1_; clear hb))
      go_ret2
      exact ⟨_, ew_, by first | exact Kd.S_nil _ _ _ _ _ | exact Kd.N_nil _ _ _ _ _ | exact Kd.V_nil _ _ _ _ _ | exact Kd.Q_nil _ _ _ _ _ | exact Kd.R_nil _ _ _ _ _, hb_⟩
     rw [if_pos c17] at H
     have c17b0 : (t741 == 0) = true := beq_iff_eq.mpr c17
     have c17b1 : (t741 != 0) = false := bne_eq_false_iff_eq.mpr c17
     clear c17
     simp only [Option.some.injEq, Prod.mk.injEq] at H
     obtain ⟨rfl, rfl⟩ := H
     go_wp2_with (first | ((with_reducible refine y0j (f := 81) rfl ?_); refine goesL_ (some 42) rfl rfl Try.func81 (by kernel_rfl) rfl #[.string t732, .int .i64 t735, .int .i64 t734] rfl ar_ ?_; (with_reducible refine (zq15.calls kj10 t732 t735 t734 t737 true _ A14.out).mono ?_); rintro e w18 ⟨v739, rfl, ho0, hb⟩; refine ⟨_, rfl, ?_⟩; have n0_ := q_ (Kd.S_lower ho0 (y04 hb_)); have n1_ := q_ (y05 hb_ hb); clear HB; have HO740 := n0_; have HB := n1_; clear n0_ n1_; clear hb; clear ho0; obtain ⟨Ao19, co19, eo19⟩ := Kd.S_slice HO740.out; subst eo19) | (go_at_call 34; (with_reducible refine (zq1a.calls kj10 _ _ t737 t741 _ ?side1 ?side2 A16.out).mono ?_); (case side1 => exact ck_ (Kd.S_reads' HO740.out).2.2); (case side2 => exact (Kd.S_reads' HO740.out).2.1); rintro e w20 ⟨rfl, hb⟩; have n0_ := q_ (Kd.S_below (by (with_reducible repeat (first | apply Kd.S_alloc | apply Kd.S_drewN | apply Kd.S_drew)); exact HO740.out) hb); have n1_ := q_ (y05 hb_ hb); clear HO740 HB; have HO740 := n0_; have HB := n1_; clear n0_ n1_; clear hb))
     go_ret2
     exact ⟨_, ew_, by (with_reducible repeat (first | apply Kd.S_alloc | apply Kd.S_drewN | apply Kd.S_drew)); exact HO740.out, hb_⟩
end Go.Proofs.Ytenlmckahaniiaa.K
end
section
namespace Go.Proofs.Ytenlmckahaniiaa.K
open Go.RowKit Go.Proofs.YtenlmckahaniiaaW.PrintWords Go.Proofs.YtenlmckahaniiaaW.PrintLast
theorem eqA43 (d : Nat) (w : World) (x0 y0 : Int) (x1 y1 : Int) (x2 y2 : Int) (x3 y3 : ByteArray) (x4 y4 : Bool) :
    (Op.equalIn (d + 2) 43 (.agg #[.int .i64 x0, .int .i64 x1, .int .i64 x2, .string x3, .bool x4]) (.agg #[.int .i64 y0, .int .i64 y1, .int .i64 y2, .string y3, .bool y4])).run Try.prog w = .ok (x0 == y0 && (x1 == y1 && (x2 == y2 && (x3.toList == y3.toList && (x4 == y4))))) w := by
  refine eqA_of Try.underlying43 (by kernel_rfl) ?_
  refine eqf_cons (by rfl) (by go_simp; rfl) (by go_simp; rfl) (by go_simp) ?_
  refine eqf_cons (by rfl) (by go_simp; rfl) (by go_simp; rfl) (by go_simp) ?_
  refine eqf_cons (by rfl) (by go_simp; rfl) (by go_simp; rfl) (by go_simp) ?_
  refine eqf_cons (by rfl) (by go_simp; rfl) (by go_simp; rfl) (by go_simp) ?_
  exact eqf_last (by rfl) (by go_simp; rfl) (by go_simp; rfl) (by go_simp)
end Go.Proofs.Ytenlmckahaniiaa.K
end
section
namespace Go.Proofs.Ytenlmckahaniiaa.K
open Go.RowKit Go.Proofs.YtenlmckahaniiaaW.PrintWords Go.Proofs.YtenlmckahaniiaaW.PrintLast
theorem eqA62 (d : Nat) (w : World) (x0 y0 : ByteArray) (x1 y1 : Int) (x2 y2 : Int) (x3 y3 : Bool) :
    (Op.equalIn (d + 2) 62 (.agg #[.string x0, .int .i64 x1, .int .i64 x2, .bool x3]) (.agg #[.string y0, .int .i64 y1, .int .i64 y2, .bool y3])).run Try.prog w = .ok (x0.toList == y0.toList && (x1 == y1 && (x2 == y2 && (x3 == y3)))) w := by
  refine eqA_of Try.underlying62 (by kernel_rfl) ?_
  refine eqf_cons (by rfl) (by go_simp; rfl) (by go_simp; rfl) (by go_simp) ?_
  refine eqf_cons (by rfl) (by go_simp; rfl) (by go_simp; rfl) (by go_simp) ?_
  refine eqf_cons (by rfl) (by go_simp; rfl) (by go_simp; rfl) (by go_simp) ?_
  exact eqf_last (by rfl) (by go_simp; rfl) (by go_simp; rfl) (by go_simp)
end Go.Proofs.Ytenlmckahaniiaa.K
end
