/- Lemmas for the law LibrarySelects: what its proof needs beyond what it shares. -/
import Derived.Test.YtenlmckahaniiaaZLibrarySelects2
import Derived.Test.YtenlmckahaniiaaZcLc20
set_option linter.unusedVariables false
set_option linter.unusedSimpArgs false
set_option linter.unusedSectionVars false
set_option maxHeartbeats 8000000
set_option maxRecDepth 100000
section
namespace Go.Proofs.Ytenlmckahaniiaa.K
open Go.RowKit Go.Proofs.YtenlmckahaniiaaW.PrintWords Go.Proofs.YtenlmckahaniiaaW.PrintLast
def zqd.l0 : Nat → List (S25) → List (S25) → List Int → Int → Option (List Int)
  | 0, _, _, _, _ => none
  | k + 1, x0, x5, x6, x7 => if x7 ≤ (x0.length : Int) then ((zqm.f k x0 x5).bind fun bt980 => (if bt980.2 = true then ((zqt.f k x0 bt980.1).bind fun bt982 => (if x6.length < 17592186044416 then (if 0 ≤ bt982.1 then (if bt982.1 < (x0.length : Int) then (if x5.length < 1353245080339 then (zqd.l0 k x0 (x5 ++ [(⟨(y0q x0 bt982.1).f0, (y0q x0 bt982.1).f1, (y0q x0 bt982.1).f2, (y0q x0 bt982.1).f3, (y0q x0 bt982.1).f4, (y0q x0 bt982.1).f5⟩ : S25)]) (x6 ++ [bt982.1]) (wrap64 (x7 + 1))) else (none)) else (none)) else (none)) else (none))) else (some x6))) else (some x6)
def zqd.f (k : Nat) (l0 : List (S25)) (l1 : List (S25)) : Option (List Int) := (some (([] : List (S25)) : List (S25))).bind fun y974 => (if y974.length + l1.length < 1353245080339 then (zqd.l0 k l0 (y974 ++ l1) ([] : List Int) 0) else (none))
theorem zqd.calls (k : Nat) (P0_ : Nat → Prop) (A0 : Option Addr) (c0 : Nat) (l0 : List (S25)) (P1_ : Nat → Prop) (A1 : Option Addr) (c1 : Nat) (l1 : List (S25)) (r : List Int) (w : World) (hs0 : Kd.V k25 25 w w.heap.size (fun k_ => P0_ k_) (.slice A0 l0.length c0) l0) (hs1 : Kd.V k25 25 w w.heap.size (fun k_ => P1_ k_) (.slice A1 l1.length c1) l1) (h : zqd.f k l0 l1 = some r) :
  Calls Try.prog 44 #[.slice A0 l0.length c0, .slice A1 l1.length c1] w fun e w' => ∃ v0_ : Value, e = .returned (v0_) ∧ Kd.R (Kd.int .i64) 3 w' w.heap.size (fun k_ => (w.heap.size ≤ k_)) v0_ r ∧ Below w.heap.size w w' := by
 have hu25 := Try.underlying25
 have HO0 := q_ (show Kd.V k25 25 w w.heap.size (fun k_ => ((P0_ k_ ∨ P1_ k_) ∨ w.heap.size ≤ k_)) (.slice A0 l0.length c0) l0 from Kd.V_mono hs0 (fun k_ hk => .inl (.inl hk)))
 have HO1 := q_ (show Kd.V k25 25 w w.heap.size (fun k_ => ((P0_ k_ ∨ P1_ k_) ∨ w.heap.size ≤ k_)) (.slice A1 l1.length c1) l1 from Kd.V_mono hs1 (fun k_ hk => .inl (.inr hk)))
 have HB := q_ (Below.refl w.heap.size w)
 have H : ((some (([] : List (S25)) : List (S25))).bind fun y974 => (if y974.length + l1.length < 1353245080339 then (zqd.l0 k l0 (y974 ++ l1) ([] : List Int) 0) else (none))) = some r := h
 clear h
 obtain ⟨y974, hy974⟩ : ∃ y_ : List (S25), y_ = (([] : List (S25))) := ⟨_, rfl⟩
 replace H : (if y974.length + l1.length < 1353245080339 then (zqd.l0 k l0 (y974 ++ l1) ([] : List Int) 0) else (none)) = some r := by first | (rw [hy974]; with_reducible exact H) | (have H2_ := (Option.bind_some _ _).symm.trans H; rw [hy974]; with_reducible exact H2_) | (have H2_ := (Option.bind_some _ _).symm.trans H; with_reducible exact H2_) | with_reducible exact H | (rw [hy974]; exact H) | exact H
 have Ny974 := q_ hy974
 clear hy974
 by_cases c3 : y974.length + l1.length < 1353245080339
 rotate_left
 ·rw [if_neg c3] at H
  exact absurd H (by simp)
 rw [if_pos c3] at H
 have LMc3 := q_ c3
 clear c3
 obtain ⟨y977, hy977⟩ : ∃ y_ : List (S25), y_ = (y974 ++ l1) := ⟨_, rfl⟩
 replace H : (zqd.l0 k l0 y977 ([] : List Int) 0) = some r := by first | (rw [hy977]; with_reducible exact H) | (have H2_ := (Option.bind_some _ _).symm.trans H; rw [hy977]; with_reducible exact H2_) | (have H2_ := (Option.bind_some _ _).symm.trans H; with_reducible exact H2_) | with_reducible exact H | (rw [hy977]; exact H) | exact H
 have Ny977 := q_ hy977
 clear hy977
 have H' := q_ H
 clear H
 go_enter Try.func44, Try.ntmps44
 go_wp2_with (first | ((with_reducible refine y0k (N := 12) rfl ?_); refine Kd.N_lit k25 _ 25 ?hg (N' := 12) ?hd (xs := ([] : List (S25))) (inner := []) (ok := (fun k_ => ((P0_ k_ ∨ P1_ k_) ∨ w.heap.size ≤ k_))) (okp := (fun k_ => ((P0_ k_ ∨ P1_ k_) ∨ w.heap.size ≤ k_))) ?hr ?hp (fun _ hk => hk) ((show ∀ k_, w.heap.size ≤ k_ → (fun k_ => ((P0_ k_ ∨ P1_ k_) ∨ w.heap.size ≤ k_)) k_ from fun k_ hk => (.inr (Nat.le_trans (y04 hb_) hk))) _ (Nat.le_refl _)) (Below.refl _ _) (Nat.le_refl _) (by simp) ?_; (case hd => rfl); (case hg => rfl); (case hr => first | (go_simp; done) | (go_simp; rfl)); (case hp => exact (Reps.none _ _)); intro v975 w4 ho5 hb hg_ hnew_; clear hg_ hnew_; (first | rw [← Ny974.out] at ho5 | (simp only [Int.reduceToNat] at ho5; rw [← Ny974.out] at ho5)); have n0_ := q_ (Kd.V_elder' (vk_ HO0.out) (Kd.N_base ho5) hb); have n1_ := q_ (Kd.V_elder' (vk_ HO1.out) (Kd.N_base ho5) hb); have n2_ := q_ (Kd.N_lower ho5 (y04 hb_)); have n3_ := q_ (y05 hb_ hb); clear HO0 HO1 HB; have HO0 := n0_; have HO1 := n1_; have HO976 := n2_; have HB := n3_; clear n0_ n1_ n2_ n3_; clear hb ho5) | ((with_reducible refine y0i (b := .append) (xs := #[.tmp 12, .tmp 13]) rfl ?_); at_builtin; refine Kd.N_append_rows k25 (w0 := w) w.heap.size rfl (.tmp 12) (.tmp 13) 46 25 (.agg #[(.string ⟨#[]⟩), (.string ⟨#[]⟩), (.string ⟨#[]⟩), (.int .i64 0), (.slice none 0 0), (.slice none 0 0)]) 104 rfl Try.underlying46 info25 rfl (by decide) (by omega) v975 y974 l1 _ _ _ (fun k_ => ((P0_ k_ ∨ P1_ k_) ∨ w.heap.size ≤ k_)) (fun k_ => ((fun k_ => ((P0_ k_ ∨ P1_ k_) ∨ w.heap.size ≤ k_))) k_ ∧ some k_ ≠ (v975 : Value).ownBlock) rfl rfl ?aO ?aR (fun _ hk => hk) ?aF ?aB ?aS ?aL ?_; (case aR => exact (by skip; exact Kd.V_F (Kd.V_mono (ok' := (fun k_ => ((fun k_ => ((P0_ k_ ∨ P1_ k_) ∨ w.heap.size ≤ k_))) k_ ∧ some k_ ≠ (v975 : Value).ownBlock)) (HO1.out) (fun k_ hk => ⟨hk.1, hk.2⟩)))); (case aB => exact hb_); (case aF => exact (fun k_ hk => (.inr (Nat.le_trans (y04 hb_) hk)))); (case aO => exact (nk_ HO976.out)); (case aS => exact (y04 hb_)); (case aL => have := LMc3.out; omega); intro v978 w6 ho hb hg hat; rw [← Ny977.out] at ho; have n0_ := q_ (Kd.V_afterv (ok := (fun k_ => ((P0_ k_ ∨ P1_ k_) ∨ w.heap.size ≤ k_))) (vk_ HO0.out) hg hat); have n1_ := q_ (Kd.V_afterv (ok := (fun k_ => ((P0_ k_ ∨ P1_ k_) ∨ w.heap.size ≤ k_))) (vk_ HO1.out) hg hat); have n2_ := q_ (hb); have n3_ := q_ (ho); clear HO0 HO1 HB HO976; have HO0 := n0_; have HO1 := n1_; have HB := n2_; have HO979 := n3_; clear n0_ n1_ n2_ n3_; clear ho hb hg hat))
 go_loopg [5, 6, 7] k (fun kq v5 v6 v7 w' => ∃ (x5_1 : List (S25)) (x6_1 : List Int) (x7_1 : Int), v7 = .int .i64 x7_1 ∧ Aside0 (zqd.l0 kq l0 x5_1 x6_1 x7_1 = some r) ∧ Aside0 (kq ≤ k) ∧ Aside0 (Kd.V k25 25 w' w.heap.size (fun k_ => ((P0_ k_ ∨ P1_ k_) ∨ w.heap.size ≤ k_) ∧ some k_ ≠ (v5 : Value).ownBlock ∧ some k_ ≠ (v6 : Value).ownBlock) (.slice A0 l0.length c0) l0) ∧ Aside0 (Kd.N k25 25 w' w.heap.size (fun k_ => ((P0_ k_ ∨ P1_ k_) ∨ w.heap.size ≤ k_) ∧ some k_ ≠ (v6 : Value).ownBlock) v5 x5_1) ∧ Aside0 (Kd.R (Kd.int .i64) 3 w' w.heap.size (fun k_ => (w.heap.size ≤ k_)) v6 x6_1) ∧ Aside0 (Below w.heap.size w w'))
 case atStart => exact ⟨(y977), (([] : List Int)), (0), cl_, H', ⟨Nat.le_refl _⟩, ⟨by (with_reducible repeat (first | apply Kd.V_alloc | apply Kd.V_drewN | apply Kd.V_drew)); exact Kd.V_mono HO0.out (fun _ hk => ⟨hk.1, ⟨hk.2, (by simp [Value.ownBlock])⟩⟩)⟩, ⟨by (with_reducible repeat (first | apply Kd.N_alloc | apply Kd.N_drewN | apply Kd.N_drew)); exact Kd.N_mono HO979.out (fun _ hk => ⟨hk, (by simp [Value.ownBlock])⟩)⟩, ⟨by first | exact Kd.R_nil _ _ _ _ _ | exact Kd.N_nil _ _ _ _ _ | exact Kd.V_nil _ _ _ _ _ | exact Kd.Q_nil _ _ _ _ _ | exact Kd.S_nil _ _ _ _ _⟩, ⟨hb_⟩⟩
 case round =>
  clear H'
  (try clear c1); (try clear p2); (try clear c3); (try clear c4)
  obtain ⟨x5_1, x6_1, x7_1, rfl, HA, HK1, HO_0, HO_5, HO_6, HB⟩ := hrel
  cases gk with
  | zero => exact absurd HA.out (by simp [zqd.l0])
  | succ k1 =>
   have H := HA.out
   clear HA
   simp only [zqd.l0] at H
   by_cases c7 : x7_1 ≤ (l0.length : Int)
   rotate_left
   ·rw [if_neg c7] at H
    have c7b0 : decide (x7_1 ≤ (l0.length : Int)) = false := decide_eq_false c7
    clear c7
    obtain rfl := Option.some.inj H
    go_wp2
    go_ret
    exact ⟨_, ew_, rk_ HO_6.out, hb_⟩
   rw [if_pos c7] at H
   have c7b0 : decide (x7_1 ≤ (l0.length : Int)) = true := decide_eq_true c7
   clear c7
   replace H := Option.bind_eq_some_iff.mp H
   obtain ⟨⟨t980, t981⟩, A80, H⟩ := H
   (try dsimp only at H)
   have A8 := q_ A80
   clear A80
   by_cases c9 : t981 = true
   rotate_left
   ·replace c9 := Bool.eq_false_iff.mpr c9
    subst c9
    rw [if_neg (show ¬ (false = true) by decide)] at H
    obtain rfl := Option.some.inj H
    obtain ⟨Ao20, co20, eo20⟩ := Kd.N_slice HO_5.out
    subst eo20
    go_wp2_with (first | ((with_reducible refine y0j (f := 85) rfl ?_); refine goesL_ (some 24) rfl rfl Try.func85 (by kernel_rfl) rfl #[.slice A0 l0.length c0, .slice Ao20 x5_1.length co20] rfl ar_ ?_; (with_reducible refine (zqm.calls k1 _ _ l0 _ _ x5_1 t980 false _ ?side1 ?side2 ?side3 ?side4 A8.out).mono ?_); (case side1 => exact ck_ (Kd.V_reads' HO_0.out).2.2); (case side2 => exact (Kd.V_reads' HO_0.out).2.1); (case side3 => exact ck_ (Kd.N_reads' HO_5.out).2.2); (case side4 => exact (Kd.N_reads' HO_5.out).2.1); rintro e w21 ⟨rfl, hb⟩; refine ⟨_, rfl, ?_⟩; have n0_ := q_ (Kd.V_below (vk_ HO_0.out) hb); have n1_ := q_ (Kd.N_below (nk_ HO_5.out) hb); have n2_ := q_ (Kd.R_below (rk_ HO_6.out) hb); have n3_ := q_ (y05 hb_ hb); clear HO_0 HO_5 HO_6 HB; have HO_0 := n0_; have HO_5 := n1_; have HO_6 := n2_; have HB := n3_; clear n0_ n1_ n2_ n3_; (try clear hb); (try clear hb2); (try clear hk); (try clear hi)))
    go_ret
    exact ⟨_, ew_, rk_ HO_6.out, hb_⟩
   subst c9
   rw [if_pos rfl] at H
   replace H := Option.bind_eq_some_iff.mp H
   obtain ⟨⟨t982, t983⟩, A100, H⟩ := H
   (try dsimp only at H)
   have A10 := q_ A100
   clear A100
   by_cases c11 : x6_1.length < 17592186044416
   rotate_left
   ·rw [if_neg c11] at H
    exact absurd H (by simp)
   rw [if_pos c11] at H
   have LMc11 := q_ c11
   clear c11
   obtain ⟨y984, hy984⟩ : ∃ y_ : List Int, y_ = (x6_1 ++ [t982]) := ⟨_, rfl⟩
   replace H : (if 0 ≤ t982 then (if t982 < (l0.length : Int) then (if x5_1.length < 1353245080339 then (zqd.l0 k1 l0 (x5_1 ++ [(⟨(y0q l0 t982).f0, (y0q l0 t982).f1, (y0q l0 t982).f2, (y0q l0 t982).f3, (y0q l0 t982).f4, (y0q l0 t982).f5⟩ : S25)]) y984 (wrap64 (x7_1 + 1))) else (none)) else (none)) else (none)) = some r := by first | (rw [hy984]; with_reducible exact H) | (have H2_ := (Option.bind_some _ _).symm.trans H; rw [hy984]; with_reducible exact H2_) | (have H2_ := (Option.bind_some _ _).symm.trans H; with_reducible exact H2_) | with_reducible exact H | (rw [hy984]; exact H) | exact H
   have Ny984 := q_ hy984
   clear hy984
   by_cases c12 : 0 ≤ t982
   rotate_left
   ·rw [if_neg c12] at H
    exact absurd H (by simp)
   rw [if_pos c12] at H
   have c12b0 : decide (0 ≤ t982) = true := decide_eq_true c12
   clear c12
   by_cases c13 : t982 < (l0.length : Int)
   rotate_left
   ·rw [if_neg c13] at H
    exact absurd H (by simp)
   rw [if_pos c13] at H
   have c13b0 : decide (t982 < (l0.length : Int)) = true := decide_eq_true c13
   clear c13
   by_cases c14 : x5_1.length < 1353245080339
   rotate_left
   ·rw [if_neg c14] at H
    exact absurd H (by simp)
   rw [if_pos c14] at H
   have LMc14 := q_ c14
   clear c14
   obtain ⟨y988, hy988⟩ : ∃ y_ : List (S25), y_ = (x5_1 ++ [(⟨(y0q l0 t982).f0, (y0q l0 t982).f1, (y0q l0 t982).f2, (y0q l0 t982).f3, (y0q l0 t982).f4, (y0q l0 t982).f5⟩ : S25)]) := ⟨_, rfl⟩
   replace H : (zqd.l0 k1 l0 y988 y984 (wrap64 (x7_1 + 1))) = some r := by first | (rw [hy988]; with_reducible exact H) | (have H2_ := (Option.bind_some _ _).symm.trans H; rw [hy988]; with_reducible exact H2_) | (have H2_ := (Option.bind_some _ _).symm.trans H; with_reducible exact H2_) | with_reducible exact H | (rw [hy988]; exact H) | exact H
   have Ny988 := q_ hy988
   clear hy988
   have H' := q_ H
   clear H
   obtain ⟨Ao15, co15, eo15⟩ := Kd.N_slice HO_5.out
   subst eo15
   go_wp2_with (first | ((with_reducible refine y0j (f := 85) rfl ?_); refine goesL_ (some 24) rfl rfl Try.func85 (by kernel_rfl) rfl #[.slice A0 l0.length c0, .slice Ao15 x5_1.length co15] rfl ar_ ?_; (with_reducible refine (zqm.calls k1 _ _ l0 _ _ x5_1 t980 true _ ?side1 ?side2 ?side3 ?side4 A8.out).mono ?_); (case side1 => exact ck_ (Kd.V_reads' HO_0.out).2.2); (case side2 => exact (Kd.V_reads' HO_0.out).2.1); (case side3 => exact ck_ (Kd.N_reads' HO_5.out).2.2); (case side4 => exact (Kd.N_reads' HO_5.out).2.1); rintro e w16 ⟨rfl, hb⟩; refine ⟨_, rfl, ?_⟩; have n0_ := q_ (Kd.V_below (vk_ HO_0.out) hb); have n1_ := q_ (Kd.N_below (nk_ HO_5.out) hb); have n2_ := q_ (Kd.R_below (rk_ HO_6.out) hb); have n3_ := q_ (y05 hb_ hb); clear HO_0 HO_5 HO_6 HB; have HO_0 := n0_; have HO_5 := n1_; have HO_6 := n2_; have HB := n3_; clear n0_ n1_ n2_ n3_; (try clear hb); (try clear hb2); (try clear hk); (try clear hi)) | ((with_reducible refine y0j (f := 33) rfl ?_); refine goesL_ (some 33) rfl rfl Try.func33 (by kernel_rfl) rfl #[.slice A0 l0.length c0, .string t980] rfl ar_ ?_; (with_reducible refine (zqt.calls k1 _ _ l0 t980 t982 t983 _ ?side1 ?side2 A10.out).mono ?_); (case side1 => exact ck_ (Kd.V_reads' HO_0.out).2.2); (case side2 => exact (Kd.V_reads' HO_0.out).2.1); rintro e w17 ⟨rfl, hb⟩; refine ⟨_, rfl, ?_⟩; have n0_ := q_ (Kd.V_below (vk_ HO_0.out) hb); have n1_ := q_ (Kd.N_below (nk_ HO_5.out) hb); have n2_ := q_ (Kd.R_below (rk_ HO_6.out) hb); have n3_ := q_ (y05 hb_ hb); clear HO_0 HO_5 HO_6 HB; have HO_0 := n0_; have HO_5 := n1_; have HO_6 := n2_; have HB := n3_; clear n0_ n1_ n2_ n3_; (try clear hb); (try clear hb2); (try clear hk); (try clear hi)) | ((with_reducible refine y0i (b := .append) (xs := #[.tmp 36, .tmp 38]) rfl ?_); at_builtin; refine Kd.R_append (Kd.int .i64) (w0 := w) w.heap.size rfl (.tmp 36) (.tmp 38) 57 3 (.int .i64 0) 8 rfl Try.underlying57 info3 rfl (by decide) (by omega) u6 x6_1 t982 [.int .i64 t982] (fun k_ => (w.heap.size ≤ k_)) (fun _ => False) rfl rfl ?aP (fun _ hk => hk.elim) ?aF ?aO ?aB ?aS ?aL ?_; (case aP => exact rfl); (case aB => exact hb_); (case aF => exact (fun k_ hk => (Nat.le_trans (y04 hb_) hk))); (case aO => exact (rk_ HO_6.out)); (case aS => exact (y04 hb_)); (case aL => have := LMc11.out; omega); intro v985 w18 ho hb hg hat; rw [← Ny984.out] at ho; have n0_ := q_ (Kd.V_afterv (ok := (fun k_ => ((P0_ k_ ∨ P1_ k_) ∨ w.heap.size ≤ k_) ∧ some k_ ≠ (.slice Ao15 x5_1.length co15 : Value).ownBlock)) (by (with_reducible repeat (first | apply Kd.V_alloc | apply Kd.V_drewN | apply Kd.V_drew)); exact Kd.V_mono HO_0.out (fun _ hk => ⟨⟨hk.1, hk.2.1⟩, hk.2.2⟩)) hg hat); have n1_ := q_ (Kd.N_afterv (ok := (fun k_ => ((P0_ k_ ∨ P1_ k_) ∨ w.heap.size ≤ k_))) (nk_ HO_5.out) hg hat); have n2_ := q_ (hb); have n3_ := q_ (ho); clear HO_0 HO_5 HB HO_6; have HO_0 := n0_; have HO_5 := n1_; have HB := n2_; have HO986 := n3_; clear n0_ n1_ n2_ n3_; clear ho hb hg hat; have p987 : 0 ≤ (t982 : Int) := oa_; have q987 : t982 < (l0.length : Int) := oa_; obtain ⟨ad987, A987_4, c987_4, A987_5, c987_5, e987, hx987_0, hx987_1, hx987_2, hx987_3, hx987_4, hx987_5, hl987_4, hi987_4, hl987_5, hi987_5⟩ := at_T25 (Kd.V_reads' HO_0.out).2.2 t982 p987 q987; cases e987; obtain ⟨ce987, hce987, hMe987, hcc987⟩ := Kd.V_get HO_0.out z25 t982 p987 (by first | exact q987 | exact oa_ | (have e_ := (Kd.V_reads' HO_0.out).1; omega)); obtain ⟨ua987_4, uc987_4, ua987_5, uc987_5, rfl, ul987_4, ge987_4, ul987_5, ge987_5⟩ := k25_openF hMe987; have hv987_4 := hcc987 4 _ rfl; rw [y00 _ _ 4 (by omega)] at hv987_4; replace hv987_4 := Option.some.inj (hv987_4.symm.trans hx987_4); injection hv987_4 with hva_ hvn_ hvc_; rw [hva_] at ge987_4; rw [hvc_] at ul987_4; have HL987_4 := q_ (show Kd.V k62 62 _ w.heap.size _ _ ((y0q l0 t982).f4) from Kd.V_mk ul987_4 ge987_4); clear hva_ hvn_ hvc_ ge987_4 ul987_4; have hv987_5 := hcc987 5 _ rfl; rw [y00 _ _ 5 (by omega)] at hv987_5; replace hv987_5 := Option.some.inj (hv987_5.symm.trans hx987_5); injection hv987_5 with hva_ hvn_ hvc_; rw [hva_] at ge987_5; rw [hvc_] at ul987_5; have HL987_5 := q_ (show Kd.V k43 43 _ w.heap.size _ _ ((y0q l0 t982).f5) from Kd.V_mk ul987_5 ge987_5); clear hva_ hvn_ hvc_ ge987_5 ul987_5; clear hcc987 hce987; have HR987_4 := q_ hi987_4; have HC987_4 := q_ hl987_4; clear hi987_4 hl987_4; have HR987_5 := q_ hi987_5; have HC987_5 := q_ hl987_5; clear hi987_5 hl987_5; replace p987 := eq_true p987; replace q987 := eq_true q987) | ((with_reducible refine y0i (b := .append) (xs := #[.tmp 40, .tmp 45]) rfl ?_); at_builtin; refine Kd.N_append k25 (w0 := w) w.heap.size rfl (.tmp 40) (.tmp 45) 46 25 (.agg #[(.string ⟨#[]⟩), (.string ⟨#[]⟩), (.string ⟨#[]⟩), (.int .i64 0), (.slice none 0 0), (.slice none 0 0)]) 104 rfl Try.underlying46 info25 rfl (by decide) (by omega) (.slice Ao15 x5_1.length co15) x5_1 (⟨(y0q l0 t982).f0, (y0q l0 t982).f1, (y0q l0 t982).f2, (y0q l0 t982).f3, (y0q l0 t982).f4, (y0q l0 t982).f5⟩ : S25) [.string ((y0q l0 t982).f0), .string ((y0q l0 t982).f1), .string ((y0q l0 t982).f2), .int .i64 ((y0q l0 t982).f3), .slice A987_4 ((y0q l0 t982).f4).length c987_4, .slice A987_5 ((y0q l0 t982).f5).length c987_5] (fun k_ => ((P0_ k_ ∨ P1_ k_) ∨ w.heap.size ≤ k_) ∧ some k_ ≠ (v985 : Value).ownBlock) (fun k_ => ((fun k_ => ((P0_ k_ ∨ P1_ k_) ∨ w.heap.size ≤ k_) ∧ some k_ ≠ (v985 : Value).ownBlock)) k_ ∧ some k_ ≠ (.slice Ao15 x5_1.length co15 : Value).ownBlock) rfl rfl ?aP (fun _ hk => hk) ?aF ?aO ?aB ?aS ?aL ?_; (case aP => exact (k25_mkF _ _ (⟨(y0q l0 t982).f0, (y0q l0 t982).f1, (y0q l0 t982).f2, (y0q l0 t982).f3, (y0q l0 t982).f4, (y0q l0 t982).f5⟩ : S25) (Kd.V_reads' (Kd.V_mono (ok' := (fun k_ => ((fun k_ => ((P0_ k_ ∨ P1_ k_) ∨ w.heap.size ≤ k_) ∧ some k_ ≠ (v985 : Value).ownBlock)) k_ ∧ some k_ ≠ (.slice Ao15 x5_1.length co15 : Value).ownBlock)) (HL987_4.out) (fun k_ hk => ⟨⟨hk.1.1, hk.2⟩, hk.1.2⟩))).2.1 (Kd.V_F (Kd.V_mono (ok' := (fun k_ => ((fun k_ => ((P0_ k_ ∨ P1_ k_) ∨ w.heap.size ≤ k_) ∧ some k_ ≠ (v985 : Value).ownBlock)) k_ ∧ some k_ ≠ (.slice Ao15 x5_1.length co15 : Value).ownBlock)) (HL987_4.out) (fun k_ hk => ⟨⟨hk.1.1, hk.2⟩, hk.1.2⟩))) (Kd.V_reads' (Kd.V_mono (ok' := (fun k_ => ((fun k_ => ((P0_ k_ ∨ P1_ k_) ∨ w.heap.size ≤ k_) ∧ some k_ ≠ (v985 : Value).ownBlock)) k_ ∧ some k_ ≠ (.slice Ao15 x5_1.length co15 : Value).ownBlock)) (HL987_5.out) (fun k_ hk => ⟨⟨hk.1.1, hk.2⟩, hk.1.2⟩))).2.1 (Kd.V_F (Kd.V_mono (ok' := (fun k_ => ((fun k_ => ((P0_ k_ ∨ P1_ k_) ∨ w.heap.size ≤ k_) ∧ some k_ ≠ (v985 : Value).ownBlock)) k_ ∧ some k_ ≠ (.slice Ao15 x5_1.length co15 : Value).ownBlock)) (HL987_5.out) (fun k_ hk => ⟨⟨hk.1.1, hk.2⟩, hk.1.2⟩))))); (case aB => exact hb_); (case aF => exact (fun k_ hk => ⟨(.inr (Nat.le_trans (y04 hb_) hk)), Kd.fresh' (Kd.R_lt (rk_ HO986.out)) k_ hk⟩)); (case aO => exact (nk_ HO_5.out)); (case aS => exact (y04 hb_)); (case aL => have := LMc14.out; omega); intro v989 w19 ho hb hg hat; rw [← Ny988.out] at ho; have n0_ := q_ (Kd.V_afterv (ok := (fun k_ => ((P0_ k_ ∨ P1_ k_) ∨ w.heap.size ≤ k_) ∧ some k_ ≠ (v985 : Value).ownBlock)) (by (with_reducible repeat (first | apply Kd.V_alloc | apply Kd.V_drewN | apply Kd.V_drew)); exact Kd.V_mono HO_0.out (fun _ hk => ⟨⟨hk.1.1, hk.2⟩, hk.1.2⟩)) hg hat); have n1_ := q_ (Kd.R_over' (rk_ HO986.out) (Kd.N_typed (nk_ HO_5.out)) (by decide) hg); have n2_ := q_ (Kd.V_afterv (ok := (fun k_ => ((P0_ k_ ∨ P1_ k_) ∨ w.heap.size ≤ k_) ∧ some k_ ≠ (v985 : Value).ownBlock)) (by (with_reducible repeat (first | apply Kd.V_alloc | apply Kd.V_drewN | apply Kd.V_drew)); exact Kd.V_mono HL987_4.out (fun _ hk => ⟨⟨hk.1.1, hk.2⟩, hk.1.2⟩)) hg hat); have n3_ := q_ (Kd.V_afterv (ok := (fun k_ => ((P0_ k_ ∨ P1_ k_) ∨ w.heap.size ≤ k_) ∧ some k_ ≠ (v985 : Value).ownBlock)) (by (with_reducible repeat (first | apply Kd.V_alloc | apply Kd.V_drewN | apply Kd.V_drew)); exact Kd.V_mono HL987_5.out (fun _ hk => ⟨⟨hk.1.1, hk.2⟩, hk.1.2⟩)) hg hat); have n4_ := q_ (hb); have n5_ := q_ (ho); clear HO_0 HO986 HL987_4 HL987_5 HB HO_5; have HO_0 := n0_; have HO986 := n1_; have HL987_4 := n2_; have HL987_5 := n3_; have HB := n4_; have HO990 := n5_; clear n0_ n1_ n2_ n3_ n4_ n5_; clear ho hb hg hat))
   go_roundg k1
   case measure => have := HK1.out; omega
   case rel => exact ⟨(y988), (y984), (wrap64 (x7_1 + 1)), cl_, H', ⟨by have := HK1.out; omega⟩, ⟨by (with_reducible repeat (first | apply Kd.V_alloc | apply Kd.V_drewN | apply Kd.V_drew)); exact Kd.V_mono HO_0.out (fun _ hk => ⟨hk.1.1, ⟨hk.2, hk.1.2⟩⟩)⟩, ⟨by (with_reducible repeat (first | apply Kd.N_alloc | apply Kd.N_drewN | apply Kd.N_drew)); exact HO990.out⟩, ⟨rk_ HO986.out⟩, ⟨hb_⟩⟩
def zq0.f (k : Nat) (l0 : List (S25)) (l1 : List (S25)) : Option (Bool) := (zql.f k l0).bind fun t991 => (if t991 = true then (some true) else ((zql.f k l1).bind fun t992 => (if t992 = true then (some true) else ((zq18.f k l0 l1).bind fun t993 => ((zqd.f k l0 l1).bind fun t996 => ((zqr.f k t993 t996).bind fun t999 => (if t999 = true then ((zqg.f k).bind fun t1000 => (some t1000)) else (none))))))))
theorem zq0.calls (k : Nat) (A0 : Option Addr) (c0 : Nat) (l0 : List (S25)) (A1 : Option Addr) (c1 : Nat) (l1 : List (S25)) (r : Bool) (w : World) (hr0 : Kd.C k25 w A0 l0.length l0) (hc0 : l0.length ≤ c0) (hr1 : Kd.C k25 w A1 l1.length l1) (hc1 : l1.length ≤ c1) (h : zq0.f k l0 l1 = some r) :
  Calls Try.prog 12 #[.slice A0 l0.length c0, .slice A1 l1.length c1] w fun e w' => e = .returned (.bool r) ∧ Below w.heap.size w w' := by
 have HR0 := q_ hr0
 have HC0 := q_ hc0
 clear hr0 hc0
 have HR1 := q_ hr1
 have HC1 := q_ hc1
 clear hr1 hc1
 have HB := q_ (Below.refl w.heap.size w)
 have H : ((zql.f k l0).bind fun t991 => (if t991 = true then (some true) else ((zql.f k l1).bind fun t992 => (if t992 = true then (some true) else ((zq18.f k l0 l1).bind fun t993 => ((zqd.f k l0 l1).bind fun t996 => ((zqr.f k t993 t996).bind fun t999 => (if t999 = true then ((zqg.f k).bind fun t1000 => (some t1000)) else (none))))))))) = some r := h
 clear h
 replace H := Option.bind_eq_some_iff.mp H
 obtain ⟨t991, A30, H⟩ := H
 (try dsimp only at H)
 have A3 := q_ A30
 clear A30
 by_cases c4 : t991 = true
 ·subst c4
  rw [if_pos rfl] at H
  obtain rfl := Option.some.inj H
  go_enter Try.func12, Try.ntmps12
  go_wp2_with (first | ((with_reducible refine y0j (f := 31) rfl ?_); refine goesL_ (some 6) rfl rfl Try.func31 (by kernel_rfl) rfl #[.slice A0 l0.length c0] rfl ar_ ?_; (with_reducible refine (zql.calls k _ _ l0 true _ ?side1 ?side2 A3.out).mono ?_); (case side1 => exact ck_ HR0.out); (case side2 => exact HC0.out); rintro e w5 ⟨rfl, hb⟩; refine ⟨_, rfl, ?_⟩; have n0_ := q_ (y05 hb_ hb); clear HB; have HB := n0_; clear n0_; (try clear hb); (try clear hb2); (try clear hk); (try clear hi)))
  go_ret
  exact ⟨ew_, hb_⟩
 replace c4 := Bool.eq_false_iff.mpr c4
 subst c4
 rw [if_neg (show ¬ (false = true) by decide)] at H
 replace H := Option.bind_eq_some_iff.mp H
 obtain ⟨t992, A60, H⟩ := H
 (try dsimp only at H)
 have A6 := q_ A60
 clear A60
 by_cases c7 : t992 = true
 ·subst c7
  rw [if_pos rfl] at H
  obtain rfl := Option.some.inj H
  go_enter Try.func12, Try.ntmps12
  go_wp2_with (first | ((with_reducible refine y0j (f := 31) rfl ?_); refine goesL_ (some 6) rfl rfl Try.func31 (by kernel_rfl) rfl #[.slice A0 l0.length c0] rfl ar_ ?_; (with_reducible refine (zql.calls k _ _ l0 false _ ?side1 ?side2 A3.out).mono ?_); (case side1 => exact ck_ HR0.out); (case side2 => exact HC0.out); rintro e w8 ⟨rfl, hb⟩; refine ⟨_, rfl, ?_⟩; have n0_ := q_ (y05 hb_ hb); clear HB; have HB := n0_; clear n0_; (try clear hb); (try clear hb2); (try clear hk); (try clear hi)) | (go_at_call 31; (with_reducible refine (zql.calls k _ _ l1 true _ ?side1 ?side2 A6.out).mono ?_); (case side1 => exact ck_ (Kd.C_below HR1.out HB.out)); (case side2 => exact HC1.out); rintro e w9 ⟨rfl, hb⟩; have n0_ := q_ (y05 hb_ hb); clear HB; have HB := n0_; clear n0_; (try clear hb); (try clear hb2); (try clear hk); (try clear hi)))
  go_ret
  exact ⟨ew_, hb_⟩
 replace c7 := Bool.eq_false_iff.mpr c7
 subst c7
 rw [if_neg (show ¬ (false = true) by decide)] at H
 replace H := Option.bind_eq_some_iff.mp H
 obtain ⟨t993, A100, H⟩ := H
 (try dsimp only at H)
 have A10 := q_ A100
 clear A100
 replace H := Option.bind_eq_some_iff.mp H
 obtain ⟨t996, A110, H⟩ := H
 (try dsimp only at H)
 have A11 := q_ A110
 clear A110
 replace H := Option.bind_eq_some_iff.mp H
 obtain ⟨t999, A120, H⟩ := H
 (try dsimp only at H)
 have A12 := q_ A120
 clear A120
 by_cases c13 : t999 = true
 rotate_left
 ·replace c13 := Bool.eq_false_iff.mpr c13
  subst c13
  rw [if_neg (show ¬ (false = true) by decide)] at H
  exact absurd H (by simp)
 subst c13
 rw [if_pos rfl] at H
 replace H := Option.bind_eq_some_iff.mp H
 obtain ⟨t1000, A140, H⟩ := H
 (try dsimp only at H)
 have A14 := q_ A140
 clear A140
 obtain rfl := Option.some.inj H
 go_enter Try.func12, Try.ntmps12
 go_wp2_with (first | ((with_reducible refine y0j (f := 31) rfl ?_); refine goesL_ (some 6) rfl rfl Try.func31 (by kernel_rfl) rfl #[.slice A0 l0.length c0] rfl ar_ ?_; (with_reducible refine (zql.calls k _ _ l0 false _ ?side1 ?side2 A3.out).mono ?_); (case side1 => exact ck_ HR0.out); (case side2 => exact HC0.out); rintro e w15 ⟨rfl, hb⟩; refine ⟨_, rfl, ?_⟩; have n0_ := q_ (y05 hb_ hb); clear HB; have HB := n0_; clear n0_; (try clear hb); (try clear hb2); (try clear hk); (try clear hi)) | (go_at_call 31; (with_reducible refine (zql.calls k _ _ l1 false _ ?side1 ?side2 A6.out).mono ?_); (case side1 => exact ck_ (Kd.C_below HR1.out HB.out)); (case side2 => exact HC1.out); rintro e w16 ⟨rfl, hb⟩; have n0_ := q_ (y05 hb_ hb); clear HB; have HB := n0_; clear n0_; (try clear hb); (try clear hb2); (try clear hk); (try clear hi)) | ((with_reducible refine y0j (f := 43) rfl ?_); refine goesL_ (some 13) rfl rfl Try.func43 (by kernel_rfl) rfl #[.slice A0 l0.length c0, .slice A1 l1.length c1] rfl ar_ ?_; (with_reducible refine (zq18.calls k (fun k_ => k_ < w.heap.size) _ _ l0 (fun k_ => k_ < w.heap.size) _ _ l1 t993 _ ?side1 ?side2 A10.out).mono ?_); (case side1 => exact Kd.V_mk HC0.out (Kd.F_below (Kd.C_F k25_heap HR0.out) hb_)); (case side2 => exact Kd.V_mk HC1.out (Kd.F_below (Kd.C_F k25_heap HR1.out) hb_)); rintro e w17 ⟨v994, rfl, ho0, hb⟩; refine ⟨_, rfl, ?_⟩; have n0_ := q_ (Kd.R_lower (Kd.R_mono (ok' := fun k_ => True) ho0 (fun _ hk_ => trivial)) (y04 hb_)); have n1_ := q_ (y05 hb_ hb); clear HB; have HO995 := n0_; have HB := n1_; clear n0_ n1_; (try clear hb); (try clear hb2); (try clear hk); (try clear hi); (try clear ho0)) | ((with_reducible refine y0j (f := 44) rfl ?_); refine goesL_ (some 16) rfl rfl Try.func44 (by kernel_rfl) rfl #[.slice A0 l0.length c0, .slice A1 l1.length c1] rfl ar_ ?_; (with_reducible refine (zqd.calls k (fun k_ => k_ < w.heap.size) _ _ l0 (fun k_ => k_ < w.heap.size) _ _ l1 t996 _ ?side1 ?side2 A11.out).mono ?_); (case side1 => exact Kd.V_mk HC0.out (Kd.F_below (Kd.C_F k25_heap HR0.out) hb_)); (case side2 => exact Kd.V_mk HC1.out (Kd.F_below (Kd.C_F k25_heap HR1.out) hb_)); rintro e w18 ⟨v997, rfl, ho0, hb⟩; refine ⟨_, rfl, ?_⟩; have n0_ := q_ (Kd.R_elder' (rk_ HO995.out) (Kd.R_base ho0) hb); have n1_ := q_ (Kd.R_lower (Kd.R_new' (Kd.R_mono (ok' := fun k_ => True) ho0 (fun _ hk_ => trivial)) (Kd.R_lt (rk_ HO995.out))) (y04 hb_)); have n2_ := q_ (y05 hb_ hb); clear HO995 HB; have HO995 := n0_; have HO998 := n1_; have HB := n2_; clear n0_ n1_ n2_; (try clear hb); (try clear hb2); (try clear hk); (try clear hi); (try clear ho0); obtain ⟨Ao19, co19, eo19⟩ := Kd.R_slice HO995.out; subst eo19; obtain ⟨Ao20, co20, eo20⟩ := Kd.R_slice HO998.out; subst eo20) | ((with_reducible refine y0j (f := 42) rfl ?_); refine goesL_ (some 17) rfl rfl Try.func42 (by kernel_rfl) rfl #[.slice Ao19 t993.length co19, .slice Ao20 t996.length co20] rfl ar_ ?_; (with_reducible refine (zqr.calls k _ _ t993 _ _ t996 true _ ?side1 ?side2 ?side3 ?side4 A12.out).mono ?_); (case side1 => exact ck_ (Kd.R_reads' HO995.out).2.2); (case side2 => exact (Kd.R_reads' HO995.out).2.1); (case side3 => exact ck_ (Kd.R_reads' HO998.out).2.2); (case side4 => exact (Kd.R_reads' HO998.out).2.1); rintro e w' ⟨rfl, ⟨nd, rfl⟩⟩; refine ⟨_, rfl, ?_⟩) | (go_at_call 36; (with_reducible refine (zqg.calls k  t1000 _ A14.out).mono ?_); rintro e w21 ⟨rfl, hb⟩; have n0_ := q_ (Kd.R_below (rk_ HO995.out) hb); have n1_ := q_ (Kd.R_below (rk_ HO998.out) hb); have n2_ := q_ (y05 hb_ hb); clear HO995 HO998 HB; have HO995 := n0_; have HO998 := n1_; have HB := n2_; clear n0_ n1_ n2_; (try clear hb); (try clear hb2); (try clear hk); (try clear hi)))
 go_ret
 exact ⟨ew_, hb_⟩
end Go.Proofs.Ytenlmckahaniiaa.K
end
section
namespace Go.Proofs.Ytenlmckahaniiaa.K
open Go.RowKit Go.Proofs.YtenlmckahaniiaaW.PrintWords Go.Proofs.YtenlmckahaniiaaW.PrintLast
def zq0.Pure : Prop := ∀ (l0 : List (S25)) (l1 : List (S25)), (WfL wf25) l0 → (WfL wf25) l1 → ∃ k, zq0.f k l0 l1 = some true
end Go.Proofs.Ytenlmckahaniiaa.K
end
section
namespace Go.Proofs.Ytenlmckahaniiaa.Lb
open Go Go.RowKit Go.Proofs.Ytenlmckahaniiaa.K Go.Proofs.YtenlmckahaniiaaW.PrintWords Go.Proofs.YtenlmckahaniiaaW.PrintMore Go.Proofs.Ytenlmckahaniiaa.MyBits Go.Proofs.Ytenlmckahaniiaa.MyStr Go.Proofs.Ytenlmckahaniiaa.Oct Go.Proofs.Ytenlmckahaniiaa.Obj
def rstep (l hv : List S25) (st : List UInt8 × Bool) (n : List UInt8) : List UInt8 × Bool :=
  if 0 ≤ fndB hv n then st else if 0 ≤ fndB l n then (if st.2 = true then (if n < st.1 then (n, true) else st) else (n, true)) else st
theorem least_l1 (l hv : List S25) (hl : l.length ≤ 1000000) (hsl : ∀ x ∈ l, x.f4.length ≤ 1000000) (hn : hv.length ≤ 1000000) (hsh : ∀ x ∈ hv, x.f4.length ≤ 1000000) (i : Nat) (hi : i < hv.length) (R : List UInt8 × Bool → ByteArray × Bool)
    (hr : ∀ m f, Ev (fun k => zqm.l0 k l hv m f ((i + 1 : Nat) : Int)) (R (bs m, f))) (L : List (List UInt8)) (hL : L.length ≤ 1000000) (d : Nat) :
    ∀ (j : Nat) m f, j + d = L.length → Ev (fun k => zqm.l1 k l hv m f (i : Int) (sofl L) (j : Int)) (R ((L.drop j).foldl (rstep l hv) (bs m, f))) := by
  induction d with
  | zero =>
    intro j m f hj
    rw [List.drop_eq_nil_of_le (by omega)]
    exact Ev.step (f := fun k => zqm.l0 k l hv m f ((i + 1 : Nat) : Int)) (fun k => by rw [zqm.l1, y0t, if_neg (by omega), Obj.i64_nat i (by omega)]) (hr m f)
  | succ d ih =>
    intro j m f hj
    have hlt : j < L.length := by omega
    rw [List.drop_eq_getElem_cons hlt, List.foldl_cons]
    have hg := sofl_get L j hlt
    obtain ⟨nm, hnm⟩ : ∃ nm, nm = rdOf ByteArray.empty (sofl L) (j : Int) := ⟨_, rfl⟩
    rw [← hnm] at hg
    have tail : ∀ m f, Ev (fun k => zqm.l1 k l hv m f (i : Int) (sofl L) (wrap64 ((j : Int) + 1))) (R ((L.drop (j + 1)).foldl (rstep l hv) (bs m, f))) := by
      intro m f
      rw [Obj.i64_nat j (by omega)]
      exact ih (j + 1) m f (by omega)
    rw [← hg]
    refine Ev.step (f := fun k => (zqt.f k hv nm).bind fun a => (zqt.f k l nm).bind fun b => if a.2 = true then zqm.l1 k l hv m f (i : Int) (sofl L) (wrap64 ((j : Int) + 1)) else if b.2 = true then (if f = true then (if Op.bytesLess nm.toList m.toList = true then zqm.l1 k l hv nm true (i : Int) (sofl L) (wrap64 ((j : Int) + 1)) else zqm.l1 k l hv m f (i : Int) (sofl L) (wrap64 ((j : Int) + 1))) else zqm.l1 k l hv nm true (i : Int) (sofl L) (wrap64 ((j : Int) + 1))) else zqm.l1 k l hv m f (i : Int) (sofl L) (wrap64 ((j : Int) + 1))) (fun k => by rw [zqm.l1, y0t, if_pos (by omega), if_pos (by omega), ← hnm]) ?_
    refine Ev.bind (rfind_is hv hn hsh nm) ?_
    refine Ev.bind (rfind_is l hl hsl nm) ?_
    rw [y0u, y0u, bytesLess_lt]
    unfold rstep
    by_cases h2 : 0 ≤ fndB hv (bs nm)
    · refine Ev.congr (fun k => if_pos (decide_eq_true h2)) ?_
      rw [if_pos h2]; exact tail m f
    · refine Ev.congr (fun k => if_neg (fun h => h2 (of_decide_eq_true h))) ?_
      rw [if_neg h2]
      by_cases h3 : 0 ≤ fndB l (bs nm)
      · refine Ev.congr (fun k => if_pos (decide_eq_true h3)) ?_
        rw [if_pos h3]
        by_cases h4 : f = true
        · refine Ev.congr (fun k => if_pos h4) ?_
          rw [if_pos h4]
          by_cases h5 : bs nm < bs m
          · refine Ev.congr (fun k => if_pos (decide_eq_true h5)) ?_
            rw [if_pos h5]; exact tail nm true
          · refine Ev.congr (fun k => if_neg (fun h => h5 (of_decide_eq_true h))) ?_
            rw [if_neg h5]; exact tail m f
        · refine Ev.congr (fun k => if_neg h4) ?_
          rw [if_neg h4]; exact tail nm true
      · refine Ev.congr (fun k => if_neg (fun h => h3 (of_decide_eq_true h))) ?_
        rw [if_neg h3]; exact tail m f
theorem least_l0 (l hv : List S25) (hl : l.length ≤ 1000000) (hsl : ∀ x ∈ l, x.f4.length ≤ 1000000) (hn : hv.length ≤ 1000000) (hsh : ∀ x ∈ hv, x.f4.length ≤ 1000000) (hs : ∀ x ∈ hv, x.f5.length ≤ 900000) (d : Nat) :
    ∀ (i : Nat) m f, i + d = hv.length → Ev (fun k => zqm.l0 k l hv m f (i : Int)) ((fun st : List UInt8 × Bool => (mkS st.1, st.2)) (((hv.drop i).flatMap ndM).foldl (rstep l hv) (bs m, f))) := by
  induction d with
  | zero =>
    intro i m f hi
    rw [List.drop_eq_nil_of_le (by omega)]
    refine Ev.step (f := fun _ => some (m, f)) (fun k => by rw [zqm.l0, if_neg (by omega)]) ?_
    refine Ev.eq (Ev.now _) ?_
    show (m, f) = (mkS (bs m), f)
    rw [mkS_bs]
  | succ d ih =>
    intro i m f hi
    have hlt : i < hv.length := by omega
    rw [List.drop_eq_getElem_cons hlt, List.flatMap_cons, List.foldl_append]
    have h5 := hs hv[i] (List.getElem_mem hlt)
    have hl1 := least_l1 l hv hl hsl hn hsh i hlt (fun st => (fun st : List UInt8 × Bool => (mkS st.1, st.2)) (((hv.drop (i + 1)).flatMap ndM).foldl (rstep l hv) st)) (fun m f => ih (i + 1) m f (by omega)) (ndM hv[i]) (by have := needsL_length hv[i].f5; unfold ndM; omega) (ndM hv[i]).length 0 m f (by omega)
    rw [List.drop_zero] at hl1
    refine Ev.step (f := fun k => (zqi.f k hv[i].f0 hv[i].f1 hv[i].f2 hv[i].f3 hv[i].f4 hv[i].f5).bind fun t => zqm.l1 k l hv m f (i : Int) t 0) (fun k => by rw [zqm.l0, if_pos (by omega), if_pos (by omega), rd25 hv i hlt]) ?_
    exact Ev.bind (rneeds_is _ _ _ _ _ _ h5) hl1
def Rel (l : List S25) (p : Int × List UInt8) (r : List UInt8 × Bool) : Prop := (r.2 = true ↔ 0 ≤ p.1) ∧ (r.2 = true → r.1 = p.2 ∧ p.1 = fndB l p.2)
theorem rel_step (l hv : List S25) (p : Int × List UInt8) (r : List UInt8 × Bool) (n : List UInt8) (h : Rel l p r) : Rel l (nstep l hv p n) (rstep l hv r n) := by
  unfold nstep rstep
  by_cases h2 : 0 ≤ fndB hv n
  · rw [if_pos h2, if_pos h2]
    by_cases h1 : 0 ≤ p.1 ∧ ¬ n < p.2
    · rw [if_pos h1]; exact h
    · rw [if_neg h1]; exact h
  · rw [if_neg h2, if_neg h2]
    by_cases h3 : 0 ≤ fndB l n
    · rw [if_pos h3, if_pos h3]
      by_cases h4 : r.2 = true
      · rw [if_pos h4]
        have hp := h.1.1 h4
        obtain ⟨e1, e2⟩ := h.2 h4
        rw [e1]
        by_cases h5 : n < p.2
        · rw [if_neg (fun hh => hh.2 h5), if_pos h5]
          exact ⟨⟨fun _ => h3, fun _ => rfl⟩, fun _ => ⟨rfl, rfl⟩⟩
        · rw [if_pos ⟨hp, h5⟩, if_neg h5]; exact h
      · rw [if_neg h4, if_neg (fun hh => h4 (h.1.2 hh.1))]
        exact ⟨⟨fun _ => h3, fun _ => rfl⟩, fun _ => ⟨rfl, rfl⟩⟩
    · rw [if_neg h3, if_neg h3]
      by_cases h1 : 0 ≤ p.1 ∧ ¬ n < p.2
      · rw [if_pos h1]; exact h
      · rw [if_neg h1]; exact h
theorem rel_fold (l hv : List S25) (N : List (List UInt8)) : ∀ p r, Rel l p r → Rel l (N.foldl (nstep l hv) p) (N.foldl (rstep l hv) r) := by
  induction N with
  | nil => intro p r h; exact h
  | cons n N ih => intro p r h; exact ih _ _ (rel_step l hv p r n h)
theorem least_is (l hv : List S25) (hl : l.length ≤ 1000000) (hsl : ∀ x ∈ l, x.f4.length ≤ 1000000) (hn : hv.length ≤ 1000000) (hsh : ∀ x ∈ hv, x.f4.length ≤ 1000000) (hs : ∀ x ∈ hv, x.f5.length ≤ 900000) :
    ∃ m f, Ev (fun k => zqm.f k l hv) (m, f) ∧ (f = true ↔ 0 ≤ nxt l hv) ∧ (f = true → nxt l hv = fndB l (bs m)) := by
  have h := least_l0 l hv hl hsl hn hsh hs hv.length 0 ⟨#[]⟩ false (by omega)
  rw [List.drop_zero] at h
  have hr := rel_fold l hv (hv.flatMap ndM) (-1, []) ([], false) ⟨⟨fun h => (by cases h), fun h => absurd h (by decide)⟩, fun h => (by cases h)⟩
  refine ⟨_, _, h, hr.1, fun hf => ?_⟩
  obtain ⟨e1, e2⟩ := hr.2 hf
  unfold nxt
  rw [bs_mkS]
  rw [e2]
  exact congrArg _ e1.symm
theorem rselect_l0 (l : List S25) (hl : l.length ≤ 1000) (hsl : ∀ x ∈ l, x.f4.length ≤ 1000000) (hs5 : ∀ x ∈ l, x.f5.length ≤ 900000) (d : Nat) : ∀ (i : Nat) (hv : List S25) (out : List Int), i + d = l.length + 1 → hv.length + d ≤ 10000 → out.length + d ≤ 10000 → (∀ x ∈ hv, x.f4.length ≤ 1000000) → (∀ x ∈ hv, x.f5.length ≤ 900000) →
    Ev (fun k => zqd.l0 k l hv out (i : Int)) (sel l d hv out) := by
  induction d with
  | zero =>
    intro i hv out hi h1 h2 h3 h4
    exact Ev.step (f := fun _ => some out) (fun k => by rw [zqd.l0, if_neg (by omega)]) (Ev.now _)
  | succ d ih =>
    intro i hv out hi h1 h2 h3 h4
    obtain ⟨m, f, hm, hf1, hf2⟩ := least_is l hv (by omega) hsl (by omega) h3 h4
    refine Ev.step (f := fun k => (zqm.f k l hv).bind fun a => if a.2 = true then ((zqt.f k l a.1).bind fun b => (if out.length < 17592186044416 then (if 0 ≤ b.1 then (if b.1 < (l.length : Int) then (if hv.length < 1353245080339 then zqd.l0 k l (hv ++ [(⟨(y0q l b.1).f0, (y0q l b.1).f1, (y0q l b.1).f2, (y0q l b.1).f3, (y0q l b.1).f4, (y0q l b.1).f5⟩ : S25)]) (out ++ [b.1]) (wrap64 ((i : Int) + 1)) else none) else none) else none) else none)) else some out) (fun k => by rw [zqd.l0, if_pos (by omega)]) ?_
    refine Ev.bind hm ?_
    by_cases hn : 0 ≤ nxt l hv
    · have hf := hf1.2 hn
      refine Ev.congr (fun k => if_pos hf) ?_
      have e := hf2 hf
      refine Ev.bind (rfind_is l (by omega) hsl m) ?_
      have e2 : (findR l (bs m)).1 = nxt l hv := by unfold findR; rw [← e]; exact Int.max_eq_left hn
      rw [e2]
      have hlt := fndB_lt l (bs m) (by rw [← e]; exact hn)
      rw [← e] at hlt
      rw [sel_succ l d hv out, if_pos hn]
      have hm2 : y0q l (nxt l hv) ∈ l := by
        have := rd25 l (nxt l hv).toNat (by omega)
        rw [show (((nxt l hv).toNat : Nat) : Int) = nxt l hv by omega] at this
        rw [this]; exact List.getElem_mem _
      have hap : ∀ (P : S25 → Prop), (∀ x ∈ hv, P x) → (∀ x ∈ l, P x) → ∀ x ∈ hv ++ [y0q l (nxt l hv)], P x := by
        intro P hp1 hp2 x hx
        rcases List.mem_append.1 hx with hx | hx
        · exact hp1 x hx
        · rw [List.mem_singleton.1 hx]; exact hp2 _ hm2
      refine Ev.congr (fun k => by rw [if_pos (by omega), if_pos hn, if_pos hlt, if_pos (by omega), Obj.i64_nat i (by omega)]) (ih (i + 1) (hv ++ [y0q l (nxt l hv)]) (out ++ [nxt l hv]) (by omega) (by rw [List.length_append, List.length_singleton]; omega) (by rw [List.length_append, List.length_singleton]; omega) (hap _ h3 hsl) (hap _ h4 hs5))
    · refine Ev.congr (fun k => if_neg (fun h => hn (hf1.1 h))) ?_
      rw [sel_succ l d hv out, if_neg hn]; exact Ev.now _
theorem rselect_is (l hv : List S25) (hl : l.length ≤ 1000) (hh : hv.length ≤ 1000) (hsl : ∀ x ∈ l, x.f4.length ≤ 1000000) (hs5 : ∀ x ∈ l, x.f5.length ≤ 900000) (h3 : ∀ x ∈ hv, x.f4.length ≤ 1000000) (h4 : ∀ x ∈ hv, x.f5.length ≤ 900000) : Ev (fun k => zqd.f k l hv) (selR l hv) := by
  unfold zqd.f
  refine Ev.congr (f := fun k => zqd.l0 k l hv [] 0) (fun k => by simp only [Option.bind_some, List.nil_append, List.length_nil]; rw [if_pos (by omega)]) ?_
  exact rselect_l0 l hl hsl hs5 (l.length + 1) 0 hv [] (by omega) (by omega) (by simp only [List.length_nil]; omega) h3 h4
theorem sel_length (l : List S25) : ∀ (f : Nat) hv out, (sel l f hv out).length ≤ out.length + f := by
  intro f
  induction f with
  | zero => intro hv out; exact Nat.le_refl _
  | succ f ih =>
    intro hv out
    unfold sel
    by_cases h : 0 ≤ nxt l hv
    · rw [if_pos h]
      have := ih (hv ++ [y0q l (nxt l hv)]) (out ++ [nxt l hv])
      rw [List.length_append, List.length_singleton] at this
      omega
    · rw [if_neg h]; omega
end Go.Proofs.Ytenlmckahaniiaa.Lb
end
section
namespace Go.Proofs.Ytenlmckahaniiaa.Pure
open Go Go.RowKit Go.Proofs.Ytenlmckahaniiaa.K Go.Proofs.YtenlmckahaniiaaW.PrintWords Go.Proofs.YtenlmckahaniiaaW.PrintMore Go.Proofs.Ytenlmckahaniiaa.MyBits Go.Proofs.Ytenlmckahaniiaa.MyStr Go.Proofs.Ytenlmckahaniiaa.Oct Go.Proofs.Ytenlmckahaniiaa.Obj Go.Proofs.Ytenlmckahaniiaa.Lb
theorem LibrarySelects : zq0.Pure := by
  intro l0 l1 _ _
  refine Ev.rounds ?_
  unfold zq0.f
  obtain ⟨b, hb, hs⟩ := great_is l0
  refine Ev.bind hb ?_
  refine Ev.ite (fun h => Ev.now _) (fun h => ?_)
  have hS := hs (Bool.eq_false_iff.mpr h)
  obtain ⟨b1, hb1, hs1⟩ := great_is l1
  refine Ev.bind hb1 ?_
  refine Ev.ite (fun h => Ev.now _) (fun h1 => ?_)
  have hS1 := hs1 (Bool.eq_false_iff.mpr h1)
  have n0 := hS.n
  have n1 := hS1.n
  have f4 : ∀ x ∈ l0, x.f4.length ≤ 40 := fun x hx => (hS.m x hx).n4
  have f5 : ∀ x ∈ l0, x.f5.length ≤ 40 := fun x hx => (hS.m x hx).n5
  have g4 : ∀ x ∈ l1, x.f4.length ≤ 40 := fun x hx => (hS1.m x hx).n4
  have g5 : ∀ x ∈ l1, x.f5.length ≤ 40 := fun x hx => (hS1.m x hx).n5
  refine Ev.bind (select_is l0 l1 (by omega) (by omega) (fun x hx => by have := f5 x hx; omega) (fun x hx => by have := g5 x hx; omega)) ?_
  refine Ev.bind (rselect_is l0 l1 (by omega) (by omega) (fun x hx => by have := f4 x hx; omega) (fun x hx => by have := f5 x hx; omega) (fun x hx => by have := g4 x hx; omega) (fun x hx => by have := g5 x hx; omega)) ?_
  refine Ev.bind (same08_is (selR l0 l1) (by have := sel_length l0 (l0.length + 1) l1 []; unfold selR; simp only [List.length_nil] at this; omega)) ?_
  exact Ev.congr (fun k => if_pos rfl) Lb.alive_end
end Go.Proofs.Ytenlmckahaniiaa.Pure
end
