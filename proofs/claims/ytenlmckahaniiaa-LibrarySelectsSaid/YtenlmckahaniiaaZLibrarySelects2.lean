/- Lemmas for the law LibrarySelects: what its proof needs beyond what it shares. -/
import Derived.Test.YtenlmckahaniiaaZLibrarySelects1
import Derived.Test.YtenlmckahaniiaaZcLc18
set_option linter.unusedVariables false
set_option linter.unusedSimpArgs false
set_option linter.unusedSectionVars false
set_option maxHeartbeats 8000000
set_option maxRecDepth 100000
section
namespace Go.Proofs.Ytenlmckahaniiaa.Obj
open Go Go.RowKit Go.Proofs.Ytenlmckahaniiaa.K Go.Proofs.YtenlmckahaniiaaW.PrintWords Go.Proofs.YtenlmckahaniiaaW.PrintMore Go.Proofs.Ytenlmckahaniiaa.MyStr Go.Proofs.Ytenlmckahaniiaa.Oct
theorem sofl_append (a b : List (List UInt8)) : sofl (a ++ b) = sofl a ++ sofl b := List.map_append
theorem sofl_one (s : ByteArray) : sofl [bs s] = [s] := by
  show [(⟨(bs s).toArray⟩ : ByteArray)] = [s]
  unfold bs
  simp
theorem Asc.insert {a b : List (List UInt8)} {x : List UInt8} (h : Asc (a ++ b)) (h1 : ∀ y ∈ a, y < x) (h2 : ∀ y ∈ b, x < y) : Asc (a ++ [x] ++ b) := by
  unfold Asc at *
  rw [List.pairwise_append] at h
  rw [List.append_assoc, List.pairwise_append]
  refine ⟨h.1, List.pairwise_cons.2 ⟨h2, h.2.1⟩, fun y hy z hz => ?_⟩
  rcases List.mem_append.1 hz with hz | hz
  · rw [List.mem_singleton.1 hz]; exact h1 y hy
  · exact h.2.2 y hy z hz
theorem rneeds_insert (a0 a1 a2 : ByteArray) (a3 : Int) (l4 : List S62) (l5 : List S43) (x4 : Int) (s : ByteArray) (L : List (List UInt8)) (hL : L.length ≤ 1000000) (hA : Asc L) (r : List ByteArray)
    (hr : ∀ M, Asc M → (∀ y, y ∈ M ↔ y ∈ L ∨ y = bs s) → M.length ≤ L.length + 1 → Ev (fun k => zqi.l0 k (sofl M) (wrap64 (x4 + 1)) a0 a1 a2 a3 l4 l5) r) (d : Nat) :
    ∀ j : Nat, j + d = L.length → (∀ q (hq : q < L.length), q < j → L[q] < bs s) → Ev (fun k => zqi.l1 k (sofl L) x4 s (j : Int) a0 a1 a2 a3 l4 l5) r := by
  have hlow : ∀ j : Nat, (∀ q (hq : q < L.length), q < j → L[q] < bs s) → ∀ y ∈ L.take j, y < bs s := by
    intro j hq y hy
    obtain ⟨q, hq2, rfl⟩ := List.getElem_of_mem hy
    rw [List.getElem_take]
    rw [List.length_take] at hq2
    exact hq q (by omega) (by omega)
  induction d with
  | zero =>
    intro j hj hq
    have hM := hr (L ++ [bs s]) (by
        have := Asc.insert (a := L) (b := []) (by rw [List.append_nil]; exact hA) (fun y hy => hlow j hq y (by rw [List.take_of_length_le (by omega)]; exact hy)) (by simp)
        rwa [List.append_nil] at this) (fun y => by simp) (by simp)
    refine Ev.step (fun k => ?_) hM
    rw [zqi.l1, y0t, if_neg (by omega), if_pos (by omega), if_pos (by omega), if_pos (by omega), show ((j : Int)).toNat = j by omega, List.take_of_length_le (by rw [y0t]; omega), List.drop_eq_nil_of_le (by rw [y0t]; omega)]
    simp only [Option.bind_some, List.length_append, List.length_nil, List.nil_append, y0t, List.length_cons, List.append_nil]
    rw [if_pos (by omega), if_pos (by omega), if_pos (by omega), sofl_append, sofl_one]
  | succ d ih =>
    intro j hj hq
    have hlt : j < L.length := by omega
    have hg : (rdOf ByteArray.empty (sofl L) (j : Int)).toList = L[j] := by rw [y0u, sofl_get L j hlt]
    by_cases h1 : L[j] < bs s
    · refine Ev.step (fun k => ?_) (ih (j + 1) (by omega) (fun q hq2 hqj => ?_))
      · rw [zqi.l1, y0t, if_pos (by omega), if_pos (by omega), hg, y0u, bytesLess_lt, decide_eq_true h1, if_pos rfl, i64_nat j (by omega)]
      · by_cases e : q = j
        · subst e; exact h1
        · exact hq q hq2 (by omega)
    · by_cases h2 : L[j] = bs s
      · have hM := hr L hA (fun y => ⟨fun h => .inl h, fun h => h.elim id (fun e => by rw [e, ← h2]; exact List.getElem_mem hlt)⟩) (by omega)
        refine Ev.step (fun k => ?_) hM
        rw [zqi.l1, y0t, if_pos (by omega), if_pos (by omega), hg, y0u, bytesLess_lt, decide_eq_false h1, if_neg (by decide), if_neg (by omega), if_pos h2]
      · have hgt : bs s < L[j] := lt_of_le_ne (List.not_lt.1 h1) (fun e => h2 e.symm)
        have hM := hr (L.take j ++ [bs s] ++ L.drop j) (Asc.insert (by rw [List.take_append_drop]; exact hA) (hlow j hq) (fun y hy => by
            obtain ⟨q, hq2, rfl⟩ := List.getElem_of_mem hy
            rw [List.getElem_drop]
            rcases Nat.eq_zero_or_pos q with h0 | h0
            · subst h0; exact hgt
            · exact List.lt_trans hgt (List.pairwise_iff_getElem.1 hA j (j + q) hlt (by rw [List.length_drop] at hq2; omega) (by omega)))) (fun y => by
            have : y ∈ L ↔ y ∈ L.take j ∨ y ∈ L.drop j := by rw [← List.mem_append, List.take_append_drop]
            rw [this]
            simp only [List.mem_append, List.mem_singleton]
            constructor <;> (intro h; rcases h with (h | h) | h <;> simp [h])) (by rw [List.length_append, List.length_append, List.length_take, List.length_drop, List.length_singleton]; omega)
        refine Ev.step (fun k => ?_) hM
        rw [zqi.l1, y0t, if_pos (by omega), if_pos (by omega), hg, y0u, bytesLess_lt, decide_eq_false h1, if_neg (by decide), if_neg (by omega), if_neg h2, if_pos (by omega), show ((j : Int)).toNat = j by omega]
        simp only [Option.bind_some, List.nil_append, List.length_nil]
        rw [if_pos (by rw [List.length_take, y0t]; omega), if_pos (by rw [List.length_take, y0t]; omega), if_pos (by rw [List.length_append, List.length_take, List.length_drop, y0t, List.length_singleton]; omega), sofl_append, sofl_append, sofl_one]
        congr 2
        · unfold sofl; rw [List.map_take]
        · unfold sofl; rw [List.map_drop]
theorem rneeds_loop (a0 a1 a2 : ByteArray) (a3 : Int) (l4 : List S62) (l : List S43) (hn : l.length ≤ 900000) (d : Nat) : ∀ (i : Nat) (L : List (List UInt8)), i + d = l.length → Asc L → (∀ y, y ∈ L ↔ y ∈ extL (l.take i)) → L.length ≤ i → Ev (fun k => zqi.l0 k (sofl L) (i : Int) a0 a1 a2 a3 l4 l) (sofl (needsL l)) := by
  induction d with
  | zero =>
    intro i L hi hA hm _
    refine Ev.step (f := fun _ => some (sofl L)) (fun k => by rw [zqi.l0, if_neg (by omega)]) ?_
    rw [List.take_of_length_le (by omega)] at hm
    rw [hA.unique (needsL_asc l) (fun x => by rw [hm, needsL_mem])]
    exact Ev.now _
  | succ d ih =>
    intro i L hi hA hm hl
    have hlt : i < l.length := by omega
    have he := extL_take l i hlt
    by_cases h4 : l[i].f2 = 4
    · rw [if_pos h4] at he
      have := rneeds_insert a0 a1 a2 a3 l4 l (i : Int) l[i].f3 L (by omega) hA (sofl (needsL l)) (fun M hM hmem hlen => by
        rw [i64_nat i (by omega)]
        exact ih (i + 1) M (by omega) hM (fun y => by rw [hmem, hm, he, List.mem_append, List.mem_singleton]) (by omega)) L.length 0 (by omega) (fun q _ h => by omega)
      refine Ev.step (fun k => ?_) this
      rw [zqi.l0, if_pos (by omega), if_pos (by omega), rd43 l i hlt, if_pos h4]
      rfl
    · rw [if_neg h4, List.append_nil] at he
      refine Ev.step (fun k => ?_) (ih (i + 1) L (by omega) hA (fun y => by rw [hm, he]) (by omega))
      rw [zqi.l0, if_pos (by omega), if_pos (by omega), rd43 l i hlt, if_neg h4, i64_nat i (by omega)]
theorem rneeds_is (a0 a1 a2 : ByteArray) (a3 : Int) (l4 : List S62) (l5 : List S43) (hn : l5.length ≤ 900000) : Ev (fun k => zqi.f k a0 a1 a2 a3 l4 l5) (sofl (needsL l5)) :=
  rneeds_loop a0 a1 a2 a3 l4 l5 hn l5.length 0 [] (by omega) List.Pairwise.nil (fun y => by simp [extL]) (Nat.zero_le _)
end Go.Proofs.Ytenlmckahaniiaa.Obj
end
section
namespace Go.Proofs.Ytenlmckahaniiaa.Lb
open Go Go.RowKit Go.Proofs.Ytenlmckahaniiaa.K Go.Proofs.YtenlmckahaniiaaW.PrintWords Go.Proofs.YtenlmckahaniiaaW.PrintMore Go.Proofs.Ytenlmckahaniiaa.MyBits Go.Proofs.Ytenlmckahaniiaa.MyStr Go.Proofs.Ytenlmckahaniiaa.Oct Go.Proofs.Ytenlmckahaniiaa.Obj
theorem fndB_lt (l : List S25) (n : List UInt8) (h : 0 ≤ fndB l n) : fndB l n < l.length := by
  unfold fndB idxF at h ⊢
  cases h2 : l.findIdx? (fun x => defM x n) with
  | none => rw [h2] at h; exact absurd h (by decide)
  | some i =>
    rw [List.findIdx?_eq_some_iff_getElem] at h2
    obtain ⟨h3, _⟩ := h2
    show (i : Int) < _
    omega
end Go.Proofs.Ytenlmckahaniiaa.Lb
end
section
namespace Go.Proofs.Ytenlmckahaniiaa.K
open Go.RowKit Go.Proofs.YtenlmckahaniiaaW.PrintWords Go.Proofs.YtenlmckahaniiaaW.PrintLast
mutual
def zqm.l0 : Nat → List (S25) → List (S25) → ByteArray → Bool → Int → Option (ByteArray × Bool)
  | 0, _, _, _, _, _ => none
  | k + 1, x0, x1, x6, x7, x8 => if x8 < (x1.length : Int) then (if 0 ≤ x8 then ((zqi.f k ((y0q x1 x8).f0) ((y0q x1 x8).f1) ((y0q x1 x8).f2) ((y0q x1 x8).f3) ((y0q x1 x8).f4) ((y0q x1 x8).f5)).bind fun t962 => (zqm.l1 k x0 x1 x6 x7 x8 t962 0)) else (none)) else (some (x6, x7))
def zqm.l1 : Nat → List (S25) → List (S25) → ByteArray → Bool → Int → List ByteArray → Int → Option (ByteArray × Bool)
  | 0, _, _, _, _, _, _, _ => none
  | k + 1, x0, x1, x6, x7, x8, x9, x10 => if x10 < (x9.length : Int) then (if 0 ≤ x10 then ((zqt.f k x1 (rdOf ByteArray.empty x9 x10)).bind fun bt966 => ((zqt.f k x0 (rdOf ByteArray.empty x9 x10)).bind fun bt969 => (if bt966.2 = true then (zqm.l1 k x0 x1 x6 x7 x8 x9 (wrap64 (x10 + 1))) else (if bt969.2 = true then (if x7 = true then (if (Op.bytesLess ((rdOf ByteArray.empty x9 x10).toList) x6.toList) = true then (zqm.l1 k x0 x1 (rdOf ByteArray.empty x9 x10) true x8 x9 (wrap64 (x10 + 1))) else (zqm.l1 k x0 x1 x6 x7 x8 x9 (wrap64 (x10 + 1)))) else (zqm.l1 k x0 x1 (rdOf ByteArray.empty x9 x10) true x8 x9 (wrap64 (x10 + 1)))) else (zqm.l1 k x0 x1 x6 x7 x8 x9 (wrap64 (x10 + 1))))))) else (none)) else (zqm.l0 k x0 x1 x6 x7 (wrap64 (x8 + 1)))
end
def zqm.f (k : Nat) (l0 : List (S25)) (l1 : List (S25)) : Option (ByteArray × Bool) := zqm.l0 k l0 l1 (⟨#[]⟩ : ByteArray) false 0
theorem zqm.calls (k : Nat) (A0 : Option Addr) (c0 : Nat) (l0 : List (S25)) (A1 : Option Addr) (c1 : Nat) (l1 : List (S25)) (r1 : ByteArray) (r2 : Bool) (w : World) (hr0 : Kd.C k25 w A0 l0.length l0) (hc0 : l0.length ≤ c0) (hr1 : Kd.C k25 w A1 l1.length l1) (hc1 : l1.length ≤ c1) (h : zqm.f k l0 l1 = some (r1, r2)) :
  Calls Try.prog 85 #[.slice A0 l0.length c0, .slice A1 l1.length c1] w fun e w' => e = .returned (.tuple #[.string r1, .bool r2]) ∧ Below w.heap.size w w' := by
 have hu25 := Try.underlying25
 have HR0 := q_ hr0
 have HC0 := q_ hc0
 clear hr0 hc0
 have HR1 := q_ hr1
 have HC1 := q_ hc1
 clear hr1 hc1
 have HB := q_ (Below.refl w.heap.size w)
 have H : (zqm.l0 k l0 l1 (⟨#[]⟩ : ByteArray) false 0) = some (r1, r2) := h
 clear h
 have H' := q_ H
 clear H
 go_enter Try.func85, Try.ntmps85
 go_wp2
 go_loopg [6, 7, 8] k (fun kq v6 v7 v8 w' => ∃ (x6_1 : ByteArray) (x7_1 : Bool) (x8_1 : Int), v6 = .string x6_1 ∧ v7 = .bool x7_1 ∧ v8 = .int .i64 x8_1 ∧ Aside0 (zqm.l0 kq l0 l1 x6_1 x7_1 x8_1 = some (r1, r2)) ∧ Aside0 (kq ≤ k) ∧ Aside0 (Below w.heap.size w w'))
 case atStart => exact ⟨((⟨#[]⟩ : ByteArray)), (false), (0), cl_, cl_, cl_, H', ⟨Nat.le_refl _⟩, ⟨hb_⟩⟩
 case round =>
  clear H'
  obtain ⟨x6_1, x7_1, x8_1, rfl, rfl, rfl, HA, HK1, HB⟩ := hrel
  cases gk with
  | zero => exact absurd HA.out (by simp [zqm.l0])
  | succ k1 =>
   have H := HA.out
   clear HA
   simp only [zqm.l0] at H
   by_cases c3 : x8_1 < (l1.length : Int)
   rotate_left
   ·rw [if_neg c3] at H
    have c3b0 : decide (x8_1 < (l1.length : Int)) = false := decide_eq_false c3
    clear c3
    simp only [Option.some.injEq, Prod.mk.injEq] at H
    obtain ⟨rfl, rfl⟩ := H
    go_wp2
    go_ret2
    exact ⟨ew_, hb_⟩
   rw [if_pos c3] at H
   have c3b0 : decide (x8_1 < (l1.length : Int)) = true := decide_eq_true c3
   clear c3
   by_cases c4 : 0 ≤ x8_1
   rotate_left
   ·rw [if_neg c4] at H
    exact absurd H (by simp)
   rw [if_pos c4] at H
   have c4b0 : decide (0 ≤ x8_1) = true := decide_eq_true c4
   clear c4
   replace H := Option.bind_eq_some_iff.mp H
   obtain ⟨t962, A50, H⟩ := H
   (try dsimp only at H)
   have A5 := q_ A50
   clear A50
   have H' := q_ H
   clear H
   have p961 : 0 ≤ (x8_1 : Int) := oa_
   have q961 : x8_1 < (l1.length : Int) := oa_
   obtain ⟨ad961, A961_4, c961_4, A961_5, c961_5, e961, hx961_0, hx961_1, hx961_2, hx961_3, hx961_4, hx961_5, hl961_4, hi961_4, hl961_5, hi961_5⟩ := at_T25 HR1.out x8_1 p961 q961
   cases e961
   replace hx961_0 := cb_ HB.out hx961_0
   replace hx961_1 := cb_ HB.out hx961_1
   replace hx961_2 := cb_ HB.out hx961_2
   replace hx961_3 := cb_ HB.out hx961_3
   replace hx961_4 := cb_ HB.out hx961_4
   replace hx961_5 := cb_ HB.out hx961_5
   have HR961_4 := q_ hi961_4
   have HC961_4 := q_ hl961_4
   clear hi961_4 hl961_4
   have HR961_5 := q_ hi961_5
   have HC961_5 := q_ hl961_5
   clear hi961_5 hl961_5
   replace p961 := eq_true p961
   replace q961 := eq_true q961
   go_wp2_with (first | ((with_reducible refine y0j (f := 28) rfl ?_); refine goesL_ (some 25) rfl rfl Try.func28 (by kernel_rfl) rfl #[.agg #[.string ((y0q l1 x8_1).f0), .string ((y0q l1 x8_1).f1), .string ((y0q l1 x8_1).f2), .int .i64 ((y0q l1 x8_1).f3), .slice A961_4 ((y0q l1 x8_1).f4).length c961_4, .slice A961_5 ((y0q l1 x8_1).f5).length c961_5]] rfl ar_ ?_; (with_reducible refine (zqi.calls k1 ((y0q l1 x8_1).f0) ((y0q l1 x8_1).f1) ((y0q l1 x8_1).f2) ((y0q l1 x8_1).f3) _ _ ((y0q l1 x8_1).f4) _ _ ((y0q l1 x8_1).f5) t962 _ ?side1 ?side2 ?side3 ?side4 A5.out).mono ?_); (case side1 => exact ck_ (Kd.C_below HR961_4.out HB.out)); (case side2 => exact HC961_4.out); (case side3 => exact ck_ (Kd.C_below HR961_5.out HB.out)); (case side4 => exact HC961_5.out); rintro e w6 ⟨v963, rfl, ho0, hb⟩; refine ⟨_, rfl, ?_⟩; have n0_ := q_ (Kd.R_lower ho0 (y04 hb_)); have n1_ := q_ (y05 hb_ hb); clear HB; have HO964 := n0_; have HB := n1_; clear n0_ n1_; clear hb; clear ho0))
   go_loopg [6, 7, 10] k1 (fun kq v6 v7 v10 w' => ∃ (x6_2 : ByteArray) (x7_2 : Bool) (x10_2 : Int), v6 = .string x6_2 ∧ v7 = .bool x7_2 ∧ v10 = .int .i64 x10_2 ∧ Aside0 (zqm.l1 kq l0 l1 x6_2 x7_2 x8_1 t962 x10_2 = some (r1, r2)) ∧ Aside0 (kq ≤ k1) ∧ Aside0 (Kd.R Kd.string 9 w' w.heap.size (fun _ => True) v963 t962) ∧ Aside0 (Below w.heap.size w w'))
   case atStart => exact ⟨(x6_1), (x7_1), (0), cl_, cl_, cl_, H', ⟨Nat.le_refl _⟩, ⟨rk_ HO964.out⟩, ⟨hb_⟩⟩
   case round =>
    clear H'
    clear c3b0; clear c4b0; clear hx961_0; clear hx961_1; clear hx961_2; clear hx961_3; clear hx961_4; clear hx961_5; clear p961; clear q961
    obtain ⟨x6_2, x7_2, x10_2, rfl, rfl, rfl, HA, HK2, HO_9, HB⟩ := hrel
    cases gk with
    | zero => exact absurd HA.out (by simp [zqm.l1])
    | succ k2 =>
     have H := HA.out
     clear HA
     simp only [zqm.l1] at H
     by_cases c7 : x10_2 < (t962.length : Int)
     rotate_left
     ·rw [if_neg c7] at H
      have c7b0 : decide (x10_2 < (t962.length : Int)) = false := decide_eq_false c7
      clear c7
      have H' := q_ H
      clear H
      obtain ⟨Ao30, co30, eo30⟩ := Kd.R_slice HO_9.out
      subst eo30
      go_wp2
      go_roundg k2
      case measure => have := HK1.out; have := HK2.out; omega
      case rel => exact ⟨(x6_2), (x7_2), (wrap64 (x8_1 + 1)), cl_, cl_, cl_, H', ⟨by have := HK1.out; have := HK2.out; omega⟩, ⟨hb_⟩⟩
     rw [if_pos c7] at H
     have c7b0 : decide (x10_2 < (t962.length : Int)) = true := decide_eq_true c7
     clear c7
     by_cases c8 : 0 ≤ x10_2
     rotate_left
     ·rw [if_neg c8] at H
      exact absurd H (by simp)
     rw [if_pos c8] at H
     have c8b0 : decide (0 ≤ x10_2) = true := decide_eq_true c8
     clear c8
     replace H := Option.bind_eq_some_iff.mp H
     obtain ⟨⟨t966, t967⟩, A90, H⟩ := H
     (try dsimp only at H)
     have A9 := q_ A90
     clear A90
     replace H := Option.bind_eq_some_iff.mp H
     obtain ⟨⟨t969, t970⟩, A100, H⟩ := H
     (try dsimp only at H)
     have A10 := q_ A100
     clear A100
     by_cases c11 : t967 = true
     ·subst c11
      rw [if_pos rfl] at H
      have H' := q_ H
      clear H
      obtain ⟨Ao12, co12, eo12⟩ := Kd.R_slice HO_9.out
      subst eo12
      have p965 : 0 ≤ (x10_2 : Int) := oa_
      have q965 : x10_2 < (t962.length : Int) := oa_
      obtain ⟨ad965, e965, hx965_0⟩ := Kd.at_string (Kd.R_reads' HO_9.out).2.2 x10_2 p965 q965
      cases e965
      replace p965 := eq_true p965
      replace q965 := eq_true q965
      go_wp2_with (first | ((with_reducible refine y0j (f := 33) rfl ?_); refine goesL_ (some 38) rfl rfl Try.func33 (by kernel_rfl) rfl #[.slice (some ad961) l1.length c1, .string (rdOf ByteArray.empty t962 x10_2)] rfl ar_ ?_; (with_reducible refine (zqt.calls k2 _ _ l1 (rdOf ByteArray.empty t962 x10_2) t966 true _ ?side1 ?side2 A9.out).mono ?_); (case side1 => exact ck_ (Kd.C_below HR1.out HB.out)); (case side2 => exact HC1.out); rintro e w13 ⟨rfl, hb⟩; refine ⟨_, rfl, ?_⟩; have n0_ := q_ (Kd.R_below (rk_ HO_9.out) hb); have n1_ := q_ (y05 hb_ hb); clear HO_9 HB; have HO_9 := n0_; have HB := n1_; clear n0_ n1_; clear hb; have p968 : 0 ≤ (x10_2 : Int) := oa_; have q968 : x10_2 < (t962.length : Int) := oa_; obtain ⟨ad968, e968, hx968_0⟩ := Kd.at_string (Kd.R_reads' HO_9.out).2.2 x10_2 p968 q968; obtain rfl : ad965 = ad968 := (by injection e968); replace p968 := eq_true p968; replace q968 := eq_true q968) | ((with_reducible refine y0j (f := 33) rfl ?_); refine goesL_ (some 47) rfl rfl Try.func33 (by kernel_rfl) rfl #[.slice A0 l0.length c0, .string (rdOf ByteArray.empty t962 x10_2)] rfl ar_ ?_; (with_reducible refine (zqt.calls k2 _ _ l0 (rdOf ByteArray.empty t962 x10_2) t969 t970 _ ?side1 ?side2 A10.out).mono ?_); (case side1 => exact ck_ (Kd.C_below HR0.out HB.out)); (case side2 => exact HC0.out); rintro e w14 ⟨rfl, hb⟩; refine ⟨_, rfl, ?_⟩; have n0_ := q_ (Kd.R_below (rk_ HO_9.out) hb); have n1_ := q_ (y05 hb_ hb); clear HO_9 HB; have HO_9 := n0_; have HB := n1_; clear n0_ n1_; clear hb))
      go_roundg k2
      case measure => have := HK1.out; have := HK2.out; omega
      case rel => exact ⟨(x6_2), (x7_2), (wrap64 (x10_2 + 1)), cl_, cl_, cl_, H', ⟨by have := HK1.out; have := HK2.out; omega⟩, ⟨rk_ HO_9.out⟩, ⟨hb_⟩⟩
     replace c11 := Bool.eq_false_iff.mpr c11
     subst c11
     rw [if_neg (show ¬ (false = true) by decide)] at H
     by_cases c15 : t970 = true
     rotate_left
     ·replace c15 := Bool.eq_false_iff.mpr c15
      subst c15
      rw [if_neg (show ¬ (false = true) by decide)] at H
      have H' := q_ H
      clear H
      obtain ⟨Ao27, co27, eo27⟩ := Kd.R_slice HO_9.out
      subst eo27
      have p965 : 0 ≤ (x10_2 : Int) := oa_
      have q965 : x10_2 < (t962.length : Int) := oa_
      obtain ⟨ad965, e965, hx965_0⟩ := Kd.at_string (Kd.R_reads' HO_9.out).2.2 x10_2 p965 q965
      cases e965
      replace p965 := eq_true p965
      replace q965 := eq_true q965
      go_wp2_with (first | ((with_reducible refine y0j (f := 33) rfl ?_); refine goesL_ (some 38) rfl rfl Try.func33 (by kernel_rfl) rfl #[.slice (some ad961) l1.length c1, .string (rdOf ByteArray.empty t962 x10_2)] rfl ar_ ?_; (with_reducible refine (zqt.calls k2 _ _ l1 (rdOf ByteArray.empty t962 x10_2) t966 false _ ?side1 ?side2 A9.out).mono ?_); (case side1 => exact ck_ (Kd.C_below HR1.out HB.out)); (case side2 => exact HC1.out); rintro e w28 ⟨rfl, hb⟩; refine ⟨_, rfl, ?_⟩; have n0_ := q_ (Kd.R_below (rk_ HO_9.out) hb); have n1_ := q_ (y05 hb_ hb); clear HO_9 HB; have HO_9 := n0_; have HB := n1_; clear n0_ n1_; clear hb; have p968 : 0 ≤ (x10_2 : Int) := oa_; have q968 : x10_2 < (t962.length : Int) := oa_; obtain ⟨ad968, e968, hx968_0⟩ := Kd.at_string (Kd.R_reads' HO_9.out).2.2 x10_2 p968 q968; obtain rfl : ad965 = ad968 := (by injection e968); replace p968 := eq_true p968; replace q968 := eq_true q968) | ((with_reducible refine y0j (f := 33) rfl ?_); refine goesL_ (some 47) rfl rfl Try.func33 (by kernel_rfl) rfl #[.slice A0 l0.length c0, .string (rdOf ByteArray.empty t962 x10_2)] rfl ar_ ?_; (with_reducible refine (zqt.calls k2 _ _ l0 (rdOf ByteArray.empty t962 x10_2) t969 false _ ?side1 ?side2 A10.out).mono ?_); (case side1 => exact ck_ (Kd.C_below HR0.out HB.out)); (case side2 => exact HC0.out); rintro e w29 ⟨rfl, hb⟩; refine ⟨_, rfl, ?_⟩; have n0_ := q_ (Kd.R_below (rk_ HO_9.out) hb); have n1_ := q_ (y05 hb_ hb); clear HO_9 HB; have HO_9 := n0_; have HB := n1_; clear n0_ n1_; clear hb))
      go_roundg k2
      case measure => have := HK1.out; have := HK2.out; omega
      case rel => exact ⟨(x6_2), (x7_2), (wrap64 (x10_2 + 1)), cl_, cl_, cl_, H', ⟨by have := HK1.out; have := HK2.out; omega⟩, ⟨rk_ HO_9.out⟩, ⟨hb_⟩⟩
     subst c15
     rw [if_pos rfl] at H
     by_cases c16 : x7_2 = true
     rotate_left
     ·replace c16 := Bool.eq_false_iff.mpr c16
      subst c16
      rw [if_neg (show ¬ (false = true) by decide)] at H
      have H' := q_ H
      clear H
      obtain ⟨Ao24, co24, eo24⟩ := Kd.R_slice HO_9.out
      subst eo24
      have p965 : 0 ≤ (x10_2 : Int) := oa_
      have q965 : x10_2 < (t962.length : Int) := oa_
      obtain ⟨ad965, e965, hx965_0⟩ := Kd.at_string (Kd.R_reads' HO_9.out).2.2 x10_2 p965 q965
      cases e965
      replace p965 := eq_true p965
      replace q965 := eq_true q965
      go_wp2_with (first | ((with_reducible refine y0j (f := 33) rfl ?_); refine goesL_ (some 38) rfl rfl Try.func33 (by kernel_rfl) rfl #[.slice (some ad961) l1.length c1, .string (rdOf ByteArray.empty t962 x10_2)] rfl ar_ ?_; (with_reducible refine (zqt.calls k2 _ _ l1 (rdOf ByteArray.empty t962 x10_2) t966 false _ ?side1 ?side2 A9.out).mono ?_); (case side1 => exact ck_ (Kd.C_below HR1.out HB.out)); (case side2 => exact HC1.out); rintro e w25 ⟨rfl, hb⟩; refine ⟨_, rfl, ?_⟩; have n0_ := q_ (Kd.R_below (rk_ HO_9.out) hb); have n1_ := q_ (y05 hb_ hb); clear HO_9 HB; have HO_9 := n0_; have HB := n1_; clear n0_ n1_; clear hb; have p968 : 0 ≤ (x10_2 : Int) := oa_; have q968 : x10_2 < (t962.length : Int) := oa_; obtain ⟨ad968, e968, hx968_0⟩ := Kd.at_string (Kd.R_reads' HO_9.out).2.2 x10_2 p968 q968; obtain rfl : ad965 = ad968 := (by injection e968); replace p968 := eq_true p968; replace q968 := eq_true q968) | ((with_reducible refine y0j (f := 33) rfl ?_); refine goesL_ (some 47) rfl rfl Try.func33 (by kernel_rfl) rfl #[.slice A0 l0.length c0, .string (rdOf ByteArray.empty t962 x10_2)] rfl ar_ ?_; (with_reducible refine (zqt.calls k2 _ _ l0 (rdOf ByteArray.empty t962 x10_2) t969 true _ ?side1 ?side2 A10.out).mono ?_); (case side1 => exact ck_ (Kd.C_below HR0.out HB.out)); (case side2 => exact HC0.out); rintro e w26 ⟨rfl, hb⟩; refine ⟨_, rfl, ?_⟩; have n0_ := q_ (Kd.R_below (rk_ HO_9.out) hb); have n1_ := q_ (y05 hb_ hb); clear HO_9 HB; have HO_9 := n0_; have HB := n1_; clear n0_ n1_; clear hb; have p973 : 0 ≤ (x10_2 : Int) := oa_; have q973 : x10_2 < (t962.length : Int) := oa_; obtain ⟨ad973, e973, hx973_0⟩ := Kd.at_string (Kd.R_reads' HO_9.out).2.2 x10_2 p973 q973; obtain rfl : ad965 = ad973 := (by injection e973); replace p973 := eq_true p973; replace q973 := eq_true q973))
      go_roundg k2
      case measure => have := HK1.out; have := HK2.out; omega
      case rel => exact ⟨(rdOf ByteArray.empty t962 x10_2), (true), (wrap64 (x10_2 + 1)), cl_, cl_, cl_, H', ⟨by have := HK1.out; have := HK2.out; omega⟩, ⟨rk_ HO_9.out⟩, ⟨hb_⟩⟩
     subst c16
     rw [if_pos rfl] at H
     by_cases c17 : (Op.bytesLess ((rdOf ByteArray.empty t962 x10_2).toList) x6_2.toList) = true
     ·rw [if_pos c17] at H
      have c17b0 : (Op.bytesLess ((rdOf ByteArray.empty t962 x10_2).toList) x6_2.toList) = true := c17
      clear c17
      have H' := q_ H
      clear H
      obtain ⟨Ao18, co18, eo18⟩ := Kd.R_slice HO_9.out
      subst eo18
      have p965 : 0 ≤ (x10_2 : Int) := oa_
      have q965 : x10_2 < (t962.length : Int) := oa_
      obtain ⟨ad965, e965, hx965_0⟩ := Kd.at_string (Kd.R_reads' HO_9.out).2.2 x10_2 p965 q965
      cases e965
      replace p965 := eq_true p965
      replace q965 := eq_true q965
      go_wp2_with (first | ((with_reducible refine y0j (f := 33) rfl ?_); refine goesL_ (some 38) rfl rfl Try.func33 (by kernel_rfl) rfl #[.slice (some ad961) l1.length c1, .string (rdOf ByteArray.empty t962 x10_2)] rfl ar_ ?_; (with_reducible refine (zqt.calls k2 _ _ l1 (rdOf ByteArray.empty t962 x10_2) t966 false _ ?side1 ?side2 A9.out).mono ?_); (case side1 => exact ck_ (Kd.C_below HR1.out HB.out)); (case side2 => exact HC1.out); rintro e w19 ⟨rfl, hb⟩; refine ⟨_, rfl, ?_⟩; have n0_ := q_ (Kd.R_below (rk_ HO_9.out) hb); have n1_ := q_ (y05 hb_ hb); clear HO_9 HB; have HO_9 := n0_; have HB := n1_; clear n0_ n1_; clear hb; have p968 : 0 ≤ (x10_2 : Int) := oa_; have q968 : x10_2 < (t962.length : Int) := oa_; obtain ⟨ad968, e968, hx968_0⟩ := Kd.at_string (Kd.R_reads' HO_9.out).2.2 x10_2 p968 q968; obtain rfl : ad965 = ad968 := (by injection e968); replace p968 := eq_true p968; replace q968 := eq_true q968) | ((with_reducible refine y0j (f := 33) rfl ?_); refine goesL_ (some 47) rfl rfl Try.func33 (by kernel_rfl) rfl #[.slice A0 l0.length c0, .string (rdOf ByteArray.empty t962 x10_2)] rfl ar_ ?_; (with_reducible refine (zqt.calls k2 _ _ l0 (rdOf ByteArray.empty t962 x10_2) t969 true _ ?side1 ?side2 A10.out).mono ?_); (case side1 => exact ck_ (Kd.C_below HR0.out HB.out)); (case side2 => exact HC0.out); rintro e w20 ⟨rfl, hb⟩; refine ⟨_, rfl, ?_⟩; have n0_ := q_ (Kd.R_below (rk_ HO_9.out) hb); have n1_ := q_ (y05 hb_ hb); clear HO_9 HB; have HO_9 := n0_; have HB := n1_; clear n0_ n1_; clear hb; have p971 : 0 ≤ (x10_2 : Int) := oa_; have q971 : x10_2 < (t962.length : Int) := oa_; obtain ⟨ad971, e971, hx971_0⟩ := Kd.at_string (Kd.R_reads' HO_9.out).2.2 x10_2 p971 q971; obtain rfl : ad965 = ad971 := (by injection e971); replace p971 := eq_true p971; replace q971 := eq_true q971; have p972 : 0 ≤ (x10_2 : Int) := oa_; have q972 : x10_2 < (t962.length : Int) := oa_; obtain ⟨ad972, e972, hx972_0⟩ := Kd.at_string (Kd.R_reads' HO_9.out).2.2 x10_2 p972 q972; obtain rfl : ad965 = ad972 := (by injection e972); replace p972 := eq_true p972; replace q972 := eq_true q972))
      go_roundg k2
      case measure => have := HK1.out; have := HK2.out; omega
      case rel => exact ⟨(rdOf ByteArray.empty t962 x10_2), (true), (wrap64 (x10_2 + 1)), cl_, cl_, cl_, H', ⟨by have := HK1.out; have := HK2.out; omega⟩, ⟨rk_ HO_9.out⟩, ⟨hb_⟩⟩
     rw [if_neg c17] at H
     have c17b0 : (Op.bytesLess ((rdOf ByteArray.empty t962 x10_2).toList) x6_2.toList) = false := by simpa using c17
     clear c17
     have H' := q_ H
     clear H
     obtain ⟨Ao21, co21, eo21⟩ := Kd.R_slice HO_9.out
     subst eo21
     have p965 : 0 ≤ (x10_2 : Int) := oa_
     have q965 : x10_2 < (t962.length : Int) := oa_
     obtain ⟨ad965, e965, hx965_0⟩ := Kd.at_string (Kd.R_reads' HO_9.out).2.2 x10_2 p965 q965
     cases e965
     replace p965 := eq_true p965
     replace q965 := eq_true q965
     go_wp2_with (first | ((with_reducible refine y0j (f := 33) rfl ?_); refine goesL_ (some 38) rfl rfl Try.func33 (by kernel_rfl) rfl #[.slice (some ad961) l1.length c1, .string (rdOf ByteArray.empty t962 x10_2)] rfl ar_ ?_; (with_reducible refine (zqt.calls k2 _ _ l1 (rdOf ByteArray.empty t962 x10_2) t966 false _ ?side1 ?side2 A9.out).mono ?_); (case side1 => exact ck_ (Kd.C_below HR1.out HB.out)); (case side2 => exact HC1.out); rintro e w22 ⟨rfl, hb⟩; refine ⟨_, rfl, ?_⟩; have n0_ := q_ (Kd.R_below (rk_ HO_9.out) hb); have n1_ := q_ (y05 hb_ hb); clear HO_9 HB; have HO_9 := n0_; have HB := n1_; clear n0_ n1_; clear hb; have p968 : 0 ≤ (x10_2 : Int) := oa_; have q968 : x10_2 < (t962.length : Int) := oa_; obtain ⟨ad968, e968, hx968_0⟩ := Kd.at_string (Kd.R_reads' HO_9.out).2.2 x10_2 p968 q968; obtain rfl : ad965 = ad968 := (by injection e968); replace p968 := eq_true p968; replace q968 := eq_true q968) | ((with_reducible refine y0j (f := 33) rfl ?_); refine goesL_ (some 47) rfl rfl Try.func33 (by kernel_rfl) rfl #[.slice A0 l0.length c0, .string (rdOf ByteArray.empty t962 x10_2)] rfl ar_ ?_; (with_reducible refine (zqt.calls k2 _ _ l0 (rdOf ByteArray.empty t962 x10_2) t969 true _ ?side1 ?side2 A10.out).mono ?_); (case side1 => exact ck_ (Kd.C_below HR0.out HB.out)); (case side2 => exact HC0.out); rintro e w23 ⟨rfl, hb⟩; refine ⟨_, rfl, ?_⟩; have n0_ := q_ (Kd.R_below (rk_ HO_9.out) hb); have n1_ := q_ (y05 hb_ hb); clear HO_9 HB; have HO_9 := n0_; have HB := n1_; clear n0_ n1_; clear hb; have p971 : 0 ≤ (x10_2 : Int) := oa_; have q971 : x10_2 < (t962.length : Int) := oa_; obtain ⟨ad971, e971, hx971_0⟩ := Kd.at_string (Kd.R_reads' HO_9.out).2.2 x10_2 p971 q971; obtain rfl : ad965 = ad971 := (by injection e971); replace p971 := eq_true p971; replace q971 := eq_true q971))
     go_roundg k2
     case measure => have := HK1.out; have := HK2.out; omega
     case rel => exact ⟨(x6_2), (true), (wrap64 (x10_2 + 1)), cl_, cl_, cl_, H', ⟨by have := HK1.out; have := HK2.out; omega⟩, ⟨rk_ HO_9.out⟩, ⟨hb_⟩⟩
end Go.Proofs.Ytenlmckahaniiaa.K
end
