/- Lemmas for several laws: what their proofs need of this seat's texts, in one place. -/
import Derived.Test.YtenlmckahaniiaaZcLess1
set_option linter.unusedVariables false
set_option linter.unusedSimpArgs false
set_option linter.unusedSectionVars false
set_option maxHeartbeats 8000000
set_option maxRecDepth 100000
section
namespace Go.Proofs.Ytenlmckahaniiaa.K
open Go.RowKit Go.Proofs.YtenlmckahaniiaaW.PrintWords Go.Proofs.YtenlmckahaniiaaW.PrintLast
mutual
def zql.j0 : Nat → ByteArray → Bool → Option (Bool)
  | 0, _, _ => none
  | k + 1, x0, x21 => if x21 = true then (some false) else (if (x0.size : Int) ≤ 9223372036854775807 then ((some (bytesOf x0 : List Int)).bind fun y106 => (zql.l0 k y106 (y106.length : Int) 0)) else (none))
def zql.l0 : Nat → List Int → Int → Int → Option (Bool)
  | 0, _, _, _ => none
  | k + 1, x23, x24, x25 => if x25 < x24 then (if 0 ≤ x25 then (if x25 < (x23.length : Int) then (if (rd x23 x25) ≥ 97 then (if (rd x23 x25) ≤ 122 then (zql.l0 k x23 x24 (wrap64 (x25 + 1))) else (if (rd x23 x25) ≥ 65 then (if (rd x23 x25) ≤ 90 then (zql.l0 k x23 x24 (wrap64 (x25 + 1))) else (if (rd x23 x25) ≥ 48 then (if (rd x23 x25) ≤ 57 then (zql.l0 k x23 x24 (wrap64 (x25 + 1))) else ((zqi.f (⟨#[95, 46, 36]⟩ : ByteArray) (rd x23 x25)).bind fun t110 => (if t110 ≥ 0 then (zql.l0 k x23 x24 (wrap64 (x25 + 1))) else (some false)))) else ((zqi.f (⟨#[95, 46, 36]⟩ : ByteArray) (rd x23 x25)).bind fun t111 => (if t111 ≥ 0 then (zql.l0 k x23 x24 (wrap64 (x25 + 1))) else (some false))))) else (if (rd x23 x25) ≥ 48 then (if (rd x23 x25) ≤ 57 then (zql.l0 k x23 x24 (wrap64 (x25 + 1))) else ((zqi.f (⟨#[95, 46, 36]⟩ : ByteArray) (rd x23 x25)).bind fun t112 => (if t112 ≥ 0 then (zql.l0 k x23 x24 (wrap64 (x25 + 1))) else (some false)))) else ((zqi.f (⟨#[95, 46, 36]⟩ : ByteArray) (rd x23 x25)).bind fun t113 => (if t113 ≥ 0 then (zql.l0 k x23 x24 (wrap64 (x25 + 1))) else (some false)))))) else (if (rd x23 x25) ≥ 65 then (if (rd x23 x25) ≤ 90 then (zql.l0 k x23 x24 (wrap64 (x25 + 1))) else (if (rd x23 x25) ≥ 48 then (if (rd x23 x25) ≤ 57 then (zql.l0 k x23 x24 (wrap64 (x25 + 1))) else ((zqi.f (⟨#[95, 46, 36]⟩ : ByteArray) (rd x23 x25)).bind fun t114 => (if t114 ≥ 0 then (zql.l0 k x23 x24 (wrap64 (x25 + 1))) else (some false)))) else ((zqi.f (⟨#[95, 46, 36]⟩ : ByteArray) (rd x23 x25)).bind fun t115 => (if t115 ≥ 0 then (zql.l0 k x23 x24 (wrap64 (x25 + 1))) else (some false))))) else (if (rd x23 x25) ≥ 48 then (if (rd x23 x25) ≤ 57 then (zql.l0 k x23 x24 (wrap64 (x25 + 1))) else ((zqi.f (⟨#[95, 46, 36]⟩ : ByteArray) (rd x23 x25)).bind fun t116 => (if t116 ≥ 0 then (zql.l0 k x23 x24 (wrap64 (x25 + 1))) else (some false)))) else ((zqi.f (⟨#[95, 46, 36]⟩ : ByteArray) (rd x23 x25)).bind fun t117 => (if t117 ≥ 0 then (zql.l0 k x23 x24 (wrap64 (x25 + 1))) else (some false)))))) else (none)) else (none)) else (some true)
end
def zql.f (k : Nat) (a0 : ByteArray) : Option (Bool) := if a0.toList = ([] : List UInt8) then (zql.j0 k a0 true) else (if (a0.size : Int) > 14 then (zql.j0 k a0 true) else (if 0 < (a0.size : Int) then (if (bt a0 0) ≥ 48 then (zql.j0 k a0 (decide ((bt a0 0) ≤ 57))) else (zql.j0 k a0 false)) else (none)))
theorem zql.mono_l : ∀ k, (∀ y0 y1, LeO (zql.j0 k y0 y1) (zql.j0 (k + 1) y0 y1)) ∧ (∀ y0 y1 y2, LeO (zql.l0 k y0 y1 y2) (zql.l0 (k + 1) y0 y1 y2))
 | 0 => ⟨fun _ _ r h => by simp [zql.j0] at h, fun _ _ _ r h => by simp [zql.l0] at h⟩
 | k + 1 => by
  obtain ⟨ih0, ih1⟩ := zql.mono_l k
  refine ⟨?_, ?_⟩
  ·intro y0 y1
   unfold zql.j0
   repeat' first
   | (with_reducible exact ih0 _ _)
   | (with_reducible exact ih1 _ _ _)
   | (with_reducible exact LeO.refl _)
   | (with_reducible exact LeO.none _)
   | (with_reducible refine LeO.ite ?_ ?_)
   | (with_reducible refine LeO.bind ?_ (fun _ => ?_))
   | exact ih0 _ _
   | exact ih1 _ _ _
   | exact LeO.none _
   | refine LeO.ite ?_ ?_
   | refine LeO.bind ?_ (fun _ => ?_)
  ·intro y0 y1 y2
   unfold zql.l0
   repeat' first
   | (with_reducible exact ih0 _ _)
   | (with_reducible exact ih1 _ _ _)
   | (with_reducible exact LeO.refl _)
   | (with_reducible exact LeO.none _)
   | (with_reducible refine LeO.ite ?_ ?_)
   | (with_reducible refine LeO.bind ?_ (fun _ => ?_))
   | exact ih0 _ _
   | exact ih1 _ _ _
   | exact LeO.none _
   | refine LeO.ite ?_ ?_
   | refine LeO.bind ?_ (fun _ => ?_)
theorem zql.mono : ∀ a0 k, LeO (zql.f k a0) (zql.f (k + 1) a0) := by
 intro a0 k
 obtain ⟨ih0, ih1⟩ := zql.mono_l k
 unfold zql.f
 repeat' first
   | (with_reducible exact ih0 _ _)
   | (with_reducible exact ih1 _ _ _)
   | (with_reducible exact LeO.refl _)
   | (with_reducible exact LeO.none _)
   | (with_reducible refine LeO.ite ?_ ?_)
   | (with_reducible refine LeO.bind ?_ (fun _ => ?_))
   | exact ih0 _ _
   | exact ih1 _ _ _
   | exact LeO.none _
   | refine LeO.ite ?_ ?_
   | refine LeO.bind ?_ (fun _ => ?_)
theorem zql.calls (k : Nat) (a0 : ByteArray) (r : Bool) (w : World) (h : zql.f k a0 = some r) :
  Calls Try.prog 48 #[.string a0] w fun e w' => e = .returned (.bool r) ∧ Below w.heap.size w w' := by
 have HB := Aside0.mk (Below.refl w.heap.size w)
 have H : (if a0.toList = ([] : List UInt8) then (zql.j0 k a0 true) else (if (a0.size : Int) > 14 then (zql.j0 k a0 true) else (if 0 < (a0.size : Int) then (if (bt a0 0) ≥ 48 then (zql.j0 k a0 (decide ((bt a0 0) ≤ 57))) else (zql.j0 k a0 false)) else (none)))) = some r := h
 clear h
 have HC2 := Aside0.mk H
 clear H
 go_enter Try.func48, Try.ntmps48
 go_upto_region 1 with (fail)
 go_cut [21] (fun v21 wc => ∃ (kq : Nat) (x21_1 : Bool), v21 = .bool x21_1 ∧ Aside0 (zql.j0 kq a0 x21_1 = some r) ∧ Aside0 (kq ≤ k) ∧ Aside0 (Below w.heap.size w wc))
 case first =>
  have H := HC2.out
  clear HC2
  by_cases c3 : a0.toList = ([] : List UInt8)
  ·rw [if_pos c3] at H
   have c3b0 : (a0.toList == ([] : List UInt8)) = true := beq_iff_eq.mpr c3
   have c3b1 : (a0.toList != ([] : List UInt8)) = false := bne_eq_false_iff_eq.mpr c3
   clear c3
   (first | rw [c3b0] | (simp only [i64_w, i32_w]; rw [c3b0]) | skip)
   have H' := Aside0.mk H
   clear H
   go_wp2
   go_meet
   case rel => exact ⟨_, (true), cl_, H', ⟨by first | omega | exact Nat.le_refl _⟩, ⟨hb_⟩⟩
  ·rw [if_neg c3] at H
   have c3b0 : (a0.toList == ([] : List UInt8)) = false := beq_eq_false_iff_ne.mpr c3
   have c3b1 : (a0.toList != ([] : List UInt8)) = true := bne_iff_ne.mpr c3
   (first | rw [c3b0] | (simp only [i64_w, i32_w]; rw [c3b0]) | skip)
   by_cases c4 : (a0.size : Int) > 14
   ·rw [if_pos c4] at H
    have c4b0 : decide (14 < (a0.size : Int)) = true := decide_eq_true c4
    have c4b1 : decide (14 < a0.size) = true := decide_eq_true (by omega)
    clear c4
    have H' := Aside0.mk H
    clear H
    go_wp2
    go_meet
    case rel => exact ⟨_, (true), cl_, H', ⟨by first | omega | exact Nat.le_refl _⟩, ⟨hb_⟩⟩
   ·rw [if_neg c4] at H
    have c4b0 : decide (14 < (a0.size : Int)) = false := decide_eq_false c4
    have c4b1 : decide (14 < a0.size) = false := decide_eq_false (by omega)
    clear c4
    by_cases c5 : 0 < (a0.size : Int)
    ·rw [if_pos c5] at H
     have c5b0 : decide (0 < (a0.size : Int)) = true := decide_eq_true c5
     have c5b1 : decide (0 < a0.size) = true := decide_eq_true (by omega)
     clear c5
     by_cases c7 : (bt a0 0) ≥ 48
     ·rw [if_pos c7] at H
      have c7b0 : decide (48 ≤ (bt a0 0)) = true := decide_eq_true c7
      clear c7
      have H' := Aside0.mk H
      clear H
      have p6 : 0 ≤ (0 : Int) := (by omega)
      have q6 : 0 < a0.size := (by have : (0 : Int) < (a0.size : Int) := oa_; omega)
      have hx6 : ∀ h : 0 < a0.size, ((a0[0]'h).toNat : Int) = bt a0 0 := bt_at a0 0
      clear p6
      have qi6 : (0 < (a0.size : Int)) = True := eq_true (oa_)
      replace q6 := eq_true q6
      have p8 : 0 ≤ (0 : Int) := (by omega)
      have q8 : 0 < a0.size := (by have : (0 : Int) < (a0.size : Int) := oa_; omega)
      have hx8 : ∀ h : 0 < a0.size, ((a0[0]'h).toNat : Int) = bt a0 0 := bt_at a0 0
      clear p8
      have qi8 : (0 < (a0.size : Int)) = True := eq_true (oa_)
      replace q8 := eq_true q8
      go_wp2
      go_meet
      case rel => exact ⟨_, (decide ((bt a0 0) ≤ 57)), cl_, H', ⟨by first | omega | exact Nat.le_refl _⟩, ⟨hb_⟩⟩
     ·rw [if_neg c7] at H
      have c7b0 : decide (48 ≤ (bt a0 0)) = false := decide_eq_false c7
      clear c7
      have H' := Aside0.mk H
      clear H
      have p6 : 0 ≤ (0 : Int) := (by omega)
      have q6 : 0 < a0.size := (by have : (0 : Int) < (a0.size : Int) := oa_; omega)
      have hx6 : ∀ h : 0 < a0.size, ((a0[0]'h).toNat : Int) = bt a0 0 := bt_at a0 0
      clear p6
      have qi6 : (0 < (a0.size : Int)) = True := eq_true (oa_)
      replace q6 := eq_true q6
      go_wp2
      go_meet
      case rel => exact ⟨_, (false), cl_, H', ⟨by first | omega | exact Nat.le_refl _⟩, ⟨hb_⟩⟩
    ·rw [if_neg c5] at H
     exact absurd H (by simp)
 case rest =>
  clear HC2
  obtain ⟨kq, x21_1, rfl, HA, HJ1, HB⟩ := hcut
  cases kq with
  | zero => exact absurd HA.out (by simp [zql.j0])
  | succ kj1 =>
   have H := HA.out
   clear HA
   simp only [zql.j0] at H
   by_cases c9 : x21_1 = true
   ·subst c9
    have H1 : (some false) = some r := by rw [if_pos rfl] at H; exact H
    clear H
    have H := H1
    clear H1
    obtain rfl := Option.some.inj H
    go_wp2
    go_ret
    exact ⟨ew_, hb_⟩
   ·replace c9 := Bool.eq_false_iff.mpr c9
    subst c9
    have H1 : (if (a0.size : Int) ≤ 9223372036854775807 then ((some (bytesOf a0 : List Int)).bind fun y106 => (zql.l0 kj1 y106 (y106.length : Int) 0)) else (none)) = some r := by rw [if_neg (show ¬ (false = true) by decide)] at H; exact H
    clear H
    have H := H1
    clear H1
    by_cases c10 : (a0.size : Int) ≤ 9223372036854775807
    ·rw [if_pos c10] at H
     have c10b0 := eq_true c10
     have c10b1 : decide ((a0.size : Int) ≤ 9223372036854775807) = true := decide_eq_true c10
     try have c10b2 : (9223372036854775807 < (a0.size : Int)) = False := eq_false (Nat.not_lt.2 c10)
     clear c10
     obtain ⟨y106, hy106⟩ : ∃ y_ : List Int, y_ = (bytesOf a0) := ⟨_, rfl⟩
     replace H : (zql.l0 kj1 y106 (y106.length : Int) 0) = some r := by first | (rw [hy106]; with_reducible exact H) | (have H2_ := (Option.bind_some _ _).symm.trans H; rw [hy106]; with_reducible exact H2_) | (have H2_ := (Option.bind_some _ _).symm.trans H; with_reducible exact H2_) | with_reducible exact H | (rw [hy106]; exact H) | exact H
     have Ny106 := Aside0.mk hy106
     clear hy106
     have H' := Aside0.mk H
     clear H
     go_wp2_with (first | ((with_reducible refine y0j (N := 23) rfl ?_); (try (refine gate_guard (by rfl) ?_; dsimp only)); refine Kd.V_conv _ 5 rfl (N := 23) rfl 9 39 _ rfl a0 (by go_simp) Try.underlying9 Try.underlying39 Try.underlying5 (oa_) (Below.refl _ _) (Nat.le_refl _) ?_; intro v107 w11 ho12 hb hg_ hnew_; clear hg_ hnew_; (first | rw [← Ny106.out] at ho12 | (simp only [Int.reduceToNat] at ho12; rw [← Ny106.out] at ho12)); have n0_ := Aside0.mk (Kd.V_lower (Kd.V_mono (ok' := fun k_ => True) ho12 (fun k_ hk_ => trivial)) (y03 hb_)); have n1_ := Aside0.mk (y04 hb_ hb); clear HB; have HO108 := n0_; have HB := n1_; clear n0_ n1_; clear hb ho12; obtain ⟨Ao13, co13, eo13⟩ := Kd.V_slice HO108.out; subst eo13))
     go_loopg [25] kj1 (fun kq v25 w' => ∃ (x25_2 : Int), v25 = .int .i64 x25_2 ∧ Aside0 (zql.l0 kq y106 (y106.length : Int) x25_2 = some r) ∧ Aside0 (kq ≤ kj1) ∧ Aside0 (Kd.V (Kd.int .u8) 5 w' w.heap.size (fun _ => True) (.slice Ao13 y106.length co13) y106) ∧ Aside0 (Below w.heap.size w w'))
     case atStart => exact ⟨(0), cl_, H', ⟨Nat.le_refl _⟩, ⟨by (with_reducible repeat (first | apply Kd.V_alloc | apply Kd.V_drewN | apply Kd.V_drew)); exact HO108.out⟩, ⟨hb_⟩⟩
     case round =>
      clear H'
      clear c10b0; clear c10b1
      obtain ⟨x25_2, rfl, HA, HK2, HO_23, HB⟩ := hrel
      cases gk with
      | zero => exact absurd HA.out (by simp [zql.l0])
      | succ k2 =>
       have H := HA.out
       clear HA
       simp only [zql.l0] at H
       by_cases c14 : x25_2 < (y106.length : Int)
       ·rw [if_pos c14] at H
        have c14b0 : decide (x25_2 < (y106.length : Int)) = true := decide_eq_true c14
        clear c14
        by_cases c15 : 0 ≤ x25_2
        ·rw [if_pos c15] at H
         have c15b0 : decide (0 ≤ x25_2) = true := decide_eq_true c15
         clear c15
         by_cases c16 : x25_2 < (y106.length : Int)
         ·rw [if_pos c16] at H
          have c16b0 : decide (x25_2 < (y106.length : Int)) = true := decide_eq_true c16
          clear c16
          by_cases c17 : (rd y106 x25_2) ≥ 97
          ·rw [if_pos c17] at H
           have c17b0 : decide (97 ≤ (rd y106 x25_2)) = true := decide_eq_true c17
           clear c17
           by_cases c18 : (rd y106 x25_2) ≤ 122
           ·rw [if_pos c18] at H
            have c18b0 : decide ((rd y106 x25_2) ≤ 122) = true := decide_eq_true c18
            clear c18
            have H' := Aside0.mk H
            clear H
            have p109 : 0 ≤ (x25_2 : Int) := oa_
            have q109 : x25_2 < (y106.length : Int) := oa_
            obtain ⟨ad109, e109, hx109_0⟩ := Kd.at_int (Kd.V_reads' HO_23.out).2.2 x25_2 p109 q109
            cases e109
            replace p109 := eq_true p109
            replace q109 := eq_true q109
            go_wp2
            go_roundg k2
            case measure => have := HJ1.out; have := HK2.out; omega
            case rel => exact ⟨(wrap64 (x25_2 + 1)), cl_, H', ⟨by have := HJ1.out; have := HK2.out; omega⟩, ⟨by (with_reducible repeat (first | apply Kd.V_alloc | apply Kd.V_drewN | apply Kd.V_drew)); exact HO_23.out⟩, ⟨hb_⟩⟩
           ·rw [if_neg c18] at H
            have c18b0 : decide ((rd y106 x25_2) ≤ 122) = false := decide_eq_false c18
            clear c18
            by_cases c19 : (rd y106 x25_2) ≥ 65
            ·rw [if_pos c19] at H
             have c19b0 : decide (65 ≤ (rd y106 x25_2)) = true := decide_eq_true c19
             clear c19
             by_cases c20 : (rd y106 x25_2) ≤ 90
             ·rw [if_pos c20] at H
              have c20b0 : decide ((rd y106 x25_2) ≤ 90) = true := decide_eq_true c20
              clear c20
              have H' := Aside0.mk H
              clear H
              have p109 : 0 ≤ (x25_2 : Int) := oa_
              have q109 : x25_2 < (y106.length : Int) := oa_
              obtain ⟨ad109, e109, hx109_0⟩ := Kd.at_int (Kd.V_reads' HO_23.out).2.2 x25_2 p109 q109
              cases e109
              replace p109 := eq_true p109
              replace q109 := eq_true q109
              go_wp2
              go_roundg k2
              case measure => have := HJ1.out; have := HK2.out; omega
              case rel => exact ⟨(wrap64 (x25_2 + 1)), cl_, H', ⟨by have := HJ1.out; have := HK2.out; omega⟩, ⟨by (with_reducible repeat (first | apply Kd.V_alloc | apply Kd.V_drewN | apply Kd.V_drew)); exact HO_23.out⟩, ⟨hb_⟩⟩
             ·rw [if_neg c20] at H
              have c20b0 : decide ((rd y106 x25_2) ≤ 90) = false := decide_eq_false c20
              clear c20
              by_cases c21 : (rd y106 x25_2) ≥ 48
              ·rw [if_pos c21] at H
               have c21b0 : decide (48 ≤ (rd y106 x25_2)) = true := decide_eq_true c21
               clear c21
               by_cases c22 : (rd y106 x25_2) ≤ 57
               ·rw [if_pos c22] at H
                have c22b0 : decide ((rd y106 x25_2) ≤ 57) = true := decide_eq_true c22
                clear c22
                have H' := Aside0.mk H
                clear H
                have p109 : 0 ≤ (x25_2 : Int) := oa_
                have q109 : x25_2 < (y106.length : Int) := oa_
                obtain ⟨ad109, e109, hx109_0⟩ := Kd.at_int (Kd.V_reads' HO_23.out).2.2 x25_2 p109 q109
                cases e109
                replace p109 := eq_true p109
                replace q109 := eq_true q109
                go_wp2
                go_roundg k2
                case measure => have := HJ1.out; have := HK2.out; omega
                case rel => exact ⟨(wrap64 (x25_2 + 1)), cl_, H', ⟨by have := HJ1.out; have := HK2.out; omega⟩, ⟨by (with_reducible repeat (first | apply Kd.V_alloc | apply Kd.V_drewN | apply Kd.V_drew)); exact HO_23.out⟩, ⟨hb_⟩⟩
               ·rw [if_neg c22] at H
                have c22b0 : decide ((rd y106 x25_2) ≤ 57) = false := decide_eq_false c22
                clear c22
                replace H := Option.bind_eq_some_iff.mp H
                obtain ⟨t110, A230, H⟩ := H
                (try dsimp only at H)
                have A23 := Aside0.mk A230
                clear A230
                by_cases c24 : t110 ≥ 0
                ·rw [if_pos c24] at H
                 have c24b0 : decide (0 ≤ t110) = true := decide_eq_true c24
                 clear c24
                 have H' := Aside0.mk H
                 clear H
                 have p109 : 0 ≤ (x25_2 : Int) := oa_
                 have q109 : x25_2 < (y106.length : Int) := oa_
                 obtain ⟨ad109, e109, hx109_0⟩ := Kd.at_int (Kd.V_reads' HO_23.out).2.2 x25_2 p109 q109
                 cases e109
                 replace p109 := eq_true p109
                 replace q109 := eq_true q109
                 go_wp2_with (first | (go_at_call 87; (with_reducible refine (zqi.calls (⟨#[95, 46, 36]⟩ : ByteArray) (rd y106 x25_2) t110 _ A23.out).mono ?_); rintro e w' ⟨rfl, ⟨nd, rfl⟩⟩))
                 go_roundg k2
                 case measure => have := HJ1.out; have := HK2.out; omega
                 case rel => exact ⟨(wrap64 (x25_2 + 1)), cl_, H', ⟨by have := HJ1.out; have := HK2.out; omega⟩, ⟨by (with_reducible repeat (first | apply Kd.V_alloc | apply Kd.V_drewN | apply Kd.V_drew)); exact HO_23.out⟩, ⟨hb_⟩⟩
                ·rw [if_neg c24] at H
                 have c24b0 : decide (0 ≤ t110) = false := decide_eq_false c24
                 clear c24
                 obtain rfl := Option.some.inj H
                 have p109 : 0 ≤ (x25_2 : Int) := oa_
                 have q109 : x25_2 < (y106.length : Int) := oa_
                 obtain ⟨ad109, e109, hx109_0⟩ := Kd.at_int (Kd.V_reads' HO_23.out).2.2 x25_2 p109 q109
                 cases e109
                 replace p109 := eq_true p109
                 replace q109 := eq_true q109
                 go_wp2_with (first | (go_at_call 87; (with_reducible refine (zqi.calls (⟨#[95, 46, 36]⟩ : ByteArray) (rd y106 x25_2) t110 _ A23.out).mono ?_); rintro e w' ⟨rfl, ⟨nd, rfl⟩⟩))
                 go_ret
                 exact ⟨ew_, hb_⟩
              ·rw [if_neg c21] at H
               have c21b0 : decide (48 ≤ (rd y106 x25_2)) = false := decide_eq_false c21
               clear c21
               replace H := Option.bind_eq_some_iff.mp H
               obtain ⟨t111, A250, H⟩ := H
               (try dsimp only at H)
               have A25 := Aside0.mk A250
               clear A250
               by_cases c26 : t111 ≥ 0
               ·rw [if_pos c26] at H
                have c26b0 : decide (0 ≤ t111) = true := decide_eq_true c26
                clear c26
                have H' := Aside0.mk H
                clear H
                have p109 : 0 ≤ (x25_2 : Int) := oa_
                have q109 : x25_2 < (y106.length : Int) := oa_
                obtain ⟨ad109, e109, hx109_0⟩ := Kd.at_int (Kd.V_reads' HO_23.out).2.2 x25_2 p109 q109
                cases e109
                replace p109 := eq_true p109
                replace q109 := eq_true q109
                go_wp2_with (first | (go_at_call 87; (with_reducible refine (zqi.calls (⟨#[95, 46, 36]⟩ : ByteArray) (rd y106 x25_2) t111 _ A25.out).mono ?_); rintro e w' ⟨rfl, ⟨nd, rfl⟩⟩))
                go_roundg k2
                case measure => have := HJ1.out; have := HK2.out; omega
                case rel => exact ⟨(wrap64 (x25_2 + 1)), cl_, H', ⟨by have := HJ1.out; have := HK2.out; omega⟩, ⟨by (with_reducible repeat (first | apply Kd.V_alloc | apply Kd.V_drewN | apply Kd.V_drew)); exact HO_23.out⟩, ⟨hb_⟩⟩
               ·rw [if_neg c26] at H
                have c26b0 : decide (0 ≤ t111) = false := decide_eq_false c26
                clear c26
                obtain rfl := Option.some.inj H
                have p109 : 0 ≤ (x25_2 : Int) := oa_
                have q109 : x25_2 < (y106.length : Int) := oa_
                obtain ⟨ad109, e109, hx109_0⟩ := Kd.at_int (Kd.V_reads' HO_23.out).2.2 x25_2 p109 q109
                cases e109
                replace p109 := eq_true p109
                replace q109 := eq_true q109
                go_wp2_with (first | (go_at_call 87; (with_reducible refine (zqi.calls (⟨#[95, 46, 36]⟩ : ByteArray) (rd y106 x25_2) t111 _ A25.out).mono ?_); rintro e w' ⟨rfl, ⟨nd, rfl⟩⟩))
                go_ret
                exact ⟨ew_, hb_⟩
            ·rw [if_neg c19] at H
             have c19b0 : decide (65 ≤ (rd y106 x25_2)) = false := decide_eq_false c19
             clear c19
             by_cases c27 : (rd y106 x25_2) ≥ 48
             ·rw [if_pos c27] at H
              have c27b0 : decide (48 ≤ (rd y106 x25_2)) = true := decide_eq_true c27
              clear c27
              by_cases c28 : (rd y106 x25_2) ≤ 57
              ·rw [if_pos c28] at H
               have c28b0 : decide ((rd y106 x25_2) ≤ 57) = true := decide_eq_true c28
               clear c28
               have H' := Aside0.mk H
               clear H
               have p109 : 0 ≤ (x25_2 : Int) := oa_
               have q109 : x25_2 < (y106.length : Int) := oa_
               obtain ⟨ad109, e109, hx109_0⟩ := Kd.at_int (Kd.V_reads' HO_23.out).2.2 x25_2 p109 q109
               cases e109
               replace p109 := eq_true p109
               replace q109 := eq_true q109
               go_wp2
               go_roundg k2
               case measure => have := HJ1.out; have := HK2.out; omega
               case rel => exact ⟨(wrap64 (x25_2 + 1)), cl_, H', ⟨by have := HJ1.out; have := HK2.out; omega⟩, ⟨by (with_reducible repeat (first | apply Kd.V_alloc | apply Kd.V_drewN | apply Kd.V_drew)); exact HO_23.out⟩, ⟨hb_⟩⟩
              ·rw [if_neg c28] at H
               have c28b0 : decide ((rd y106 x25_2) ≤ 57) = false := decide_eq_false c28
               clear c28
               replace H := Option.bind_eq_some_iff.mp H
               obtain ⟨t112, A290, H⟩ := H
               (try dsimp only at H)
               have A29 := Aside0.mk A290
               clear A290
               by_cases c30 : t112 ≥ 0
               ·rw [if_pos c30] at H
                have c30b0 : decide (0 ≤ t112) = true := decide_eq_true c30
                clear c30
                have H' := Aside0.mk H
                clear H
                have p109 : 0 ≤ (x25_2 : Int) := oa_
                have q109 : x25_2 < (y106.length : Int) := oa_
                obtain ⟨ad109, e109, hx109_0⟩ := Kd.at_int (Kd.V_reads' HO_23.out).2.2 x25_2 p109 q109
                cases e109
                replace p109 := eq_true p109
                replace q109 := eq_true q109
                go_wp2_with (first | (go_at_call 87; (with_reducible refine (zqi.calls (⟨#[95, 46, 36]⟩ : ByteArray) (rd y106 x25_2) t112 _ A29.out).mono ?_); rintro e w' ⟨rfl, ⟨nd, rfl⟩⟩))
                go_roundg k2
                case measure => have := HJ1.out; have := HK2.out; omega
                case rel => exact ⟨(wrap64 (x25_2 + 1)), cl_, H', ⟨by have := HJ1.out; have := HK2.out; omega⟩, ⟨by (with_reducible repeat (first | apply Kd.V_alloc | apply Kd.V_drewN | apply Kd.V_drew)); exact HO_23.out⟩, ⟨hb_⟩⟩
               ·rw [if_neg c30] at H
                have c30b0 : decide (0 ≤ t112) = false := decide_eq_false c30
                clear c30
                obtain rfl := Option.some.inj H
                have p109 : 0 ≤ (x25_2 : Int) := oa_
                have q109 : x25_2 < (y106.length : Int) := oa_
                obtain ⟨ad109, e109, hx109_0⟩ := Kd.at_int (Kd.V_reads' HO_23.out).2.2 x25_2 p109 q109
                cases e109
                replace p109 := eq_true p109
                replace q109 := eq_true q109
                go_wp2_with (first | (go_at_call 87; (with_reducible refine (zqi.calls (⟨#[95, 46, 36]⟩ : ByteArray) (rd y106 x25_2) t112 _ A29.out).mono ?_); rintro e w' ⟨rfl, ⟨nd, rfl⟩⟩))
                go_ret
                exact ⟨ew_, hb_⟩
             ·rw [if_neg c27] at H
              have c27b0 : decide (48 ≤ (rd y106 x25_2)) = false := decide_eq_false c27
              clear c27
              replace H := Option.bind_eq_some_iff.mp H
              obtain ⟨t113, A310, H⟩ := H
              (try dsimp only at H)
              have A31 := Aside0.mk A310
              clear A310
              by_cases c32 : t113 ≥ 0
              ·rw [if_pos c32] at H
               have c32b0 : decide (0 ≤ t113) = true := decide_eq_true c32
               clear c32
               have H' := Aside0.mk H
               clear H
               have p109 : 0 ≤ (x25_2 : Int) := oa_
               have q109 : x25_2 < (y106.length : Int) := oa_
               obtain ⟨ad109, e109, hx109_0⟩ := Kd.at_int (Kd.V_reads' HO_23.out).2.2 x25_2 p109 q109
               cases e109
               replace p109 := eq_true p109
               replace q109 := eq_true q109
               go_wp2_with (first | (go_at_call 87; (with_reducible refine (zqi.calls (⟨#[95, 46, 36]⟩ : ByteArray) (rd y106 x25_2) t113 _ A31.out).mono ?_); rintro e w' ⟨rfl, ⟨nd, rfl⟩⟩))
               go_roundg k2
               case measure => have := HJ1.out; have := HK2.out; omega
               case rel => exact ⟨(wrap64 (x25_2 + 1)), cl_, H', ⟨by have := HJ1.out; have := HK2.out; omega⟩, ⟨by (with_reducible repeat (first | apply Kd.V_alloc | apply Kd.V_drewN | apply Kd.V_drew)); exact HO_23.out⟩, ⟨hb_⟩⟩
              ·rw [if_neg c32] at H
               have c32b0 : decide (0 ≤ t113) = false := decide_eq_false c32
               clear c32
               obtain rfl := Option.some.inj H
               have p109 : 0 ≤ (x25_2 : Int) := oa_
               have q109 : x25_2 < (y106.length : Int) := oa_
               obtain ⟨ad109, e109, hx109_0⟩ := Kd.at_int (Kd.V_reads' HO_23.out).2.2 x25_2 p109 q109
               cases e109
               replace p109 := eq_true p109
               replace q109 := eq_true q109
               go_wp2_with (first | (go_at_call 87; (with_reducible refine (zqi.calls (⟨#[95, 46, 36]⟩ : ByteArray) (rd y106 x25_2) t113 _ A31.out).mono ?_); rintro e w' ⟨rfl, ⟨nd, rfl⟩⟩))
               go_ret
               exact ⟨ew_, hb_⟩
          ·rw [if_neg c17] at H
           have c17b0 : decide (97 ≤ (rd y106 x25_2)) = false := decide_eq_false c17
           clear c17
           by_cases c33 : (rd y106 x25_2) ≥ 65
           ·rw [if_pos c33] at H
            have c33b0 : decide (65 ≤ (rd y106 x25_2)) = true := decide_eq_true c33
            clear c33
            by_cases c34 : (rd y106 x25_2) ≤ 90
            ·rw [if_pos c34] at H
             have c34b0 : decide ((rd y106 x25_2) ≤ 90) = true := decide_eq_true c34
             clear c34
             have H' := Aside0.mk H
             clear H
             have p109 : 0 ≤ (x25_2 : Int) := oa_
             have q109 : x25_2 < (y106.length : Int) := oa_
             obtain ⟨ad109, e109, hx109_0⟩ := Kd.at_int (Kd.V_reads' HO_23.out).2.2 x25_2 p109 q109
             cases e109
             replace p109 := eq_true p109
             replace q109 := eq_true q109
             go_wp2
             go_roundg k2
             case measure => have := HJ1.out; have := HK2.out; omega
             case rel => exact ⟨(wrap64 (x25_2 + 1)), cl_, H', ⟨by have := HJ1.out; have := HK2.out; omega⟩, ⟨by (with_reducible repeat (first | apply Kd.V_alloc | apply Kd.V_drewN | apply Kd.V_drew)); exact HO_23.out⟩, ⟨hb_⟩⟩
            ·rw [if_neg c34] at H
             have c34b0 : decide ((rd y106 x25_2) ≤ 90) = false := decide_eq_false c34
             clear c34
             by_cases c35 : (rd y106 x25_2) ≥ 48
             ·rw [if_pos c35] at H
              have c35b0 : decide (48 ≤ (rd y106 x25_2)) = true := decide_eq_true c35
              clear c35
              by_cases c36 : (rd y106 x25_2) ≤ 57
              ·rw [if_pos c36] at H
               have c36b0 : decide ((rd y106 x25_2) ≤ 57) = true := decide_eq_true c36
               clear c36
               have H' := Aside0.mk H
               clear H
               have p109 : 0 ≤ (x25_2 : Int) := oa_
               have q109 : x25_2 < (y106.length : Int) := oa_
               obtain ⟨ad109, e109, hx109_0⟩ := Kd.at_int (Kd.V_reads' HO_23.out).2.2 x25_2 p109 q109
               cases e109
               replace p109 := eq_true p109
               replace q109 := eq_true q109
               go_wp2
               go_roundg k2
               case measure => have := HJ1.out; have := HK2.out; omega
               case rel => exact ⟨(wrap64 (x25_2 + 1)), cl_, H', ⟨by have := HJ1.out; have := HK2.out; omega⟩, ⟨by (with_reducible repeat (first | apply Kd.V_alloc | apply Kd.V_drewN | apply Kd.V_drew)); exact HO_23.out⟩, ⟨hb_⟩⟩
              ·rw [if_neg c36] at H
               have c36b0 : decide ((rd y106 x25_2) ≤ 57) = false := decide_eq_false c36
               clear c36
               replace H := Option.bind_eq_some_iff.mp H
               obtain ⟨t114, A370, H⟩ := H
               (try dsimp only at H)
               have A37 := Aside0.mk A370
               clear A370
               by_cases c38 : t114 ≥ 0
               ·rw [if_pos c38] at H
                have c38b0 : decide (0 ≤ t114) = true := decide_eq_true c38
                clear c38
                have H' := Aside0.mk H
                clear H
                have p109 : 0 ≤ (x25_2 : Int) := oa_
                have q109 : x25_2 < (y106.length : Int) := oa_
                obtain ⟨ad109, e109, hx109_0⟩ := Kd.at_int (Kd.V_reads' HO_23.out).2.2 x25_2 p109 q109
                cases e109
                replace p109 := eq_true p109
                replace q109 := eq_true q109
                go_wp2_with (first | (go_at_call 87; (with_reducible refine (zqi.calls (⟨#[95, 46, 36]⟩ : ByteArray) (rd y106 x25_2) t114 _ A37.out).mono ?_); rintro e w' ⟨rfl, ⟨nd, rfl⟩⟩))
                go_roundg k2
                case measure => have := HJ1.out; have := HK2.out; omega
                case rel => exact ⟨(wrap64 (x25_2 + 1)), cl_, H', ⟨by have := HJ1.out; have := HK2.out; omega⟩, ⟨by (with_reducible repeat (first | apply Kd.V_alloc | apply Kd.V_drewN | apply Kd.V_drew)); exact HO_23.out⟩, ⟨hb_⟩⟩
               ·rw [if_neg c38] at H
                have c38b0 : decide (0 ≤ t114) = false := decide_eq_false c38
                clear c38
                obtain rfl := Option.some.inj H
                have p109 : 0 ≤ (x25_2 : Int) := oa_
                have q109 : x25_2 < (y106.length : Int) := oa_
                obtain ⟨ad109, e109, hx109_0⟩ := Kd.at_int (Kd.V_reads' HO_23.out).2.2 x25_2 p109 q109
                cases e109
                replace p109 := eq_true p109
                replace q109 := eq_true q109
                go_wp2_with (first | (go_at_call 87; (with_reducible refine (zqi.calls (⟨#[95, 46, 36]⟩ : ByteArray) (rd y106 x25_2) t114 _ A37.out).mono ?_); rintro e w' ⟨rfl, ⟨nd, rfl⟩⟩))
                go_ret
                exact ⟨ew_, hb_⟩
             ·rw [if_neg c35] at H
              have c35b0 : decide (48 ≤ (rd y106 x25_2)) = false := decide_eq_false c35
              clear c35
              replace H := Option.bind_eq_some_iff.mp H
              obtain ⟨t115, A390, H⟩ := H
              (try dsimp only at H)
              have A39 := Aside0.mk A390
              clear A390
              by_cases c40 : t115 ≥ 0
              ·rw [if_pos c40] at H
               have c40b0 : decide (0 ≤ t115) = true := decide_eq_true c40
               clear c40
               have H' := Aside0.mk H
               clear H
               have p109 : 0 ≤ (x25_2 : Int) := oa_
               have q109 : x25_2 < (y106.length : Int) := oa_
               obtain ⟨ad109, e109, hx109_0⟩ := Kd.at_int (Kd.V_reads' HO_23.out).2.2 x25_2 p109 q109
               cases e109
               replace p109 := eq_true p109
               replace q109 := eq_true q109
               go_wp2_with (first | (go_at_call 87; (with_reducible refine (zqi.calls (⟨#[95, 46, 36]⟩ : ByteArray) (rd y106 x25_2) t115 _ A39.out).mono ?_); rintro e w' ⟨rfl, ⟨nd, rfl⟩⟩))
               go_roundg k2
               case measure => have := HJ1.out; have := HK2.out; omega
               case rel => exact ⟨(wrap64 (x25_2 + 1)), cl_, H', ⟨by have := HJ1.out; have := HK2.out; omega⟩, ⟨by (with_reducible repeat (first | apply Kd.V_alloc | apply Kd.V_drewN | apply Kd.V_drew)); exact HO_23.out⟩, ⟨hb_⟩⟩
              ·rw [if_neg c40] at H
               have c40b0 : decide (0 ≤ t115) = false := decide_eq_false c40
               clear c40
               obtain rfl := Option.some.inj H
               have p109 : 0 ≤ (x25_2 : Int) := oa_
               have q109 : x25_2 < (y106.length : Int) := oa_
               obtain ⟨ad109, e109, hx109_0⟩ := Kd.at_int (Kd.V_reads' HO_23.out).2.2 x25_2 p109 q109
               cases e109
               replace p109 := eq_true p109
               replace q109 := eq_true q109
               go_wp2_with (first | (go_at_call 87; (with_reducible refine (zqi.calls (⟨#[95, 46, 36]⟩ : ByteArray) (rd y106 x25_2) t115 _ A39.out).mono ?_); rintro e w' ⟨rfl, ⟨nd, rfl⟩⟩))
               go_ret
               exact ⟨ew_, hb_⟩
           ·rw [if_neg c33] at H
            have c33b0 : decide (65 ≤ (rd y106 x25_2)) = false := decide_eq_false c33
            clear c33
            by_cases c41 : (rd y106 x25_2) ≥ 48
            ·rw [if_pos c41] at H
             have c41b0 : decide (48 ≤ (rd y106 x25_2)) = true := decide_eq_true c41
             clear c41
             by_cases c42 : (rd y106 x25_2) ≤ 57
             ·rw [if_pos c42] at H
              have c42b0 : decide ((rd y106 x25_2) ≤ 57) = true := decide_eq_true c42
              clear c42
              have H' := Aside0.mk H
              clear H
              have p109 : 0 ≤ (x25_2 : Int) := oa_
              have q109 : x25_2 < (y106.length : Int) := oa_
              obtain ⟨ad109, e109, hx109_0⟩ := Kd.at_int (Kd.V_reads' HO_23.out).2.2 x25_2 p109 q109
              cases e109
              replace p109 := eq_true p109
              replace q109 := eq_true q109
              go_wp2
              go_roundg k2
              case measure => have := HJ1.out; have := HK2.out; omega
              case rel => exact ⟨(wrap64 (x25_2 + 1)), cl_, H', ⟨by have := HJ1.out; have := HK2.out; omega⟩, ⟨by (with_reducible repeat (first | apply Kd.V_alloc | apply Kd.V_drewN | apply Kd.V_drew)); exact HO_23.out⟩, ⟨hb_⟩⟩
             ·rw [if_neg c42] at H
              have c42b0 : decide ((rd y106 x25_2) ≤ 57) = false := decide_eq_false c42
              clear c42
              replace H := Option.bind_eq_some_iff.mp H
              obtain ⟨t116, A430, H⟩ := H
              (try dsimp only at H)
              have A43 := Aside0.mk A430
              clear A430
              by_cases c44 : t116 ≥ 0
              ·rw [if_pos c44] at H
               have c44b0 : decide (0 ≤ t116) = true := decide_eq_true c44
               clear c44
               have H' := Aside0.mk H
               clear H
               have p109 : 0 ≤ (x25_2 : Int) := oa_
               have q109 : x25_2 < (y106.length : Int) := oa_
               obtain ⟨ad109, e109, hx109_0⟩ := Kd.at_int (Kd.V_reads' HO_23.out).2.2 x25_2 p109 q109
               cases e109
               replace p109 := eq_true p109
               replace q109 := eq_true q109
               go_wp2_with (first | (go_at_call 87; (with_reducible refine (zqi.calls (⟨#[95, 46, 36]⟩ : ByteArray) (rd y106 x25_2) t116 _ A43.out).mono ?_); rintro e w' ⟨rfl, ⟨nd, rfl⟩⟩))
               go_roundg k2
               case measure => have := HJ1.out; have := HK2.out; omega
               case rel => exact ⟨(wrap64 (x25_2 + 1)), cl_, H', ⟨by have := HJ1.out; have := HK2.out; omega⟩, ⟨by (with_reducible repeat (first | apply Kd.V_alloc | apply Kd.V_drewN | apply Kd.V_drew)); exact HO_23.out⟩, ⟨hb_⟩⟩
              ·rw [if_neg c44] at H
               have c44b0 : decide (0 ≤ t116) = false := decide_eq_false c44
               clear c44
               obtain rfl := Option.some.inj H
               have p109 : 0 ≤ (x25_2 : Int) := oa_
               have q109 : x25_2 < (y106.length : Int) := oa_
               obtain ⟨ad109, e109, hx109_0⟩ := Kd.at_int (Kd.V_reads' HO_23.out).2.2 x25_2 p109 q109
               cases e109
               replace p109 := eq_true p109
               replace q109 := eq_true q109
               go_wp2_with (first | (go_at_call 87; (with_reducible refine (zqi.calls (⟨#[95, 46, 36]⟩ : ByteArray) (rd y106 x25_2) t116 _ A43.out).mono ?_); rintro e w' ⟨rfl, ⟨nd, rfl⟩⟩))
               go_ret
               exact ⟨ew_, hb_⟩
            ·rw [if_neg c41] at H
             have c41b0 : decide (48 ≤ (rd y106 x25_2)) = false := decide_eq_false c41
             clear c41
             replace H := Option.bind_eq_some_iff.mp H
             obtain ⟨t117, A450, H⟩ := H
             (try dsimp only at H)
             have A45 := Aside0.mk A450
             clear A450
             by_cases c46 : t117 ≥ 0
             ·rw [if_pos c46] at H
              have c46b0 : decide (0 ≤ t117) = true := decide_eq_true c46
              clear c46
              have H' := Aside0.mk H
              clear H
              have p109 : 0 ≤ (x25_2 : Int) := oa_
              have q109 : x25_2 < (y106.length : Int) := oa_
              obtain ⟨ad109, e109, hx109_0⟩ := Kd.at_int (Kd.V_reads' HO_23.out).2.2 x25_2 p109 q109
              cases e109
              replace p109 := eq_true p109
              replace q109 := eq_true q109
              go_wp2_with (first | (go_at_call 87; (with_reducible refine (zqi.calls (⟨#[95, 46, 36]⟩ : ByteArray) (rd y106 x25_2) t117 _ A45.out).mono ?_); rintro e w' ⟨rfl, ⟨nd, rfl⟩⟩))
              go_roundg k2
              case measure => have := HJ1.out; have := HK2.out; omega
              case rel => exact ⟨(wrap64 (x25_2 + 1)), cl_, H', ⟨by have := HJ1.out; have := HK2.out; omega⟩, ⟨by (with_reducible repeat (first | apply Kd.V_alloc | apply Kd.V_drewN | apply Kd.V_drew)); exact HO_23.out⟩, ⟨hb_⟩⟩
             ·rw [if_neg c46] at H
              have c46b0 : decide (0 ≤ t117) = false := decide_eq_false c46
              clear c46
              obtain rfl := Option.some.inj H
              have p109 : 0 ≤ (x25_2 : Int) := oa_
              have q109 : x25_2 < (y106.length : Int) := oa_
              obtain ⟨ad109, e109, hx109_0⟩ := Kd.at_int (Kd.V_reads' HO_23.out).2.2 x25_2 p109 q109
              cases e109
              replace p109 := eq_true p109
              replace q109 := eq_true q109
              go_wp2_with (first | (go_at_call 87; (with_reducible refine (zqi.calls (⟨#[95, 46, 36]⟩ : ByteArray) (rd y106 x25_2) t117 _ A45.out).mono ?_); rintro e w' ⟨rfl, ⟨nd, rfl⟩⟩))
              go_ret
              exact ⟨ew_, hb_⟩
         ·rw [if_neg c16] at H
          exact absurd H (by simp)
        ·rw [if_neg c15] at H
         exact absurd H (by simp)
       ·rw [if_neg c14] at H
        have c14b0 : decide (x25_2 < (y106.length : Int)) = false := decide_eq_false c14
        clear c14
        obtain rfl := Option.some.inj H
        go_wp2
        go_ret
        exact ⟨ew_, hb_⟩
    ·rw [if_neg c10] at H
     exact absurd H (by simp)
end Go.Proofs.Ytenlmckahaniiaa.K
end
section
namespace Go.Proofs.Ytenlmckahaniiaa.K
open Go.RowKit Go.Proofs.YtenlmckahaniiaaW.PrintWords Go.Proofs.YtenlmckahaniiaaW.PrintLast
def symOk (s : S62) : Bool := !(decide (s.f1 < 0)) && !(decide (s.f1 > 3)) && !(bits .and .i64 s.f2 65535 != s.f2)
def zq8.l0 : Nat → List (S62) → List (List UInt8) → Int → Option Int
  | 0, _, _, _ => none
  | k + 1, x0, m, x9 => if x9 < (x0.length : Int) then (if 0 ≤ x9 then ((zql.f k ((rd_T62 x0 x9).f0)).bind fun t => (if t = true then (if (rd_T62 x0 x9).f0.data.toList ∈ m then some 6 else (if symOk (rd_T62 x0 x9) = true then (if m.length < 1000000 then (zq8.l0 k x0 (m ++ [(rd_T62 x0 x9).f0.data.toList]) (wrap64 (x9 + 1))) else none) else some 2)) else some 4)) else none) else some 0
def zq8.f (k : Nat) (l0 : List (S62)) : Option Int := zq8.l0 k l0 [] 0
theorem zq8.mono_l : ∀ k, (∀ y0 y1 y2, LeO (zq8.l0 k y0 y1 y2) (zq8.l0 (k + 1) y0 y1 y2))
 | 0 => fun _ _ _ r h => by simp [zq8.l0] at h
 | k + 1 => by
  have ih0 := zq8.mono_l k
  intro y0 y1 y2
  unfold zq8.l0
  repeat' first
   | exact ih0 _ _ _
   | exact zql.mono _ _
   | exact LeO.refl _
   | exact LeO.none _
   | refine LeO.ite ?_ ?_
   | refine LeO.bind ?_ (fun _ => ?_)
theorem zq8.mono : ∀ a0 k, LeO (zq8.f k a0) (zq8.f (k + 1) a0) := fun a0 k => zq8.mono_l k a0 [] 0
theorem isName_size {k : Nat} {a : ByteArray} (h : zql.f k a = some true) : a.size ≤ 14 := by
 unfold zql.f at h
 split at h
 ·rename_i h0
  have e : a.data.toList = [] := by rw [← Lib.toList_data]; exact h0
  show a.data.size ≤ 14
  rw [← Array.length_toList, e]
  exact Nat.zero_le _
 ·split at h
  ·cases k <;> simp [zql.j0] at h
  ·omega
theorem box62 {w : World} {g : Nat} {z0 z1 z2 z3 : Value} (h : w.heap[g]? = some (.cells #[z0, z1, z2, z3] 62 (0, 0))) (a b c d : Value) :
  ((((w.setCell ⟨g, 0, none⟩ a).setCell ⟨g, 1, none⟩ b).setCell ⟨g, 2, none⟩ c).setCell ⟨g, 3, none⟩ d).heap[g]? = some (.cells #[a, b, c, d] 62 (0, 0)) :=
 y0d (y0d (y0d (y0d h 0 a rfl) 1 b rfl) 2 c rfl) 3 d rfl
theorem zq8.calls (k : Nat) (A0 : Option Addr) (c0 : Nat) (l0 : List (S62)) (r : Int) (w : World) (hr0 : Kd.C k62 w A0 l0.length l0) (hc0 : l0.length ≤ c0) (h : zq8.f k l0 = some r) :
  Calls Try.prog 49 #[.slice A0 l0.length c0] w fun e w' => e = .returned (.int .i64 r) ∧ Below w.heap.size w w' := by
 have HR0 := Aside0.mk hr0
 clear hr0 hc0
 have H' := Aside0.mk (show zq8.l0 k l0 [] 0 = some r from h)
 clear h
 have hmm := @run_makeMap Try.prog
 go_enter Try.func49, Try.ntmps49
 go_wp2
 clear hmm
 go_loopg [9] k (fun kq v9 w' => ∃ (m : List (List UInt8)) (x9 : Int), v9 = .int .i64 x9 ∧ Aside0 (zq8.l0 kq l0 m x9 = some r) ∧ Aside0 (kq ≤ k) ∧ Aside0 (Seen w' w.heap.size m) ∧ Aside0 (Below w.heap.size w w'))
 case atStart => exact ⟨[], 0, rfl, H', ⟨Nat.le_refl _⟩, ⟨Seen.made w⟩, ⟨(Below.refl _ _).alloc (Nat.le_refl _) _⟩⟩
 case round =>
  clear H'
  obtain ⟨m, x9, rfl, HA, HK1, HS, HB⟩ := hrel
  cases gk with
  | zero => exact absurd HA.out (by simp [zq8.l0])
  | succ k1 =>
   have H := HA.out
   clear HA
   simp only [zq8.l0] at H
   by_cases c2 : x9 < (l0.length : Int)
   ·rw [if_pos c2] at H
    have c2b0 : decide (x9 < (l0.length : Int)) = true := decide_eq_true c2
    by_cases c3 : 0 ≤ x9
    ·rw [if_pos c3] at H
     have c3b0 : decide (0 ≤ x9) = true := decide_eq_true c3
     obtain ⟨t, A4, H⟩ := Option.bind_eq_some_iff.mp H
     obtain ⟨ad, ead, hx_0, hx_1, hx_2, hx_3⟩ := at_T62 HR0.out x9 c3 c2
     cases ead
     replace hx_0 := (HB.out.cell (World.block_lt_of_cell? w _ hx_0)).trans hx_0
     replace hx_1 := (HB.out.cell (World.block_lt_of_cell? w _ hx_1)).trans hx_1
     replace hx_2 := (HB.out.cell (World.block_lt_of_cell? w _ hx_2)).trans hx_2
     replace hx_3 := (HB.out.cell (World.block_lt_of_cell? w _ hx_3)).trans hx_3
     generalize hsym : rd_T62 l0 x9 = sy at *
     have c2' := eq_true c2
     have c3' := eq_true c3
     cases t with
     | false =>
      rw [if_neg (show ¬ (false = true) by decide)] at H
      obtain rfl := Option.some.inj H
      clear H
      go_wp2_with (first | ((with_reducible refine y0j (N := 5) rfl ?_); refine y0e ?hg (N := 5) ?hd (cs := #[.string (⟨#[]⟩ : ByteArray), .int .i64 0, .int .i64 0, .bool false]) (t := 62) ?hr ?_; (case hd => rfl); (case hg => rfl); (case hr => first | (go_simp; done) | (go_simp; rfl)); intro gb hg w1 hbox hb; have HB1 := Aside0.mk (y04 HB.out hb); have HS1 := Aside0.mk (HS.out.below hb); have GE : w.heap.size ≤ gb := (by rw [hg]; exact y03 HB.out); have NE : w.heap.size ≠ gb := (by have := HS.out.lt; omega); have hc_0 : w1.cell? ⟨gb, 0, none⟩ = some (.string (⟨#[]⟩ : ByteArray)) := (y07 hbox 0).trans rfl; have hc_1 : w1.cell? ⟨gb, 1, none⟩ = some (.int .i64 0) := (y07 hbox 1).trans rfl; have hc_2 : w1.cell? ⟨gb, 2, none⟩ = some (.int .i64 0) := (y07 hbox 2).trans rfl; have hc_3 : w1.cell? ⟨gb, 3, none⟩ = some (.bool false) := (y07 hbox 3).trans rfl; have hf_0 := y0b hbox 0; have hf_1 := y0b hbox 1; have hf_2 := y0b hbox 2; have hf_3 := y0b hbox 3; clear hb hg) | (go_at_call 48; (with_reducible refine (zql.calls k1 sy.f0 false _ A4).mono ?_); rintro e w2 ⟨rfl, hb2⟩; have BK2 := y06 (box62 hbox _ _ _ _) hb2; have HB2 := Aside0.mk (y04 (y02 (y02 (y02 (y02 HB1.out GE) GE) GE) GE) hb2); have HS2 := Aside0.mk (Seen.below (Seen.set (Seen.set (Seen.set (Seen.set HS1.out NE _) NE _) NE _) NE _) hb2); have hd_0 : w2.cell? ⟨gb, 0, none⟩ = some (.string sy.f0) := (y07 BK2 0).trans rfl; have hd_1 : w2.cell? ⟨gb, 1, none⟩ = some (.int .i64 sy.f1) := (y07 BK2 1).trans rfl; have hd_2 : w2.cell? ⟨gb, 2, none⟩ = some (.int .i64 sy.f2) := (y07 BK2 2).trans rfl; have hd_3 : w2.cell? ⟨gb, 3, none⟩ = some (.bool sy.f3) := (y07 BK2 3).trans rfl; clear hb2))
      go_ret
      exact ⟨rfl, HB2.out⟩
     | true =>
      rw [if_pos rfl] at H
      have hsz : sy.f0.size ≤ maxLen := by have := isName_size A4; unfold maxLen; omega
      by_cases cm : sy.f0.data.toList ∈ m
      ·rw [if_pos cm] at H
       obtain rfl := Option.some.inj H
       clear H
       go_wp2_with (first | ((with_reducible refine y0j (N := 5) rfl ?_); refine y0e ?hg (N := 5) ?hd (cs := #[.string (⟨#[]⟩ : ByteArray), .int .i64 0, .int .i64 0, .bool false]) (t := 62) ?hr ?_; (case hd => rfl); (case hg => rfl); (case hr => first | (go_simp; done) | (go_simp; rfl)); intro gb hg w1 hbox hb; have HB1 := Aside0.mk (y04 HB.out hb); have HS1 := Aside0.mk (HS.out.below hb); have GE : w.heap.size ≤ gb := (by rw [hg]; exact y03 HB.out); have NE : w.heap.size ≠ gb := (by have := HS.out.lt; omega); have hc_0 : w1.cell? ⟨gb, 0, none⟩ = some (.string (⟨#[]⟩ : ByteArray)) := (y07 hbox 0).trans rfl; have hc_1 : w1.cell? ⟨gb, 1, none⟩ = some (.int .i64 0) := (y07 hbox 1).trans rfl; have hc_2 : w1.cell? ⟨gb, 2, none⟩ = some (.int .i64 0) := (y07 hbox 2).trans rfl; have hc_3 : w1.cell? ⟨gb, 3, none⟩ = some (.bool false) := (y07 hbox 3).trans rfl; have hf_0 := y0b hbox 0; have hf_1 := y0b hbox 1; have hf_2 := y0b hbox 2; have hf_3 := y0b hbox 3; clear hb hg) | (go_at_call 48; (with_reducible refine (zql.calls k1 sy.f0 true _ A4).mono ?_); rintro e w2 ⟨rfl, hb2⟩; have BK2 := y06 (box62 hbox _ _ _ _) hb2; have HB2 := Aside0.mk (y04 (y02 (y02 (y02 (y02 HB1.out GE) GE) GE) GE) hb2); have HS2 := Aside0.mk (Seen.below (Seen.set (Seen.set (Seen.set (Seen.set HS1.out NE _) NE _) NE _) NE _) hb2); have hd_0 : w2.cell? ⟨gb, 0, none⟩ = some (.string sy.f0) := (y07 BK2 0).trans rfl; have hd_1 : w2.cell? ⟨gb, 1, none⟩ = some (.int .i64 sy.f1) := (y07 BK2 1).trans rfl; have hd_2 : w2.cell? ⟨gb, 2, none⟩ = some (.int .i64 sy.f2) := (y07 BK2 2).trans rfl; have hd_3 : w2.cell? ⟨gb, 3, none⟩ = some (.bool sy.f3) := (y07 BK2 3).trans rfl; clear hb2) | (at_lookup; refine wpList_seen rfl _ _ rfl _ m rfl HS2.out sy.f0 rfl hsz ?_; rw [show decide (sy.f0.data.toList ∈ m) = true from decide_eq_true cm]))
       go_ret
       exact ⟨rfl, HB2.out⟩
      ·rw [if_neg cm] at H
       unfold symOk at H
       cases e1 : decide (sy.f1 < 0) with
       | true =>
        have e1' : (sy.f1 < 0) = True := eq_true (of_decide_eq_true e1)
        rw [e1, if_neg (by simp)] at H
        obtain rfl := Option.some.inj H
        clear H
        go_wp2_with (first | ((with_reducible refine y0j (N := 5) rfl ?_); refine y0e ?hg (N := 5) ?hd (cs := #[.string (⟨#[]⟩ : ByteArray), .int .i64 0, .int .i64 0, .bool false]) (t := 62) ?hr ?_; (case hd => rfl); (case hg => rfl); (case hr => first | (go_simp; done) | (go_simp; rfl)); intro gb hg w1 hbox hb; have HB1 := Aside0.mk (y04 HB.out hb); have HS1 := Aside0.mk (HS.out.below hb); have GE : w.heap.size ≤ gb := (by rw [hg]; exact y03 HB.out); have NE : w.heap.size ≠ gb := (by have := HS.out.lt; omega); have hc_0 : w1.cell? ⟨gb, 0, none⟩ = some (.string (⟨#[]⟩ : ByteArray)) := (y07 hbox 0).trans rfl; have hc_1 : w1.cell? ⟨gb, 1, none⟩ = some (.int .i64 0) := (y07 hbox 1).trans rfl; have hc_2 : w1.cell? ⟨gb, 2, none⟩ = some (.int .i64 0) := (y07 hbox 2).trans rfl; have hc_3 : w1.cell? ⟨gb, 3, none⟩ = some (.bool false) := (y07 hbox 3).trans rfl; have hf_0 := y0b hbox 0; have hf_1 := y0b hbox 1; have hf_2 := y0b hbox 2; have hf_3 := y0b hbox 3; clear hb hg) | (go_at_call 48; (with_reducible refine (zql.calls k1 sy.f0 true _ A4).mono ?_); rintro e w2 ⟨rfl, hb2⟩; have BK2 := y06 (box62 hbox _ _ _ _) hb2; have HB2 := Aside0.mk (y04 (y02 (y02 (y02 (y02 HB1.out GE) GE) GE) GE) hb2); have HS2 := Aside0.mk (Seen.below (Seen.set (Seen.set (Seen.set (Seen.set HS1.out NE _) NE _) NE _) NE _) hb2); have hd_0 : w2.cell? ⟨gb, 0, none⟩ = some (.string sy.f0) := (y07 BK2 0).trans rfl; have hd_1 : w2.cell? ⟨gb, 1, none⟩ = some (.int .i64 sy.f1) := (y07 BK2 1).trans rfl; have hd_2 : w2.cell? ⟨gb, 2, none⟩ = some (.int .i64 sy.f2) := (y07 BK2 2).trans rfl; have hd_3 : w2.cell? ⟨gb, 3, none⟩ = some (.bool sy.f3) := (y07 BK2 3).trans rfl; clear hb2) | (at_lookup; refine wpList_seen rfl _ _ rfl _ m rfl HS2.out sy.f0 rfl hsz ?_; rw [show decide (sy.f0.data.toList ∈ m) = false from decide_eq_false cm]))
        go_ret
        exact ⟨rfl, HB2.out⟩
       | false =>
        cases e2 : decide (sy.f1 > 3) with
        | true =>
         have e2' : decide (3 < sy.f1) = true := e2
         rw [e1, e2, if_neg (by simp)] at H
         obtain rfl := Option.some.inj H
         clear H
         go_wp2_with (first | ((with_reducible refine y0j (N := 5) rfl ?_); refine y0e ?hg (N := 5) ?hd (cs := #[.string (⟨#[]⟩ : ByteArray), .int .i64 0, .int .i64 0, .bool false]) (t := 62) ?hr ?_; (case hd => rfl); (case hg => rfl); (case hr => first | (go_simp; done) | (go_simp; rfl)); intro gb hg w1 hbox hb; have HB1 := Aside0.mk (y04 HB.out hb); have HS1 := Aside0.mk (HS.out.below hb); have GE : w.heap.size ≤ gb := (by rw [hg]; exact y03 HB.out); have NE : w.heap.size ≠ gb := (by have := HS.out.lt; omega); have hc_0 : w1.cell? ⟨gb, 0, none⟩ = some (.string (⟨#[]⟩ : ByteArray)) := (y07 hbox 0).trans rfl; have hc_1 : w1.cell? ⟨gb, 1, none⟩ = some (.int .i64 0) := (y07 hbox 1).trans rfl; have hc_2 : w1.cell? ⟨gb, 2, none⟩ = some (.int .i64 0) := (y07 hbox 2).trans rfl; have hc_3 : w1.cell? ⟨gb, 3, none⟩ = some (.bool false) := (y07 hbox 3).trans rfl; have hf_0 := y0b hbox 0; have hf_1 := y0b hbox 1; have hf_2 := y0b hbox 2; have hf_3 := y0b hbox 3; clear hb hg) | (go_at_call 48; (with_reducible refine (zql.calls k1 sy.f0 true _ A4).mono ?_); rintro e w2 ⟨rfl, hb2⟩; have BK2 := y06 (box62 hbox _ _ _ _) hb2; have HB2 := Aside0.mk (y04 (y02 (y02 (y02 (y02 HB1.out GE) GE) GE) GE) hb2); have HS2 := Aside0.mk (Seen.below (Seen.set (Seen.set (Seen.set (Seen.set HS1.out NE _) NE _) NE _) NE _) hb2); have hd_0 : w2.cell? ⟨gb, 0, none⟩ = some (.string sy.f0) := (y07 BK2 0).trans rfl; have hd_1 : w2.cell? ⟨gb, 1, none⟩ = some (.int .i64 sy.f1) := (y07 BK2 1).trans rfl; have hd_2 : w2.cell? ⟨gb, 2, none⟩ = some (.int .i64 sy.f2) := (y07 BK2 2).trans rfl; have hd_3 : w2.cell? ⟨gb, 3, none⟩ = some (.bool sy.f3) := (y07 BK2 3).trans rfl; clear hb2) | (at_lookup; refine wpList_seen rfl _ _ rfl _ m rfl HS2.out sy.f0 rfl hsz ?_; rw [show decide (sy.f0.data.toList ∈ m) = false from decide_eq_false cm]))
         go_ret
         exact ⟨rfl, HB2.out⟩
        | false =>
         have e2' : decide (3 < sy.f1) = false := e2
         cases e3 : (bits .and .i64 sy.f2 65535 != sy.f2) with
         | true =>
          rw [e1, e2, e3, if_neg (by simp)] at H
          obtain rfl := Option.some.inj H
          clear H
          go_wp2_with (first | ((with_reducible refine y0j (N := 5) rfl ?_); refine y0e ?hg (N := 5) ?hd (cs := #[.string (⟨#[]⟩ : ByteArray), .int .i64 0, .int .i64 0, .bool false]) (t := 62) ?hr ?_; (case hd => rfl); (case hg => rfl); (case hr => first | (go_simp; done) | (go_simp; rfl)); intro gb hg w1 hbox hb; have HB1 := Aside0.mk (y04 HB.out hb); have HS1 := Aside0.mk (HS.out.below hb); have GE : w.heap.size ≤ gb := (by rw [hg]; exact y03 HB.out); have NE : w.heap.size ≠ gb := (by have := HS.out.lt; omega); have hc_0 : w1.cell? ⟨gb, 0, none⟩ = some (.string (⟨#[]⟩ : ByteArray)) := (y07 hbox 0).trans rfl; have hc_1 : w1.cell? ⟨gb, 1, none⟩ = some (.int .i64 0) := (y07 hbox 1).trans rfl; have hc_2 : w1.cell? ⟨gb, 2, none⟩ = some (.int .i64 0) := (y07 hbox 2).trans rfl; have hc_3 : w1.cell? ⟨gb, 3, none⟩ = some (.bool false) := (y07 hbox 3).trans rfl; have hf_0 := y0b hbox 0; have hf_1 := y0b hbox 1; have hf_2 := y0b hbox 2; have hf_3 := y0b hbox 3; clear hb hg) | (go_at_call 48; (with_reducible refine (zql.calls k1 sy.f0 true _ A4).mono ?_); rintro e w2 ⟨rfl, hb2⟩; have BK2 := y06 (box62 hbox _ _ _ _) hb2; have HB2 := Aside0.mk (y04 (y02 (y02 (y02 (y02 HB1.out GE) GE) GE) GE) hb2); have HS2 := Aside0.mk (Seen.below (Seen.set (Seen.set (Seen.set (Seen.set HS1.out NE _) NE _) NE _) NE _) hb2); have hd_0 : w2.cell? ⟨gb, 0, none⟩ = some (.string sy.f0) := (y07 BK2 0).trans rfl; have hd_1 : w2.cell? ⟨gb, 1, none⟩ = some (.int .i64 sy.f1) := (y07 BK2 1).trans rfl; have hd_2 : w2.cell? ⟨gb, 2, none⟩ = some (.int .i64 sy.f2) := (y07 BK2 2).trans rfl; have hd_3 : w2.cell? ⟨gb, 3, none⟩ = some (.bool sy.f3) := (y07 BK2 3).trans rfl; clear hb2) | (at_lookup; refine wpList_seen rfl _ _ rfl _ m rfl HS2.out sy.f0 rfl hsz ?_; rw [show decide (sy.f0.data.toList ∈ m) = false from decide_eq_false cm]))
          go_ret
          exact ⟨rfl, HB2.out⟩
         | false =>
          rw [e1, e2, e3, if_pos (by simp)] at H
          by_cases cl : m.length < 1000000
          ·rw [if_pos cl] at H
           have H' := Aside0.mk H
           clear H
           go_wp2_with (first | ((with_reducible refine y0j (N := 5) rfl ?_); refine y0e ?hg (N := 5) ?hd (cs := #[.string (⟨#[]⟩ : ByteArray), .int .i64 0, .int .i64 0, .bool false]) (t := 62) ?hr ?_; (case hd => rfl); (case hg => rfl); (case hr => first | (go_simp; done) | (go_simp; rfl)); intro gb hg w1 hbox hb; have HB1 := Aside0.mk (y04 HB.out hb); have HS1 := Aside0.mk (HS.out.below hb); have GE : w.heap.size ≤ gb := (by rw [hg]; exact y03 HB.out); have NE : w.heap.size ≠ gb := (by have := HS.out.lt; omega); have hc_0 : w1.cell? ⟨gb, 0, none⟩ = some (.string (⟨#[]⟩ : ByteArray)) := (y07 hbox 0).trans rfl; have hc_1 : w1.cell? ⟨gb, 1, none⟩ = some (.int .i64 0) := (y07 hbox 1).trans rfl; have hc_2 : w1.cell? ⟨gb, 2, none⟩ = some (.int .i64 0) := (y07 hbox 2).trans rfl; have hc_3 : w1.cell? ⟨gb, 3, none⟩ = some (.bool false) := (y07 hbox 3).trans rfl; have hf_0 := y0b hbox 0; have hf_1 := y0b hbox 1; have hf_2 := y0b hbox 2; have hf_3 := y0b hbox 3; clear hb hg) | (go_at_call 48; (with_reducible refine (zql.calls k1 sy.f0 true _ A4).mono ?_); rintro e w2 ⟨rfl, hb2⟩; have BK2 := y06 (box62 hbox _ _ _ _) hb2; have HB2 := Aside0.mk (y04 (y02 (y02 (y02 (y02 HB1.out GE) GE) GE) GE) hb2); have HS2 := Aside0.mk (Seen.below (Seen.set (Seen.set (Seen.set (Seen.set HS1.out NE _) NE _) NE _) NE _) hb2); have hd_0 : w2.cell? ⟨gb, 0, none⟩ = some (.string sy.f0) := (y07 BK2 0).trans rfl; have hd_1 : w2.cell? ⟨gb, 1, none⟩ = some (.int .i64 sy.f1) := (y07 BK2 1).trans rfl; have hd_2 : w2.cell? ⟨gb, 2, none⟩ = some (.int .i64 sy.f2) := (y07 BK2 2).trans rfl; have hd_3 : w2.cell? ⟨gb, 3, none⟩ = some (.bool sy.f3) := (y07 BK2 3).trans rfl; clear hb2) | (at_lookup; refine wpList_seen rfl _ _ rfl _ m rfl HS2.out sy.f0 rfl hsz ?_; rw [show decide (sy.f0.data.toList ∈ m) = false from decide_eq_false cm]) | (at_mapUpdate; refine wpList_see rfl _ _ _ rfl _ m rfl HS2.out (by unfold maxLen; omega) sy.f0 rfl rfl hsz ?_; intro w3 HS3 hgr))
           go_roundg k1
           case measure => omega
           case rel => exact ⟨_, _, rfl, H', ⟨by have := HK1.out; omega⟩, ⟨HS3⟩, ⟨HB2.out.grown hgr (y03 HB2.out) (fun j hj => by cases hj; exact Nat.le_refl _)⟩⟩
          ·rw [if_neg cl] at H
           exact absurd H (by simp)
    ·rw [if_neg c3] at H
     exact absurd H (by simp)
   ·rw [if_neg c2] at H
    have c2b0 : decide (x9 < (l0.length : Int)) = false := decide_eq_false c2
    obtain rfl := Option.some.inj H
    go_wp2
    go_ret
    exact ⟨rfl, HB.out⟩
end Go.Proofs.Ytenlmckahaniiaa.K
end
