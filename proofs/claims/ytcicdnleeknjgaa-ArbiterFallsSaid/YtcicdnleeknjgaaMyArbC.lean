/- arbiter: the comparison, as the sort calls it. -/
import Derived.Test.YtcicdnleeknjgaaMyArbS
import Derived.Deep.RegionHeld3
set_option linter.unusedVariables false
set_option linter.unusedSimpArgs false
namespace Go.Proofs.Ytcicdnleeknjgaa.ArbW
open Go Go.Proofs Go.Shelf Go.RowKit Go.Lib Go.Sort Go.Proofs.Ytcicdnleeknjgaa.Stab

def cmpI (x y : Int) : Int := if x < y then -1 else if y < x then 1 else 0
theorem compare_calls (x y : Int) (W : World) : Calls Try.prog 21 #[.int .i64 x, .int .i64 y] W fun e w' => e = .returned (.int .i64 (cmpI x y)) ∧ w' = W := by
  unfold cmpI
  go_enter Try.func21, Try.ntmps21
  by_cases h1 : x < y
  · rw [if_pos h1]
    go_wp2
    go_ret
    exact ⟨rfl, rfl⟩
  · rw [if_neg h1]
    by_cases h2 : y < x
    · rw [if_pos h2]
      go_wp2
      go_ret
      exact ⟨rfl, rfl⟩
    · rw [if_neg h2]
      go_wp2
      go_ret
      exact ⟨rfl, rfl⟩
/-- Where a vector stands in the list of three. -/
def idx3 (v : Int) : Int := if v = 64 then 0 else if v = 160 then 1 else if v = 164 then 2 else -1
theorem index_calls (v : Int) (g : Nat) (W : World) (h0 : W.cell? ⟨g, 0, none⟩ = some (.int .i64 64)) (h1 : W.cell? ⟨g, 1, none⟩ = some (.int .i64 160)) (h2 : W.cell? ⟨g, 2, none⟩ = some (.int .i64 164)) :
    Calls Try.prog 28 #[.slice (some ⟨g, 0, none⟩) 3 3, .int .i64 v] W fun e w' => e = .returned (.int .i64 (idx3 v)) ∧ w' = W := by
  go_enter Try.func28, Try.ntmps28
  go_wp2
  go_loopg [8] 3 (fun g1 vi wr => ∃ i : Nat, vi = .int .i64 i ∧ i ≤ 3 ∧ 3 - i ≤ g1 ∧ (1 ≤ i → v ≠ 64) ∧ (2 ≤ i → v ≠ 160) ∧ (3 ≤ i → v ≠ 164) ∧ wr = W)
  case atStart => exact ⟨0, rfl, by omega, by omega, by omega, by omega, by omega, rfl⟩
  case round =>
    obtain ⟨i, rfl, hi, hg1, n1, n2, n3, rfl⟩ := hrel
    have hc : i = 0 ∨ i = 1 ∨ i = 2 ∨ i = 3 := by omega
    rcases hc with rfl | rfl | rfl | rfl
    · by_cases hv : v = 64
      · subst hv
        go_wp2
        go_ret
        exact ⟨by rfl, rfl⟩
      · have hb : (v == (64 : Int)) = false := beq_eq_false_iff_ne.mpr hv
        go_wp2
        go_roundg (2)
        case measure => omega
        case rel => exact ⟨1, by first | rfl | go_num, by omega, by omega, by omega, by omega, by omega, rfl⟩
    · by_cases hv : v = 160
      · subst hv
        go_wp2
        go_ret
        exact ⟨by rfl, rfl⟩
      · have hb : (v == (160 : Int)) = false := beq_eq_false_iff_ne.mpr hv
        go_wp2
        go_roundg (1)
        case measure => omega
        case rel => exact ⟨2, by first | rfl | go_num, by omega, by omega, by omega, by omega, by omega, rfl⟩
    · by_cases hv : v = 164
      · subst hv
        go_wp2
        go_ret
        exact ⟨by rfl, rfl⟩
      · have hb : (v == (164 : Int)) = false := beq_eq_false_iff_ne.mpr hv
        go_wp2
        go_roundg (0)
        case measure => omega
        case rel => exact ⟨3, by first | rfl | go_num, by omega, by omega, by omega, by omega, by omega, rfl⟩
    · have m1 := n1 (by decide)
      have m2 := n2 (by decide)
      have m3 := n3 (by decide)
      go_wp2
      go_ret
      exact ⟨by unfold idx3; rw [if_neg m1, if_neg m2, if_neg m3]; rfl, rfl⟩
/-- The place of a vector. -/
def placeZ (v : Int) : Int := if v = 64 then 0 else if v = 160 then 1 else if v = 164 then 2 else v
theorem alloc3 (W : World) (x y z : Value) (t : TypeId) : (W.alloc (.cells #[x, y, z] t)).cell? ⟨W.heap.size, 0, none⟩ = some x ∧ (W.alloc (.cells #[x, y, z] t)).cell? ⟨W.heap.size, 1, none⟩ = some y ∧ (W.alloc (.cells #[x, y, z] t)).cell? ⟨W.heap.size, 2, none⟩ = some z := by
  refine ⟨?_, ?_, ?_⟩ <;> simp [World.cell?, World.alloc, -World.alloc_eq]
theorem place_calls (v : Int) (W : World) : Calls Try.prog 22 #[.int .i64 v] W fun e w' => e = .returned (.int .i64 (placeZ v)) ∧ ∃ os', w' = grow W os' := by
  have hcon := fun g W h0 h1 h2 => index_calls v g W h0 h1 h2
  have hr1 : 0 ≤ idx3 v → placeZ v = idx3 v := by
    intro h
    unfold idx3 placeZ at *
    by_cases h1 : v = 64
    · rw [if_pos h1, if_pos h1]
    by_cases h2 : v = 160
    · rw [if_neg h1, if_neg h1, if_pos h2, if_pos h2]
    by_cases h3 : v = 164
    · rw [if_neg h1, if_neg h1, if_neg h2, if_neg h2, if_pos h3, if_pos h3]
    · rw [if_neg h1, if_neg h2, if_neg h3] at h; exact absurd h (by decide)
  have hr2 : ¬ 0 ≤ idx3 v → placeZ v = v := by
    intro h
    unfold idx3 at h
    unfold placeZ
    by_cases h1 : v = 64
    · rw [if_pos h1] at h; exact absurd h (by decide)
    by_cases h2 : v = 160
    · rw [if_neg h1, if_pos h2] at h; exact absurd h (by decide)
    by_cases h3 : v = 164
    · rw [if_neg h1, if_neg h2, if_pos h3] at h; exact absurd h (by decide)
    · rw [if_neg h1, if_neg h2, if_neg h3]
  generalize idx3 v = r at hcon hr1 hr2
  obtain ⟨q, hq⟩ : ∃ q, placeZ v = q := ⟨_, rfl⟩
  rw [hq] at hr1 hr2 ⊢
  by_cases hr : 0 ≤ r
  · have HQ : Hid (q = r) := hr1 hr
    clear hr1 hr2 hq
    go_enter Try.func22, Try.ntmps22
    go_wp2_with (first | (go_at_call 28; refine (hcon _ _ (alloc3 W _ _ _ _).1 (alloc3 W _ _ _ _).2.1 (alloc3 W _ _ _ _).2.2).mono ?_; rintro e_ w_ ⟨rfl, rfl⟩))
    go_ret
    exact ⟨by rw [HQ.out]; rfl, _, alloc_eq_grow _ _⟩
  · have HQ : Hid (q = v) := hr2 hr
    clear hr1 hr2 hq
    go_enter Try.func22, Try.ntmps22
    go_wp2_with (first | (go_at_call 28; refine (hcon _ _ (alloc3 W _ _ _ _).1 (alloc3 W _ _ _ _).2.1 (alloc3 W _ _ _ _).2.2).mono ?_; rintro e_ w_ ⟨rfl, rfl⟩))
    go_ret
    exact ⟨by rw [HQ.out]; rfl, _, alloc_eq_grow _ _⟩
/-- The first of two that is not zero. -/
theorem or_calls (x y : Int) (g : Nat) (W : World) (h0 : W.cell? ⟨g, 0, none⟩ = some (.int .i64 x)) (h1 : W.cell? ⟨g, 1, none⟩ = some (.int .i64 y)) :
    Calls Try.prog 20 #[.slice (some ⟨g, 0, none⟩) 2 2] W fun e w' => e = .returned (.int .i64 (if x = 0 then y else x)) ∧ w' = W := by
  obtain ⟨r, hr⟩ : ∃ r, r = (if x = 0 then y else x) := ⟨_, rfl⟩
  rw [← hr]
  have HR1 : Hid (x = 0 → r = y) := fun h => by rw [hr, if_pos h]
  have HR2 : Hid (x ≠ 0 → r = x) := fun h => by rw [hr, if_neg h]
  clear hr
  go_enter Try.func20, Try.ntmps20
  go_wp2
  go_loopg [8] 2 (fun g1 vi wr => ∃ i : Nat, vi = .int .i64 i ∧ i ≤ 2 ∧ 2 - i ≤ g1 ∧ (1 ≤ i → x = 0) ∧ (2 ≤ i → y = 0) ∧ wr = W)
  case atStart => exact ⟨0, rfl, by omega, by omega, by omega, by omega, rfl⟩
  case round =>
    obtain ⟨i, rfl, hi, hg1, n1, n2, rfl⟩ := hrel
    have hc : i = 0 ∨ i = 1 ∨ i = 2 := by omega
    rcases hc with rfl | rfl | rfl
    · by_cases hx : x = 0
      · have hb : (x != (0 : Int)) = false := by rw [hx]; rfl
        go_wp2
        go_roundg 1
        case measure => omega
        case rel => exact ⟨1, by first | rfl | go_num, by omega, by omega, fun _ => hx, by omega, rfl⟩
      · have hb : (x != (0 : Int)) = true := bne_iff_ne.mpr hx
        go_wp2
        go_ret
        exact ⟨by rw [HR2.out hx]; rfl, rfl⟩
    · have m1 := n1 (by decide)
      by_cases hy : y = 0
      · have hb : (y != (0 : Int)) = false := by rw [hy]; rfl
        go_wp2
        go_roundg 0
        case measure => omega
        case rel => exact ⟨2, by first | rfl | go_num, by omega, by omega, fun _ => m1, fun _ => hy, rfl⟩
      · have hb : (y != (0 : Int)) = true := bne_iff_ne.mpr hy
        go_wp2
        go_ret
        exact ⟨by rw [HR1.out m1]; rfl, rfl⟩
    · have m1 := n1 (by decide)
      have m2 := n2 (by decide)
      go_wp2
      go_ret
      exact ⟨by rw [HR1.out m1, m2]; rfl, rfl⟩

/-- The order in which two requests are served. -/
def cf (x y : Int × Int) : Int := if cmpI y.1 x.1 = 0 then cmpI (placeZ x.2) (placeZ y.2) else cmpI y.1 x.1
def encR (x : Int × Int) : List Value := [.int .i64 x.1, .int .i64 x.2]
theorem keep_grow {w : World} {a : Addr} {v : Value} (os : Array Obj) (h : w.cell? a = some v) : (grow w os).cell? a = some v := by rw [cell?_grow _ _ _ (World.block_lt_of_cell? w a h)]; exact h
theorem keep_alloc {w : World} {a : Addr} {v : Value} (o : Obj) (h : w.cell? a = some v) : (w.alloc o).cell? a = some v := by rw [alloc_eq_grow]; exact keep_grow _ h
theorem alloc2 (W : World) (x y : Value) (t : TypeId) : (W.alloc (.cells #[x, y] t)).cell? ⟨W.heap.size, 0, none⟩ = some x ∧ (W.alloc (.cells #[x, y] t)).cell? ⟨W.heap.size, 1, none⟩ = some y := by
  refine ⟨?_, ?_⟩ <;> simp [World.cell?, World.alloc, -World.alloc_eq]
theorem alloc2b (W : World) (os1 os2 : Array Obj) (x y : Value) (t : TypeId) : ((grow (grow W.drew os1) os2).alloc (.cells #[x, y] t)).cell? ⟨W.heap.size + os1.size + os2.size, 0, none⟩ = some x ∧ ((grow (grow W.drew os1) os2).alloc (.cells #[x, y] t)).cell? ⟨W.heap.size + os1.size + os2.size, 1, none⟩ = some y := by
  have e : (grow (grow W.drew os1) os2).heap.size = W.heap.size + os1.size + os2.size := by
    show ((W.heap ++ os1) ++ os2).size = _
    rw [Array.size_append, Array.size_append]
  have h := alloc2 (grow (grow W.drew os1) os2) x y t
  rw [e] at h
  exact h
set_option maxHeartbeats 4000000 in
theorem closure_calls (x y : Int × Int) (W : World) : Calls Try.prog 19 #[.agg #[.int .i64 x.1, .int .i64 x.2], .agg #[.int .i64 y.1, .int .i64 y.2]] W fun e w' => e = .returned (.int .i64 (cf x y)) ∧ ∃ q os', w' = grow (W.drewN q) os' := by
  have mixed : Try.prog.follows .mixedOrders = true := by kernel_rfl
  unfold cf
  obtain ⟨x1, x2⟩ := x
  obtain ⟨y1, y2⟩ := y
  have c1 := fun W' => compare_calls y1 x1 W'
  have c2 := fun W' => compare_calls (placeZ x2) (placeZ y2) W'
  have p1 := fun W' => place_calls x2 W'
  have p2 := fun W' => place_calls y2 W'
  dsimp only
  generalize cmpI y1 x1 = r1 at c1 ⊢
  generalize cmpI (placeZ x2) (placeZ y2) = r2 at c2 ⊢
  generalize placeZ x2 = z1 at c2 p1
  generalize placeZ y2 = z2 at c2 p2
  have o1 := fun g W' => or_calls r1 r2 g W'
  generalize (if r1 = 0 then r2 else r1) = r at o1 ⊢
  go_enter Try.func19, Try.ntmps19
  go_wp2_with fail
  have ka := alloc2 W (.int .i64 x1) (.int .i64 x2) 23
  have kb := alloc2 (W.alloc (.cells #[.int .i64 x1, .int .i64 x2] 23)) (.int .i64 y1) (.int .i64 y2) 23
  have s1 := keep_alloc (.cells #[.int .i64 y1, .int .i64 y2] 23) ka.1
  have s2 := keep_alloc (.cells #[.int .i64 y1, .int .i64 y2] 23) ka.2
  have hsz : (W.alloc (.cells #[.int .i64 x1, .int .i64 x2] 23)).heap.size = W.heap.size + 1 := by simp [World.alloc, -World.alloc_eq]
  rw [hsz] at kb
  obtain ⟨s3, s4⟩ := kb
  have hG : (W.alloc (.cells #[.int .i64 x1, .int .i64 x2] 23)).alloc (.cells #[.int .i64 y1, .int .i64 y2] 23) = grow W (#[.cells #[.int .i64 x1, .int .i64 x2] 23] ++ #[.cells #[.int .i64 y1, .int .i64 y2] 23]) := by
    rw [alloc_eq_grow, alloc_eq_grow, grow_grow]
  clear ka hsz
  generalize (W.alloc (.cells #[.int .i64 x1, .int .i64 x2] 23)).alloc (.cells #[.int .i64 y1, .int .i64 y2] 23) = WB at s1 s2 s3 s4 hG ⊢
  have HG : Hid _ := hG
  clear hG
  generalize W.heap.size + 1 = gb at s3 s4 ⊢
  generalize W.heap.size = ga at s1 s2 ⊢
  go_region_held3 (fun w' => w'.cell? ⟨ga, 0, none⟩ = some (.int .i64 x1) ∧ w'.cell? ⟨ga, 1, none⟩ = some (.int .i64 x2) ∧ w'.cell? ⟨gb, 0, none⟩ = some (.int .i64 y1) ∧ w'.cell? ⟨gb, 1, none⟩ = some (.int .i64 y2)) (first | exact ⟨s1, s2, s3, s4⟩ | exact ⟨keep_grow _ s1, keep_grow _ s2, keep_grow _ s3, keep_grow _ s4⟩ | exact ⟨keep_grow _ (keep_grow _ s1), keep_grow _ (keep_grow _ s2), keep_grow _ (keep_grow _ s3), keep_grow _ (keep_grow _ s4)⟩ | exact ⟨keep_alloc _ (keep_grow _ (keep_grow _ s1)), keep_alloc _ (keep_grow _ (keep_grow _ s2)), keep_alloc _ (keep_grow _ (keep_grow _ s3)), keep_alloc _ (keep_grow _ (keep_grow _ s4))⟩)
    (first
      | (go_at_call_of 21 y1; refine (c1 _).mono ?_; rintro e w' ⟨rfl, rfl⟩)
      | (go_at_call_of 22 x2; refine (p1 _).mono ?_; rintro e w' ⟨rfl, os1, rfl⟩)
      | (go_at_call_of 22 y2; refine (p2 _).mono ?_; rintro e w' ⟨rfl, os2, rfl⟩)
      | (go_at_call_of 21 z1; refine (c2 _).mono ?_; rintro e w' ⟨rfl, rfl⟩)
      | (go_at_call 20; refine (o1 _ _ (alloc2b WB os1 os2 _ _ _).1 (alloc2b WB os1 os2 _ _ _).2).mono ?_; rintro e w' ⟨rfl, rfl⟩))
  clear s1 s2 s3 s4
  go_wp2
  go_ret
  refine ⟨rfl, 1, (#[.cells #[.int .i64 x1, .int .i64 x2] 23] ++ #[.cells #[.int .i64 y1, .int .i64 y2] 23]) ++ (os1 ++ (os2 ++ #[.cells #[.int .i64 r1, .int .i64 r2] 3])), ?_⟩
  rw [HG.out, alloc_eq_grow, drew_grow, grow_grow, grow_grow, grow_grow]
  rfl
theorem cmpLays (blk off L : Nat) (w : World) : CmpLays Try.prog 19 #[] encR 2 cf blk off L w := fun _ _ _ _ x y => closure_calls x y _
end Go.Proofs.Ytcicdnleeknjgaa.ArbW
