/- arbiter: the sort's contract in the printed texts' words. -/
import Derived.Test.YtcicdnleeknjgaaMyArbC
import Derived.Test.YtcicdnleeknjgaaKx0
set_option linter.unusedVariables false
set_option linter.unusedSimpArgs false
namespace Go.Proofs.Ytcicdnleeknjgaa.K
open Go Go.Proofs Go.RowKit Go.Sort Go.Proofs.Ytcicdnleeknjgaa.Stab Go.Proofs.Ytcicdnleeknjgaa.ArbW Go.Proofs.YtcicdnleeknjgaaW.PrintWords Go.Proofs.YtcicdnleeknjgaaW.PrintLast

instance : Inhabited S23 := ⟨z23⟩
def encS (x : S23) : List Value := [.int .i64 x.f0, .int .i64 x.f1]
theorem encS_len (x : S23) : (encS x).length = 2 := rfl
theorem encS_one (x : S23) : ∀ v ∈ encS x, v.oneCell' = true := by
  intro v hv
  simp [encS] at hv
  rcases hv with rfl | rfl <;> rfl
/-- The order in which two requests are served. -/
def cfS (x y : S23) : Int := cf (x.f0, x.f1) (y.f0, y.f1)
theorem cmpLaysS (blk off L : Nat) (w : World) : CmpLays Try.prog 19 #[] encS 2 cfS blk off L w := fun _ _ _ _ x y => closure_calls (x.f0, x.f1) (y.f0, y.f1) _
/-- The sorted list. -/
def stab (xs : List S23) : List S23 := (stable (ltOf cfS) xs.toArray).toList

theorem flat_get (ps : List S23) (t : Nat) (ht : t < ps.length * 2) : (flatK encS 2 ps.toArray).toList[t]? = some ((encS (ps.toArray[t / 2]!))[t % 2]!) := by
  have h1 : t < (flatK encS 2 ps.toArray).size := by rw [size_flatK]; simpa using ht
  rw [Array.getElem?_toList, Array.getElem?_eq_getElem h1]
  have := get_flatK encS 2 ps.toArray t (by simpa using ht)
  rw [getElem!_pos (flatK encS 2 ps.toArray) t h1] at this
  rw [this]
theorem enc_get (x : S23) (q : Nat) (hq : q < 2) : (encS x)[q]? = some ((encS x)[q]!) := by
  have h : q < (encS x).length := by rw [encS_len]; exact hq
  rw [List.getElem?_eq_getElem h, List.getElem!_eq_getElem?_getD, List.getElem?_eq_getElem h]; rfl
theorem at_list (ps : List S23) (j : Nat) (p : S23) (hp : ps[j]? = some p) : ps.toArray[j]! = p := by
  simp [Array.getElem!_eq_getD, Array.getD, List.getElem?_eq_some_iff] at hp ⊢
  obtain ⟨h, rfl⟩ := hp
  simp [h]
theorem reps_flat {R : S23 → List Value → Prop} {ps : List S23} {cs : List Value} (hR : ∀ p c, R p c → c = encS p) (h : Reps R 2 ps cs) : cs = (flatK encS 2 ps.toArray).toList := by
  obtain ⟨hl, hr⟩ := h
  apply List.ext_getElem?
  intro t
  by_cases ht : t < ps.length * 2
  · rw [flat_get ps t ht]
    have hj : t / 2 < ps.length := by omega
    obtain ⟨p, hp⟩ : ∃ p, ps[t / 2]? = some p := ⟨_, List.getElem?_eq_getElem hj⟩
    have h1 := hR _ _ (hr (t / 2) p hp)
    have h2 : ((cs.drop (t / 2 * 2)).take 2)[t % 2]? = cs[t]? := by
      rw [List.getElem?_take_of_lt (by omega), List.getElem?_drop]
      congr 1; omega
    rw [← h2, h1, at_list _ _ _ hp]
    exact enc_get p _ (by omega)
  · rw [List.getElem?_eq_none (by omega), List.getElem?_eq_none (by rw [Array.length_toList, size_flatK]; simp; omega)]
theorem flat_reps {R : S23 → List Value → Prop} (ys : List S23) (hR : ∀ p, R p (encS p)) : Reps R 2 ys (flatK encS 2 ys.toArray).toList := by
  refine ⟨by rw [Array.length_toList, size_flatK]; simp, fun j p hp => ?_⟩
  have hj : j < ys.length := (List.getElem?_eq_some_iff.1 hp).1
  have e : (((flatK encS 2 ys.toArray).toList.drop (j * 2)).take 2) = encS p := by
    apply List.ext_getElem?
    intro q
    by_cases hq : q < 2
    · rw [List.getElem?_take_of_lt hq, List.getElem?_drop, flat_get ys _ (by omega), show (j * 2 + q) / 2 = j by omega, show (j * 2 + q) % 2 = q by omega, at_list _ _ _ hp]
      exact (enc_get p q hq).symm
    · rw [List.getElem?_take_eq_none (by omega), List.getElem?_eq_none (by rw [encS_len]; omega)]
  rw [e]; exact hR p

theorem holds_flat {w : World} {g : Nat} {cur : Array Value} {e : TypeId} {F : Array Value} (hb : w.heap[g]? = some (.cells cur e (0, 0))) (ht : cur.toList.take F.size = F.toList) : Holds id w g 0 F := by
  intro j hj
  refine ⟨?_, by simp [World.frozen?, hb]⟩
  have h1 : (cur.toList.take F.size)[j]? = F.toList[j]? := by rw [ht]
  rw [List.getElem?_take_of_lt hj] at h1
  simp only [World.cell?, hb, Nat.zero_add]
  simp only [Option.isSome_none, Bool.false_eq_true, if_false]
  rw [← Array.getElem?_toList, h1, Array.getElem?_toList, Array.getElem?_eq_getElem hj]
  show some F[j] = some (F[j]!)
  rw [getElem!_pos F j hj]
theorem heap_sortedF {w : World} {g n : Nat} {os : Array Obj} {cur : Array Value} {e : TypeId} {fr : Nat × Nat} (F : Array Value) (hb : w.heap[g]? = some (.cells cur e fr)) :
    (grow (putRow id (Sort.ahead w n) g 0 F) os).heap[g]? = some (.cells (putCells id 0 F cur) e fr) := by
  have hg : g < w.heap.size := (Array.getElem?_eq_some_iff.1 hb).1
  rw [heap_grow_old _ _ (by simpa using hg)]
  simp [putRow, mapBlock, Sort.ahead, Array.getElem?_modify, hb, onCells]
theorem below_sortedF {w0 w : World} {g n : Nat} {os : Array Obj} (F : Array Value) (h : Below w0.heap.size w0 w) (hg : w0.heap.size ≤ g) (hgw : g < w.heap.size) : Below w0.heap.size w0 (grow (putRow id (Sort.ahead w n) g 0 F) os) := by
  refine ⟨h.os, h.tape, h.output, ?_, fun k hk => ?_⟩
  · have : (grow (putRow id (Sort.ahead w n) g 0 F) os).heap.size = w.heap.size + os.size := by simp [grow, putRow, mapBlock, Sort.ahead]
    have := h.size
    omega
  · have hks := h.size
    rw [heap_grow_old _ _ (by simp; omega)]
    have hne : g ≠ k := by omega
    rw [← h.block k hk]
    simp [putRow, mapBlock, Sort.ahead, Array.getElem?_modify, hne]
theorem take_putCellsF (cur F : Array Value) (h : F.size ≤ cur.size) : (putCells id 0 F cur).toList.take F.size = F.toList := by
  apply List.ext_getElem?
  intro j
  by_cases hj : j < F.size
  · rw [List.getElem?_take_of_lt hj, Array.getElem?_toList, Array.getElem?_toList]
    simp [putCells, hj, show j < cur.size by omega]
  · rw [List.getElem?_take_eq_none (by omega), List.getElem?_eq_none (by simp; omega)]
theorem lt_iff (x y : S23) : ltOf cfS x y = true ↔ (y.f0 < x.f0 ∨ (y.f0 = x.f0 ∧ placeZ x.f1 < placeZ y.f1)) := by
  show decide (cfS x y < 0) = true ↔ _
  rw [decide_eq_true_eq]
  unfold cfS cf cmpI
  dsimp only
  generalize placeZ x.f1 = a
  generalize placeZ y.f1 = b
  generalize x.f0 = c
  generalize y.f0 = d
  repeat' split
  all_goals omega
theorem lt_false (x y : S23) : ltOf cfS x y = false ↔ ¬ (y.f0 < x.f0 ∨ (y.f0 = x.f0 ∧ placeZ x.f1 < placeZ y.f1)) := by
  rw [← lt_iff]; cases ltOf cfS x y <;> simp
theorem swo : SWO (ltOf cfS) where
  irrefl x := by rw [lt_false]; omega
  trans x y z h1 h2 := by rw [lt_iff] at *; omega
  ntrans x y z h1 h2 := by rw [lt_false] at *; omega
theorem stab_length (xs : List S23) : (stab xs).length = xs.length := by
  unfold stab
  rw [Array.length_toList, (stable_spec swo xs.toArray).1.1]
  simp
theorem stab_nil : stab [] = [] := List.eq_nil_of_length_eq_zero (stab_length [])
theorem sort_step {v : Value} {xs : List S23} {w wc : World} (hR : Kd.R k23 23 wc w.heap.size (fun _ => True) v xs) (hB : Below w.heap.size w wc) (hlen : xs.length ≤ 8796093022208) :
    Calls Try.prog 18 #[v, .func (.func 19) #[] #[]] wc fun e w' => e = .returned (.tuple #[]) ∧ Kd.R k23 23 w' w.heap.size (fun _ => True) v (stab xs) ∧ Below w.heap.size w w' := by
  obtain ⟨_, inner, ⟨hil, ho⟩, hr⟩ := hR
  rcases ho with ⟨rfl, h0⟩ | ⟨g, cap, cur, rfl, hbase, hg, h1, h2, h3, h4⟩
  · obtain rfl : xs = [] := List.eq_nil_of_length_eq_zero h0
    refine (sortStable_nil none 0 19 #[] wc).mono ?_
    rintro e w' ⟨rfl, rfl⟩
    exact ⟨rfl, by rw [stab_nil]; exact Kd.R_nil _ _ _ _ _, hB⟩
  · have hin := reps_flat (fun p c hp => k23_openM hp) hr
    have hgs : g < wc.heap.size := (Array.getElem?_eq_some_iff.1 hg).1
    have hF : (flatK encS 2 xs.toArray).size = xs.length * 2 := by rw [size_flatK]; simp
    have hH : HoldsK encS 2 wc g 0 xs.toArray := holds_flat hg (by rw [hF, ← hin]; exact h4)
    have eg : ∀ args w, (callFunc 19 args).run Try.prog w = .ok (.enter 19 args) w := enters_of Try.func19 (by kernel_rfl) rfl
    refine (sortStable_calls 2 (fun _ => by rfl) encS encS_len encS_one cfS 19 #[] eg g 0 cap xs.length xs.toArray wc (cmpLaysS _ _ _ _) hH hgs (by simp) (by omega)).mono ?_
    rintro e w' ⟨rfl, n, os, rfl⟩
    have hys : (stable (ltOf cfS) xs.toArray) = (stab xs).toArray := by unfold stab; simp
    have hl2 := stab_length xs
    refine ⟨rfl, ⟨fun _ _ => trivial, (flatK encS 2 (stab xs).toArray).toList, ⟨by rw [Array.length_toList, size_flatK]; simp; rfl, .inr ⟨g, cap, putCells id 0 (flatK encS 2 (stab xs).toArray) cur, by rw [hl2], hbase, ?_, by rw [hl2]; exact h1, h2, by simp [putCells]; exact h3, ?_⟩⟩, flat_reps _ (fun p => k23_mkM _ _ _ p)⟩, ?_⟩
    · rw [hys]; exact heap_sortedF _ hg
    · have e : (stab xs).length * k23.sz = (flatK encS 2 (stab xs).toArray).size := by rw [size_flatK]; simp; rfl
      rw [e]
      refine take_putCellsF _ _ ?_
      have h5 : cur.size = cap * 2 := h3
      rw [size_flatK]
      simp
      omega
    · rw [hys]; exact below_sortedF _ hB hbase hgs
end Go.Proofs.Ytcicdnleeknjgaa.K
