/- Walks: the two laws of chapter 16 return true. -/
import Derived.Test.YtblljhojelmmeaaVersionWalk
import Derived.OpenShut
namespace Go.Proofs.Ytblljhojelmmeaa.VersionWalk
open Go.WideShapes Go.ChangeShapes Go.RowKit Go.Proofs.YtblljhojelmmeaaW.PrintWords Go.Proofs.YtblljhojelmmeaaW.PrintLast
attribute [local go_sem ↓] ld27
attribute [local go_sem] ld27_run

theorem keepS {B : Nat} {w W w2 : World} {cs : Array Value} (h1 : rowAt W B = cs) (h2 : B < W.heap.size) (h3 : Below B w W) (hb : Below W.heap.size W w2) : rowAt w2 B = cs ∧ B < w2.heap.size ∧ Below B w w2 :=
  ⟨(rowAt_below hb h2).trans h1, Nat.lt_of_lt_of_le h2 hb.size, h3.trans (hb.mono (Nat.le_of_lt h2))⟩
theorem keepD {B : Nat} {w W : World} {cs : Array Value} (h1 : rowAt W B = cs) (h2 : B < W.heap.size) (h3 : Below B w W) : rowAt W.drew B = cs ∧ B < W.drew.heap.size ∧ Below B w W.drew :=
  ⟨h1, h2, h3.drew⟩

set_option maxHeartbeats 1000000 in
theorem tells (cs : Array Value) (a v0 v1 mn v : Int) (w : World) (hm : IsMeta cs a v0 v1 mn) :
    Calls Try.prog 3 #[.agg cs, .int .i64 v] w fun e w' => e = .returned (.bool true) ∧ Below w.heap.size w w' := by
  have hsz := hm.size
  have hx : cs.extract 0 107 = cs := by rw [← hm.size]; exact Array.extract_size
  go_enter Try.func3, Try.ntmps3
  go_wp2_with fail
  refine (live _).mono ?_
  rintro e w1 ⟨rfl, hb⟩
  have hlt : w.heap.size < w1.heap.size := by have := hb.size; simp at this; omega
  have h1 : rowAt w1 w.heap.size = cs := (rowAt_below hb (by simp)).trans (rowAt_new _ _ _ _)
  have hb0 : Below w.heap.size w w1 := ((Below.refl _ _).alloc (Nat.le_refl _) _).trans (hb.mono (by simp))
  clear hb
  go_wp2_with fail
  go_region_held3 (fun w' => rowAt w' w.heap.size = cs ∧ w.heap.size < w'.heap.size ∧ Below w.heap.size w w')
    ((go_split_ands; first | exact ⟨by assumption, by assumption, by assumption⟩ | exact keepS (by assumption) (by assumption) (by assumption) (by assumption) | exact keepD (by assumption) (by assumption) (by assumption))) (first
    | (go_at_call 16; refine (may cs mn v _ hm.h69).mono ?_; rintro e w2 ⟨rfl, hb2⟩)
    | (go_at_call 17; refine (may_ref cs mn v _ hm.h69).mono ?_; rintro e w2 ⟨rfl, hb2⟩)
    | (go_at_call 18; refine (conf cs a v0 v1 mn _ hm.h0 hm.hv0 hm.hv1 hm.h69).mono ?_; rintro e w2 ⟨rfl, hb2⟩)
    | (go_at_call 19; refine (conf_ref cs a v0 v1 mn _ hm.h0 hm.hv0 hm.hv1 hm.h69).mono ?_; rintro e w2 ⟨rfl, hb2⟩))
  go_wp2_with fail
  have hS : rowAt w2 w.heap.size = cs ∧ w.heap.size < w2.heap.size ∧ Below w.heap.size w w2 := by assumption
  go_ret
  exact ⟨rfl, hS.2.2⟩

theorem and1 (a : Int) : bits .and .i64 a 1 = 0 ∨ bits .and .i64 a 1 = 1 := by
  have h : bits .and .i64 a 1 = IntKind.i64.wrap ((BitVec.ofInt 64 a &&& BitVec.ofInt 64 1).toNat : Int) := rfl
  have e7 : (BitVec.ofInt 64 1).toNat = 2 ^ 1 - 1 := rfl
  rw [BitVec.toNat_and, e7, Nat.and_two_pow_sub_one_eq_mod, IntKind.wrap_i64] at h
  rw [h]
  omega

theorem rises_out (cs : Array Value) (a v0 v1 mn v : Int) (w : World) (hm : IsMeta cs a v0 v1 mn) (h : mn < 0 ∨ 1073741824 < mn ∨ v < 1 ∨ 1073741824 < v) :
    Calls Try.prog 4 #[.agg cs, .int .i64 v] w fun e w' => e = .returned (.bool true) ∧ Below w.heap.size w w' := by
  go_enter Try.func4, Try.ntmps4
  go_wp2_with fail
  refine (live _).mono ?_
  rintro e w1 ⟨rfl, hb⟩
  have hlt : w.heap.size < w1.heap.size := by have := hb.size; simp at this; omega
  have h69 : w1.cell? ⟨w.heap.size, 69, none⟩ = some (.int .i64 mn) := by
    rw [hb.cell (by simp), World.cell?_alloc_new]; exact hm.h69
  have hb0 : Below w.heap.size w w1 := ((Below.refl _ _).alloc (Nat.le_refl _) _).trans (hb.mono (by simp))
  clear hb
  go_wp2_with fail
  all_goals first
    | (exfalso; omega)
    | (go_ret; exact ⟨rfl, hb0⟩)

theorem rowAt_setCell (W : World) (g i : Nat) (v : Value) : rowAt (W.setCell ⟨g, i, none⟩ v) g = (rowAt W g).setIfInBounds i v := by
  unfold rowAt
  cases h : W.heap[g]? with
  | none => simp [World.setCell, Array.getElem?_modify, h]
  | some o => cases o <;> simp [World.setCell, Array.getElem?_modify, h]

attribute [local go_sem] rowAt_setCell


theorem ext107 (X : Array Value) (h : X.size = 107) : X.extract 0 107 = X := by rw [← h]; exact Array.extract_size
theorem set_at {X : Array Value} {i : Nat} {v : Value} (h : X.size = 107) (hi : i < 107) : (X.setIfInBounds i v)[i]? = some v := Array.getElem?_setIfInBounds_self_of_lt (by omega)
theorem set_far {X : Array Value} {i j : Nat} {v u : Value} (h : i ≠ j) (hx : X[j]? = some u) : (X.setIfInBounds i v)[j]? = some u := by rw [Array.getElem?_setIfInBounds_ne h]; exact hx
theorem set_size {X : Array Value} {i : Nat} {v : Value} (h : X.size = 107) : (X.setIfInBounds i v).size = 107 := by simpa using h


set_option maxHeartbeats 1000000 in
theorem rises_35_v (cs : Array Value) (a v0 v1 mn v : Int) (w : World) (hm : IsMeta cs a v0 v1 mn) (m0 : 0 ≤ mn) (m1 : mn ≤ 1073741824) (g0 : 1 ≤ v) (g1 : v ≤ 1073741824)
    (hj : bits .and .i64 a 1 = 0) (hmv : mn < v) :
    Calls Try.prog 4 #[.agg cs, .int .i64 v] w fun e w' => e = .returned (.bool true) ∧ Below w.heap.size w w' := by
  have hn : confI 0 v0 v mn = v := by unfold confI; (repeat' split) <;> omega
  have HN := Lib.hid hn
  clear hn
  go_enter Try.func4, Try.ntmps4
  go_wp2_with fail
  refine (live _).mono ?_
  rintro e w1 ⟨rfl, hb⟩
  have hlt : w.heap.size < w1.heap.size := by have := hb.size; simp at this; omega
  have hc : ∀ i, i < 107 → w1.cell? ⟨w.heap.size, i, none⟩ = cs[i]? := fun i _ => by rw [hb.cell (by simp), World.cell?_alloc_new]
  have hf : ∀ i, w1.frozen? ⟨w.heap.size, i, none⟩ = false := fun i => by rw [hb.frozen (by simp)]; exact frozen_of_row _ _ _ cs 27 (heap_alloc_new _ _)
  have c0 := (hc 0 (by decide)).trans hm.h0
  have c1 := (hc 1 (by decide)).trans hm.hv0
  have c35 := (hc 35 (by decide)).trans hm.hv1
  have c69 := (hc 69 (by decide)).trans hm.h69
  have f0 := hf 0
  have f1 := hf 1
  have f35 := hf 35
  have f69 := hf 69
  have h1 : rowAt w1 w.heap.size = cs := (rowAt_below hb (by simp)).trans (rowAt_new _ _ _ _)
  have hb0 : Below w.heap.size w w1 := ((Below.refl _ _).alloc (Nat.le_refl _) _).trans (hb.mono (by simp))
  have hsz := hm.size
  clear hb hc hf
  go_wp2_with fail
  rw [ext107 _ (set_size (set_size hsz))]
  refine (conf _ 0 v0 v mn _ (set_far (by decide) (set_at hsz (by decide))) (set_far (by decide) (set_far (by decide) hm.hv0)) (set_at (set_size hsz) (by decide)) (set_far (by decide) (set_far (by decide) hm.h69))).mono ?_
  rintro e w2 ⟨rfl, hb⟩
  rw [HN.out]
  have k69 : w2.cell? ⟨w.heap.size, 69, none⟩ = some (.int .i64 mn) := by
    rw [hb.cell (by simp [World.setCell]; omega)]
    simp [World.cell?_setCell_other, c69]
  have kf69 : w2.frozen? ⟨w.heap.size, 69, none⟩ = false := by
    rw [hb.frozen (by simp [World.setCell]; omega)]
    simp [f69]
  have h2 : rowAt w2 w.heap.size = (cs.setIfInBounds 0 (.int .i64 0)).setIfInBounds 35 (.int .i64 v) := by
    rw [rowAt_below hb (by simp [World.setCell]; omega), rowAt_setCell, rowAt_setCell, h1]
  have hb2 : Below w.heap.size w w2 := ((hb0.setCell (p := ⟨w.heap.size, 0, none⟩) (Nat.le_refl _) _).setCell (p := ⟨w.heap.size, 35, none⟩) (Nat.le_refl _) _).trans (hb.mono (by simp [World.setCell]; omega))
  have hlt2 : w.heap.size < w2.heap.size := by have := hb.size; simp [World.setCell] at this; omega
  clear hb c0 c1 c35 c69 f0 f1 f35 f69 h1 hb0
  go_wp2_with fail
  all_goals try (exfalso; omega)
  rw [ext107 _ (set_size (set_size (set_size hsz)))]
  refine (may _ v v _ (set_at (set_size (set_size hsz)) (by decide))).mono ?_
  rintro e w3 ⟨rfl, hb⟩
  have hy : mayB v v = true := by unfold mayB; simp; omega
  rw [hy]
  have h3 : rowAt w3 w.heap.size = ((cs.setIfInBounds 0 (.int .i64 0)).setIfInBounds 35 (.int .i64 v)).setIfInBounds 69 (.int .i64 v) := by
    rw [rowAt_below hb (by simp [World.setCell]; omega), rowAt_setCell, h2]
  have hb3 : Below w.heap.size w w3 := (hb2.setCell (p := ⟨w.heap.size, 69, none⟩) (Nat.le_refl _) _).trans (hb.mono (by simp [World.setCell]; omega))
  clear hb h2 hb2 hy
  go_wp2_with fail
  rw [ext107 _ (set_size (set_size (set_size hsz)))]
  refine (may _ v (v - 1) _ (set_at (set_size (set_size hsz)) (by decide))).mono ?_
  rintro e w4 ⟨rfl, hb⟩
  have hz : mayB v (v - 1) = false := by unfold mayB; simp; omega
  rw [hz]
  have hb4 : Below w.heap.size w w4 := hb3.trans (hb.mono hb3.size)
  clear hz
  go_wp2_with fail
  go_ret
  exact ⟨rfl, hb4⟩

set_option maxHeartbeats 1000000 in
theorem rises_35_m (cs : Array Value) (a v0 v1 mn v : Int) (w : World) (hm : IsMeta cs a v0 v1 mn) (m0 : 0 ≤ mn) (m1 : mn ≤ 1073741824) (g0 : 1 ≤ v) (g1 : v ≤ 1073741824)
    (hj : bits .and .i64 a 1 = 0) (hmv : ¬ mn < v) :
    Calls Try.prog 4 #[.agg cs, .int .i64 v] w fun e w' => e = .returned (.bool true) ∧ Below w.heap.size w w' := by
  have hn : confI 0 v0 v mn = mn := by unfold confI; (repeat' split) <;> omega
  have HN := Lib.hid hn
  clear hn
  go_enter Try.func4, Try.ntmps4
  go_wp2_with fail
  refine (live _).mono ?_
  rintro e w1 ⟨rfl, hb⟩
  have hlt : w.heap.size < w1.heap.size := by have := hb.size; simp at this; omega
  have hc : ∀ i, i < 107 → w1.cell? ⟨w.heap.size, i, none⟩ = cs[i]? := fun i _ => by rw [hb.cell (by simp), World.cell?_alloc_new]
  have hf : ∀ i, w1.frozen? ⟨w.heap.size, i, none⟩ = false := fun i => by rw [hb.frozen (by simp)]; exact frozen_of_row _ _ _ cs 27 (heap_alloc_new _ _)
  have c0 := (hc 0 (by decide)).trans hm.h0
  have c1 := (hc 1 (by decide)).trans hm.hv0
  have c35 := (hc 35 (by decide)).trans hm.hv1
  have c69 := (hc 69 (by decide)).trans hm.h69
  have f0 := hf 0
  have f1 := hf 1
  have f35 := hf 35
  have f69 := hf 69
  have h1 : rowAt w1 w.heap.size = cs := (rowAt_below hb (by simp)).trans (rowAt_new _ _ _ _)
  have hb0 : Below w.heap.size w w1 := ((Below.refl _ _).alloc (Nat.le_refl _) _).trans (hb.mono (by simp))
  have hsz := hm.size
  clear hb hc hf
  go_wp2_with fail
  rw [ext107 _ (set_size (set_size hsz))]
  refine (conf _ 0 v0 v mn _ (set_far (by decide) (set_at hsz (by decide))) (set_far (by decide) (set_far (by decide) hm.hv0)) (set_at (set_size hsz) (by decide)) (set_far (by decide) (set_far (by decide) hm.h69))).mono ?_
  rintro e w2 ⟨rfl, hb⟩
  rw [HN.out]
  have k69 : w2.cell? ⟨w.heap.size, 69, none⟩ = some (.int .i64 mn) := by
    rw [hb.cell (by simp [World.setCell]; omega)]
    simp [World.cell?_setCell_other, c69]
  have kf69 : w2.frozen? ⟨w.heap.size, 69, none⟩ = false := by
    rw [hb.frozen (by simp [World.setCell]; omega)]
    simp [f69]
  have h2 : rowAt w2 w.heap.size = (cs.setIfInBounds 0 (.int .i64 0)).setIfInBounds 35 (.int .i64 v) := by
    rw [rowAt_below hb (by simp [World.setCell]; omega), rowAt_setCell, rowAt_setCell, h1]
  have hb2 : Below w.heap.size w w2 := ((hb0.setCell (p := ⟨w.heap.size, 0, none⟩) (Nat.le_refl _) _).setCell (p := ⟨w.heap.size, 35, none⟩) (Nat.le_refl _) _).trans (hb.mono (by simp [World.setCell]; omega))
  have hlt2 : w.heap.size < w2.heap.size := by have := hb.size; simp [World.setCell] at this; omega
  clear hb c0 c1 c35 c69 f0 f1 f35 f69 h1 hb0
  go_wp2_with fail
  all_goals try (exfalso; omega)
  rw [ext107 _ (set_size (set_size (set_size hsz)))]
  refine (may _ mn mn _ (set_at (set_size (set_size hsz)) (by decide))).mono ?_
  rintro e w3 ⟨rfl, hb⟩
  have hy : mayB mn mn = true := by unfold mayB; simp; omega
  rw [hy]
  have h3 : rowAt w3 w.heap.size = ((cs.setIfInBounds 0 (.int .i64 0)).setIfInBounds 35 (.int .i64 v)).setIfInBounds 69 (.int .i64 mn) := by
    rw [rowAt_below hb (by simp [World.setCell]; omega), rowAt_setCell, h2]
  have hb3 : Below w.heap.size w w3 := (hb2.setCell (p := ⟨w.heap.size, 69, none⟩) (Nat.le_refl _) _).trans (hb.mono (by simp [World.setCell]; omega))
  clear hb h2 hb2 hy
  go_wp2_with fail
  rw [ext107 _ (set_size (set_size (set_size hsz)))]
  refine (may _ mn (mn - 1) _ (set_at (set_size (set_size hsz)) (by decide))).mono ?_
  rintro e w4 ⟨rfl, hb⟩
  have hz : mayB mn (mn - 1) = false := by unfold mayB; simp; omega
  rw [hz]
  have hb4 : Below w.heap.size w w4 := hb3.trans (hb.mono hb3.size)
  clear hz
  go_wp2_with fail
  go_ret
  exact ⟨rfl, hb4⟩

set_option maxHeartbeats 1000000 in
theorem rises_1_v (cs : Array Value) (a v0 v1 mn v : Int) (w : World) (hm : IsMeta cs a v0 v1 mn) (m0 : 0 ≤ mn) (m1 : mn ≤ 1073741824) (g0 : 1 ≤ v) (g1 : v ≤ 1073741824)
    (hj : bits .and .i64 a 1 = 1) (hmv : mn < v) :
    Calls Try.prog 4 #[.agg cs, .int .i64 v] w fun e w' => e = .returned (.bool true) ∧ Below w.heap.size w w' := by
  have hn : confI 1 v v1 mn = v := by unfold confI; (repeat' split) <;> omega
  have HN := Lib.hid hn
  clear hn
  go_enter Try.func4, Try.ntmps4
  go_wp2_with fail
  refine (live _).mono ?_
  rintro e w1 ⟨rfl, hb⟩
  have hlt : w.heap.size < w1.heap.size := by have := hb.size; simp at this; omega
  have hc : ∀ i, i < 107 → w1.cell? ⟨w.heap.size, i, none⟩ = cs[i]? := fun i _ => by rw [hb.cell (by simp), World.cell?_alloc_new]
  have hf : ∀ i, w1.frozen? ⟨w.heap.size, i, none⟩ = false := fun i => by rw [hb.frozen (by simp)]; exact frozen_of_row _ _ _ cs 27 (heap_alloc_new _ _)
  have c0 := (hc 0 (by decide)).trans hm.h0
  have c1 := (hc 1 (by decide)).trans hm.hv0
  have c35 := (hc 35 (by decide)).trans hm.hv1
  have c69 := (hc 69 (by decide)).trans hm.h69
  have f0 := hf 0
  have f1 := hf 1
  have f35 := hf 35
  have f69 := hf 69
  have h1 : rowAt w1 w.heap.size = cs := (rowAt_below hb (by simp)).trans (rowAt_new _ _ _ _)
  have hb0 : Below w.heap.size w w1 := ((Below.refl _ _).alloc (Nat.le_refl _) _).trans (hb.mono (by simp))
  have hsz := hm.size
  clear hb hc hf
  go_wp2_with fail
  rw [ext107 _ (set_size (set_size hsz))]
  refine (conf _ 1 v v1 mn _ (set_far (by decide) (set_at hsz (by decide))) (set_at (set_size hsz) (by decide)) (set_far (by decide) (set_far (by decide) hm.hv1)) (set_far (by decide) (set_far (by decide) hm.h69))).mono ?_
  rintro e w2 ⟨rfl, hb⟩
  rw [HN.out]
  have k69 : w2.cell? ⟨w.heap.size, 69, none⟩ = some (.int .i64 mn) := by
    rw [hb.cell (by simp [World.setCell]; omega)]
    simp [World.cell?_setCell_other, c69]
  have kf69 : w2.frozen? ⟨w.heap.size, 69, none⟩ = false := by
    rw [hb.frozen (by simp [World.setCell]; omega)]
    simp [f69]
  have h2 : rowAt w2 w.heap.size = (cs.setIfInBounds 0 (.int .i64 1)).setIfInBounds 1 (.int .i64 v) := by
    rw [rowAt_below hb (by simp [World.setCell]; omega), rowAt_setCell, rowAt_setCell, h1]
  have hb2 : Below w.heap.size w w2 := ((hb0.setCell (p := ⟨w.heap.size, 0, none⟩) (Nat.le_refl _) _).setCell (p := ⟨w.heap.size, 1, none⟩) (Nat.le_refl _) _).trans (hb.mono (by simp [World.setCell]; omega))
  have hlt2 : w.heap.size < w2.heap.size := by have := hb.size; simp [World.setCell] at this; omega
  clear hb c0 c1 c35 c69 f0 f1 f35 f69 h1 hb0
  go_wp2_with fail
  all_goals try (exfalso; omega)
  rw [ext107 _ (set_size (set_size (set_size hsz)))]
  refine (may _ v v _ (set_at (set_size (set_size hsz)) (by decide))).mono ?_
  rintro e w3 ⟨rfl, hb⟩
  have hy : mayB v v = true := by unfold mayB; simp; omega
  rw [hy]
  have h3 : rowAt w3 w.heap.size = ((cs.setIfInBounds 0 (.int .i64 1)).setIfInBounds 1 (.int .i64 v)).setIfInBounds 69 (.int .i64 v) := by
    rw [rowAt_below hb (by simp [World.setCell]; omega), rowAt_setCell, h2]
  have hb3 : Below w.heap.size w w3 := (hb2.setCell (p := ⟨w.heap.size, 69, none⟩) (Nat.le_refl _) _).trans (hb.mono (by simp [World.setCell]; omega))
  clear hb h2 hb2 hy
  go_wp2_with fail
  rw [ext107 _ (set_size (set_size (set_size hsz)))]
  refine (may _ v (v - 1) _ (set_at (set_size (set_size hsz)) (by decide))).mono ?_
  rintro e w4 ⟨rfl, hb⟩
  have hz : mayB v (v - 1) = false := by unfold mayB; simp; omega
  rw [hz]
  have hb4 : Below w.heap.size w w4 := hb3.trans (hb.mono hb3.size)
  clear hz
  go_wp2_with fail
  go_ret
  exact ⟨rfl, hb4⟩

set_option maxHeartbeats 1000000 in
theorem rises_1_m (cs : Array Value) (a v0 v1 mn v : Int) (w : World) (hm : IsMeta cs a v0 v1 mn) (m0 : 0 ≤ mn) (m1 : mn ≤ 1073741824) (g0 : 1 ≤ v) (g1 : v ≤ 1073741824)
    (hj : bits .and .i64 a 1 = 1) (hmv : ¬ mn < v) :
    Calls Try.prog 4 #[.agg cs, .int .i64 v] w fun e w' => e = .returned (.bool true) ∧ Below w.heap.size w w' := by
  have hn : confI 1 v v1 mn = mn := by unfold confI; (repeat' split) <;> omega
  have HN := Lib.hid hn
  clear hn
  go_enter Try.func4, Try.ntmps4
  go_wp2_with fail
  refine (live _).mono ?_
  rintro e w1 ⟨rfl, hb⟩
  have hlt : w.heap.size < w1.heap.size := by have := hb.size; simp at this; omega
  have hc : ∀ i, i < 107 → w1.cell? ⟨w.heap.size, i, none⟩ = cs[i]? := fun i _ => by rw [hb.cell (by simp), World.cell?_alloc_new]
  have hf : ∀ i, w1.frozen? ⟨w.heap.size, i, none⟩ = false := fun i => by rw [hb.frozen (by simp)]; exact frozen_of_row _ _ _ cs 27 (heap_alloc_new _ _)
  have c0 := (hc 0 (by decide)).trans hm.h0
  have c1 := (hc 1 (by decide)).trans hm.hv0
  have c35 := (hc 35 (by decide)).trans hm.hv1
  have c69 := (hc 69 (by decide)).trans hm.h69
  have f0 := hf 0
  have f1 := hf 1
  have f35 := hf 35
  have f69 := hf 69
  have h1 : rowAt w1 w.heap.size = cs := (rowAt_below hb (by simp)).trans (rowAt_new _ _ _ _)
  have hb0 : Below w.heap.size w w1 := ((Below.refl _ _).alloc (Nat.le_refl _) _).trans (hb.mono (by simp))
  have hsz := hm.size
  clear hb hc hf
  go_wp2_with fail
  rw [ext107 _ (set_size (set_size hsz))]
  refine (conf _ 1 v v1 mn _ (set_far (by decide) (set_at hsz (by decide))) (set_at (set_size hsz) (by decide)) (set_far (by decide) (set_far (by decide) hm.hv1)) (set_far (by decide) (set_far (by decide) hm.h69))).mono ?_
  rintro e w2 ⟨rfl, hb⟩
  rw [HN.out]
  have k69 : w2.cell? ⟨w.heap.size, 69, none⟩ = some (.int .i64 mn) := by
    rw [hb.cell (by simp [World.setCell]; omega)]
    simp [World.cell?_setCell_other, c69]
  have kf69 : w2.frozen? ⟨w.heap.size, 69, none⟩ = false := by
    rw [hb.frozen (by simp [World.setCell]; omega)]
    simp [f69]
  have h2 : rowAt w2 w.heap.size = (cs.setIfInBounds 0 (.int .i64 1)).setIfInBounds 1 (.int .i64 v) := by
    rw [rowAt_below hb (by simp [World.setCell]; omega), rowAt_setCell, rowAt_setCell, h1]
  have hb2 : Below w.heap.size w w2 := ((hb0.setCell (p := ⟨w.heap.size, 0, none⟩) (Nat.le_refl _) _).setCell (p := ⟨w.heap.size, 1, none⟩) (Nat.le_refl _) _).trans (hb.mono (by simp [World.setCell]; omega))
  have hlt2 : w.heap.size < w2.heap.size := by have := hb.size; simp [World.setCell] at this; omega
  clear hb c0 c1 c35 c69 f0 f1 f35 f69 h1 hb0
  go_wp2_with fail
  all_goals try (exfalso; omega)
  rw [ext107 _ (set_size (set_size (set_size hsz)))]
  refine (may _ mn mn _ (set_at (set_size (set_size hsz)) (by decide))).mono ?_
  rintro e w3 ⟨rfl, hb⟩
  have hy : mayB mn mn = true := by unfold mayB; simp; omega
  rw [hy]
  have h3 : rowAt w3 w.heap.size = ((cs.setIfInBounds 0 (.int .i64 1)).setIfInBounds 1 (.int .i64 v)).setIfInBounds 69 (.int .i64 mn) := by
    rw [rowAt_below hb (by simp [World.setCell]; omega), rowAt_setCell, h2]
  have hb3 : Below w.heap.size w w3 := (hb2.setCell (p := ⟨w.heap.size, 69, none⟩) (Nat.le_refl _) _).trans (hb.mono (by simp [World.setCell]; omega))
  clear hb h2 hb2 hy
  go_wp2_with fail
  rw [ext107 _ (set_size (set_size (set_size hsz)))]
  refine (may _ mn (mn - 1) _ (set_at (set_size (set_size hsz)) (by decide))).mono ?_
  rintro e w4 ⟨rfl, hb⟩
  have hz : mayB mn (mn - 1) = false := by unfold mayB; simp; omega
  rw [hz]
  have hb4 : Below w.heap.size w w4 := hb3.trans (hb.mono hb3.size)
  clear hz
  go_wp2_with fail
  go_ret
  exact ⟨rfl, hb4⟩

theorem rises (cs : Array Value) (a v0 v1 mn v : Int) (w : World) (hm : IsMeta cs a v0 v1 mn) :
    Calls Try.prog 4 #[.agg cs, .int .i64 v] w fun e w' => e = .returned (.bool true) ∧ Below w.heap.size w w' := by
  by_cases h : mn < 0 ∨ 1073741824 < mn ∨ v < 1 ∨ 1073741824 < v
  · exact rises_out cs a v0 v1 mn v w hm h
  · have m0 : 0 ≤ mn := by omega
    have m1 : mn ≤ 1073741824 := by omega
    have g0 : 1 ≤ v := by omega
    have g1 : v ≤ 1073741824 := by omega
    rcases and1 a with hj | hj
    · by_cases hmv : mn < v
      · exact rises_35_v cs a v0 v1 mn v w hm m0 m1 g0 g1 hj hmv
      · exact rises_35_m cs a v0 v1 mn v w hm m0 m1 g0 g1 hj hmv
    · by_cases hmv : mn < v
      · exact rises_1_v cs a v0 v1 mn v w hm m0 m1 g0 g1 hj hmv
      · exact rises_1_m cs a v0 v1 mn v w hm m0 m1 g0 g1 hj hmv

/-- the types of a Meta's cells -/
def metaTypes : List TypeId := 3 :: (3 :: 3 :: List.replicate 32 5) ++ (3 :: 3 :: List.replicate 32 5) ++ [3, 3] ++ (3 :: 3 :: List.replicate 32 5) ++ [3, 3]
theorem cells27 : Try.prog.cellTypes Try.prog.depth 27 = some metaTypes := by kernel_rfl
theorem count27 : Try.prog.cellsOf 27 = 107 := by kernel_rfl

theorem cell_int {W : World} {base : Nat} {v : Value} (h : Cell.okWide Try.prog W .any base 3 v) : ∃ n, v = .int .i64 n ∧ (Lit.int .i64 n).wf = true := by
  simp only [Cell.okWide, Try.underlying3] at h
  cases v <;> simp_all [Cell.ok, Try.underlying3]
  rename_i k n
  obtain ⟨rfl, h1, h2⟩ := h
  exact WalkArith.wf_i64 (by simp [IntKind.min, IntKind.max, IntKind.bits, IntKind.signed] at h1 h2; omega)

theorem opened {W : World} {base : Nat} {v : Value} (h : Value.okWide Try.prog W .any base 27 v) : ∃ cs a v0 v1 mn, v = .agg cs ∧ IsMeta cs a v0 v1 mn := by
  unfold Value.okWide at h
  rw [Try.underlying27] at h
  obtain ⟨cs, rfl, hs, ts, hts, _, hc⟩ := h
  rw [count27] at hs
  rw [cells27] at hts
  obtain rfl := Option.some.inj hts
  have hlen : metaTypes.length = 107 := by decide
  rw [hlen] at hc
  have cell : ∀ i, i < 107 → metaTypes[i]? = some 3 → ∃ n, cs[i]? = some (.int .i64 n) := by
    intro i hi ht
    have hv : cs[i]? = some (cs[i]'(by omega)) := Array.getElem?_eq_getElem (by omega)
    obtain ⟨u, hu, hok⟩ := hc i _ hv
    rw [Nat.mod_eq_of_lt hi, ht] at hu
    obtain rfl := Option.some.inj hu
    obtain ⟨n, hn, _⟩ := cell_int hok
    exact ⟨n, by rw [hv, hn]⟩
  obtain ⟨a, h0⟩ := cell 0 (by decide) (by decide)
  obtain ⟨v0, h1⟩ := cell 1 (by decide) (by decide)
  obtain ⟨v1, h35⟩ := cell 35 (by decide) (by decide)
  obtain ⟨mn, h69⟩ := cell 69 (by decide) (by decide)
  exact ⟨cs, a, v0, v1, mn, rfl, hs, h0, h1, h35, h69⟩

theorem tells_walk (v0 : Value) (v : Int) (w : World) {base : Nat} (h : Value.okWide Try.prog w .any base 27 v0) :
    Calls Try.prog 3 #[v0, .int .i64 v] w fun e w' => e = .returned (.bool true) ∧ Below w.heap.size w w' := by
  obtain ⟨cs, a, v0, v1, mn, rfl, hm⟩ := opened h
  exact tells cs a v0 v1 mn v w hm
theorem rises_walk (v0 : Value) (v : Int) (w : World) {base : Nat} (h : Value.okWide Try.prog w .any base 27 v0) :
    Calls Try.prog 4 #[v0, .int .i64 v] w fun e w' => e = .returned (.bool true) ∧ Below w.heap.size w w' := by
  obtain ⟨cs, a, v0, v1, mn, rfl, hm⟩ := opened h
  exact rises cs a v0 v1 mn v w hm
end Go.Proofs.Ytblljhojelmmeaa.VersionWalk
