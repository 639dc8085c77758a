/- Walks: version.May, Confirm and the reference's tell what is said here; a Meta is one block of 107 cells. -/
import Derived.Test.YtblljhojelmmeaaWMore
import Derived.Test.YtblljhojelmmeaaProg
import Derived.WalkKit
import Derived.Lib.Hide
import Derived.IntWalk
import Derived.OpenShut
import Derived.Laws.Rows
import Derived.Deep.MidRow
import Derived.Deep.RegionHeld3
import Derived.BigQuiet
import Derived.Deep.QuietTactic
namespace Go.Proofs.Ytblljhojelmmeaa.VersionWalk
open Go.RowKit Go.Proofs.YtblljhojelmmeaaW.PrintWords Go.Proofs.YtblljhojelmmeaaW.PrintLast

/-- may a version come? -/
def mayB (mn v : Int) : Bool := decide (1 ≤ v) && decide (v ≤ 1073741824) && decide (mn ≤ v)

theorem may (cs : Array Value) (mn v : Int) (w : World) (h : cs[69]? = some (.int .i64 mn)) :
    Calls Try.prog 16 #[.agg cs, .int .i64 v] w fun e w' => e = .returned (.bool (mayB mn v)) ∧ Below w.heap.size w w' := by
  by_cases h1 : 1 ≤ v
  · by_cases h2 : v ≤ 1073741824
    · by_cases h3 : mn ≤ v
      · go_enter Try.func16, Try.ntmps16
        go_wp2_with fail
        go_ret
        exact ⟨by simp [mayB, h1, h2, h3], (Below.refl _ _).alloc (Nat.le_refl _) _⟩
      · go_enter Try.func16, Try.ntmps16
        go_wp2_with fail
        go_ret
        exact ⟨by simp [mayB]; omega, (Below.refl _ _).alloc (Nat.le_refl _) _⟩
    · go_enter Try.func16, Try.ntmps16
      go_wp2_with fail
      go_ret
      exact ⟨by simp [mayB]; omega, (Below.refl _ _).alloc (Nat.le_refl _) _⟩
  · go_enter Try.func16, Try.ntmps16
    go_wp2_with fail
    go_ret
    exact ⟨by simp [mayB]; omega, (Below.refl _ _).alloc (Nat.le_refl _) _⟩

theorem may_ref (cs : Array Value) (mn v : Int) (w : World) (h : cs[69]? = some (.int .i64 mn)) :
    Calls Try.prog 17 #[.agg cs, .int .i64 v] w fun e w' => e = .returned (.bool (mayB mn v)) ∧ Below w.heap.size w w' := by
  by_cases h1 : 1 ≤ v
  · by_cases h2 : v ≤ 1073741824
    · by_cases h3 : mn ≤ v
      · go_enter Try.func17, Try.ntmps17
        go_wp2_with fail
        go_ret
        exact ⟨by simp [mayB, h1, h2, h3], (Below.refl _ _).alloc (Nat.le_refl _) _⟩
      · go_enter Try.func17, Try.ntmps17
        go_wp2_with fail
        go_ret
        exact ⟨by simp [mayB]; omega, (Below.refl _ _).alloc (Nat.le_refl _) _⟩
    · go_enter Try.func17, Try.ntmps17
      go_wp2_with fail
      go_ret
      exact ⟨by simp [mayB]; omega, (Below.refl _ _).alloc (Nat.le_refl _) _⟩
  · go_enter Try.func17, Try.ntmps17
    go_wp2_with fail
    go_ret
    exact ⟨by simp [mayB]; omega, (Below.refl _ _).alloc (Nat.le_refl _) _⟩

/-- the least version when the other slot is confirmed -/
def confI (a v0 v1 mn : Int) : Int := if (if a ≠ 0 then v0 else v1) ≤ 0 then mn else if mn < (if a ≠ 0 then v0 else v1) then (if a ≠ 0 then v0 else v1) else mn

theorem ret_int {k : IntKind} {a b : Int} (h : a = b) : Ending.returned (.int k a) = .returned (.int k b) := by rw [h]

theorem conf (cs : Array Value) (a v0 v1 mn : Int) (w : World) (h0 : cs[0]? = some (.int .i64 a)) (hv0 : cs[1]? = some (.int .i64 v0)) (hv1 : cs[35]? = some (.int .i64 v1)) (h : cs[69]? = some (.int .i64 mn)) :
    Calls Try.prog 18 #[.agg cs] w fun e w' => e = .returned (.int .i64 (confI a v0 v1 mn)) ∧ Below w.heap.size w w' := by
  by_cases ha : a = 0
  · by_cases hv : v1 ≤ 0
    · go_enter Try.func18, Try.ntmps18
      go_wp2_with fail
      go_ret
      exact ⟨ret_int (by unfold confI; split <;> omega), (Below.refl _ _).alloc (Nat.le_refl _) _⟩
    · by_cases hm : mn < v1
      · go_enter Try.func18, Try.ntmps18
        go_wp2_with fail
        go_ret
        exact ⟨ret_int (by unfold confI; (repeat' split) <;> omega), (Below.refl _ _).alloc (Nat.le_refl _) _⟩
      · go_enter Try.func18, Try.ntmps18
        go_wp2_with fail
        go_ret
        exact ⟨ret_int (by unfold confI; (repeat' split) <;> omega), (Below.refl _ _).alloc (Nat.le_refl _) _⟩
  · by_cases hv : v0 ≤ 0
    · go_enter Try.func18, Try.ntmps18
      go_wp2_with fail
      go_ret
      exact ⟨ret_int (by unfold confI; (repeat' split) <;> omega), (Below.refl _ _).alloc (Nat.le_refl _) _⟩
    · by_cases hm : mn < v0
      · go_enter Try.func18, Try.ntmps18
        go_wp2_with fail
        go_ret
        exact ⟨ret_int (by unfold confI; (repeat' split) <;> omega), (Below.refl _ _).alloc (Nat.le_refl _) _⟩
      · go_enter Try.func18, Try.ntmps18
        go_wp2_with fail
        go_ret
        exact ⟨ret_int (by unfold confI; (repeat' split) <;> omega), (Below.refl _ _).alloc (Nat.le_refl _) _⟩

theorem drewN_below {B : Nat} {a w : World} (h : Below B a w) (n : Nat) : Below B a (w.drewN n) := ⟨h.os, h.tape, h.output, h.size, h.block⟩

theorem conf_ref (cs : Array Value) (a v0 v1 mn : Int) (w : World) (h0 : cs[0]? = some (.int .i64 a)) (hv0 : cs[1]? = some (.int .i64 v0)) (hv1 : cs[35]? = some (.int .i64 v1)) (h : cs[69]? = some (.int .i64 mn)) :
    Calls Try.prog 19 #[.agg cs] w fun e w' => e = .returned (.int .i64 (confI a v0 v1 mn)) ∧ Below w.heap.size w w' := by
  by_cases ha : a = 0
  · by_cases hm : mn < v1
    · by_cases hv : 0 < v1
      · go_enter Try.func19, Try.ntmps19
        go_wp2_with fail
        go_quiet (fail)
        go_wp2_with fail
        go_ret
        exact ⟨ret_int (by unfold confI; (repeat' split) <;> omega), drewN_below ((Below.refl _ _).alloc (Nat.le_refl _) _) _⟩
      · have hd : decide (0 < v1) = false := by simp; omega
        go_enter Try.func19, Try.ntmps19
        go_wp2_with fail
        go_quiet (fail)
        go_wp2_with fail
        go_ret
        exact ⟨ret_int (by unfold confI; (repeat' split) <;> omega), drewN_below ((Below.refl _ _).alloc (Nat.le_refl _) _) _⟩
    · have hd : decide (mn < v1) = false := by simp; omega
      go_enter Try.func19, Try.ntmps19
      go_wp2_with fail
      go_quiet (fail)
      go_wp2_with fail
      go_ret
      exact ⟨ret_int (by unfold confI; (repeat' split) <;> omega), drewN_below ((Below.refl _ _).alloc (Nat.le_refl _) _) _⟩
  · by_cases hm : mn < v0
    · by_cases hv : 0 < v0
      · go_enter Try.func19, Try.ntmps19
        go_wp2_with fail
        go_quiet (fail)
        go_wp2_with fail
        go_ret
        exact ⟨ret_int (by unfold confI; (repeat' split) <;> omega), drewN_below ((Below.refl _ _).alloc (Nat.le_refl _) _) _⟩
      · have hd : decide (0 < v0) = false := by simp; omega
        go_enter Try.func19, Try.ntmps19
        go_wp2_with fail
        go_quiet (fail)
        go_wp2_with fail
        go_ret
        exact ⟨ret_int (by unfold confI; (repeat' split) <;> omega), drewN_below ((Below.refl _ _).alloc (Nat.le_refl _) _) _⟩
    · have hd : decide (mn < v0) = false := by simp; omega
      go_enter Try.func19, Try.ntmps19
      go_wp2_with fail
      go_quiet (fail)
      go_wp2_with fail
      go_ret
      exact ⟨ret_int (by unfold confI; (repeat' split) <;> omega), drewN_below ((Below.refl _ _).alloc (Nat.le_refl _) _) _⟩

/-- the zero value of what is kept -/
def metaZero : Array Value := #[.int .i64 0, .int .i64 0, .int .i64 0, .int .u8 0, .int .u8 0, .int .u8 0, .int .u8 0, .int .u8 0, .int .u8 0, .int .u8 0, .int .u8 0, .int .u8 0, .int .u8 0, .int .u8 0, .int .u8 0, .int .u8 0, .int .u8 0, .int .u8 0, .int .u8 0, .int .u8 0, .int .u8 0, .int .u8 0, .int .u8 0, .int .u8 0, .int .u8 0, .int .u8 0, .int .u8 0, .int .u8 0, .int .u8 0, .int .u8 0, .int .u8 0, .int .u8 0, .int .u8 0, .int .u8 0, .int .u8 0, .int .i64 0, .int .i64 0, .int .u8 0, .int .u8 0, .int .u8 0, .int .u8 0, .int .u8 0, .int .u8 0, .int .u8 0, .int .u8 0, .int .u8 0, .int .u8 0, .int .u8 0, .int .u8 0, .int .u8 0, .int .u8 0, .int .u8 0, .int .u8 0, .int .u8 0, .int .u8 0, .int .u8 0, .int .u8 0, .int .u8 0, .int .u8 0, .int .u8 0, .int .u8 0, .int .u8 0, .int .u8 0, .int .u8 0, .int .u8 0, .int .u8 0, .int .u8 0, .int .u8 0, .int .u8 0, .int .i64 0, .int .i64 0, .int .i64 0, .int .i64 0, .int .u8 0, .int .u8 0, .int .u8 0, .int .u8 0, .int .u8 0, .int .u8 0, .int .u8 0, .int .u8 0, .int .u8 0, .int .u8 0, .int .u8 0, .int .u8 0, .int .u8 0, .int .u8 0, .int .u8 0, .int .u8 0, .int .u8 0, .int .u8 0, .int .u8 0, .int .u8 0, .int .u8 0, .int .u8 0, .int .u8 0, .int .u8 0, .int .u8 0, .int .u8 0, .int .u8 0, .int .u8 0, .int .u8 0, .int .u8 0, .int .u8 0, .int .u8 0, .int .i64 0, .int .i64 0]
theorem zero27 (w : World) : (zeroValue 27).run Try.prog w = .ok (.agg metaZero) w := by kernel_rfl
theorem zero69 : metaZero[69]? = some (.int .i64 0) := by kernel_rfl

theorem live (w : World) : Calls Try.prog 15 #[] w fun e w' => e = .returned (.bool true) ∧ Below w.heap.size w w' := by
  have hz := zero27
  go_enter Try.func15, Try.ntmps15
  go_wp2_with fail
  refine (may metaZero 0 1 _ zero69).mono ?_
  rintro e w1 ⟨rfl, hb⟩
  have e1 : mayB 0 1 = true := rfl
  rw [e1]
  go_wp2_with fail
  refine (may _ 2 1 _ (Array.getElem?_setIfInBounds_self_of_lt (by have e : metaZero.size = 107 := rfl; omega))).mono ?_
  rintro e w2 ⟨rfl, hb2⟩
  have e2 : mayB 2 1 = false := rfl
  rw [e2]
  go_wp2_with fail
  go_ret
  exact ⟨rfl, hb.trans (hb2.mono hb.size)⟩

/-- what is known of the cells of a Meta that came in -/
structure IsMeta (cs : Array Value) (a v0 v1 mn : Int) : Prop where
  size : cs.size = 107
  h0 : cs[0]? = some (.int .i64 a)
  hv0 : cs[1]? = some (.int .i64 v0)
  hv1 : cs[35]? = some (.int .i64 v1)
  h69 : cs[69]? = some (.int .i64 mn)

theorem info27 : (Try.prog.info? 27).map (·.size) = some 107 := by kernel_rfl

/-- the cells of a block -/
def rowAt (W : World) (g : Nat) : Array Value := match W.heap[g]? with | some (.cells cs _ _) => cs | _ => #[]
theorem rowAt_of {W : World} {g : Nat} {cs : Array Value} {t : TypeId} {fr : Nat × Nat} (h : W.heap[g]? = some (.cells cs t fr)) : rowAt W g = cs := by simp [rowAt, h]
theorem rowAt_drew (W : World) (g : Nat) : rowAt W.drew g = rowAt W g := rfl
theorem rowAt_drewN (W : World) (g n : Nat) : rowAt (W.drewN n) g = rowAt W g := rfl
theorem rowAt_new (W : World) (cs : Array Value) (t : TypeId) (fr : Nat × Nat) : rowAt (W.alloc (.cells cs t fr)) W.heap.size = cs := rowAt_of (heap_alloc_new W _)
theorem rowAt_below {B : Nat} {W W' : World} (h : Below B W W') {g : Nat} (hg : g < B) : rowAt W' g = rowAt W g := by unfold rowAt; rw [h.block g hg]

/-- a load of many cells, by a name that the walk does not open -/
def ld (t : TypeId) (p : Addr) : Sem Value := loadVar t p
theorem ld_run {P : Program} (t : TypeId) (n : Nat) {d : TypeDesc} (hu : P.underlying t = some d) (hd : d.isRow = true) (hi : (P.info? t).map (·.size) = some n) (W : World) (g o : Nat) (h : o + n ≤ (rowAt W g).size) (hn : 0 < n) :
    (ld t ⟨g, o, none⟩).run P W = .ok (.agg ((rowAt W g).extract o (o + n))) W := by
  unfold ld
  unfold rowAt at h ⊢
  cases hh : W.heap[g]? with
  | none => rw [hh] at h; simp at h; omega
  | some ob =>
    rw [hh] at h
    cases ob with
    | cells cs t' fr =>
      have hr := World.rangeAt_of_block hh o n
      have hs : ((cs.extract o (o + n)).toList).length = n := by simp at h ⊢; omega
      have := run_loadVar_mid (P := P) W g o t _ d hr hu hd (by rw [hs]; exact hi)
      rwa [Array.toArray_toList] at this
    | _ => simp at h; omega
theorem ld27 (p : Addr) : loadVar 27 p = ld 27 p := rfl
theorem ld27_run (W : World) (g o : Nat) (h : o + 107 ≤ (rowAt W g).size) : (ld 27 ⟨g, o, none⟩).run Try.prog W = .ok (.agg ((rowAt W g).extract o (o + 107))) W :=
  ld_run 27 107 Try.underlying27 rfl info27 W g o h (by decide)
end Go.Proofs.Ytblljhojelmmeaa.VersionWalk
