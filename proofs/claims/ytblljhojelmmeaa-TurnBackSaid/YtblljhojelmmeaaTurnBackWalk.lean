/- A walk: TurnBack returns true, for every word and every two ints. -/
import Derived.Test.YtblljhojelmmeaaPureTurnBits
import Derived.WalkKit

import Derived.Lib.Hide
namespace Go.Proofs.Ytblljhojelmmeaa.TurnBackWalk
open Go.RowKit Go.Proofs.Ytblljhojelmmeaa.PTurnBits Go.Proofs.YtblljhojelmmeaaW.PrintWords Go.Proofs.YtblljhojelmmeaaW.PrintLast Go.Proofs.Ytblljhojelmmeaa.Rot

theorem right (x : BitVec 32) (n : Int) (w : World) : Calls Try.prog 31 #[.int .u32 (x.toNat : Int), .int .i64 n] w fun e w' => e = .returned (.int .u32 ((rot x n).toNat : Int)) ∧ ∃ k, w' = w.drewN k := by
  refine (turn_Right.calls _ _ _ w (Pure.tb_right x n)).mono ?_
  rintro e w' ⟨rfl, h⟩
  exact ⟨rfl, h.1⟩

theorem live (w : World) : Calls Try.prog 30 #[] w fun e w' => e = .returned (.bool true) ∧ Below w.heap.size w w' :=
  waterlinelaw2_alive.calls 9 true w (by decide +kernel)

theorem out (a0 a1 a2 : Int) (w : World) (h : a1 < -1000 ∨ 1000 < a1 ∨ a2 < -1000 ∨ 1000 < a2) :
    Calls Try.prog 13 #[.int .u32 a0, .int .i64 a1, .int .i64 a2] w fun e w' => e = .returned (.bool true) ∧ Below w.heap.size w w' := by
  go_enter Try.func13, Try.ntmps13
  go_wp2_with fail
  refine (live _).mono ?_
  rintro e w1 ⟨rfl, hb⟩
  go_wp2_with fail
  all_goals first
    | (exfalso; omega)
    | (go_ret; exact ⟨rfl, hb⟩)

theorem drewN_below {B : Nat} {a w : World} (h : Below B a w) (n : Nat) : Below B a (w.drewN n) := ⟨h.os, h.tape, h.output, h.size, h.block⟩

set_option maxHeartbeats 400000 in
theorem within (x : BitVec 32) (a1 a2 : Int) (w : World) (h1 : -1000 ≤ a1) (h2 : a1 ≤ 1000) (h3 : -1000 ≤ a2) (h4 : a2 ≤ 1000) :
    Calls Try.prog 13 #[.int .u32 (x.toNat : Int), .int .i64 a1, .int .i64 a2] w fun e w' => e = .returned (.bool true) ∧ Below w.heap.size w w' := by
  go_enter Try.func13, Try.ntmps13
  go_wp2_with fail
  refine (live _).mono ?_
  rintro e w1 ⟨rfl, hb⟩
  go_wp2_with fail
  refine (right _ _ _).mono ?_
  rintro e w2 ⟨rfl, k1, rfl⟩
  go_wp2_with fail
  refine (right _ _ _).mono ?_
  rintro e w2 ⟨rfl, k2, rfl⟩
  rw [rot_rot, rot_none x (a1 + -a1) (by omega)]
  go_wp2_with fail
  refine (right _ _ _).mono ?_
  rintro e w2 ⟨rfl, k3, rfl⟩
  go_wp2_with fail
  refine (right _ _ _).mono ?_
  rintro e w2 ⟨rfl, k4, rfl⟩
  rw [rot_rot]
  go_wp2_with fail
  refine (right _ _ _).mono ?_
  rintro e w2 ⟨rfl, k5, rfl⟩
  go_wp2_with fail
  refine (right _ _ _).mono ?_
  rintro e w2 ⟨rfl, k6, rfl⟩
  rw [rot_same x (a1 + 32) a1 (by omega)]
  go_wp2_with fail
  refine (right _ _ _).mono ?_
  rintro e w2 ⟨rfl, k7, rfl⟩
  go_wp2_with fail
  go_ret
  exact ⟨by simp, drewN_below hb _⟩

theorem walk (a0 a1 a2 : Int) (w : World) (w0 : (Lit.int .u32 a0).wf = true) (_w1 : (Lit.int .i64 a1).wf = true) (_w2 : (Lit.int .i64 a2).wf = true) :
    Calls Try.prog 13 #[.int .u32 a0, .int .i64 a1, .int .i64 a2] w fun e w' => e = .returned (.bool true) ∧ Below w.heap.size w w' := by
  by_cases h : a1 < -1000 ∨ 1000 < a1 ∨ a2 < -1000 ∨ 1000 < a2
  · exact out a0 a1 a2 w h
  · obtain ⟨x, rfl⟩ := word w0
    exact within x a1 a2 w (by omega) (by omega) (by omega) (by omega)
end Go.Proofs.Ytblljhojelmmeaa.TurnBackWalk
