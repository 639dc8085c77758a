/- Walk: RequestLimits, whichever number. -/
import Derived.Test.YtehlcljachkgdaaReqLimA
import Derived.Test.YtehlcljachkgdaaReqLimB
import Derived.Test.YtehlcljachkgdaaReqLimC
namespace Go.Proofs.Ytehlcljachkgdaa.Req
open Go.RowKit Go.Proofs.YtehlcljachkgdaaW.PrintWords Go.Proofs.YtehlcljachkgdaaW.PrintLast Go.Proofs.Ytehlcljachkgdaa.Kit Go.Proofs.Ytehlcljachkgdaa.Field

set_option maxHeartbeats 4000000 in
set_option maxRecDepth 100000 in
theorem lims_out (n : Int) (w : World) (h : n < 0 ∨ 8 < n) :
    Calls Try.prog 3 #[.int .i64 n] w fun e w' => e = .returned (.bool true) ∧ Below w.heap.size w w' := by
  obtain ⟨o1, ho1⟩ : ∃ o, o = Obj.cells (madeCells #[.int .u8 0] 1000) 5 (0, 0) := ⟨_, rfl⟩
  obtain ⟨o2, ho2⟩ : ∃ o, o = Obj.cells (madeCells #[.int .u8 0] 1001) 5 (0, 0) := ⟨_, rfl⟩
  have hmk : ∀ W : World, (Instr.makeSlice 23 (.int .i64 1000) (.int .i64 1000)).run Try.prog W = .ok (.slice (some ⟨W.heap.size, 0, none⟩) 1000 1000) (W.alloc o1) := by
    rw [ho1]; exact print_make (P := Try.prog) 23 5 .u8 1 Try.underlying23 info5 (by decide) 1000 (by decide)
  have hml : ∀ W : World, (Instr.makeSlice 23 (.int .i64 1001) (.int .i64 1001)).run Try.prog W = .ok (.slice (some ⟨W.heap.size, 0, none⟩) 1001 1001) (W.alloc o2) := by
    rw [ho2]; exact print_make (P := Try.prog) 23 5 .u8 1 Try.underlying23 info5 (by decide) 1001 (by decide)
  clear ho1 ho2
  go_enter Try.func3, Try.ntmps3
  go_wp2_with fail
  refine (live18 _).mono ?_
  rintro e w1 ⟨rfl, hb⟩
  have HB1 := Lib.hid hb
  clear hb
  go_wp2_with fail
  go_region
  all_goals
    go_wp2_with fail
    all_goals first
      | (exfalso; omega)
      | (go_ret
         exact ⟨rfl, (((((HB1.out.alloc HB1.out.size _).alloc (by have := HB1.out.size; simp; omega) _).alloc (by have := HB1.out.size; simp; omega) _).drew.alloc (by have := HB1.out.size; simp; omega) _).alloc (by have := HB1.out.size; simp; omega) _).alloc (by have := HB1.out.size; simp; omega) _⟩)
theorem lims_walk (n : Int) (w : World) :
    Calls Try.prog 3 #[.int .i64 n] w fun e w' => e = .returned (.bool true) ∧ Below w.heap.size w w' := by
  by_cases h : n < 0 ∨ 8 < n
  · exact lims_out n w h
  · have h9 : n = 0 ∨ n = 1 ∨ n = 2 ∨ n = 3 ∨ n = 4 ∨ n = 5 ∨ n = 6 ∨ n = 7 ∨ n = 8 := by omega
    rcases h9 with rfl | rfl | rfl | rfl | rfl | rfl | rfl | rfl | rfl
    · exact lim0 w
    · exact lim1 w
    · exact lim2 w
    · exact lim3 w
    · exact lim4 w
    · exact lim5 w
    · exact lim6 w
    · exact lim7 w
    · exact lim8 w
end Go.Proofs.Ytehlcljachkgdaa.Req
