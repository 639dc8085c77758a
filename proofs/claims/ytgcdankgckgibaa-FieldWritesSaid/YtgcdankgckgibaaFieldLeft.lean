/- Walk: the reference's reader of bytes, Left. -/
import Derived.Test.YtgcdankgckgibaaFieldGets
namespace Go.Proofs.Ytgcdankgckgibaa.Field
open Go.RowKit Go.Proofs.YtgcdankgckgibaaW.PrintWords Go.Proofs.YtgcdankgckgibaaW.PrintLast Go.Proofs.Ytgcdankgckgibaa.Kit

theorem left_ref (H g : Nat) (xs : List Int) (bad : Bool) (w : World) (h : Rr w H g xs bad) :
    Calls Try.prog 48 #[.pointer (some ⟨g, 0, none⟩)] w fun e w' => e = .returned (.int .i64 xs.length) ∧ w = w' := by
  obtain ⟨ys, h, rfl⟩ := h
  obtain ⟨A, c, hh, hc, hr, hA⟩ := h.at_
  have hc0 : w.cell? ⟨g, 0, none⟩ = some (.slice A ys.length c) := by rw [cell_of_row w g 0 _ _ (0, 0) hh]; rfl
  have hc1 : w.cell? ⟨g, 1, none⟩ = some (.bool bad) := by rw [cell_of_row w g 1 _ _ (0, 0) hh]; rfl
  clear h hh hr hc hA
  cases bad
  all_goals
    go_enter Try.func48, Try.ntmps48
    go_wp2_with fail
    go_ret
    exact ⟨rfl, rfl⟩
end Go.Proofs.Ytgcdankgckgibaa.Field
