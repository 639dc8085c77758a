/- slices.Clone of bytes (as in XFieldPut). -/
import Derived.Test.YtajflegjpnmloaaFrames
import Derived.Lib.SliceRun
namespace Go.Proofs.Ytajflegjpnmloaa.Field
open Go.RowKit Go.Proofs.YtajflegjpnmloaaW.PrintWords Go.Proofs.YtajflegjpnmloaaW.PrintLast Go.Proofs.Ytajflegjpnmloaa.Kit

theorem own_empty (W : World) (B : Nat) (hB : B ≤ W.heap.size) : (W.alloc (.cells #[] 5)).ownsRow B 5 1 (.slice (some ⟨W.heap.size, 0, none⟩) 0 0) ([] : List Int).length (nums .u8 []) :=
  own_lit W B 5 .u8 [] hB (by decide)
set_option maxHeartbeats 1000000 in
theorem clone_calls (A : Option Addr) (n c : Nat) (xs : List Int) (w : World) (hr : ReadsInt w .u8 A n xs) (hn : n ≤ 1000000) :
    Calls Try.prog 46 #[.slice A n c] w fun e w' => ∃ v, e = .returned v ∧ Gives w w' v xs := by
  rcases A with _ | ad
  · have h0 : n = 0 := by
      rcases Nat.eq_zero_or_pos n with h0 | h0
      · exact h0
      · obtain ⟨ad, h, _⟩ := hr.2.2 h0
        cases h
    subst h0
    obtain rfl : xs = [] := List.eq_nil_of_length_eq_zero hr.1
    have heq := Lib.run_eql_slice_nil (P := Try.prog) w 23 5 none 0 c 0 0 Try.underlying23
    go_enter Try.func46, Try.ntmps46
    go_wp2_with fail
    go_ret
    exact ⟨_, rfl, Gives.none_ (Below.refl _ _)⟩
  · have HR := Lib.hid (hr.below ((Below.refl _ _).alloc (Nat.le_refl _) (.cells #[] 5)))
    have HO := Lib.hid (own_empty w w.heap.size (Nat.le_refl _))
    have hl := hr.1
    have HL := Lib.hid hl
    clear hr hl
    have heq := Lib.run_eql_slice_nil (P := Try.prog) w 23 5 (some ad) n c 0 0 Try.underlying23
    go_enter Try.func46, Try.ntmps46
    go_wp2_with (first
      | (at_builtin
         refine print_append_row w.heap.size rfl (.tmp 5) (.tmp 6) 23 5 .u8 1 rfl Try.underlying23 info5 (by decide) _ [] xs (some ad) n c rfl rfl HO.out HR.out ((Below.refl _ _).alloc (Nat.le_refl _) _) (by simp) (by simp; omega) ?_
         intro v1 w2 own1 hb1 hg1 hat1
         have HO1 := Lib.hid own1
         have HB1 := Lib.hid hb1
         clear own1 hb1 hg1 hat1)
      | fail)
    go_ret
    exact ⟨_, rfl, by simpa using HO1.out, HB1.out⟩
end Go.Proofs.Ytajflegjpnmloaa.Field
