/- Walks: alive and NamesTell return true. -/
import Derived.Test.YtajflegjpnmloaaNames
namespace Go.Proofs.Ytajflegjpnmloaa.Names
open Go.RowKit Go.Proofs.YtajflegjpnmloaaW.PrintWords Go.Proofs.YtajflegjpnmloaaW.PrintLast Go.Proofs.Ytajflegjpnmloaa.Kit Go.Proofs.Ytajflegjpnmloaa.Runes

theorem live_clean : runesBytes (cleanL (runes ⟨#[65, 45, 49]⟩)) = ⟨#[97, 49]⟩ := by decide +kernel
theorem live_valid : validB (runes ⟨#[97, 49]⟩) = true := by decide +kernel
theorem live_count : (runes ⟨#[206, 177, 206, 178]⟩).length = 2 := by decide +kernel

theorem live (w : World) : Calls Try.prog 23 #[] w fun e w' => e = .returned (.bool true) ∧ Below w.heap.size w w' := by
  go_enter Try.func23, Try.ntmps23
  go_wp2_with fail
  refine (clean _ _).mono ?_
  rintro e w1 ⟨rfl, hb1⟩
  rw [live_clean]
  go_wp2_with fail
  refine (valid _ _ (by decide)).mono ?_
  rintro e w2 ⟨rfl, hb2⟩
  rw [live_valid]
  go_wp2_with fail
  refine (count _ _ (by decide)).mono ?_
  rintro e w3 ⟨rfl, hb3⟩
  rw [live_count]
  go_wp2_with fail
  go_ret
  exact ⟨rfl, hb1.trans ((hb2.mono hb1.size).trans (hb3.mono (Nat.le_trans hb1.size hb2.size)))⟩

theorem tell (s : ByteArray) (w : World) : Calls Try.prog 7 #[.string s] w fun e w' => e = .returned (.bool true) ∧ Below w.heap.size w w' := by
  by_cases hn : s.size ≤ 300
  · go_enter Try.func7, Try.ntmps7
    go_wp2_with fail
    refine (live _).mono ?_
    rintro e w1 ⟨rfl, hb⟩
    go_wp2_with (first
      | (go_at_call 24; refine (count _ _ (by omega)).mono ?_; rintro e w2 ⟨rfl, hb1⟩; replace hb := hb.trans (hb1.mono hb.size); clear hb1)
      | (go_at_call 25; refine (count_ref _ _ (by omega)).mono ?_; rintro e w2 ⟨rfl, hb1⟩; replace hb := hb.trans (hb1.mono hb.size); clear hb1)
      | (go_at_call 26; refine (valid _ _ (by omega)).mono ?_; rintro e w2 ⟨rfl, hb1⟩; replace hb := hb.trans (hb1.mono hb.size); clear hb1)
      | (go_at_call 27; refine (valid_ref _ _ (by omega)).mono ?_; rintro e w2 ⟨rfl, hb1⟩; replace hb := hb.trans (hb1.mono hb.size); clear hb1)
      | (go_at_call 28; refine (clean _ _).mono ?_; rintro e w2 ⟨rfl, hb1⟩; replace hb := hb.trans (hb1.mono hb.size); clear hb1)
      | (go_at_call 29; refine (clean_ref _ _).mono ?_; rintro e w2 ⟨rfl, hb1⟩; replace hb := hb.trans (hb1.mono hb.size); clear hb1)
      | fail)
    go_ret
    exact ⟨by first | rfl | simp, hb⟩
  · go_enter Try.func7, Try.ntmps7
    go_wp2_with fail
    refine (live _).mono ?_
    rintro e w1 ⟨rfl, hb⟩
    go_wp2_with fail
    all_goals first
      | (exfalso; omega)
      | (go_ret; exact ⟨rfl, hb⟩)
end Go.Proofs.Ytajflegjpnmloaa.Names
