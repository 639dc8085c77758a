/- The reference's Valid: what it gives. -/
import Derived.Test.YtgcdankgckgibaaRunes
namespace Go.Proofs.Ytgcdankgckgibaa.Names
open Go.RowKit Go.Proofs.YtgcdankgckgibaaW.PrintWords Go.Proofs.YtgcdankgckgibaaW.PrintLast Go.Proofs.Ytgcdankgckgibaa.Kit Go.Proofs.Ytgcdankgckgibaa.Runes

set_option maxHeartbeats 1000000 in
set_option maxRecDepth 100000 in
theorem valid_ref (s : ByteArray) (w : World) (hs : s.size < 9223372036854775807) :
    Calls Try.prog 50 #[.string s] w fun e w' => e = .returned (.bool (validB (runes s))) ∧ Below w.heap.size w w' := by
  go_enter Try.func50, Try.ntmps50
  go_wp2_with fail
  go_loopw [3] (fun n w' => ∃ (pos b : Nat) (pre : List Int), w' = w.iter s pos ∧ n = .int .i64 pre.length ∧ runes s = pre ++ runesFrom s b pos ∧ pre.all mayB = true ∧ s.size ≤ pos + b ∧ pre.length ≤ pos) (fun _ w' => s.size - w'.iterPos w.heap.size)
  case atStart => exact ⟨0, s.size, [], rfl, rfl, rfl, rfl, by omega, Nat.le_refl _⟩
  case round =>
    obtain ⟨pos, b, pre, rfl, rfl, hc, hm, hb, ha⟩ := hrel
    have HC := Lib.hid hc
    have HM := Lib.hid hm
    clear hc hm
    by_cases hp : pos < s.size
    · have hnx : ∀ ty, (Instr.next (.pointer (some ⟨w.heap.size, 0, none⟩)) true ty).run Try.prog (w.iter s pos) = _ := fun ty => run_next_any w s pos ty hp
      have hwd := decode_width s pos hp
      obtain ⟨b, rfl⟩ : ∃ b', b = b' + 1 := ⟨b - 1, by omega⟩
      have hr : runesFrom s (b + 1) pos = ((Utf8.decode s pos).1 : Int) :: runesFrom s b (pos + (Utf8.decode s pos).2) := by simp [runesFrom, hp]
      have HR := Lib.hid hr
      clear hr
      cases hy : mayB ((Utf8.decode s pos).1 : Int) with
      | true =>
        have HY := Lib.hid hy
        clear hy
        go_wp2_with (first | (go_at_call 59; refine (good _ _).mono ?_; rintro e w' ⟨rfl, rfl⟩; rw [HY.out]))
        go_roundw
        case rel => exact ⟨_, b, pre ++ [((Utf8.decode s pos).1 : Int)], rfl, by simp, by rw [HC.out, HR.out]; simp, by simp [HM.out, HY.out], by omega, by simp; omega⟩
        case measure => simp; omega
      | false =>
        have HY := Lib.hid hy
        clear hy
        go_wp2_with (first | (go_at_call 59; refine (good _ _).mono ?_; rintro e w' ⟨rfl, rfl⟩; rw [HY.out]))
        go_ret
        exact ⟨by rw [HC.out, HR.out]; simp [validB, HY.out], (Below.refl _ _).alloc (Nat.le_refl _) _⟩
    · have hnx : ∀ ty, (Instr.next (.pointer (some ⟨w.heap.size, 0, none⟩)) true ty).run Try.prog (w.iter s pos) = _ := fun ty => run_next_end w s pos ty hp
      have he := runesFrom_end s b pos hp
      have hl : runes s = pre := by rw [HC.out, he, List.append_nil]
      have HL := Lib.hid hl
      clear he hl
      by_cases h1 : 1 ≤ pre.length
      · by_cases h8 : pre.length ≤ 8
        · go_wp2_with fail
          go_ret
          exact ⟨by rw [HL.out, valid_yes HM.out h1 h8]; simp; try omega, (Below.refl _ _).alloc (Nat.le_refl _) _⟩
        · go_wp2_with fail
          go_ret
          exact ⟨by rw [HL.out, valid_long h8]; simp; try omega, (Below.refl _ _).alloc (Nat.le_refl _) _⟩
      · go_wp2_with fail
        go_ret
        exact ⟨by rw [HL.out, valid_none h1]; simp; try omega, (Below.refl _ _).alloc (Nat.le_refl _) _⟩
end Go.Proofs.Ytgcdankgckgibaa.Names
