/- The runes of a text; names.Valid and the reference's tell whether it is a name. -/
import Derived.Test.YtgcdankgckgibaaKit
import Derived.Laws.RangeAny
import Derived.Laws.RangeString
import Derived.Laws.Runes
namespace Go.Proofs.Ytgcdankgckgibaa.Runes
open Go.RowKit Go.Proofs.Ytgcdankgckgibaa.Kit

theorem decode_width (s : ByteArray) (pos : Nat) (h : pos < s.size) : 1 ≤ (Utf8.decode s pos).2 := by
  by_cases ha : (s[pos]'h).toNat < 128
  · rw [decode_ascii s pos h ha]
    exact Nat.le_refl _
  · exact (decode_high s pos h (by omega)).2

/-- the runes of a text from a place on (at most so many) -/
def runesFrom (s : ByteArray) : Nat → Nat → List Int
  | 0, _ => []
  | f + 1, pos => if pos < s.size then ((Utf8.decode s pos).1 : Int) :: runesFrom s f (pos + (Utf8.decode s pos).2) else []
def runes (s : ByteArray) : List Int := runesFrom s s.size 0
theorem runesFrom_end (s : ByteArray) (f pos : Nat) (h : ¬ pos < s.size) : runesFrom s f pos = [] := by cases f <;> simp [runesFrom, h]
theorem runesFrom_length (s : ByteArray) : ∀ f pos, (runesFrom s f pos).length ≤ f
  | 0, _ => by simp [runesFrom]
  | f + 1, pos => by
    have ih := runesFrom_length s f (pos + (Utf8.decode s pos).2)
    unfold runesFrom
    split
    · simp only [List.length_cons]; omega
    · simp

/-- may a rune be in a name? -/
def mayB (c : Int) : Bool := (decide (97 ≤ c) && decide (c ≤ 122)) || (decide (48 ≤ c) && decide (c ≤ 57)) || (decide (945 ≤ c) && decide (c ≤ 969))
def validB (l : List Int) : Bool := l.all mayB && decide (1 ≤ l.length) && decide (l.length ≤ 8)

theorem ret_may {b : Bool} {c : Int} (h : b = true ↔ ((97 ≤ c ∧ c ≤ 122) ∨ (48 ≤ c ∧ c ≤ 57) ∨ (945 ≤ c ∧ c ≤ 969))) : Ending.returned (.bool b) = .returned (.bool (mayB c)) := by
  have e : b = mayB c := by
    rw [Bool.eq_iff_iff, h]
    simp [mayB, or_assoc]
  rw [e]
theorem valid_yes {l : List Int} (h : l.all mayB = true) (h1 : 1 ≤ l.length) (h8 : l.length ≤ 8) : validB l = true := by
  unfold validB
  rw [h, decide_eq_true h1, decide_eq_true h8]
  rfl
theorem valid_long {l : List Int} (h8 : ¬ l.length ≤ 8) : validB l = false := by
  unfold validB
  rw [decide_eq_false h8, Bool.and_false]
theorem valid_none {l : List Int} (h1 : ¬ 1 ≤ l.length) : validB l = false := by
  unfold validB
  rw [decide_eq_false h1, Bool.and_false, Bool.false_and]
theorem seven (c : Int) : c < 48 ∨ (48 ≤ c ∧ c ≤ 57) ∨ (57 < c ∧ c < 97) ∨ (97 ≤ c ∧ c ≤ 122) ∨ (122 < c ∧ c < 945) ∨ (945 ≤ c ∧ c ≤ 969) ∨ 969 < c := by omega

theorem may (c : Int) (w : World) : Calls Try.prog 58 #[.int .i32 c] w fun e w' => e = .returned (.bool (mayB c)) ∧ w = w' := by
  rcases seven c with h | ⟨h, h'⟩ | ⟨h, h'⟩ | ⟨h, h'⟩ | ⟨h, h'⟩ | ⟨h, h'⟩ | h
  all_goals
    go_enter Try.func58, Try.ntmps58
    go_wp2_with fail
    go_ret
    exact ⟨ret_may (by first | (simp; done) | (simp; omega) | omega), rfl⟩

theorem good (c : Int) (w : World) : Calls Try.prog 59 #[.int .i32 c] w fun e w' => e = .returned (.bool (mayB c)) ∧ w = w' := by
  rcases seven c with h | ⟨h, h'⟩ | ⟨h, h'⟩ | ⟨h, h'⟩ | ⟨h, h'⟩ | ⟨h, h'⟩ | h
  all_goals
    go_enter Try.func59, Try.ntmps59
    go_wp2_with fail
    go_ret
    exact ⟨ret_may (by first | (simp; done) | (simp; omega) | omega), rfl⟩

set_option maxHeartbeats 1000000 in
set_option maxRecDepth 100000 in
theorem valid (s : ByteArray) (w : World) (hs : s.size < 9223372036854775807) :
    Calls Try.prog 43 #[.string s] w fun e w' => e = .returned (.bool (validB (runes s))) ∧ Below w.heap.size w w' := by
  go_enter Try.func43, Try.ntmps43
  go_wp2_with fail
  go_loopw [3] (fun n w' => ∃ (pos b : Nat) (pre : List Int), w' = w.iter s pos ∧ n = .int .i64 pre.length ∧ runes s = pre ++ runesFrom s b pos ∧ pre.all mayB = true ∧ s.size ≤ pos + b ∧ pre.length ≤ pos) (fun _ w' => s.size - w'.iterPos w.heap.size)
  case atStart => exact ⟨0, s.size, [], rfl, rfl, rfl, rfl, by omega, Nat.le_refl _⟩
  case round =>
    obtain ⟨pos, b, pre, rfl, rfl, hc, hm, hb, ha⟩ := hrel
    have HC := Lib.hid hc
    have HM := Lib.hid hm
    clear hc hm
    by_cases hp : pos < s.size
    · have hnx : ∀ ty, (Instr.next (.pointer (some ⟨w.heap.size, 0, none⟩)) true ty).run Try.prog (w.iter s pos) = _ := fun ty => run_next_any w s pos ty hp
      have hwd := decode_width s pos hp
      obtain ⟨b, rfl⟩ : ∃ b', b = b' + 1 := ⟨b - 1, by omega⟩
      have hr : runesFrom s (b + 1) pos = ((Utf8.decode s pos).1 : Int) :: runesFrom s b (pos + (Utf8.decode s pos).2) := by simp [runesFrom, hp]
      have HR := Lib.hid hr
      clear hr
      cases hy : mayB ((Utf8.decode s pos).1 : Int) with
      | true =>
        have HY := Lib.hid hy
        clear hy
        go_wp2_with (first | (go_at_call 58; refine (may _ _).mono ?_; rintro e w' ⟨rfl, rfl⟩; rw [HY.out]))
        go_roundw
        case rel => exact ⟨_, b, pre ++ [((Utf8.decode s pos).1 : Int)], rfl, by simp, by rw [HC.out, HR.out]; simp, by simp [HM.out, HY.out], by omega, by simp; omega⟩
        case measure => simp; omega
      | false =>
        have HY := Lib.hid hy
        clear hy
        go_wp2_with (first | (go_at_call 58; refine (may _ _).mono ?_; rintro e w' ⟨rfl, rfl⟩; rw [HY.out]))
        go_ret
        exact ⟨by rw [HC.out, HR.out]; simp [validB, HY.out], (Below.refl _ _).alloc (Nat.le_refl _) _⟩
    · have hnx : ∀ ty, (Instr.next (.pointer (some ⟨w.heap.size, 0, none⟩)) true ty).run Try.prog (w.iter s pos) = _ := fun ty => run_next_end w s pos ty hp
      have he := runesFrom_end s b pos hp
      have hl : runes s = pre := by rw [HC.out, he, List.append_nil]
      have HL := Lib.hid hl
      clear he hl
      by_cases h1 : 1 ≤ pre.length
      · by_cases h8 : pre.length ≤ 8
        · go_wp2_with fail
          go_ret
          exact ⟨by rw [HL.out, valid_yes HM.out h1 h8]; simp; try omega, (Below.refl _ _).alloc (Nat.le_refl _) _⟩
        · go_wp2_with fail
          go_ret
          exact ⟨by rw [HL.out, valid_long h8]; simp; try omega, (Below.refl _ _).alloc (Nat.le_refl _) _⟩
      · go_wp2_with fail
        go_ret
        exact ⟨by rw [HL.out, valid_none h1]; simp; try omega, (Below.refl _ _).alloc (Nat.le_refl _) _⟩
end Go.Proofs.Ytgcdankgckgibaa.Runes
