/- Walks: the two writers of bytes write what the plain functions say. -/
import Derived.Test.YtehlcljachkgdaaFrames
import Derived.Laws.MakeOwn
import Derived.BigQuiet
import Derived.Deep.RegionHeld3
import Derived.Laws.ShiftsVarLaws
import Derived.Lib.MinMax
import Derived.Lib.SliceRun
import Derived.Laws.CopyOwn
import Derived.Deep.RegionLaw
import Derived.Deep.DrawnRows
namespace Go.Proofs.Ytehlcljachkgdaa.Field
open Go.RowKit Go.Proofs.YtehlcljachkgdaaW.PrintWords Go.Proofs.YtehlcljachkgdaaW.PrintLast Go.Proofs.Ytehlcljachkgdaa.Kit

attribute [local go_sem ↓] Go.wp_at_zero Go.wp_at_succ
/-- a byte of a number, as the walk writes it -/
def shr8 (n : Int) (j : Nat) : Int := IntKind.u64.wrap n / 2 ^ (8 * (j : Int)).toNat
theorem shr8_byte (n : Int) (j : Nat) (hj : j < 8) : IntKind.u8.wrap (shr8 n j) = byteAt n j ∧ IntKind.u8.wrap (bits .and .u64 (shr8 n j) 255) = byteAt n j := by
  have e0 : (8 * (j : Int)).toNat = 8 * j := by omega
  have hX : IntKind.u64.wrap n / 2 ^ (8 * j) % 256 = byteAt n j := by
    rw [IntKind.wrap_u64]
    unfold byteAt
    rcases (by omega : j = 0 ∨ j = 1 ∨ j = 2 ∨ j = 3 ∨ j = 4 ∨ j = 5 ∨ j = 6 ∨ j = 7) with rfl | rfl | rfl | rfl | rfl | rfl | rfl | rfl <;> omega
  have h0 : 0 ≤ IntKind.u64.wrap n / 2 ^ (8 * j) := Int.ediv_nonneg (wrap_u64_nonneg n) (Int.le_of_lt (Int.pow_pos (by omega)))
  have hlt : IntKind.u64.wrap n / 2 ^ (8 * j) < 18446744073709551616 := by
    have h1 : IntKind.u64.wrap n < 18446744073709551616 := by rw [IntKind.wrap_u64]; omega
    have h2 : IntKind.u64.wrap n / 2 ^ (8 * j) ≤ IntKind.u64.wrap n := Int.ediv_le_self _ (wrap_u64_nonneg n)
    omega
  unfold shr8
  rw [e0]
  refine ⟨by rw [IntKind.wrap_u8', hX], ?_⟩
  generalize IntKind.u64.wrap n / 2 ^ (8 * j) = X at *
  obtain ⟨x, rfl⟩ := Int.eq_ofNat_of_zero_le h0
  rw [show (255 : Int) = ((255 : Nat) : Int) from rfl, u64_and_nat _ _ (by omega) (by decide), IntKind.wrap_u8']
  have e : x &&& 255 = x % 256 := Nat.and_two_pow_sub_one_eq_mod x 8
  rw [e]
  omega

set_option maxHeartbeats 1000000 in
theorem num_put (B g : Nat) (v : Value) (xs : List Int) (n size : Int) (w : World) (h : Wr w 65 B g v xs) (hx : xs.length ≤ 100000) (hB : B ≤ w.heap.size) :
    Calls Try.prog 29 #[.pointer (some ⟨g, 0, none⟩), .int .i64 n, .int .i64 size] w fun e w' => e = .returned (.tuple #[]) ∧ ∃ v', Wr w' 65 B g v' (xs ++ numL n (clip size 8)) ∧ rowNext w v v' ∧ Fr (wF g v) w w' := by
  go_enter Try.func29, Try.ntmps29
  go_wp2_with fail
  rw [clip_mm size 8 (by omega)]
  have hk8 := clip_le size 8 (by omega)
  obtain ⟨k, hk⟩ : ∃ k, k = clip size 8 := ⟨_, rfl⟩
  rw [← hk] at hk8 ⊢
  have HK := Lib.hid hk
  clear hk
  go_loopw [6] (fun i wr => ∃ (t : Nat) (v1 : Value), t ≤ k ∧ i = .int .i64 ((k : Int) - 1 - t) ∧ Wr wr 65 B g v1 (xs ++ (numL n k).take t) ∧ rowNext w v v1 ∧ Fr (wF g v) w wr) (fun i _ => (intOf i + 1).toNat)
  case atStart => exact ⟨0, v, Nat.zero_le _, by simp, by simpa using h, .refl _ _, .refl _ _⟩
  case round =>
    obtain ⟨t, v1, ht, rfl, hw, hn, hf⟩ := hrel
    by_cases hlt : t < k
    · have hj : (k : Int) - 1 - (t : Int) = ((k - 1 - t : Nat) : Int) := by omega
      have hsn := numL_take_succ n k t hlt
      rw [hj]
      have hj8 : k - 1 - t < 8 := by omega
      have ht1 : ((k - 1 - t : Nat) : Int) - 1 = (k : Int) - 1 - ((t + 1 : Nat) : Int) := by omega
      generalize k - 1 - t = j at *
      have HT1 := Lib.hid ht1
      have HS := Lib.hid hsn
      have hc0 := hw.cell0
      have hf0 := hw.free
      have HW := Lib.hid hw
      clear hj hsn hw ht1
      obtain ⟨hb8, -⟩ := shr8_byte n j hj8
      have hm8 : IntKind.i64.wrap (8 * (j : Int)) = 8 * (j : Int) := IntWalk.i64_in _ (by omega)
      have htl := List.length_take_le t (numL n k)
      have HB8 := Lib.hid hb8
      have HAT : Hid (At wr 65 g v1) := Lib.hid HW.out.cell
      have HNE := Lib.hid (HW.out.ne (by decide))
      have hca := fun o => (At.alloc HAT.out o).cell
      clear hb8
      go_wp2_with fail
      go_region_law ((refine step_rowF B (by rfl) (.tmp 20) (.tmp 27) 23 5 (by rfl) Try.underlying23 info5 _ (xs ++ (numL n k).take t) [IntKind.u8.wrap (shr8 n j)] _ 1 1 (by rfl) (by rfl) (by decide) (HW.out.own.alloc _) (reads_mark _ 5 (0, 0) [IntKind.u8.wrap (shr8 n j)] (by simp)) (by simp; have := hf.size; omega) (by simp; omega) ?_; intro A2 n2 c2 w2 own2 hg2 hn2; have hc2 := At.cell (At.grown hg2 (At.drew (At.alloc HAT.out _)) HNE.out); have hf2 := At.free (At.grown hg2 (At.drew (At.alloc HAT.out _)) HNE.out); have HO2 := Lib.hid own2; have HG2 := Lib.hid hg2; have HN2 := Lib.hid hn2; clear own2 hg2 hn2))
      all_goals
        obtain ⟨hw3, hf3⟩ := HW.out.push (((Below.refl _ _).alloc (Nat.le_refl _) _).drew) HO2.out HG2.out (by decide)
        have HW3 := Lib.hid hw3
        have HF3 := Lib.hid hf3
        clear hw3 hf3 hc2 hf2 hca hc0 hf0
        go_wp2_with fail
        go_roundw
        case rel => exact ⟨t + 1, _, by omega, by rw [HT1.out], by rw [HS.out, ← HB8.out, ← List.append_assoc]; exact HW3.out, hn.trans HN2.out (by simp; have := hf.size; omega), hn.frame hf HF3.out⟩
        case measure => simp [intOf]
    · obtain rfl : k = t := by omega
      have hm1 : (k : Int) - 1 - k = -1 := by omega
      rw [hm1]
      rw [List.take_of_length_le (by rw [numL_length]; omega)] at hw
      go_wp2_with fail
      go_end0
      exact ⟨rfl, v1, by rw [← HK.out]; exact hw, hn, hf⟩

theorem own_empty (W : World) (B : Nat) (hB : B ≤ W.heap.size) : (W.alloc (.cells #[] 5)).ownsRow B 5 1 (.slice (some ⟨W.heap.size, 0, none⟩) 0 0) ([] : List Int).length (nums .u8 []) :=
  own_lit W B 5 .u8 [] hB (by decide)
set_option maxHeartbeats 1000000 in
theorem clone_calls (A : Option Addr) (n c : Nat) (xs : List Int) (w : World) (hr : ReadsInt w .u8 A n xs) (hn : n ≤ 1000000) :
    Calls Try.prog 54 #[.slice A n c] w fun e w' => ∃ v, e = .returned v ∧ Gives w w' v xs := by
  rcases A with _ | ad
  · have h0 : n = 0 := by
      rcases Nat.eq_zero_or_pos n with h0 | h0
      · exact h0
      · obtain ⟨ad, h, _⟩ := hr.2.2 h0
        cases h
    subst h0
    obtain rfl : xs = [] := List.eq_nil_of_length_eq_zero hr.1
    have heq := Lib.run_eql_slice_nil (P := Try.prog) w 23 5 none 0 c 0 0 Try.underlying23
    go_enter Try.func54, Try.ntmps54
    go_wp2_with fail
    go_ret
    exact ⟨_, rfl, Gives.none_ (Below.refl _ _)⟩
  · have HR := Lib.hid (hr.below ((Below.refl _ _).alloc (Nat.le_refl _) (.cells #[] 5)))
    have HO := Lib.hid (own_empty w w.heap.size (Nat.le_refl _))
    have hl := hr.1
    have HL := Lib.hid hl
    clear hr hl
    have heq := Lib.run_eql_slice_nil (P := Try.prog) w 23 5 (some ad) n c 0 0 Try.underlying23
    go_enter Try.func54, Try.ntmps54
    go_wp2_with (first
      | (at_builtin
         refine print_append_row w.heap.size rfl (.tmp 5) (.tmp 6) 23 5 .u8 1 rfl Try.underlying23 info5 (by decide) _ [] xs (some ad) n c rfl rfl HO.out HR.out ((Below.refl _ _).alloc (Nat.le_refl _) _) (by simp) (by simp; omega) ?_
         intro v1 w2 own1 hb1 hg1 hat1
         have HO1 := Lib.hid own1
         have HB1 := Lib.hid hb1
         clear own1 hb1 hg1 hat1)
      | fail)
    go_ret
    exact ⟨_, rfl, by simpa using HO1.out, HB1.out⟩

set_option maxHeartbeats 1000000 in
theorem bytes_put (B g : Nat) (v : Value) (xs : List Int) (w : World) (h : Wr w 65 B g v xs) (hx : xs.length ≤ 100000) :
    Calls Try.prog 31 #[.pointer (some ⟨g, 0, none⟩)] w fun e w' => ∃ v', e = .returned v' ∧ Gives w w' v' xs := by
  obtain ⟨A, c, rfl, hr⟩ := own_reads h.own
  have hc0 := h.cell0
  have HR := Lib.hid hr
  clear hr h
  go_enter Try.func31, Try.ntmps31
  go_wp2_with fail
  refine (clone_calls _ _ _ _ _ HR.out (by omega)).mono ?_
  rintro e w1 ⟨v1, rfl, hg⟩
  go_wp2_with fail
  go_ret
  exact ⟨_, rfl, hg⟩
end Go.Proofs.Ytehlcljachkgdaa.Field
