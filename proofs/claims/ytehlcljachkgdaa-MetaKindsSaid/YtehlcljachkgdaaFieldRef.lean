/- Walks: the reference's writer of bytes. -/
import Derived.Test.YtehlcljachkgdaaFieldPut
namespace Go.Proofs.Ytehlcljachkgdaa.Field
open Go.RowKit Go.Proofs.YtehlcljachkgdaaW.PrintWords Go.Proofs.YtehlcljachkgdaaW.PrintLast Go.Proofs.Ytehlcljachkgdaa.Kit

theorem cut (n hi : Int) (w : World) (h : 0 ≤ hi) : Calls Try.prog 57 #[.int .i64 n, .int .i64 0, .int .i64 hi] w fun e w' => e = .returned (.int .i64 (clip n hi)) ∧ w = w' := by
  have hv := clip_val n hi h
  have HV := Lib.hid hv
  clear hv
  rcases (by omega : n < 0 ∨ hi < n ∨ (0 ≤ n ∧ n ≤ hi)) with h1 | h1 | ⟨h1, h2⟩
  all_goals
    go_enter Try.func57, Try.ntmps57
    go_wp2_with fail
    go_ret
    exact ⟨ret_int (by rw [HV.out]; (repeat' split) <;> omega), rfl⟩

set_option maxHeartbeats 1000000 in
theorem num_ref (B g : Nat) (v : Value) (xs : List Int) (n size : Int) (w : World) (h : Wr w 79 B g v xs) (hx : xs.length ≤ 100000) (hB : B ≤ w.heap.size) :
    Calls Try.prog 39 #[.pointer (some ⟨g, 0, none⟩), .int .i64 n, .int .i64 size] w fun e w' => e = .returned (.tuple #[]) ∧ ∃ v', Wr w' 79 B g v' (xs ++ numL n (clip size 8)) ∧ rowNext w v v' ∧ Fr (wF g v) w w' := by
  have hk8 := clip_le size 8 (by omega)
  obtain ⟨k, hk⟩ : ∃ k, k = clip size 8 := ⟨_, rfl⟩
  rw [← hk] at hk8
  have HK := Lib.hid hk
  clear hk
  go_enter Try.func39, Try.ntmps39
  go_wp2_with fail
  refine (cut size 8 _ (by omega)).mono ?_
  rintro e w' ⟨rfl, rfl⟩
  rw [← HK.out]
  go_wp2_with fail
  go_loopw [6] (fun i wr => ∃ (t : Nat) (v1 : Value), t ≤ k ∧ i = .int .i64 ((k : Int) - 1 - t) ∧ Wr wr 79 B g v1 (xs ++ (numL n k).take t) ∧ rowNext w v v1 ∧ Fr (wF g v) w wr) (fun i _ => (intOf i + 1).toNat)
  case atStart => exact ⟨0, v, Nat.zero_le _, by simp, by simpa using h, .refl _ _, .refl _ _⟩
  case round =>
    obtain ⟨t, v1, ht, rfl, hw, hn, hf⟩ := hrel
    by_cases hlt : t < k
    · have hj : (k : Int) - 1 - (t : Int) = ((k - 1 - t : Nat) : Int) := by omega
      have hsn := numL_take_succ n k t hlt
      rw [hj]
      have hj8 : k - 1 - t < 8 := by omega
      have ht1 : ((k - 1 - t : Nat) : Int) - 1 = (k : Int) - 1 - ((t + 1 : Nat) : Int) := by omega
      generalize k - 1 - t = j at *
      have HT1 := Lib.hid ht1
      have HS := Lib.hid hsn
      have hc0 := hw.cell0
      have HW := Lib.hid hw
      clear hj hsn hw ht1
      obtain ⟨-, hb8⟩ := shr8_byte n j hj8
      have hm8 : IntKind.i64.wrap (8 * (j : Int)) = 8 * (j : Int) := IntWalk.i64_in _ (by omega)
      have hmu : IntKind.u64.wrap (8 * (j : Int)) = 8 * (j : Int) := by rw [IntKind.wrap_u64]; omega
      have htl := List.length_take_le t (numL n k)
      have HB8 := Lib.hid hb8
      have HAT : Hid (At wr 79 g v1) := Lib.hid HW.out.cell
      have HNE := Lib.hid (HW.out.ne (by decide))
      clear hb8
      go_wp2_with (first
        | (at_builtin
           go_loud (refine wpList_append_F B rfl (.tmp 18) (.tmp 27) 23 5 rfl Try.underlying23 info5 _ (xs ++ (numL n k).take t) [IntKind.u8.wrap (bits .and .u64 (shr8 n j) 255)] (some ⟨_, 0, none⟩) 1 1 rfl rfl (HW.out.own.alloc _) (reads_mark _ 5 (0, 0) [IntKind.u8.wrap (bits .and .u64 (shr8 n j) 255)] (by simp)) (by simp; have := hf.size; omega) (by simp; omega) ?_)
           intro A2 n2 c2 w2 own2 hg2 hn2
           have hc2 := At.cell (At.grown hg2 (At.alloc HAT.out _) HNE.out)
           have hf2 := At.free (At.grown hg2 (At.alloc HAT.out _) HNE.out)
           have HO2 := Lib.hid own2
           have HG2 := Lib.hid hg2
           have HN2 := Lib.hid hn2
           clear own2 hg2 hn2)
        | fail)
      obtain ⟨hw3, hf3⟩ := HW.out.push ((Below.refl _ _).alloc (Nat.le_refl _) _) HO2.out HG2.out (by decide)
      have HW3 := Lib.hid hw3
      have HF3 := Lib.hid hf3
      clear hw3 hf3 hc2 hf2 hc0
      go_roundw
      case rel => exact ⟨t + 1, _, by omega, by rw [HT1.out], by rw [HS.out, ← HB8.out, ← List.append_assoc]; exact HW3.out, hn.trans HN2.out (by simp; have := hf.size; omega), hn.frame hf HF3.out⟩
      case measure => simp [intOf]
    · obtain rfl : k = t := by omega
      have hm1 : (k : Int) - 1 - k = -1 := by omega
      rw [hm1]
      rw [List.take_of_length_le (by rw [numL_length]; omega)] at hw
      go_wp2_with fail
      go_end0
      exact ⟨rfl, v1, by rw [← HK.out]; exact hw, hn, hf⟩

set_option maxHeartbeats 1000000 in
theorem raw_ref (B g : Nat) (v : Value) (xs : List Int) (A : Option Addr) (m c : Nat) (ys : List Int) (size : Int) (w : World) (h : Wr w 79 B g v xs) (hx : xs.length ≤ 100000) (hB : B ≤ w.heap.size) (hr : ReadsInt w .u8 A m ys) (hA : 0 < m → ∀ ad, A = some ad → ad.block < B) :
    Calls Try.prog 63 #[.pointer (some ⟨g, 0, none⟩), .slice A m c, .int .i64 size] w fun e w' => e = .returned (.tuple #[]) ∧ ∃ v', Wr w' 79 B g v' (xs ++ rawL ys (clip size 1000)) ∧ rowNext w v v' ∧ Fr (wF g v) w w' := by
  have hk8 := clip_le size 1000 (by omega)
  obtain ⟨k, hk⟩ : ∃ k, k = clip size 1000 := ⟨_, rfl⟩
  rw [← hk] at hk8
  have HK := Lib.hid hk
  clear hk
  have hapart : ∀ W : World, Fr (wF g v) w W → ReadsInt W .u8 A m ys := fun W hf => by
    refine hf.reads hr fun hm ad e hF => ?_
    have := hA hm ad e
    rcases hF with hF | hF
    · have := h.hB; omega
    · have := own_base h.own _ hF; omega
  have HAP := Lib.hid hapart
  clear hapart
  go_enter Try.func63, Try.ntmps63
  go_wp2_with fail
  go_loopw [6] (fun i wr => ∃ (t : Nat) (v1 : Value), t ≤ k ∧ i = .int .i64 t ∧ Wr wr 79 B g v1 (xs ++ rawL ys t) ∧ rowNext w v v1 ∧ Fr (wF g v) w wr) (fun i _ => k - (intOf i).toNat)
  case atStart => exact ⟨0, v, Nat.zero_le _, rfl, by simpa [rawL] using h, .refl _ _, .refl _ _⟩
  case round =>
    obtain ⟨t, v1, ht, rfl, hw, hn, hf⟩ := hrel
    have hry := HAP.out wr hf
    by_cases hlt : t < k
    · have hsn := rawL_succ ys t
      have htl := rawL_length ys t
      have HTL := Lib.hid htl
      have hc0 := hw.cell0
      have HS := Lib.hid hsn
      have HW := Lib.hid hw
      have HAT : Hid (At wr 79 g v1) := Lib.hid HW.out.cell
      have HNE := Lib.hid (HW.out.ne (by decide))
      clear hsn hw htl
      by_cases htm : t < m
      · obtain ⟨ad, rfl, hcy⟩ := reads_cell hry htm
        generalize hrd : rd ys (t : Int) = b at *
        clear hrd hry
        go_wp2_with (first
          | (go_at_call 57; refine (cut size 1000 _ (by omega)).mono ?_; rintro e w' ⟨rfl, rfl⟩; rw [← HK.out])
          | (at_builtin
             go_loud (refine wpList_append_F B rfl (.tmp 26) (.tmp 28) 23 5 rfl Try.underlying23 info5 _ (xs ++ rawL ys t) [b] (some ⟨_, 0, none⟩) 1 1 rfl rfl (HW.out.own.alloc _) (reads_mark _ 5 (0, 0) [b] (by simp)) (by simp; have := hf.size; omega) (by have := HTL.out; simp; omega) ?_)
             intro A2 n2 c2 w2 own2 hg2 hn2
             have hc2 := At.cell (At.grown hg2 (At.alloc HAT.out _) HNE.out)
             have hf2 := At.free (At.grown hg2 (At.alloc HAT.out _) HNE.out)
             have HO2 := Lib.hid own2
             have HG2 := Lib.hid hg2
             have HN2 := Lib.hid hn2
             clear own2 hg2 hn2)
          | fail)
        obtain ⟨hw3, hf3⟩ := HW.out.push ((Below.refl _ _).alloc (Nat.le_refl _) _) HO2.out HG2.out (by decide)
        have HW3 := Lib.hid hw3
        have HF3 := Lib.hid hf3
        clear hw3 hf3 hc2 hf2 hc0
        go_roundw
        case rel => exact ⟨t + 1, _, by omega, by go_num, by rw [HS.out, ← List.append_assoc]; exact HW3.out, hn.trans HN2.out (by simp; have := hf.size; omega), hn.frame hf HF3.out⟩
        case measure => simp [intOf]; omega
      · have hz : rd ys (t : Int) = 0 := rd_ge (by have := hry.1; omega)
        rw [hz] at HS
        clear hz hry
        go_wp2_with (first
          | (go_at_call 57; refine (cut size 1000 _ (by omega)).mono ?_; rintro e w' ⟨rfl, rfl⟩; rw [← HK.out])
          | (at_builtin
             go_loud (refine wpList_append_F B rfl (.tmp 26) (.tmp 28) 23 5 rfl Try.underlying23 info5 _ (xs ++ rawL ys t) [0] (some ⟨_, 0, none⟩) 1 1 rfl rfl (HW.out.own.alloc _) (reads_mark _ 5 (0, 0) [0] (by simp)) (by simp; have := hf.size; omega) (by have := HTL.out; simp; omega) ?_)
             intro A2 n2 c2 w2 own2 hg2 hn2
             have hc2 := At.cell (At.grown hg2 (At.alloc HAT.out _) HNE.out)
             have hf2 := At.free (At.grown hg2 (At.alloc HAT.out _) HNE.out)
             have HO2 := Lib.hid own2
             have HG2 := Lib.hid hg2
             have HN2 := Lib.hid hn2
             clear own2 hg2 hn2)
          | fail)
        obtain ⟨hw3, hf3⟩ := HW.out.push ((Below.refl _ _).alloc (Nat.le_refl _) _) HO2.out HG2.out (by decide)
        have HW3 := Lib.hid hw3
        have HF3 := Lib.hid hf3
        clear hw3 hf3 hc2 hf2 hc0
        go_roundw
        case rel => exact ⟨t + 1, _, by omega, by go_num, by rw [HS.out, ← List.append_assoc]; exact HW3.out, hn.trans HN2.out (by simp; have := hf.size; omega), hn.frame hf HF3.out⟩
        case measure => simp [intOf]; omega
    · obtain rfl : k = t := by omega
      go_wp2_with (go_at_call 57; refine (cut size 1000 _ (by omega)).mono ?_; rintro e w' ⟨rfl, rfl⟩; rw [← HK.out])
      go_end0
      exact ⟨rfl, v1, by rw [← HK.out]; exact hw, hn, hf⟩
end Go.Proofs.Ytehlcljachkgdaa.Field
