/- Walk: NamesBroken returns true. -/
import Derived.Test.YtajflegjpnmloaaNamesBroken
namespace Go.Proofs.Ytajflegjpnmloaa.Names
open Go.RowKit Go.Proofs.YtajflegjpnmloaaW.PrintWords Go.Proofs.YtajflegjpnmloaaW.PrintLast Go.Proofs.Ytajflegjpnmloaa.Kit Go.Proofs.Ytajflegjpnmloaa.Runes Go.Proofs.Ytajflegjpnmloaa.RunePlain

theorem conv_byte (b : Int) (W : World) : (convert 23 9 (.slice (some ⟨W.heap.size, 0, none⟩) 1 1)).run Try.prog (W.alloc (.cells #[.int .u8 b] 5)) = .ok (.string (strOfNums [b])) (W.alloc (.cells #[.int .u8 b] 5)) :=
  conv_reads 1 (reads_mark W 5 (0, 0) [b] (by simp))

theorem broken_out (b n : Int) (w : World) (h : b < 128 ∨ n < 0 ∨ 20 < n) :
    Calls Try.prog 10 #[.int .u8 b, .int .i64 n] w fun e w' => e = .returned (.bool true) ∧ Below w.heap.size w w' := by
  rcases h with h | h | h
  all_goals
    go_enter Try.func10, Try.ntmps10
    go_wp2_with fail
    refine (live _).mono ?_
    rintro e w1 ⟨rfl, hb⟩
    go_wp2_with fail
    all_goals first
      | (exfalso; omega)
      | (go_ret; exact ⟨rfl, hb⟩)

theorem broken_in (b : Int) (n : Nat) (w : World) (h0 : 128 ≤ b) (h1 : b < 256) (hn : n ≤ 20) :
    Calls Try.prog 10 #[.int .u8 b, .int .i64 n] w fun e w' => e = .returned (.bool true) ∧ Below w.heap.size w w' := by
  go_enter Try.func10, Try.ntmps10
  go_wp2_with fail
  refine (live _).mono ?_
  rintro e w1 ⟨rfl, hb⟩
  go_wp2_with fail
  go_loopw [6, 7] (fun s i wr => ∃ k : Nat, k ≤ n ∧ i = .int .i64 k ∧ s = .string (brk b k) ∧ Below w.heap.size w wr) (fun _ i _ => n - (intOf i).toNat)
  case atStart => exact ⟨0, Nat.zero_le _, rfl, rfl, hb⟩
  case round =>
    obtain ⟨k, hk, rfl, rfl, hb⟩ := hrel
    by_cases hlt : k < n
    · have kc := conv_byte b wr
      obtain ⟨sk, hsk⟩ : ∃ sk, sk = brk b k := ⟨_, rfl⟩
      have hs1 : sk ++ strOfNums [b] = brk b (k + 1) := by rw [hsk]; rfl
      rw [← hsk]
      have hz1 : sk.size ≤ 21 := by
        have e := congrArg List.length (brk_data b k)
        simp at e
        have e2 : (brk b k).size = (brk b k).data.size := rfl
        rw [hsk]
        omega
      have hz2 : (strOfNums [b]).size ≤ 1 := Nat.le_refl 1
      have HS1 := Lib.hid hs1
      clear hs1 hsk
      go_wp2_with fail
      go_roundw
      case rel => exact ⟨k + 1, by omega, by go_num, by rw [← HS1.out], hb.alloc hb.size _⟩
      case measure => simp [intOf]; omega
    · obtain rfl : n = k := by omega
      have hr := runes_brk b h0 h1 n
      have hz : (brk b n).size ≤ 21 := by
        have e := congrArg List.length (brk_data b n)
        simp at e
        have e2 : (brk b n).size = (brk b n).data.size := rfl
        omega
      have hc : (runes (brk b n)).length = n + 1 := by rw [hr]; simp
      have hv : validB (runes (brk b n)) = decide (n = 0) := by rw [hr]; exact valid_brk n
      have hcl : runesBytes (cleanL (runes (brk b n))) = ⟨#[97]⟩ := by rw [hr]; exact clean_brk n
      clear hr
      generalize brk b n = s at *
      have HC := Lib.hid hc
      have HCL := Lib.hid hcl
      clear hc hcl
      have h01 : n = 0 ∨ (1 ≤ n ∧ ((n : Int) == 0) = false) := by
        rcases Nat.eq_zero_or_pos n with h | h
        · exact Or.inl h
        · exact Or.inr ⟨h, by simp; omega⟩
      rcases h01 with rfl | ⟨h, h'⟩
      · have HV : Hid (validB (runes s) = true) := Lib.hid hv
        clear hv
        go_wp2_with (first
          | (go_at_call 26; refine (valid _ _ (by omega)).mono ?_; rintro e w2 ⟨rfl, hb1⟩; replace hb := hb.trans (hb1.mono hb.size); clear hb1; rw [HV.out])
          | (go_at_call 28; refine (clean _ _).mono ?_; rintro e w2 ⟨rfl, hb1⟩; replace hb := hb.trans (hb1.mono hb.size); clear hb1; rw [HCL.out])
          | (go_at_call 24; refine (count _ _ (by omega)).mono ?_; rintro e w2 ⟨rfl, hb1⟩; replace hb := hb.trans (hb1.mono hb.size); clear hb1; rw [HC.out])
          | fail)
        go_ret
        exact ⟨by first | rfl | (simp; done) | (simp; omega), hb⟩
      · have HV : Hid (validB (runes s) = false) := Lib.hid (by rw [hv]; simp; omega)
        clear hv
        go_wp2_with (first
          | (go_at_call 26; refine (valid _ _ (by omega)).mono ?_; rintro e w2 ⟨rfl, hb1⟩; replace hb := hb.trans (hb1.mono hb.size); clear hb1; rw [HV.out])
          | (go_at_call 28; refine (clean _ _).mono ?_; rintro e w2 ⟨rfl, hb1⟩; replace hb := hb.trans (hb1.mono hb.size); clear hb1; rw [HCL.out])
          | (go_at_call 24; refine (count _ _ (by omega)).mono ?_; rintro e w2 ⟨rfl, hb1⟩; replace hb := hb.trans (hb1.mono hb.size); clear hb1; rw [HC.out])
          | fail)
        go_ret
        exact ⟨by first | rfl | (simp; done) | (simp; omega), hb⟩

theorem broken_law (b n : Int) (w : World) (hb : 0 ≤ b ∧ b ≤ 255) :
    Calls Try.prog 10 #[.int .u8 b, .int .i64 n] w fun e w' => e = .returned (.bool true) ∧ Below w.heap.size w w' := by
  by_cases h : b < 128 ∨ n < 0 ∨ 20 < n
  · exact broken_out b n w h
  · obtain ⟨k, rfl⟩ := Int.eq_ofNat_of_zero_le (show 0 ≤ n by omega)
    exact broken_in b k w (by omega) (by omega) (by omega)
end Go.Proofs.Ytajflegjpnmloaa.Names
