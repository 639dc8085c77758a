/- Walk: NamesLong returns true. -/
import Derived.Test.YtajflegjpnmloaaNamesBroken
namespace Go.Proofs.Ytajflegjpnmloaa.Names
open Go.RowKit Go.Proofs.YtajflegjpnmloaaW.PrintWords Go.Proofs.YtajflegjpnmloaaW.PrintLast Go.Proofs.Ytajflegjpnmloaa.Kit Go.Proofs.Ytajflegjpnmloaa.Runes Go.Proofs.Ytajflegjpnmloaa.RunePlain

theorem long_out (n : Int) (g : Bool) (w : World) (h : n < 0 ∨ 20 < n) :
    Calls Try.prog 11 #[.int .i64 n, .bool g] w fun e w' => e = .returned (.bool true) ∧ Below w.heap.size w w' := by
  rcases h with h | h
  all_goals
    go_enter Try.func11, Try.ntmps11
    go_wp2_with fail
    refine (live _).mono ?_
    rintro e w1 ⟨rfl, hb⟩
    go_wp2_with fail
    all_goals first
      | (exfalso; omega)
      | (go_ret; exact ⟨rfl, hb⟩)

/-- k runes c as bytes -/
def rep (c : Int) (k : Nat) : ByteArray := runesBytes (List.replicate k c)
theorem rep_z (k : Nat) : rep 122 k ++ ⟨#[122]⟩ = rep 122 (k + 1) := by rw [rep, rep, rep_add, enc_z]
theorem rep_o (k : Nat) : rep 969 k ++ ⟨#[207, 137]⟩ = rep 969 (k + 1) := by rw [rep, rep, rep_add, enc_o]
theorem rep_size (c : Int) (k : Nat) : (rep c k).size ≤ 4 * k := by
  have := runesBytes_size_le (List.replicate k c)
  simpa [rep] using this

set_option maxHeartbeats 2000000 in
theorem long_z (n : Nat) (w : World) (hn : n ≤ 20) :
    Calls Try.prog 11 #[.int .i64 n, .bool false] w fun e w' => e = .returned (.bool true) ∧ Below w.heap.size w w' := by
  go_enter Try.func11, Try.ntmps11
  go_wp2_with fail
  refine (live _).mono ?_
  rintro e w1 ⟨rfl, hb⟩
  go_wp2_with fail
  go_loopw [6, 7] (fun s i wr => ∃ k : Nat, k ≤ n ∧ i = .int .i64 k ∧ s = .string (rep 122 k) ∧ Below w.heap.size w wr) (fun _ i _ => n - (intOf i).toNat)
  case atStart => exact ⟨0, Nat.zero_le _, rfl, rfl, hb⟩
  case round =>
    obtain ⟨k, hk, rfl, rfl, hb⟩ := hrel
    by_cases hlt : k < n
    · obtain ⟨sk, hsk⟩ : ∃ sk, sk = rep 122 k := ⟨_, rfl⟩
      have hz1 : sk.size ≤ 80 := by have := rep_size 122 k; rw [hsk]; omega
      have hs1 : sk ++ ⟨#[122]⟩ = rep 122 (k + 1) := by rw [hsk]; exact rep_z k
      rw [← hsk]
      have HS1 := Lib.hid hs1
      clear hs1 hsk
      go_wp2_with fail
      go_roundw
      case rel => exact ⟨k + 1, by omega, by go_num, by rw [← HS1.out], hb⟩
      case measure => simp [intOf]; omega
    · obtain rfl : n = k := by omega
      have hy : mayB 122 = true := rfl
      have hr : runes (rep 122 n) = List.replicate n 122 := runes_rep 122 hy n
      have hz : (rep 122 n).size ≤ 80 := by have := rep_size 122 n; omega
      have hc : (runes (rep 122 n)).length = n := by rw [hr]; simp
      have hv : validB (runes (rep 122 n)) = (decide (1 ≤ n) && decide (n ≤ 8)) := by rw [hr]; exact valid_rep 122 hy n
      have hcl : (runes (runesBytes (cleanL (runes (rep 122 n))))).length = min 8 n := by rw [runes_clean, hr]; exact clean_rep 122 hy n
      have hcz : (runesBytes (cleanL (runes (rep 122 n)))).size ≤ 32 := by
        have h1 := runesBytes_size_le (cleanL (runes (rep 122 n))); have h2 := cleanL_length (runes (rep 122 n)); omega
      clear hr hy
      generalize rep 122 n = s at *
      obtain ⟨t, ht⟩ : ∃ t, t = runesBytes (cleanL (runes s)) := ⟨_, rfl⟩
      rw [← ht] at hcl hcz
      have HC := Lib.hid hc
      have HT := Lib.hid ht.symm
      clear hc ht
      have h01 : n = 0 ∨ (1 ≤ n ∧ n ≤ 8) ∨ 8 < n := by omega
      rcases h01 with rfl | ⟨h, h'⟩ | h
      · have HV : Hid (validB (runes s) = false) := Lib.hid hv
        have HCL : Hid ((runes t).length = 0) := Lib.hid hcl
        clear hv hcl
        go_wp2_with (first
          | (go_at_call 26; refine (valid _ _ (by omega)).mono ?_; rintro e w2 ⟨rfl, hb1⟩; replace hb := hb.trans (hb1.mono hb.size); clear hb1; rw [HV.out])
          | (go_at_call 28; refine (clean _ _).mono ?_; rintro e w2 ⟨rfl, hb1⟩; replace hb := hb.trans (hb1.mono hb.size); clear hb1; rw [HT.out])
          | (go_at_call 24; refine (count _ _ (by omega)).mono ?_; rintro e w2 ⟨rfl, hb1⟩; replace hb := hb.trans (hb1.mono hb.size); clear hb1; first | rw [HC.out] | rw [HCL.out])
          | fail)
        go_ret
        exact ⟨by first | rfl | (simp; done) | (simp; omega), hb⟩
      · have HV : Hid (validB (runes s) = true) := Lib.hid (by rw [hv]; simp; omega)
        have HCL : Hid ((runes t).length = n) := Lib.hid (by rw [hcl]; omega)
        clear hv hcl
        go_wp2_with (first
          | (go_at_call 26; refine (valid _ _ (by omega)).mono ?_; rintro e w2 ⟨rfl, hb1⟩; replace hb := hb.trans (hb1.mono hb.size); clear hb1; rw [HV.out])
          | (go_at_call 28; refine (clean _ _).mono ?_; rintro e w2 ⟨rfl, hb1⟩; replace hb := hb.trans (hb1.mono hb.size); clear hb1; rw [HT.out])
          | (go_at_call 24; refine (count _ _ (by omega)).mono ?_; rintro e w2 ⟨rfl, hb1⟩; replace hb := hb.trans (hb1.mono hb.size); clear hb1; first | rw [HC.out] | rw [HCL.out])
          | fail)
        go_ret
        exact ⟨by first | rfl | (simp; done) | (simp; omega), hb⟩
      · have HV : Hid (validB (runes s) = false) := Lib.hid (by rw [hv]; simp; omega)
        have HCL : Hid ((runes t).length = 8) := Lib.hid (by rw [hcl]; omega)
        clear hv hcl
        go_wp2_with (first
          | (go_at_call 26; refine (valid _ _ (by omega)).mono ?_; rintro e w2 ⟨rfl, hb1⟩; replace hb := hb.trans (hb1.mono hb.size); clear hb1; rw [HV.out])
          | (go_at_call 28; refine (clean _ _).mono ?_; rintro e w2 ⟨rfl, hb1⟩; replace hb := hb.trans (hb1.mono hb.size); clear hb1; rw [HT.out])
          | (go_at_call 24; refine (count _ _ (by omega)).mono ?_; rintro e w2 ⟨rfl, hb1⟩; replace hb := hb.trans (hb1.mono hb.size); clear hb1; first | rw [HC.out] | rw [HCL.out])
          | fail)
        go_ret
        exact ⟨by first | rfl | (simp; done) | (simp; omega), hb⟩
set_option maxHeartbeats 2000000 in
theorem long_o (n : Nat) (w : World) (hn : n ≤ 20) :
    Calls Try.prog 11 #[.int .i64 n, .bool true] w fun e w' => e = .returned (.bool true) ∧ Below w.heap.size w w' := by
  go_enter Try.func11, Try.ntmps11
  go_wp2_with fail
  refine (live _).mono ?_
  rintro e w1 ⟨rfl, hb⟩
  go_wp2_with fail
  go_loopw [6, 7] (fun s i wr => ∃ k : Nat, k ≤ n ∧ i = .int .i64 k ∧ s = .string (rep 969 k) ∧ Below w.heap.size w wr) (fun _ i _ => n - (intOf i).toNat)
  case atStart => exact ⟨0, Nat.zero_le _, rfl, rfl, hb⟩
  case round =>
    obtain ⟨k, hk, rfl, rfl, hb⟩ := hrel
    by_cases hlt : k < n
    · obtain ⟨sk, hsk⟩ : ∃ sk, sk = rep 969 k := ⟨_, rfl⟩
      have hz1 : sk.size ≤ 80 := by have := rep_size 969 k; rw [hsk]; omega
      have hs1 : sk ++ ⟨#[207, 137]⟩ = rep 969 (k + 1) := by rw [hsk]; exact rep_o k
      rw [← hsk]
      have HS1 := Lib.hid hs1
      clear hs1 hsk
      go_wp2_with fail
      go_roundw
      case rel => exact ⟨k + 1, by omega, by go_num, by rw [← HS1.out], hb⟩
      case measure => simp [intOf]; omega
    · obtain rfl : n = k := by omega
      have hy : mayB 969 = true := rfl
      have hr : runes (rep 969 n) = List.replicate n 969 := runes_rep 969 hy n
      have hz : (rep 969 n).size ≤ 80 := by have := rep_size 969 n; omega
      have hc : (runes (rep 969 n)).length = n := by rw [hr]; simp
      have hv : validB (runes (rep 969 n)) = (decide (1 ≤ n) && decide (n ≤ 8)) := by rw [hr]; exact valid_rep 969 hy n
      have hcl : (runes (runesBytes (cleanL (runes (rep 969 n))))).length = min 8 n := by rw [runes_clean, hr]; exact clean_rep 969 hy n
      have hcz : (runesBytes (cleanL (runes (rep 969 n)))).size ≤ 32 := by
        have h1 := runesBytes_size_le (cleanL (runes (rep 969 n))); have h2 := cleanL_length (runes (rep 969 n)); omega
      clear hr hy
      generalize rep 969 n = s at *
      obtain ⟨t, ht⟩ : ∃ t, t = runesBytes (cleanL (runes s)) := ⟨_, rfl⟩
      rw [← ht] at hcl hcz
      have HC := Lib.hid hc
      have HT := Lib.hid ht.symm
      clear hc ht
      have h01 : n = 0 ∨ (1 ≤ n ∧ n ≤ 8) ∨ 8 < n := by omega
      rcases h01 with rfl | ⟨h, h'⟩ | h
      · have HV : Hid (validB (runes s) = false) := Lib.hid hv
        have HCL : Hid ((runes t).length = 0) := Lib.hid hcl
        clear hv hcl
        go_wp2_with (first
          | (go_at_call 26; refine (valid _ _ (by omega)).mono ?_; rintro e w2 ⟨rfl, hb1⟩; replace hb := hb.trans (hb1.mono hb.size); clear hb1; rw [HV.out])
          | (go_at_call 28; refine (clean _ _).mono ?_; rintro e w2 ⟨rfl, hb1⟩; replace hb := hb.trans (hb1.mono hb.size); clear hb1; rw [HT.out])
          | (go_at_call 24; refine (count _ _ (by omega)).mono ?_; rintro e w2 ⟨rfl, hb1⟩; replace hb := hb.trans (hb1.mono hb.size); clear hb1; first | rw [HC.out] | rw [HCL.out])
          | fail)
        go_ret
        exact ⟨by first | rfl | (simp; done) | (simp; omega), hb⟩
      · have HV : Hid (validB (runes s) = true) := Lib.hid (by rw [hv]; simp; omega)
        have HCL : Hid ((runes t).length = n) := Lib.hid (by rw [hcl]; omega)
        clear hv hcl
        go_wp2_with (first
          | (go_at_call 26; refine (valid _ _ (by omega)).mono ?_; rintro e w2 ⟨rfl, hb1⟩; replace hb := hb.trans (hb1.mono hb.size); clear hb1; rw [HV.out])
          | (go_at_call 28; refine (clean _ _).mono ?_; rintro e w2 ⟨rfl, hb1⟩; replace hb := hb.trans (hb1.mono hb.size); clear hb1; rw [HT.out])
          | (go_at_call 24; refine (count _ _ (by omega)).mono ?_; rintro e w2 ⟨rfl, hb1⟩; replace hb := hb.trans (hb1.mono hb.size); clear hb1; first | rw [HC.out] | rw [HCL.out])
          | fail)
        go_ret
        exact ⟨by first | rfl | (simp; done) | (simp; omega), hb⟩
      · have HV : Hid (validB (runes s) = false) := Lib.hid (by rw [hv]; simp; omega)
        have HCL : Hid ((runes t).length = 8) := Lib.hid (by rw [hcl]; omega)
        clear hv hcl
        go_wp2_with (first
          | (go_at_call 26; refine (valid _ _ (by omega)).mono ?_; rintro e w2 ⟨rfl, hb1⟩; replace hb := hb.trans (hb1.mono hb.size); clear hb1; rw [HV.out])
          | (go_at_call 28; refine (clean _ _).mono ?_; rintro e w2 ⟨rfl, hb1⟩; replace hb := hb.trans (hb1.mono hb.size); clear hb1; rw [HT.out])
          | (go_at_call 24; refine (count _ _ (by omega)).mono ?_; rintro e w2 ⟨rfl, hb1⟩; replace hb := hb.trans (hb1.mono hb.size); clear hb1; first | rw [HC.out] | rw [HCL.out])
          | fail)
        go_ret
        exact ⟨by first | rfl | (simp; done) | (simp; omega), hb⟩

theorem long_law (n : Int) (g : Bool) (w : World) :
    Calls Try.prog 11 #[.int .i64 n, .bool g] w fun e w' => e = .returned (.bool true) ∧ Below w.heap.size w w' := by
  by_cases h : n < 0 ∨ 20 < n
  · exact long_out n g w h
  · obtain ⟨k, rfl⟩ := Int.eq_ofNat_of_zero_le (show 0 ≤ n by omega)
    cases g with
    | false => exact long_z k w (by omega)
    | true => exact long_o k w (by omega)
end Go.Proofs.Ytajflegjpnmloaa.Names
