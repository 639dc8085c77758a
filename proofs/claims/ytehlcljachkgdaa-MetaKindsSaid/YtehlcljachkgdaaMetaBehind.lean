/- Walks: what lies behind: nothing but bytes 0. -/
import Derived.Test.YtehlcljachkgdaaMetaGet
namespace Go.Proofs.Ytehlcljachkgdaa.Boot
open Go.RowKit Go.Proofs.YtehlcljachkgdaaW.PrintWords Go.Proofs.YtehlcljachkgdaaW.PrintLast Go.Proofs.Ytehlcljachkgdaa.Kit Go.Proofs.Ytehlcljachkgdaa.Field
set_option linter.unusedSimpArgs false
set_option linter.unusedVariables false
def zerosB (l : List Int) : Bool := l.all (fun x => decide (x = 0))
theorem not_zero (c : Int) (w : World) : Calls Try.prog 60 #[.int .u8 c] w fun e w' => e = .returned (.bool (c != 0)) ∧ w = w' := by
  go_enter Try.func60, Try.ntmps60
  go_wp2_with fail
  go_ret
  exact ⟨rfl, rfl⟩
abbrev fnv : Value := .func (.func 60) #[] #[]
theorem rd_zero {l : List Int} {t : Nat} (ht : t < l.length) (hz : rd l t ≠ 0) : zerosB l = false := by
  rw [Bool.eq_false_iff]
  intro h
  unfold zerosB at h
  rw [List.all_eq_true] at h
  have := of_decide_eq_true (h _ (List.getElem_mem ht))
  rw [rd_lt ht] at hz
  exact hz this
theorem zeros_all {l : List Int} (h : ∀ t : Nat, t < l.length → rd l t = 0) : zerosB l = true := by
  unfold zerosB
  rw [List.all_eq_true]
  intro x hx
  obtain ⟨i, hi, rfl⟩ := List.getElem_of_mem hx
  exact decide_eq_true (by rw [← rd_lt hi]; exact h i hi)
def Indexed (w : World) (l : List Int) (e : Ending) (w' : World) : Prop := ∃ k : Int, e = .returned (.int .i64 k) ∧ decide (0 ≤ k) = !zerosB l ∧ w = w'
set_option maxHeartbeats 4000000 in
theorem index_calls (A : Option Addr) (n c : Nat) (l : List Int) (w : World) (hr : ReadsInt w .u8 A n l) (hn : n ≤ 100000) : Calls Try.prog 64 #[.slice A n c, fnv] w (Indexed w l) := by
  have HR := Lib.hid hr
  have HL := Lib.hid hr.1
  clear hr
  go_enter Try.func64, Try.ntmps64
  go_wp2_with fail
  go_loop [8] (fun i => ∃ t : Nat, t ≤ n ∧ i = .int .i64 t ∧ ∀ j : Nat, j < t → rd l j = 0) (fun i => n - (intOf i).toNat)
  case atStart => exact ⟨0, Nat.zero_le _, rfl, fun j hj => by omega⟩
  case round =>
    obtain ⟨t, ht, rfl, hz⟩ := hrel
    have HZ := Lib.hid hz
    clear hz
    by_cases hlt : t < n
    · obtain ⟨ad, rfl, hc⟩ := reads_cell HR.out hlt
      obtain ⟨b, hb⟩ : ∃ b, b = rd l (t : Int) := ⟨_, rfl⟩
      rw [← hb] at hc
      have HB := Lib.hid hb
      clear hb
      by_cases h0 : b = 0
      · have hq : (b != 0) = false := by simp [h0]
        have HH0 := Lib.hid h0
        clear h0
        go_wp2_with (go_at_call 60; refine (not_zero _ _).mono ?_; rintro e w' ⟨rfl, rfl⟩; rw [hq])
        go_round
        case rel => exact ⟨t + 1, by omega, by go_num, fun j hj => by
          rcases Nat.lt_or_ge j t with h | h
          · exact HZ.out j h
          · obtain rfl : j = t := by omega
            rw [← HB.out]; exact HH0.out⟩
        case measure => simp [intOf]; omega
      · have hq : (b != 0) = true := by simpa using h0
        have HF := Lib.hid (rd_zero (l := l) (t := t) (by have := HL.out; omega) (by rw [← HB.out]; exact h0))
        clear h0
        go_wp2_with (go_at_call 60; refine (not_zero _ _).mono ?_; rintro e w' ⟨rfl, rfl⟩; rw [hq])
        go_ret
        exact ⟨(t : Int), rfl, by rw [HF.out]; exact decide_eq_true (by omega), rfl⟩
    · have HF := Lib.hid (zeros_all (l := l) (fun j hj => HZ.out j (by have := HL.out; omega)))
      go_wp2_with fail
      go_ret
      exact ⟨-1, rfl, by rw [HF.out]; rfl, rfl⟩
theorem contains_calls (A : Option Addr) (n c : Nat) (l : List Int) (w : World) (hr : ReadsInt w .u8 A n l) (hn : n ≤ 100000) : Calls Try.prog 59 #[.slice A n c, fnv] w fun e w' => e = .returned (.bool (!zerosB l)) ∧ w = w' := by
  go_enter Try.func59, Try.ntmps59
  go_wp2_with fail
  refine (index_calls A n c l _ hr hn).mono ?_
  rintro e w2 ⟨k, rfl, hk, rfl⟩
  go_wp2_with fail
  go_ret
  exact ⟨by rw [← hk]; rfl, rfl⟩
def Behind (w : World) (g : Nat) (l : List Int) (e : Ending) (w' : World) : Prop := e = .returned (.bool (zerosB l)) ∧ Fr (· = g) w w'
set_option maxHeartbeats 4000000 in
theorem behind_calls (H g : Nat) (xs : List Int) (w : World) (h : Rp w H g xs false) (hx : xs.length ≤ 1000) : Calls Try.prog 47 #[.pointer (some ⟨g, 0, none⟩)] w (Behind w g xs) := by
  have HR := Lib.hid h
  clear h
  by_cases h0 : xs = []
  · subst h0
    go_enter Try.func47, Try.ntmps47
    go_wp2_with fail
    refine wp_loop_rounds 1 ?_
    rw [rounds_succ]
    go_wp2_with fail
    refine (left_get H g _ _ _ HR.out).mono ?_
    rintro e w' ⟨rfl, rfl⟩
    go_wp2_with fail
    go_ret
    exact ⟨rfl, .refl _ _⟩
  · have hpos : 0 < xs.length := List.length_pos_iff.2 h0
    obtain ⟨z, hz⟩ : ∃ z, z = zerosB xs := ⟨_, rfl⟩
    have HZ := Lib.hid hz
    clear hz h0
    go_enter Try.func47, Try.ntmps47
    go_wp2_with fail
    refine wp_loop_rounds 2 ?_
    rw [rounds_succ]
    go_wp2_with fail
    refine (left_get H g _ _ _ HR.out).mono ?_
    rintro e w' ⟨rfl, rfl⟩
    go_wp2_with fail
    refine (left_get H g _ _ _ HR.out).mono ?_
    rintro e w' ⟨rfl, rfl⟩
    go_wp2_with fail
    refine (raw_get H g _ _ (xs.length : Int) _ HR.out).mono ?_
    rintro e w2 ⟨v, rfl, hown, hr, hf⟩
    have hck : clip (xs.length : Int) 1000 = xs.length := by rw [clip_in (by omega) (by omega)]; simp
    rw [hck] at hown hr
    have hgx : Field.got xs false xs.length = xs := by simp [Field.got, takeOk]
    have hrx : Field.rest xs false xs.length = [] := by simp [Field.rest, takeOk]
    have htx : (!takeOk xs false xs.length) = false := by simp [takeOk]
    rw [hgx] at hown
    rw [hrx, htx] at hr
    obtain ⟨A, c, rfl, hrd⟩ := own_reads hown
    have HR2 := Lib.hid hr
    have HF := Lib.hid hf
    have HRD := Lib.hid hrd
    clear hown hr hf hrd hck hgx hrx htx
    go_wp2_with fail
    refine (contains_calls A _ c xs _ HRD.out (by omega)).mono ?_
    rintro e w3 ⟨rfl, rfl⟩
    rw [← HZ.out]
    cases z with
    | false =>
      go_wp2_with fail
      go_ret
      exact ⟨by rw [← HZ.out]; rfl, HF.out⟩
    | true =>
      go_wp2_with fail
      rw [rounds_succ]
      go_wp2_with fail
      refine (left_get H g _ _ _ HR2.out).mono ?_
      rintro e w' ⟨rfl, rfl⟩
      go_wp2_with fail
      go_ret
      exact ⟨by rw [← HZ.out]; rfl, HF.out⟩
end Go.Proofs.Ytehlcljachkgdaa.Boot
