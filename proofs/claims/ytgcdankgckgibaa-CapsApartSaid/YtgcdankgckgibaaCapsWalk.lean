/- Walks: caps.Need, caps.Right, caps.May, and the reference's. -/
import Derived.Test.YtgcdankgckgibaaCapsPlain
import Derived.Test.YtgcdankgckgibaaValidRef
namespace Go.Proofs.Ytgcdankgckgibaa.Caps
open Go.RowKit Go.Proofs.YtgcdankgckgibaaW.PrintWords Go.Proofs.YtgcdankgckgibaaW.PrintLast Go.Proofs.Ytgcdankgckgibaa.Kit Go.Proofs.Ytgcdankgckgibaa.Runes

/-- a config's cells, as the walk spells them -/
abbrev Cfg.agg (c : Cfg) : Value := .agg #[.string c.nm, .slice c.ka c.nk c.kc, .int .i64 c.slot, .int .i64 c.bud, .int .i64 c.quo, .int .i64 c.rig, .slice c.fa c.nf c.fc]
theorem below_alloc1 (W : World) (o : Obj) : Below W.heap.size W (W.alloc o) := (Below.refl _ _).alloc (Nat.le_refl _) _

theorem num_calls (n : Int) (w : World) : Calls Try.prog 17 #[.int .i64 n] w fun e w' => e = .returned (.int .i64 n) ∧ w = w' := by
  go_enter Try.func17, Try.ntmps17
  go_wp2_with fail
  go_ret
  exact ⟨rfl, rfl⟩
theorem cut_calls (n : Int) (w : World) : Calls Try.prog 51 #[.int .i64 n, .int .i64 0, .int .i64 6] w fun e w' => e = .returned (.int .i64 (max 0 (min n 6))) ∧ w = w' := by
  rcases (by omega : n < 0 ∨ (0 ≤ n ∧ n ≤ 6) ∨ 6 < n) with h | ⟨h1, h2⟩ | h
  · have e : max 0 (min n 6) = 0 := by omega
    have HE := Lib.hid e
    clear e
    go_enter Try.func51, Try.ntmps51
    go_wp2_with fail
    go_ret
    exact ⟨by rw [HE.out]; rfl, rfl⟩
  · have e : max 0 (min n 6) = n := by omega
    have HE := Lib.hid e
    clear e
    go_enter Try.func51, Try.ntmps51
    go_wp2_with fail
    go_ret
    exact ⟨by rw [HE.out]; rfl, rfl⟩
  · have e : max 0 (min n 6) = 6 := by omega
    have HE := Lib.hid e
    clear e
    go_enter Try.func51, Try.ntmps51
    go_wp2_with fail
    go_ret
    exact ⟨by rw [HE.out]; rfl, rfl⟩
set_option maxHeartbeats 1000000 in
theorem need_ref (c : Cfg) (w : World) : Calls Try.prog 28 #[c.agg] w fun e w' => e = .returned (.int .i64 c.need) ∧ Below w.heap.size w w' := by
  obtain ⟨nm, ka, nk, kc, slot, bud, quo, rig, fa, nf, fc⟩ := c
  show Calls _ _ _ _ fun e w' => e = .returned (.int .i64 (4 + 2 * max 0 (min slot 6))) ∧ _
  obtain ⟨x, hx⟩ : ∃ x, x = max 0 (min slot 6) := ⟨_, rfl⟩
  have h0 : 0 ≤ x := by omega
  have h6 : x ≤ 6 := by omega
  have HX := Lib.hid hx
  clear hx
  rw [← HX.out]
  go_enter Try.func28, Try.ntmps28
  go_wp2_with fail
  refine (cut_calls slot _).mono ?_
  rintro e w2 ⟨rfl, rfl⟩
  rw [← HX.out]
  go_wp2_with fail
  go_ret
  exact ⟨rfl, below_alloc1 _ _⟩
set_option maxHeartbeats 1000000 in
theorem need_calls (c : Cfg) (w : World) : Calls Try.prog 18 #[c.agg] w fun e w' => e = .returned (.int .i64 c.need) ∧ Below w.heap.size w w' := by
  obtain ⟨nm, ka, nk, kc, slot, bud, quo, rig, fa, nf, fc⟩ := c
  show Calls _ _ _ _ fun e w' => e = .returned (.int .i64 (4 + 2 * max 0 (min slot 6))) ∧ _
  rcases (by omega : slot ≤ 0 ∨ (0 < slot ∧ slot ≤ 6) ∨ 6 < slot) with h | ⟨h1, h2⟩ | h
  · have e : 4 + 2 * max 0 (min slot 6) = 4 := by omega
    have HE := Lib.hid e
    clear e
    go_enter Try.func18, Try.ntmps18
    go_wp2_with fail
    go_ret
    exact ⟨by rw [HE.out]; rfl, below_alloc1 _ _⟩
  · have e : 4 + 2 * max 0 (min slot 6) = 4 + 2 * slot := by omega
    have HE := Lib.hid e
    clear e
    go_enter Try.func18, Try.ntmps18
    go_wp2_with fail
    go_ret
    exact ⟨by rw [HE.out]; rfl, below_alloc1 _ _⟩
  · have e : 4 + 2 * max 0 (min slot 6) = 16 := by omega
    have HE := Lib.hid e
    clear e
    go_enter Try.func18, Try.ntmps18
    go_wp2_with fail
    go_ret
    exact ⟨by rw [HE.out]; rfl, below_alloc1 _ _⟩

set_option maxHeartbeats 4000000 in
set_option maxRecDepth 100000 in
theorem right_calls (c : Cfg) (w : World) (hs : c.nm.size < 9223372036854775807) : Calls Try.prog 19 #[c.agg] w fun e w' => e = .returned (.bool c.right) ∧ Below w.heap.size w w' := by
  obtain ⟨b, hb⟩ : ∃ b, b = c.right := ⟨_, rfl⟩
  rw [← hb]
  have hs' : c.nm.size < 9223372036854775807 := hs
  have HB := Lib.hid hb
  clear hb hs
  obtain ⟨nm, ka, nk, kc, slot, bud, quo, rig, fa, nf, fc⟩ := c
  have hb1 := below_alloc1 w (.cells #[.string nm, .slice ka nk kc, .int .i64 slot, .int .i64 bud, .int .i64 quo, .int .i64 rig, .slice fa nf fc] 35)
  have HW := Lib.hid hb1
  clear hb1
  by_cases hf : (⟨nm, ka, nk, kc, slot, bud, quo, rig, fa, nf, fc⟩ : Cfg).fits
  · have hr : b = validB (runes nm) := by rw [HB.out]; simp [Cfg.right, hf]
    obtain ⟨f1, f2, f3, f4, f5, f6, f7, f8, f9, f10, f11, f12⟩ := hf
    simp only at f1 f2 f3 f4 f5 f6 f7 f8 f9 f10 f11 f12
    have HR := Lib.hid hr
    clear hr HB
    go_enter Try.func19, Try.ntmps19
    go_wp2_with fail
    refine (valid nm _ hs').mono ?_
    rintro e w2 ⟨rfl, hb2⟩
    have hc2 := (bcell hb2).1
    rw [← HR.out]
    cases b with
    | true =>
      go_wp2_with fail
      go_ret
      exact ⟨rfl, HW.out.trans (hb2.mono HW.out.size)⟩
    | false =>
      go_wp2_with fail
      go_ret
      exact ⟨rfl, HW.out.trans (hb2.mono HW.out.size)⟩
  · have hr : b = false := by rw [HB.out]; simp [Cfg.right, hf]
    have hn : ¬ (1 ≤ nk ∧ nk ≤ 64 ∧ 1 ≤ slot ∧ slot ≤ 6 ∧ 0 ≤ bud ∧ bud ≤ 1000 ∧ 1 ≤ quo ∧ quo ≤ slot ∧ 0 ≤ rig ∧ rig ≤ 1023 ∧ 1 ≤ nf ∧ (nf : Int) ≤ quo * 320) := hf
    have HN := Lib.hid hn
    have HR := Lib.hid hr
    clear hr HB hf hn
    obtain ⟨v, hv⟩ : ∃ v, v = validB (runes nm) := ⟨_, rfl⟩
    have HV := Lib.hid hv
    clear hv
    go_enter Try.func19, Try.ntmps19
    go_wp2_with fail
    refine (valid nm _ hs').mono ?_
    rintro e w2 ⟨rfl, hb2⟩
    have hc2 := (bcell hb2).1
    rw [← HV.out]
    cases v with
    | true =>
      go_wp2_with fail
      all_goals first
        | (exfalso; have := HN.out; omega)
        | (go_ret; exact ⟨by rw [HR.out]; first | rfl | (simp; done) | (have := HN.out; simp; omega), HW.out.trans (hb2.mono HW.out.size)⟩)
    | false =>
      go_wp2_with fail
      go_ret
      exact ⟨by rw [HR.out]; rfl, HW.out.trans (hb2.mono HW.out.size)⟩

set_option maxHeartbeats 4000000 in
set_option maxRecDepth 100000 in
theorem right_ref (c : Cfg) (w : World) (hs : c.nm.size < 9223372036854775807) : Calls Try.prog 27 #[c.agg] w fun e w' => e = .returned (.bool c.right) ∧ Below w.heap.size w w' := by
  obtain ⟨b, hb⟩ : ∃ b, b = c.right := ⟨_, rfl⟩
  rw [← hb]
  have hs' : c.nm.size < 9223372036854775807 := hs
  have HB := Lib.hid hb
  clear hb hs
  obtain ⟨nm, ka, nk, kc, slot, bud, quo, rig, fa, nf, fc⟩ := c
  have hb1 := below_alloc1 w (.cells #[.string nm, .slice ka nk kc, .int .i64 slot, .int .i64 bud, .int .i64 quo, .int .i64 rig, .slice fa nf fc] 35)
  have HW := Lib.hid hb1
  clear hb1
  by_cases hf : (⟨nm, ka, nk, kc, slot, bud, quo, rig, fa, nf, fc⟩ : Cfg).fits
  · have hr : b = validB (runes nm) := by rw [HB.out]; simp [Cfg.right, hf]
    obtain ⟨f1, f2, f3, f4, f5, f6, f7, f8, f9, f10, f11, f12⟩ := hf
    simp only at f1 f2 f3 f4 f5 f6 f7 f8 f9 f10 f11 f12
    have HR := Lib.hid hr
    clear hr HB
    go_enter Try.func27, Try.ntmps27
    go_wp2_with fail
    refine (Names.valid_ref nm _ hs').mono ?_
    rintro e w2 ⟨rfl, hb2⟩
    have hc2 := (bcell hb2).1
    rw [← HR.out]
    cases b with
    | true =>
      go_wp2_with fail
      go_ret
      exact ⟨rfl, HW.out.trans (hb2.mono HW.out.size)⟩
    | false =>
      go_wp2_with fail
      go_ret
      exact ⟨rfl, HW.out.trans (hb2.mono HW.out.size)⟩
  · have hr : b = false := by rw [HB.out]; simp [Cfg.right, hf]
    have hn : ¬ (1 ≤ nk ∧ nk ≤ 64 ∧ 1 ≤ slot ∧ slot ≤ 6 ∧ 0 ≤ bud ∧ bud ≤ 1000 ∧ 1 ≤ quo ∧ quo ≤ slot ∧ 0 ≤ rig ∧ rig ≤ 1023 ∧ 1 ≤ nf ∧ (nf : Int) ≤ quo * 320) := hf
    have HN := Lib.hid hn
    have HR := Lib.hid hr
    clear hr HB hf hn
    obtain ⟨v, hv⟩ : ∃ v, v = validB (runes nm) := ⟨_, rfl⟩
    have HV := Lib.hid hv
    clear hv
    go_enter Try.func27, Try.ntmps27
    go_wp2_with fail
    refine (Names.valid_ref nm _ hs').mono ?_
    rintro e w2 ⟨rfl, hb2⟩
    have hc2 := (bcell hb2).1
    rw [← HV.out]
    cases v with
    | true =>
      go_wp2_with fail
      all_goals first
        | (exfalso; have := HN.out; omega)
        | (go_ret; exact ⟨by rw [HR.out]; first | rfl | (simp; done) | (have := HN.out; simp; omega), HW.out.trans (hb2.mono HW.out.size)⟩)
    | false =>
      go_wp2_with fail
      go_ret
      exact ⟨by rw [HR.out]; rfl, HW.out.trans (hb2.mono HW.out.size)⟩
end Go.Proofs.Ytgcdankgckgibaa.Caps
