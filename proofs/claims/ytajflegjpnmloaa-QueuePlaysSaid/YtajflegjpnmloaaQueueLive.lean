/- Walk: alive of chapter 21. -/
import Derived.Test.YtajflegjpnmloaaQueueAdd
namespace Go.Proofs.Ytajflegjpnmloaa.Queue
open Go.RowKit Go.Proofs.YtajflegjpnmloaaW.PrintWords Go.Proofs.YtajflegjpnmloaaW.PrintLast Go.Proofs.Ytajflegjpnmloaa.Kit Go.Proofs.Ytajflegjpnmloaa.Field
attribute [local go_sem ↓] ldR stR
set_option linter.unusedSimpArgs false
set_option linter.unusedVariables false
/-- a new queue -/
theorem qu_new (W : World) (B : Nat) (hB : B ≤ W.heap.size) : Qu (W.alloc (.cells #[.slice none 0 0] 41)) B W.heap.size (.slice none 0 0) [] :=
  ⟨hB, heap_alloc_new W _, rfl, .inl ⟨rfl, rfl⟩⟩
set_option maxHeartbeats 4000000 in
set_option maxRecDepth 100000 in
theorem live21 (w : World) : Calls Try.prog 30 #[] w fun e w' => e = .returned (.bool true) ∧ Below w.heap.size w w' := by
  have hq := qu_new w w.heap.size (Nat.le_refl _)
  have HQ := Lib.hid hq
  have HB := Lib.hid (below_alloc1 w (.cells #[.slice none 0 0] 41))
  clear hq
  go_enter Try.func30, Try.ntmps30
  go_wp2_with fail
  refine (len_calls _ _ _ [] _ HQ.out).mono ?_
  rintro e w1 ⟨rfl, rfl⟩
  go_wp2_with fail
  refine (add_ok _ _ _ [] ⟨3, 0, none, 0, 0⟩ [] _ HQ.out (by decide) ⟨rfl, by decide, fun h => absurd h (by decide)⟩ (by decide)).mono ?_
  rintro e w2 ⟨rfl, v2, A2, c2, hq2, hr2, hd2, hf2, hn2⟩
  have HQ2 := Lib.hid hq2
  have HB2 := Lib.hid (HB.out.trans (hf2.to_below (B := w.heap.size) (fun i hi hf => by
    rcases hf with hf | hf
    · omega
    · simp [Value.ownBlock] at hf) HB.out.size))
  clear hq2 hr2 hd2 hf2 hn2
  go_wp2_with fail
  refine (take_cons _ _ _ ⟨3, 0, A2, 0, c2⟩ [] _ HQ2.out (by decide)).mono ?_
  rintro e w3 ⟨rfl, v3, hq3, hf3, hv3⟩
  have HB3 := Lib.hid (HB2.out.trans (hf3.to_below (B := w.heap.size) (fun i hi hf => by omega) HB2.out.size))
  have hn := Blk.new w3 43 #[.int .i64 0, .int .i64 0, .slice none 0 0] _ rfl
  have hst := hn.store 43 #[.int .i64 3, .int .i64 0, .slice A2 0 c2] infoR rfl rfl
  have HX := Lib.hid (hn.set #[.int .i64 3, .int .i64 0, .slice A2 0 c2])
  have HB4 := Lib.hid (below_setRow (HB3.out.trans ((below_alloc1 w3 (.cells #[.int .i64 0, .int .i64 0, .slice none 0 0] 43)).mono HB3.out.size)) HB3.out.size #[.int .i64 3, .int .i64 0, .slice A2 0 c2])
  clear hq3 hf3 hv3 hn
  go_upto_region 5 with fail
  generalize (w3.alloc (.cells #[.int .i64 0, .int .i64 0, .slice none 0 0] 43)).setRow w3.heap.size #[.int .i64 3, .int .i64 0, .slice A2 0 c2] = W4 at HX HB4 ⊢
  clear hst
  have hc0 := HX.out.cell 0
  go_wp2_with fail
  refine (num21 0 _).mono ?_
  rintro e w5 ⟨rfl, rfl⟩
  go_wp2_with fail
  go_ret
  exact ⟨rfl, HB4.out⟩
end Go.Proofs.Ytajflegjpnmloaa.Queue
