/- Walk: alive of chapter 13. -/
import Derived.Test.YtehlcljachkgdaaMetaRound
namespace Go.Proofs.Ytehlcljachkgdaa.Boot
open Go.RowKit Go.Proofs.YtehlcljachkgdaaW.PrintWords Go.Proofs.YtehlcljachkgdaaW.PrintLast Go.Proofs.Ytehlcljachkgdaa.Kit Go.Proofs.Ytehlcljachkgdaa.Field
attribute [local go_sem ↓] ldI ldM stI stM
attribute [local go_sem] ldI_run ldM_run
set_option linter.unusedSimpArgs false
set_option linter.unusedVariables false
theorem num13 (n : Int) (w : World) : Calls Try.prog 27 #[.int .i64 n] w fun e w' => e = .returned (.int .i64 n) ∧ w = w' := by
  go_enter Try.func27, Try.ntmps27
  go_wp2_with fail
  go_ret
  exact ⟨rfl, rfl⟩
def img15 : Img := ⟨1, 5, List.replicate 32 0⟩
def met15 : Met := { Met.zero with i0 := img15 }
theorem img15_ok : img15.Ok := ⟨by simp [img15], fun x hx => by simp only [img15] at hx; rw [List.eq_of_mem_replicate hx]; rfl, rfl, rfl⟩
theorem met15_ok : met15.Ok := ⟨img15_ok, Img.zero_ok, Img.zero_ok, rfl, rfl, rfl, rfl, rfl⟩
theorem met15_right : met15.right = true := by kernel_rfl
theorem lit15 : (#[.int .i64 1, .int .i64 5, .int .u8 0, .int .u8 0, .int .u8 0, .int .u8 0, .int .u8 0, .int .u8 0, .int .u8 0, .int .u8 0, .int .u8 0, .int .u8 0, .int .u8 0, .int .u8 0, .int .u8 0, .int .u8 0, .int .u8 0, .int .u8 0, .int .u8 0, .int .u8 0, .int .u8 0, .int .u8 0, .int .u8 0, .int .u8 0, .int .u8 0, .int .u8 0, .int .u8 0, .int .u8 0, .int .u8 0, .int .u8 0, .int .u8 0, .int .u8 0, .int .u8 0, .int .u8 0] : Array Value) = img15.enc.toArray := by rfl
theorem put15 : (Try.zeroCells52.toList.take 1 ++ (#[.int .i64 1, .int .i64 5, .int .u8 0, .int .u8 0, .int .u8 0, .int .u8 0, .int .u8 0, .int .u8 0, .int .u8 0, .int .u8 0, .int .u8 0, .int .u8 0, .int .u8 0, .int .u8 0, .int .u8 0, .int .u8 0, .int .u8 0, .int .u8 0, .int .u8 0, .int .u8 0, .int .u8 0, .int .u8 0, .int .u8 0, .int .u8 0, .int .u8 0, .int .u8 0, .int .u8 0, .int .u8 0, .int .u8 0, .int .u8 0, .int .u8 0, .int .u8 0, .int .u8 0, .int .u8 0] : Array Value).toList ++ Try.zeroCells52.toList.drop (1 + (#[.int .i64 1, .int .i64 5, .int .u8 0, .int .u8 0, .int .u8 0, .int .u8 0, .int .u8 0, .int .u8 0, .int .u8 0, .int .u8 0, .int .u8 0, .int .u8 0, .int .u8 0, .int .u8 0, .int .u8 0, .int .u8 0, .int .u8 0, .int .u8 0, .int .u8 0, .int .u8 0, .int .u8 0, .int .u8 0, .int .u8 0, .int .u8 0, .int .u8 0, .int .u8 0, .int .u8 0, .int .u8 0, .int .u8 0, .int .u8 0, .int .u8 0, .int .u8 0, .int .u8 0, .int .u8 0] : Array Value).size)).toArray = met15.enc.toArray := by
  rw [lit15, zero_cells]
  exact Met.put_i0 ⟨by simp [Met.zero, Img.zero], by simp [Met.zero, Img.zero], by simp [Met.zero, Img.zero]⟩ img15 (by simp [img15])
set_option maxHeartbeats 8000000 in
set_option maxRecDepth 100000 in
theorem live13 (w : World) : Calls Try.prog 20 #[] w fun e w' => e = .returned (.bool true) ∧ Below w.heap.size w w' := by
  obtain ⟨c0, hc0⟩ : ∃ c, c = Met.zero.enc.toArray := ⟨_, rfl⟩
  obtain ⟨c1, hc1⟩ : ∃ c, c = met15.enc.toArray := ⟨_, rfl⟩
  have HC0 := Lib.hid hc0
  have HC1 := Lib.hid hc1
  have HS0 := Lib.hid (show c0.size = 107 by rw [hc0]; simp [Met.enc_length Met.zero_ok])
  have HS1 := Lib.hid (show c1.size = 107 by rw [hc1]; simp [Met.enc_length met15_ok])
  have heq : ∀ W : World, (Go.binOp .eql 52 (.agg c1) (.agg c1)).run Try.prog W = .ok (.bool true) W := fun W => by
    rw [hc1, Met.eql met15_ok met15_ok W]
    simp
  have le1 : 0 + 107 ≤ c1.size := by have := HS1.out; omega
  have e1 : c1.extract 0 107 = c1 := by rw [← HS1.out]; exact Array.extract_size
  clear hc0 hc1
  go_enter Try.func20, Try.ntmps20
  go_wp2_with fail
  refine (read_m none 0 0 [] _ ⟨rfl, by omega, fun h => by omega⟩ small_nil (by omega)).mono ?_
  rintro e w1 ⟨rfl, hb1⟩
  obtain ⟨r1, r2⟩ := read_short (xs := []) (by simp)
  rw [r1, r2, ← HC0.out]
  have hst := (Blk.new w1 52 Try.zeroCells52 _ rfl).store 52 c0 (by rw [HS0.out]; exact info58) (by rw [HS0.out]; exact z58) (by rw [HC0.out]; exact enc_one _)
  have HB := Lib.hid (below_setRow (hb1.trans ((below_alloc1 w1 (.cells Try.zeroCells52 52)).mono hb1.size)) hb1.size c0)
  clear r1 r2 hb1
  go_upto_region 2 with fail
  generalize (w1.alloc (.cells Try.zeroCells52 52)).setRow w1.heap.size c0 = W2 at HB ⊢
  clear hst
  have hst := (Blk.new W2 52 Try.zeroCells52 _ rfl).store 52 Try.zeroCells52 (by rw [z58]; exact info58) rfl (by rw [zero_cells]; exact enc_one _)
  have HM := Lib.hid ((Blk.new W2 52 Try.zeroCells52 _ rfl).set Try.zeroCells52)
  have hle0 := HB.out.size
  have HB := Lib.hid (below_setRow (HB.out.trans ((below_alloc1 W2 (.cells Try.zeroCells52 52)).mono HB.out.size)) HB.out.size Try.zeroCells52)
  obtain ⟨b3, hb3⟩ : ∃ b, b = W2.heap.size := ⟨_, rfl⟩
  have HB3 := Lib.hid hb3
  have hle : w.heap.size ≤ b3 := by omega
  clear hle0
  go_upto_region 3 with fail
  generalize (W2.alloc (.cells Try.zeroCells52 52)).setRow W2.heap.size Try.zeroCells52 = W3 at HM HB ⊢
  rw [← HB3.out] at HM ⊢
  clear hst hb3
  have hst := HM.out.store_mid 49 1 #[.int .i64 1, .int .i64 5, .int .u8 0, .int .u8 0, .int .u8 0, .int .u8 0, .int .u8 0, .int .u8 0, .int .u8 0, .int .u8 0, .int .u8 0, .int .u8 0, .int .u8 0, .int .u8 0, .int .u8 0, .int .u8 0, .int .u8 0, .int .u8 0, .int .u8 0, .int .u8 0, .int .u8 0, .int .u8 0, .int .u8 0, .int .u8 0, .int .u8 0, .int .u8 0, .int .u8 0, .int .u8 0, .int .u8 0, .int .u8 0, .int .u8 0, .int .u8 0, .int .u8 0, .int .u8 0] info55 (by rw [z58]; decide) (by kernel_rfl)
  rw [put15, ← HC1.out] at hst
  have HM := Lib.hid (HM.out.set c1)
  have HB := Lib.hid (below_setRow HB.out hle c1)
  go_upto_region 4 with fail
  generalize W3.setRow b3 c1 = W4 at HM HB ⊢
  clear hst
  have hrow := HM.out.row
  go_wp2_with fail
  have hby := fun w => bytes_m met15 met15_ok w
  rw [← HC1.out] at hby
  refine (hby _).mono ?_
  rintro e w5 ⟨v, rfl, hg⟩
  have HM := Lib.hid (HM.out.below hg.2)
  have HB := Lib.hid (HB.out.trans (hg.2.mono HB.out.size))
  obtain ⟨A, c, rfl, hrd⟩ := hg.reads
  have HRD := Lib.hid hrd
  have hlen : (bytesM met15).length = 128 := by rw [bytesM_length, met15_right]; rfl
  have HLEN := Lib.hid hlen
  clear hg hrd hby hlen hrow
  go_wp2_with fail
  refine (read_m A _ c _ _ HRD.out (bytesM_small met15_ok) (by rw [HLEN.out]; omega)).mono ?_
  rintro e w6 ⟨rfl, hb6⟩
  have hbb : bytesM met15 = metL met15 ++ [] := by rw [bytesM_yes met15_right, List.append_nil]
  obtain ⟨r1, r2⟩ := read_yes met15_ok met15_right (zs := []) rfl
  rw [← hbb] at r1 r2
  rw [r1, r2, ← HC1.out]
  have HM := Lib.hid (HM.out.below hb6)
  have HB := Lib.hid (HB.out.trans (hb6.mono HB.out.size))
  have hst := (Blk.new w6 52 Try.zeroCells52 _ rfl).store 52 c1 (by rw [HS1.out]; exact info58) (by rw [HS1.out]; exact z58) (by rw [HC1.out]; exact enc_one _)
  have HX := Lib.hid ((Blk.new w6 52 Try.zeroCells52 _ rfl).set c1)
  have HM := Lib.hid ((HM.out.alloc (.cells Try.zeroCells52 52)).set_other (g' := w6.heap.size) c1 (by have := HM.out.lt; omega))
  have HB := Lib.hid (below_setRow (HB.out.trans ((below_alloc1 w6 (.cells Try.zeroCells52 52)).mono HB.out.size)) HB.out.size c1)
  clear r1 r2 hb6 hbb
  go_upto_region 5 with fail
  generalize (w6.alloc (.cells Try.zeroCells52 52)).setRow w6.heap.size c1 = W7 at HM HB HX ⊢
  clear hst
  go_wp2_with fail
  refine (num13 _ _).mono ?_
  rintro e w8 ⟨rfl, rfl⟩
  go_wp2_with fail
  refine (num13 _ _).mono ?_
  rintro e w8 ⟨rfl, rfl⟩
  have hr1 := HM.out.row
  have hr2 := HX.out.row
  go_wp2_with fail
  go_ret
  exact ⟨rfl, HB.out⟩
end Go.Proofs.Ytehlcljachkgdaa.Boot
