/- Walk: CellLimits returns true. -/
import Derived.Test.YtgcdankgckgibaaCellLaws
import Derived.BigQuiet
namespace Go.Proofs.Ytgcdankgckgibaa.Cell
open Go.RowKit Go.Proofs.YtgcdankgckgibaaW.PrintWords Go.Proofs.YtgcdankgckgibaaW.PrintLast Go.Proofs.Ytgcdankgckgibaa.Kit Go.Proofs.Ytgcdankgckgibaa.Field

theorem lim_out (n : Int) (w : World) (h : n < 0 ∨ 5 < n) :
    Calls Try.prog 13 #[.int .i64 n] w fun e w' => e = .returned (.bool true) ∧ Below w.heap.size w w' := by
  go_enter Try.func13, Try.ntmps13
  go_wp2_with fail
  refine (live10 _).mono ?_
  rintro e w1 ⟨rfl, hb⟩
  go_wp2_with fail
  all_goals first
    | (exfalso; omega)
    | (go_ret; exact ⟨rfl, hb⟩)

set_option maxHeartbeats 4000000 in
set_option maxRecDepth 100000 in
theorem lim0 (w : World) :
    Calls Try.prog 13 #[.int .i64 0] w fun e w' => e = .returned (.bool true) ∧ Below w.heap.size w w' := by
  have hmk : ∀ W : World, (Instr.makeSlice 33 (.int .i64 0) (.int .i64 0)).run Try.prog W = .ok (.slice (some ⟨W.heap.size, 0, none⟩) 0 0) (W.alloc (.cells (madeCells #[.int .u8 0] 0) 5)) := print_make (P := Try.prog) 33 5 .u8 1 Try.underlying33 info5 (by decide) 0 (by decide)
  have hsz : Small (List.replicate 0 0) := small_mem (fun x hx => by rw [List.eq_of_mem_replicate hx]; decide)
  have HE := Lib.hid (show putE 0 (List.replicate 0 0) = 1 by unfold putE; rw [if_neg (by decide)])
  go_enter Try.func13, Try.ntmps13
  go_wp2_with fail
  refine (live10 _).mono ?_
  rintro e w1 ⟨rfl, hb⟩
  have HB1 := Lib.hid hb
  clear hb
  go_wp2_with fail
  clear hmk
  have hb2 := HB1.out.trans (((below_alloc1 w1 (.cells #[.int .i64 0, .int .i64 1, .int .i64 2147483647, .int .i64 2147483648, .int .i64 5, .int .i64 5] 3)).alloc (by simp) (.cells #[.int .i64 0, .int .i64 0, .int .i64 0, .int .i64 0, .int .i64 156, .int .i64 157] 3)).mono HB1.out.size)
  have hs2 : ((w1.alloc (.cells #[.int .i64 0, .int .i64 1, .int .i64 2147483647, .int .i64 2147483648, .int .i64 5, .int .i64 5] 3)).alloc (.cells #[.int .i64 0, .int .i64 0, .int .i64 0, .int .i64 0, .int .i64 156, .int .i64 157] 3)).heap.size = w1.heap.size + 1 + 1 := by simp
  generalize ((w1.alloc (.cells #[.int .i64 0, .int .i64 1, .int .i64 2147483647, .int .i64 2147483648, .int .i64 5, .int .i64 5] 3)).alloc (.cells #[.int .i64 0, .int .i64 0, .int .i64 0, .int .i64 0, .int .i64 156, .int .i64 157] 3)) = w2 at *
  have ho := own_made w2 0 5 .u8 0 (Nat.zero_le _) (by omega)
  rw [hs2] at ho
  obtain ⟨A0, c0, hv0, hr0⟩ := own_reads ho
  injection hv0 with e1 e2 e3
  subst e1
  have HR2 := Lib.hid hr0
  have HB2 := Lib.hid (hb2.alloc hb2.size (.cells (madeCells #[.int .u8 0] 0) 5))
  clear hb2 hs2 ho hr0 HB1 e3
  generalize (w2.alloc (.cells (madeCells #[.int .u8 0] 0) 5)) = w3 at *
  refine (put_calls 0 _ 0 0 (List.replicate 0 0) _ HR2.out hsz).mono ?_
  rintro e w4 ⟨v4, rfl, hg⟩
  rw [HE.out]
  obtain ⟨hp1, -⟩ := put_no (n := 0) (b := List.replicate 0 0) (by rintro ⟨h1, h2⟩; revert h1 h2; simp [mayC])
  rw [hp1] at hg
  have ho := hg.1
  obtain ⟨A4, c4, rfl, hr4⟩ := own_reads ho
  have hgc := getC_nil
  have HR4 := Lib.hid hr4
  have HB4 := Lib.hid (HB2.out.trans (hg.2.mono HB2.out.size))
  have HGC := Lib.hid hgc
  clear hg ho hr4 HR2 HB2 hgc hp1
  go_wp2_with fail
  go_region_with ((with_reducible refine (num10 1 _).mono ?_)
                  rintro e w' ⟨rfl, rfl⟩)
  all_goals
    go_wp2_with fail
    have hbl := (below_alloc1 w4 (.cells #[.int .i64 1, .int .i64 0, .int .i64 0, .int .i64 1, .int .i64 0, .int .i64 10] 3)).drew
    refine (get_calls A4 0 c4 _ _ (HR4.out.below hbl) small_nil (by omega)).mono ?_
    rw [HGC.out]
    rintro e w5 ⟨v5, rfl, hg⟩
    obtain ⟨A5, c5, rfl, -⟩ := hg.reads
    have HB5 := Lib.hid (HB4.out.trans ((hbl.trans (hg.2.mono hbl.size)).mono HB4.out.size))
    clear hg hbl
    go_wp2_with fail
    refine (num10 1 _).mono ?_
    rintro e w' ⟨rfl, rfl⟩
    go_wp2_with fail
    go_ret
    exact ⟨rfl, HB5.out⟩

set_option maxHeartbeats 4000000 in
set_option maxRecDepth 100000 in
theorem lim1 (w : World) :
    Calls Try.prog 13 #[.int .i64 1] w fun e w' => e = .returned (.bool true) ∧ Below w.heap.size w w' := by
  have hmk : ∀ W : World, (Instr.makeSlice 33 (.int .i64 0) (.int .i64 0)).run Try.prog W = .ok (.slice (some ⟨W.heap.size, 0, none⟩) 0 0) (W.alloc (.cells (madeCells #[.int .u8 0] 0) 5)) := print_make (P := Try.prog) 33 5 .u8 1 Try.underlying33 info5 (by decide) 0 (by decide)
  have hsz : Small (List.replicate 0 0) := small_mem (fun x hx => by rw [List.eq_of_mem_replicate hx]; decide)
  have HE := Lib.hid (show putE 1 (List.replicate 0 0) = 0 by unfold putE; rw [if_pos (by decide), if_pos (by simp)])
  go_enter Try.func13, Try.ntmps13
  go_wp2_with fail
  refine (live10 _).mono ?_
  rintro e w1 ⟨rfl, hb⟩
  have HB1 := Lib.hid hb
  clear hb
  go_wp2_with fail
  clear hmk
  have hb2 := HB1.out.trans (((below_alloc1 w1 (.cells #[.int .i64 0, .int .i64 1, .int .i64 2147483647, .int .i64 2147483648, .int .i64 5, .int .i64 5] 3)).alloc (by simp) (.cells #[.int .i64 0, .int .i64 0, .int .i64 0, .int .i64 0, .int .i64 156, .int .i64 157] 3)).mono HB1.out.size)
  have hs2 : ((w1.alloc (.cells #[.int .i64 0, .int .i64 1, .int .i64 2147483647, .int .i64 2147483648, .int .i64 5, .int .i64 5] 3)).alloc (.cells #[.int .i64 0, .int .i64 0, .int .i64 0, .int .i64 0, .int .i64 156, .int .i64 157] 3)).heap.size = w1.heap.size + 1 + 1 := by simp
  generalize ((w1.alloc (.cells #[.int .i64 0, .int .i64 1, .int .i64 2147483647, .int .i64 2147483648, .int .i64 5, .int .i64 5] 3)).alloc (.cells #[.int .i64 0, .int .i64 0, .int .i64 0, .int .i64 0, .int .i64 156, .int .i64 157] 3)) = w2 at *
  have ho := own_made w2 0 5 .u8 0 (Nat.zero_le _) (by omega)
  rw [hs2] at ho
  obtain ⟨A0, c0, hv0, hr0⟩ := own_reads ho
  injection hv0 with e1 e2 e3
  subst e1
  have HR2 := Lib.hid hr0
  have HB2 := Lib.hid (hb2.alloc hb2.size (.cells (madeCells #[.int .u8 0] 0) 5))
  clear hb2 hs2 ho hr0 HB1 e3
  generalize (w2.alloc (.cells (madeCells #[.int .u8 0] 0) 5)) = w3 at *
  refine (put_calls 1 _ 0 0 (List.replicate 0 0) _ HR2.out hsz).mono ?_
  rintro e w4 ⟨v4, rfl, hg⟩
  rw [HE.out]
  obtain ⟨hp1, -⟩ := put_yes (n := 1) (b := List.replicate 0 0) (by decide) (by simp)
  rw [hp1] at hg
  have ho := hg.1
  rw [putL_length] at ho
  obtain ⟨A4, c4, rfl, hr4⟩ := own_reads ho
  have hgc := getC_put 1 (List.replicate 0 0) (by decide)
  have HR4 := Lib.hid hr4
  have HB4 := Lib.hid (HB2.out.trans (hg.2.mono HB2.out.size))
  have HGC := Lib.hid hgc
  clear hg ho hr4 HR2 HB2 hgc hp1
  go_wp2_with fail
  go_region_with ((with_reducible refine (num10 0 _).mono ?_)
                  rintro e w' ⟨rfl, rfl⟩)
  all_goals
    go_wp2_with fail
    have hbl := (below_alloc1 w4 (.cells #[.int .i64 1, .int .i64 0, .int .i64 0, .int .i64 1, .int .i64 0, .int .i64 10] 3)).drew
    refine (get_calls A4 320 c4 _ _ (HR4.out.below hbl) (Dual.put_small (loadL_small _ hsz)) (by omega)).mono ?_
    rw [HGC.out]
    rintro e w5 ⟨v5, rfl, hg⟩
    obtain ⟨A5, c5, rfl, -⟩ := hg.reads
    have HB5 := Lib.hid (HB4.out.trans ((hbl.trans (hg.2.mono hbl.size)).mono HB4.out.size))
    clear hg hbl
    go_wp2_with fail
    refine (num10 0 _).mono ?_
    rintro e w' ⟨rfl, rfl⟩
    go_wp2_with fail
    go_ret
    exact ⟨rfl, HB5.out⟩

set_option maxHeartbeats 4000000 in
set_option maxRecDepth 100000 in
theorem lim2 (w : World) :
    Calls Try.prog 13 #[.int .i64 2] w fun e w' => e = .returned (.bool true) ∧ Below w.heap.size w w' := by
  have hmk : ∀ W : World, (Instr.makeSlice 33 (.int .i64 0) (.int .i64 0)).run Try.prog W = .ok (.slice (some ⟨W.heap.size, 0, none⟩) 0 0) (W.alloc (.cells (madeCells #[.int .u8 0] 0) 5)) := print_make (P := Try.prog) 33 5 .u8 1 Try.underlying33 info5 (by decide) 0 (by decide)
  have hsz : Small (List.replicate 0 0) := small_mem (fun x hx => by rw [List.eq_of_mem_replicate hx]; decide)
  have HE := Lib.hid (show putE 2147483647 (List.replicate 0 0) = 0 by unfold putE; rw [if_pos (by decide), if_pos (by simp)])
  go_enter Try.func13, Try.ntmps13
  go_wp2_with fail
  refine (live10 _).mono ?_
  rintro e w1 ⟨rfl, hb⟩
  have HB1 := Lib.hid hb
  clear hb
  go_wp2_with fail
  clear hmk
  have hb2 := HB1.out.trans (((below_alloc1 w1 (.cells #[.int .i64 0, .int .i64 1, .int .i64 2147483647, .int .i64 2147483648, .int .i64 5, .int .i64 5] 3)).alloc (by simp) (.cells #[.int .i64 0, .int .i64 0, .int .i64 0, .int .i64 0, .int .i64 156, .int .i64 157] 3)).mono HB1.out.size)
  have hs2 : ((w1.alloc (.cells #[.int .i64 0, .int .i64 1, .int .i64 2147483647, .int .i64 2147483648, .int .i64 5, .int .i64 5] 3)).alloc (.cells #[.int .i64 0, .int .i64 0, .int .i64 0, .int .i64 0, .int .i64 156, .int .i64 157] 3)).heap.size = w1.heap.size + 1 + 1 := by simp
  generalize ((w1.alloc (.cells #[.int .i64 0, .int .i64 1, .int .i64 2147483647, .int .i64 2147483648, .int .i64 5, .int .i64 5] 3)).alloc (.cells #[.int .i64 0, .int .i64 0, .int .i64 0, .int .i64 0, .int .i64 156, .int .i64 157] 3)) = w2 at *
  have ho := own_made w2 0 5 .u8 0 (Nat.zero_le _) (by omega)
  rw [hs2] at ho
  obtain ⟨A0, c0, hv0, hr0⟩ := own_reads ho
  injection hv0 with e1 e2 e3
  subst e1
  have HR2 := Lib.hid hr0
  have HB2 := Lib.hid (hb2.alloc hb2.size (.cells (madeCells #[.int .u8 0] 0) 5))
  clear hb2 hs2 ho hr0 HB1 e3
  generalize (w2.alloc (.cells (madeCells #[.int .u8 0] 0) 5)) = w3 at *
  refine (put_calls 2147483647 _ 0 0 (List.replicate 0 0) _ HR2.out hsz).mono ?_
  rintro e w4 ⟨v4, rfl, hg⟩
  rw [HE.out]
  obtain ⟨hp1, -⟩ := put_yes (n := 2147483647) (b := List.replicate 0 0) (by decide) (by simp)
  rw [hp1] at hg
  have ho := hg.1
  rw [putL_length] at ho
  obtain ⟨A4, c4, rfl, hr4⟩ := own_reads ho
  have hgc := getC_put 2147483647 (List.replicate 0 0) (by decide)
  have HR4 := Lib.hid hr4
  have HB4 := Lib.hid (HB2.out.trans (hg.2.mono HB2.out.size))
  have HGC := Lib.hid hgc
  clear hg ho hr4 HR2 HB2 hgc hp1
  go_wp2_with fail
  go_region_with ((with_reducible refine (num10 0 _).mono ?_)
                  rintro e w' ⟨rfl, rfl⟩)
  all_goals
    go_wp2_with fail
    have hbl := (below_alloc1 w4 (.cells #[.int .i64 1, .int .i64 0, .int .i64 0, .int .i64 1, .int .i64 0, .int .i64 10] 3)).drew
    refine (get_calls A4 320 c4 _ _ (HR4.out.below hbl) (Dual.put_small (loadL_small _ hsz)) (by omega)).mono ?_
    rw [HGC.out]
    rintro e w5 ⟨v5, rfl, hg⟩
    obtain ⟨A5, c5, rfl, -⟩ := hg.reads
    have HB5 := Lib.hid (HB4.out.trans ((hbl.trans (hg.2.mono hbl.size)).mono HB4.out.size))
    clear hg hbl
    go_wp2_with fail
    refine (num10 0 _).mono ?_
    rintro e w' ⟨rfl, rfl⟩
    go_wp2_with fail
    go_ret
    exact ⟨rfl, HB5.out⟩

set_option maxHeartbeats 4000000 in
set_option maxRecDepth 100000 in
theorem lim3 (w : World) :
    Calls Try.prog 13 #[.int .i64 3] w fun e w' => e = .returned (.bool true) ∧ Below w.heap.size w w' := by
  have hmk : ∀ W : World, (Instr.makeSlice 33 (.int .i64 0) (.int .i64 0)).run Try.prog W = .ok (.slice (some ⟨W.heap.size, 0, none⟩) 0 0) (W.alloc (.cells (madeCells #[.int .u8 0] 0) 5)) := print_make (P := Try.prog) 33 5 .u8 1 Try.underlying33 info5 (by decide) 0 (by decide)
  have hsz : Small (List.replicate 0 0) := small_mem (fun x hx => by rw [List.eq_of_mem_replicate hx]; decide)
  have HE := Lib.hid (show putE 2147483648 (List.replicate 0 0) = 1 by unfold putE; rw [if_neg (by decide)])
  go_enter Try.func13, Try.ntmps13
  go_wp2_with fail
  refine (live10 _).mono ?_
  rintro e w1 ⟨rfl, hb⟩
  have HB1 := Lib.hid hb
  clear hb
  go_wp2_with fail
  clear hmk
  have hb2 := HB1.out.trans (((below_alloc1 w1 (.cells #[.int .i64 0, .int .i64 1, .int .i64 2147483647, .int .i64 2147483648, .int .i64 5, .int .i64 5] 3)).alloc (by simp) (.cells #[.int .i64 0, .int .i64 0, .int .i64 0, .int .i64 0, .int .i64 156, .int .i64 157] 3)).mono HB1.out.size)
  have hs2 : ((w1.alloc (.cells #[.int .i64 0, .int .i64 1, .int .i64 2147483647, .int .i64 2147483648, .int .i64 5, .int .i64 5] 3)).alloc (.cells #[.int .i64 0, .int .i64 0, .int .i64 0, .int .i64 0, .int .i64 156, .int .i64 157] 3)).heap.size = w1.heap.size + 1 + 1 := by simp
  generalize ((w1.alloc (.cells #[.int .i64 0, .int .i64 1, .int .i64 2147483647, .int .i64 2147483648, .int .i64 5, .int .i64 5] 3)).alloc (.cells #[.int .i64 0, .int .i64 0, .int .i64 0, .int .i64 0, .int .i64 156, .int .i64 157] 3)) = w2 at *
  have ho := own_made w2 0 5 .u8 0 (Nat.zero_le _) (by omega)
  rw [hs2] at ho
  obtain ⟨A0, c0, hv0, hr0⟩ := own_reads ho
  injection hv0 with e1 e2 e3
  subst e1
  have HR2 := Lib.hid hr0
  have HB2 := Lib.hid (hb2.alloc hb2.size (.cells (madeCells #[.int .u8 0] 0) 5))
  clear hb2 hs2 ho hr0 HB1 e3
  generalize (w2.alloc (.cells (madeCells #[.int .u8 0] 0) 5)) = w3 at *
  refine (put_calls 2147483648 _ 0 0 (List.replicate 0 0) _ HR2.out hsz).mono ?_
  rintro e w4 ⟨v4, rfl, hg⟩
  rw [HE.out]
  obtain ⟨hp1, -⟩ := put_no (n := 2147483648) (b := List.replicate 0 0) (by rintro ⟨h1, h2⟩; revert h1 h2; simp [mayC])
  rw [hp1] at hg
  have ho := hg.1
  obtain ⟨A4, c4, rfl, hr4⟩ := own_reads ho
  have hgc := getC_nil
  have HR4 := Lib.hid hr4
  have HB4 := Lib.hid (HB2.out.trans (hg.2.mono HB2.out.size))
  have HGC := Lib.hid hgc
  clear hg ho hr4 HR2 HB2 hgc hp1
  go_wp2_with fail
  go_region_with ((with_reducible refine (num10 1 _).mono ?_)
                  rintro e w' ⟨rfl, rfl⟩)
  all_goals
    go_wp2_with fail
    have hbl := (below_alloc1 w4 (.cells #[.int .i64 1, .int .i64 0, .int .i64 0, .int .i64 1, .int .i64 0, .int .i64 10] 3)).drew
    refine (get_calls A4 0 c4 _ _ (HR4.out.below hbl) small_nil (by omega)).mono ?_
    rw [HGC.out]
    rintro e w5 ⟨v5, rfl, hg⟩
    obtain ⟨A5, c5, rfl, -⟩ := hg.reads
    have HB5 := Lib.hid (HB4.out.trans ((hbl.trans (hg.2.mono hbl.size)).mono HB4.out.size))
    clear hg hbl
    go_wp2_with fail
    refine (num10 1 _).mono ?_
    rintro e w' ⟨rfl, rfl⟩
    go_wp2_with fail
    go_ret
    exact ⟨rfl, HB5.out⟩

set_option maxHeartbeats 4000000 in
set_option maxRecDepth 100000 in
theorem lim4 (w : World) :
    Calls Try.prog 13 #[.int .i64 4] w fun e w' => e = .returned (.bool true) ∧ Below w.heap.size w w' := by
  have hmk : ∀ W : World, (Instr.makeSlice 33 (.int .i64 156) (.int .i64 156)).run Try.prog W = .ok (.slice (some ⟨W.heap.size, 0, none⟩) 156 156) (W.alloc (.cells (madeCells #[.int .u8 0] 156) 5)) := print_make (P := Try.prog) 33 5 .u8 1 Try.underlying33 info5 (by decide) 156 (by decide)
  have hsz : Small (List.replicate 156 0) := small_mem (fun x hx => by rw [List.eq_of_mem_replicate hx]; decide)
  have HE := Lib.hid (show putE 5 (List.replicate 156 0) = 0 by unfold putE; rw [if_pos (by decide), if_pos (by simp)])
  go_enter Try.func13, Try.ntmps13
  go_wp2_with fail
  refine (live10 _).mono ?_
  rintro e w1 ⟨rfl, hb⟩
  have HB1 := Lib.hid hb
  clear hb
  go_wp2_with fail
  clear hmk
  have hb2 := HB1.out.trans (((below_alloc1 w1 (.cells #[.int .i64 0, .int .i64 1, .int .i64 2147483647, .int .i64 2147483648, .int .i64 5, .int .i64 5] 3)).alloc (by simp) (.cells #[.int .i64 0, .int .i64 0, .int .i64 0, .int .i64 0, .int .i64 156, .int .i64 157] 3)).mono HB1.out.size)
  have hs2 : ((w1.alloc (.cells #[.int .i64 0, .int .i64 1, .int .i64 2147483647, .int .i64 2147483648, .int .i64 5, .int .i64 5] 3)).alloc (.cells #[.int .i64 0, .int .i64 0, .int .i64 0, .int .i64 0, .int .i64 156, .int .i64 157] 3)).heap.size = w1.heap.size + 1 + 1 := by simp
  generalize ((w1.alloc (.cells #[.int .i64 0, .int .i64 1, .int .i64 2147483647, .int .i64 2147483648, .int .i64 5, .int .i64 5] 3)).alloc (.cells #[.int .i64 0, .int .i64 0, .int .i64 0, .int .i64 0, .int .i64 156, .int .i64 157] 3)) = w2 at *
  have ho := own_made w2 0 5 .u8 156 (Nat.zero_le _) (by omega)
  rw [hs2] at ho
  obtain ⟨A0, c0, hv0, hr0⟩ := own_reads ho
  injection hv0 with e1 e2 e3
  subst e1
  have HR2 := Lib.hid hr0
  have HB2 := Lib.hid (hb2.alloc hb2.size (.cells (madeCells #[.int .u8 0] 156) 5))
  clear hb2 hs2 ho hr0 HB1 e3
  generalize (w2.alloc (.cells (madeCells #[.int .u8 0] 156) 5)) = w3 at *
  refine (put_calls 5 _ 156 156 (List.replicate 156 0) _ HR2.out hsz).mono ?_
  rintro e w4 ⟨v4, rfl, hg⟩
  rw [HE.out]
  obtain ⟨hp1, -⟩ := put_yes (n := 5) (b := List.replicate 156 0) (by decide) (by simp)
  rw [hp1] at hg
  have ho := hg.1
  rw [putL_length] at ho
  obtain ⟨A4, c4, rfl, hr4⟩ := own_reads ho
  have hgc := getC_put 5 (List.replicate 156 0) (by decide)
  have HR4 := Lib.hid hr4
  have HB4 := Lib.hid (HB2.out.trans (hg.2.mono HB2.out.size))
  have HGC := Lib.hid hgc
  clear hg ho hr4 HR2 HB2 hgc hp1
  go_wp2_with fail
  go_region_with ((with_reducible refine (num10 0 _).mono ?_)
                  rintro e w' ⟨rfl, rfl⟩)
  all_goals
    go_wp2_with fail
    have hbl := (below_alloc1 w4 (.cells #[.int .i64 1, .int .i64 0, .int .i64 0, .int .i64 1, .int .i64 0, .int .i64 10] 3)).drew
    refine (get_calls A4 320 c4 _ _ (HR4.out.below hbl) (Dual.put_small (loadL_small _ hsz)) (by omega)).mono ?_
    rw [HGC.out]
    rintro e w5 ⟨v5, rfl, hg⟩
    obtain ⟨A5, c5, rfl, -⟩ := hg.reads
    have HB5 := Lib.hid (HB4.out.trans ((hbl.trans (hg.2.mono hbl.size)).mono HB4.out.size))
    clear hg hbl
    go_wp2_with fail
    refine (num10 0 _).mono ?_
    rintro e w' ⟨rfl, rfl⟩
    go_wp2_with fail
    go_ret
    exact ⟨rfl, HB5.out⟩

set_option maxHeartbeats 4000000 in
set_option maxRecDepth 100000 in
theorem lim5 (w : World) :
    Calls Try.prog 13 #[.int .i64 5] w fun e w' => e = .returned (.bool true) ∧ Below w.heap.size w w' := by
  have hmk : ∀ W : World, (Instr.makeSlice 33 (.int .i64 157) (.int .i64 157)).run Try.prog W = .ok (.slice (some ⟨W.heap.size, 0, none⟩) 157 157) (W.alloc (.cells (madeCells #[.int .u8 0] 157) 5)) := print_make (P := Try.prog) 33 5 .u8 1 Try.underlying33 info5 (by decide) 157 (by decide)
  have hsz : Small (List.replicate 157 0) := small_mem (fun x hx => by rw [List.eq_of_mem_replicate hx]; decide)
  have HE := Lib.hid (show putE 5 (List.replicate 157 0) = 10 by unfold putE; rw [if_pos (by decide), if_neg (by simp)])
  go_enter Try.func13, Try.ntmps13
  go_wp2_with fail
  refine (live10 _).mono ?_
  rintro e w1 ⟨rfl, hb⟩
  have HB1 := Lib.hid hb
  clear hb
  go_wp2_with fail
  clear hmk
  have hb2 := HB1.out.trans (((below_alloc1 w1 (.cells #[.int .i64 0, .int .i64 1, .int .i64 2147483647, .int .i64 2147483648, .int .i64 5, .int .i64 5] 3)).alloc (by simp) (.cells #[.int .i64 0, .int .i64 0, .int .i64 0, .int .i64 0, .int .i64 156, .int .i64 157] 3)).mono HB1.out.size)
  have hs2 : ((w1.alloc (.cells #[.int .i64 0, .int .i64 1, .int .i64 2147483647, .int .i64 2147483648, .int .i64 5, .int .i64 5] 3)).alloc (.cells #[.int .i64 0, .int .i64 0, .int .i64 0, .int .i64 0, .int .i64 156, .int .i64 157] 3)).heap.size = w1.heap.size + 1 + 1 := by simp
  generalize ((w1.alloc (.cells #[.int .i64 0, .int .i64 1, .int .i64 2147483647, .int .i64 2147483648, .int .i64 5, .int .i64 5] 3)).alloc (.cells #[.int .i64 0, .int .i64 0, .int .i64 0, .int .i64 0, .int .i64 156, .int .i64 157] 3)) = w2 at *
  have ho := own_made w2 0 5 .u8 157 (Nat.zero_le _) (by omega)
  rw [hs2] at ho
  obtain ⟨A0, c0, hv0, hr0⟩ := own_reads ho
  injection hv0 with e1 e2 e3
  subst e1
  have HR2 := Lib.hid hr0
  have HB2 := Lib.hid (hb2.alloc hb2.size (.cells (madeCells #[.int .u8 0] 157) 5))
  clear hb2 hs2 ho hr0 HB1 e3
  generalize (w2.alloc (.cells (madeCells #[.int .u8 0] 157) 5)) = w3 at *
  refine (put_calls 5 _ 157 157 (List.replicate 157 0) _ HR2.out hsz).mono ?_
  rintro e w4 ⟨v4, rfl, hg⟩
  rw [HE.out]
  obtain ⟨hp1, -⟩ := put_no (n := 5) (b := List.replicate 157 0) (by rintro ⟨h1, h2⟩; revert h1 h2; simp [mayC])
  rw [hp1] at hg
  have ho := hg.1
  obtain ⟨A4, c4, rfl, hr4⟩ := own_reads ho
  have hgc := getC_nil
  have HR4 := Lib.hid hr4
  have HB4 := Lib.hid (HB2.out.trans (hg.2.mono HB2.out.size))
  have HGC := Lib.hid hgc
  clear hg ho hr4 HR2 HB2 hgc hp1
  go_wp2_with fail
  go_region_with ((with_reducible refine (num10 10 _).mono ?_)
                  rintro e w' ⟨rfl, rfl⟩)
  all_goals
    go_wp2_with fail
    have hbl := (below_alloc1 w4 (.cells #[.int .i64 1, .int .i64 0, .int .i64 0, .int .i64 1, .int .i64 0, .int .i64 10] 3)).drew
    refine (get_calls A4 0 c4 _ _ (HR4.out.below hbl) small_nil (by omega)).mono ?_
    rw [HGC.out]
    rintro e w5 ⟨v5, rfl, hg⟩
    obtain ⟨A5, c5, rfl, -⟩ := hg.reads
    have HB5 := Lib.hid (HB4.out.trans ((hbl.trans (hg.2.mono hbl.size)).mono HB4.out.size))
    clear hg hbl
    go_wp2_with fail
    refine (num10 10 _).mono ?_
    rintro e w' ⟨rfl, rfl⟩
    go_wp2_with fail
    go_ret
    exact ⟨rfl, HB5.out⟩

theorem lim_walk (n : Int) (w : World) :
    Calls Try.prog 13 #[.int .i64 n] w fun e w' => e = .returned (.bool true) ∧ Below w.heap.size w w' := by
  by_cases h : n < 0 ∨ 5 < n
  · exact lim_out n w h
  · have h6 : n = 0 ∨ n = 1 ∨ n = 2 ∨ n = 3 ∨ n = 4 ∨ n = 5 := by omega
    rcases h6 with rfl | rfl | rfl | rfl | rfl | rfl
    · exact lim0 w
    · exact lim1 w
    · exact lim2 w
    · exact lim3 w
    · exact lim4 w
    · exact lim5 w
end Go.Proofs.Ytgcdankgckgibaa.Cell
