/- Walk: RequestTorn. -/
import Derived.Test.YtehlcljachkgdaaReqTorn
namespace Go.Proofs.Ytehlcljachkgdaa.Req
open Go.RowKit Go.Proofs.YtehlcljachkgdaaW.PrintWords Go.Proofs.YtehlcljachkgdaaW.PrintLast Go.Proofs.Ytehlcljachkgdaa.Kit Go.Proofs.Ytehlcljachkgdaa.Field

set_option maxHeartbeats 4000000 in
set_option maxRecDepth 100000 in
theorem torn_in (k n : Int) (A : Option Addr) (m c : Nat) (bs : List Int) (x xn xg : Int) (q : Nat) (w : World) (hr : ReadsInt w .u8 A m bs) (hs : Small bs) (hy : right k n m = true) (ha : rightA x xn xg = true) :
    Calls Try.prog 5 #[.agg #[.int .i64 k, .int .i64 n, .slice A m c], .agg #[.int .i64 x, .int .i64 xn, .int .i64 xg], .int .i64 q] w fun e w' => e = .returned (.bool true) ∧ Below w.heap.size w w' := by
  obtain ⟨k0, k1, n0, n1, m1⟩ := right_le hy
  have hc : 0 ≤ x ∧ x ≤ 16 ∧ 0 ≤ xn ∧ xn ≤ 2147483647 ∧ 0 ≤ xg ∧ xg ≤ 2147483647 := by
    have := ha
    simp [rightA, number] at this; omega
  obtain ⟨x0, x1, xn0, xn1, xg0, xg1⟩ := hc
  have hml := hr.1
  have hyb : right k n bs.length = true := by rw [hml]; exact hy
  have hB : reqB k n bs = reqL k n bs := by unfold reqB; rw [if_pos hyb]
  have hAB : ansB x xn xg = ansL x xn xg := by unfold ansB; rw [if_pos ha]
  have hL : (reqL k n bs).length = 7 + m := by rw [reqL_length, hml]
  obtain ⟨j, hj⟩ : ∃ j, j = q % (7 + m) := ⟨_, rfl⟩
  have hj1 : j < 7 + m := by rw [hj]; exact Nat.mod_lt _ (by omega)
  have e7 : ((7 + m : Nat) : Int) = 7 + (m : Int) := by omega
  have hj2 : (q : Int) % (7 + (m : Int)) = (j : Int) := by rw [hj, Int.natCast_emod, e7]
  have hL8 : (reqL k n bs ++ [0]).length = 8 + m := by rw [List.length_append, reqL_length, hml]; simp; omega
  have HL8 := Lib.hid hL8
  clear hL8
  obtain ⟨i, hi⟩ : ∃ i, i = q % 9 := ⟨_, rfl⟩
  have hi1 : i < 9 := by omega
  have hi2 : (q : Int) % 9 = (i : Int) := by omega
  have t1 := torn_take k n bs hs hyb j (by rw [hml]; exact hj1)
  have t2 := torn_more k n bs hs hyb
  have t3 := ans_take x xn xg i hi1
  have t4 := ans_more x xn xg
  have t5 := ans_back ha
  have T1 := Lib.hid t1
  have T2 := Lib.hid t2
  have T3 := Lib.hid t3
  have T4 := Lib.hid t4
  have T5 := Lib.hid t5
  have HBB := Lib.hid hB
  have HAB := Lib.hid hAB
  have HL := Lib.hid hL
  have HY := Lib.hid hy
  have HA := Lib.hid ha
  have hsm := reqL_small (k := k) (n := n) hs
  have HSM := Lib.hid hsm
  clear t1 t2 t3 t4 t5 hB hAB hL hy ha hyb hml hj hi hsm
  go_enter Try.func5, Try.ntmps5
  go_wp2_with fail
  have hh0 := heap_alloc_new w (.cells #[.int .i64 k, .int .i64 n, .slice A m c] 25)
  have hb0 := below_alloc1 w (.cells #[.int .i64 k, .int .i64 n, .slice A m c] 25)
  have hh1 := heap_alloc_new (w.alloc (.cells #[.int .i64 k, .int .i64 n, .slice A m c] 25)) (.cells #[.int .i64 x, .int .i64 xn, .int .i64 xg] 30)
  have hb1 := below_alloc1 (w.alloc (.cells #[.int .i64 k, .int .i64 n, .slice A m c] 25)) (.cells #[.int .i64 x, .int .i64 xn, .int .i64 xg] 30)
  have es : (w.alloc (.cells #[.int .i64 k, .int .i64 n, .slice A m c] 25)).heap.size = w.heap.size + 1 := by simp
  rw [es] at hh1 hb1
  refine (live18 _).mono ?_
  rintro e w1 ⟨rfl, hb2⟩
  have HH0 := Lib.hid ((hb2.block w.heap.size (by simp; omega)).trans ((hb1.block w.heap.size (by omega)).trans hh0))
  have HH1 := Lib.hid ((hb2.block (w.heap.size + 1) (by simp)).trans hh1)
  have HB1 := Lib.hid (hb0.trans ((hb1.mono (by omega)).trans (hb2.mono (by simp; omega))))
  clear hh0 hb0 hh1 hb1 es hb2
  obtain ⟨c0, c1, c2⟩ := cells_of HH0.out
  obtain ⟨d0, d1, d2⟩ := cells_of HH1.out
  go_wp2_with fail
  clear c0 c1 c2 d0 d1 d2
  refine (bytes_calls k n A m c bs _ (hr.below HB1.out)).mono ?_
  rw [HBB.out]
  rintro e w2 ⟨v2, rfl, hg⟩
  have ho := hg.1
  rw [HL.out] at ho
  have hcap := (own_reads ho)
  obtain ⟨X, cx, rfl, hrx⟩ := hcap
  have hcx := own_cap ho
  have HRX := Lib.hid hrx
  have HH0' := Lib.hid ((hg.2.block w.heap.size (heap_lt HH0.out)).trans HH0.out)
  have HH1' := Lib.hid ((hg.2.block (w.heap.size + 1) (heap_lt HH1.out)).trans HH1.out)
  have HB2 := Lib.hid (HB1.out.trans (hg.2.mono HB1.out.size))
  clear hg ho hrx HH0 HH1 HB1
  obtain ⟨d0, d1, d2⟩ := cells_of HH1'.out
  go_wp2_with fail
  clear d0 d1 d2
  refine (answer_calls x xn xg _).mono ?_
  rw [HAB.out]
  rintro e w3 ⟨v3, rfl, hg⟩
  have ho := hg.1
  rw [ansL_length] at ho
  obtain ⟨Y, cy, rfl, hry⟩ := own_reads ho
  have hcy := own_cap ho
  have HRX3 := Lib.hid (HRX.out.below hg.2)
  have HRY := Lib.hid hry
  have HH0 := Lib.hid ((hg.2.block w.heap.size (heap_lt HH0'.out)).trans HH0'.out)
  have HH1 := Lib.hid ((hg.2.block (w.heap.size + 1) (heap_lt HH1'.out)).trans HH1'.out)
  have HB3 := Lib.hid (HB2.out.trans (hg.2.mono HB2.out.size))
  clear hg ho hry HH0' HH1' HB2 HRX
  obtain ⟨c0, c1, c2⟩ := cells_of HH0.out
  have hne1 : (((7 + m : Nat) : Int) != 7 + (m : Int)) = false := by rw [e7]; simp
  go_wp2_with fail
  clear c0 c1 c2
  refine (read_calls X j cx _ _ (HRX3.out.take_ j (by omega)) (small_take HSM.out j) (by omega)).mono ?_
  rw [T1.out]
  rintro e w4 ⟨rfl, hb⟩
  have HB4 := Lib.hid (HB3.out.trans (hb.mono HB3.out.size))
  have HRX4 := Lib.hid (HRX3.out.below hb)
  have HRY4 := Lib.hid (HRY.out.below hb)
  have HH14 := Lib.hid ((hb.block (w.heap.size + 1) (heap_lt HH1.out)).trans HH1.out)
  clear hb HB3 HRX3 HRY HH1 HH0
  obtain ⟨o4, ho4⟩ : ∃ o4, o4 = Obj.cells #[.int .i64 0, .int .i64 0, .slice none 0 0] 25 (0, 0) := ⟨_, rfl⟩
  have hb5 := below_alloc1 w4 o4
  have HB5 := Lib.hid (HB4.out.trans (hb5.mono HB4.out.size))
  have HRX5 := Lib.hid (HRX4.out.below hb5)
  have HRY5 := Lib.hid (HRY4.out.below hb5)
  have HH15 := Lib.hid ((hb5.block (w.heap.size + 1) (heap_lt HH14.out)).trans HH14.out)
  rw [ho4] at HB5 HRX5 HRY5 HH15
  clear hb5 ho4 o4 HB4 HRX4 HRY4 HH14
  have hW5 : w4.heap.size + 1 ≤ (w4.alloc (.cells #[.int .i64 0, .int .i64 0, .slice none 0 0] 25)).heap.size := by simp
  go_wp2_with (first
    | (at_builtin
       refine print_append_row (o := ⟨some 112, _, _, _, _, _⟩) (w0 := w4.alloc (.cells #[.int .i64 0, .int .i64 0, .slice none 0 0] 25)) (w4.heap.size + 1) rfl (.const (.slice none 0 0)) (.tmp 111) 23 5 .u8 1 rfl Try.underlying23 info5 (by decide) _ [] (reqL k n bs) X (7 + m) cx rfl rfl (own_nil _ _ _ _) HRX5.out (Below.refl _ _) hW5 (by simp; omega) ?_
       intro v6 w6 own6 hb6 hg6 hat6
       rw [List.nil_append] at own6
       have HO6 := Lib.hid own6
       have HB6 := Lib.hid hb6
       clear own6 hb6 hg6 hat6)
    | (at_builtin
       refine print_append_row (o := ⟨some 114, _, _, _, _, _⟩) (w0 := w4.alloc (.cells #[.int .i64 0, .int .i64 0, .slice none 0 0] 25)) (w4.heap.size + 1) rfl (.tmp 112) (.tmp 113) 23 5 .u8 1 rfl Try.underlying23 info5 (by decide) _ (reqL k n bs) [0] (some ⟨_, 0, none⟩) 1 1 rfl rfl (HO6.out.alloc _) (reads_mark _ 5 (0, 0) [0] (by simp)) (HB6.out.alloc (by have := HB6.out.size; omega) _) (by simp; have := HB6.out.size; omega) (by rw [HL.out]; omega) ?_
       intro v7 w7 own7 hb7 hg7 hat7
       rw [HL8.out] at own7
       obtain ⟨A7, c7, rfl, hr7⟩ := own_reads own7
       have HR7 := Lib.hid hr7
       have HB7 := Lib.hid hb7
       clear own7 hb7 hg7 hat7 hr7)
    | fail)
  have hb7 : Below (w4.alloc (.cells #[.int .i64 0, .int .i64 0, .slice none 0 0] 25)).heap.size (w4.alloc (.cells #[.int .i64 0, .int .i64 0, .slice none 0 0] 25)) w7 := by
    have e : (w4.alloc (.cells #[.int .i64 0, .int .i64 0, .slice none 0 0] 25)).heap.size = w4.heap.size + 1 := by simp
    rw [e]; exact HB7.out
  have HBW7 := Lib.hid (HB5.out.trans (hb7.mono HB5.out.size))
  have HRY7 := Lib.hid (HRY5.out.below hb7)
  have HH17 := Lib.hid ((hb7.block (w.heap.size + 1) (heap_lt HH15.out)).trans HH15.out)
  clear hb7 HB7 HB6 HO6 HB5 HRX5 HRY5 HH15 hW5
  refine (read_calls A7 (8 + m) c7 _ _ HR7.out (small_append HSM.out (small_mem (by decide))) (by omega)).mono ?_
  rw [T2.out]
  rintro e w8 ⟨rfl, hb⟩
  have HB8 := Lib.hid (HBW7.out.trans (hb.mono HBW7.out.size))
  have HRY8 := Lib.hid (HRY7.out.below hb)
  have HH18 := Lib.hid ((hb.block (w.heap.size + 1) (heap_lt HH17.out)).trans HH17.out)
  clear hb HBW7 HRY7 HH17 HR7
  have hb9 := below_alloc1 w8 (.cells #[.int .i64 0, .int .i64 0, .slice none 0 0] 25)
  have HB9 := Lib.hid (HB8.out.trans (hb9.mono HB8.out.size))
  have HRY9 := Lib.hid (HRY8.out.below hb9)
  have HH19 := Lib.hid ((hb9.block (w.heap.size + 1) (heap_lt HH18.out)).trans HH18.out)
  clear hb9 HB8 HRY8 HH18
  go_wp2_with fail
  refine (readA_calls Y i cy _ _ (HRY9.out.take_ i (by omega)) (small_take (ansL_small _ _ _) i) (by omega)).mono ?_
  rw [T3.out]
  rintro e w10 ⟨rfl, hb⟩
  have HB10 := Lib.hid (HB9.out.trans (hb.mono HB9.out.size))
  have HRY10 := Lib.hid (HRY9.out.below hb)
  have HH110 := Lib.hid ((hb.block (w.heap.size + 1) (heap_lt HH19.out)).trans HH19.out)
  clear hb HB9 HRY9 HH19
  have hb11 := below_alloc1 w10 (.cells #[.int .i64 0, .int .i64 0, .int .i64 0] 30)
  have HB11 := Lib.hid (HB10.out.trans (hb11.mono HB10.out.size))
  have HRY11 := Lib.hid (HRY10.out.below hb11)
  have HH111 := Lib.hid ((hb11.block (w.heap.size + 1) (heap_lt HH110.out)).trans HH110.out)
  clear hb11 HB10 HRY10 HH110
  have hW11 : w10.heap.size + 1 ≤ (w10.alloc (.cells #[.int .i64 0, .int .i64 0, .int .i64 0] 30)).heap.size := by simp
  have HL9 : Hid ((ansL x xn xg).length = 9) := Lib.hid (ansL_length _ _ _)
  have HL10 : Hid ((ansL x xn xg ++ [0]).length = 10) := Lib.hid (by rw [List.length_append, ansL_length]; rfl)
  go_wp2_with (first
    | (at_builtin
       refine print_append_row (o := ⟨some 130, _, _, _, _, _⟩) (w0 := w10.alloc (.cells #[.int .i64 0, .int .i64 0, .int .i64 0] 30)) (w10.heap.size + 1) rfl (.const (.slice none 0 0)) (.tmp 129) 23 5 .u8 1 rfl Try.underlying23 info5 (by decide) _ [] (ansL x xn xg) Y 9 cy rfl rfl (own_nil _ _ _ _) HRY11.out (Below.refl _ _) hW11 (by simp) ?_
       intro v12 w12 own6 hb6 hg6 hat6
       rw [List.nil_append] at own6
       have HO6 := Lib.hid own6
       have HB6 := Lib.hid hb6
       clear own6 hb6 hg6 hat6)
    | (at_builtin
       refine print_append_row (o := ⟨some 132, _, _, _, _, _⟩) (w0 := w10.alloc (.cells #[.int .i64 0, .int .i64 0, .int .i64 0] 30)) (w10.heap.size + 1) rfl (.tmp 130) (.tmp 131) 23 5 .u8 1 rfl Try.underlying23 info5 (by decide) _ (ansL x xn xg) [0] (some ⟨_, 0, none⟩) 1 1 rfl rfl (HO6.out.alloc _) (reads_mark _ 5 (0, 0) [0] (by simp)) (HB6.out.alloc (by have := HB6.out.size; omega) _) (by simp; have := HB6.out.size; omega) (by rw [HL9.out]; omega) ?_
       intro v13 w13 own7 hb7 hg7 hat7
       rw [HL10.out] at own7
       obtain ⟨A13, c13, rfl, hr7⟩ := own_reads own7
       have HR13 := Lib.hid hr7
       have HB13 := Lib.hid hb7
       clear own7 hb7 hg7 hat7 hr7)
    | fail)
  have hb13 : Below (w10.alloc (.cells #[.int .i64 0, .int .i64 0, .int .i64 0] 30)).heap.size (w10.alloc (.cells #[.int .i64 0, .int .i64 0, .int .i64 0] 30)) w13 := by
    have e : (w10.alloc (.cells #[.int .i64 0, .int .i64 0, .int .i64 0] 30)).heap.size = w10.heap.size + 1 := by simp
    rw [e]; exact HB13.out
  have HBW13 := Lib.hid (HB11.out.trans (hb13.mono HB11.out.size))
  have HRY13 := Lib.hid (HRY11.out.below hb13)
  have HH113 := Lib.hid ((hb13.block (w.heap.size + 1) (heap_lt HH111.out)).trans HH111.out)
  clear hb13 HB13 HB6 HO6 HB11 HRY11 HH111 hW11
  refine (readA_calls A13 10 c13 _ _ HR13.out (small_append (ansL_small _ _ _) (small_mem (by decide))) (by omega)).mono ?_
  rw [T4.out]
  rintro e w14 ⟨rfl, hb⟩
  have HB14 := Lib.hid (HBW13.out.trans (hb.mono HBW13.out.size))
  have HRY14 := Lib.hid (HRY13.out.below hb)
  have HH114 := Lib.hid ((hb.block (w.heap.size + 1) (heap_lt HH113.out)).trans HH113.out)
  clear hb HBW13 HRY13 HH113 HR13
  have hb15 := below_alloc1 w14 (.cells #[.int .i64 0, .int .i64 0, .int .i64 0] 30)
  have HB15 := Lib.hid (HB14.out.trans (hb15.mono HB14.out.size))
  have HRY15 := Lib.hid (HRY14.out.below hb15)
  have HH115 := Lib.hid ((hb15.block (w.heap.size + 1) (heap_lt HH114.out)).trans HH114.out)
  clear hb15 HB14 HRY14 HH114
  go_wp2_with fail
  refine (readA_calls Y 9 cy _ _ HRY15.out (ansL_small _ _ _) (by omega)).mono ?_
  rw [T5.out]
  rintro e w16 ⟨rfl, hb⟩
  have HB16 := Lib.hid (HB15.out.trans (hb.mono HB15.out.size))
  have HH116 := Lib.hid ((hb.block (w.heap.size + 1) (heap_lt HH115.out)).trans HH115.out)
  clear hb HB15 HRY15 HH115
  obtain ⟨d0, d1, d2⟩ := cells_of HH116.out
  have hlt := heap_lt HH116.out
  have n6 := num18 6
  have n0 := num18 0
  have N6 := Lib.hid n6
  have N0 := Lib.hid n0
  clear n6 n0
  go_wp2_with fail
  refine (N6.out _).mono ?_
  rintro e w' ⟨rfl, rfl⟩
  go_wp2_with fail
  refine (N6.out _).mono ?_
  rintro e w' ⟨rfl, rfl⟩
  go_wp2_with fail
  refine (N6.out _).mono ?_
  rintro e w' ⟨rfl, rfl⟩
  go_wp2_with fail
  refine (N6.out _).mono ?_
  rintro e w' ⟨rfl, rfl⟩
  go_wp2_with fail
  refine (N0.out _).mono ?_
  rintro e w' ⟨rfl, rfl⟩
  go_wp2_with fail
  go_ret
  exact ⟨by first | rfl | (simp; done) | (simp; omega), HB16.out.alloc HB16.out.size _⟩

theorem torn_walk (k n : Int) (A : Option Addr) (m c : Nat) (zs : List Int) (x xn xg q : Int) (w : World) (h : IsBytes w A m c zs) :
    Calls Try.prog 5 #[.agg #[.int .i64 k, .int .i64 n, .slice A m c], .agg #[.int .i64 x, .int .i64 xn, .int .i64 xg], .int .i64 q] w fun e w' => e = .returned (.bool true) ∧ Below w.heap.size w w' := by
  by_cases ho : 1000 < m ∨ k < 1 ∨ 9 < k ∨ n < 0 ∨ 2147483647 < n ∨ x < 0 ∨ 16 < x ∨ xn < 0 ∨ 2147483647 < xn ∨ xg < 0 ∨ 2147483647 < xg ∨ q < 0
  · exact torn_out k n A m c x xn xg q w ho
  · obtain ⟨l, rfl, hr, _, hw, _⟩ := ReadsInt.ofRowC h
    obtain ⟨q, rfl⟩ := Int.eq_ofNat_of_zero_le (show 0 ≤ q by omega)
    exact torn_in k n A _ c l x xn xg q w hr (small_of hw) (by simp [right, number]; omega) (by simp [rightA, number]; omega)
end Go.Proofs.Ytehlcljachkgdaa.Req
