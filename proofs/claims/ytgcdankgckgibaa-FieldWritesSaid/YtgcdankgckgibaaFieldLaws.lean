/- Walks: alive of chapter 9, FieldBack. -/
import Derived.Test.YtgcdankgckgibaaFieldGets
import Derived.Test.YtgcdankgckgibaaFieldRaw
namespace Go.Proofs.Ytgcdankgckgibaa.Field
open Go.RowKit Go.Proofs.YtgcdankgckgibaaW.PrintWords Go.Proofs.YtgcdankgckgibaaW.PrintLast Go.Proofs.Ytgcdankgckgibaa.Kit

theorem Wr.new (W : World) (T : TypeId) : Wr (W.alloc (.cells #[.slice none 0 0] T)) T W.heap.size W.heap.size (.slice none 0 0) [] := ⟨Nat.le_refl _, heap_alloc_new _ _, own_nil _ _ _ _⟩
theorem below_alloc1 (W : World) (o : Obj) : Below W.heap.size W (W.alloc o) := (Below.refl _ _).alloc (Nat.le_refl _) _

theorem clip28 : clip 2 8 = 2 := by decide
theorem num258 : numL 258 2 = [1, 2] := by decide
theorem got258 : numOf (got [1, 2] false 2) = 258 := by rw [numOf_small (small_mem (by decide)) (by decide)]; decide

set_option maxHeartbeats 1000000 in
theorem live9 (w : World) : Calls Try.prog 20 #[] w fun e w' => e = .returned (.bool true) ∧ Below w.heap.size w w' := by
  go_enter Try.func20, Try.ntmps20
  go_wp2_with fail
  have HW := Lib.hid (Wr.new w 42)
  have HB := Lib.hid (below_alloc1 w (.cells #[.slice none 0 0] 42))
  refine (bytes_put _ _ _ _ _ HW.out (by simp)).mono ?_
  rintro e w1 ⟨v1, rfl, hg⟩
  obtain ⟨A1, c1, rfl, -⟩ := hg.reads
  have HW1 := Lib.hid (HW.out.below hg.2)
  have HB1 := Lib.hid (HB.out.trans (hg.2.mono HB.out.size))
  clear hg HW HB
  go_wp2_with fail
  refine (num_put w.heap.size _ _ _ 258 2 _ HW1.out (by simp) HB1.out.size).mono ?_
  rintro e w2 ⟨rfl, v2, hw2, hn2, hf2⟩
  have HB2 := Lib.hid (HB1.out.trans (HW1.out.to_below hf2 HB1.out.size))
  rw [clip28, num258] at hw2
  have HW2 := Lib.hid hw2
  clear hw2 hn2 hf2 HW1 HB1
  go_wp2_with fail
  refine (bytes_put _ _ _ _ _ HW2.out (by simp)).mono ?_
  rintro e w3 ⟨v3, rfl, hg⟩
  obtain ⟨A3, c3, rfl, hr3⟩ := hg.reads
  have HB3 := Lib.hid (HB2.out.trans (hg.2.mono HB2.out.size))
  have HR3 := Lib.hid hr3
  clear hg HW2 HB2 hr3
  go_wp2_with fail
  refine (new_get _ _ _ _ _ HR3.out (small_mem (by decide)) (by decide)).mono ?_
  rintro e w4 ⟨g, rfl, hg0, hp, hb⟩
  have HB4 := Lib.hid (HB3.out.trans (hb.mono HB3.out.size))
  have HP := Lib.hid hp
  have hg1 : w.heap.size ≤ g := Nat.le_trans HB3.out.size hg0
  clear hp hb HB3 HR3
  go_wp2_with fail
  refine (num_get g g _ _ 2 _ HP.out).mono ?_
  rintro e w5 ⟨rfl, hp, hf⟩
  rw [clip28] at hp ⊢
  simp only [List.nil_append] at hp ⊢
  rw [got258]
  have HB5 := Lib.hid (HB4.out.trans (hf.to_below (fun i hi e => by have e : i = g := e; omega) HB4.out.size))
  have HP5 := Lib.hid hp
  clear hp hf HB4 HP
  go_wp2_with fail
  refine (left_get g g _ _ _ HP5.out).mono ?_
  rintro e w6 ⟨rfl, rfl⟩
  go_wp2_with fail
  go_ret
  exact ⟨rfl, HB5.out⟩

theorem pow_wrap (k : Nat) (h2 : k ≤ 7) : wrap64 (2 ^ (8 * k)) = 256 ^ k := by
  rcases (by omega : k = 0 ∨ k = 1 ∨ k = 2 ∨ k = 3 ∨ k = 4 ∨ k = 5 ∨ k = 6 ∨ k = 7) with rfl | rfl | rfl | rfl | rfl | rfl | rfl | rfl <;> (unfold wrap64; decide)
theorem num_back (n : Int) (k : Nat) (hw : -9223372036854775808 ≤ n ∧ n ≤ 9223372036854775807) (h : k = 8 ∨ (k ≤ 7 ∧ 0 ≤ n ∧ n < 256 ^ k)) : numOf (numL n k) = n := by
  rcases h with rfl | ⟨h7, h0, h1⟩
  · unfold numOf
    rw [val_numL]
    have : (256 : Int) ^ 8 = 18446744073709551616 := by decide
    unfold wrap64
    omega
  · rw [numOf_small (numL_small n k) (by rw [numL_length]; exact h7), val_back h0 h1]
theorem got_front (a b : List Int) : takeOk (a ++ b) false a.length = true ∧ got (a ++ b) false a.length = a ∧ rest (a ++ b) false a.length = b := by
  have h : takeOk (a ++ b) false a.length = true := by unfold takeOk; simp
  refine ⟨h, ?_, ?_⟩
  · unfold got; rw [h]; simp
  · unfold rest; rw [h]; simp
theorem raw_ab : rawL [97, 98] 4 = [97, 98, 0, 0] := by decide
theorem str_ab : strOfNums [97, 98, 0, 0] = ⟨#[97, 98, 0, 0]⟩ := by decide
theorem clip_4 : clip 4 1000 = 4 := by decide
theorem num_none : numOf (got [] false 1) = 0 := by rw [show got [] false 1 = [] from rfl, numOf_small small_nil (by decide)]; rfl
theorem clip_1 : clip 1 8 = 1 := by decide

theorem back_out (n size : Int) (w : World) (h : size < 1 ∨ 8 < size ∨ (n < 0 ∧ size < 8)) :
    Calls Try.prog 10 #[.int .i64 n, .int .i64 size] w fun e w' => e = .returned (.bool true) ∧ Below w.heap.size w w' := by
  rcases h with h | h | ⟨h, h'⟩
  all_goals
    go_enter Try.func10, Try.ntmps10
    go_wp2_with fail
    refine (live9 _).mono ?_
    rintro e w1 ⟨rfl, hb⟩
    go_wp2_with fail
    all_goals first
      | (exfalso; omega)
      | (go_ret; exact ⟨rfl, hb⟩)
theorem back_more (n : Int) (k : Nat) (w : World) (h1 : 1 ≤ k) (h2 : k ≤ 7) (h0 : 0 ≤ n) (h : wrap64 (2 ^ (8 * k)) ≤ n) :
    Calls Try.prog 10 #[.int .i64 n, .int .i64 k] w fun e w' => e = .returned (.bool true) ∧ Below w.heap.size w w' := by
  have hm8 : IntKind.i64.wrap (8 * (k : Int)) = 8 * (k : Int) := IntWalk.i64_in _ (by omega)
  have hmu : IntKind.u64.wrap (8 * (k : Int)) = 8 * (k : Int) := by rw [IntKind.wrap_u64]; omega
  go_enter Try.func10, Try.ntmps10
  go_wp2_with fail
  refine (live9 _).mono ?_
  rintro e w1 ⟨rfl, hb⟩
  go_wp2_with fail
  all_goals first
    | (exfalso; omega)
    | (go_ret; exact ⟨rfl, hb⟩)

set_option maxHeartbeats 2000000 in
theorem back_in (n : Int) (k : Nat) (w : World) (h1 : 1 ≤ k) (hw : -9223372036854775808 ≤ n ∧ n ≤ 9223372036854775807) (h : k = 8 ∨ (k ≤ 7 ∧ 0 ≤ n ∧ n < 256 ^ k)) :
    Calls Try.prog 10 #[.int .i64 n, .int .i64 k] w fun e w' => e = .returned (.bool true) ∧ Below w.heap.size w w' := by
  have hnb := num_back n k hw h
  have HNB := Lib.hid hnb
  have hk8 : k ≤ 8 := by omega
  have hck : clip (k : Int) 8 = k := by rw [clip_in (by omega) (by omega)]; omega
  have HCK := Lib.hid hck
  obtain ⟨hg1, hg2, hg3⟩ := got_front (numL n k) [97, 98, 0, 0]
  rw [numL_length] at hg1 hg2 hg3
  have hlen : (numL n k ++ [97, 98, 0, 0]).length = k + 4 := by simp [numL_length]
  have hsm : Small (numL n k ++ [97, 98, 0, 0]) := small_append (numL_small n k) (small_mem (by decide))
  have HG1 := Lib.hid hg1
  have HG2 := Lib.hid hg2
  have HG3 := Lib.hid hg3
  have HSM := Lib.hid hsm
  have HLEN := Lib.hid hlen
  have hnl := numL_length n k
  have HNL := Lib.hid hnl
  clear hnb hck hg1 hg2 hg3 hlen hsm hnl
  obtain ⟨wl, hl0⟩ : ∃ wl, wl = wrap64 (2 ^ (8 * k)) := ⟨_, rfl⟩
  have hgd : (8 ≤ k ∧ n < 0) ∨ (8 ≤ k ∧ 0 ≤ n) ∨ (k < 8 ∧ 0 ≤ n ∧ n < wl) := by
    rcases h with h | ⟨h7, h8, h9⟩
    · by_cases hn0 : n < 0
      · exact .inl ⟨by omega, hn0⟩
      · exact .inr (.inl ⟨by omega, by omega⟩)
    · exact .inr (.inr ⟨by omega, h8, by rw [hl0, pow_wrap k h7]; exact h9⟩)
  rw [hl0] at hgd
  clear hl0 wl h
  have hm8 : IntKind.i64.wrap (8 * (k : Int)) = 8 * (k : Int) := IntWalk.i64_in _ (by omega)
  have hmu : IntKind.u64.wrap (8 * (k : Int)) = 8 * (k : Int) := by rw [IntKind.wrap_u64]; omega
  rcases hgd with ⟨hgd, hgd2⟩ | ⟨hgd, hgd2⟩ | ⟨hgd, hgd2, hgd3⟩
  all_goals
    go_enter Try.func10, Try.ntmps10
    go_wp2_with fail
    refine (live9 _).mono ?_
    rintro e w1 ⟨rfl, hb⟩
    have HB0 := Lib.hid hb
    clear hb
    go_wp2_with fail
    try clear hm8 hmu hgd3
    have HW := Lib.hid (Wr.new w1 42)
    have HB := Lib.hid (HB0.out.trans ((below_alloc1 w1 (.cells #[.slice none 0 0] 42)).mono HB0.out.size))
    refine (num_put w1.heap.size _ _ _ n k _ HW.out (by simp) (by simp)).mono ?_
    rintro e w2 ⟨rfl, v2, hw2, hn2, hf2⟩
    rw [HCK.out, List.nil_append] at hw2
    have HB2 := Lib.hid (HB.out.trans ((HW.out.to_below hf2 (by simp)).mono HB0.out.size))
    have hs2 : w1.heap.size ≤ w2.heap.size := by have := hf2.size; simp at this; omega
    have HW2 := Lib.hid hw2
    clear hw2 hn2 hf2 HW HB
    have kc := fun (C : Array Value) (n c : Nat) => Lib.run_convert_bytes_const (P := Try.prog) w2 33 5 C n c Try.underlying33 Try.underlying5
    go_wp2_with fail
    clear kc
    have HW2' := Lib.hid (HW2.out.below (below_alloc1 w2 (.cells #[.int .u8 97, .int .u8 98] 5 (2, 3))))
    refine (raw_put w1.heap.size _ _ _ _ _ _ [97, 98] 4 _ HW2'.out (by have := HNL.out; omega) (by simp; omega) (reads_mark w2 5 (2, 3) [97, 98] (by simp))).mono ?_
    rintro e w3 ⟨rfl, v3, hw3, hn3, hf3⟩
    rw [clip_4, raw_ab] at hw3
    have HB3 := Lib.hid (HB2.out.trans (((below_alloc1 w2 _).mono (Nat.le_trans HB0.out.size hs2)).trans ((HW2'.out.to_below hf3 (by simp; omega)).mono HB0.out.size)))
    have HW3 := Lib.hid hw3
    clear hw3 hn3 hf3 HW2' HW2 HB2
    go_wp2_with fail
    refine (bytes_put _ _ _ _ _ HW3.out (by have := HLEN.out; omega)).mono ?_
    rintro e w4 ⟨v4, rfl, hg⟩
    have ho4 := hg.1
    rw [HLEN.out] at ho4
    obtain ⟨A4, c4, rfl, hr4⟩ := own_reads ho4
    have HB4 := Lib.hid (HB3.out.trans (hg.2.mono HB3.out.size))
    have HR4 := Lib.hid hr4
    clear hg HW3 HB3 hr4 ho4
    go_wp2_with fail
    refine (new_get _ _ _ _ _ HR4.out HSM.out (by omega)).mono ?_
    rintro e w5 ⟨g, rfl, hg0, hp, hb⟩
    have HB5 := Lib.hid (HB4.out.trans (hb.mono HB4.out.size))
    have hg1 : w.heap.size ≤ g := Nat.le_trans HB4.out.size hg0
    have HP5 := Lib.hid hp
    clear hp hb HB4 HR4
    go_wp2_with fail
    refine (num_get g g _ _ k _ HP5.out).mono ?_
    rintro e w6 ⟨rfl, hp, hf⟩
    rw [HCK.out, HG1.out, HG3.out] at hp
    rw [HCK.out, HG2.out, HNB.out]
    have HB6 := Lib.hid (HB5.out.trans (hf.to_below (fun i hi e => by have e : i = g := e; omega) HB5.out.size))
    have HP6 := Lib.hid hp
    clear hp hf HB5 HP5
    go_wp2_with fail
    refine (raw_get g g _ _ 4 _ HP6.out).mono ?_
    rintro e w7 ⟨v7, rfl, ho, hp, hf⟩
    rw [clip_4] at ho hp
    have HB7 := Lib.hid (HB6.out.trans (hf.to_below (fun i hi e => by have e : i = g := e; omega) HB6.out.size))
    have HP7 : Hid (Rp w7 g g [] false) := Lib.hid hp
    have ho : w7.ownsRow w6.heap.size 5 1 v7 4 (nums .u8 [97, 98, 0, 0]) := ho
    obtain ⟨A7, c7, rfl, hr7⟩ := own_reads ho
    have kc7 := conv_reads c7 hr7
    rw [str_ab] at kc7
    clear hp hf HB6 HP6 ho hr7
    go_wp2_with fail
    refine (left_get g g _ _ _ HP7.out).mono ?_
    rintro e w8 ⟨rfl, rfl⟩
    go_wp2_with fail
    refine (bad_get g g _ _ _ HP7.out).mono ?_
    rintro e w8 ⟨rfl, rfl⟩
    go_wp2_with fail
    refine (num_get g g _ _ 1 _ HP7.out).mono ?_
    rintro e w9 ⟨rfl, hp, hf⟩
    rw [clip_1] at hp ⊢
    have HB9 := Lib.hid (HB7.out.trans (hf.to_below (fun i hi e => by have e : i = g := e; omega) HB7.out.size))
    have HP9 : Hid (Rp w9 g g [] true) := Lib.hid hp
    rw [num_none]
    clear hp hf HB7 HP7
    go_wp2_with fail
    refine (bad_get g g _ _ _ HP9.out).mono ?_
    rintro e w10 ⟨rfl, rfl⟩
    go_wp2_with fail
    go_ret
    exact ⟨by first | rfl | (simp; done) | (simp; omega), HB9.out⟩

theorem back_law (n size : Int) (w : World) (hw : -9223372036854775808 ≤ n ∧ n ≤ 9223372036854775807) :
    Calls Try.prog 10 #[.int .i64 n, .int .i64 size] w fun e w' => e = .returned (.bool true) ∧ Below w.heap.size w w' := by
  by_cases ho : size < 1 ∨ 8 < size ∨ (n < 0 ∧ size < 8)
  · exact back_out n size w ho
  · obtain ⟨k, rfl⟩ := Int.eq_ofNat_of_zero_le (show 0 ≤ size by omega)
    by_cases h8 : k = 8
    · exact back_in n k w (by omega) hw (.inl h8)
    · by_cases hm : n < 256 ^ k
      · exact back_in n k w (by omega) hw (.inr ⟨by omega, by omega, hm⟩)
      · exact back_more n k w (by omega) (by omega) (by omega) (by rw [pow_wrap k (by omega)]; omega)
end Go.Proofs.Ytgcdankgckgibaa.Field
