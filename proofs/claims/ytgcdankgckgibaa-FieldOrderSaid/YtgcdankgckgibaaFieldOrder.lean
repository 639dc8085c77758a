/- Walk: FieldOrder. -/
import Derived.Test.YtgcdankgckgibaaFieldLaws
import Derived.WalkLawsBesides
import Derived.Deep.RegionWith
namespace Go.Proofs.Ytgcdankgckgibaa.Field
open Go.RowKit Go.Proofs.YtgcdankgckgibaaW.PrintWords Go.Proofs.YtgcdankgckgibaaW.PrintLast Go.Proofs.Ytgcdankgckgibaa.Kit

theorem u8_lt (x y : Int) (hx : 0 ≤ x ∧ x ≤ 255) (hy : 0 ≤ y ∧ y ≤ 255) : (UInt8.ofNat x.toNat < UInt8.ofNat y.toNat ↔ x < y) ∧ (UInt8.ofNat x.toNat = UInt8.ofNat y.toNat ↔ x = y) := by
  constructor
  · rw [UInt8.lt_iff_toNat_lt]; simp; omega
  · constructor
    · intro e
      have := congrArg UInt8.toNat e
      simp at this
      omega
    · rintro rfl; rfl
theorem less_val : ∀ (xs ys : List Int), xs.length = ys.length → Small xs → Small ys → Op.bytesLess (xs.map fun x => UInt8.ofNat x.toNat) (ys.map fun x => UInt8.ofNat x.toNat) = decide (val xs < val ys)
  | [], [], _, _, _ => by simp [Op.bytesLess]
  | [], _ :: _, h, _, _ => by simp at h
  | _ :: _, [], h, _, _ => by simp at h
  | x :: xs, y :: ys, h, hx, hy => by
    have hx1 := mem_small hx x (by simp)
    have hy1 := mem_small hy y (by simp)
    have hxs : Small xs := small_mem fun z hz => mem_small hx z (by simp [hz])
    have hys : Small ys := small_mem fun z hz => mem_small hy z (by simp [hz])
    have hl : xs.length = ys.length := by simpa using h
    have ih := less_val xs ys hl hxs hys
    obtain ⟨h1, h2⟩ := u8_lt x y hx1 hy1
    obtain ⟨vx0, vx1⟩ := val_range hxs
    obtain ⟨vy0, vy1⟩ := val_range hys
    rw [val_cons, val_cons, List.map_cons, List.map_cons, Op.bytesLess, ih, hl]
    rw [hl] at vx1
    have hp : (0 : Int) < 256 ^ ys.length := Int.pow_pos (by omega)
    generalize (256 : Int) ^ ys.length = p at *
    rcases (by omega : x < y ∨ x = y ∨ y < x) with h3 | rfl | h3
    · have e1 : decide (UInt8.ofNat x.toNat < UInt8.ofNat y.toNat) = true := by simpa using h1.2 h3
      have : (x + 1) * p ≤ y * p := Int.mul_le_mul_of_nonneg_right (by omega) (Int.le_of_lt hp)
      rw [Int.add_mul] at this
      rw [e1, Bool.true_or]
      exact (decide_eq_true (by omega)).symm
    · have e1 : decide (UInt8.ofNat x.toNat < UInt8.ofNat x.toNat) = false := by simp
      rw [e1, Bool.false_or]
      simp
    · have e1 : decide (UInt8.ofNat x.toNat < UInt8.ofNat y.toNat) = false := by
        rw [decide_eq_false_iff_not, h1]; omega
      have e2 : (UInt8.ofNat x.toNat == UInt8.ofNat y.toNat) = false := by
        rw [beq_eq_false_iff_ne, Ne, h2]; omega
      have : (y + 1) * p ≤ x * p := Int.mul_le_mul_of_nonneg_right (by omega) (Int.le_of_lt hp)
      rw [Int.add_mul] at this
      rw [e1, e2, Bool.false_and, Bool.false_or]
      exact (decide_eq_false (by omega)).symm
theorem less_num (a b : Int) (k : Nat) (ha0 : 0 ≤ a) (ha : a < 256 ^ k) (hb0 : 0 ≤ b) (hb : b < 256 ^ k) :
    Op.bytesLess (strOfNums (numL a k)).toList (strOfNums (numL b k)).toList = decide (a < b) := by
  rw [ByteArray.toList_eq, ByteArray.toList_eq, strOfNums_data, strOfNums_data, less_val _ _ (by simp [numL_length]) (numL_small _ _) (numL_small _ _), val_back ha0 ha, val_back hb0 hb]

theorem order_out (a b size : Int) (w : World) (h : size < 1 ∨ 7 < size ∨ a < 0 ∨ b < 0) :
    Calls Try.prog 6 #[.int .i64 a, .int .i64 b, .int .i64 size] w fun e w' => e = .returned (.bool true) ∧ Below w.heap.size w w' := by
  rcases h with h | h | h | h
  all_goals
    go_enter Try.func6, Try.ntmps6
    go_wp2_with fail
    refine (live9 _).mono ?_
    rintro e w1 ⟨rfl, hb⟩
    go_wp2_with fail
    all_goals first
      | (exfalso; omega)
      | (go_ret; exact ⟨rfl, hb⟩)
theorem order_more (a b : Int) (k : Nat) (w : World) (h1 : 1 ≤ k) (h2 : k ≤ 7) (ha : 0 ≤ a) (hb : 0 ≤ b) (h : wrap64 (2 ^ (8 * k)) ≤ a ∨ (a < wrap64 (2 ^ (8 * k)) ∧ wrap64 (2 ^ (8 * k)) ≤ b)) :
    Calls Try.prog 6 #[.int .i64 a, .int .i64 b, .int .i64 k] w fun e w' => e = .returned (.bool true) ∧ Below w.heap.size w w' := by
  have hm8 : IntKind.i64.wrap (8 * (k : Int)) = 8 * (k : Int) := IntWalk.i64_in _ (by omega)
  have hmu : IntKind.u64.wrap (8 * (k : Int)) = 8 * (k : Int) := by rw [IntKind.wrap_u64]; omega
  rcases h with h | ⟨h, h'⟩
  all_goals
    go_enter Try.func6, Try.ntmps6
    go_wp2_with fail
    refine (live9 _).mono ?_
    rintro e w1 ⟨rfl, hb⟩
    go_wp2_with fail
    all_goals first
      | (exfalso; omega)
      | (go_ret; exact ⟨rfl, hb⟩)

set_option maxHeartbeats 2000000 in
theorem order_in (a b : Int) (k : Nat) (w : World) (h1 : 1 ≤ k) (h2 : k ≤ 7) (ha : 0 ≤ a) (hb : 0 ≤ b) (ha1 : a < 256 ^ k) (hb1 : b < 256 ^ k) :
    Calls Try.prog 6 #[.int .i64 a, .int .i64 b, .int .i64 k] w fun e w' => e = .returned (.bool true) ∧ Below w.heap.size w w' := by
  have hless := less_num a b k ha ha1 hb hb1
  have HLS := Lib.hid hless
  have hck : clip (k : Int) 8 = k := by rw [clip_in (by omega) (by omega)]; omega
  have HCK := Lib.hid hck
  have hla := numL_length a k
  have hlb := numL_length b k
  have HLA := Lib.hid hla
  have HLB := Lib.hid hlb
  rw [← pow_wrap k h2] at ha1 hb1
  clear hless hck hla hlb
  have hm8 : IntKind.i64.wrap (8 * (k : Int)) = 8 * (k : Int) := IntWalk.i64_in _ (by omega)
  have hmu : IntKind.u64.wrap (8 * (k : Int)) = 8 * (k : Int) := by rw [IntKind.wrap_u64]; omega
  go_enter Try.func6, Try.ntmps6
  go_wp2_with fail
  refine (live9 _).mono ?_
  rintro e w1 ⟨rfl, hb0⟩
  have HB0 := Lib.hid hb0
  clear hb0
  go_wp2_with fail
  clear hm8 hmu ha1 hb1
  have HV := Lib.hid ((Wr.new w1 42).below (below_alloc1 _ (.cells #[.slice none 0 0] 42)))
  have hw0 := Wr.new (w1.alloc (.cells #[.slice none 0 0] 42)) 42
  have hw0 : Wr ((w1.alloc (.cells #[.slice none 0 0] 42)).alloc (.cells #[.slice none 0 0] 42)) 42 w1.heap.size (w1.heap.size + 1) (.slice none 0 0) [] :=
    ⟨by omega, by have := hw0.cell; simpa using this, own_nil _ _ _ _⟩
  have HW := Lib.hid hw0
  have HB1 := Lib.hid (HB0.out.trans (((below_alloc1 w1 (.cells #[.slice none 0 0] 42)).alloc (by simp) (.cells #[.slice none 0 0] 42)).mono HB0.out.size))
  clear hw0
  refine (num_put w1.heap.size _ _ _ a k _ HV.out (by simp) (by simp; omega)).mono ?_
  rintro e w2 ⟨rfl, v2, hv2, hn2, hf2⟩
  rw [HCK.out, List.nil_append] at hv2
  have hs2 : w1.heap.size + 2 ≤ w2.heap.size := by have := hf2.size; simp at this; omega
  have HB2 := Lib.hid (HB1.out.trans ((HV.out.to_below hf2 (by simp; omega)).mono HB0.out.size))
  have HW2 := Lib.hid (HW.out.keep hf2 (by unfold wF; simp [Value.ownBlock]) (by simp [Value.ownBlock]))
  have HV2 := Lib.hid hv2
  have hvn : ∀ r, v2.ownBlock = some r → w1.heap.size + 2 ≤ r := by
    intro r hr
    rcases hn2 with e | ⟨b, e, hb⟩
    · rw [e] at hr; simp [Value.ownBlock] at hr
    · rw [e] at hr; injection hr with hr; simp at hb; omega
  have HVN := Lib.hid hvn
  clear hv2 hn2 hf2 HV HW HB1 hvn
  go_wp2_with fail
  refine (num_put w1.heap.size _ _ _ b k _ HW2.out (by simp) (by omega)).mono ?_
  rintro e w3 ⟨rfl, v3, hw3, hn3, hf3⟩
  rw [HCK.out, List.nil_append] at hw3
  have hs3 : w1.heap.size + 2 ≤ w3.heap.size := Nat.le_trans hs2 hf3.size
  have HB3 := Lib.hid (HB2.out.trans ((HW2.out.to_below hf3 (by omega)).mono HB0.out.size))
  have HV3 := Lib.hid (HV2.out.keep hf3 (by unfold wF; simp [Value.ownBlock]) (fun r hr => by have := HVN.out r hr; unfold wF; simp [Value.ownBlock]; omega))
  have HW3 := Lib.hid hw3
  clear hw3 hn3 hf3 HV2 HW2 HB2
  go_wp2_with fail
  go_region_with (first
    | ((with_reducible refine (bytes_put w1.heap.size w1.heap.size v2 (numL a k) _ (by exact HV3.out.drew) (by rw [HLA.out]; omega)).mono ?_)
       rintro e w4 ⟨v4, rfl, hg⟩
       have ho4 := hg.1
       rw [HLA.out] at ho4
       obtain ⟨A4, c4, rfl, hr4⟩ := own_reads ho4
       have kc4 := conv_reads c4 hr4
       have HR4 := Lib.hid hr4
       have HB4 := Lib.hid (HB3.out.drew.trans (hg.2.mono HB3.out.drew.size))
       have HW4 := Lib.hid (HW3.out.drew.below hg.2)
       clear hg ho4 hr4)
    | ((with_reducible refine (bytes_put w1.heap.size (w1.heap.size + 1) v3 (numL b k) _ (by exact HW4.out) (by rw [HLB.out]; omega)).mono ?_)
       rintro e w5 ⟨v5, rfl, hg⟩
       have ho5 := hg.1
       rw [HLB.out] at ho5
       obtain ⟨A5, c5, rfl, hr5⟩ := own_reads ho5
       have kc5 := conv_reads c5 hr5
       have kc45 := conv_reads c4 (HR4.out.below hg.2)
       have HB5 := Lib.hid (HB4.out.trans (hg.2.mono HB4.out.size))
       clear hg ho5 hr5)
    | fail)
  all_goals
    go_wp2_with fail
    go_ret
    exact ⟨by show Ending.returned (.bool (Op.bytesLess (strOfNums (numL a k)).toList (strOfNums (numL b k)).toList == decide (a < b))) = .returned (.bool true); rw [HLS.out, beq_self_eq_true], HB5.out⟩
theorem order_law (a b size : Int) (w : World) :
    Calls Try.prog 6 #[.int .i64 a, .int .i64 b, .int .i64 size] w fun e w' => e = .returned (.bool true) ∧ Below w.heap.size w w' := by
  by_cases ho : size < 1 ∨ 7 < size ∨ a < 0 ∨ b < 0
  · exact order_out a b size w ho
  · obtain ⟨k, rfl⟩ := Int.eq_ofNat_of_zero_le (show 0 ≤ size by omega)
    by_cases ha : a < 256 ^ k
    · by_cases hb : b < 256 ^ k
      · exact order_in a b k w (by omega) (by omega) (by omega) (by omega) ha hb
      · exact order_more a b k w (by omega) (by omega) (by omega) (by omega) (by rw [pow_wrap k (by omega)]; omega)
    · exact order_more a b k w (by omega) (by omega) (by omega) (by omega) (by rw [pow_wrap k (by omega)]; omega)
end Go.Proofs.Ytgcdankgckgibaa.Field
