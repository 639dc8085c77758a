/- Walks: crc.More, Sum and the reference's tell the CRC-32 as worked out bit by bit; the four laws of chapter 5 return true. -/
import Derived.Test.YtblljhojelmmeaaCrc
import Derived.Test.YtblljhojelmmeaaWMore
import Derived.Test.YtblljhojelmmeaaProg
import Derived.WalkKit
import Derived.Lib.Hide
import Derived.Laws.BitsAllLaws
import Derived.IntWalk
import Derived.LoopTactic
import Derived.OpenShut
import Derived.Lib.SlBytesConst
namespace Go.Proofs.Ytblljhojelmmeaa.CrcWalk
open Go.RowKit Go.Proofs.YtblljhojelmmeaaW.PrintWords Go.Proofs.YtblljhojelmmeaaW.PrintLast Go.Proofs.Ytblljhojelmmeaa.Crc

def byteOf (x : Int) : BitVec 8 := BitVec.ofInt 8 x
/-- the bytes that the numbers are -/
def bytes (xs : List Int) : List (BitVec 8) := xs.map byteOf
def ones : BitVec 32 := 0xffffffff#32

theorem bit_and (y : BitVec 32) : bits .and .u32 (y.toNat : Int) 1 = if y.getLsbD 0 then 1 else 0 := by
  have h := y.isLt
  rw [show (1 : Int) = ((1 : Nat) : Int) from rfl, u32_and_nat _ _ h (by decide), nat_mask1]
  rw [BitVec.getLsbD, Nat.testBit_zero]
  by_cases h1 : y.toNat % 2 = 1 <;> simp [h1] <;> omega

theorem one_set (y : BitVec 32) (h : y.getLsbD 0 = true) : bits .xor .u32 ((y.toNat : Int) / 2) 3988292384 = ((one y).toNat : Int) := by
  have hl := y.isLt
  have e : (y.toNat : Int) / 2 = ((y.toNat / 2 : Nat) : Int) := by omega
  rw [e, show (3988292384 : Int) = ((3988292384 : Nat) : Int) from rfl, u32_xor_nat _ _ (by omega) (by decide)]
  unfold one
  rw [if_pos h, BitVec.toNat_xor, BitVec.toNat_ushiftRight, Nat.shiftRight_eq_div_pow]
  rfl
theorem one_clear (y : BitVec 32) (h : y.getLsbD 0 = false) : (y.toNat : Int) / 2 = ((one y).toNat : Int) := by
  unfold one
  rw [if_neg (by rw [h]; decide), BitVec.toNat_ushiftRight, Nat.shiftRight_eq_div_pow]
  omega
theorem mix (y : BitVec 32) (c : Int) (h0 : 0 ≤ c) (h1 : c ≤ 255) : bits .xor .u32 (y.toNat : Int) c = ((y ^^^ (byteOf c).setWidth 32).toNat : Int) := by
  have hl := y.isLt
  have e : c = ((c.toNat : Nat) : Int) := by omega
  rw [e, u32_xor_nat _ _ hl (by omega), BitVec.toNat_xor, BitVec.toNat_setWidth, ← e]
  unfold byteOf
  congr 2
  rw [BitVec.toNat_ofInt]
  omega
theorem turn (y : BitVec 32) : bits .xor .u32 (y.toNat : Int) 4294967295 = ((y ^^^ ones).toNat : Int) := by
  rw [show (4294967295 : Int) = ((4294967295 : Nat) : Int) from rfl, u32_xor_nat _ _ y.isLt (by decide), BitVec.toNat_xor]
  rfl
theorem rep_succ (n : Nat) (x : BitVec 32) : rep (n + 1) x = one (rep n x) := by rw [rep_add]; rfl
theorem run_snoc (x : BitVec 32) (xs : List Int) (k : Nat) (h : k < xs.length) : run x (bytes (xs.take (k + 1))) = rep 8 (run x (bytes (xs.take k)) ^^^ (byteOf (rd xs k)).setWidth 32) := by
  have e : rd xs k = xs[k] := by simp [rd, List.getD_eq_getElem?_getD, h]
  rw [List.take_succ_eq_append_getElem h, e]
  simp only [bytes, run, List.map_append, List.map_cons, List.map_nil, List.foldl_append, List.foldl_cons, List.foldl_nil]
  rfl

/-- each is a byte -/
def Small (xs : List Int) : Prop := ∀ k : Nat, 0 ≤ rd xs k ∧ rd xs k ≤ 255

set_option maxHeartbeats 1000000 in
theorem more (s : BitVec 32) (A : Option Addr) (n c : Nat) (xs : List Int) (w : World) (hr : ReadsInt w .u8 A n xs) (hs : Small xs) :
    Calls Try.prog 23 #[.int .u32 (s.toNat : Int), .slice A n c] w fun e w' => e = .returned (.int .u32 ((run (s ^^^ ones) (bytes xs) ^^^ ones).toNat : Int)) ∧ w = w' := by
  have hn := hr.2.1
  have HT : Hid (bits .xor .u32 (s.toNat : Int) 4294967295 = ((s ^^^ ones).toNat : Int)) := Lib.hid (turn s)
  go_enter Try.func23, Try.ntmps23
  go_wp2_with fail
  rw [HT.out]
  go_loop [5, 13] (fun x i => ∃ k : Nat, k ≤ n ∧ i = .int .i64 k ∧ x = .int .u32 ((run (s ^^^ ones) (bytes (xs.take k))).toNat : Int)) (fun _ i => n - (intOf i).toNat)
  case atStart => exact ⟨0, Nat.zero_le _, rfl, rfl⟩
  case round =>
    obtain ⟨k, hk, rfl, rfl⟩ := hrel
    by_cases hlt : k < n
    · obtain ⟨ad, rfl, hc⟩ := hr.at_ (k : Int) (by omega) (by omega)
      rw [Int.toNat_natCast] at hc
      obtain ⟨c0, c1⟩ := hs k
      generalize hrd : rd xs (k : Int) = cb at *
      have HR := Lib.hid hrd
      clear hrd
      go_wp2_with fail
      rw [mix _ _ c0 c1]
      generalize hy : run (s ^^^ ones) (bytes (xs.take k)) ^^^ (byteOf cb).setWidth 32 = y
      have HY := Lib.hid hy
      clear hy
      go_loop [5, 21] (fun x i => ∃ j : Nat, j ≤ 8 ∧ i = .int .i64 j ∧ x = .int .u32 ((rep j y).toNat : Int)) (fun _ i => 8 - (intOf i).toNat)
      case atStart => exact ⟨0, Nat.zero_le _, rfl, rfl⟩
      case round =>
        obtain ⟨j, hj, rfl, rfl⟩ := hrel
        by_cases hj8 : j < 8
        · have hrs := rep_succ j y
          generalize rep j y = z at *
          have HZ := Lib.hid hrs
          clear hrs
          by_cases hb : z.getLsbD 0 = true
          · have e1 : bits .and .u32 (z.toNat : Int) 1 = 1 := by rw [bit_and, if_pos hb]
            have e2 := Lib.hid (one_set z hb)
            have HB := Lib.hid hb
            clear hb
            go_wp2_with fail
            go_round
            case rel => exact ⟨j + 1, by omega, by go_num, by rw [e2.out, HZ.out]⟩
            case measure => simp [intOf]; omega
          · have hb0 : z.getLsbD 0 = false := by simpa using hb
            have e1 : bits .and .u32 (z.toNat : Int) 1 = 0 := by rw [bit_and, if_neg hb]
            have e2 := Lib.hid (one_clear z hb0)
            clear hb hb0
            go_wp2_with fail
            go_round
            case rel => exact ⟨j + 1, by omega, by go_num, by rw [e2.out, HZ.out]⟩
            case measure => simp [intOf]; omega
        · have h8 : j = 8 := by omega
          subst h8
          have hs := run_snoc (s ^^^ ones) xs k (by have := hr.1; omega)
          rw [HR.out, HY.out] at hs
          have HS := Lib.hid hs
          clear hs
          go_wp2_with fail
          go_round
          case rel => refine ⟨_, _, _, _, ⟨k + 1, ?_, ?_, ?_⟩, rfl, rfl, rfl, rfl⟩ <;> first | omega | go_num | rw [HS.out]
          case measure => simp [intOf]; omega
    · go_wp2_with fail
      have hk2 : k = n := by omega
      subst hk2
      rw [turn, List.take_of_length_le (by have := hr.1; omega)]
      go_ret
      exact ⟨rfl, rfl⟩

set_option maxHeartbeats 1000000 in
theorem more_ref (s : BitVec 32) (A : Option Addr) (n c : Nat) (xs : List Int) (w : World) (hr : ReadsInt w .u8 A n xs) (hs : Small xs) :
    Calls Try.prog 24 #[.int .u32 (s.toNat : Int), .slice A n c] w fun e w' => e = .returned (.int .u32 ((run (s ^^^ ones) (bytes xs) ^^^ ones).toNat : Int)) ∧ w = w' := by
  have hn := hr.2.1
  have HT : Hid (bits .xor .u32 (s.toNat : Int) 4294967295 = ((s ^^^ ones).toNat : Int)) := Lib.hid (turn s)
  go_enter Try.func24, Try.ntmps24
  go_wp2_with fail
  rw [HT.out]
  go_loop [5, 6] (fun x i => ∃ k : Nat, k ≤ n ∧ i = .int .i64 k ∧ x = .int .u32 ((run (s ^^^ ones) (bytes (xs.take k))).toNat : Int)) (fun _ i => n - (intOf i).toNat)
  case atStart => exact ⟨0, Nat.zero_le _, rfl, rfl⟩
  case round =>
    obtain ⟨k, hk, rfl, rfl⟩ := hrel
    by_cases hlt : k < n
    · obtain ⟨ad, rfl, hc⟩ := hr.at_ (k : Int) (by omega) (by omega)
      rw [Int.toNat_natCast] at hc
      obtain ⟨c0, c1⟩ := hs k
      generalize hrd : rd xs (k : Int) = cb at *
      have HR := Lib.hid hrd
      clear hrd
      go_wp2_with fail
      rw [mix _ _ c0 c1]
      generalize hy : run (s ^^^ ones) (bytes (xs.take k)) ^^^ (byteOf cb).setWidth 32 = y
      have HY := Lib.hid hy
      clear hy
      go_loop [5, 7] (fun x i => ∃ j : Nat, j ≤ 8 ∧ i = .int .i64 j ∧ x = .int .u32 ((rep j y).toNat : Int)) (fun _ i => 8 - (intOf i).toNat)
      case atStart => exact ⟨0, Nat.zero_le _, rfl, rfl⟩
      case round =>
        obtain ⟨j, hj, rfl, rfl⟩ := hrel
        by_cases hj8 : j < 8
        · have hrs := rep_succ j y
          generalize rep j y = z at *
          have HZ := Lib.hid hrs
          clear hrs
          by_cases hb : z.getLsbD 0 = true
          · have e1 : bits .and .u32 (z.toNat : Int) 1 = 1 := by rw [bit_and, if_pos hb]
            have e2 := Lib.hid (one_set z hb)
            have HB := Lib.hid hb
            clear hb
            go_wp2_with fail
            go_round
            case rel => exact ⟨j + 1, by omega, by go_num, by rw [e2.out, HZ.out]⟩
            case measure => simp [intOf]; omega
          · have hb0 : z.getLsbD 0 = false := by simpa using hb
            have e1 : bits .and .u32 (z.toNat : Int) 1 = 0 := by rw [bit_and, if_neg hb]
            have e2 := Lib.hid (one_clear z hb0)
            clear hb hb0
            go_wp2_with fail
            go_round
            case rel => exact ⟨j + 1, by omega, by go_num, by rw [e2.out, HZ.out]⟩
            case measure => simp [intOf]; omega
        · have h8 : j = 8 := by omega
          subst h8
          have hs := run_snoc (s ^^^ ones) xs k (by have := hr.1; omega)
          rw [HR.out, HY.out] at hs
          have HS := Lib.hid hs
          clear hs
          go_wp2_with fail
          go_round
          case rel => first | exact ⟨k + 1, by omega, by go_num, by rw [HS.out]⟩ | (refine ⟨_, _, _, _, ⟨k + 1, ?_, ?_, ?_⟩, rfl, rfl, rfl, rfl⟩ <;> first | omega | go_num | rw [HS.out])
          case measure => simp [intOf]; omega
    · go_wp2_with fail
      have hk2 : k = n := by omega
      subst hk2
      rw [turn, List.take_of_length_le (by have := hr.1; omega)]
      go_ret
      exact ⟨rfl, rfl⟩

/-- the sum of some bytes -/
def sum (xs : List Int) : BitVec 32 := run ones (bytes xs) ^^^ ones
theorem zero_ones : (0 : BitVec 32) ^^^ ones = ones := by decide

theorem sum_calls (A : Option Addr) (n c : Nat) (xs : List Int) (w : World) (hr : ReadsInt w .u8 A n xs) (hs : Small xs) :
    Calls Try.prog 21 #[.slice A n c] w fun e w' => e = .returned (.int .u32 ((sum xs).toNat : Int)) ∧ w = w' := by
  go_enter Try.func21, Try.ntmps21
  go_wp2_with fail
  refine (more 0 A n c xs w hr hs).mono ?_
  rintro e w' ⟨rfl, rfl⟩
  go_wp2_with fail
  go_ret
  exact ⟨by simp [sum], rfl⟩

theorem sum_ref (A : Option Addr) (n c : Nat) (xs : List Int) (w : World) (hr : ReadsInt w .u8 A n xs) (hs : Small xs) :
    Calls Try.prog 22 #[.slice A n c] w fun e w' => e = .returned (.int .u32 ((sum xs).toNat : Int)) ∧ w = w' := by
  go_enter Try.func22, Try.ntmps22
  go_wp2_with fail
  refine (more_ref 0 A n c xs w hr hs).mono ?_
  rintro e w' ⟨rfl, rfl⟩
  go_wp2_with fail
  go_ret
  exact ⟨by simp [sum], rfl⟩

theorem small_of {xs : List Int} (h : ∀ x ∈ xs, (Lit.int .u8 x).wf = true) : Small xs := by
  intro k
  by_cases hk : k < xs.length
  · have e : rd xs k = xs[k] := by simp [rd, List.getD_eq_getElem?_getD, hk]
    rw [e]
    exact bounds_u8 (h _ (List.getElem_mem hk))
  · have e : rd xs k = 0 := by simp [rd, List.getD_eq_getElem?_getD, hk]
    rw [e]; omega

def nine : List Int := [49, 50, 51, 52, 53, 54, 55, 56, 57]
theorem nine_sum : ((sum nine).toNat : Int) = 3421780262 := by decide +kernel
theorem none_sum : ((sum []).toNat : Int) = 0 := by decide +kernel

theorem reads_mark (w : World) (e : TypeId) (m : Nat × Nat) (xs : List Int) (h : xs.length ≤ 9223372036854775807) :
    ReadsInt (w.alloc (.cells (nums .u8 xs).toArray e m)) .u8 (some ⟨w.heap.size, 0, none⟩) xs.length xs := by
  refine ⟨rfl, h, fun _ => ⟨_, rfl, fun j hj => ?_⟩⟩
  rw [add_plain, World.cell?_alloc_mark]
  simp [nums, hj, List.getD_eq_getElem?_getD]

theorem live (w : World) : Calls Try.prog 20 #[] w fun e w' => e = .returned (.bool true) ∧ Below w.heap.size w w' := by
  have h9 : Small nine := small_of (by decide)
  have h0 : Small [] := small_of (by decide)
  have hr := reads_mark w 5 (9, 10) nine (by decide)
  have hz : ReadsInt (w.alloc (.cells (nums .u8 nine).toArray 5 (9, 10))) .u8 none 0 [] := ⟨rfl, by omega, fun h => by omega⟩
  have HR := Lib.hid hr
  have HZ := Lib.hid hz
  clear hr hz
  have kc := fun (C : Array Value) (n c : Nat) => Lib.run_convert_bytes_const (P := Try.prog) w 31 5 C n c Try.underlying31 Try.underlying5
  go_enter Try.func20, Try.ntmps20
  go_wp2_with fail
  refine (sum_calls _ _ _ nine _ HR.out h9).mono ?_
  rintro e w' ⟨rfl, rfl⟩
  rw [nine_sum]
  go_wp2_with fail
  refine (sum_calls _ _ _ [] _ HZ.out h0).mono ?_
  rintro e w' ⟨rfl, rfl⟩
  rw [none_sum]
  go_wp2_with fail
  go_ret
  exact ⟨rfl, (Below.refl _ _).alloc (Nat.le_refl _) _⟩

theorem sums_out (A : Option Addr) (n c : Nat) (s : Int) (w : World) (h : 2000 < n) :
    Calls Try.prog 5 #[.slice A n c, .int .u32 s] w fun e w' => e = .returned (.bool true) ∧ Below w.heap.size w w' := by
  go_enter Try.func5, Try.ntmps5
  go_wp2_with fail
  refine (live _).mono ?_
  rintro e w1 ⟨rfl, hb⟩
  go_wp2_with fail
  go_ret
  exact ⟨rfl, hb⟩

theorem sums_in (A : Option Addr) (n c : Nat) (s : BitVec 32) (xs : List Int) (w : World) (hr : ReadsInt w .u8 A n xs) (hs : Small xs) (h : n ≤ 2000) :
    Calls Try.prog 5 #[.slice A n c, .int .u32 (s.toNat : Int)] w fun e w' => e = .returned (.bool true) ∧ Below w.heap.size w w' := by
  go_enter Try.func5, Try.ntmps5
  go_wp2_with fail
  refine (live _).mono ?_
  rintro e w1 ⟨rfl, hb⟩
  have HR := Lib.hid (hr.below hb)
  go_wp2_with fail
  refine (sum_calls _ _ _ _ _ HR.out hs).mono ?_
  rintro e w' ⟨rfl, rfl⟩
  go_wp2_with fail
  refine (sum_ref _ _ _ _ _ HR.out hs).mono ?_
  rintro e w' ⟨rfl, rfl⟩
  go_wp2_with fail
  refine (more _ _ _ _ _ _ HR.out hs).mono ?_
  rintro e w' ⟨rfl, rfl⟩
  go_wp2_with fail
  refine (more_ref _ _ _ _ _ _ HR.out hs).mono ?_
  rintro e w' ⟨rfl, rfl⟩
  go_wp2_with fail
  go_ret
  exact ⟨by simp, hb⟩

theorem info5 : (Try.prog.info? 5).map (fun i => (i.zero, i.size, i.bytes)) = some (some (.int .u8 0), 1, 1) := by kernel_rfl

theorem joins_out (A B : Option Addr) (n c m d : Nat) (w : World) (h : 1000 < n ∨ 1000 < m) :
    Calls Try.prog 6 #[.slice A n c, .slice B m d] w fun e w' => e = .returned (.bool true) ∧ Below w.heap.size w w' := by
  go_enter Try.func6, Try.ntmps6
  go_wp2_with fail
  refine (live _).mono ?_
  rintro e w1 ⟨rfl, hb⟩
  go_wp2_with fail
  all_goals first
    | (exfalso; omega)
    | (go_ret; exact ⟨rfl, hb⟩)

theorem sum_join (xs ys : List Int) : run (sum xs ^^^ ones) (bytes ys) ^^^ ones = sum (xs ++ ys) := by
  have e : sum xs ^^^ ones = run ones (bytes xs) := by unfold sum; rw [BitVec.xor_assoc, BitVec.xor_self, BitVec.xor_zero]
  rw [e]
  unfold sum bytes
  rw [List.map_append, run_append]
theorem small_append {xs ys : List Int} (hx : ∀ x ∈ xs, (Lit.int .u8 x).wf = true) (hy : ∀ x ∈ ys, (Lit.int .u8 x).wf = true) : Small (xs ++ ys) :=
  small_of fun x h => (List.mem_append.1 h).elim (hx x) (hy x)

theorem _root_.Go.Proofs.YtblljhojelmmeaaW.PrintWords.ReadsInt.keep_own {w w1 : World} {k : IntKind} {A : Option Addr} {n : Nat} {xs : List Int} (h : ReadsInt w k A n xs) (hg : w.grownBy w1 (Value.slice none 0 0).ownBlock) : ReadsInt w1 k A n xs :=
  h.below ⟨hg.os, hg.tape, hg.output, hg.size, fun i hi => hg.block i hi (by simp [Value.ownBlock])⟩

theorem joins_in (A B : Option Addr) (n c m d : Nat) (xs ys : List Int) (w : World) (hr : ReadsInt w .u8 A n xs) (hq : ReadsInt w .u8 B m ys)
    (hx : ∀ x ∈ xs, (Lit.int .u8 x).wf = true) (hy : ∀ x ∈ ys, (Lit.int .u8 x).wf = true) (h : n ≤ 1000) (h' : m ≤ 1000) :
    Calls Try.prog 6 #[.slice A n c, .slice B m d] w fun e w' => e = .returned (.bool true) ∧ Below w.heap.size w w' := by
  have hl : xs.length ≤ 1000 := by have := hr.1; omega
  have SX := Lib.hid (small_of hx)
  have SY := Lib.hid (small_of hy)
  have SXY := Lib.hid (small_append hx hy)
  clear hx hy
  go_enter Try.func6, Try.ntmps6
  go_wp2_with fail
  refine (live _).mono ?_
  rintro e w1 ⟨rfl, hb⟩
  have HR := Lib.hid (hr.below hb)
  have HQ := Lib.hid (hq.below hb)
  go_wp2_with fail
  refine (sum_calls _ _ _ _ _ HR.out SX.out).mono ?_
  rintro e w' ⟨rfl, rfl⟩
  go_wp2_with fail
  refine (more _ _ _ _ _ _ HQ.out SY.out).mono ?_
  rintro e w' ⟨rfl, rfl⟩
  rw [sum_join]
  go_wp2_with (first
    | (at_builtin
       refine print_append_row w.heap.size rfl (.const (.slice none 0 0)) (.tmp 24) 31 5 .u8 1 rfl Try.underlying31 info5 (by decide) (.slice none 0 0) [] xs A n c rfl rfl (own_nil _ _ _ _) HR.out hb hb.size (by simp; omega) ?_
       intro v1 w2 own1 hb1 hg1 hat1
       have HQ2 := Lib.hid (HQ.out.keep_own hg1)
       have HO1 := Lib.hid own1
       have HB1 := Lib.hid hb1
       clear own1 hb1 hg1 hat1)
    | (at_builtin
       refine print_append_row w.heap.size rfl (.tmp 25) (.tmp 26) 31 5 .u8 1 rfl Try.underlying31 info5 (by decide) v1 ([] ++ xs) ys B m d rfl rfl HO1.out HQ2.out HB1.out HB1.out.size (by simp; omega) ?_
       intro v2 w3 own2 hb2 hg2 hat2
       have HO2 := Lib.hid own2
       have HB2 := Lib.hid hb2
       clear own2 hb2 hg2 hat2))
  obtain ⟨A2, c2, rfl, hr2⟩ := own_reads HO2.out
  rw [List.nil_append] at hr2
  refine (sum_calls _ _ _ _ _ hr2 SXY.out).mono ?_
  rintro e w' ⟨rfl, rfl⟩
  go_wp2_with fail
  go_ret
  exact ⟨by simp, HB2.out⟩

/-- the bytes of a sum, the lowest first, as the law writes them -/
def tail4 (S : BitVec 32) : List Int := [bits .and .u32 (S.toNat : Int) 255 % 256, bits .and .u32 ((S.toNat : Int) / 256) 255 % 256, bits .and .u32 ((S.toNat : Int) / 65536) 255 % 256, (S.toNat : Int) / 16777216]
theorem tail4_eq (S : BitVec 32) : tail4 S = [((lane S 0).toNat : Int), ((lane S 1).toNat : Int), ((lane S 2).toNat : Int), ((lane S 3).toNat : Int)] := by
  have h := S.isLt
  have m : ∀ y : Nat, y < 4294967296 → bits .and .u32 (y : Int) 255 % 256 = ((y % 256 : Nat) : Int) := by
    intro y hy
    rw [show (255 : Int) = ((255 : Nat) : Int) from rfl, u32_and_nat _ _ hy (by decide), show (255 : Nat) = 2 ^ 8 - 1 from rfl, Nat.and_two_pow_sub_one_eq_mod]
    omega
  have e1 : (S.toNat : Int) / 256 = ((S.toNat / 256 : Nat) : Int) := by omega
  have e2 : (S.toNat : Int) / 65536 = ((S.toNat / 65536 : Nat) : Int) := by omega
  have e3 : (S.toNat : Int) / 16777216 = ((S.toNat / 16777216 : Nat) : Int) := by omega
  unfold tail4
  rw [e1, e2, e3, m _ h, m _ (by omega), m _ (by omega)]
  simp only [lane, BitVec.toNat_setWidth, BitVec.toNat_ushiftRight, Nat.shiftRight_eq_div_pow]
  have p0 : (2 : Nat) ^ (8 * 0) = 1 := rfl
  have p1 : (2 : Nat) ^ (8 * 1) = 256 := rfl
  have p2 : (2 : Nat) ^ (8 * 2) = 65536 := rfl
  have p3 : (2 : Nat) ^ (8 * 3) = 16777216 := rfl
  have f3 : S.toNat / 16777216 % 256 = S.toNat / 16777216 := Nat.mod_eq_of_lt (by omega)
  rw [p0, p1, p2, p3, f3, Nat.div_one]
theorem byteOf_nat (b : BitVec 8) : byteOf (b.toNat : Int) = b := by
  unfold byteOf
  apply BitVec.eq_of_toNat_eq
  rw [BitVec.toNat_ofInt]
  have := b.isLt
  omega
theorem sum_own (xs : List Int) : ((sum (xs ++ tail4 (sum xs))).toNat : Int) = 558161692 := by
  have e : bytes (tail4 (sum xs)) = [lane (sum xs) 0, lane (sum xs) 1, lane (sum xs) 2, lane (sum xs) 3] := by
    rw [tail4_eq]
    simp only [bytes, List.map_cons, List.map_nil, byteOf_nat]
  have e2 : bytes (xs ++ tail4 (sum xs)) = bytes xs ++ bytes (tail4 (sum xs)) := by simp [bytes]
  have e3 : sum (xs ++ tail4 (sum xs)) = run ones (bytes (xs ++ tail4 (sum xs))) ^^^ ones := rfl
  rw [e3, e2, run_append, e]
  have e4 : sum xs = run ones (bytes xs) ^^^ ones := rfl
  rw [e4]
  have h := run_own (run ones (bytes xs))
  unfold ones at *
  rw [h]
  decide +kernel
theorem small_tail {xs : List Int} {S : BitVec 32} (h : Small xs) : Small (xs ++ tail4 S) := by
  intro k
  by_cases hk : k < xs.length
  · have e : rd (xs ++ tail4 S) k = rd xs k := by simp [rd, List.getD_eq_getElem?_getD, List.getElem?_append_left hk]
    rw [e]; exact h k
  · have e : rd (xs ++ tail4 S) k = rd (tail4 S) ((k - xs.length : Nat) : Int) := by
      simp only [rd, List.getD_eq_getElem?_getD, Int.toNat_natCast]
      rw [List.getElem?_append_right (by omega)]
    rw [e]
    refine small_of (fun x hx => ?_) _
    rw [tail4_eq] at hx
    have w8 : ∀ b : BitVec 8, (Lit.int .u8 (b.toNat : Int)).wf = true := fun b => by
      have := b.isLt
      exact WalkArith.wf_u8 (by omega)
    simp only [List.mem_cons, List.not_mem_nil, or_false] at hx
    rcases hx with rfl | rfl | rfl | rfl <;> exact w8 _

theorem end_in (A : Option Addr) (n c : Nat) (xs : List Int) (w : World) (hr : ReadsInt w .u8 A n xs)
    (hx : ∀ x ∈ xs, (Lit.int .u8 x).wf = true) (h : n ≤ 1000) :
    Calls Try.prog 8 #[.slice A n c] w fun e w' => e = .returned (.bool true) ∧ Below w.heap.size w w' := by
  have hl : xs.length ≤ 1000 := by have := hr.1; omega
  have SX := Lib.hid (small_of hx)
  clear hx
  go_enter Try.func8, Try.ntmps8
  go_wp2_with fail
  refine (live _).mono ?_
  rintro e w1 ⟨rfl, hb⟩
  have HR := Lib.hid (hr.below hb)
  go_wp2_with fail
  refine (sum_calls _ _ _ _ _ HR.out SX.out).mono ?_
  rintro e w' ⟨rfl, rfl⟩
  generalize hS : sum xs = S at *
  have HS := Lib.hid hS
  have hS1 : ((S.toNat : Nat) : Int) ≤ 4294967295 := by have := S.isLt; omega
  clear hS
  go_wp2_with (first
    | (at_builtin
       refine print_append_row w.heap.size rfl (.const (.slice none 0 0)) (.tmp 17) 31 5 .u8 1 rfl Try.underlying31 info5 (by decide) (.slice none 0 0) [] xs A n c rfl rfl (own_nil _ _ _ _) HR.out hb hb.size (by simp; omega) ?_
       intro v1 w2 own1 hb1 hg1 hat1
       have HO1 := Lib.hid own1
       have HB1 := Lib.hid hb1
       clear own1 hb1 hg1 hat1)
    | (at_builtin
       refine print_append_row w.heap.size rfl (.tmp 18) (.tmp 33) 31 5 .u8 1 rfl Try.underlying31 info5 (by decide) v1 ([] ++ xs) (tail4 S) (some ⟨w2.heap.size, 0, none⟩) 4 4 rfl rfl (HO1.out.alloc _) (reads_mark w2 5 (0, 0) (tail4 S) (by simp [tail4])) (HB1.out.alloc HB1.out.size _) (by have := HB1.out.size; simp; omega) (by simp; omega) ?_
       intro v2 w3 own2 hb2 hg2 hat2
       have HO2 := Lib.hid own2
       have HB2 := Lib.hid hb2
       clear own2 hb2 hg2 hat2))
  obtain ⟨A2, c2, rfl, hr2⟩ := own_reads HO2.out
  rw [List.nil_append] at hr2
  refine (sum_calls _ _ _ _ _ hr2 (small_tail SX.out)).mono ?_
  rintro e w' ⟨rfl, rfl⟩
  rw [← HS.out, sum_own]
  go_wp2_with fail
  go_ret
  exact ⟨by simp, HB2.out⟩

theorem end_out (A : Option Addr) (n c : Nat) (w : World) (h : 1000 < n) :
    Calls Try.prog 8 #[.slice A n c] w fun e w' => e = .returned (.bool true) ∧ Below w.heap.size w w' := by
  go_enter Try.func8, Try.ntmps8
  go_wp2_with fail
  refine (live _).mono ?_
  rintro e w1 ⟨rfl, hb⟩
  go_wp2_with fail
  go_ret
  exact ⟨rfl, hb⟩

theorem xor_bit (x : Int) (j : Nat) (hj : j < 8) (h0 : 0 ≤ x) (h1 : x ≤ 255) :
    0 ≤ bits .xor .u8 x (2 ^ j % 256) ∧ bits .xor .u8 x (2 ^ j % 256) ≤ 255 ∧ bits .xor .u8 x (2 ^ j % 256) ≠ x := by
  have hp : (2 : Nat) ^ j < 256 := Nat.lt_of_lt_of_le (Nat.pow_lt_pow_right (by decide) hj) (by decide)
  have hq : 0 < (2 : Nat) ^ j := Nat.pow_pos (by decide)
  have e : ((2 : Int) ^ j % 256) = ((2 ^ j : Nat) : Int) := by
    have : ((2 : Int) ^ j) = ((2 ^ j : Nat) : Int) := by simp
    rw [this]
    omega
  obtain ⟨n, rfl⟩ := Int.eq_ofNat_of_zero_le h0
  rw [e, u8_xor_nat _ _ (by omega) hp]
  have hb : n ^^^ 2 ^ j < 2 ^ 8 := Nat.xor_lt_two_pow (by omega) (by omega)
  refine ⟨by omega, by omega, ?_⟩
  intro h
  have h2 : n ^^^ 2 ^ j = n := by omega
  have h3 : n ^^^ (n ^^^ 2 ^ j) = 2 ^ j := by rw [← Nat.xor_assoc, Nat.xor_self, Nat.zero_xor]
  rw [h2, Nat.xor_self] at h3
  omega
theorem byteOf_ne {x y : Int} (x0 : 0 ≤ x) (x1 : x ≤ 255) (y0 : 0 ≤ y) (y1 : y ≤ 255) (h : x ≠ y) : byteOf x ≠ byteOf y := by
  intro e
  have := congrArg BitVec.toNat e
  unfold byteOf at this
  rw [BitVec.toNat_ofInt, BitVec.toNat_ofInt] at this
  omega
theorem sum_bit (xs : List Int) (k j : Nat) (hk : k < xs.length) (hj : j < 8) (hs : Small xs) :
    ¬ ((sum (xs.set k (bits .xor .u8 (rd xs k) (2 ^ j % 256)))).toNat : Int) = ((sum xs).toNat : Int) := by
  intro h
  obtain ⟨h0, h1⟩ := hs k
  obtain ⟨g0, g1, g2⟩ := xor_bit (rd xs k) j hj h0 h1
  have e : sum (xs.set k (bits .xor .u8 (rd xs k) (2 ^ j % 256))) = sum xs := BitVec.eq_of_toNat_eq (by omega)
  unfold sum at e
  have e2 := xor_cancel e
  have hb : k < (bytes xs).length := by simpa [bytes] using hk
  have e3 : bytes (xs.set k (bits .xor .u8 (rd xs k) (2 ^ j % 256))) = (bytes xs).set k (byteOf (bits .xor .u8 (rd xs k) (2 ^ j % 256))) := by
    unfold bytes; rw [List.map_set]
  rw [e3] at e2
  refine run_set_ne ones (bytes xs) k hb _ ?_ e2
  have e4 : (bytes xs)[k] = byteOf (rd xs k) := by simp [bytes, rd, List.getD_eq_getElem?_getD, hk]
  rw [e4]
  exact byteOf_ne g0 g1 h0 h1 g2
theorem small_set {xs : List Int} (hs : Small xs) (k j : Nat) (hj : j < 8) : Small (xs.set k (bits .xor .u8 (rd xs k) (2 ^ j % 256))) := by
  intro i
  obtain ⟨h0, h1⟩ := hs k
  obtain ⟨g0, g1, _⟩ := xor_bit (rd xs k) j hj h0 h1
  obtain ⟨i0, i1⟩ := hs i
  by_cases e : k = i
  · subst e
    by_cases hl : k < xs.length
    · have : rd (xs.set k (bits .xor .u8 (rd xs k) (2 ^ j % 256))) k = bits .xor .u8 (rd xs k) (2 ^ j % 256) := by
        conv => lhs; simp only [rd, List.getD_eq_getElem?_getD, Int.toNat_natCast]
        rw [List.getElem?_set_self hl]
        rfl
      rw [this]; exact ⟨g0, g1⟩
    · have : rd (xs.set k (bits .xor .u8 (rd xs k) (2 ^ j % 256))) k = rd xs k := by rw [List.set_eq_of_length_le (by omega)]
      rw [this]; exact ⟨h0, h1⟩
  · have : rd (xs.set k (bits .xor .u8 (rd xs k) (2 ^ j % 256))) i = rd xs i := by
      simp only [rd, List.getD_eq_getElem?_getD, Int.toNat_natCast]
      rw [List.getElem?_set_ne e]
    rw [this]; exact ⟨i0, i1⟩

theorem bit_in (A : Option Addr) (n c : Nat) (at_ bit : Int) (xs : List Int) (w : World) (hr : ReadsInt w .u8 A n xs)
    (hx : ∀ x ∈ xs, (Lit.int .u8 x).wf = true) (h1 : 1 ≤ n) (h : n ≤ 1000) (h0 : 0 ≤ at_) (j : Nat) (hj : j < 8) (hjj : bits .and .i64 bit 7 = (j : Int)) :
    Calls Try.prog 7 #[.slice A n c, .int .i64 at_, .int .i64 bit] w fun e w' => e = .returned (.bool true) ∧ Below w.heap.size w w' := by
  have hl : xs.length ≤ 1000 := by have := hr.1; omega
  have SX := Lib.hid (small_of hx)
  clear hx
  go_enter Try.func7, Try.ntmps7
  go_wp2_with fail
  refine (live _).mono ?_
  rintro e w1 ⟨rfl, hb⟩
  have HR := Lib.hid (hr.below hb)
  go_wp2_with (first
    | (at_builtin
       refine print_append_row w.heap.size rfl (.const (.slice none 0 0)) (.tmp 27) 31 5 .u8 1 rfl Try.underlying31 info5 (by decide) (.slice none 0 0) [] xs A n c rfl rfl (own_nil _ _ _ _) HR.out hb hb.size (by simp; omega) ?_
       intro v1 w2 own1 hb1 hg1 hat1
       have HO1 := Lib.hid own1
       have HB1 := Lib.hid hb1
       have HQ1 := Lib.hid (HR.out.keep_own hg1)
       clear own1 hb1 hg1 hat1)
    | fail)
  have HN := Lib.hid hr.1
  rw [List.nil_append] at HO1
  have hln : xs.length = n := hr.1
  obtain ⟨g, cap, rfl, hg1, hg2⟩ := HO1.out.form (by omega)
  have hk0 : 0 ≤ at_ % (n : Int) := Int.emod_nonneg _ (by omega)
  have hk1 : at_ % (n : Int) < n := Int.emod_lt_of_pos _ (by omega)
  obtain ⟨k, hk⟩ := Int.eq_ofNat_of_zero_le hk0
  obtain ⟨hcell, hfro⟩ := own_at HO1.out (k : Int) (by omega) (by omega)
  rw [Int.toNat_natCast] at hcell hfro
  have hkn : (k : Int) < n := by omega
  have hkn' : (0 : Int) ≤ k := by omega
  rw [hln] at *
  go_region
  go_wp2_with fail
  have hst := (own_store HO1.out (k : Int) (bits .xor .u8 (rd xs k) (2 ^ j % 256))).1
  rw [Int.toNat_natCast] at hst
  have hB : Below w.heap.size w (w2.setCell ⟨g, k, none⟩ (.int .u8 (bits .xor .u8 (rd xs k) (2 ^ j % 256)))).drew := (HB1.out.setCell (p := ⟨g, k, none⟩) hg1 _).drew
  obtain ⟨A2, c2, hv2, hr2⟩ := own_reads hst
  have hv3 := Lib.hid hv2
  clear hv2
  have hr3 : ReadsInt (w2.setCell ⟨g, k, none⟩ (.int .u8 (bits .xor .u8 (rd xs k) (2 ^ j % 256)))).drew .u8 (some ⟨g, 0, none⟩) n (xs.set k (bits .xor .u8 (rd xs k) (2 ^ j % 256))) := by
    have e := hv3.out
    injection e with e1 _ _
    rw [e1]
    exact hr2
  have hne := sum_bit xs k j (by have := HN.out; omega) hj SX.out
  refine (sum_calls _ _ _ _ _ hr3 (small_set SX.out k j hj)).mono ?_
  rintro e w' ⟨rfl, rfl⟩
  go_wp2_with fail
  refine (sum_calls _ _ _ _ _ (hr.below hB) SX.out).mono ?_
  rintro e w' ⟨rfl, rfl⟩
  go_wp2_with fail
  go_ret
  exact ⟨by simp [hne], hB⟩

theorem bit_out (A : Option Addr) (n c : Nat) (at_ bit : Int) (w : World) (h : n < 1 ∨ 1000 < n ∨ at_ < 0) :
    Calls Try.prog 7 #[.slice A n c, .int .i64 at_, .int .i64 bit] w fun e w' => e = .returned (.bool true) ∧ Below w.heap.size w w' := by
  go_enter Try.func7, Try.ntmps7
  go_wp2_with fail
  refine (live _).mono ?_
  rintro e w1 ⟨rfl, hb⟩
  go_wp2_with fail
  all_goals first
    | (exfalso; omega)
    | (go_ret; exact ⟨rfl, hb⟩)

theorem bit7 (b : Int) : ∃ j : Nat, j < 8 ∧ bits .and .i64 b 7 = (j : Int) := by
  have h : bits .and .i64 b 7 = IntKind.i64.wrap ((BitVec.ofInt 64 b &&& BitVec.ofInt 64 7).toNat : Int) := rfl
  have e7 : (BitVec.ofInt 64 7).toNat = 2 ^ 3 - 1 := rfl
  rw [BitVec.toNat_and, e7, Nat.and_two_pow_sub_one_eq_mod, IntKind.wrap_i64] at h
  exact ⟨(BitVec.ofInt 64 b).toNat % 2 ^ 3, by omega, by rw [h]; omega⟩

/-- What a row of bytes that came in is. -/
def IsBytes (w : World) (a : Option Addr) (len cap : Nat) (zs : List Int) : Prop :=
  (a = none ∧ len = 0 ∧ cap = 0 ∧ zs = []) ∨
  ∃ x, a = some x ∧ len ≤ cap ∧ cap ≤ maxLen ∧ zs.length = cap ∧ (∀ i, i < zs.length → w.cell? (x.add i) = some (.int .u8 (zs.getD i 0))) ∧ ∀ n ∈ zs, (Lit.int .u8 n).wf = true

theorem word {a : Int} (h : (Lit.int .u32 a).wf = true) : ∃ x : BitVec 32, a = (x.toNat : Int) := by
  obtain ⟨h0, h1⟩ := bounds_u32 h
  refine ⟨BitVec.ofNat 32 a.toNat, ?_⟩
  rw [BitVec.toNat_ofNat, Nat.mod_eq_of_lt (by omega)]
  omega

theorem sums_walk (A : Option Addr) (n c : Nat) (zs : List Int) (s : Int) (w : World) (h : IsBytes w A n c zs) (hs : (Lit.int .u32 s).wf = true) :
    Calls Try.prog 5 #[.slice A n c, .int .u32 s] w fun e w' => e = .returned (.bool true) ∧ Below w.heap.size w w' := by
  obtain ⟨l, rfl, hr, _, hw, _⟩ := ReadsInt.ofRowC h
  by_cases hl : 2000 < l.length
  · exact sums_out A _ c s w hl
  · obtain ⟨x, rfl⟩ := word hs
    exact sums_in A _ c x l w hr (small_of hw) (by omega)

theorem joins_walk (A : Option Addr) (n c : Nat) (zs : List Int) (B : Option Addr) (m d : Nat) (ys : List Int) (w : World) (h : IsBytes w A n c zs) (k : IsBytes w B m d ys) :
    Calls Try.prog 6 #[.slice A n c, .slice B m d] w fun e w' => e = .returned (.bool true) ∧ Below w.heap.size w w' := by
  obtain ⟨l, rfl, hr, _, hw, _⟩ := ReadsInt.ofRowC h
  obtain ⟨q, rfl, hq, _, hv, _⟩ := ReadsInt.ofRowC k
  by_cases hl : 1000 < l.length ∨ 1000 < q.length
  · exact joins_out A B _ c _ d w hl
  · exact joins_in A B _ c _ d l q w hr hq hw hv (by omega) (by omega)

theorem bit_walk (A : Option Addr) (n c : Nat) (zs : List Int) (at_ bit : Int) (w : World) (h : IsBytes w A n c zs) (_h1 : (Lit.int .i64 at_).wf = true) (_h2 : (Lit.int .i64 bit).wf = true) :
    Calls Try.prog 7 #[.slice A n c, .int .i64 at_, .int .i64 bit] w fun e w' => e = .returned (.bool true) ∧ Below w.heap.size w w' := by
  obtain ⟨l, rfl, hr, _, hw, _⟩ := ReadsInt.ofRowC h
  by_cases hl : l.length < 1 ∨ 1000 < l.length ∨ at_ < 0
  · exact bit_out A _ c at_ bit w hl
  · obtain ⟨j, hj, e⟩ := bit7 bit
    exact bit_in A _ c at_ bit l w hr hw (by omega) (by omega) (by omega) j hj e

theorem end_walk (A : Option Addr) (n c : Nat) (zs : List Int) (w : World) (h : IsBytes w A n c zs) :
    Calls Try.prog 8 #[.slice A n c] w fun e w' => e = .returned (.bool true) ∧ Below w.heap.size w w' := by
  obtain ⟨l, rfl, hr, _, hw, _⟩ := ReadsInt.ofRowC h
  by_cases hl : 1000 < l.length
  · exact end_out A _ c w hl
  · exact end_in A _ c l w hr hw (by omega)
end Go.Proofs.Ytblljhojelmmeaa.CrcWalk
