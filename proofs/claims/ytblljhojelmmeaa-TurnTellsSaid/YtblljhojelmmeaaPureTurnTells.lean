/- Proved: whatever word, int and bytes the law is called with, it returns true: turn.Right, Big and Bytes answer as the reference does, and Big of Bytes is the word again. No condition. -/
import Derived.Test.YtblljhojelmmeaaPTurnTellsx2
import Derived.Test.YtblljhojelmmeaaRot
namespace Go.Proofs.Ytblljhojelmmeaa.Pure
open Go.RowKit Go.Proofs.Ytblljhojelmmeaa.PTurnTells Go.Proofs.YtblljhojelmmeaaW.PrintWords Go.Proofs.YtblljhojelmmeaaW.PrintLast Go.Proofs.Ytblljhojelmmeaa.Rot

theorem tt_right (x : BitVec 32) (n : Int) : turn_Right.f (x.toNat : Int) n = some ((rot x n).toNat : Int) := by
  unfold turn_Right.f bits_RotateLeft32.f
  rw [and31]
  have e : wrap64 (-n) % 32 = (-n) % 32 := by unfold wrap64; omega
  have w : IntKind.u64.wrap (32 - (-n) % 32) = 32 - (-n) % 32 := by rw [IntKind.wrap_u64]; omega
  rw [e, w, if_pos (by omega), if_pos (by omega), join_right]
  rfl

theorem or_comm32 (a b : Int) (a0 : 0 ≤ a) (a1 : a < 4294967296) (b0 : 0 ≤ b) (b1 : b < 4294967296) : Go.bits .or .u32 a b = Go.bits .or .u32 b a := by
  rw [u32_or _ _ a0 a1 b0 b1, u32_or _ _ b0 b1 a0 a1, Nat.or_comm]

theorem tt_right_ref (x : BitVec 32) (n : Int) : waterlineref1_Right.f (x.toNat : Int) n = some ((rot x n).toNat : Int) := by
  have hx := x.isLt
  unfold waterlineref1_Right.f
  rw [and31]
  by_cases h : n % 32 = 0
  · rw [if_pos h, rot_none x n h]
  · have w : IntKind.u64.wrap (32 - n % 32) = 32 - n % 32 := by rw [IntKind.wrap_u64]; omega
    have e1 : (-n) % 32 = 32 - n % 32 := by omega
    have e2 : n % 32 = 32 - (-n) % 32 := by omega
    have h0 : 0 ≤ shr .u32 (x.toNat : Int) (n % 32) := by
      unfold shr; exact Int.ediv_nonneg (by omega) (Int.le_of_lt (Int.pow_pos (by decide)))
    have h1 : shr .u32 (x.toNat : Int) (n % 32) < 4294967296 := by
      unfold shr
      exact Int.lt_of_le_of_lt (Int.ediv_le_self _ (by omega)) (by omega)
    have h2 : 0 ≤ shl .u32 (x.toNat : Int) (32 - n % 32) ∧ shl .u32 (x.toNat : Int) (32 - n % 32) < 4294967296 := by
      unfold shl
      rw [IntKind.wrap_u32']
      exact ⟨Int.emod_nonneg _ (by decide), Int.emod_lt_of_pos _ (by decide)⟩
    rw [if_neg h, w, if_pos (by omega), if_pos (by omega), or_comm32 _ _ h0 h1 h2.1 h2.2, ← join_right, ← e1]
    have e3 : 32 - (-n) % 32 = n % 32 := by omega
    rw [e3]

theorem tt_big (l : List Int) (k : Nat) : turn_Big.f k l = waterlineref1_Big.f k l := by
  unfold turn_Big.f waterlineref1_Big.f
  have : ∀ (k : Nat) (x i : Int), turn_Big.l0 k l x i = waterlineref1_Big.l0 k l x i := by
    intro k
    induction k with
    | zero => intro x i; rfl
    | succ k ih =>
      intro x i
      simp only [turn_Big.l0, waterlineref1_Big.l0, ih]
  exact this k 0 0

theorem tt_big_some (l : List Int) (d : Nat) : ∀ (m : Nat) (x i : Int), 0 ≤ i → i ≤ 4 → 4 - i = d → d < m → ∃ r, turn_Big.l0 m l x i = some r := by
  induction d with
  | zero =>
    intro m x i i0 i1 hd hm
    obtain ⟨m, rfl⟩ : ∃ m', m = m' + 1 := ⟨m - 1, by omega⟩
    exact ⟨x, by simp only [turn_Big.l0]; rw [if_neg (by omega)]⟩
  | succ d ih =>
    intro m x i i0 i1 hd hm
    obtain ⟨m, rfl⟩ : ∃ m', m = m' + 1 := ⟨m - 1, by omega⟩
    have w : wrap64 (i + 1) = i + 1 := by unfold wrap64; omega
    simp only [turn_Big.l0]
    rw [if_pos (by omega), w]
    by_cases hl : i < (l.length : Int)
    · rw [if_pos hl, if_pos i0]
      exact ih m _ (i + 1) (by omega) (by omega) (by omega) (by omega)
    · rw [if_neg hl]
      exact ih m _ (i + 1) (by omega) (by omega) (by omega) (by omega)

theorem byte_join (x y : Int) (x0 : 0 ≤ x) (x1 : x < 16777216) (y0 : 0 ≤ y) (y1 : y < 256) : Go.bits .or .u32 ((x * 256) % 4294967296) (y % 4294967296) = x * 256 + y := by
  have e1 : x * 256 % 4294967296 = x * 256 := Int.emod_eq_of_lt (by omega) (by omega)
  have e2 : y % 4294967296 = y := Int.emod_eq_of_lt (by omega) (by omega)
  rw [e1, e2, u32_or _ _ (by omega) (by omega) (by omega) (by omega), nat_join 8 _ _ (by omega) (by omega)]
  omega

theorem tt_back (a : Int) (a0 : 0 ≤ a) (a1 : a ≤ 4294967295) (m : Nat) : turn_Big.f (m + 5) [(a / 16777216) % 256, (a / 65536) % 256, (a / 256) % 256, a % 256] = some a := by
  unfold turn_Big.f
  have w0 : wrap64 (0 + 1) = 1 := by unfold wrap64; omega
  have w1 : wrap64 (1 + 1) = 2 := by unfold wrap64; omega
  have w2 : wrap64 (2 + 1) = 3 := by unfold wrap64; omega
  have w3 : wrap64 (3 + 1) = 4 := by unfold wrap64; omega
  have r0 : ∀ p q r s : Int, rd [p, q, r, s] 0 = p := fun _ _ _ _ => rfl
  have r1 : ∀ p q r s : Int, rd [p, q, r, s] 1 = q := fun _ _ _ _ => rfl
  have r2 : ∀ p q r s : Int, rd [p, q, r, s] 2 = r := fun _ _ _ _ => rfl
  have r3 : ∀ p q r s : Int, rd [p, q, r, s] 3 = s := fun _ _ _ _ => rfl
  generalize h3 : (a / 16777216) % 256 = b3
  generalize h2 : (a / 65536) % 256 = b2
  generalize h1 : (a / 256) % 256 = b1
  generalize h0 : a % 256 = b0
  have hl : (([b3, b2, b1, b0] : List Int).length : Int) = 4 := rfl
  simp only [turn_Big.l0, hl]
  rw [w0, w1, w2, w3, r0, r1, r2, r3]
  rw [if_pos (by decide), if_pos (by decide), if_pos (by decide), if_pos (by decide), if_pos (by decide), if_pos (by decide), if_pos (by decide), if_pos (by decide), if_pos (by decide), if_pos (by decide), if_pos (by decide), if_pos (by decide), if_neg (by decide)]
  rw [byte_join 0 b3 (by omega) (by omega) (by omega) (by omega), byte_join _ b2 (by omega) (by omega) (by omega) (by omega), byte_join _ b1 (by omega) (by omega) (by omega) (by omega), byte_join _ b0 (by omega) (by omega) (by omega) (by omega)]
  congr 1
  omega

theorem and255 (y : Int) (y0 : 0 ≤ y) (y1 : y < 4294967296) : Go.bits .and .u32 y 255 = y % 256 := by
  rw [u32_and _ _ y0 y1 (by decide) (by decide)]
  have e : (255 : Int).toNat = 2 ^ 8 - 1 := rfl
  rw [e, Nat.and_two_pow_sub_one_eq_mod]
  omega

theorem tt_bytes (a : Int) (a0 : 0 ≤ a) (a1 : a ≤ 4294967295) : waterlineref1_Bytes4.f a = turn_Bytes.f a := by
  unfold waterlineref1_Bytes4.f turn_Bytes.f
  rw [and255 _ (by omega) (by omega), and255 _ (by omega) (by omega), and255 _ (by omega) (by omega)]
  congr 3
  · omega
  · congr 1
    · omega
    · congr 1
      omega

theorem TurnTells : waterlinelaw2_TurnTells.Pure := by
  intro a0 a1 l2 h0 h1 _ _ _
  obtain ⟨b0, b1⟩ := bounds_u32 h0
  obtain ⟨x, hx⟩ := word h0
  refine ⟨20, ?_⟩
  have al : waterlinelaw2_alive.f 20 = some true := by decide +kernel
  unfold waterlinelaw2_TurnTells.f
  rw [al]
  simp only [Option.bind_some, if_true]
  by_cases c1 : (l2.length : Int) > 100
  · rw [decide_eq_true c1]
    simp only [waterlinelaw2_TurnTells.j0, if_true]
  rw [decide_eq_false c1]
  simp only [waterlinelaw2_TurnTells.j0, Bool.false_eq_true, if_false]
  obtain ⟨r, hr⟩ := tt_big_some l2 4 19 0 0 (by omega) (by omega) (by omega) (by omega)
  have hb : turn_Big.f 19 l2 = some r := hr
  have e1 : turn_Right.f a0 a1 = some ((rot x a1).toNat : Int) := by rw [hx]; exact tt_right x a1
  have e2 : waterlineref1_Right.f a0 a1 = some ((rot x a1).toNat : Int) := by rw [hx]; exact tt_right_ref x a1
  rw [e1, e2, ← tt_big, hb, tt_bytes a0 b0 b1]
  have e3 : turn_Bytes.f a0 = some [(a0 / 16777216) % 256, (a0 / 65536) % 256, (a0 / 256) % 256, a0 % 256] := rfl
  simp only [Option.bind_some, if_true, e3]
  have e4 := tt_back a0 b0 b1 14
  rw [e4]
  simp
end Go.Proofs.Ytblljhojelmmeaa.Pure
