/- Plain facts on 32-bit words that are turned round; and what the printed words' shifts and bits come to on them. -/
import Derived.Test.YtblljhojelmmeaaWMore
import Derived.Laws.BitsAllLaws
import Derived.Laws.Bits64
import Derived.OpenShut
namespace Go.Proofs.Ytblljhojelmmeaa.Rot
open Go.RowKit Go.Proofs.YtblljhojelmmeaaW.PrintWords Go.Proofs.YtblljhojelmmeaaW.PrintLast

/-- a word turned round to the right -/
def rot (x : BitVec 32) (n : Int) : BitVec 32 := x.rotateLeft ((-n) % 32).toNat

theorem rot_bit (x : BitVec 32) (n : Int) (i : Nat) (hi : i < 32) : (rot x n).getLsbD i = x.getLsbD (((i : Int) + n) % 32).toNat := by
  unfold rot
  rw [BitVec.getLsbD_rotateLeft]
  have h0 : ((-n) % 32).toNat % 32 = ((-n) % 32).toNat := Nat.mod_eq_of_lt (by omega)
  rw [h0]
  by_cases h : i < ((-n) % 32).toNat
  · simp only [decide_eq_true h, cond_true]
    congr 1
    omega
  · simp only [decide_eq_false h, cond_false]
    have e : i - ((-n) % 32).toNat = (((i : Int) + n) % 32).toNat := by omega
    rw [e]
    simp [hi]

theorem rot_rot (x : BitVec 32) (n m : Int) : rot (rot x n) m = rot x (n + m) := by
  apply BitVec.eq_of_getLsbD_eq
  intro i hi
  rw [rot_bit _ _ _ hi, rot_bit _ _ _ (by omega), rot_bit _ _ _ hi]
  congr 1
  omega

theorem rot_none (x : BitVec 32) (n : Int) (h : n % 32 = 0) : rot x n = x := by
  apply BitVec.eq_of_getLsbD_eq
  intro i hi
  rw [rot_bit _ _ _ hi]
  congr 1
  omega

theorem rot_same (x : BitVec 32) (n m : Int) (h : n % 32 = m % 32) : rot x n = rot x m := by
  apply BitVec.eq_of_getLsbD_eq
  intro i hi
  rw [rot_bit _ _ _ hi, rot_bit _ _ _ hi]
  congr 1
  omega

theorem and31 (a : Int) : Go.bits .and .u64 (IntKind.u64.wrap a) 31 = a % 32 := by
  rw [IntKind.wrap_u64]
  have h0 : 0 ≤ a % 18446744073709551616 := Int.emod_nonneg _ (by decide)
  have h1 : a % 18446744073709551616 < 18446744073709551616 := Int.emod_lt_of_pos _ (by decide)
  rw [u64_and _ _ h0 h1 (by decide) (by decide)]
  have e : (31 : Int).toNat = 31 := rfl
  rw [e, nat_mask5]
  omega

/-- two shifts joined: the word's left and right parts -/
theorem join (x : BitVec 32) (s : Nat) (hs : s < 32) : Go.bits .or .u32 (shl .u32 (x.toNat : Int) (s : Int)) (shr .u32 (x.toNat : Int) ((32 - s : Nat) : Int)) = ((x.rotateLeft s).toNat : Int) := by
  have hx := x.isLt
  unfold shl shr
  have b32 : IntKind.u32.bits = 32 := rfl
  rw [Int.toNat_natCast, Int.toNat_natCast, b32, Nat.min_eq_left (by omega), Nat.min_eq_left (by omega), IntKind.wrap_u32']
  have e1 : ((x.toNat : Int) * 2 ^ s) % 4294967296 = ((x.toNat * 2 ^ s % 4294967296 : Nat) : Int) := by
    simp
  have e2 : (x.toNat : Int) / 2 ^ (32 - s) = ((x.toNat / 2 ^ (32 - s) : Nat) : Int) := by
    simp
  have l2 : x.toNat / 2 ^ (32 - s) < 4294967296 := Nat.lt_of_le_of_lt (Nat.div_le_self _ _) hx
  rw [e1, e2, u32_or_nat _ _ (Nat.mod_lt _ (by decide)) l2]
  congr 1
  rw [BitVec.rotateLeft_eq_rotateLeftAux_of_lt (by omega)]
  unfold BitVec.rotateLeftAux
  rw [BitVec.toNat_or, BitVec.toNat_shiftLeft, BitVec.toNat_ushiftRight, Nat.shiftLeft_eq, Nat.shiftRight_eq_div_pow]

theorem join_right (x : BitVec 32) (n : Int) : Go.bits .or .u32 (shl .u32 (x.toNat : Int) ((-n) % 32)) (shr .u32 (x.toNat : Int) (32 - (-n) % 32)) = ((rot x n).toNat : Int) := by
  have h := join x ((-n) % 32).toNat (by omega)
  have e1 : ((((-n) % 32).toNat : Nat) : Int) = (-n) % 32 := by omega
  have e2 : ((32 - ((-n) % 32).toNat : Nat) : Int) = 32 - (-n) % 32 := by omega
  rw [e1, e2] at h
  exact h

/-- a number of 32 bits, as a word -/
theorem word {a : Int} (h : (Lit.int .u32 a).wf = true) : ∃ x : BitVec 32, a = (x.toNat : Int) := by
  obtain ⟨h0, h1⟩ := bounds_u32 h
  refine ⟨BitVec.ofNat 32 a.toNat, ?_⟩
  rw [BitVec.toNat_ofNat, Nat.mod_eq_of_lt (by omega)]
  omega

/-- one bit, shifted to its place -/
theorem one_at (at_ : Int) (h0 : 0 ≤ at_) (h1 : at_ ≤ 31) : shl .u32 1 at_ = ((BitVec.twoPow 32 at_.toNat).toNat : Int) := by
  unfold shl
  have b32 : IntKind.u32.bits = 32 := rfl
  rw [b32, Nat.min_eq_left (by omega), IntKind.wrap_u32', BitVec.toNat_twoPow, Int.one_mul]
  simp

theorem rot_one (at_ n : Int) (h0 : 0 ≤ at_) (h1 : at_ ≤ 31) : rot (BitVec.twoPow 32 at_.toNat) n = BitVec.twoPow 32 ((at_ - n) % 32).toNat := by
  apply BitVec.eq_of_getLsbD_eq
  intro i hi
  rw [rot_bit _ _ _ hi, BitVec.getLsbD_twoPow, BitVec.getLsbD_twoPow, Bool.eq_iff_iff]
  simp only [Bool.and_eq_true, decide_eq_true_eq]
  omega
end Go.Proofs.Ytblljhojelmmeaa.Rot
