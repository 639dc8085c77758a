/- Plain facts: numbers as bytes, bytes as numbers, what a reader of bytes gives; no program in sight. -/
import Derived.Test.YtajflegjpnmloaaKit
namespace Go.Proofs.Ytajflegjpnmloaa.Field
open Go.RowKit Go.Proofs.YtajflegjpnmloaaW.PrintWords Go.Proofs.YtajflegjpnmloaaW.PrintLast Go.Proofs.Ytajflegjpnmloaa.Kit

/-- a size within bounds -/
def clip (n hi : Int) : Nat := (if n < 0 then 0 else if hi < n then hi else n).toNat
theorem clip_le (n hi : Int) (h : 0 ≤ hi) : (clip n hi : Int) ≤ hi := by unfold clip; (repeat' split) <;> omega
theorem clip_in {n hi : Int} (h0 : 0 ≤ n) (h1 : n ≤ hi) : clip n hi = n.toNat := by unfold clip; (repeat' split) <;> omega
theorem clip_val (n hi : Int) (h : 0 ≤ hi) : (clip n hi : Int) = if n < 0 then 0 else if hi < n then hi else n := by unfold clip; (repeat' split) <;> omega

theorem clip_mm (n hi : Int) (h : 0 ≤ hi) : max 0 (min n hi) = (clip n hi : Int) := by rw [clip_val n hi h]; (repeat' split) <;> omega

/-- byte i of a number, from the lowest -/
def byteAt (n : Int) (i : Nat) : Int := (n / 2 ^ (8 * i)) % 256
theorem byteAt_range (n : Int) (i : Nat) : 0 ≤ byteAt n i ∧ byteAt n i ≤ 255 := by unfold byteAt; omega
/-- the lowest k bytes, the highest first -/
def numL (n : Int) (k : Nat) : List Int := (List.range k).map fun t => byteAt n (k - 1 - t)
theorem numL_length (n : Int) (k : Nat) : (numL n k).length = k := by simp [numL]
theorem numL_take_succ (n : Int) (k t : Nat) (h : t < k) : (numL n k).take (t + 1) = (numL n k).take t ++ [byteAt n (k - 1 - t)] := by
  rw [List.take_succ_eq_append_getElem (by rw [numL_length]; exact h)]
  simp [numL]
theorem numL_small (n : Int) (k : Nat) : Small (numL n k) := small_mem fun x hx => by
  obtain ⟨t, _, rfl⟩ := List.mem_map.1 hx
  exact byteAt_range n _
theorem numL_succ (n : Int) (k : Nat) : numL n (k + 1) = byteAt n k :: numL n k := by
  unfold numL
  rw [List.range_succ_eq_map, List.map_cons, List.map_map]
  congr 1
  apply List.map_congr_left
  intro t ht
  have := List.mem_range.1 ht
  show byteAt n (k + 1 - 1 - (t + 1)) = byteAt n (k - 1 - t)
  congr 1
  omega
/-- the first k bytes of some, then bytes 0 -/
def rawL (b : List Int) (k : Nat) : List Int := (List.range k).map fun i : Nat => rd b i
theorem rawL_length (b : List Int) (k : Nat) : (rawL b k).length = k := by simp [rawL]
theorem rawL_succ (b : List Int) (k : Nat) : rawL b (k + 1) = rawL b k ++ [rd b k] := by simp [rawL, List.range_succ]
theorem rawL_small {b : List Int} (h : Small b) (k : Nat) : Small (rawL b k) := small_mem fun x hx => by
  obtain ⟨t, _, rfl⟩ := List.mem_map.1 hx
  exact h t
theorem rawL_eq (b : List Int) (k : Nat) : rawL b k = b.take k ++ List.replicate (k - b.length) 0 := by
  apply List.ext_getElem
  · simp [rawL]; omega
  · intro i h1 h2
    have hi : i < k := by simpa [rawL] using h1
    simp only [rawL, List.getElem_map, List.getElem_range, List.getElem_append, List.length_take, List.getElem_take, List.getElem_replicate]
    by_cases hb : i < b.length
    · rw [dif_pos (by omega), rd_lt hb]
    · rw [dif_neg (by omega), rd_ge (by omega)]
theorem rawL_self (b : List Int) : rawL b b.length = b := by rw [rawL_eq]; simp
theorem rawL_take (b : List Int) {k m : Nat} (h : m ≤ k) : (rawL b k).take m = rawL b m := by
  simp only [rawL, ← List.map_take, List.take_range, Nat.min_eq_left h]

/-- the number that bytes are -/
def val (l : List Int) : Int := l.foldl (fun n c => n * 256 + c) 0
theorem val_snoc (l : List Int) (c : Int) : val (l ++ [c]) = val l * 256 + c := by simp [val]
theorem foldl_val (l : List Int) (a : Int) : l.foldl (fun n c => n * 256 + c) a = a * 256 ^ l.length + val l := by
  induction l generalizing a with
  | nil => simp [val]
  | cons c l ih =>
    unfold val
    rw [List.foldl_cons, ih, List.foldl_cons, ih, List.length_cons, Int.pow_succ]
    generalize (256 : Int) ^ l.length = p
    generalize val l = q
    have : (a * 256 + c) * p = a * (p * 256) + c * p := by rw [Int.add_mul, Int.mul_assoc, Int.mul_comm 256 p]
    rw [this]
    simp
    omega
theorem val_cons (c : Int) (l : List Int) : val (c :: l) = c * 256 ^ l.length + val l := by
  have := foldl_val l c
  unfold val at *
  simpa using this
theorem val_range : ∀ {l : List Int}, Small l → 0 ≤ val l ∧ val l < 256 ^ l.length
  | [], _ => by simp [val]
  | c :: l, h => by
    have hc := mem_small h c (by simp)
    obtain ⟨a, b⟩ := val_range (l := l) (small_mem fun x hx => mem_small h x (by simp [hx]))
    rw [val_cons, List.length_cons, Int.pow_succ]
    have hp : (0 : Int) < 256 ^ l.length := Int.pow_pos (by omega)
    generalize (256 : Int) ^ l.length = p at *
    have h1 : c * p ≤ 255 * p := Int.mul_le_mul_of_nonneg_right hc.2 (Int.le_of_lt hp)
    have h2 : 0 ≤ c * p := Int.mul_nonneg hc.1 (Int.le_of_lt hp)
    omega
theorem val_numL (n : Int) (k : Nat) : val (numL n k) = n % 256 ^ k := by
  induction k with
  | zero => simp [numL, val]
  | succ k ih =>
    rw [numL_succ, val_cons, numL_length, ih]
    unfold byteAt
    have e : (2 : Int) ^ (8 * k) = 256 ^ k := by rw [Int.pow_mul]; rfl
    rw [e, Int.pow_succ]
    have hp : (0 : Int) < 256 ^ k := Int.pow_pos (by omega)
    generalize (256 : Int) ^ k = p at *
    have h1 := Int.emod_add_mul_ediv n (p * 256)
    have h2 := Int.emod_add_mul_ediv n p
    have h3 : n / (p * 256) = n / p / 256 := by rw [Int.ediv_ediv_of_nonneg (Int.le_of_lt hp)]
    have h4 := Int.emod_add_mul_ediv (n / p) 256
    rw [h3] at h1
    have h5 : p * 256 * (n / p / 256) = p * (256 * (n / p / 256)) := Int.mul_assoc _ _ _
    have h6 : p * (n / p) = p * (n / p % 256) + p * (256 * (n / p / 256)) := by rw [← Int.mul_add, h4]
    have h7 : n / p % 256 * p = p * (n / p % 256) := Int.mul_comm _ _
    omega
theorem val_back {n : Int} {k : Nat} (h0 : 0 ≤ n) (h1 : n < 256 ^ k) : val (numL n k) = n := by rw [val_numL, Int.emod_eq_of_lt h0 h1]

/-! what a reader gives: bytes xs are left, bad: bytes were missing -/
def takeOk (xs : List Int) (bad : Bool) (n : Nat) : Bool := !bad && decide (n ≤ xs.length)
def got (xs : List Int) (bad : Bool) (n : Nat) : List Int := if takeOk xs bad n then xs.take n else []
def rest (xs : List Int) (bad : Bool) (n : Nat) : List Int := if takeOk xs bad n then xs.drop n else []
theorem got_small {xs : List Int} (h : Small xs) (bad : Bool) (n : Nat) : Small (got xs bad n) := by unfold got; split; exact small_take h n; exact small_nil
theorem rest_small {xs : List Int} (h : Small xs) (bad : Bool) (n : Nat) : Small (rest xs bad n) := by unfold rest; split; exact small_drop h n; exact small_nil
theorem got_length_le (xs : List Int) (bad : Bool) (n : Nat) : (got xs bad n).length ≤ n := by unfold got; split; exact List.length_take_le _ _; simp
theorem rest_length_le (xs : List Int) (bad : Bool) (n : Nat) : (rest xs bad n).length ≤ xs.length := by unfold rest; split; simp; simp
/-- a number as it is read -/
def numOf (l : List Int) : Int := wrap64 (val l)
theorem numOf_small {l : List Int} (h : Small l) (h7 : l.length ≤ 7) : numOf l = val l := by
  obtain ⟨a, b⟩ := val_range h
  have : (256 : Int) ^ l.length ≤ 256 ^ 7 := by
    have := Nat.pow_le_pow_right (n := 256) (by omega) h7
    have e1 : ((256 ^ l.length : Nat) : Int) = (256 : Int) ^ l.length := by simp
    have e2 : ((256 ^ 7 : Nat) : Int) = (256 : Int) ^ 7 := by simp
    omega
  have e3 : (256 : Int) ^ 7 = 72057594037927936 := by decide
  unfold numOf wrap64
  omega
end Go.Proofs.Ytajflegjpnmloaa.Field
