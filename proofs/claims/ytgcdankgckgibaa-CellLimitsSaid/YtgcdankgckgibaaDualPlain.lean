/- Plain facts: bytes written twice over, and read back; no program in sight. -/
import Derived.Test.YtgcdankgckgibaaKit
namespace Go.Proofs.Ytgcdankgckgibaa.Dual
open Go.RowKit Go.Proofs.YtgcdankgckgibaaW.PrintWords Go.Proofs.YtgcdankgckgibaaW.PrintLast Go.Proofs.Ytgcdankgckgibaa.Kit

/-- each byte, and it with all its bits turned -/
def put (xs : List Int) : List Int := xs.flatMap fun x => [x, 255 - x]
/-- bytes read back; none: they are none -/
def get : List Int → Option (List Int)
  | [] => some []
  | [_] => none
  | x :: y :: r => if x = 255 - y then (get r).map (x :: ·) else none

theorem put_length (xs : List Int) : (put xs).length = 2 * xs.length := by
  induction xs with
  | nil => rfl
  | cons x xs ih => simp only [put, List.flatMap_cons, List.length_append, List.length_cons, List.length_nil] at *; omega
theorem put_snoc (xs : List Int) (x : Int) : put (xs ++ [x]) = put xs ++ [x, 255 - x] := by simp [put]
theorem put_take (xs : List Int) (k : Nat) (h : k < xs.length) : put (xs.take (k + 1)) = put (xs.take k) ++ [rd xs k, 255 - rd xs k] := by
  rw [List.take_succ_eq_append_getElem h, put_snoc, rd_lt h]
theorem put_small {xs : List Int} (h : Small xs) : Small (put xs) := by
  refine small_mem fun x hx => ?_
  obtain ⟨y, hy, hm⟩ := List.mem_flatMap.1 hx
  have := mem_small h y hy
  simp only [List.mem_cons, List.not_mem_nil, or_false] at hm
  omega
theorem get_put (xs : List Int) : get (put xs) = some xs := by
  induction xs with
  | nil => rfl
  | cons x xs ih =>
    have e : put (x :: xs) = x :: (255 - x) :: put xs := rfl
    rw [e, get, if_pos (by omega), ih]
    rfl
theorem get_odd : ∀ (xs : List Int), xs.length % 2 = 1 → get xs = none
  | [], h => by simp at h
  | [_], _ => rfl
  | x :: y :: r, h => by
    have hr : r.length % 2 = 1 := by simp only [List.length_cons] at h; omega
    rw [get, get_odd r hr]
    split <;> rfl
theorem get_length : ∀ {xs ys : List Int}, get xs = some ys → xs.length = 2 * ys.length
  | [], ys, h => by simp [get] at h; subst h; rfl
  | [_], ys, h => by simp [get] at h
  | x :: y :: r, ys, h => by
    rw [get] at h
    split at h
    · cases hr : get r with
      | none => rw [hr] at h; simp at h
      | some zs =>
        rw [hr] at h
        simp at h
        subst h
        have := get_length hr
        simp only [List.length_cons]
        omega
    · cases h
theorem get_small : ∀ {xs ys : List Int}, get xs = some ys → (∀ x ∈ xs, 0 ≤ x ∧ x ≤ 255) → ∀ y ∈ ys, 0 ≤ y ∧ y ≤ 255
  | [], ys, h, _ => by simp [get] at h; subst h; intro y hy; cases hy
  | [_], ys, h, _ => by simp [get] at h
  | x :: y :: r, ys, h, hs => by
    rw [get] at h
    split at h
    · cases hr : get r with
      | none => rw [hr] at h; simp at h
      | some zs =>
        rw [hr] at h
        simp at h
        subst h
        intro z hz
        rcases List.mem_cons.1 hz with rfl | hz
        · exact hs _ (by simp)
        · exact get_small hr (fun u hu => hs u (by simp [hu])) z hz
    · cases h

/-- the first of each two, of the first k -/
def evens (xs : List Int) (k : Nat) : List Int := (List.range k).map fun j => rd xs ((2 * j : Nat) : Int)
theorem evens_zero (xs : List Int) : evens xs 0 = [] := rfl
theorem evens_succ (xs : List Int) (k : Nat) : evens xs (k + 1) = evens xs k ++ [rd xs ((2 * k : Nat) : Int)] := by simp [evens, List.range_succ]
theorem evens_length (xs : List Int) (k : Nat) : (evens xs k).length = k := by simp [evens]
/-- what is read, said of what is left -/
def upto (xs : List Int) (k : Nat) : Prop := get xs = (get (xs.drop (2 * k))).map (evens xs k ++ ·)
theorem upto_zero (xs : List Int) : upto xs 0 := by simp [upto, evens]
theorem drop_two {xs : List Int} {k : Nat} (h : 2 * k + 1 < xs.length) : xs.drop (2 * k) = rd xs ((2 * k : Nat) : Int) :: rd xs ((2 * k + 1 : Nat) : Int) :: xs.drop (2 * (k + 1)) := by
  rw [List.drop_eq_getElem_cons (by omega), List.drop_eq_getElem_cons (by omega), rd_lt (by omega), rd_lt h]
  rfl
theorem upto_succ {xs : List Int} {k : Nat} (h : 2 * k + 1 < xs.length) (hu : upto xs k) (he : rd xs ((2 * k : Nat) : Int) = 255 - rd xs ((2 * k + 1 : Nat) : Int)) : upto xs (k + 1) := by
  unfold upto at *
  rw [hu, drop_two h, get, if_pos he, evens_succ]
  cases get (xs.drop (2 * (k + 1))) <;> simp
theorem upto_stop {xs : List Int} {k : Nat} (h : 2 * k + 1 < xs.length) (hu : upto xs k) (he : ¬ rd xs ((2 * k : Nat) : Int) = 255 - rd xs ((2 * k + 1 : Nat) : Int)) : get xs = none := by
  rw [upto] at hu
  rw [hu, drop_two h, get, if_neg he]
  rfl
theorem upto_end {xs : List Int} {k : Nat} (h : xs.length = 2 * k) (hu : upto xs k) : get xs = some (evens xs k) := by
  rw [upto] at hu
  rw [hu, List.drop_of_length_le (by omega)]
  simp [get]
theorem xor255 (x : Int) (h0 : 0 ≤ x) (h1 : x ≤ 255) : bits .xor .u8 x 255 = 255 - x := by
  obtain ⟨n, rfl⟩ := Int.eq_ofNat_of_zero_le h0
  rw [show (255 : Int) = ((255 : Nat) : Int) from rfl, u8_xor_nat _ _ (by omega) (by decide)]
  have h : ∀ m : Nat, m < 256 → m ^^^ 255 = 255 - m := by decide +kernel
  rw [h n (by omega)]
  omega
theorem xor255' (x : Int) (h0 : 0 ≤ x) (h1 : x ≤ 255) : bits .xor .u8 255 x = 255 - x := by
  obtain ⟨n, rfl⟩ := Int.eq_ofNat_of_zero_le h0
  rw [show (255 : Int) = ((255 : Nat) : Int) from rfl, u8_xor_nat _ _ (by decide) (by omega)]
  have h : ∀ m : Nat, m < 256 → 255 ^^^ m = 255 - m := by decide +kernel
  rw [h n (by omega)]
  omega
/-- as the walk writes ^x of a byte -/
theorem not8 (x : Int) (h0 : 0 ≤ x) (h1 : x ≤ 255) : bits .xor .u8 (if IntKind.u8.signed = true then -1 else IntKind.u8.max) x = 255 - x := xor255' x h0 h1
theorem xor_eq255 (x y : Int) (h0 : 0 ≤ x) (h1 : x ≤ 255) (k0 : 0 ≤ y) (k1 : y ≤ 255) : bits .xor .u8 x y = 255 ↔ x = 255 - y := by
  obtain ⟨n, rfl⟩ := Int.eq_ofNat_of_zero_le h0
  obtain ⟨m, rfl⟩ := Int.eq_ofNat_of_zero_le k0
  rw [u8_xor_nat _ _ (by omega) (by omega)]
  have h : ∀ m : Nat, m < 256 → m ^^^ 255 = 255 - m := by decide +kernel
  constructor
  · intro e
    have e1 : n ^^^ m = 255 := by omega
    have e2 : n = 255 ^^^ m := by rw [← e1, Nat.xor_assoc, Nat.xor_self, Nat.xor_zero]
    rw [Nat.xor_comm, h m (by omega)] at e2
    omega
  · intro e
    have e1 : n = 255 - m := by omega
    have e2 : n = m ^^^ 255 := by rw [e1, h m (by omega)]
    rw [e2, Nat.xor_comm m 255, Nat.xor_assoc, Nat.xor_self, Nat.xor_zero]
    rfl
end Go.Proofs.Ytgcdankgckgibaa.Dual
