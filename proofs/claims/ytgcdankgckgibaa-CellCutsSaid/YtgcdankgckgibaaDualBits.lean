/- Plain facts: bytes some of whose bits are 1 still, or again. -/
import Derived.Test.YtgcdankgckgibaaDualPlain
namespace Go.Proofs.Ytgcdankgckgibaa.Dual
open Go.RowKit Go.Proofs.YtgcdankgckgibaaW.PrintWords Go.Proofs.YtgcdankgckgibaaW.PrintLast Go.Proofs.Ytgcdankgckgibaa.Kit

/-! ### bits turned to 1 -/
/-- the bytes, with some bits more -/
def orl (xs ms : List Int) : List Int := (List.range xs.length).map fun (i : Nat) => bits .or .u8 (rd xs (i : Int)) (rd ms (i : Int))
theorem orl_length (xs ms : List Int) : (orl xs ms).length = xs.length := by simp [orl]
theorem orl_at {xs ms : List Int} {i : Nat} (h : i < xs.length) : rd (orl xs ms) (i : Int) = bits .or .u8 (rd xs (i : Int)) (rd ms (i : Int)) := by
  rw [rd_lt (by rw [orl_length]; exact h)]
  simp [orl]
theorem or_le (x y : Int) (x0 : 0 ≤ x) (x1 : x ≤ 255) (y0 : 0 ≤ y) (y1 : y ≤ 255) : x ≤ bits .or .u8 x y ∧ bits .or .u8 x y ≤ 255 := by
  rw [u8_or _ _ x0 (by omega) y0 (by omega)]
  have h1 : x.toNat ≤ x.toNat ||| y.toNat := Nat.left_le_or
  have h2 : x.toNat ||| y.toNat < 2 ^ 8 := Nat.or_lt_two_pow (by omega) (by omega)
  omega
theorem orl_small {xs ms : List Int} (hx : Small xs) (hm : Small ms) : Small (orl xs ms) := by
  intro k
  by_cases hk : k < xs.length
  · rw [orl_at hk]
    obtain ⟨a, b⟩ := hx k
    obtain ⟨c, d⟩ := hm k
    obtain ⟨e, f⟩ := or_le _ _ a b c d
    omega
  · rw [rd_ge (by rw [orl_length]; omega)]; omega
/-- no byte of the first k is another -/
def same (xs ms : List Int) (k : Nat) : Bool := (List.range k).all fun (i : Nat) => rd (orl xs ms) (i : Int) == rd xs (i : Int)
theorem same_succ (xs ms : List Int) (k : Nat) : same xs ms (k + 1) = (same xs ms k && (rd (orl xs ms) (k : Int) == rd xs (k : Int))) := by
  simp [same, List.range_succ]
theorem same_all {xs ms : List Int} (h : same xs ms xs.length = true) : orl xs ms = xs := by
  apply List.ext_getElem (orl_length xs ms)
  intro i h1 h2
  unfold same at h
  rw [List.all_eq_true] at h
  have := h i (by simpa using h2)
  rw [beq_iff_eq, rd_lt h1, rd_lt h2] at this
  exact this
theorem same_of {xs ms : List Int} (h : orl xs ms = xs) (k : Nat) : same xs ms k = true := by
  unfold same
  rw [List.all_eq_true]
  intro i _
  rw [h]
  simp
theorem get_above : ∀ (xs cs : List Int), cs.length = 2 * xs.length → (∀ k : Nat, k < cs.length → rd (put xs) (k : Int) ≤ rd cs (k : Int)) → (get cs).isSome = true → cs = put xs
  | [], cs, h, _, _ => by
    have : cs = [] := List.eq_nil_of_length_eq_zero (by simpa using h)
    rw [this]; rfl
  | x :: xs, [], h, _, _ => by simp at h
  | x :: xs, [_], h, _, _ => by simp at h; omega
  | x :: xs, c0 :: c1 :: r, h, ha, hg => by
    have e : put (x :: xs) = x :: (255 - x) :: put xs := rfl
    rw [e] at ha ⊢
    have h0 := ha 0 (by simp)
    have h1 := ha 1 (by simp)
    have r0 : ∀ (p q : Int) (l : List Int), rd (p :: q :: l) ((0 : Nat) : Int) = p := fun _ _ _ => rfl
    have r1 : ∀ (p q : Int) (l : List Int), rd (p :: q :: l) ((1 : Nat) : Int) = q := fun _ _ _ => rfl
    rw [r0, r0] at h0
    rw [r1, r1] at h1
    rw [get] at hg
    by_cases hc : c0 = 255 - c1
    · rw [if_pos hc] at hg
      have hr : (get r).isSome = true := by
        cases hq : get r with
        | none => rw [hq] at hg; simp at hg
        | some z => rfl
      have ih := get_above xs r (by simp only [List.length_cons] at h; omega) (fun k hk => by
        have := ha (k + 2) (by simp only [List.length_cons]; omega)
        have r2 : ∀ (p q : Int) (l : List Int), rd (p :: q :: l) ((k + 2 : Nat) : Int) = rd l (k : Int) := fun _ _ _ => rfl
        rwa [r2, r2] at this) hr
      rw [ih]
      have e0 : c0 = x := by omega
      have e1 : c1 = 255 - x := by omega
      rw [e0, e1]
    · rw [if_neg hc] at hg
      simp at hg
theorem get_orl {xs ms : List Int} (hx : Small xs) (hm : Small ms) (h : same (put xs) ms (put xs).length = false) : get (orl (put xs) ms) = none := by
  cases hg : get (orl (put xs) ms) with
  | none => rfl
  | some z =>
    have e := get_above xs (orl (put xs) ms) (by rw [orl_length, put_length]) (fun k hk => by
      rw [orl_length] at hk
      rw [orl_at hk]
      obtain ⟨a, b⟩ := put_small hx k
      obtain ⟨c, d⟩ := hm k
      exact (or_le _ _ a b c d).1) (by rw [hg]; rfl)
    rw [same_of e] at h
    cases h
/-- what is in the new row when k places are written -/
def built (cs : List Int) (k : Nat) : List Int := cs.take k ++ List.replicate (cs.length - k) 0
theorem built_zero (cs : List Int) : built cs 0 = List.replicate cs.length 0 := by simp [built]
theorem built_length (cs : List Int) (k : Nat) (h : k ≤ cs.length) : (built cs k).length = cs.length := by simp [built]; omega
theorem built_all (cs : List Int) : built cs cs.length = cs := by simp [built]
theorem built_set (cs : List Int) (k : Nat) (h : k < cs.length) : (built cs k).set k (rd cs (k : Int)) = built cs (k + 1) := by
  unfold built
  rw [List.set_append_right _ _ (by simp; omega), List.length_take, Nat.min_eq_left (by omega), Nat.sub_self, rd_lt h]
  have e : cs.length - k = (cs.length - (k + 1)) + 1 := by omega
  rw [e, List.replicate_succ, List.set_cons_zero, List.take_succ_eq_append_getElem h, List.append_assoc]
  rfl
theorem built_at (cs : List Int) (k j : Nat) (h : k < j) (hj : j ≤ cs.length) : rd (built cs j) (k : Int) = rd cs (k : Int) := by
  unfold built
  simp only [rd, List.getD_eq_getElem?_getD, Int.toNat_natCast]
  rw [List.getElem?_append_left (by simp; omega), List.getElem?_take, if_pos h]
end Go.Proofs.Ytgcdankgckgibaa.Dual
