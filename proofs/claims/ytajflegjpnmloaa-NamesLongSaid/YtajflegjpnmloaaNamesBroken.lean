/- Plain for NamesBroken and NamesLong.  -/
import Derived.Test.YtajflegjpnmloaaNamesClean
namespace Go.Proofs.Ytajflegjpnmloaa.Names
open Go.Lib Go.RowKit Go.Proofs.YtajflegjpnmloaaW.PrintWords Go.Proofs.YtajflegjpnmloaaW.PrintLast Go.Proofs.Ytajflegjpnmloaa.Kit Go.Proofs.Ytajflegjpnmloaa.Runes Go.Proofs.Ytajflegjpnmloaa.RunePlain

/-- "a" and k bytes b behind it -/
def brk (b : Int) : Nat → ByteArray
  | 0 => ⟨#[97]⟩
  | k + 1 => brk b k ++ strOfNums [b]
theorem brk_data (b : Int) : ∀ k, (brk b k).data.toList = 97 :: List.replicate k (UInt8.ofNat b.toNat)
  | 0 => rfl
  | k + 1 => by
    show ((brk b k) ++ strOfNums [b]).data.toList = _
    rw [ByteArray.data_append, Array.toList_append, brk_data b k, strOfNums_data, List.replicate_succ']
    rfl
theorem decode_broken (x : UInt8) (h : 128 ≤ x.toNat) (m : Nat) : decodeL (x :: List.replicate m x) = (65533, 1) := by
  have hx := x.toNat_lt
  have e1 : m = 0 ∨ ((x :: List.replicate m x).getD 1 0 = x) := by
    cases m with
    | zero => exact Or.inl rfl
    | succ m => right; simp [List.replicate_succ]
  rw [decodeL_N]
  have e0 : (x :: List.replicate m x).getD 0 0 = x := rfl
  rw [e0]
  rcases decodeN_shape (x :: List.replicate m x).length x.toNat ((x :: List.replicate m x).getD 1 0).toNat ((x :: List.replicate m x).getD 2 0).toNat ((x :: List.replicate m x).getD 3 0).toNat with ⟨c, e⟩ | ⟨c1, c2, c3, cv, e⟩ | ⟨c1, c2, c3, c4, cv, cs, e⟩ | ⟨c1, c2, c3, c4, c5, cv, cw, e⟩ | e
  · omega
  all_goals first
    | exact e
    | (rcases e1 with e1 | e1
       · subst e1; simp at c2
       · rw [e1] at c3; omega)
theorem runesOf_broken (x : UInt8) (h : 128 ≤ x.toNat) : ∀ m, runesOf (List.replicate m x) = List.replicate m 65533
  | 0 => rfl
  | m + 1 => by
    rw [List.replicate_succ, runesOf_cons _ (by simp), decode_broken x h m]
    simp only [List.drop_succ_cons, List.drop_zero]
    rw [runesOf_broken x h m, List.replicate_succ]
    rfl
theorem runes_brk (b : Int) (h0 : 128 ≤ b) (h1 : b < 256) (k : Nat) : runes (brk b k) = 97 :: List.replicate k 65533 := by
  have hx : 128 ≤ (UInt8.ofNat b.toNat).toNat := by simp; omega
  rw [runes_eq, brk_data, runesOf_cons _ (by simp)]
  have e : decodeL (97 :: List.replicate k (UInt8.ofNat b.toNat)) = (97, 1) := by
    rw [decodeL_N]; rfl
  rw [e]
  simp only [List.drop_succ_cons, List.drop_zero]
  rw [runesOf_broken _ hx]
  rfl
theorem map_rep (m : Nat) : ((List.replicate m (65533 : Int)).map smallI).filter mayB = [] := by
  induction m with
  | zero => rfl
  | succ m ih => rw [List.replicate_succ, List.map_cons, List.filter_cons, ih]; rfl
theorem clean_brk (k : Nat) : runesBytes (cleanL (97 :: List.replicate k 65533)) = ⟨#[97]⟩ := by
  have e : cleanL (97 :: List.replicate k 65533) = [97] := by
    unfold cleanL
    rw [List.map_cons, List.filter_cons, map_rep]
    rfl
  rw [e]
  decide +kernel
theorem valid_brk (k : Nat) : validB (97 :: List.replicate k 65533) = decide (k = 0) := by
  cases k with
  | zero => decide +kernel
  | succ k => rw [List.replicate_succ]; rfl
/-- k runes c -/
theorem rep_add (c : Int) (k : Nat) : runesBytes (List.replicate (k + 1) c) = runesBytes (List.replicate k c) ++ Utf8.encode c := by
  rw [List.replicate_succ']
  unfold runesBytes
  rw [List.foldl_append]
  rfl
theorem enc_z : Utf8.encode 122 = ⟨#[122]⟩ := by decide +kernel
theorem enc_o : Utf8.encode 969 = ⟨#[207, 137]⟩ := by decide +kernel
theorem runes_rep (c : Int) (h : mayB c = true) (k : Nat) : runes (runesBytes (List.replicate k c)) = List.replicate k c :=
  runes_runesBytes _ fun r hr => by rw [List.eq_of_mem_replicate hr]; exact may_valid h
theorem all_rep (c : Int) (h : mayB c = true) (k : Nat) : (List.replicate k c).all mayB = true := by
  simp only [List.all_eq_true]
  intro x hx
  rw [List.eq_of_mem_replicate hx]; exact h
theorem valid_rep (c : Int) (h : mayB c = true) (k : Nat) : validB (List.replicate k c) = (decide (1 ≤ k) && decide (k ≤ 8)) := by
  unfold validB
  rw [all_rep c h k, List.length_replicate, Bool.true_and]
theorem clean_rep (c : Int) (h : mayB c = true) (k : Nat) : (cleanL (List.replicate k c)).length = min 8 k := by
  unfold cleanL
  rw [map_small _ (all_rep c h k), List.filter_eq_self.2 (by intro x hx; rw [List.eq_of_mem_replicate hx]; exact h), List.length_take, List.length_replicate]
end Go.Proofs.Ytajflegjpnmloaa.Names
