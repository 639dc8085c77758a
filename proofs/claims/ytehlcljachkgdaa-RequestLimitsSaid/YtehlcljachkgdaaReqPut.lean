/- Walks: requests and answers are written as the plain functions say. -/
import Derived.Test.YtehlcljachkgdaaReqPlain
import Derived.Test.YtehlcljachkgdaaFieldRaw
import Derived.Test.YtehlcljachkgdaaFieldRef
import Derived.Deep.RegionWith
namespace Go.Proofs.Ytehlcljachkgdaa.Req
open Go.RowKit Go.Proofs.YtehlcljachkgdaaW.PrintWords Go.Proofs.YtehlcljachkgdaaW.PrintLast Go.Proofs.Ytehlcljachkgdaa.Kit Go.Proofs.Ytehlcljachkgdaa.Field

theorem Wr.new (W : World) (T : TypeId) : Wr (W.alloc (.cells #[.slice none 0 0] T)) T W.heap.size W.heap.size (.slice none 0 0) [] := ⟨Nat.le_refl _, heap_alloc_new _ _, own_nil _ _ _ _⟩
theorem below_alloc1 (W : World) (o : Obj) : Below W.heap.size W (W.alloc o) := (Below.refl _ _).alloc (Nat.le_refl _) _
theorem clip_1 : clip 1 8 = 1 := by decide
theorem clip_2 : clip 2 8 = 2 := by decide
theorem clip_4 : clip 4 8 = 4 := by decide
theorem cells_of {W : World} {b : Nat} {v0 v1 v2 : Value} {T : TypeId} (h : W.heap[b]? = some (.cells #[v0, v1, v2] T (0, 0))) :
    W.cell? ⟨b, 0, none⟩ = some v0 ∧ W.cell? ⟨b, 1, none⟩ = some v1 ∧ W.cell? ⟨b, 2, none⟩ = some v2 := by
  refine ⟨?_, ?_, ?_⟩
  · rw [cell_of_row W b 0 _ T (0, 0) h]; rfl
  · rw [cell_of_row W b 1 _ T (0, 0) h]; rfl
  · rw [cell_of_row W b 2 _ T (0, 0) h]; rfl

theorem own_lower' {W : World} {b b' : Nat} {e : TypeId} {size n : Nat} {v : Value} {xs : List Value} (h : W.ownsRow b e size v n xs) (hb : b' ≤ b) : W.ownsRow b' e size v n xs := by
  refine ⟨h.1, ?_⟩
  rcases h.2 with h1 | ⟨r, cap, cur, e, hr, h2⟩
  · exact .inl h1
  · exact .inr ⟨r, cap, cur, e, by omega, h2⟩
theorem number_calls (n : Int) (w : World) : Calls Try.prog 53 #[.int .i64 n] w fun e w' => e = .returned (.bool (number n)) ∧ w = w' := by
  rcases (by omega : n < 0 ∨ 2147483647 < n ∨ (0 ≤ n ∧ n ≤ 2147483647)) with h | h | ⟨h, h'⟩
  all_goals
    go_enter Try.func53, Try.ntmps53
    go_wp2_with fail
    go_ret
    exact ⟨by unfold number; simp; try omega, rfl⟩
theorem number_no {n : Int} (h : n < 0 ∨ 2147483647 < n) : number n = false := by unfold number; simp; omega
theorem number_yes {n : Int} (h : 0 ≤ n) (h' : n ≤ 2147483647) : number n = true := by unfold number; simp; omega

theorem right_calls (k n : Int) (A : Option Addr) (m c : Nat) (w : World) :
    Calls Try.prog 28 #[.agg #[.int .i64 k, .int .i64 n, .slice A m c]] w fun e w' => e = .returned (.bool (right k n m)) ∧ Below w.heap.size w w' := by
  have hN : number n = true ∨ number n = false := by cases number n <;> simp
  rcases (by omega : k < 1 ∨ 9 < k ∨ (1 ≤ k ∧ k ≤ 9)) with h | h | ⟨h, h'⟩
  · have hy : right k n m = false := by unfold right; simp; omega
    have HY := Lib.hid hy
    clear hy hN
    go_enter Try.func28, Try.ntmps28
    go_wp2_with fail
    go_ret
    exact ⟨by rw [HY.out]; first | rfl | (simp; done) | (simp; omega), below_alloc1 _ _⟩
  · have hy : right k n m = false := by unfold right; simp; omega
    have HY := Lib.hid hy
    clear hy hN
    go_enter Try.func28, Try.ntmps28
    go_wp2_with fail
    go_ret
    exact ⟨by rw [HY.out]; first | rfl | (simp; done) | (simp; omega), below_alloc1 _ _⟩
  · rcases hN with hN | hN
    · by_cases hm : m ≤ 1000
      · have hy : right k n m = true := by unfold right; simp [hN]; omega
        have HY := Lib.hid hy
        have HN := Lib.hid hN
        clear hy hN
        go_enter Try.func28, Try.ntmps28
        go_wp2_with (go_at_call 53; refine (number_calls n _).mono ?_; rintro e w' ⟨rfl, rfl⟩; rw [HN.out])
        go_ret
        exact ⟨by rw [HY.out]; first | rfl | (simp; done) | (simp; omega), below_alloc1 _ _⟩
      · have hy : right k n m = false := by unfold right; simp; omega
        have HY := Lib.hid hy
        have HN := Lib.hid hN
        clear hy hN
        go_enter Try.func28, Try.ntmps28
        go_wp2_with (go_at_call 53; refine (number_calls n _).mono ?_; rintro e w' ⟨rfl, rfl⟩; rw [HN.out])
        go_ret
        exact ⟨by rw [HY.out]; first | rfl | (simp; done) | (simp; omega), below_alloc1 _ _⟩
    · have hy : right k n m = false := by unfold right; rw [hN]; simp
      have HY := Lib.hid hy
      have HN := Lib.hid hN
      clear hy hN
      go_enter Try.func28, Try.ntmps28
      go_wp2_with (go_at_call 53; refine (number_calls n _).mono ?_; rintro e w' ⟨rfl, rfl⟩; rw [HN.out])
      go_ret
      exact ⟨by rw [HY.out]; first | rfl | (simp; done) | (simp; omega), below_alloc1 _ _⟩

theorem rightA_calls (x n g : Int) (w : World) :
    Calls Try.prog 32 #[.agg #[.int .i64 x, .int .i64 n, .int .i64 g]] w fun e w' => e = .returned (.bool (rightA x n g)) ∧ Below w.heap.size w w' := by
  have hN : number n = true ∨ number n = false := by cases number n <;> simp
  have hG : number g = true ∨ number g = false := by cases number g <;> simp
  rcases (by omega : x < 0 ∨ 16 < x ∨ (0 ≤ x ∧ x ≤ 16)) with h | h | ⟨h, h'⟩
  · have hy : rightA x n g = false := by unfold rightA; simp; omega
    have HY := Lib.hid hy
    clear hy hN hG
    go_enter Try.func32, Try.ntmps32
    go_wp2_with fail
    go_ret
    exact ⟨by rw [HY.out]; first | rfl | (simp; done) | (simp; omega), below_alloc1 _ _⟩
  · have hy : rightA x n g = false := by unfold rightA; simp; omega
    have HY := Lib.hid hy
    clear hy hN hG
    go_enter Try.func32, Try.ntmps32
    go_wp2_with fail
    go_ret
    exact ⟨by rw [HY.out]; first | rfl | (simp; done) | (simp; omega), below_alloc1 _ _⟩
  · have hy : rightA x n g = (number n && number g) := by unfold rightA; simp [h, h']
    have HY := Lib.hid hy
    clear hy
    have ha := fun W => number_calls n W
    have hb := fun W => number_calls g W
    rcases hN with hN | hN <;> rcases hG with hG | hG
    all_goals
      rw [hN] at ha HY
      rw [hG] at hb HY
      have HA := Lib.hid ha
      have HBB := Lib.hid hb
      clear ha hb hN hG
      go_enter Try.func32, Try.ntmps32
      go_wp2_with fail
      refine (HA.out _).mono ?_
      rintro e w' ⟨rfl, rfl⟩
      go_wp2_with fail
      first
        | (go_ret; exact ⟨by rw [HY.out]; first | rfl | (simp; done) | (simp; omega), below_alloc1 _ _⟩)
        | (refine (HBB.out _).mono ?_
           rintro e w' ⟨rfl, rfl⟩
           go_wp2_with fail
           go_ret
           exact ⟨by rw [HY.out]; first | rfl | (simp; done) | (simp; omega), below_alloc1 _ _⟩)
end Go.Proofs.Ytehlcljachkgdaa.Req
