/- Walks: alive of chapter 18, RequestTorn. -/
import Derived.Test.YtehlcljachkgdaaReqAns
namespace Go.Proofs.Ytehlcljachkgdaa.Req
open Go.RowKit Go.Proofs.YtehlcljachkgdaaW.PrintWords Go.Proofs.YtehlcljachkgdaaW.PrintLast Go.Proofs.Ytehlcljachkgdaa.Kit Go.Proofs.Ytehlcljachkgdaa.Field

theorem num18 (n : Int) (w : World) : Calls Try.prog 18 #[.int .i64 n] w fun e w' => e = .returned (.int .i64 n) ∧ w = w' := by
  go_enter Try.func18, Try.ntmps18
  go_wp2_with fail
  go_ret
  exact ⟨rfl, rfl⟩
theorem req47 : reqB 4 7 [] = reqL 4 7 [] := by unfold reqB; rw [if_pos (by decide)]
theorem read47 : readReq (reqL 4 7 []) = some (4, 7, []) := read_back small_nil (by decide)
theorem len47 : (reqL 4 7 []).length = 7 := reqL_length 4 7 []

set_option maxHeartbeats 1000000 in
theorem live18 (w : World) : Calls Try.prog 9 #[] w fun e w' => e = .returned (.bool true) ∧ Below w.heap.size w w' := by
  go_enter Try.func9, Try.ntmps9
  go_wp2_with fail
  refine (read_calls none 0 0 [] _ (reads_nil _ _) small_nil (by omega)).mono ?_
  rw [(read_short (by simp)).1]
  rintro e w1 ⟨rfl, hb1⟩
  have HB1 := Lib.hid hb1
  clear hb1
  go_wp2_with fail
  have hb2 := HB1.out.trans ((below_alloc1 w1 (.cells #[.int .i64 0, .int .i64 0, .slice none 0 0] 25)).mono HB1.out.size)
  have HB2 := Lib.hid hb2
  clear hb2 HB1
  refine (bytes_calls 4 7 none 0 0 [] _ (reads_nil _ _)).mono ?_
  rw [req47]
  rintro e w2 ⟨v2, rfl, hg⟩
  have ho := hg.1
  rw [len47] at ho
  obtain ⟨A2, c2, rfl, hr2⟩ := own_reads ho
  have HB3 := Lib.hid (HB2.out.trans (hg.2.mono HB2.out.size))
  have HR2 := Lib.hid hr2
  clear hg ho hr2 HB2
  go_wp2_with fail
  refine (read_calls A2 7 c2 (reqL 4 7 []) _ HR2.out (reqL_small small_nil) (by omega)).mono ?_
  rw [read47]
  rintro e w3 ⟨v3, rfl, hg⟩
  obtain ⟨A3, c3, rfl, -⟩ := hg.reads
  have HB4 := Lib.hid (HB3.out.trans (hg.2.mono HB3.out.size))
  clear hg HB3 HR2
  go_wp2_with fail
  refine (num18 6 _).mono ?_
  rintro e w' ⟨rfl, rfl⟩
  go_wp2_with fail
  refine (num18 0 _).mono ?_
  rintro e w' ⟨rfl, rfl⟩
  go_wp2_with fail
  go_ret
  exact ⟨rfl, HB4.out.alloc HB4.out.size _⟩

theorem torn_take (k n : Int) (bs : List Int) (hs : Small bs) (h : right k n bs.length = true) (j : Nat) (hj : j < 7 + bs.length) : readReq ((reqL k n bs).take j) = none := by
  obtain ⟨h1, h2, h3, h4, h5⟩ := right_le h
  by_cases h7 : j < 7
  · exact (read_short (by rw [List.length_take]; omega)).1
  · have e : (reqL k n bs).take j = numL k 1 ++ (numL n 4 ++ (numL bs.length 2 ++ bs.take (j - 7))) := by
      have e1 : reqL k n bs = (numL k 1 ++ numL n 4 ++ numL bs.length 2) ++ bs := rfl
      rw [e1, List.take_append]
      have e2 : (numL k 1 ++ numL n 4 ++ numL (↑bs.length) 2).length = 7 := by simp [numL_length]
      rw [e2, List.take_of_length_le (by rw [e2]; omega)]
      simp
    have e3 : val (numL bs.length 2) = bs.length := val_back (by omega) (by have h256 : (256 : Int) ^ 2 = 65536 := (by decide); omega)
    rw [e, (read_parts (numL_length _ _) (numL_length _ _) (numL_length _ _) (by rw [← e]; exact small_take (reqL_small hs) _)).1, if_neg]
    rintro ⟨hv, _⟩
    rw [e3, List.length_take] at hv
    omega
theorem torn_more (k n : Int) (bs : List Int) (hs : Small bs) (h : right k n bs.length = true) : readReq (reqL k n bs ++ [0]) = none := by
  obtain ⟨h1, h2, h3, h4, h5⟩ := right_le h
  have e : reqL k n bs ++ [0] = numL k 1 ++ (numL n 4 ++ (numL bs.length 2 ++ (bs ++ [0]))) := by simp [reqL]
  have e3 : val (numL bs.length 2) = bs.length := val_back (by omega) (by have h256 : (256 : Int) ^ 2 = 65536 := (by decide); omega)
  rw [e, (read_parts (numL_length _ _) (numL_length _ _) (numL_length _ _) (by rw [← e]; exact small_append (reqL_small hs) (small_mem (by decide)))).1, if_neg]
  rintro ⟨hv, _⟩
  rw [e3] at hv
  simp at hv
  omega
theorem ans_take (x n g : Int) (j : Nat) (hj : j < 9) : readAns ((ansL x n g).take j) = none := (ans_short (by rw [List.length_take]; omega)).1
theorem ans_more (x n g : Int) : readAns (ansL x n g ++ [0]) = none := by
  have e : ansL x n g ++ [0] = numL x 1 ++ (numL n 4 ++ (numL g 4 ++ [0])) := by simp [ansL]
  rw [e, (ans_parts (numL_length _ _) (numL_length _ _) (numL_length _ _) (by rw [← e]; exact small_append (ansL_small _ _ _) (small_mem (by decide)))).1, if_neg]
  rintro ⟨h, _⟩
  cases h
theorem own_cap {W : World} {b : Nat} {e : TypeId} {n c : Nat} {A : Option Addr} {xs : List Value} (h : W.ownsRow b e 1 (.slice A n c) n xs) : n ≤ c := by
  rcases h.2 with ⟨e, h0⟩ | ⟨g, cap, cur, e, _, _, h1, _⟩
  · omega
  · injection e with _ _ e3; omega

set_option maxHeartbeats 2000000 in
set_option maxRecDepth 100000 in
theorem torn_out (k n : Int) (A : Option Addr) (m c : Nat) (x xn xg q : Int) (w : World) (h : 1000 < m ∨ k < 1 ∨ 9 < k ∨ n < 0 ∨ 2147483647 < n ∨ x < 0 ∨ 16 < x ∨ xn < 0 ∨ 2147483647 < xn ∨ xg < 0 ∨ 2147483647 < xg ∨ q < 0) :
    Calls Try.prog 5 #[.agg #[.int .i64 k, .int .i64 n, .slice A m c], .agg #[.int .i64 x, .int .i64 xn, .int .i64 xg], .int .i64 q] w fun e w' => e = .returned (.bool true) ∧ Below w.heap.size w w' := by
  go_enter Try.func5, Try.ntmps5
  go_wp2_with fail
  have hh0 := heap_alloc_new w (.cells #[.int .i64 k, .int .i64 n, .slice A m c] 25)
  have hb0 := below_alloc1 w (.cells #[.int .i64 k, .int .i64 n, .slice A m c] 25)
  have hh1 := heap_alloc_new (w.alloc (.cells #[.int .i64 k, .int .i64 n, .slice A m c] 25)) (.cells #[.int .i64 x, .int .i64 xn, .int .i64 xg] 30)
  have hb1 := below_alloc1 (w.alloc (.cells #[.int .i64 k, .int .i64 n, .slice A m c] 25)) (.cells #[.int .i64 x, .int .i64 xn, .int .i64 xg] 30)
  have es : (w.alloc (.cells #[.int .i64 k, .int .i64 n, .slice A m c] 25)).heap.size = w.heap.size + 1 := by simp
  rw [es] at hh1 hb1
  refine (live18 _).mono ?_
  rintro e w1 ⟨rfl, hb2⟩
  have hh0' := (hb2.block w.heap.size (by simp; omega)).trans ((hb1.block w.heap.size (by omega)).trans hh0)
  have hh1' := (hb2.block (w.heap.size + 1) (by simp)).trans hh1
  obtain ⟨c0, c1, c2⟩ := cells_of hh0'
  obtain ⟨d0, d1, d2⟩ := cells_of hh1'
  have HB := Lib.hid (hb0.trans ((hb1.mono (by omega)).trans (hb2.mono (by simp; omega))))
  clear hh0 hb0 hh1 hb1 es hb2 hh0' hh1'
  go_wp2_with fail
  all_goals first
    | (exfalso; omega)
    | (go_ret; exact ⟨rfl, HB.out⟩)

end Go.Proofs.Ytehlcljachkgdaa.Req
