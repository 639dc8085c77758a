/- Walks: request.Bytes, Answer and the reference's write what the plain functions say. -/
import Derived.Test.YtehlcljachkgdaaReqPut
namespace Go.Proofs.Ytehlcljachkgdaa.Req
open Go.RowKit Go.Proofs.YtehlcljachkgdaaW.PrintWords Go.Proofs.YtehlcljachkgdaaW.PrintLast Go.Proofs.Ytehlcljachkgdaa.Kit Go.Proofs.Ytehlcljachkgdaa.Field

theorem reqL_eq (k n : Int) (bs : List Int) (m : Nat) (h : bs.length = m) : numL k 1 ++ numL n 4 ++ numL m 2 ++ rawL bs m = reqL k n bs := by
  subst h; rw [rawL_self]; rfl

set_option maxHeartbeats 2000000 in
theorem bytes_yes (k n : Int) (A : Option Addr) (m c : Nat) (bs : List Int) (w : World) (hr : ReadsInt w .u8 A m bs) (hy : right k n m = true) :
    Calls Try.prog 10 #[.agg #[.int .i64 k, .int .i64 n, .slice A m c]] w fun e w' => ∃ v, e = .returned v ∧ Gives w w' v (reqL k n bs) := by
  have hm : m ≤ 1000 := (right_le hy).2.2.2.2
  have hreq := reqL_eq k n bs m hr.1
  have hrl := reqL_length k n bs
  rw [hr.1] at hrl
  have hcm : clip (m : Int) 1000 = m := by rw [clip_in (by omega) (by omega)]; omega
  have HCM := Lib.hid hcm
  have HREQ := Lib.hid hreq
  have HRL := Lib.hid hrl
  have HY := Lib.hid hy
  clear hy hcm hreq hrl
  go_enter Try.func10, Try.ntmps10
  go_wp2_with fail
  have hb0 := below_alloc1 w (.cells #[.int .i64 k, .int .i64 n, .slice A m c] 25)
  have hh0 : (w.alloc (.cells #[.int .i64 k, .int .i64 n, .slice A m c] 25)).heap[w.heap.size]? = some (.cells #[.int .i64 k, .int .i64 n, .slice A m c] 25 (0, 0)) := heap_alloc_new _ _
  refine (right_calls k n A m c _).mono ?_
  rintro e w1 ⟨rfl, hb1⟩
  rw [HY.out]
  have HH1 := Lib.hid ((hb1.block w.heap.size (by simp)).trans hh0)
  have HB1 := Lib.hid (hb0.trans (hb1.mono (by simp)))
  have hs1 : w.heap.size < w1.heap.size := by have := hb1.size; simp at this; omega
  clear hb0 hh0 hb1
  obtain ⟨c0, c1, c2⟩ := cells_of HH1.out
  go_wp2_with fail
  have HW := Lib.hid (Wr.new w1 65)
  have HB2 := Lib.hid (HB1.out.trans ((below_alloc1 w1 (.cells #[.slice none 0 0] 65)).mono HB1.out.size))
  have HH2 := Lib.hid (((below_alloc1 w1 (.cells #[.slice none 0 0] 65)).block w.heap.size hs1).trans HH1.out)
  clear c0 c1 c2 HH1 HB1
  refine (num_put w1.heap.size _ _ _ k 1 _ HW.out (by simp) (by simp)).mono ?_
  rintro e w2 ⟨rfl, v2, hw2, hn2, hf2⟩
  have hb2 := HW.out.to_below hf2 (by simp)
  have hs2 : w1.heap.size < w2.heap.size := by have := hf2.size; simp at this; omega
  rw [clip_1, List.nil_append] at hw2
  have HH3 := Lib.hid ((hb2.block w.heap.size hs1).trans HH2.out)
  have HB3 := Lib.hid (HB2.out.trans (hb2.mono (by omega)))
  have HW2 := Lib.hid hw2
  clear hw2 hn2 hf2 hb2 HH2 HB2 HW
  obtain ⟨c0, c1, c2⟩ := cells_of HH3.out
  go_wp2_with fail
  clear c0 c1 c2
  refine (num_put w1.heap.size _ _ _ n 4 _ HW2.out (by simp [numL_length]) (by omega)).mono ?_
  rintro e w3 ⟨rfl, v3, hw3, hn3, hf3⟩
  have hb3 := HW2.out.to_below hf3 (by omega)
  have hs3 : w1.heap.size < w3.heap.size := by have := hf3.size; omega
  rw [clip_4] at hw3
  have HH4 := Lib.hid ((hb3.block w.heap.size hs1).trans HH3.out)
  have HB4 := Lib.hid (HB3.out.trans (hb3.mono (by omega)))
  have HW3 := Lib.hid hw3
  clear hw3 hn3 hf3 hb3 HH3 HB3 HW2
  obtain ⟨c0, c1, c2⟩ := cells_of HH4.out
  go_wp2_with fail
  clear c0 c1 c2
  refine (num_put w1.heap.size _ _ _ m 2 _ HW3.out (by simp [numL_length]) (by omega)).mono ?_
  rintro e w4 ⟨rfl, v4, hw4, hn4, hf4⟩
  have hb4 := HW3.out.to_below hf4 (by omega)
  have hs4 : w1.heap.size < w4.heap.size := by have := hf4.size; omega
  rw [clip_2] at hw4
  have HH5 := Lib.hid ((hb4.block w.heap.size hs1).trans HH4.out)
  have HB5 := Lib.hid (HB4.out.trans (hb4.mono (by omega)))
  have HW4 := Lib.hid hw4
  clear hw4 hn4 hf4 hb4 HH4 HB4 HW3
  obtain ⟨c0, c1, c2⟩ := cells_of HH5.out
  go_wp2_with fail
  clear c0 c1 c2
  refine (raw_put w1.heap.size _ _ _ _ _ _ bs m _ HW4.out (by simp [numL_length]) (by omega) (hr.below HB5.out)).mono ?_
  rintro e w5 ⟨rfl, v5, hw5, hn5, hf5⟩
  have hb5 := HW4.out.to_below hf5 (by omega)
  rw [HCM.out, HREQ.out] at hw5
  have HB6 := Lib.hid (HB5.out.trans (hb5.mono (by omega)))
  have HW5 := Lib.hid hw5
  clear hw5 hn5 hf5 hb5 HH5 HB5 HW4
  go_wp2_with fail
  refine (bytes_put _ _ _ _ _ HW5.out (by rw [HRL.out]; omega)).mono ?_
  rintro e w6 ⟨v6, rfl, hg⟩
  go_wp2_with fail
  go_ret
  exact ⟨v6, rfl, own_lower' hg.1 HB6.out.size, HB6.out.trans (hg.2.mono HB6.out.size)⟩
theorem bytes_no (k n : Int) (A : Option Addr) (m c : Nat) (w : World) (hy : right k n m = false) :
    Calls Try.prog 10 #[.agg #[.int .i64 k, .int .i64 n, .slice A m c]] w fun e w' => e = .returned (.slice none 0 0) ∧ Below w.heap.size w w' := by
  have HY := Lib.hid hy
  clear hy
  go_enter Try.func10, Try.ntmps10
  go_wp2_with fail
  have hb0 := below_alloc1 w (.cells #[.int .i64 k, .int .i64 n, .slice A m c] 25)
  refine (right_calls k n A m c _).mono ?_
  rintro e w1 ⟨rfl, hb1⟩
  rw [HY.out]
  have HB1 := Lib.hid (hb0.trans (hb1.mono (by simp)))
  clear hb0 hb1
  go_wp2_with fail
  go_ret
  exact ⟨rfl, HB1.out⟩
theorem bytes_calls (k n : Int) (A : Option Addr) (m c : Nat) (bs : List Int) (w : World) (hr : ReadsInt w .u8 A m bs) :
    Calls Try.prog 10 #[.agg #[.int .i64 k, .int .i64 n, .slice A m c]] w fun e w' => ∃ v, e = .returned v ∧ Gives w w' v (reqB k n bs) := by
  have hl := hr.1
  cases hy : right k n m with
  | true =>
    have e : reqB k n bs = reqL k n bs := by unfold reqB; rw [hl, if_pos hy]
    rw [e]
    exact bytes_yes k n A m c bs w hr hy
  | false =>
    have e : reqB k n bs = [] := by unfold reqB; rw [hl, if_neg (by rw [hy]; decide)]
    rw [e]
    refine (bytes_no k n A m c w hy).mono ?_
    rintro e w' ⟨rfl, hb⟩
    exact ⟨_, rfl, Gives.none_ hb⟩
end Go.Proofs.Ytehlcljachkgdaa.Req
