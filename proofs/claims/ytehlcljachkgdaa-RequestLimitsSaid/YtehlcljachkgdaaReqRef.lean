/- Walks: request.Answer and the reference's ReqBytes, AnswerBytes write what the plain functions say. -/
import Derived.Test.YtehlcljachkgdaaReqBytes
import Derived.Deep.RegionLaw
import Derived.Maps.AppendAt
namespace Go.Proofs.Ytehlcljachkgdaa.Req
open Go.RowKit Go.Proofs.YtehlcljachkgdaaW.PrintWords Go.Proofs.YtehlcljachkgdaaW.PrintLast Go.Proofs.Ytehlcljachkgdaa.Kit Go.Proofs.Ytehlcljachkgdaa.Field
attribute [local go_sem ↓] Go.wp_at_zero Go.wp_at_succ

/-- append onto a row of the call's own, the source whatever is read: the run -/
theorem run_append_reads {P : Program} (W : World) (base : Nat) (t ty e : TypeId) (ht : P.underlying t = some (.slice e)) (hinfo : (P.info? e).map (fun i => (i.zero, i.size, i.bytes)) = some (some (.int .u8 0), 1, 1))
    (v : Value) (xs ys : List Int) (A : Option Addr) (m c : Nat) (HO : W.ownsRow base e 1 v xs.length (nums .u8 xs)) (HR : ReadsInt W .u8 A m ys) (hbase : base ≤ W.heap.size) (hl : xs.length + m ≤ 140737488355328) :
    ∃ v1 w1, (Builtin.append_ #[t, t] ty #[v, .slice A m c]).run P W = .ok v1 w1 ∧ w1.ownsRow base e 1 v1 (xs ++ ys).length (nums .u8 (xs ++ ys)) ∧ W.grownBy w1 v.ownBlock ∧ rowNext W v v1 := by
  obtain ⟨i0, hi, hzz⟩ := Option.map_eq_some_iff.1 hinfo
  simp only [Prod.mk.injEq] at hzz
  obtain ⟨hz0, hz1, hz2⟩ := hzz
  have hm : ys.length = m := HR.1
  rcases Nat.eq_zero_or_pos m with h0 | h0
  · subst h0
    obtain rfl : ys = [] := List.eq_nil_of_length_eq_zero hm
    refine ⟨v, W, ?_, by simpa using HO, World.grownBy.refl W _, .inl rfl⟩
    rcases HO.2 with ⟨rfl, hn⟩ | ⟨g, cap, cur, rfl, _, _, hnc, _⟩
    · cases A <;> simp [Builtin.append_, run_underlying ht, sizeOf, typeInfo, hi, Builtin.lenOf, Builtin.firstCells, loadCells, loadCellsFrom]
    · cases A <;> simp [Builtin.append_, run_underlying ht, sizeOf, typeInfo, hi, Builtin.lenOf, Builtin.firstCells, hnc, storeCells, loadCells, loadCellsFrom]
  · obtain ⟨ad, rfl, hc⟩ := HR.2.2 h0
    have hcells : ∀ j u, (nums .u8 ys)[j]? = some u → W.cell? (ad.add j) = some u := by
      intro j u hu
      have hj : j < ys.length := by
        have := (List.getElem?_eq_some_iff.1 hu).1
        rwa [nums_length] at this
      have e1 : (nums .u8 ys)[j]? = some (.int .u8 (ys.getD j 0)) := by simp [nums, List.getElem?_eq_getElem hj, List.getD_eq_getElem?_getD]
      rw [e1] at hu
      rw [← hu]
      exact hc j (by omega)
    obtain ⟨v', w', hrun, h2, h3, _, h5⟩ := run_append_own_at (P := P) W base t ty e i0 (.int .u8 0) 1 1 ht hi hz0 hz1 hz2 rfl (by decide) v xs.length (nums .u8 xs) HO ad m c (nums .u8 ys) (by rw [nums_length, hm]; simp) hcells
      (by intro u hu; simp only [nums, List.mem_map] at hu; obtain ⟨q, _, rfl⟩ := hu; rfl) (by simp only [maxLen]; omega) (by omega) hbase
    refine ⟨v', w', hrun, ?_, h3, ?_⟩
    · rw [List.length_append, nums_append, hm]; exact h2
    · rcases h5 with h5 | h5
      · exact .inl h5
      · exact .inr ⟨_, h5, Nat.le_refl _⟩
theorem step_reads {P : Program} {ops : Array Oper} {o : Oper} {a : Act} {K : Act → World → Prop} {Q : Exit → Act → World → Prop} {E : Prop} {W : World} (base : Nat) (hgd : o.guard = none) (s x : Operand) (t e : TypeId)
    (ho : o.op = .call { callee := .builtin .append, args := #[s, x], argTypes := #[t, t] })
    (ht : P.underlying t = some (.slice e)) (hinfo : (P.info? e).map (fun i => (i.zero, i.size, i.bytes)) = some (some (.int .u8 0), 1, 1))
    (v : Value) (xs ys : List Int) (A : Option Addr) (m c : Nat) (hs : a.eval s = v) (hx : a.eval x = .slice A m c)
    (HO : W.ownsRow base e 1 v xs.length (nums .u8 xs)) (HR : ReadsInt W .u8 A m ys) (hbase : base ≤ W.heap.size) (hl : xs.length + m ≤ 140737488355328)
    (h : ∀ A1 n1 c1 w1, w1.ownsRow base e 1 (.slice A1 n1 c1) (xs ++ ys).length (nums .u8 (xs ++ ys)) → W.grownBy w1 v.ownBlock → K (a.put o.dst (.slice A1 n1 c1)) w1) :
    if Region.wanted o (yielded ops a.tmps) = true then Oper.wp P o a W K Q else E := by
  have hw : Region.wanted o (yielded ops a.tmps) = true := by simp [Region.wanted, hgd]
  rw [if_pos hw]
  obtain ⟨v1, w1, hrun, h2, h3, _⟩ := run_append_reads (P := P) W base t o.type e ht hinfo v xs ys A m c HO HR hbase hl
  obtain ⟨A1, c1, rfl, _⟩ := own_reads h2
  unfold Oper.wp execOp
  simp only [ho, resolve, invoke, builtin, Sem.run_bind, Sem.run_pure, Result.andThen_ok, List.map_toArray, List.map_cons, List.map_nil, hs, hx, hrun]
  exact h _ _ _ w1 h2 h3

set_option maxHeartbeats 2000000 in
theorem answer_yes (x n g : Int) (w : World) (hy : rightA x n g = true) :
    Calls Try.prog 11 #[.agg #[.int .i64 x, .int .i64 n, .int .i64 g]] w fun e w' => ∃ v, e = .returned v ∧ Gives w w' v (ansL x n g) := by
  have hrl := ansL_length x n g
  have HRL := Lib.hid hrl
  have HY := Lib.hid hy
  clear hy hrl
  go_enter Try.func11, Try.ntmps11
  go_wp2_with fail
  have hb0 := below_alloc1 w (.cells #[.int .i64 x, .int .i64 n, .int .i64 g] 30)
  have hh0 : (w.alloc (.cells #[.int .i64 x, .int .i64 n, .int .i64 g] 30)).heap[w.heap.size]? = some (.cells #[.int .i64 x, .int .i64 n, .int .i64 g] 30 (0, 0)) := heap_alloc_new _ _
  refine (rightA_calls x n g _).mono ?_
  rintro e w1 ⟨rfl, hb1⟩
  rw [HY.out]
  have HH1 := Lib.hid ((hb1.block w.heap.size (by simp)).trans hh0)
  have HB1 := Lib.hid (hb0.trans (hb1.mono (by simp)))
  have hs1 : w.heap.size < w1.heap.size := by have := hb1.size; simp at this; omega
  clear hb0 hh0 hb1
  obtain ⟨c0, c1, c2⟩ := cells_of HH1.out
  go_wp2_with fail
  have HW := Lib.hid (Wr.new w1 65)
  have HB2 := Lib.hid (HB1.out.trans ((below_alloc1 w1 (.cells #[.slice none 0 0] 65)).mono HB1.out.size))
  have HH2 := Lib.hid (((below_alloc1 w1 (.cells #[.slice none 0 0] 65)).block w.heap.size hs1).trans HH1.out)
  clear c0 c1 c2 HH1 HB1
  refine (num_put w1.heap.size _ _ _ x 1 _ HW.out (by simp) (by simp)).mono ?_
  rintro e w2 ⟨rfl, v2, hw2, hn2, hf2⟩
  have hb2 := HW.out.to_below hf2 (by simp)
  have hs2 : w1.heap.size < w2.heap.size := by have := hf2.size; simp at this; omega
  rw [clip_1, List.nil_append] at hw2
  have HH3 := Lib.hid ((hb2.block w.heap.size hs1).trans HH2.out)
  have HB3 := Lib.hid (HB2.out.trans (hb2.mono (by omega)))
  have HW2 := Lib.hid hw2
  clear hw2 hn2 hf2 hb2 HH2 HB2 HW
  obtain ⟨c0, c1, c2⟩ := cells_of HH3.out
  go_wp2_with fail
  clear c0 c1 c2
  refine (num_put w1.heap.size _ _ _ n 4 _ HW2.out (by simp [numL_length]) (by omega)).mono ?_
  rintro e w3 ⟨rfl, v3, hw3, hn3, hf3⟩
  have hb3 := HW2.out.to_below hf3 (by omega)
  have hs3 : w1.heap.size < w3.heap.size := by have := hf3.size; omega
  rw [clip_4] at hw3
  have HH4 := Lib.hid ((hb3.block w.heap.size hs1).trans HH3.out)
  have HB4 := Lib.hid (HB3.out.trans (hb3.mono (by omega)))
  have HW3 := Lib.hid hw3
  clear hw3 hn3 hf3 hb3 HH3 HB3 HW2
  obtain ⟨c0, c1, c2⟩ := cells_of HH4.out
  go_wp2_with fail
  clear c0 c1 c2
  refine (num_put w1.heap.size _ _ _ g 4 _ HW3.out (by simp [numL_length]) (by omega)).mono ?_
  rintro e w4 ⟨rfl, v4, hw4, hn4, hf4⟩
  have hb4 := HW3.out.to_below hf4 (by omega)
  have hs4 : w1.heap.size < w4.heap.size := by have := hf4.size; omega
  rw [clip_4] at hw4
  have hw4 : Wr w4 65 w1.heap.size w1.heap.size v4 (ansL x n g) := hw4
  have HB5 := Lib.hid (HB4.out.trans (hb4.mono (by omega)))
  have HW4 := Lib.hid hw4
  clear hw4 hn4 hf4 hb4 HH4 HB4 HW3
  go_wp2_with fail
  refine (bytes_put _ _ _ _ _ HW4.out (by rw [HRL.out]; omega)).mono ?_
  rintro e w6 ⟨v6, rfl, hg⟩
  go_wp2_with fail
  go_ret
  exact ⟨v6, rfl, own_lower' hg.1 HB5.out.size, HB5.out.trans (hg.2.mono HB5.out.size)⟩
theorem answer_no (x n g : Int) (w : World) (hy : rightA x n g = false) :
    Calls Try.prog 11 #[.agg #[.int .i64 x, .int .i64 n, .int .i64 g]] w fun e w' => e = .returned (.slice none 0 0) ∧ Below w.heap.size w w' := by
  have HY := Lib.hid hy
  clear hy
  go_enter Try.func11, Try.ntmps11
  go_wp2_with fail
  have hb0 := below_alloc1 w (.cells #[.int .i64 x, .int .i64 n, .int .i64 g] 30)
  refine (rightA_calls x n g _).mono ?_
  rintro e w1 ⟨rfl, hb1⟩
  rw [HY.out]
  have HB1 := Lib.hid (hb0.trans (hb1.mono (by simp)))
  clear hb0 hb1
  go_wp2_with fail
  go_ret
  exact ⟨rfl, HB1.out⟩
theorem answer_calls (x n g : Int) (w : World) :
    Calls Try.prog 11 #[.agg #[.int .i64 x, .int .i64 n, .int .i64 g]] w fun e w' => ∃ v, e = .returned v ∧ Gives w w' v (ansB x n g) := by
  cases hy : rightA x n g with
  | true =>
    have e : ansB x n g = ansL x n g := by unfold ansB; rw [if_pos hy]
    rw [e]
    exact answer_yes x n g w hy
  | false =>
    have e : ansB x n g = [] := by unfold ansB; rw [if_neg (by rw [hy]; decide)]
    rw [e]
    refine (answer_no x n g w hy).mono ?_
    rintro e w' ⟨rfl, hb⟩
    exact ⟨_, rfl, Gives.none_ hb⟩

theorem ansRef_no (x n g : Int) (w : World) (hy : rightA x n g = false) :
    Calls Try.prog 19 #[.agg #[.int .i64 x, .int .i64 n, .int .i64 g]] w fun e w' => e = .returned (.slice none 0 0) ∧ Below w.heap.size w w' := by
  have hc : x < 0 ∨ (0 ≤ x ∧ 16 < x) ∨ (0 ≤ x ∧ x ≤ 16 ∧ n < 0) ∨ (0 ≤ x ∧ x ≤ 16 ∧ 0 ≤ n ∧ 2147483647 < n) ∨ (0 ≤ x ∧ x ≤ 16 ∧ 0 ≤ n ∧ n ≤ 2147483647 ∧ g < 0) ∨ (0 ≤ x ∧ x ≤ 16 ∧ 0 ≤ n ∧ n ≤ 2147483647 ∧ 0 ≤ g ∧ 2147483647 < g) := by
    simp [rightA, number] at hy; omega
  clear hy
  rcases hc with h | ⟨h1, h⟩ | ⟨h1, h2, h⟩ | ⟨h1, h2, h3, h⟩ | ⟨h1, h2, h3, h4, h⟩ | ⟨h1, h2, h3, h4, h5, h⟩
  all_goals
    go_enter Try.func19, Try.ntmps19
    go_wp2_with fail
    go_ret
    exact ⟨rfl, below_alloc1 _ _⟩
set_option maxHeartbeats 2000000 in
theorem ansRef_yes (x n g : Int) (w : World) (hy : rightA x n g = true) :
    Calls Try.prog 19 #[.agg #[.int .i64 x, .int .i64 n, .int .i64 g]] w fun e w' => ∃ v, e = .returned v ∧ Gives w w' v (ansL x n g) := by
  have hc : 0 ≤ x ∧ x ≤ 16 ∧ 0 ≤ n ∧ n ≤ 2147483647 ∧ 0 ≤ g ∧ g ≤ 2147483647 := by
    simp [rightA, number] at hy; omega
  obtain ⟨x0, x1, n0, n1, g0, g1⟩ := hc
  clear hy
  go_enter Try.func19, Try.ntmps19
  go_wp2_with fail
  have HB1 := Lib.hid (below_alloc1 w (.cells #[.int .i64 x, .int .i64 n, .int .i64 g] 30))
  have hh0 : (w.alloc (.cells #[.int .i64 x, .int .i64 n, .int .i64 g] 30)).heap[w.heap.size]? = some (.cells #[.int .i64 x, .int .i64 n, .int .i64 g] 30 (0, 0)) := heap_alloc_new _ _
  have hw0 : Wr ((w.alloc (.cells #[.int .i64 x, .int .i64 n, .int .i64 g] 30)).alloc (.cells #[.slice none 0 0] 79)) 79 (w.heap.size + 1) (w.heap.size + 1) (.slice none 0 0) [] :=
    ⟨by omega, by have := heap_alloc_new (w.alloc (.cells #[.int .i64 x, .int .i64 n, .int .i64 g] 30)) (.cells #[.slice none 0 0] 79); simpa using this, own_nil _ _ _ _⟩
  have HH2 := Lib.hid (((below_alloc1 (w.alloc (.cells #[.int .i64 x, .int .i64 n, .int .i64 g] 30)) (.cells #[.slice none 0 0] 79)).block w.heap.size (by simp)).trans hh0)
  have HB2 := Lib.hid (HB1.out.trans ((below_alloc1 (w.alloc (.cells #[.int .i64 x, .int .i64 n, .int .i64 g] 30)) (.cells #[.slice none 0 0] 79)).mono HB1.out.size))
  have HW := Lib.hid hw0
  clear hw0 hh0 HB1
  refine (num_ref (w.heap.size + 1) _ _ _ x 1 _ HW.out (by simp) (by simp)).mono ?_
  rintro e w2 ⟨rfl, v2, hw2, hn2, hf2⟩
  have hb2 := HW.out.to_below hf2 (by simp)
  have hs2 : w.heap.size + 1 < w2.heap.size := by have := hf2.size; simp at this; omega
  rw [clip_1, List.nil_append] at hw2
  have HH3 := Lib.hid ((hb2.block w.heap.size (by omega)).trans HH2.out)
  have HB3 := Lib.hid (HB2.out.trans (hb2.mono (by omega)))
  have HW2 := Lib.hid hw2
  clear hw2 hn2 hf2 hb2 HH2 HB2 HW
  obtain ⟨c0, c1, c2⟩ := cells_of HH3.out
  go_wp2_with fail
  clear c0 c1 c2
  refine (num_ref (w.heap.size + 1) _ _ _ n 4 _ HW2.out (by simp [numL_length]) (by omega)).mono ?_
  rintro e w3 ⟨rfl, v3, hw3, hn3, hf3⟩
  have hb3 := HW2.out.to_below hf3 (by omega)
  have hs3 : w.heap.size + 1 < w3.heap.size := by have := hf3.size; omega
  rw [clip_4] at hw3
  have HH4 := Lib.hid ((hb3.block w.heap.size (by omega)).trans HH3.out)
  have HB4 := Lib.hid (HB3.out.trans (hb3.mono (by omega)))
  have HW3 := Lib.hid hw3
  clear hw3 hn3 hf3 hb3 HH3 HB3 HW2
  obtain ⟨c0, c1, c2⟩ := cells_of HH4.out
  go_wp2_with fail
  clear c0 c1 c2
  refine (num_ref (w.heap.size + 1) _ _ _ g 4 _ HW3.out (by simp [numL_length]) (by omega)).mono ?_
  rintro e w4 ⟨rfl, v4, hw4, hn4, hf4⟩
  have hb4 := HW3.out.to_below hf4 (by omega)
  rw [clip_4] at hw4
  have hw4 : Wr w4 79 (w.heap.size + 1) (w.heap.size + 1) v4 (ansL x n g) := hw4
  have HB5 := Lib.hid (HB4.out.trans (hb4.mono (by omega)))
  have HW4 := Lib.hid hw4
  have c0 := HW4.out.cell0
  clear hw4 hn4 hf4 hb4 HH4 HB4 HW3
  go_wp2_with fail
  go_ret
  exact ⟨v4, rfl, own_lower' HW4.out.own (by omega), HB5.out⟩
theorem ansRef_calls (x n g : Int) (w : World) :
    Calls Try.prog 19 #[.agg #[.int .i64 x, .int .i64 n, .int .i64 g]] w fun e w' => ∃ v, e = .returned v ∧ Gives w w' v (ansB x n g) := by
  cases hy : rightA x n g with
  | true =>
    have e : ansB x n g = ansL x n g := by unfold ansB; rw [if_pos hy]
    rw [e]
    exact ansRef_yes x n g w hy
  | false =>
    have e : ansB x n g = [] := by unfold ansB; rw [if_neg (by rw [hy]; decide)]
    rw [e]
    refine (ansRef_no x n g w hy).mono ?_
    rintro e w' ⟨rfl, hb⟩
    exact ⟨_, rfl, Gives.none_ hb⟩

theorem reqRef_no (k n : Int) (A : Option Addr) (m c : Nat) (w : World) (hy : right k n m = false) :
    Calls Try.prog 16 #[.agg #[.int .i64 k, .int .i64 n, .slice A m c]] w fun e w' => e = .returned (.slice none 0 0) ∧ Below w.heap.size w w' := by
  have hc : k < 1 ∨ (1 ≤ k ∧ 9 < k) ∨ (1 ≤ k ∧ k ≤ 9 ∧ n < 0) ∨ (1 ≤ k ∧ k ≤ 9 ∧ 0 ≤ n ∧ 2147483647 < n) ∨ (1 ≤ k ∧ k ≤ 9 ∧ 0 ≤ n ∧ n ≤ 2147483647 ∧ 1000 < m) := by
    simp [right, number] at hy; omega
  clear hy
  rcases hc with h | ⟨h1, h⟩ | ⟨h1, h2, h⟩ | ⟨h1, h2, h3, h⟩ | ⟨h1, h2, h3, h4, h⟩
  all_goals
    go_enter Try.func16, Try.ntmps16
    go_wp2_with fail
    go_ret
    exact ⟨rfl, below_alloc1 _ _⟩
set_option maxHeartbeats 2000000 in
theorem reqRef_yes (k n : Int) (A : Option Addr) (m c : Nat) (bs : List Int) (w : World) (hr : ReadsInt w .u8 A m bs) (hy : right k n m = true) :
    Calls Try.prog 16 #[.agg #[.int .i64 k, .int .i64 n, .slice A m c]] w fun e w' => ∃ v, e = .returned v ∧ Gives w w' v (reqL k n bs) := by
  obtain ⟨k0, k1, n0, n1, m1⟩ := right_le hy
  have hreq : numL k 1 ++ numL n 4 ++ numL m 2 ++ bs = reqL k n bs := by rw [← hr.1]; rfl
  have HREQ := Lib.hid hreq
  clear hy hreq
  go_enter Try.func16, Try.ntmps16
  go_wp2_with fail
  have HB1 := Lib.hid (below_alloc1 w (.cells #[.int .i64 k, .int .i64 n, .slice A m c] 25))
  have hh0 : (w.alloc (.cells #[.int .i64 k, .int .i64 n, .slice A m c] 25)).heap[w.heap.size]? = some (.cells #[.int .i64 k, .int .i64 n, .slice A m c] 25 (0, 0)) := heap_alloc_new _ _
  have hw0 : Wr ((w.alloc (.cells #[.int .i64 k, .int .i64 n, .slice A m c] 25)).alloc (.cells #[.slice none 0 0] 79)) 79 (w.heap.size + 1) (w.heap.size + 1) (.slice none 0 0) [] :=
    ⟨by omega, by have := heap_alloc_new (w.alloc (.cells #[.int .i64 k, .int .i64 n, .slice A m c] 25)) (.cells #[.slice none 0 0] 79); simpa using this, own_nil _ _ _ _⟩
  have HH2 := Lib.hid (((below_alloc1 (w.alloc (.cells #[.int .i64 k, .int .i64 n, .slice A m c] 25)) (.cells #[.slice none 0 0] 79)).block w.heap.size (by simp)).trans hh0)
  have HB2 := Lib.hid (HB1.out.trans ((below_alloc1 (w.alloc (.cells #[.int .i64 k, .int .i64 n, .slice A m c] 25)) (.cells #[.slice none 0 0] 79)).mono HB1.out.size))
  have HW := Lib.hid hw0
  clear hw0 hh0 HB1
  refine (num_ref (w.heap.size + 1) _ _ _ k 1 _ HW.out (by simp) (by simp)).mono ?_
  rintro e w2 ⟨rfl, v2, hw2, hn2, hf2⟩
  have hb2 := HW.out.to_below hf2 (by simp)
  have hs2 : w.heap.size + 1 < w2.heap.size := by have := hf2.size; simp at this; omega
  rw [clip_1, List.nil_append] at hw2
  have HH3 := Lib.hid ((hb2.block w.heap.size (by omega)).trans HH2.out)
  have HB3 := Lib.hid (HB2.out.trans (hb2.mono (by omega)))
  have HW2 := Lib.hid hw2
  clear hw2 hn2 hf2 hb2 HH2 HB2 HW
  obtain ⟨c0, c1, c2⟩ := cells_of HH3.out
  go_wp2_with fail
  clear c0 c1 c2
  refine (num_ref (w.heap.size + 1) _ _ _ n 4 _ HW2.out (by simp [numL_length]) (by omega)).mono ?_
  rintro e w3 ⟨rfl, v3, hw3, hn3, hf3⟩
  have hb3 := HW2.out.to_below hf3 (by omega)
  have hs3 : w.heap.size + 1 < w3.heap.size := by have := hf3.size; omega
  rw [clip_4] at hw3
  have HH4 := Lib.hid ((hb3.block w.heap.size (by omega)).trans HH3.out)
  have HB4 := Lib.hid (HB3.out.trans (hb3.mono (by omega)))
  have HW3 := Lib.hid hw3
  clear hw3 hn3 hf3 hb3 HH3 HB3 HW2
  obtain ⟨c0, c1, c2⟩ := cells_of HH4.out
  go_wp2_with fail
  clear c0 c1 c2
  refine (num_ref (w.heap.size + 1) _ _ _ m 2 _ HW3.out (by simp [numL_length]) (by omega)).mono ?_
  rintro e w4 ⟨rfl, v4, hw4, hn4, hf4⟩
  have hb4 := HW3.out.to_below hf4 (by omega)
  have hs4 : w.heap.size + 1 < w4.heap.size := by have := hf4.size; omega
  rw [clip_2] at hw4
  have HH5 := Lib.hid ((hb4.block w.heap.size (by omega)).trans HH4.out)
  have HB5 := Lib.hid (HB4.out.trans (hb4.mono (by omega)))
  have HW4 := Lib.hid hw4
  have hcw := HW4.out.cell0
  have HRB := Lib.hid (hr.below HB5.out)
  clear hw4 hn4 hf4 hb4 HH4 HB4 HW3
  obtain ⟨c0, c1, c2⟩ := cells_of HH5.out
  clear c0 c1
  go_wp2_with fail
  go_region_law ((refine step_reads (w.heap.size + 1) (by rfl) (.tmp 46) (.tmp 48) 23 5 (by rfl) Try.underlying23 info5 _ (numL k 1 ++ numL n 4 ++ numL m 2) bs A m c (by rfl) (by rfl) (by exact HW4.out.own) (by exact HRB.out) (by simp; omega) (by simp [numL_length]; omega) ?_; intro A2 n2 c2' w5 own2 hg2; have HO2 := Lib.hid own2; have HG2 := Lib.hid hg2; clear own2 hg2))
  all_goals
    go_wp2_with fail
    go_ret
    have ho := HO2.out
    rw [HREQ.out] at ho
    exact ⟨_, rfl, own_lower' ho (by omega), HB5.out.drew.grown HG2.out (by simp; omega) (fun r hr => by have := own_base HW4.out.own r hr; omega)⟩
theorem reqRef_calls (k n : Int) (A : Option Addr) (m c : Nat) (bs : List Int) (w : World) (hr : ReadsInt w .u8 A m bs) :
    Calls Try.prog 16 #[.agg #[.int .i64 k, .int .i64 n, .slice A m c]] w fun e w' => ∃ v, e = .returned v ∧ Gives w w' v (reqB k n bs) := by
  have hl := hr.1
  cases hy : right k n m with
  | true =>
    have e : reqB k n bs = reqL k n bs := by unfold reqB; rw [hl, if_pos hy]
    rw [e]
    exact reqRef_yes k n A m c bs w hr hy
  | false =>
    have e : reqB k n bs = [] := by unfold reqB; rw [hl, if_neg (by rw [hy]; decide)]
    rw [e]
    refine (reqRef_no k n A m c w hy).mono ?_
    rintro e w' ⟨rfl, hb⟩
    exact ⟨_, rfl, Gives.none_ hb⟩
end Go.Proofs.Ytehlcljachkgdaa.Req
