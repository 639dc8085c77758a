/- Walks: request.parseAnswer, ReadAnswer. -/
import Derived.Test.YtehlcljachkgdaaReqRead
namespace Go.Proofs.Ytehlcljachkgdaa.Req
open Go.RowKit Go.Proofs.YtehlcljachkgdaaW.PrintWords Go.Proofs.YtehlcljachkgdaaW.PrintLast Go.Proofs.Ytehlcljachkgdaa.Kit Go.Proofs.Ytehlcljachkgdaa.Field

/-- what parseAnswer gives -/
def ParsedA (w : World) (r : Option (Int × Int × Int)) (e : Ending) (w' : World) : Prop :=
  (match r with
  | none => e = .returned .nilIface
  | some (k, n, z) => e = .returned (.iface 30 (.agg #[.int .i64 k, .int .i64 n, .int .i64 z]))) ∧ Below w.heap.size w w'

set_option maxHeartbeats 2000000 in
theorem parseA_calls (A : Option Addr) (m c : Nat) (xs : List Int) (w : World) (hr : ReadsInt w .u8 A m xs) (hs : Small xs) (hm : m ≤ 100000) :
    Calls Try.prog 38 #[.slice A m c] w (ParsedA w (readAns xs)) := by
  go_enter Try.func38, Try.ntmps38
  go_wp2_with fail
  refine (new_get _ _ _ _ _ hr hs hm).mono ?_
  rintro e w1 ⟨g, rfl, hg0, hp, hb⟩
  have HP1 := Lib.hid hp
  have HB1 := Lib.hid hb
  clear hp hb
  go_wp2_with fail
  refine (num_get g g _ _ 1 _ HP1.out).mono ?_
  rintro e w2 ⟨rfl, hp, hf⟩
  rw [clip_1] at hp ⊢
  obtain ⟨k, hk⟩ : ∃ k, k = numOf (got xs false 1) := ⟨_, rfl⟩
  obtain ⟨x1, hx1⟩ : ∃ x1, x1 = rest xs false 1 := ⟨_, rfl⟩
  obtain ⟨b1, hb1⟩ : ∃ b1, b1 = !takeOk xs false 1 := ⟨_, rfl⟩
  rw [← hx1, ← hb1] at hp
  rw [← hk]
  have HK := Lib.hid hk
  have HX1 := Lib.hid hx1
  have HC1 := Lib.hid hb1
  have hgl := HP1.out.1.lt
  have hs2 := hf.size
  have HB2 := Lib.hid (HB1.out.trans (fr_below hf hg0 HB1.out.size))
  have HP2 := Lib.hid hp
  clear hk hx1 hb1 hp hf HP1 HB1
  go_wp2_with fail
  have hh2 : (w2.alloc (.cells #[.int .i64 k, .int .i64 0, .int .i64 0] 30)).heap[w2.heap.size]? = some (.cells #[.int .i64 k, .int .i64 0, .int .i64 0] 30 (0, 0)) := heap_alloc_new _ _
  have HH2 := Lib.hid hh2
  have HB2' := Lib.hid (HB2.out.trans ((below_alloc1 w2 (.cells #[.int .i64 k, .int .i64 0, .int .i64 0] 30)).mono HB2.out.size))
  have HP2' := Lib.hid (HP2.out.below (below_alloc1 w2 (.cells #[.int .i64 k, .int .i64 0, .int .i64 0] 30)))
  clear hh2
  refine (num_get g g _ _ 4 _ HP2'.out).mono ?_
  rintro e w3 ⟨rfl, hp, hf⟩
  rw [clip_4] at hp ⊢
  obtain ⟨n, hn⟩ : ∃ n, n = numOf (got x1 b1 4) := ⟨_, rfl⟩
  obtain ⟨x2, hx2⟩ : ∃ x2, x2 = rest x1 b1 4 := ⟨_, rfl⟩
  obtain ⟨b2, hb2⟩ : ∃ b2, b2 = !takeOk x1 b1 4 := ⟨_, rfl⟩
  rw [← hx2, ← hb2] at hp
  rw [← hn]
  have HN := Lib.hid hn
  have HX2 := Lib.hid hx2
  have HC2 := Lib.hid hb2
  have hh3 := frame_blk hf HH2.out (fun e => by have e : w2.heap.size = g := e; omega)
  obtain ⟨-, c1, -⟩ := cells_of hh3
  have f1 := free_of hh3 1
  have hs3 : w2.heap.size < w3.heap.size := heap_lt hh3
  have HB3 := Lib.hid (HB2'.out.trans (fr_below hf hg0 HB2'.out.size))
  have HP3 := Lib.hid (hp.keep (fr_set w3 w2.heap.size 1 (.int .i64 n)) (fun i e => fr_far e (by omega) (by omega)))
  have HH3 := Lib.hid (set_blk (i := 1) hh3 (.int .i64 n))
  have HB3' := Lib.hid (HB3.out.trans ((fr_below (fr_set w3 w2.heap.size 1 (.int .i64 n)) HB2.out.size HB3.out.size)))
  clear hn hx2 hb2 hp hf HP2 HP2' HB2' HH2 hh3
  go_wp2_with fail
  clear c1 f1 HB3
  refine (num_get g g _ _ 4 _ HP3.out).mono ?_
  rintro e w4 ⟨rfl, hp, hf⟩
  rw [clip_4] at hp ⊢
  obtain ⟨z, hz⟩ : ∃ z, z = numOf (got x2 b2 4) := ⟨_, rfl⟩
  obtain ⟨x3, hx3⟩ : ∃ x3, x3 = rest x2 b2 4 := ⟨_, rfl⟩
  obtain ⟨b3, hb3⟩ : ∃ b3, b3 = !takeOk x2 b2 4 := ⟨_, rfl⟩
  rw [← hx3, ← hb3] at hp
  rw [← hz]
  have HRD := Lib.hid (readAns_of HX1.out HC1.out HX2.out HC2.out hx3 hb3 HK.out HN.out hz).1
  have hh4 := frame_blk hf HH3.out (fun e => by have e : w2.heap.size = g := e; omega)
  have hh4 : w4.heap[w2.heap.size]? = some (.cells #[.int .i64 k, .int .i64 n, .int .i64 0] 30 (0, 0)) := hh4
  obtain ⟨-, -, c2⟩ := cells_of hh4
  have f2 := free_of hh4 2
  have hs4 : w2.heap.size < w4.heap.size := heap_lt hh4
  have HB4 := Lib.hid (HB3'.out.trans (fr_below hf hg0 HB3'.out.size))
  have HP4 := Lib.hid (hp.keep (fr_set w4 w2.heap.size 2 (.int .i64 z)) (fun i e => fr_far e (by omega) (by omega)))
  have hh5 := set_blk (i := 2) hh4 (.int .i64 z)
  have HH5 : Hid ((w4.setCell ⟨w2.heap.size, 2, none⟩ (.int .i64 z)).heap[w2.heap.size]? = some (.cells #[.int .i64 k, .int .i64 n, .int .i64 z] 30 (0, 0))) := Lib.hid hh5
  have HB5 := Lib.hid (HB4.out.trans ((fr_below (fr_set w4 w2.heap.size 2 (.int .i64 z)) HB2.out.size HB4.out.size)))
  clear hz hx3 hb3 hp hf HP3 HB3' HH3 hh4 hh5 HX1 HC1 HX2 HC2 HK HN
  go_wp2_with fail
  clear c2 f2
  refine (bad_get g g _ _ _ HP4.out).mono ?_
  rintro e w5 ⟨rfl, rfl⟩
  obtain ⟨d0, d1, d2⟩ := cells_of HH5.out
  cases b3 with
  | true =>
    have hrd : readAns xs = none := by rw [HRD.out, if_neg (fun h => by cases h.1)]
    have HR0 := Lib.hid hrd
    clear hrd
    go_wp2_with fail
    go_ret
    rw [HR0.out]
    exact ⟨rfl, HB5.out⟩
  | false =>
    have hlx := HP4.out.1.len
    rcases Nat.eq_zero_or_pos x3.length with hx | hx
    · have hx0 : ((x3.length : Int) == 0) = true := by simp [hx]
      have hrd : readAns xs = if rightA k n z then some (k, n, z) else none := by
        rw [HRD.out]
        cases rightA k n z <;> simp [hx]
      have HRD2 := Lib.hid hrd
      clear hrd hx
      go_wp2_with fail
      refine (left_get g g _ _ _ HP4.out).mono ?_
      rintro e w5 ⟨rfl, rfl⟩
      go_wp2_with fail
      clear d0 d1 d2
      refine (rightA_calls k n z _).mono ?_
      rintro e w6 ⟨rfl, hb6⟩
      have hh7 := (hb6.block w2.heap.size (heap_lt HH5.out)).trans HH5.out
      obtain ⟨d0, d1, d2⟩ := cells_of hh7
      have HB7 := Lib.hid (HB5.out.trans (hb6.mono HB5.out.size))
      clear hb6 hh7
      cases hy : rightA k n z with
      | true =>
        have hrd : readAns xs = some (k, n, z) := by rw [HRD2.out, if_pos hy]
        have HR0 := Lib.hid hrd
        clear hrd hy
        go_wp2_with fail
        go_ret
        rw [HR0.out]
        exact ⟨rfl, HB7.out⟩
      | false =>
        have hrd : readAns xs = none := by rw [HRD2.out, if_neg (by rw [hy]; decide)]
        have HR0 := Lib.hid hrd
        clear hrd hy
        go_wp2_with fail
        go_ret
        rw [HR0.out]
        exact ⟨rfl, HB7.out⟩
    · have hx0 : ((x3.length : Int) == 0) = false := beq_eq_false_iff_ne.2 (by omega)
      have hrd : readAns xs = none := by
        rw [HRD.out, if_neg]
        rintro ⟨-, h, -⟩
        omega
      have HR0 := Lib.hid hrd
      clear hrd
      go_wp2_with fail
      refine (left_get g g _ _ _ HP4.out).mono ?_
      rintro e w5 ⟨rfl, rfl⟩
      go_wp2_with fail
      go_ret
      rw [HR0.out]
      exact ⟨rfl, HB5.out⟩

/-- what ReadAnswer gives -/
def AnsOut (w : World) (r : Option (Int × Int × Int)) (e : Ending) (w' : World) : Prop :=
  (match r with
  | none => e = .returned (.tuple #[.agg #[.int .i64 0, .int .i64 0, .int .i64 0], .int .i64 6])
  | some (k, n, z) => e = .returned (.tuple #[.agg #[.int .i64 k, .int .i64 n, .int .i64 z], .int .i64 0])) ∧ Below w.heap.size w w'
theorem taA_none (W : World) : (Instr.typeAssert .nilIface 20 30 true).run Try.prog W = .ok (.tuple #[.agg #[.int .i64 0, .int .i64 0, .int .i64 0], .bool false]) W := by kernel_rfl
theorem taA_some (v : Value) (W : World) : (Instr.typeAssert (.iface 30 v) 20 30 true).run Try.prog W = .ok (.tuple #[v, .bool true]) W := by kernel_rfl
set_option maxHeartbeats 1000000 in
set_option maxRecDepth 100000 in
theorem readA_calls (A : Option Addr) (m c : Nat) (xs : List Int) (w : World) (hr : ReadsInt w .u8 A m xs) (hs : Small xs) (hm : m ≤ 100000) :
    Calls Try.prog 14 #[.slice A m c] w (AnsOut w (readAns xs)) := by
  cases hq : readAns xs with
  | none =>
    have HQ := Lib.hid hq
    have ta1 := taA_none
    clear hq
    go_enter Try.func14, Try.ntmps14
    go_wp2_with fail
    have hb0 := below_alloc1 w (.cells #[.int .i64 0, .int .i64 0, .int .i64 0] 30)
    refine (parseA_calls _ _ _ _ _ (hr.below hb0) hs hm).mono ?_
    rw [HQ.out]
    rintro e w1 ⟨rfl, hb⟩
    have hh1 := (hb.block w.heap.size (by simp)).trans (heap_alloc_new w (.cells #[.int .i64 0, .int .i64 0, .int .i64 0] 30))
    have hlt := heap_lt hh1
    obtain ⟨c0, c1, c2⟩ := cells_of hh1
    have f0 := free_of hh1 0
    have f1 := free_of hh1 1
    have f2 := free_of hh1 2
    have HB1 := Lib.hid (hb0.trans (hb.mono (by simp)))
    clear hb hb0 hh1
    go_wp2_with fail
    exact bodyPost_ret (v := .tuple #[.agg #[.int .i64 0, .int .i64 0, .int .i64 0], .int .i64 6]) (by simp [results, Try.results14, go_sem, c0, c1, c2, hlt]) rfl ⟨rfl, below3 HB1.out (Nat.le_refl _) HB1.out.size _ _ _ _⟩
  | some q =>
    obtain ⟨k, n, z⟩ := q
    have HQ := Lib.hid hq
    have ta2 := taA_some
    clear hq
    go_enter Try.func14, Try.ntmps14
    go_wp2_with fail
    have hb0 := below_alloc1 w (.cells #[.int .i64 0, .int .i64 0, .int .i64 0] 30)
    refine (parseA_calls _ _ _ _ _ (hr.below hb0) hs hm).mono ?_
    rw [HQ.out]
    rintro e w1 ⟨rfl, hb⟩
    have hh1 := (hb.block w.heap.size (by simp)).trans (heap_alloc_new w (.cells #[.int .i64 0, .int .i64 0, .int .i64 0] 30))
    have hlt := heap_lt hh1
    obtain ⟨c0, c1, c2⟩ := cells_of hh1
    have f0 := free_of hh1 0
    have f1 := free_of hh1 1
    have f2 := free_of hh1 2
    have HB1 := Lib.hid (hb0.trans (hb.mono (by simp)))
    clear hb hb0 hh1
    go_wp2_with fail
    exact bodyPost_ret (v := .tuple #[.agg #[.int .i64 k, .int .i64 n, .int .i64 z], .int .i64 0]) (by simp [results, Try.results14, go_sem, c0, c1, c2, hlt]) rfl ⟨rfl, below3 HB1.out (Nat.le_refl _) HB1.out.size _ _ _ _⟩
end Go.Proofs.Ytehlcljachkgdaa.Req
