/- Walks: request.Read and ReadAnswer read as the plain functions say. -/
import Derived.Test.YtehlcljachkgdaaReqGet
import Derived.Test.YtehlcljachkgdaaReqRef
namespace Go.Proofs.Ytehlcljachkgdaa.Req
open Go.RowKit Go.Proofs.YtehlcljachkgdaaW.PrintWords Go.Proofs.YtehlcljachkgdaaW.PrintLast Go.Proofs.Ytehlcljachkgdaa.Kit Go.Proofs.Ytehlcljachkgdaa.Field

/-- what Read gives -/
def ReadOut (w : World) (r : Option (Int × Int × List Int)) (e : Ending) (w' : World) : Prop :=
  match r with
  | none => e = .returned (.tuple #[.agg #[.int .i64 0, .int .i64 0, .slice none 0 0], .int .i64 6]) ∧ Below w.heap.size w w'
  | some (k, n, bs) => ∃ v, e = .returned (.tuple #[.agg #[.int .i64 k, .int .i64 n, v], .int .i64 0]) ∧ Gives w w' v bs

theorem ta_none (W : World) : (Instr.typeAssert .nilIface 20 25 true).run Try.prog W = .ok (.tuple #[.agg #[.int .i64 0, .int .i64 0, .slice none 0 0], .bool false]) W := by kernel_rfl
theorem ta_some (v : Value) (W : World) : (Instr.typeAssert (.iface 25 v) 20 25 true).run Try.prog W = .ok (.tuple #[v, .bool true]) W := by kernel_rfl
set_option maxHeartbeats 1000000 in
set_option maxRecDepth 100000 in
theorem read_calls (A : Option Addr) (m c : Nat) (xs : List Int) (w : World) (hr : ReadsInt w .u8 A m xs) (hs : Small xs) (hm : m ≤ 100000) :
    Calls Try.prog 12 #[.slice A m c] w (ReadOut w (readReq xs)) := by
  cases hq : readReq xs with
  | none =>
    have HQ := Lib.hid hq
    have ta1 := ta_none
    have ta2 := ta_some
    clear hq
    go_enter Try.func12, Try.ntmps12
    go_wp2_with fail
    have hb0 := below_alloc1 w (.cells #[.int .i64 0, .int .i64 0, .slice none 0 0] 25)
    refine (parse_calls _ _ _ _ _ (hr.below hb0) hs hm).mono ?_
    rw [HQ.out]
    rintro e w1 ⟨rfl, hb⟩
    have hh1 := (hb.block w.heap.size (by simp)).trans (heap_alloc_new w (.cells #[.int .i64 0, .int .i64 0, .slice none 0 0] 25))
    have hlt := heap_lt hh1
    obtain ⟨c0, c1, c2⟩ := cells_of hh1
    have f0 := free_of hh1 0
    have f1 := free_of hh1 1
    have f2 := free_of hh1 2
    have HB1 := Lib.hid (hb0.trans (hb.mono (by simp)))
    have HH1 := Lib.hid hh1
    clear hb hb0 hh1 ta2
    go_wp2_with fail
    refine bodyPost_ret (v := .tuple #[.agg #[.int .i64 0, .int .i64 0, .slice none 0 0], .int .i64 6]) (by simp [results, Try.results12, go_sem, c0, c1, c2, hlt]) rfl ⟨rfl, below3 HB1.out (Nat.le_refl _) HB1.out.size _ _ _ _⟩
  | some q =>
    obtain ⟨k, n, bs⟩ := q
    have HQ := Lib.hid hq
    have ta1 := ta_none
    have ta2 := ta_some
    clear hq
    go_enter Try.func12, Try.ntmps12
    go_wp2_with fail
    have hb0 := below_alloc1 w (.cells #[.int .i64 0, .int .i64 0, .slice none 0 0] 25)
    refine (parse_calls _ _ _ _ _ (hr.below hb0) hs hm).mono ?_
    rw [HQ.out]
    rintro e w1 ⟨v, rfl, hg⟩
    have hh1 := (hg.2.block w.heap.size (by simp)).trans (heap_alloc_new w (.cells #[.int .i64 0, .int .i64 0, .slice none 0 0] 25))
    have hlt := heap_lt hh1
    obtain ⟨c0, c1, c2⟩ := cells_of hh1
    have f0 := free_of hh1 0
    have f1 := free_of hh1 1
    have f2 := free_of hh1 2
    have HB1 := Lib.hid (hb0.trans (hg.2.mono (by simp)))
    have HH1 := Lib.hid hh1
    have ho := own_lower' hg.1 hb0.size
    obtain ⟨A1, c1', rfl, -⟩ := own_reads hg.1
    have HO := Lib.hid ho
    have HOB := Lib.hid (own_base hg.1)
    clear hg hb0 hh1 ta1 ho
    go_wp2_with fail
    refine bodyPost_ret (v := .tuple #[.agg #[.int .i64 k, .int .i64 n, .slice A1 bs.length c1'], .int .i64 0]) (by simp [results, Try.results12, go_sem, c0, c1, c2, hlt]) rfl ⟨_, rfl, ?_, below3 HB1.out (Nat.le_refl _) HB1.out.size _ _ _ _⟩
    refine World.ownsRow.alloc (own_set (own_set (own_set HO.out ?_ _) ?_ _) ?_ _) _
    all_goals
      intro r hr
      have := HOB.out r hr
      simp at this
      show r ≠ w.heap.size
      omega
end Go.Proofs.Ytehlcljachkgdaa.Req
