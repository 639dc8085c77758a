/- append onto a row of the call own, as a step of a drawn region. -/
import Derived.Test.YtgcdankgckgibaaFieldItems
import Derived.Deep.RegionLaw
import Derived.Maps.AppendAt
namespace Go.Proofs.Ytgcdankgckgibaa.Field
open Go.RowKit Go.Proofs.YtgcdankgckgibaaW.PrintWords Go.Proofs.YtgcdankgckgibaaW.PrintLast Go.Proofs.Ytgcdankgckgibaa.Kit
attribute [local go_sem ↓] Go.wp_at_zero Go.wp_at_succ

/-- append onto a row of the call's own, the source whatever is read: the run -/
theorem run_append_reads {P : Program} (W : World) (base : Nat) (t ty e : TypeId) (ht : P.underlying t = some (.slice e)) (hinfo : (P.info? e).map (fun i => (i.zero, i.size, i.bytes)) = some (some (.int .u8 0), 1, 1))
    (v : Value) (xs ys : List Int) (A : Option Addr) (m c : Nat) (HO : W.ownsRow base e 1 v xs.length (nums .u8 xs)) (HR : ReadsInt W .u8 A m ys) (hbase : base ≤ W.heap.size) (hl : xs.length + m ≤ 140737488355328) :
    ∃ v1 w1, (Builtin.append_ #[t, t] ty #[v, .slice A m c]).run P W = .ok v1 w1 ∧ w1.ownsRow base e 1 v1 (xs ++ ys).length (nums .u8 (xs ++ ys)) ∧ W.grownBy w1 v.ownBlock ∧ rowNext W v v1 := by
  obtain ⟨i0, hi, hzz⟩ := Option.map_eq_some_iff.1 hinfo
  simp only [Prod.mk.injEq] at hzz
  obtain ⟨hz0, hz1, hz2⟩ := hzz
  have hm : ys.length = m := HR.1
  rcases Nat.eq_zero_or_pos m with h0 | h0
  · subst h0
    obtain rfl : ys = [] := List.eq_nil_of_length_eq_zero hm
    refine ⟨v, W, ?_, by simpa using HO, World.grownBy.refl W _, .inl rfl⟩
    rcases HO.2 with ⟨rfl, hn⟩ | ⟨g, cap, cur, rfl, _, _, hnc, _⟩
    · cases A <;> simp [Builtin.append_, run_underlying ht, sizeOf, typeInfo, hi, Builtin.lenOf, Builtin.firstCells, loadCells, loadCellsFrom]
    · cases A <;> simp [Builtin.append_, run_underlying ht, sizeOf, typeInfo, hi, Builtin.lenOf, Builtin.firstCells, hnc, storeCells, loadCells, loadCellsFrom]
  · obtain ⟨ad, rfl, hc⟩ := HR.2.2 h0
    have hcells : ∀ j u, (nums .u8 ys)[j]? = some u → W.cell? (ad.add j) = some u := by
      intro j u hu
      have hj : j < ys.length := by
        have := (List.getElem?_eq_some_iff.1 hu).1
        rwa [nums_length] at this
      have e1 : (nums .u8 ys)[j]? = some (.int .u8 (ys.getD j 0)) := by simp [nums, List.getElem?_eq_getElem hj, List.getD_eq_getElem?_getD]
      rw [e1] at hu
      rw [← hu]
      exact hc j (by omega)
    obtain ⟨v', w', hrun, h2, h3, _, h5⟩ := run_append_own_at (P := P) W base t ty e i0 (.int .u8 0) 1 1 ht hi hz0 hz1 hz2 rfl (by decide) v xs.length (nums .u8 xs) HO ad m c (nums .u8 ys) (by rw [nums_length, hm]; simp) hcells
      (by intro u hu; simp only [nums, List.mem_map] at hu; obtain ⟨q, _, rfl⟩ := hu; rfl) (by simp only [maxLen]; omega) (by omega) hbase
    refine ⟨v', w', hrun, ?_, h3, ?_⟩
    · rw [List.length_append, nums_append, hm]; exact h2
    · rcases h5 with h5 | h5
      · exact .inl h5
      · exact .inr ⟨_, h5, Nat.le_refl _⟩
theorem step_reads {P : Program} {ops : Array Oper} {o : Oper} {a : Act} {K : Act → World → Prop} {Q : Exit → Act → World → Prop} {E : Prop} {W : World} (base : Nat) (hgd : o.guard = none) (s x : Operand) (t e : TypeId)
    (ho : o.op = .call { callee := .builtin .append, args := #[s, x], argTypes := #[t, t] })
    (ht : P.underlying t = some (.slice e)) (hinfo : (P.info? e).map (fun i => (i.zero, i.size, i.bytes)) = some (some (.int .u8 0), 1, 1))
    (v : Value) (xs ys : List Int) (A : Option Addr) (m c : Nat) (hs : a.eval s = v) (hx : a.eval x = .slice A m c)
    (HO : W.ownsRow base e 1 v xs.length (nums .u8 xs)) (HR : ReadsInt W .u8 A m ys) (hbase : base ≤ W.heap.size) (hl : xs.length + m ≤ 140737488355328)
    (h : ∀ A1 n1 c1 w1, w1.ownsRow base e 1 (.slice A1 n1 c1) (xs ++ ys).length (nums .u8 (xs ++ ys)) → W.grownBy w1 v.ownBlock → K (a.put o.dst (.slice A1 n1 c1)) w1) :
    if Region.wanted o (yielded ops a.tmps) = true then Oper.wp P o a W K Q else E := by
  have hw : Region.wanted o (yielded ops a.tmps) = true := by simp [Region.wanted, hgd]
  rw [if_pos hw]
  obtain ⟨v1, w1, hrun, h2, h3, _⟩ := run_append_reads (P := P) W base t o.type e ht hinfo v xs ys A m c HO HR hbase hl
  obtain ⟨A1, c1, rfl, _⟩ := own_reads h2
  unfold Oper.wp execOp
  simp only [ho, resolve, invoke, builtin, Sem.run_bind, Sem.run_pure, Result.andThen_ok, List.map_toArray, List.map_cons, List.map_nil, hs, hx, hrun]
  exact h _ _ _ w1 h2 h3

/-- two writers beside each other -/
structure Two (W : World) (B gw gv : Nat) (vw vv : Value) (xs ys : List Int) : Prop where
  w : Wr W 42 B gw vw xs
  v : Wr W 53 B gv vv ys
  ne : gw ≠ gv
  awayW : vw.ownBlock ≠ some gv
  awayV : vv.ownBlock ≠ some gw
  rows : ∀ b, vw.ownBlock = some b → vv.ownBlock ≠ some b
section
variable {W W' : World} {B gw gv : Nat} {vw vv : Value} {xs ys zs : List Int}
theorem Two.below (h : Two W B gw gv vw vv xs ys) (k : Below W.heap.size W W') : Two W' B gw gv vw vv xs ys := ⟨h.w.below k, h.v.below k, h.ne, h.awayW, h.awayV, h.rows⟩
theorem Two.drew (h : Two W B gw gv vw vv xs ys) : Two W.drew B gw gv vw vv xs ys := ⟨h.w.drew, h.v.drew, h.ne, h.awayW, h.awayV, h.rows⟩
theorem Two.stepW {vw' : Value} (h : Two W B gw gv vw vv xs ys) (hw : Wr W' 42 B gw vw' zs) (hn : rowNext W vw vw') (hf : Fr (wF gw vw) W W') : Two W' B gw gv vw' vv zs ys := by
  refine ⟨hw, h.v.keep hf ?_ ?_, h.ne, ?_, h.awayV, ?_⟩
  · rintro (e | e)
    · exact h.ne e.symm
    · exact h.awayW e
  · rintro b hb (e | e)
    · exact h.awayV (e ▸ hb)
    · exact h.rows b e hb
  · rcases hn with e | ⟨b, e, hb⟩
    · rw [e]; exact h.awayW
    · rw [e]; intro e2; injection e2 with e2; have := h.v.lt; omega
  · intro b hb hv
    rcases hn with e | ⟨b', e, hb'⟩
    · rw [e] at hb; exact h.rows b hb hv
    · rw [e] at hb; injection hb with hb; have := own_lt h.v.own b hv; omega
theorem Two.stepV {vv' : Value} (h : Two W B gw gv vw vv xs ys) (hv : Wr W' 53 B gv vv' zs) (hn : rowNext W vv vv') (hf : Fr (wF gv vv) W W') : Two W' B gw gv vw vv' xs zs := by
  refine ⟨h.w.keep hf ?_ ?_, hv, h.ne, h.awayW, ?_, ?_⟩
  · rintro (e | e)
    · exact h.ne e
    · exact h.awayV e
  · rintro b hb (e | e)
    · exact h.awayW (e ▸ hb)
    · exact h.rows b hb e
  · rcases hn with e | ⟨b, e, hb⟩
    · rw [e]; exact h.awayV
    · rw [e]; intro e2; injection e2 with e2; have := h.w.lt; omega
  · intro b hb hv2
    rcases hn with e | ⟨b', e, hb'⟩
    · rw [e] at hv2; exact h.rows b hb hv2
    · rw [e] at hv2; injection hv2 with hv2; have := own_lt h.w.own b hb; omega
end
end Go.Proofs.Ytgcdankgckgibaa.Field
