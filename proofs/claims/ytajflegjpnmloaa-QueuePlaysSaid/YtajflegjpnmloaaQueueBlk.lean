/- Blocks stored whole; a request in memory. -/
import Derived.Test.YtajflegjpnmloaaQueuePlain
namespace Go.Proofs.Ytajflegjpnmloaa.Queue
open Go.RowKit Go.Proofs.YtajflegjpnmloaaW.PrintWords Go.Proofs.YtajflegjpnmloaaW.PrintLast Go.Proofs.Ytajflegjpnmloaa.Kit Go.Proofs.Ytajflegjpnmloaa.Field
set_option linter.unusedSimpArgs false
set_option linter.unusedVariables false
def stv (t : TypeId) (p : Addr) (v : Value) : Sem Unit := storeVar t p v
theorem stR (p : Addr) (v : Value) : storeVar 43 p v = stv 43 p v := rfl
theorem stv_of {W W' : World} (t : TypeId) (p : Addr) (X : Array Value) (l : List Value) (hX : X.toList = l) (hi : (Try.prog.info? t).map (·.size) = some X.size) (h : (storeCells p l).run Try.prog W = .ok () W') : (stv t p (.agg X)).run Try.prog W = .ok () W' := by
  subst hX
  cases hq : Try.prog.info? t with
  | none => simp [hq] at hi
  | some i =>
    have hs : X.size = i.size := by simp [hq] at hi; omega
    simpa [stv, storeVar, sizeOf, typeInfo, hq, Value.cells, hs] using h
/-- block g holds just these cells -/
structure Blk (W : World) (t : TypeId) (g : Nat) (cs : Array Value) : Prop where
  heap : W.heap[g]? = some (.cells cs t (0, 0))
section
variable {W W' : World} {t : TypeId} {g g' : Nat} {cs cs' : Array Value}
theorem Blk.lt (h : Blk W t g cs) : g < W.heap.size := (Array.getElem?_eq_some_iff.1 h.heap).1
theorem Blk.row (h : Blk W t g cs) : Kit.rowAt W g = cs := Kit.rowAt_of h.heap
theorem Blk.cell (h : Blk W t g cs) (i : Nat) : W.cell? ⟨g, i, none⟩ = cs[i]? := cell_of_row W g i cs t (0, 0) h.heap
theorem Blk.free (h : Blk W t g cs) (i : Nat) : W.frozen? ⟨g, i, none⟩ = false := by simp [World.frozen?, h.heap]
theorem Blk.below (h : Blk W t g cs) (k : Below W.heap.size W W') : Blk W' t g cs := ⟨(k.block g h.lt).trans h.heap⟩
theorem Blk.alloc (h : Blk W t g cs) (o : Obj) : Blk (W.alloc o) t g cs := h.below (below_alloc1 W o)
theorem Blk.drew (h : Blk W t g cs) : Blk W.drew t g cs := ⟨h.heap⟩
theorem Blk.new (W : World) (t : TypeId) (cs : Array Value) (g : Nat) (hg : g = W.heap.size) : Blk (W.alloc (.cells cs t)) t g cs := by
  subst hg
  exact ⟨heap_alloc_new W _⟩
theorem Blk.set (h : Blk W t g cs) (c2 : Array Value) : Blk (W.setRow g c2) t g c2 := ⟨setRow_heap W g cs c2 t (0, 0) h.heap⟩
theorem setRow_other (W : World) {i : Nat} (cs : Array Value) (hne : i ≠ g) : (W.setRow g cs).heap[i]? = W.heap[i]? := by
  simp [World.setRow, Array.getElem?_modify, Ne.symm hne]
theorem Blk.set_other (h : Blk W t g cs) (c2 : Array Value) (hne : g ≠ g') : Blk (W.setRow g' c2) t g cs := ⟨(setRow_other W c2 hne).trans h.heap⟩
theorem Blk.put (h : Blk W t g cs) (i : Nat) (v : Value) : Blk (W.setCell ⟨g, i, none⟩ v) t g (cs.setIfInBounds i v) := ⟨by simp [World.setCell, Array.getElem?_modify, h.heap]⟩
theorem Blk.put_other (h : Blk W t g cs) (i : Nat) (v : Value) (hne : g ≠ g') : Blk (W.setCell ⟨g', i, none⟩ v) t g cs := ⟨(Below.heap_setCell W ⟨g', i, none⟩ v g hne).trans h.heap⟩
theorem below_setRow {B : Nat} {w : World} (h : Below B w W) (hg : B ≤ g) (c2 : Array Value) : Below B w (W.setRow g c2) :=
  ⟨h.os, h.tape, h.output, by have := h.size; simpa [World.setRow] using this, fun i hi => (setRow_other W c2 (by omega)).trans (h.block i hi)⟩
/-- a whole variable is stored -/
theorem Blk.store (h : Blk W t g cs) (t2 : TypeId) (X : Array Value) (hi : (Try.prog.info? t2).map (·.size) = some X.size) (hs : cs.size = X.size) (h1 : X.toList.all (·.oneCell') = true) : (stv t2 ⟨g, 0, none⟩ (.agg X)).run Try.prog W = .ok () (W.setRow g X) := by
  refine stv_of t2 _ X _ rfl hi ?_
  rw [run_storeCells_at (P := Try.prog) g 0 t X.toList 0 cs W h.heap (by simp; omega) (fun v hv => by rw [List.all_eq_true] at h1; exact h1 v hv)]
  congr 2
  rw [Nat.add_zero, List.take_zero, List.nil_append, List.drop_eq_nil_of_le (by simp; omega), List.append_nil, Array.toArray_toList]
/-- a part of a variable is stored -/
theorem Blk.store_mid (h : Blk W t g cs) (t2 : TypeId) (o : Nat) (X : Array Value) (hi : (Try.prog.info? t2).map (·.size) = some X.size) (hs : o + X.size ≤ cs.size) (h1 : X.toList.all (·.oneCell') = true) : (stv t2 ⟨g, o, none⟩ (.agg X)).run Try.prog W = .ok () (W.setRow g (cs.toList.take o ++ X.toList ++ cs.toList.drop (o + X.size)).toArray) := by
  refine stv_of t2 _ X _ rfl hi ?_
  rw [run_storeCells_at (P := Try.prog) g o t X.toList 0 cs W h.heap (by simp; omega) (fun v hv => by rw [List.all_eq_true] at h1; exact h1 v hv)]
  simp
end
theorem run_loadVar_list {P : Program} (w : World) (ad : Addr) (ty : TypeId) (cs : List Value) (d : TypeDesc) (hc : ∀ j v, cs[j]? = some v → w.cell? (ad.add j) = some v)
    (hu : P.underlying ty = some d) (hd : d.isRow = true) (hi : (P.info? ty).map (·.size) = some cs.length) :
    (loadVar ty ad).run P w = .ok (.agg cs.toArray) w := by
  have hl : (loadCells ad cs.length).run P w = .ok cs.toArray w := run_loadCells_list (P := P) w ad cs hc
  cases hq : P.info? ty with
  | none => simp [hq] at hi
  | some i =>
    have hs : i.size = cs.length := by simpa [hq] using hi
    have hagg : (isAgg ty).run P w = .ok true w := by
      unfold isAgg
      rw [Sem.run_bind, run_underlying hu w]
      cases d <;> simp_all
    simp [loadVar, Sem.run_bind, hagg, sizeOf, typeInfo, hq, hs, hl]

theorem Fr.row {F : Nat → Prop} {W W' : World} {g : Nat} (h : Fr F W W') (hp : F g ∨ W.heap.size ≤ g) (c : Array Value) : Fr F W (W'.setRow g c) :=
  h.then_ (F' := fun i => i = g) ⟨rfl, rfl, rfl, by simp [World.setRow], fun i _ hn => setRow_other W' c hn⟩ (fun i hi e => by subst e; exact hp.elim id (fun h => by omega))
theorem own_slice {W : World} {B size n : Nat} {e : TypeId} {v : Value} {xs : List Value} (h : W.ownsRow B e size v n xs) : ∃ A c, v = .slice A n c := by
  rcases h.2 with ⟨rfl, h0⟩ | ⟨r, cap, cur, rfl, _⟩
  · exact ⟨none, 0, by rw [h0]⟩
  · exact ⟨_, _, rfl⟩
def RqAt (W : World) (ad : Addr) (r : Rq) : Prop := ∀ j v, r.cells[j]? = some v → W.cell? (ad.add j) = some v
theorem RqAt.below {W W' : World} {ad : Addr} {r : Rq} (h : RqAt W ad r) (k : Below W.heap.size W W') : RqAt W' ad r := fun j v e => pw_cell_below k (h j v e)
theorem RqAt.drew {W : World} {ad : Addr} {r : Rq} (h : RqAt W ad r) : RqAt W.drew ad r := h
theorem infoR : (Try.prog.info? 43).map (·.size) = some 3 := by kernel_rfl
theorem ldR (p : Addr) : loadVar 43 p = ld 43 p := rfl
theorem RqAt.load {W : World} {ad : Addr} {r : Rq} (h : RqAt W ad r) : (ld 43 ad).run Try.prog W = .ok (.agg #[.int .i64 r.k, .int .i64 r.n, .slice r.A r.m r.c]) W :=
  run_loadVar_list W ad 43 r.cells _ h Try.underlying43 rfl infoR
theorem add_zero3 (g j : Nat) : (⟨g, 0, none⟩ : Addr).add j = ⟨g, j, none⟩ := by unfold Addr.add; split <;> simp_all
theorem add_at (g o j : Nat) : (⟨g, o, none⟩ : Addr).add j = ⟨g, o + j, none⟩ := by unfold Addr.add; split <;> simp_all
/-- a block that holds just this request -/
theorem Blk.rq {W : World} {t : TypeId} {g : Nat} {r : Rq} (h : Blk W t g #[.int .i64 r.k, .int .i64 r.n, .slice r.A r.m r.c]) : RqAt W ⟨g, 0, none⟩ r := fun j v e => by
  rw [add_zero3, h.cell]
  simpa [Rq.cells] using e
theorem rows_at (l : List Rq) (i : Nat) (hi : i < l.length) (j : Nat) (hj : j < 3) : (rows l)[i * 3 + j]? = (l[i]).cells[j]? := by
  induction l generalizing i with
  | nil => simp at hi
  | cons r l ih =>
    have hr : rows (r :: l) = r.cells ++ rows l := by unfold rows; rw [List.flatMap_cons]
    rw [hr]
    cases i with
    | zero => rw [List.getElem?_append_left (by simp [Rq.cells]; omega)]; simp
    | succ i =>
      rw [List.getElem?_append_right (by simp [Rq.cells]; omega)]
      have := ih i (by simpa using hi)
      rw [show (i + 1) * 3 + j - r.cells.length = i * 3 + j by simp [Rq.cells]; omega, this]
      simp
/-- a request of an owned row -/
theorem own_rq {W : World} {b : Nat} {l : List Rq} (hx : ∀ j u, (rows l)[j]? = some u → W.cell? ⟨b, j, none⟩ = some u) (i : Nat) (hi : i < l.length) : RqAt W ⟨b, i * 3, none⟩ l[i] := fun j v e => by
  have hj : j < 3 := (List.getElem?_eq_some_iff.1 e).1
  rw [add_at]
  exact hx _ _ ((rows_at l i hi j hj).trans e)
end Go.Proofs.Ytajflegjpnmloaa.Queue
