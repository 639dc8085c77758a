/- Blocks that are stored whole, and in part. -/
import Derived.Test.YtehlcljachkgdaaMetaLaw
namespace Go.Proofs.Ytehlcljachkgdaa.Boot
open Go.RowKit Go.Proofs.YtehlcljachkgdaaW.PrintWords Go.Proofs.YtehlcljachkgdaaW.PrintLast Go.Proofs.Ytehlcljachkgdaa.Kit
set_option linter.unusedSimpArgs false
set_option linter.unusedVariables false
def stv (t : TypeId) (p : Addr) (v : Value) : Sem Unit := storeVar t p v
theorem stI (p : Addr) (v : Value) : storeVar 49 p v = stv 49 p v := rfl
theorem stv_of {W W' : World} (t : TypeId) (p : Addr) (X : Array Value) (l : List Value) (hX : X.toList = l) (hi : (Try.prog.info? t).map (·.size) = some X.size) (h : (storeCells p l).run Try.prog W = .ok () W') : (stv t p (.agg X)).run Try.prog W = .ok () W' := by
  subst hX
  cases hq : Try.prog.info? t with
  | none => simp [hq] at hi
  | some i =>
    have hs : X.size = i.size := by simp [hq] at hi; omega
    simpa [stv, storeVar, sizeOf, typeInfo, hq, Value.cells, hs] using h
theorem stM (p : Addr) (v : Value) : storeVar 52 p v = stv 52 p v := rfl
/-- block g holds just these cells -/
structure Blk (W : World) (t : TypeId) (g : Nat) (cs : Array Value) : Prop where
  heap : W.heap[g]? = some (.cells cs t (0, 0))
section
variable {W W' : World} {t : TypeId} {g g' : Nat} {cs cs' : Array Value}
theorem Blk.lt (h : Blk W t g cs) : g < W.heap.size := (Array.getElem?_eq_some_iff.1 h.heap).1
theorem Blk.row (h : Blk W t g cs) : Kit.rowAt W g = cs := Kit.rowAt_of h.heap
theorem Blk.cell (h : Blk W t g cs) (i : Nat) : W.cell? ⟨g, i, none⟩ = cs[i]? := cell_of_row W g i cs t (0, 0) h.heap
theorem Blk.free (h : Blk W t g cs) (i : Nat) : W.frozen? ⟨g, i, none⟩ = false := by simp [World.frozen?, h.heap]
theorem Blk.below (h : Blk W t g cs) (k : Below W.heap.size W W') : Blk W' t g cs := ⟨(k.block g h.lt).trans h.heap⟩
theorem Blk.alloc (h : Blk W t g cs) (o : Obj) : Blk (W.alloc o) t g cs := h.below (below_alloc1 W o)
theorem Blk.drew (h : Blk W t g cs) : Blk W.drew t g cs := ⟨h.heap⟩
theorem Blk.new (W : World) (t : TypeId) (cs : Array Value) (g : Nat) (hg : g = W.heap.size) : Blk (W.alloc (.cells cs t)) t g cs := by
  subst hg
  exact ⟨heap_alloc_new W _⟩
theorem Blk.set (h : Blk W t g cs) (c2 : Array Value) : Blk (W.setRow g c2) t g c2 := ⟨setRow_heap W g cs c2 t (0, 0) h.heap⟩
theorem setRow_other (W : World) {i : Nat} (cs : Array Value) (hne : i ≠ g) : (W.setRow g cs).heap[i]? = W.heap[i]? := by
  simp [World.setRow, Array.getElem?_modify, Ne.symm hne]
theorem Blk.set_other (h : Blk W t g cs) (c2 : Array Value) (hne : g ≠ g') : Blk (W.setRow g' c2) t g cs := ⟨(setRow_other W c2 hne).trans h.heap⟩
theorem Blk.put (h : Blk W t g cs) (i : Nat) (v : Value) : Blk (W.setCell ⟨g, i, none⟩ v) t g (cs.setIfInBounds i v) := ⟨by simp [World.setCell, Array.getElem?_modify, h.heap]⟩
theorem Blk.put_other (h : Blk W t g cs) (i : Nat) (v : Value) (hne : g ≠ g') : Blk (W.setCell ⟨g', i, none⟩ v) t g cs := ⟨(Below.heap_setCell W ⟨g', i, none⟩ v g hne).trans h.heap⟩
theorem below_setRow {B : Nat} {w : World} (h : Below B w W) (hg : B ≤ g) (c2 : Array Value) : Below B w (W.setRow g c2) :=
  ⟨h.os, h.tape, h.output, by have := h.size; simpa [World.setRow] using this, fun i hi => (setRow_other W c2 (by omega)).trans (h.block i hi)⟩
/-- a whole variable is stored -/
theorem Blk.store (h : Blk W t g cs) (t2 : TypeId) (X : Array Value) (hi : (Try.prog.info? t2).map (·.size) = some X.size) (hs : cs.size = X.size) (h1 : X.toList.all (·.oneCell') = true) : (stv t2 ⟨g, 0, none⟩ (.agg X)).run Try.prog W = .ok () (W.setRow g X) := by
  refine stv_of t2 _ X _ rfl hi ?_
  rw [run_storeCells_at (P := Try.prog) g 0 t X.toList 0 cs W h.heap (by simp; omega) (fun v hv => by rw [List.all_eq_true] at h1; exact h1 v hv)]
  congr 2
  rw [Nat.add_zero, List.take_zero, List.nil_append, List.drop_eq_nil_of_le (by simp; omega), List.append_nil, Array.toArray_toList]
/-- a part of a variable is stored -/
theorem Blk.store_mid (h : Blk W t g cs) (t2 : TypeId) (o : Nat) (X : Array Value) (hi : (Try.prog.info? t2).map (·.size) = some X.size) (hs : o + X.size ≤ cs.size) (h1 : X.toList.all (·.oneCell') = true) : (stv t2 ⟨g, o, none⟩ (.agg X)).run Try.prog W = .ok () (W.setRow g (cs.toList.take o ++ X.toList ++ cs.toList.drop (o + X.size)).toArray) := by
  refine stv_of t2 _ X _ rfl hi ?_
  rw [run_storeCells_at (P := Try.prog) g o t X.toList 0 cs W h.heap (by simp; omega) (fun v hv => by rw [List.all_eq_true] at h1; exact h1 v hv)]
  simp
end
theorem nums_int (k : IntKind) (d : List Int) : ∀ v ∈ nums k d, ∃ k n, v = Value.int k n := fun v hv => by
  simp only [nums, List.mem_map] at hv; obtain ⟨q, _, rfl⟩ := hv; exact ⟨_, _, rfl⟩
theorem Img.enc_int (i : Img) : ∀ v ∈ i.enc, ∃ k n, v = Value.int k n := fun v hv => by
  simp only [Img.enc, List.mem_cons] at hv
  rcases hv with rfl | rfl | hv
  · exact ⟨_, _, rfl⟩
  · exact ⟨_, _, rfl⟩
  · exact nums_int _ _ v hv
theorem Met.enc_int (m : Met) : ∀ v ∈ m.enc, ∃ k n, v = Value.int k n := fun v hv => by
  simp only [Met.enc, List.mem_cons, List.mem_append, List.not_mem_nil, or_false] at hv
  rcases hv with rfl | hv | hv | rfl | rfl | hv | rfl | rfl
  · exact ⟨_, _, rfl⟩
  · exact Img.enc_int _ v hv
  · exact Img.enc_int _ v hv
  · exact ⟨_, _, rfl⟩
  · exact ⟨_, _, rfl⟩
  · exact Img.enc_int _ v hv
  · exact ⟨_, _, rfl⟩
  · exact ⟨_, _, rfl⟩
theorem one_of {l : List Value} (h : ∀ v ∈ l, ∃ k n, v = Value.int k n) : l.all (·.oneCell') = true := by
  rw [List.all_eq_true]
  intro v hv
  obtain ⟨k, n, rfl⟩ := h v hv
  rfl
theorem enc_one (m : Met) : m.enc.all (·.oneCell') = true := one_of m.enc_int
theorem img_one (i : Img) : i.enc.all (·.oneCell') = true := one_of i.enc_int

theorem set_at {l : List Value} {pre post : List Value} {v u : Value} {n : Nat} (h : l = pre ++ v :: post) (hn : pre.length = n) : l.toArray.setIfInBounds n u = (pre ++ u :: post).toArray := by
  subst h hn
  simp
theorem Met.set_tr {m : Met} (h : m.Ok) (x : Int) : m.enc.toArray.setIfInBounds 106 (.int .i64 x) = ({ m with tr := x } : Met).enc.toArray := by
  have l0 := Img.enc_length h.i0
  have l1 := Img.enc_length h.i1
  have lC := Img.enc_length h.co
  rw [set_at (pre := .int .i64 m.a :: (m.i0.enc ++ (m.i1.enc ++ (.int .i64 m.mn :: .int .i64 m.ph :: (m.co.enc ++ [.int .i64 m.got]))))) (v := .int .i64 m.tr) (post := []) (by simp [Met.enc]) (by simp [l0, l1, lC])]
  simp [Met.enc]
theorem Met.set_ph {m : Met} (h : m.Ok) (x : Int) : m.enc.toArray.setIfInBounds 70 (.int .i64 x) = ({ m with ph := x } : Met).enc.toArray := by
  have l0 := Img.enc_length h.i0
  have l1 := Img.enc_length h.i1
  rw [set_at (pre := .int .i64 m.a :: (m.i0.enc ++ (m.i1.enc ++ [.int .i64 m.mn]))) (v := .int .i64 m.ph) (post := m.co.enc ++ [.int .i64 m.got, .int .i64 m.tr]) (by simp [Met.enc]) (by simp [l0, l1])]
  simp [Met.enc]
theorem Met.set_i0 {m : Met} (h : m.Ok) (i : Img) : (m.enc.take 1 ++ i.enc ++ m.enc.drop 35).toArray = ({ m with i0 := i } : Met).enc.toArray := by
  rw [(Met.parts h).d35]
  simp [Met.enc]
theorem Met.set_i1 {m : Met} (h : m.Ok) (i : Img) : (m.enc.take 35 ++ i.enc ++ m.enc.drop 69).toArray = ({ m with i1 := i } : Met).enc.toArray := by
  have l0 := Img.enc_length h.i0
  rw [(Met.parts h).d69]
  have : m.enc.take 35 = .int .i64 m.a :: m.i0.enc := by
    show (Value.int .i64 m.a :: (m.i0.enc ++ _)).take 35 = _
    rw [List.take_succ_cons, List.take_append_of_le_length (by omega), List.take_of_length_le (by omega)]
  rw [this]
  simp [Met.enc]
theorem row_cell {W : World} {g : Nat} {cs : Array Value} (h : Kit.rowAt W g = cs) {i : Nat} (hi : i < cs.size) : W.cell? ⟨g, i, none⟩ = cs[i]? := by
  unfold Kit.rowAt at h
  cases hh : W.heap[g]? with
  | none => rw [hh] at h; subst h; simp at hi
  | some o =>
    rw [hh] at h
    cases o with
    | cells c t fr => subst h; exact cell_of_row W g i c t fr hh
    | _ => subst h; simp at hi
theorem z58 : Try.zeroCells52.size = 107 := by kernel_rfl
end Go.Proofs.Ytehlcljachkgdaa.Boot
