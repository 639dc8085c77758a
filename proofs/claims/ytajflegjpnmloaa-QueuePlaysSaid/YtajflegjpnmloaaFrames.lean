/- Frames: what a call keeps; a writer and a reader of bytes behind a pointer. -/
import Derived.Test.YtajflegjpnmloaaFieldPlain
namespace Go.Proofs.Ytajflegjpnmloaa.Field
open Go.RowKit Go.Proofs.YtajflegjpnmloaaW.PrintWords Go.Proofs.YtajflegjpnmloaaW.PrintLast Go.Proofs.Ytajflegjpnmloaa.Kit

/-- all blocks that were there, but those of F, are as they were -/
structure Fr (F : Nat → Prop) (W W' : World) : Prop where
  os : W'.os = W.os
  tape : W'.tape = W.tape
  output : W'.output = W.output
  size : W.heap.size ≤ W'.heap.size
  block : ∀ i, i < W.heap.size → ¬ F i → W'.heap[i]? = W.heap[i]?

section
variable {F F' : Nat → Prop} {W W' W'' : World} {B g : Nat}
theorem Fr.refl (F : Nat → Prop) (W : World) : Fr F W W := ⟨rfl, rfl, rfl, Nat.le_refl _, fun _ _ _ => rfl⟩
theorem Fr.then_ (h : Fr F W W') (k : Fr F' W' W'') (hs : ∀ i, i < W.heap.size → F' i → F i) : Fr F W W'' :=
  ⟨k.os.trans h.os, k.tape.trans h.tape, k.output.trans h.output, Nat.le_trans h.size k.size, fun i hi hn => (k.block i (Nat.lt_of_lt_of_le hi h.size) (fun hf => hn (hs i hi hf))).trans (h.block i hi hn)⟩
theorem Fr.mono (h : Fr F W W') (hs : ∀ i, i < W.heap.size → F i → F' i) : Fr F' W W' := ⟨h.os, h.tape, h.output, h.size, fun i hi hn => h.block i hi (fun hf => hn (hs i hi hf))⟩
theorem Fr.of_below (h : Below W.heap.size W W') (F : Nat → Prop) : Fr F W W' := ⟨h.os, h.tape, h.output, h.size, fun i hi _ => h.block i hi⟩
theorem Fr.of_grown {row : Option Nat} (h : W.grownBy W' row) : Fr (fun i => row = some i) W W' := ⟨h.os, h.tape, h.output, h.size, fun i hi hn => h.block i hi (fun e => hn e.symm)⟩
theorem Fr.below (h : Fr F W W') (hb : Below W'.heap.size W' W'') : Fr F W W'' := h.then_ (Fr.of_below hb (fun _ => False)) (fun _ _ hf => hf.elim)
theorem Fr.drew (h : Fr F W W') : Fr F W W'.drew := ⟨h.os, h.tape, h.output, h.size, h.block⟩
theorem Fr.drewN (h : Fr F W W') (n : Nat) : Fr F W (W'.drewN n) := ⟨h.os, h.tape, h.output, h.size, h.block⟩
theorem Fr.alloc (h : Fr F W W') (o : Obj) : Fr F W (W'.alloc o) := h.below ((Below.refl _ _).alloc (Nat.le_refl _) _)
theorem Fr.setCell (h : Fr F W W') {p : Addr} (hp : F p.block ∨ W.heap.size ≤ p.block) (u : Value) : Fr F W (W'.setCell p u) :=
  h.then_ (F' := fun i => i = p.block) ⟨rfl, rfl, rfl, by simp [World.setCell], fun i _ hn => Below.heap_setCell W' p u i hn⟩ (fun i hi e => by subst e; exact hp.elim id (fun h => by omega))
theorem Fr.to_below (h : Fr F W W') (hF : ∀ i, i < B → ¬ F i) (hB : B ≤ W.heap.size) : Below B W W' := ⟨h.os, h.tape, h.output, h.size, fun i hi => h.block i (by omega) (hF i hi)⟩
theorem Fr.reads {A : Option Addr} {n : Nat} {xs : List Int} {k : IntKind} (h : Fr F W W') (hr : ReadsInt W k A n xs) (hA : 0 < n → ∀ ad, A = some ad → ¬ F ad.block) : ReadsInt W' k A n xs :=
  ⟨hr.1, hr.2.1, fun hn => by
    obtain ⟨ad, e, hc⟩ := hr.2.2 hn
    refine ⟨ad, e, fun j hj => ?_⟩
    have hlt := World.block_lt_of_cell? W _ (hc j hj)
    have hb : (ad.add j).block = ad.block := by unfold Addr.add; split <;> rfl
    rw [World.cell?_of_block (h.block _ hlt (by rw [hb]; exact hA hn ad e))]
    exact hc j hj⟩
end

/-- a writer at block g, from block B on: its slice v, the bytes xs that were written -/
structure Wr (W : World) (T : TypeId) (B g : Nat) (v : Value) (xs : List Int) : Prop where
  hB : B ≤ g
  cell : W.heap[g]? = some (.cells #[v] T (0, 0))
  own : W.ownsRow B 5 1 v xs.length (nums .u8 xs)
/-- what is written when a writer is -/
def wF (g : Nat) (v : Value) : Nat → Prop := fun i => i = g ∨ v.ownBlock = some i
/-- where a writer's row is, behind a write -/
def rowNext (W : World) (v v' : Value) : Prop := v'.ownBlock = v.ownBlock ∨ ∃ b, v'.ownBlock = some b ∧ W.heap.size ≤ b

section
variable {F : Nat → Prop} {W W' W'' : World} {T : TypeId} {B g : Nat} {v : Value} {xs : List Int}
theorem heap_lt {o : Obj} (h : W.heap[g]? = some o) : g < W.heap.size := (Array.getElem?_eq_some_iff.1 h).1
theorem Wr.lt (h : Wr W T B g v xs) : g < W.heap.size := heap_lt h.cell
theorem Wr.keep (h : Wr W T B g v xs) (k : Fr F W W') (hg : ¬ F g) (hv : ∀ b, v.ownBlock = some b → ¬ F b) : Wr W' T B g v xs := by
  refine ⟨h.hB, (k.block g h.lt hg).trans h.cell, h.own.1, ?_⟩
  rcases h.own.2 with h1 | ⟨r, cap, cur, rfl, hb, hh, h2⟩
  · exact .inl h1
  · exact .inr ⟨r, cap, cur, rfl, hb, (k.block r (heap_lt hh) (hv r (by simp [Value.ownBlock]))).trans hh, h2⟩
theorem Wr.below (h : Wr W T B g v xs) (k : Below W.heap.size W W') : Wr W' T B g v xs := h.keep (Fr.of_below k (fun _ => False)) id (fun _ _ => id)
theorem Wr.to_below (h : Wr W T B g v xs) (k : Fr (wF g v) W W') (hB : B ≤ W.heap.size) : Below B W W' :=
  k.to_below (fun i hi hf => hf.elim (fun e => by have := h.hB; omega) (fun e => by have := own_base h.own i e; omega)) hB
theorem Wr.ne (h : Wr W T B g v xs) (hT : 5 ≠ T) : v.ownBlock ≠ some g := by
  rcases h.own.2 with ⟨rfl, _⟩ | ⟨r, cap, cur, rfl, hb, hh, h2⟩
  · simp [Value.ownBlock]
  · intro e
    have e2 : r = g := by simpa [Value.ownBlock] using e
    subst e2
    have := hh.symm.trans h.cell
    injection this with this
    injection this with _ this
    exact hT this
theorem Wr.drew (h : Wr W T B g v xs) : Wr W.drew T B g v xs := ⟨h.hB, h.cell, h.own⟩
theorem Wr.drewN (h : Wr W T B g v xs) (n : Nat) : Wr (W.drewN n) T B g v xs := ⟨h.hB, h.cell, h.own⟩
theorem Wr.cell0 (h : Wr W T B g v xs) : W.cell? ⟨g, 0, none⟩ = some v := by
  rw [cell_of_row W g 0 #[v] T (0, 0) h.cell]; rfl
theorem Wr.free (h : Wr W T B g v xs) : W.frozen? ⟨g, 0, none⟩ = false := by simp [World.frozen?, h.cell]
theorem rowNext.refl (W : World) (v : Value) : rowNext W v v := .inl rfl
theorem rowNext.trans {v1 v2 : Value} (h : rowNext W v v1) (k : rowNext W' v1 v2) (hs : W.heap.size ≤ W'.heap.size) : rowNext W v v2 := by
  rcases k with e | ⟨b, e, hb⟩
  · rcases h with e2 | ⟨b, e2, hb⟩
    · exact .inl (e.trans e2)
    · exact .inr ⟨b, e.trans e2, hb⟩
  · exact .inr ⟨b, e, by omega⟩
theorem rowNext.frame {v1 : Value} (h : rowNext W v v1) (k : Fr (wF g v) W W') (k2 : Fr (wF g v1) W' W'') : Fr (wF g v) W W'' :=
  k.then_ k2 fun i hi hf => hf.elim .inl fun e => by
    rcases h with e2 | ⟨b, e2, hb⟩
    · exact .inr (e2 ▸ e)
    · rw [e2] at e; injection e with e; omega
/-- what was appended is laid into the writer -/
theorem Wr.push {W1 w1 : World} {v1 : Value} {ys : List Int} (h : Wr W T B g v xs) (k : Below W.heap.size W W1) (own1 : w1.ownsRow B 5 1 v1 ys.length (nums .u8 ys)) (hg : W1.grownBy w1 v.ownBlock) (hT : 5 ≠ T) :
    Wr (w1.setCell ⟨g, 0, none⟩ v1) T B g v1 ys ∧ Fr (wF g v) W (w1.setCell ⟨g, 0, none⟩ v1) := by
  have h1 : w1.heap[g]? = some (.cells #[v] T (0, 0)) := (hg.block g (Nat.lt_of_lt_of_le h.lt k.size) (fun e => h.ne hT e.symm)).trans ((k.block g h.lt).trans h.cell)
  refine ⟨⟨h.hB, ?_, own1.1, ?_⟩, ?_⟩
  · simp [World.setCell, Array.getElem?_modify, h1]
  · rcases own1.2 with e | ⟨r, cap, cur, rfl, hb, hh, h2⟩
    · exact .inl e
    · refine .inr ⟨r, cap, cur, rfl, hb, (Below.heap_setCell w1 ⟨g, 0, none⟩ _ r (fun e => ?_)).trans hh, h2⟩
      have e : r = g := e
      subst e
      have := hh.symm.trans h1
      injection this with this
      injection this with _ this
      exact hT this
  · refine (((Fr.of_below k (wF g v)).then_ (Fr.of_grown hg) ?_).setCell (.inl (.inl rfl)) _)
    exact fun i _ e => .inr e
end
/-- block g holds one cell, v: for a region's S -/
def At (W : World) (T : TypeId) (g : Nat) (v : Value) : Prop := W.heap[g]? = some (.cells #[v] T (0, 0))
section
variable {W w1 : World} {T : TypeId} {g : Nat} {v : Value}
theorem At.cell (h : At W T g v) : W.cell? ⟨g, 0, none⟩ = some v := by rw [cell_of_row W g 0 #[v] T (0, 0) h]; rfl
theorem At.free (h : At W T g v) : W.frozen? ⟨g, 0, none⟩ = false := by unfold At at h; simp [World.frozen?, h]
theorem At.all (h : At W T g v) : W.cell? ⟨g, 0, none⟩ = some v ∧ W.frozen? ⟨g, 0, none⟩ = false ∧ At W T g v := ⟨h.cell, h.free, h⟩
theorem At.drew (h : At W T g v) : At W.drew T g v := h
theorem At.alloc (h : At W T g v) (o : Obj) : At (W.alloc o) T g v := (Below.heap_alloc W o g (heap_lt h)).trans h
theorem At.below (h : At W T g v) (k : Below W.heap.size W w1) : At w1 T g v := (k.block g (heap_lt h)).trans h
theorem Wr.own_below {B : Nat} {xs : List Int} (h : Wr W T B g v xs) (k : Below W.heap.size W w1) : w1.ownsRow B 5 1 v xs.length (nums .u8 xs) := (h.below k).own
theorem At.grown {row : Option Nat} (hg : W.grownBy w1 row) (h : At W T g v) (hne : row ≠ some g) : At w1 T g v := (hg.block g (heap_lt h) (fun e => hne e.symm)).trans h
end
/-- append onto a row of the call's own, at a step of a region that draws its order: which blocks are written -/
theorem step_rowF {P : Program} {ops : Array Oper} {o : Oper} {a : Act} {K : Act → World → Prop} {Q : Exit → Act → World → Prop} {E : Prop} {W : World} (base : Nat) (hgd : o.guard = none) (s x : Operand) (t e : TypeId)
    (ho : o.op = .call { callee := .builtin .append, args := #[s, x], argTypes := #[t, t] })
    (ht : P.underlying t = some (.slice e)) (hinfo : (P.info? e).map (fun i => (i.zero, i.size, i.bytes)) = some (some (.int .u8 0), 1, 1))
    (v : Value) (xs ys : List Int) (ad : Addr) (m c : Nat) (hs : a.eval s = v) (hx : a.eval x = .slice (some ad) m c) (hm : 0 < m)
    (HO : W.ownsRow base e 1 v xs.length (nums .u8 xs)) (HR : ReadsInt W .u8 (some ad) m ys) (hbase : base ≤ W.heap.size) (hl : xs.length + m ≤ 140737488355328)
    (h : ∀ A1 n1 c1 w1, w1.ownsRow base e 1 (.slice A1 n1 c1) (xs ++ ys).length (nums .u8 (xs ++ ys)) → W.grownBy w1 v.ownBlock → rowNext W v (.slice A1 n1 c1) → K (a.put o.dst (.slice A1 n1 c1)) w1) :
    if Region.wanted o (yielded ops a.tmps) = true then Oper.wp P o a W K Q else E := by
  obtain ⟨i0, hi, hzz⟩ := Option.map_eq_some_iff.1 hinfo
  simp only [Prod.mk.injEq] at hzz
  obtain ⟨hz0, hz1, hz2⟩ := hzz
  have hym : ys.length = m := HR.1
  refine step_append_lies W hgd s x t ho base e i0 (.int .u8 0) 1 1 ht hi hz0 hz1 hz2 rfl (by decide) v xs.length (nums .u8 xs) hs HO ad m c (nums .u8 ys) hx (by rw [nums_length, hym]; simp) ?_
    (by intro u hu; simp only [nums, List.mem_map] at hu; obtain ⟨q, _, rfl⟩ := hu; rfl) hm (by simp only [maxLen]; omega) (by omega) hbase W.heap.size rfl ?_
  · intro j u hu
    have hj : j < ys.length := by
      rcases Nat.lt_or_ge j ys.length with h | h
      · exact h
      · simp [nums, List.getElem?_eq_none h] at hu
    obtain ⟨ad', h', hc⟩ := HR.2.2 (by omega)
    injection h' with h'
    subst h'
    have e1 : (nums .u8 ys)[j]? = some (.int .u8 (ys.getD j 0)) := by simp [nums, List.getElem?_eq_getElem hj, List.getD_eq_getElem?_getD]
    rw [e1] at hu
    rw [← hu]
    exact hc j (by omega)
  · intro r cap w1 hown hg hat _
    refine h _ _ _ w1 ?_ hg ?_
    · rw [List.length_append, nums_append, hym]
      exact hown
    · rcases hat with e | e
      · exact .inl (by rw [e]; rfl)
      · exact .inr ⟨r, rfl, by omega⟩
/-- append onto a row of the call's own: which blocks are written; what is appended may be nothing -/
theorem wpList_append_F {P : Program} {ops : Array Oper} {rest : List Oper} {o : Oper} {a : Act} {Q : Exit → Act → World → Prop} {W : World} (base : Nat) (hgd : o.guard = none) (s x : Operand) (t e : TypeId)
    (ho : o.op = .call { callee := .builtin .append, args := #[s, x], argTypes := #[t, t] })
    (ht : P.underlying t = some (.slice e)) (hinfo : (P.info? e).map (fun i => (i.zero, i.size, i.bytes)) = some (some (.int .u8 0), 1, 1))
    (v : Value) (xs ys : List Int) (A : Option Addr) (m c : Nat) (hs : a.eval s = v) (hx : a.eval x = .slice A m c)
    (HO : W.ownsRow base e 1 v xs.length (nums .u8 xs)) (HR : ReadsInt W .u8 A m ys) (hbase : base ≤ W.heap.size) (hl : xs.length + m ≤ 140737488355328)
    (h : ∀ A1 n1 c1 w1, w1.ownsRow base e 1 (.slice A1 n1 c1) (xs ++ ys).length (nums .u8 (xs ++ ys)) → W.grownBy w1 v.ownBlock → rowNext W v (.slice A1 n1 c1) → wpList P ops Q rest (a.put o.dst (.slice A1 n1 c1)) w1) :
    wpList P ops Q (o :: rest) a W := by
  refine print_append_row (w0 := W) base hgd s x t e .u8 1 ho ht hinfo (by decide) v xs ys A m c hs hx HO HR (Below.refl _ _) hbase (by omega) ?_
  intro v1 w1 own1 _ hg hat
  obtain ⟨A1, c1, rfl, _⟩ := own_reads own1
  exact h _ _ _ w1 own1 hg hat
end Go.Proofs.Ytajflegjpnmloaa.Field
