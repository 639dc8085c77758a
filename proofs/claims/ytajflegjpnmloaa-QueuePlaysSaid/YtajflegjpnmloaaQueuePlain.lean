/- Rows of requests that one owns; a queue. -/
import Derived.Test.YtajflegjpnmloaaClone
namespace Go.Proofs.Ytajflegjpnmloaa.Queue
open Go.RowKit Go.Proofs.YtajflegjpnmloaaW.PrintWords Go.Proofs.YtajflegjpnmloaaW.PrintLast Go.Proofs.Ytajflegjpnmloaa.Kit Go.Proofs.Ytajflegjpnmloaa.Field
set_option linter.unusedSimpArgs false
set_option linter.unusedVariables false
/-- append onto a row of the call's own, of elements of any size, as a step of a drawn region -/
theorem step_own {P : Program} {ops : Array Oper} {o : Oper} {a : Act} {K : Act → World → Prop} {Q : Exit → Act → World → Prop} {E : Prop} {W : World} (base size bytes : Nat) (hgd : o.guard = none) (s x : Operand) (t e : TypeId)
    (ho : o.op = .call { callee := .builtin .append, args := #[s, x], argTypes := #[t, t] })
    (ht : P.underlying t = some (.slice e)) (hinfo : (P.info? e).map (fun i => (i.zero.map (·.cells.size), i.size, i.bytes)) = some (some size, size, bytes)) (hsz : 0 < size)
    (v : Value) (n : Nat) (xs : List Value) (ad : Addr) (m c : Nat) (news : List Value) (hs : a.eval s = v) (hx : a.eval x = .slice (some ad) m c)
    (HO : W.ownsRow base e size v n xs) (hl : news.length = m * size) (hnews : ∀ j u, news[j]? = some u → W.cell? (ad.add j) = some u) (h1 : ∀ u ∈ news, u.oneCell' = true)
    (h63 : n + m ≤ maxLen) (hbytes : (n + m) * bytes ≤ 140737488355328) (hbase : base ≤ W.heap.size)
    (h : ∀ v1 w1, w1.ownsRow base e size v1 (n + m) (xs ++ news) → W.grownBy w1 v.ownBlock → (v1.ownBlock = v.ownBlock ∨ v1.ownBlock = some W.heap.size) → K (a.put o.dst v1) w1) :
    if Region.wanted o (yielded ops a.tmps) = true then Oper.wp P o a W K Q else E := by
  have hw : Region.wanted o (yielded ops a.tmps) = true := by simp [Region.wanted, hgd]
  rw [if_pos hw]
  obtain ⟨i0, hi, hzz⟩ := Option.map_eq_some_iff.1 hinfo
  simp only [Prod.mk.injEq] at hzz
  obtain ⟨hz0, hz1, hz2⟩ := hzz
  obtain ⟨z, hz, hzs⟩ := Option.map_eq_some_iff.1 hz0
  obtain ⟨v1, w1, hrun, h2, h3, _, h5⟩ := run_append_own_at (P := P) W base t o.type e i0 z size bytes ht hi hz hz1 hz2 hzs hsz v n xs HO ad m c news hl hnews h1 h63 hbytes hbase
  unfold Oper.wp execOp
  simp only [ho, resolve, invoke, builtin, Sem.run_bind, Sem.run_pure, Result.andThen_ok, List.map_toArray, List.map_cons, List.map_nil, hs, hx, hrun]
  exact h _ w1 h2 h3 h5
/-- append onto a row of the call's own, of elements of any size -/
theorem list_own {P : Program} {ops : Array Oper} {rest : List Oper} {o : Oper} {a : Act} {Q : Exit → Act → World → Prop} {W : World} (base size bytes : Nat) (hgd : o.guard = none) (s x : Operand) (t e : TypeId)
    (ho : o.op = .call { callee := .builtin .append, args := #[s, x], argTypes := #[t, t] })
    (ht : P.underlying t = some (.slice e)) (hinfo : (P.info? e).map (fun i => (i.zero.map (·.cells.size), i.size, i.bytes)) = some (some size, size, bytes)) (hsz : 0 < size)
    (v : Value) (n : Nat) (xs : List Value) (ad : Addr) (m c : Nat) (news : List Value) (hs : a.eval s = v) (hx : a.eval x = .slice (some ad) m c)
    (HO : W.ownsRow base e size v n xs) (hl : news.length = m * size) (hnews : ∀ j u, news[j]? = some u → W.cell? (ad.add j) = some u) (h1 : ∀ u ∈ news, u.oneCell' = true)
    (h63 : n + m ≤ maxLen) (hbytes : (n + m) * bytes ≤ 140737488355328) (hbase : base ≤ W.heap.size)
    (h : ∀ v1 w1, w1.ownsRow base e size v1 (n + m) (xs ++ news) → W.grownBy w1 v.ownBlock → (v1.ownBlock = v.ownBlock ∨ v1.ownBlock = some W.heap.size) → wpList P ops Q rest (a.put o.dst v1) w1) :
    wpList P ops Q (o :: rest) a W := by
  obtain ⟨i0, hi, hzz⟩ := Option.map_eq_some_iff.1 hinfo
  simp only [Prod.mk.injEq] at hzz
  obtain ⟨hz0, hz1, hz2⟩ := hzz
  obtain ⟨z, hz, hzs⟩ := Option.map_eq_some_iff.1 hz0
  exact wpList_append_own_at W hgd s x t ho base e i0 z size bytes ht hi hz hz1 hz2 hzs hsz v n xs hs HO ad m c news hx hl hnews h1 h63 hbytes hbase (fun v1 w1 a b _ d => h v1 w1 a b d)
theorem own_less {W : World} {B C size n : Nat} {e : TypeId} {v : Value} {xs : List Value} (h : W.ownsRow B e size v n xs) (k : C ≤ B) : W.ownsRow C e size v n xs := by
  refine ⟨h.1, ?_⟩
  rcases h.2 with hn | ⟨g, cap, cur, hv, hb, rest⟩
  · exact .inl hn
  · exact .inr ⟨g, cap, cur, hv, by omega, rest⟩
theorem own_below' {W w1 : World} {B size n : Nat} {e : TypeId} {v : Value} {xs : List Value} (h : W.ownsRow B e size v n xs) (k : Below W.heap.size W w1) : w1.ownsRow B e size v n xs := by
  refine ⟨h.1, ?_⟩
  rcases h.2 with hn | ⟨g, cap, cur, hv, hb, hh, rest⟩
  · exact .inl hn
  · exact .inr ⟨g, cap, cur, hv, hb, (k.block g (Array.getElem?_eq_some_iff.1 hh).1).trans hh, rest⟩
/-- a call's own row lies at or above its base -/
theorem own_ge {W : World} {B size n : Nat} {e : TypeId} {v : Value} {xs : List Value} (h : W.ownsRow B e size v n xs) {b : Nat} (hb : v.ownBlock = some b) : B ≤ b ∧ b < W.heap.size := by
  rcases h.2 with ⟨rfl, _⟩ | ⟨g, cap, cur, rfl, hg, hh, _⟩
  · simp [Value.ownBlock] at hb
  · simp [Value.ownBlock] at hb
    subst hb
    exact ⟨hg, (Array.getElem?_eq_some_iff.1 hh).1⟩

theorem below_grown {W W1 w1 : World} {B : Nat} {row : Option Nat} (h : Below B W W1) (hg : W1.grownBy w1 row) (hr : ∀ b, row = some b → B ≤ b) (hB : B ≤ W1.heap.size) : Below B W w1 :=
  ⟨hg.os.trans h.os, hg.tape.trans h.tape, hg.output.trans h.output, Nat.le_trans h.size hg.size, fun i hi => (hg.block i (by omega) (fun e => by have := hr i e.symm; omega)).trans (h.block i hi)⟩
theorem below_alloc1 (W : World) (o : Obj) : Below W.heap.size W (W.alloc o) := (Below.refl _ _).alloc (Nat.le_refl _) o
theorem infoReq : (Try.prog.info? 43).map (fun i => (i.zero.map (·.cells.size), i.size, i.bytes)) = some (some 3, 3, 40) := by kernel_rfl
/-- a request, as it lies in memory -/
structure Rq where
  k : Int
  n : Int
  A : Option Addr
  m : Nat
  c : Nat
def Rq.cells (r : Rq) : List Value := [.int .i64 r.k, .int .i64 r.n, .slice r.A r.m r.c]
def rows (l : List Rq) : List Value := l.flatMap Rq.cells
theorem rows_length : ∀ l : List Rq, (rows l).length = l.length * 3
  | [] => rfl
  | r :: l => by
    have ih := rows_length l
    unfold rows at ih ⊢
    rw [List.flatMap_cons, List.length_append, ih, List.length_cons]
    simp [Rq.cells]
    omega
theorem rows_append (a b : List Rq) : rows (a ++ b) = rows a ++ rows b := by unfold rows; rw [List.flatMap_append]
theorem rows_one (l : List Rq) : ∀ u ∈ rows l, u.oneCell' = true := by
  intro u hu
  unfold rows at hu
  rw [List.mem_flatMap] at hu
  obtain ⟨r, _, hr⟩ := hu
  simp only [Rq.cells, List.mem_cons, List.not_mem_nil, or_false] at hr
  rcases hr with rfl | rfl | rfl <;> rfl
/-- where an owned row's cells lie -/
theorem own_cells {W : World} {B size n : Nat} {e : TypeId} {v : Value} {xs : List Value} (h : W.ownsRow B e size v n xs) (hn : 0 < n) :
    ∃ b cap, v = .slice (some ⟨b, 0, none⟩) n cap ∧ B ≤ b ∧ n ≤ cap ∧ b < W.heap.size ∧ ∀ j u, xs[j]? = some u → W.cell? ⟨b, j, none⟩ = some u := by
  rcases h.2 with ⟨_, h0⟩ | ⟨g, cap, cur, rfl, hg, hh, hnc, _, _, ht⟩
  · omega
  · refine ⟨g, cap, rfl, hg, hnc, (Array.getElem?_eq_some_iff.1 hh).1, fun j u hu => ?_⟩
    rw [cell_of_row W g j cur e (0, 0) hh]
    have hj : j < xs.length := (List.getElem?_eq_some_iff.1 hu).1
    have h2 : (cur.toList.take (n * size))[j]? = some u := by rw [ht]; exact hu
    rw [List.getElem?_take_of_lt (by have := h.1; omega)] at h2
    simpa using h2

/-- a queue at block g, from block B on: its slice v, the requests that wait -/
structure Qu (W : World) (B g : Nat) (v : Value) (l : List Rq) : Prop where
  hB : B ≤ g
  cell : W.heap[g]? = some (.cells #[v] 41 (0, 0))
  own : W.ownsRow B 43 3 v l.length (rows l)
/-- what is written when a queue is -/
def qF (g : Nat) (v : Value) : Nat → Prop := fun i => i = g ∨ v.ownBlock = some i
section
variable {F : Nat → Prop} {W W' : World} {B g n size : Nat} {v : Value} {l : List Rq} {e : TypeId} {xs : List Value}
theorem own_keep (h : W.ownsRow B e size v n xs) (k : Fr F W W') (hv : ∀ b, v.ownBlock = some b → ¬ F b) : W'.ownsRow B e size v n xs := by
  refine ⟨h.1, ?_⟩
  rcases h.2 with h1 | ⟨r, cap, cur, rfl, hb, hh, h2⟩
  · exact .inl h1
  · exact .inr ⟨r, cap, cur, rfl, hb, (k.block r (heap_lt hh) (hv r (by simp [Value.ownBlock]))).trans hh, h2⟩
theorem Qu.lt (h : Qu W B g v l) : g < W.heap.size := heap_lt h.cell
theorem Qu.keep (h : Qu W B g v l) (k : Fr F W W') (hg : ¬ F g) (hv : ∀ b, v.ownBlock = some b → ¬ F b) : Qu W' B g v l :=
  ⟨h.hB, (k.block g h.lt hg).trans h.cell, own_keep h.own k hv⟩
theorem Qu.below (h : Qu W B g v l) (k : Below W.heap.size W W') : Qu W' B g v l := h.keep (Fr.of_below k (fun _ => False)) id (fun _ _ => id)
theorem Qu.drew (h : Qu W B g v l) : Qu W.drew B g v l := ⟨h.hB, h.cell, h.own⟩
theorem Qu.cell0 (h : Qu W B g v l) : W.cell? ⟨g, 0, none⟩ = some v := by
  rw [cell_of_row W g 0 #[v] 41 (0, 0) h.cell]; rfl
theorem Qu.free (h : Qu W B g v l) : W.frozen? ⟨g, 0, none⟩ = false := by simp [World.frozen?, h.cell]
theorem Qu.ne (h : Qu W B g v l) : v.ownBlock ≠ some g := by
  rcases h.own.2 with ⟨rfl, _⟩ | ⟨r, cap, cur, rfl, hb, hh, h2⟩
  · simp [Value.ownBlock]
  · intro e
    have e2 : r = g := by simpa [Value.ownBlock] using e
    subst e2
    have := hh.symm.trans h.cell
    injection this with this
    injection this with _ this
    exact absurd this (by decide)
/-- a slice's length, whatever it is -/
theorem Qu.slice (h : Qu W B g v l) : ∃ A c, v = .slice A l.length c := by
  rcases h.own.2 with ⟨rfl, h0⟩ | ⟨r, cap, cur, rfl, _⟩
  · exact ⟨none, 0, by rw [h0]⟩
  · exact ⟨_, _, rfl⟩
/-- another row is laid into the queue -/
theorem Qu.lay {v1 : Value} {l1 : List Rq} (h : Qu W B g v l) (k : Fr F W W') (hg : ¬ F g) (own1 : W'.ownsRow B 43 3 v1 l1.length (rows l1)) :
    Qu (W'.setCell ⟨g, 0, none⟩ v1) B g v1 l1 := by
  have h1 : W'.heap[g]? = some (.cells #[v] 41 (0, 0)) := (k.block g h.lt hg).trans h.cell
  refine ⟨h.hB, by simp [World.setCell, Array.getElem?_modify, h1], own1.1, ?_⟩
  rcases own1.2 with e | ⟨r, cap, cur, rfl, hb, hh, h2⟩
  · exact .inl e
  · refine .inr ⟨r, cap, cur, rfl, hb, (Below.heap_setCell W' ⟨g, 0, none⟩ _ r (fun e => ?_)).trans hh, h2⟩
    have e : r = g := e
    subst e
    have := hh.symm.trans h1
    injection this with this
    injection this with _ this
    exact absurd this (by decide)
end
end Go.Proofs.Ytajflegjpnmloaa.Queue
