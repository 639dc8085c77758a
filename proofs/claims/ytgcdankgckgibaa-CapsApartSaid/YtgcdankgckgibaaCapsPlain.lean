/- Plain facts: a tenant's config as cells, what may be, what each one gets; rows of structs. -/
import Derived.Test.YtgcdankgckgibaaRunes
import Derived.Maps.OwnOps
import Derived.Maps.OwnSet
import Derived.Maps.AppendAt
import Derived.StringKeys
import Derived.Maps.Views
namespace Go.Proofs.Ytgcdankgckgibaa.Caps
open Go.RowKit Go.Proofs.YtgcdankgckgibaaW.PrintWords Go.Proofs.YtgcdankgckgibaaW.PrintLast Go.Proofs.Ytgcdankgckgibaa.Kit Go.Proofs.Ytgcdankgckgibaa.Runes

/-- a variable of many cells is loaded, wherever it lies -/
theorem run_loadVar_list {P : Program} (w : World) (ad : Addr) (ty : TypeId) (cs : List Value) (d : TypeDesc) (hc : ∀ j v, cs[j]? = some v → w.cell? (ad.add j) = some v)
    (hu : P.underlying ty = some d) (hd : d.isRow = true) (hi : (P.info? ty).map (·.size) = some cs.length) :
    (loadVar ty ad).run P w = .ok (.agg cs.toArray) w := by
  have hl : (loadCells ad cs.length).run P w = .ok cs.toArray w := run_loadCells_list (P := P) w ad cs hc
  cases hq : P.info? ty with
  | none => simp [hq] at hi
  | some i =>
    have hs : i.size = cs.length := by simpa [hq] using hi
    have hagg : (isAgg ty).run P w = .ok true w := by
      unfold isAgg
      rw [Sem.run_bind, run_underlying hu w]
      cases d <;> simp_all
    simp [loadVar, Sem.run_bind, hagg, sizeOf, typeInfo, hq, hs, hl]

/-- all old cells, and all old marks, read as before -/
theorem bcell {W w1 : World} (hb : Below W.heap.size W w1) : (∀ b o, b < W.heap.size → w1.cell? ⟨b, o, none⟩ = W.cell? ⟨b, o, none⟩) ∧ (∀ b o, b < W.heap.size → w1.frozen? ⟨b, o, none⟩ = W.frozen? ⟨b, o, none⟩) :=
  ⟨fun b o h => hb.cell (p := ⟨b, o, none⟩) h, fun b o h => hb.frozen (p := ⟨b, o, none⟩) h⟩

/-- append onto a row of the call's own, of elements of any size, as a step of a drawn region -/
theorem step_own {P : Program} {ops : Array Oper} {o : Oper} {a : Act} {K : Act → World → Prop} {Q : Exit → Act → World → Prop} {E : Prop} {W : World} (base size bytes : Nat) (hgd : o.guard = none) (s x : Operand) (t e : TypeId)
    (ho : o.op = .call { callee := .builtin .append, args := #[s, x], argTypes := #[t, t] })
    (ht : P.underlying t = some (.slice e)) (hinfo : (P.info? e).map (fun i => (i.zero.map (·.cells.size), i.size, i.bytes)) = some (some size, size, bytes)) (hsz : 0 < size)
    (v : Value) (n : Nat) (xs : List Value) (ad : Addr) (m c : Nat) (news : List Value) (hs : a.eval s = v) (hx : a.eval x = .slice (some ad) m c)
    (HO : W.ownsRow base e size v n xs) (hl : news.length = m * size) (hnews : ∀ j u, news[j]? = some u → W.cell? (ad.add j) = some u) (h1 : ∀ u ∈ news, u.oneCell' = true)
    (h63 : n + m ≤ maxLen) (hbytes : (n + m) * bytes ≤ 140737488355328) (hbase : base ≤ W.heap.size)
    (h : ∀ v1 w1, w1.ownsRow base e size v1 (n + m) (xs ++ news) → W.grownBy w1 v.ownBlock → (v1.ownBlock = v.ownBlock ∨ v1.ownBlock = some W.heap.size) → K (a.put o.dst v1) w1) :
    if Region.wanted o (yielded ops a.tmps) = true then Oper.wp P o a W K Q else E := by
  have hw : Region.wanted o (yielded ops a.tmps) = true := by simp [Region.wanted, hgd]
  rw [if_pos hw]
  obtain ⟨i0, hi, hzz⟩ := Option.map_eq_some_iff.1 hinfo
  simp only [Prod.mk.injEq] at hzz
  obtain ⟨hz0, hz1, hz2⟩ := hzz
  obtain ⟨z, hz, hzs⟩ := Option.map_eq_some_iff.1 hz0
  obtain ⟨v1, w1, hrun, h2, h3, _, h5⟩ := run_append_own_at (P := P) W base t o.type e i0 z size bytes ht hi hz hz1 hz2 hzs hsz v n xs HO ad m c news hl hnews h1 h63 hbytes hbase
  unfold Oper.wp execOp
  simp only [ho, resolve, invoke, builtin, Sem.run_bind, Sem.run_pure, Result.andThen_ok, List.map_toArray, List.map_cons, List.map_nil, hs, hx, hrun]
  exact h _ w1 h2 h3 h5
/-- append onto a row of the call's own, of elements of any size -/
theorem list_own {P : Program} {ops : Array Oper} {rest : List Oper} {o : Oper} {a : Act} {Q : Exit → Act → World → Prop} {W : World} (base size bytes : Nat) (hgd : o.guard = none) (s x : Operand) (t e : TypeId)
    (ho : o.op = .call { callee := .builtin .append, args := #[s, x], argTypes := #[t, t] })
    (ht : P.underlying t = some (.slice e)) (hinfo : (P.info? e).map (fun i => (i.zero.map (·.cells.size), i.size, i.bytes)) = some (some size, size, bytes)) (hsz : 0 < size)
    (v : Value) (n : Nat) (xs : List Value) (ad : Addr) (m c : Nat) (news : List Value) (hs : a.eval s = v) (hx : a.eval x = .slice (some ad) m c)
    (HO : W.ownsRow base e size v n xs) (hl : news.length = m * size) (hnews : ∀ j u, news[j]? = some u → W.cell? (ad.add j) = some u) (h1 : ∀ u ∈ news, u.oneCell' = true)
    (h63 : n + m ≤ maxLen) (hbytes : (n + m) * bytes ≤ 140737488355328) (hbase : base ≤ W.heap.size)
    (h : ∀ v1 w1, w1.ownsRow base e size v1 (n + m) (xs ++ news) → W.grownBy w1 v.ownBlock → (v1.ownBlock = v.ownBlock ∨ v1.ownBlock = some W.heap.size) → wpList P ops Q rest (a.put o.dst v1) w1) :
    wpList P ops Q (o :: rest) a W := by
  obtain ⟨i0, hi, hzz⟩ := Option.map_eq_some_iff.1 hinfo
  simp only [Prod.mk.injEq] at hzz
  obtain ⟨hz0, hz1, hz2⟩ := hzz
  obtain ⟨z, hz, hzs⟩ := Option.map_eq_some_iff.1 hz0
  exact wpList_append_own_at W hgd s x t ho base e i0 z size bytes ht hi hz hz1 hz2 hzs hsz v n xs hs HO ad m c news hx hl hnews h1 h63 hbytes hbase (fun v1 w1 a b _ d => h v1 w1 a b d)
theorem infoCap : (Try.prog.info? 31).map (fun i => (i.zero.map (·.cells.size), i.size, i.bytes)) = some (some 3, 3, 24) := by kernel_rfl
theorem infoCfg : (Try.prog.info? 35).map (fun i => (i.zero.map (·.cells.size), i.size, i.bytes)) = some (some 7, 7, 96) := by kernel_rfl
theorem own_less {W : World} {B C size n : Nat} {e : TypeId} {v : Value} {xs : List Value} (h : W.ownsRow B e size v n xs) (k : C ≤ B) : W.ownsRow C e size v n xs := by
  refine ⟨h.1, ?_⟩
  rcases h.2 with hn | ⟨g, cap, cur, hv, hb, rest⟩
  · exact .inl hn
  · exact .inr ⟨g, cap, cur, hv, by omega, rest⟩
theorem own_below' {W w1 : World} {B size n : Nat} {e : TypeId} {v : Value} {xs : List Value} (h : W.ownsRow B e size v n xs) (k : Below W.heap.size W w1) : w1.ownsRow B e size v n xs := by
  refine ⟨h.1, ?_⟩
  rcases h.2 with hn | ⟨g, cap, cur, hv, hb, hh, rest⟩
  · exact .inl hn
  · exact .inr ⟨g, cap, cur, hv, hb, (k.block g (Array.getElem?_eq_some_iff.1 hh).1).trans hh, rest⟩
/-- a call's own row lies at or above its base -/
theorem own_ge {W : World} {B size n : Nat} {e : TypeId} {v : Value} {xs : List Value} (h : W.ownsRow B e size v n xs) {b : Nat} (hb : v.ownBlock = some b) : B ≤ b ∧ b < W.heap.size := by
  rcases h.2 with ⟨rfl, _⟩ | ⟨g, cap, cur, rfl, hg, hh, _⟩
  · simp [Value.ownBlock] at hb
  · simp [Value.ownBlock] at hb
    subst hb
    exact ⟨hg, (Array.getElem?_eq_some_iff.1 hh).1⟩
theorem below_grown {W W1 w1 : World} {B : Nat} {row : Option Nat} (h : Below B W W1) (hg : W1.grownBy w1 row) (hr : ∀ b, row = some b → B ≤ b) (hB : B ≤ W1.heap.size) : Below B W w1 :=
  ⟨hg.os.trans h.os, hg.tape.trans h.tape, hg.output.trans h.output, Nat.le_trans h.size hg.size, fun i hi => (hg.block i (by omega) (fun e => by have := hr i e.symm; omega)).trans (h.block i hi)⟩

/-- a tenant's config -/
structure Cfg where
  nm : ByteArray
  ka : Option Addr
  nk : Nat
  kc : Nat
  slot : Int
  bud : Int
  quo : Int
  rig : Int
  fa : Option Addr
  nf : Nat
  fc : Nat
def Cfg.cells (c : Cfg) : List Value := [.string c.nm, .slice c.ka c.nk c.kc, .int .i64 c.slot, .int .i64 c.bud, .int .i64 c.quo, .int .i64 c.rig, .slice c.fa c.nf c.fc]
/-- its numbers may be -/
def Cfg.fits (c : Cfg) : Prop := 1 ≤ c.nk ∧ c.nk ≤ 64 ∧ 1 ≤ c.slot ∧ c.slot ≤ 6 ∧ 0 ≤ c.bud ∧ c.bud ≤ 1000 ∧ 1 ≤ c.quo ∧ c.quo ≤ c.slot ∧ 0 ≤ c.rig ∧ c.rig ≤ 1023 ∧ 1 ≤ c.nf ∧ (c.nf : Int) ≤ c.quo * 320
instance (c : Cfg) : Decidable c.fits := by unfold Cfg.fits; exact inferInstance
def Cfg.right (c : Cfg) : Bool := validB (runes c.nm) && decide c.fits
def Cfg.need (c : Cfg) : Int := 4 + 2 * max 0 (min c.slot 6)
theorem Cfg.need_bounds (c : Cfg) : 4 ≤ c.need ∧ c.need ≤ 16 := by unfold Cfg.need; omega
/-- a length that may be -/
structure Cfg.Ok (c : Cfg) : Prop where
  nm : c.nm.size < 9223372036854775807
  nk : c.nk ≤ 9223372036854775807
  nf : c.nf ≤ 9223372036854775807

/-- the config lies at ad -/
def CfgAt (W : World) (ad : Addr) (c : Cfg) : Prop := ∀ j v, c.cells[j]? = some v → W.cell? (ad.add j) = some v
theorem CfgAt.below {W W' : World} {ad : Addr} {c : Cfg} (h : CfgAt W ad c) (k : Below W.heap.size W W') : CfgAt W' ad c := fun j v e => pw_cell_below k (h j v e)
theorem CfgAt.grown {W W' : World} {ad : Addr} {c : Cfg} {row : Option Nat} (h : CfgAt W ad c) (k : W.grownBy W' row) (hne : row ≠ some ad.block) : CfgAt W' ad c := fun j v e => by
  have hb : (ad.add j).block = ad.block := by unfold Addr.add; split <;> rfl
  have hlt := World.block_lt_of_cell? W _ (h j v e)
  rw [World.cell?_of_block (k.block _ hlt (by rw [hb]; exact fun e => hne e.symm))]
  exact h j v e
theorem CfgAt.old {W : World} {ad : Addr} {c : Cfg} (h : CfgAt W ad c) : ¬ W.heap.size ≤ ad.block := by
  have := World.block_lt_of_cell? W _ (h 0 _ rfl)
  rw [add_none] at this
  omega
theorem CfgAt.drew {W : World} {ad : Addr} {c : Cfg} (h : CfgAt W ad c) : CfgAt W.drew ad c := h
theorem infoC : (Try.prog.info? 35).map (·.size) = some 7 := by kernel_rfl
theorem ldC (p : Addr) : loadVar 35 p = ld 35 p := rfl
theorem CfgAt.load {W : World} {ad : Addr} {c : Cfg} (h : CfgAt W ad c) : (ld 35 ad).run Try.prog W = .ok (.agg #[.string c.nm, .slice c.ka c.nk c.kc, .int .i64 c.slot, .int .i64 c.bud, .int .i64 c.quo, .int .i64 c.rig, .slice c.fa c.nf c.fc]) W :=
  run_loadVar_list W ad 35 c.cells _ h Try.underlying35 rfl infoC
section
variable {W : World} {ad : Addr} {c : Cfg} (h : CfgAt W ad c)
include h
theorem CfgAt.f0 : W.cell? ad = some (.string c.nm) := by have := h 0 _ rfl; rwa [add_none] at this
theorem CfgAt.f1 : W.cell? ⟨ad.block, ad.off + 1, none⟩ = some (.slice c.ka c.nk c.kc) := by have := h 1 _ rfl; rwa [add_succ ad 0] at this
theorem CfgAt.f2 : W.cell? ⟨ad.block, ad.off + 2, none⟩ = some (.int .i64 c.slot) := by have := h 2 _ rfl; rwa [add_succ ad 1] at this
theorem CfgAt.f3 : W.cell? ⟨ad.block, ad.off + 3, none⟩ = some (.int .i64 c.bud) := by have := h 3 _ rfl; rwa [add_succ ad 2] at this
theorem CfgAt.f4 : W.cell? ⟨ad.block, ad.off + 4, none⟩ = some (.int .i64 c.quo) := by have := h 4 _ rfl; rwa [add_succ ad 3] at this
theorem CfgAt.f5 : W.cell? ⟨ad.block, ad.off + 5, none⟩ = some (.int .i64 c.rig) := by have := h 5 _ rfl; rwa [add_succ ad 4] at this
theorem CfgAt.f6 : W.cell? ⟨ad.block, ad.off + 6, none⟩ = some (.slice c.fa c.nf c.fc) := by have := h 6 _ rfl; rwa [add_succ ad 5] at this
end

theorem box_at (W : World) (c : Cfg) : CfgAt (W.alloc (.cells #[.string c.nm, .slice c.ka c.nk c.kc, .int .i64 c.slot, .int .i64 c.bud, .int .i64 c.quo, .int .i64 c.rig, .slice c.fa c.nf c.fc] 35)) ⟨W.heap.size, 0, none⟩ c := fun j v e => by
  rw [show (⟨W.heap.size, 0, none⟩ : Addr).add j = ⟨W.heap.size, j, none⟩ by unfold Addr.add; split <;> simp_all, World.cell?_alloc_new]
  simpa [Cfg.cells] using e
/-- a row of configs -/
def CfgRow (W : World) (T : Option Addr) (l : List Cfg) : Prop := ∀ i (h : i < l.length), ∃ a, T = some a ∧ CfgAt W (a.add (i * 7)) l[i]
theorem CfgRow.below {W W' : World} {T : Option Addr} {l : List Cfg} (h : CfgRow W T l) (k : Below W.heap.size W W') : CfgRow W' T l := fun i hi => by
  obtain ⟨a, e, q⟩ := h i hi
  exact ⟨a, e, q.below k⟩

/-- the names, in order -/
def namesOf (l : List Cfg) : List (List UInt8) := l.map fun c => c.nm.data.toList
/-- where tenant k begins -/
def atOf (l : List Cfg) : Nat → Int
  | 0 => 0
  | k + 1 => match l[k]? with | some c => atOf l k + c.need | none => atOf l k
theorem atOf_succ {l : List Cfg} {k : Nat} (h : k < l.length) : atOf l (k + 1) = atOf l k + l[k].need := by simp [atOf, h]
theorem atOf_bounds (l : List Cfg) : ∀ k, 0 ≤ atOf l k ∧ atOf l k ≤ 16 * k
  | 0 => by simp [atOf]
  | k + 1 => by
    have ih := atOf_bounds l k
    by_cases h : k < l.length
    · rw [atOf_succ h]
      have := l[k].need_bounds
      omega
    · simp [atOf, h]
      omega
theorem atOf_le (l : List Cfg) {i k : Nat} (h : i ≤ k) : atOf l i ≤ atOf l k := by
  induction k with
  | zero => obtain rfl : i = 0 := by omega
            exact Int.le_refl _
  | succ k ih =>
    rcases Nat.lt_or_ge k i with h1 | h1
    · obtain rfl : i = k + 1 := by omega
      exact Int.le_refl _
    · have := ih h1
      by_cases hk : k < l.length
      · rw [atOf_succ hk]
        have := l[k].need_bounds
        omega
      · simp [atOf, hk]
        omega
/-- what tenant i gets, as cells -/
def capOf (l : List Cfg) (i : Nat) : List Value := match l[i]? with | some c => [.int .i64 c.rig, .int .i64 (atOf l i), .int .i64 c.need] | none => []
theorem capOf_at {l : List Cfg} {i : Nat} (h : i < l.length) : capOf l i = [.int .i64 l[i].rig, .int .i64 (atOf l i), .int .i64 l[i].need] := by simp [capOf, h]
def capsTo (l : List Cfg) : Nat → List Value
  | 0 => []
  | k + 1 => capsTo l k ++ capOf l k
theorem capsTo_length (l : List Cfg) : ∀ k, k ≤ l.length → (capsTo l k).length = k * 3
  | 0, _ => rfl
  | k + 1, h => by
    have ih := capsTo_length l k (by omega)
    rw [capsTo, List.length_append, ih, capOf_at (by omega)]
    simp only [List.length_cons, List.length_nil]
    omega
theorem capsTo_at (l : List Cfg) (i : Nat) (j : Nat) (hj : j < 3) : ∀ k, i < k → k ≤ l.length → (capsTo l k)[i * 3 + j]? = (capOf l i)[j]?
  | 0, h, _ => by omega
  | k + 1, h, hk => by
    have hl := capsTo_length l k (by omega)
    rw [capsTo]
    rcases Nat.lt_or_ge i k with h1 | h1
    · rw [List.getElem?_append_left (by omega)]
      exact capsTo_at l i j hj k h1 (by omega)
    · obtain rfl : i = k := by omega
      rw [List.getElem?_append_right (by omega)]
      congr 1
      omega
/-- which error Deal tells -/
def dealE (l : List Cfg) : Int := if l.length < 1 ∨ 8 < l.length then 1 else if (l.all Cfg.right) then (if (namesOf l).Nodup then 0 else 7) else 1
theorem dealE_len {l : List Cfg} (h : l.length < 1 ∨ 8 < l.length) : dealE l = 1 := by unfold dealE; rw [if_pos h]
theorem dealE_not {l : List Cfg} (i : Nat) (hi : i < l.length) (h : l[i].right = false) : dealE l = 1 := by
  unfold dealE
  split
  · rfl
  · rw [if_neg]
    intro ha
    rw [List.all_eq_true] at ha
    rw [ha _ (List.getElem_mem hi)] at h
    cases h
theorem all_of {l : List Cfg} (h : ∀ i (hi : i < l.length), l[i].right = true) : l.all Cfg.right = true := by
  rw [List.all_eq_true]
  intro x hx
  obtain ⟨i, hi, rfl⟩ := List.getElem_of_mem hx
  exact h i hi
theorem dealE_same {l : List Cfg} (h1 : 1 ≤ l.length) (h2 : l.length ≤ 8) (ha : l.all Cfg.right = true) (h : ¬ (namesOf l).Nodup) : dealE l = 7 := by
  unfold dealE
  rw [if_neg (by omega), if_pos ha, if_neg h]
theorem dealE_yes {l : List Cfg} (h1 : 1 ≤ l.length) (h2 : l.length ≤ 8) (ha : l.all Cfg.right = true) (h : (namesOf l).Nodup) : dealE l = 0 := by
  unfold dealE
  rw [if_neg (by omega), if_pos ha, if_pos h]
theorem namesOf_length (l : List Cfg) : (namesOf l).length = l.length := by simp [namesOf]
theorem namesOf_at {l : List Cfg} {k : Nat} (h : k < l.length) : (namesOf l)[k]? = some l[k].nm.data.toList := by simp [namesOf, h]
theorem take_snoc {l : List Cfg} {k : Nat} (h : k < l.length) : (namesOf l).take (k + 1) = (namesOf l).take k ++ [l[k].nm.data.toList] := by
  rw [List.take_add_one, namesOf_at h]; rfl
theorem nodup_snoc {l : List Cfg} {k : Nat} (h : k < l.length) (hn : ((namesOf l).take k).Nodup) (hc : ((namesOf l).take k).contains l[k].nm.data.toList = false) : ((namesOf l).take (k + 1)).Nodup := by
  rw [take_snoc h, List.nodup_append]
  refine ⟨hn, by simp, ?_⟩
  intro a ha b hb
  simp at hb
  subst hb
  intro e
  subst e
  rw [List.contains_iff_mem.2 ha] at hc
  cases hc
theorem not_nodup {l : List Cfg} {k : Nat} (h : k < l.length) (hc : ((namesOf l).take k).contains l[k].nm.data.toList = true) : ¬ (namesOf l).Nodup := by
  intro hn
  have h1 : ((namesOf l).take (k + 1)).Nodup := hn.sublist (List.take_sublist _ _)
  rw [take_snoc h, List.nodup_append] at h1
  exact h1.2.2 _ (List.contains_iff_mem.1 hc) _ (by simp) rfl

/-- the map of names that were seen: block b -/
def Seen (W : World) (b n : Nat) (ns : List (List UInt8)) : Prop :=
  ∃ D : DataW Unit, W.ownsMap Try.prog 9 (plainElem Try.prog 4) b n D ∧ Maps.IsMap D ∧ ∀ x, D.atKey (.string x) (.lit (.bool false)) = .lit (.bool (ns.contains x))
theorem Seen.new (w : World) : Seen (w.alloc (.map #[] 0)) w.heap.size 0 [] := ⟨.map [], World.ownsMap_made _ _ _ _, ⟨_, rfl⟩, fun x => by rfl⟩
theorem seen_key (s : ByteArray) (h : s.size ≤ maxLen) : keyOf Try.prog 9 (.string s) = some (.string s.data.toList) := Go.WideMaps.keyOf_string_mk Try.underlying9 h
theorem zeroBool (w : World) : (zeroValue 4).run Try.prog w = .ok (.bool false) w := by kernel_rfl
/-- an element that reads as a bool's datum is that bool -/
theorem plain_bool_inv {v : Value} {x : Bool} {ps : List MemPlace} (h : plainElem (H := Unit) Try.prog 4 v = some (.lit (.bool x), ps)) : v = .bool x := by
  unfold plainElem at h
  rw [Try.underlying4] at h
  cases v <;> simp at h
  rw [h.1]
theorem Seen.look {W : World} {b n : Nat} {ns : List (List UInt8)} (h : Seen W b n ns) (s : ByteArray) (hs : s.size ≤ maxLen) : (Instr.lookup 73 (.map (some b)) (.string s) false).run Try.prog W = .ok (.bool (ns.contains s.data.toList)) W := by
  obtain ⟨D, hown, _, hat⟩ := h
  obtain ⟨v, ps, hrun, hv⟩ := hown.lookup (Maps.string_keyed Try.underlying9) Try.underlying73 (zeroBool W) (plainElem_bool Try.underlying4 false) (seen_key s hs)
  rw [hat] at hv
  rw [hrun, plain_bool_inv hv]
theorem Seen.put {W : World} {b n : Nat} {ns : List (List UInt8)} (h : Seen W b n ns) (hn : n < maxLen) (s : ByteArray) (hs : s.size ≤ maxLen) : ∃ W', (Instr.mapUpdate 73 (.map (some b)) (.string s) (.bool true)).run Try.prog W = .ok () W' ∧ Seen W' b (n + 1) (ns ++ [s.data.toList]) ∧ W.grownBy W' (some b) := by
  obtain ⟨D, hown, hm, hat⟩ := h
  obtain ⟨W', hrun, hown', hg⟩ := hown.update (Maps.string_keyed Try.underlying9) Try.underlying73 hn (seen_key s hs) (plainElem_bool Try.underlying4 true)
  refine ⟨W', hrun, ⟨_, hown', ?_, fun x => ?_⟩, hg⟩
  · exact hown'.isMap
  · by_cases e : x = s.data.toList
    · subst e
      rw [Maps.atKey_put_same hm (show WideAt.IsKeyLit (.string s.data.toList) by simp [WideAt.IsKeyLit])]
      simp
    · rw [Maps.atKey_put_other (by simpa using e), hat]
      simp [e]
theorem Seen.grown {W W' : World} {b n : Nat} {row : Option Nat} {ns : List (List UInt8)} (h : Seen W b n ns) (hg : W.grownBy W' row) (hne : some b ≠ row) : Seen W' b n ns := by
  obtain ⟨D, hown, hm, hat⟩ := h
  exact ⟨D, hown.kept hg hne, hm, hat⟩
theorem Seen.lt {W : World} {b n : Nat} {ns : List (List UInt8)} (h : Seen W b n ns) : b < W.heap.size := by
  obtain ⟨D, hown, _⟩ := h
  exact hown.lt
theorem Seen.below {W W' : World} {b n : Nat} {ns : List (List UInt8)} (h : Seen W b n ns) (hg : Below W.heap.size W W') : Seen W' b n ns := by
  obtain ⟨D, hown, hm, hat⟩ := h
  exact ⟨D, hown.kept (row := none) ⟨hg.os, hg.tape, hg.output, hg.size, fun i hi _ => hg.block i hi⟩ (by simp), hm, hat⟩
end Go.Proofs.Ytgcdankgckgibaa.Caps
