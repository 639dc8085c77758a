/- Words that the walks of this seat share: rows of bytes, what keeps, small facts. -/
import Derived.Test.YtajflegjpnmloaaWMore
import Derived.Test.YtajflegjpnmloaaProg
import Derived.WalkKit
import Derived.Lib.Hide
import Derived.Lib.SlBytesConst
import Derived.Laws.BitsAllLaws
import Derived.Laws.Rows
import Derived.Deep.MidRow
import Derived.IntWalk
import Derived.LoopTactic
import Derived.Deep.AppendLies
import Derived.Deep.RegionHeld3
import Derived.OpenShut
namespace Go.Proofs.Ytajflegjpnmloaa.Kit
open Go.RowKit Go.Proofs.YtajflegjpnmloaaW.PrintWords Go.Proofs.YtajflegjpnmloaaW.PrintLast

theorem info5 : (Try.prog.info? 5).map (fun i => (i.zero, i.size, i.bytes)) = some (some (.int .u8 0), 1, 1) := by kernel_rfl

theorem ret_int {k : IntKind} {a b : Int} (h : a = b) : Ending.returned (.int k a) = .returned (.int k b) := by rw [h]
theorem drewN_below {B : Nat} {a w : World} (h : Below B a w) (n : Nat) : Below B a (w.drewN n) := ⟨h.os, h.tape, h.output, h.size, h.block⟩

/-- each is a byte -/
def Small (xs : List Int) : Prop := ∀ k : Nat, 0 ≤ rd xs k ∧ rd xs k ≤ 255
theorem rd_lt {xs : List Int} {k : Nat} (h : k < xs.length) : rd xs k = xs[k] := by simp [rd, List.getD_eq_getElem?_getD, h]
theorem rd_ge {xs : List Int} {k : Nat} (h : xs.length ≤ k) : rd xs k = 0 := by simp [rd, List.getD_eq_getElem?_getD, h]
theorem small_mem {xs : List Int} (h : ∀ x ∈ xs, 0 ≤ x ∧ x ≤ 255) : Small xs := by
  intro k
  by_cases hk : k < xs.length
  · rw [rd_lt hk]; exact h _ (List.getElem_mem hk)
  · rw [rd_ge (by omega)]; omega
theorem mem_small {xs : List Int} (h : Small xs) : ∀ x ∈ xs, 0 ≤ x ∧ x ≤ 255 := by
  intro x hx
  obtain ⟨k, hk, rfl⟩ := List.getElem_of_mem hx
  rw [← rd_lt hk]; exact h k
theorem small_of {xs : List Int} (h : ∀ x ∈ xs, (Lit.int .u8 x).wf = true) : Small xs := small_mem fun x hx => bounds_u8 (h x hx)
theorem small_nil : Small [] := small_mem fun _ h => by cases h
theorem small_append {xs ys : List Int} (hx : Small xs) (hy : Small ys) : Small (xs ++ ys) :=
  small_mem fun x h => (List.mem_append.1 h).elim (mem_small hx x) (mem_small hy x)
theorem small_take {xs : List Int} (h : Small xs) (n : Nat) : Small (xs.take n) := small_mem fun x hx => mem_small h x (List.mem_of_mem_take hx)
theorem small_drop {xs : List Int} (h : Small xs) (n : Nat) : Small (xs.drop n) := small_mem fun x hx => mem_small h x (List.mem_of_mem_drop hx)
theorem small_rep (n : Nat) : Small (List.replicate n 0) := small_mem fun x hx => by have := List.eq_of_mem_replicate hx; omega

theorem reads_mark (w : World) (e : TypeId) (m : Nat × Nat) (xs : List Int) (h : xs.length ≤ 9223372036854775807) :
    ReadsInt (w.alloc (.cells (nums .u8 xs).toArray e m)) .u8 (some ⟨w.heap.size, 0, none⟩) xs.length xs := by
  refine ⟨rfl, h, fun _ => ⟨_, rfl, fun j hj => ?_⟩⟩
  rw [add_plain, World.cell?_alloc_mark]
  simp [nums, hj, List.getD_eq_getElem?_getD]
theorem reads_nil (w : World) (A : Option Addr) : ReadsInt w .u8 A 0 [] := ⟨rfl, by omega, fun h => by omega⟩
theorem reads_keep {w w1 : World} {k : IntKind} {A : Option Addr} {n : Nat} {xs : List Int} (h : ReadsInt w k A n xs) (hg : w.grownBy w1 (Value.slice none 0 0).ownBlock) : ReadsInt w1 k A n xs :=
  h.below ⟨hg.os, hg.tape, hg.output, hg.size, fun i hi => hg.block i hi (by simp [Value.ownBlock])⟩
/-- the cell of a row that is read, at an index that lies in it -/
theorem reads_cell {w : World} {A : Option Addr} {n : Nat} {xs : List Int} (h : ReadsInt w .u8 A n xs) {k : Nat} (hk : k < n) :
    ∃ ad, A = some ad ∧ w.cell? (ad.add k) = some (.int .u8 (rd xs k)) := by
  obtain ⟨ad, e, hc⟩ := h.at_ (k : Int) (by omega) (by omega)
  rw [Int.toNat_natCast] at hc
  exact ⟨ad, e, hc⟩

theorem add_none (ad : Addr) : ad.add 0 = ad := by simp [Addr.add]
theorem add_one (ad : Addr) : ad.add 1 = ⟨ad.block, ad.off + 1, none⟩ := by simp [Addr.add]
/-- how the walk writes a place that is not the first -/
theorem add_succ (ad : Addr) (j : Nat) : ad.add (j + 1) = ⟨ad.block, ad.off + (j + 1), none⟩ := by unfold Addr.add; simp

theorem run_convert_at {P : Program} (w : World) (src e : TypeId) (hs : P.underlying src = some (.slice e)) (he : P.underlying e = some (.int .u8)) (ad : Addr) (len cap : Nat) (xs : List Int) (hlen : xs.length = len)
    (hcell : ∀ i, i < len → w.cell? (ad.add i) = some (.int .u8 (xs.getD i 0))) (dst : TypeId) (hd : P.underlying dst = some .string) : (convert src dst (.slice (some ad) len cap)).run P w = .ok (.string (strOfNums xs)) w := by
  have hl : (loadCells ad len).run P w = .ok (xs.map (Value.int .u8)).toArray w := by
    have := run_loadCells_list (P := P) w ad (xs.map (Value.int .u8)) (fun j v hj => by
      have hjl : j < xs.length := by
        rcases Nat.lt_or_ge j xs.length with h | h
        · exact h
        · simp [List.getElem?_eq_none (show (xs.map (Value.int .u8)).length ≤ j by simpa using h)] at hj
      rw [hcell j (by omega)]
      simp [List.getElem?_eq_getElem hjl] at hj
      subst hj
      simp [List.getD, List.getElem?_eq_getElem hjl])
    simpa [hlen] using this
  rw [run_convert_bytes_string w src dst e _ len cap hs he hd, run_bytesToString w _ len cap xs hl, foldl_push_bytes]
  simp [strOfNums, ByteArray.empty, ByteArray.emptyWithCapacity]
  rfl

/-- string(b) of a row that is read -/
theorem conv_reads {w : World} {A : Option Addr} {n : Nat} {xs : List Int} (c : Nat) (h : ReadsInt w .u8 A n xs) : (convert 23 9 (.slice A n c)).run Try.prog w = .ok (.string (strOfNums xs)) w := by
  rcases A with _ | ad
  · have h0 : n = 0 := by
      rcases Nat.eq_zero_or_pos n with h0 | h0
      · exact h0
      · obtain ⟨ad, h, _⟩ := h.2.2 h0
        cases h
    subst h0
    obtain rfl : xs = [] := List.eq_nil_of_length_eq_zero h.1
    exact run_convert_bytes_nil w 23 5 Try.underlying23 Try.underlying5 0 c 9 Try.underlying9
  · by_cases hn : n = 0
    · subst hn
      obtain rfl : xs = [] := List.eq_nil_of_length_eq_zero h.1
      exact run_convert_at w 23 5 Try.underlying23 Try.underlying5 ad 0 c [] rfl (fun i hi => absurd hi (by simp)) 9 Try.underlying9
    · obtain ⟨ad', e, hc⟩ := h.2.2 (by omega)
      obtain rfl := Option.some.inj e
      exact run_convert_at w 23 5 Try.underlying23 Try.underlying5 ad n c xs h.1 hc 9 Try.underlying9

/-- What a row of bytes that came in is. -/
def IsBytes (w : World) (a : Option Addr) (len cap : Nat) (zs : List Int) : Prop :=
  (a = none ∧ len = 0 ∧ cap = 0 ∧ zs = []) ∨
  ∃ x, a = some x ∧ len ≤ cap ∧ cap ≤ maxLen ∧ zs.length = cap ∧ (∀ i, i < zs.length → w.cell? (x.add i) = some (.int .u8 (zs.getD i 0))) ∧ ∀ n ∈ zs, (Lit.int .u8 n).wf = true

/-- A slice of bytes that a call made and hands back: v, of the bytes xs; w the world ahead of the call, w' behind it. -/
def Gives (w w' : World) (v : Value) (xs : List Int) : Prop :=
  w'.ownsRow w.heap.size 5 1 v xs.length (nums .u8 xs) ∧ Below w.heap.size w w'
theorem Gives.reads {w w' : World} {v : Value} {xs : List Int} (h : Gives w w' v xs) : ∃ A c, v = .slice A xs.length c ∧ ReadsInt w' .u8 A xs.length xs := own_reads h.1
theorem Gives.none_ {w w' : World} (hb : Below w.heap.size w w') : Gives w w' (.slice none 0 0) [] := ⟨own_nil _ _ _ _, hb⟩

/-- append onto a row of the call's own, AT A STEP OF A REGION THAT DRAWS ITS ORDER: the bytes that are appended are read at ad. -/
theorem step_row {P : Program} {ops : Array Oper} {o : Oper} {a : Act} {K : Act → World → Prop} {Q : Exit → Act → World → Prop} {E : Prop} {w0 W : World} (base : Nat) (hgd : o.guard = none) (s x : Operand) (t e : TypeId)
    (ho : o.op = .call { callee := .builtin .append, args := #[s, x], argTypes := #[t, t] })
    (ht : P.underlying t = some (.slice e)) (hinfo : (P.info? e).map (fun i => (i.zero, i.size, i.bytes)) = some (some (.int .u8 0), 1, 1))
    (v : Value) (xs ys : List Int) (ad : Addr) (m c : Nat) (hs : a.eval s = v) (hx : a.eval x = .slice (some ad) m c) (hm : 0 < m)
    (HO : W.ownsRow base e 1 v xs.length (nums .u8 xs)) (HR : ReadsInt W .u8 (some ad) m ys) (HB : Below base w0 W) (hbase : base ≤ W.heap.size) (hl : xs.length + m ≤ 140737488355328)
    (h : ∀ v1 w1, w1.ownsRow base e 1 v1 (xs ++ ys).length (nums .u8 (xs ++ ys)) → Below base w0 w1 → K (a.put o.dst v1) w1) :
    if Region.wanted o (yielded ops a.tmps) = true then Oper.wp P o a W K Q else E := by
  obtain ⟨i0, hi, hzz⟩ := Option.map_eq_some_iff.1 hinfo
  simp only [Prod.mk.injEq] at hzz
  obtain ⟨hz0, hz1, hz2⟩ := hzz
  have hym : ys.length = m := HR.1
  refine step_append_lies W hgd s x t ho base e i0 (.int .u8 0) 1 1 ht hi hz0 hz1 hz2 rfl (by decide) v xs.length (nums .u8 xs) hs HO ad m c (nums .u8 ys) hx (by rw [nums_length, hym]; simp) ?_
    (by intro u hu; simp only [nums, List.mem_map] at hu; obtain ⟨q, _, rfl⟩ := hu; rfl) hm (by simp only [maxLen]; omega) (by omega) hbase W.heap.size rfl ?_
  · intro j u hu
    have hj : j < ys.length := by
      rcases Nat.lt_or_ge j ys.length with h | h
      · exact h
      · simp [nums, List.getElem?_eq_none h] at hu
    obtain ⟨ad', h', hc⟩ := HR.2.2 (by omega)
    injection h' with h'
    subst h'
    have e1 : (nums .u8 ys)[j]? = some (.int .u8 (ys.getD j 0)) := by simp [nums, List.getElem?_eq_getElem hj, List.getD_eq_getElem?_getD]
    rw [e1] at hu
    rw [← hu]
    exact hc j (by omega)
  · intro g cap w1 hown hg _ _
    refine h _ w1 ?_ (HB.grown hg hbase (own_base HO))
    rw [List.length_append, nums_append, hym]
    exact hown

/-- 'it reads', closed: for a region's S -/
structure Rd (w : World) (A : Option Addr) (n : Nat) (xs : List Int) : Prop where
  out : ReadsInt w .u8 A n xs
theorem Rd.below {w w' : World} {A : Option Addr} {n : Nat} {xs : List Int} (h : Rd w A n xs) (k : Below w.heap.size w w') : Rd w' A n xs := ⟨h.out.below k⟩
theorem Rd.drew {w : World} {A : Option Addr} {n : Nat} {xs : List Int} (h : Rd w A n xs) : Rd w.drew A n xs := ⟨h.out⟩
theorem Rd.conv {w : World} {A : Option Addr} {n : Nat} {xs : List Int} (c : Nat) (h : Rd w A n xs) : (convert 23 9 (.slice A n c)).run Try.prog w = .ok (.string (strOfNums xs)) w := conv_reads c h.out

/-- A made slice laid open: how it reads, how it is turned into a string, in whatever later world. -/
theorem Gives.open_ {w w' : World} {v : Value} {xs : List Int} (h : Gives w w' v xs) : Below w.heap.size w w' ∧ ∃ (A : Option Addr) (c : Nat), (∀ W : World, Rd W A xs.length xs → (convert 23 9 (.slice A xs.length c)).run Try.prog W = .ok (.string (strOfNums xs)) W) ∧ Rd w' A xs.length xs ∧ v = .slice A xs.length c := by
  obtain ⟨A, c, hv, hr⟩ := h.reads
  exact ⟨h.2, A, c, fun W hW => hW.conv c, ⟨hr⟩, hv⟩

/-- In a region that draws its order: what is held may be made more, from here on. -/
theorem wpAnyH_more {P : Program} {md : Region.Mode} {ops : Array Oper} {Q : Exit → Act → World → Prop} {S S2 : World → Prop} (h : ∀ w, S2 w → S w) :
    ∀ (fuel : Nat) (listed : Array Bool) (a : Act) (w : World), wpAnyH P md ops Q S2 fuel listed a w → wpAnyH P md ops Q S fuel listed a w
  | 0, _, _, _, k => k
  | fuel + 1, _, _, _, k => ⟨k.1, fun i hi => wpOp_mono (fun _ _ h' => ⟨h _ h'.1, wpAnyH_more h fuel _ _ _ h'.2⟩) (k.2 i hi)⟩

/-- the cells of a block -/
def rowAt (W : World) (g : Nat) : Array Value := match W.heap[g]? with | some (.cells cs _ _) => cs | _ => #[]
theorem rowAt_of {W : World} {g : Nat} {cs : Array Value} {t : TypeId} {fr : Nat × Nat} (h : W.heap[g]? = some (.cells cs t fr)) : rowAt W g = cs := by simp [rowAt, h]
theorem rowAt_drew (W : World) (g : Nat) : rowAt W.drew g = rowAt W g := rfl
theorem rowAt_drewN (W : World) (g n : Nat) : rowAt (W.drewN n) g = rowAt W g := rfl
theorem rowAt_new (W : World) (cs : Array Value) (t : TypeId) (fr : Nat × Nat) : rowAt (W.alloc (.cells cs t fr)) W.heap.size = cs := rowAt_of (heap_alloc_new W _)
theorem rowAt_below {B : Nat} {W W' : World} (h : Below B W W') {g : Nat} (hg : g < B) : rowAt W' g = rowAt W g := by unfold rowAt; rw [h.block g hg]
theorem rowAt_setCell (W : World) (g i : Nat) (v : Value) : rowAt (W.setCell ⟨g, i, none⟩ v) g = (rowAt W g).setIfInBounds i v := by
  unfold rowAt
  cases h : W.heap[g]? with
  | none => simp [World.setCell, Array.getElem?_modify, h]
  | some o => cases o <;> simp [World.setCell, Array.getElem?_modify, h]
/-- a load of many cells, by a name that the walk does not open -/
def ld (t : TypeId) (p : Addr) : Sem Value := loadVar t p
theorem ld_run {P : Program} (t : TypeId) (n : Nat) {d : TypeDesc} (hu : P.underlying t = some d) (hd : d.isRow = true) (hi : (P.info? t).map (·.size) = some n) (W : World) (g o : Nat) (h : o + n ≤ (rowAt W g).size) (hn : 0 < n) :
    (ld t ⟨g, o, none⟩).run P W = .ok (.agg ((rowAt W g).extract o (o + n))) W := by
  unfold ld
  unfold rowAt at h ⊢
  cases hh : W.heap[g]? with
  | none => rw [hh] at h; simp at h; omega
  | some ob =>
    rw [hh] at h
    cases ob with
    | cells cs t' fr =>
      have hr := World.rangeAt_of_block hh o n
      have hs : ((cs.extract o (o + n)).toList).length = n := by simp at h ⊢; omega
      have := run_loadVar_mid (P := P) W g o t _ d hr hu hd (by rw [hs]; exact hi)
      rwa [Array.toArray_toList] at this
    | _ => simp at h; omega
end Go.Proofs.Ytajflegjpnmloaa.Kit
