/- Walks: the reference's boot and Do, of what may be kept. -/
import Derived.Test.YtajflegjpnmloaaMetaLaw
import Derived.Test.YtajflegjpnmloaaBootFacts
namespace Go.Proofs.Ytajflegjpnmloaa.Boot
open Go.RowKit Go.Proofs.YtajflegjpnmloaaW.PrintWords Go.Proofs.YtajflegjpnmloaaW.PrintLast Go.Proofs.Ytajflegjpnmloaa.Kit
theorem stM (p : Addr) (v : Value) : storeVar 58 p v = stv 58 p v := rfl
theorem stR (p : Addr) (v : Value) : storeVar 63 p v = stv 63 p v := rfl
theorem ldR (p : Addr) : loadVar 63 p = ld 63 p := rfl
theorem info63 : (Try.prog.info? 63).map (·.size) = some 3 := by kernel_rfl
theorem ldR_run (W : World) (g o : Nat) (h : o + 3 ≤ (Kit.rowAt W g).size) : (ld 63 ⟨g, o, none⟩).run Try.prog W = .ok (.agg ((Kit.rowAt W g).extract o (o + 3))) W :=
  ld_run 63 3 Try.underlying63 rfl info63 W g o h (by decide)
attribute [local go_sem ↓] ldI ldM stI stM stR ldR
attribute [local go_sem] ldI_run ldM_run ldR_run
set_option linter.unusedSimpArgs false
set_option linter.unusedVariables false

/-- block g holds just these cells -/
structure Blk (W : World) (t : TypeId) (g : Nat) (cs : Array Value) : Prop where
  heap : W.heap[g]? = some (.cells cs t (0, 0))
section
variable {W W' : World} {t : TypeId} {g g' : Nat} {cs cs' : Array Value}
theorem Blk.lt (h : Blk W t g cs) : g < W.heap.size := (Array.getElem?_eq_some_iff.1 h.heap).1
theorem Blk.row (h : Blk W t g cs) : Kit.rowAt W g = cs := Kit.rowAt_of h.heap
theorem Blk.cell (h : Blk W t g cs) (i : Nat) : W.cell? ⟨g, i, none⟩ = cs[i]? := cell_of_row W g i cs t (0, 0) h.heap
theorem Blk.free (h : Blk W t g cs) (i : Nat) : W.frozen? ⟨g, i, none⟩ = false := by simp [World.frozen?, h.heap]
theorem Blk.below (h : Blk W t g cs) (k : Below W.heap.size W W') : Blk W' t g cs := ⟨(k.block g h.lt).trans h.heap⟩
theorem Blk.alloc (h : Blk W t g cs) (o : Obj) : Blk (W.alloc o) t g cs := h.below (below_alloc1 W o)
theorem Blk.drew (h : Blk W t g cs) : Blk W.drew t g cs := ⟨h.heap⟩
theorem Blk.new (W : World) (t : TypeId) (cs : Array Value) (g : Nat) (hg : g = W.heap.size) : Blk (W.alloc (.cells cs t)) t g cs := by
  subst hg
  exact ⟨heap_alloc_new W _⟩
theorem Blk.set (h : Blk W t g cs) (c2 : Array Value) : Blk (W.setRow g c2) t g c2 := ⟨setRow_heap W g cs c2 t (0, 0) h.heap⟩
theorem setRow_other (W : World) {i : Nat} (cs : Array Value) (hne : i ≠ g) : (W.setRow g cs).heap[i]? = W.heap[i]? := by
  simp [World.setRow, Array.getElem?_modify, Ne.symm hne]
theorem Blk.set_other (h : Blk W t g cs) (c2 : Array Value) (hne : g ≠ g') : Blk (W.setRow g' c2) t g cs := ⟨(setRow_other W c2 hne).trans h.heap⟩
theorem Blk.put (h : Blk W t g cs) (i : Nat) (v : Value) : Blk (W.setCell ⟨g, i, none⟩ v) t g (cs.setIfInBounds i v) := ⟨by simp [World.setCell, Array.getElem?_modify, h.heap]⟩
theorem Blk.put_other (h : Blk W t g cs) (i : Nat) (v : Value) (hne : g ≠ g') : Blk (W.setCell ⟨g', i, none⟩ v) t g cs := ⟨(Below.heap_setCell W ⟨g', i, none⟩ v g hne).trans h.heap⟩
theorem below_setRow {B : Nat} {w : World} (h : Below B w W) (hg : B ≤ g) (c2 : Array Value) : Below B w (W.setRow g c2) :=
  ⟨h.os, h.tape, h.output, by have := h.size; simpa [World.setRow] using this, fun i hi => (setRow_other W c2 (by omega)).trans (h.block i hi)⟩
/-- a whole variable is stored -/
theorem Blk.store (h : Blk W t g cs) (t2 : TypeId) (X : Array Value) (hi : (Try.prog.info? t2).map (·.size) = some X.size) (hs : cs.size = X.size) (h1 : X.toList.all (·.oneCell') = true) : (stv t2 ⟨g, 0, none⟩ (.agg X)).run Try.prog W = .ok () (W.setRow g X) := by
  refine stv_of t2 _ X _ rfl hi ?_
  rw [run_storeCells_at (P := Try.prog) g 0 t X.toList 0 cs W h.heap (by simp; omega) (fun v hv => by rw [List.all_eq_true] at h1; exact h1 v hv)]
  congr 2
  rw [Nat.add_zero, List.take_zero, List.nil_append, List.drop_eq_nil_of_le (by simp; omega), List.append_nil, Array.toArray_toList]
/-- a part of a variable is stored -/
theorem Blk.store_mid (h : Blk W t g cs) (t2 : TypeId) (o : Nat) (X : Array Value) (hi : (Try.prog.info? t2).map (·.size) = some X.size) (hs : o + X.size ≤ cs.size) (h1 : X.toList.all (·.oneCell') = true) : (stv t2 ⟨g, o, none⟩ (.agg X)).run Try.prog W = .ok () (W.setRow g (cs.toList.take o ++ X.toList ++ cs.toList.drop (o + X.size)).toArray) := by
  refine stv_of t2 _ X _ rfl hi ?_
  rw [run_storeCells_at (P := Try.prog) g o t X.toList 0 cs W h.heap (by simp; omega) (fun v hv => by rw [List.all_eq_true] at h1; exact h1 v hv)]
  simp
end
theorem nums_int (k : IntKind) (d : List Int) : ∀ v ∈ nums k d, ∃ k n, v = Value.int k n := fun v hv => by
  simp only [nums, List.mem_map] at hv; obtain ⟨q, _, rfl⟩ := hv; exact ⟨_, _, rfl⟩
theorem Img.enc_int (i : Img) : ∀ v ∈ i.enc, ∃ k n, v = Value.int k n := fun v hv => by
  simp only [Img.enc, List.mem_cons] at hv
  rcases hv with rfl | rfl | hv
  · exact ⟨_, _, rfl⟩
  · exact ⟨_, _, rfl⟩
  · exact nums_int _ _ v hv
theorem Met.enc_int (m : Met) : ∀ v ∈ m.enc, ∃ k n, v = Value.int k n := fun v hv => by
  simp only [Met.enc, List.mem_cons, List.mem_append, List.not_mem_nil, or_false] at hv
  rcases hv with rfl | hv | hv | rfl | rfl | hv | rfl | rfl
  · exact ⟨_, _, rfl⟩
  · exact Img.enc_int _ v hv
  · exact Img.enc_int _ v hv
  · exact ⟨_, _, rfl⟩
  · exact ⟨_, _, rfl⟩
  · exact Img.enc_int _ v hv
  · exact ⟨_, _, rfl⟩
  · exact ⟨_, _, rfl⟩
theorem one_of {l : List Value} (h : ∀ v ∈ l, ∃ k n, v = Value.int k n) : l.all (·.oneCell') = true := by
  rw [List.all_eq_true]
  intro v hv
  obtain ⟨k, n, rfl⟩ := h v hv
  rfl
theorem enc_one (m : Met) : m.enc.all (·.oneCell') = true := one_of m.enc_int
theorem img_one (i : Img) : i.enc.all (·.oneCell') = true := one_of i.enc_int

/-- which slot a boot tells behind n others -/
def Met.aft (m : Met) (n : Int) : Int := if m.ph = 3 ∧ n < m.tr then 1 - m.a else m.a
/-- what is kept behind a boot -/
def Met.setOth (m : Met) (i : Img) : Met := if m.a = 0 then { m with i1 := i } else { m with i0 := i }
def Met.next (m : Met) : Met := if m.ph ≠ 3 then m else if 0 < m.tr then { m with tr := m.tr - 1 } else { m.setOth .zero with ph := 0 }
theorem Met.right_facts {m : Met} (h : m.right = true) : (m.a = 0 ∨ m.a = 1) ∧ m.ranges := by
  unfold Met.right at h
  simp only [Bool.and_eq_true, decide_eq_true_eq] at h
  exact ⟨by omega, h.2.2.2.2.2.1⟩
theorem Met.no_try {m : Met} {n : Int} (h : ¬ (m.ph = 3 ∧ n < m.tr)) : m.ph ≠ 3 ∨ m.tr ≤ n := by
  by_cases h3 : m.ph = 3
  · exact .inr (Int.not_lt.1 fun h4 => h ⟨h3, h4⟩)
  · exact .inl h3
theorem after_m (m : Met) (hm : m.Ok) (hr : m.right = true) (n : Int) (hn : 0 ≤ n) (w : World) : Calls Try.prog 39 #[.agg m.enc.toArray, .int .i64 n] w fun e w' => e = .returned (.int .i64 (m.aft n)) ∧ Below w.heap.size w w' := by
  have hR : ∀ w : World, Calls Try.prog 50 #[.agg m.enc.toArray] w fun e w' => e = .returned (.bool true) ∧ Below w.heap.size w w' := fun w => by
    rw [← hr]; exact right_m m hm w
  obtain ⟨ha, _⟩ := Met.right_facts hr
  by_cases h : m.ph = 3 ∧ n < m.tr
  · rw [show m.aft n = 1 - m.a from if_pos h]
    exact after_try _ _ _ _ _ _ _ _ _ _ (Met.is hm) hn h.1 h.2 (by omega) (by omega) hR w
  · rw [show m.aft n = m.a from if_neg h]
    exact after_go _ _ _ _ _ _ _ _ _ _ (Met.is hm) hn (Met.no_try h) hR w
theorem pick_m (m : Met) (hm : m.Ok) (hr : m.right = true) (w : World) : Calls Try.prog 38 #[.agg m.enc.toArray] w fun e w' => e = .returned (.int .i64 (m.aft 0)) ∧ Below w.heap.size w w' :=
  pick_calls _ _ (by simp [Met.enc_length hm]) (fun w => after_m m hm hr 0 (Int.le_refl _) w) w

theorem set_at {l : List Value} {pre post : List Value} {v u : Value} {n : Nat} (h : l = pre ++ v :: post) (hn : pre.length = n) : l.toArray.setIfInBounds n u = (pre ++ u :: post).toArray := by
  subst h hn
  simp
theorem Met.set_tr {m : Met} (h : m.Ok) (x : Int) : m.enc.toArray.setIfInBounds 106 (.int .i64 x) = ({ m with tr := x } : Met).enc.toArray := by
  have l0 := Img.enc_length h.i0
  have l1 := Img.enc_length h.i1
  have lC := Img.enc_length h.co
  rw [set_at (pre := .int .i64 m.a :: (m.i0.enc ++ (m.i1.enc ++ (.int .i64 m.mn :: .int .i64 m.ph :: (m.co.enc ++ [.int .i64 m.got]))))) (v := .int .i64 m.tr) (post := []) (by simp [Met.enc]) (by simp [l0, l1, lC])]
  simp [Met.enc]
theorem Met.set_ph {m : Met} (h : m.Ok) (x : Int) : m.enc.toArray.setIfInBounds 70 (.int .i64 x) = ({ m with ph := x } : Met).enc.toArray := by
  have l0 := Img.enc_length h.i0
  have l1 := Img.enc_length h.i1
  rw [set_at (pre := .int .i64 m.a :: (m.i0.enc ++ (m.i1.enc ++ [.int .i64 m.mn]))) (v := .int .i64 m.ph) (post := m.co.enc ++ [.int .i64 m.got, .int .i64 m.tr]) (by simp [Met.enc]) (by simp [l0, l1])]
  simp [Met.enc]
theorem Met.set_i0 {m : Met} (h : m.Ok) (i : Img) : (m.enc.take 1 ++ i.enc ++ m.enc.drop 35).toArray = ({ m with i0 := i } : Met).enc.toArray := by
  rw [(Met.parts h).d35]
  simp [Met.enc]
theorem Met.set_i1 {m : Met} (h : m.Ok) (i : Img) : (m.enc.take 35 ++ i.enc ++ m.enc.drop 69).toArray = ({ m with i1 := i } : Met).enc.toArray := by
  have l0 := Img.enc_length h.i0
  rw [(Met.parts h).d69]
  have : m.enc.take 35 = .int .i64 m.a :: m.i0.enc := by
    show (Value.int .i64 m.a :: (m.i0.enc ++ _)).take 35 = _
    rw [List.take_succ_cons, List.take_append_of_le_length (by omega), List.take_of_length_le (by omega)]
  rw [this]
  simp [Met.enc]
/-- the boxes of the reference's boot -/
structure Boxes (w W : World) (cs F z : Array Value) : Prop where
  m : Blk W 58 w.heap.size cs
  f : Blk W 67 (w.heap.size + 1) F
  r : Blk W 58 (w.heap.size + 1 + 1) z
  n : Blk W 63 (w.heap.size + 1 + 1 + 1) #[.int .i64 0, .int .i64 0, .int .i64 0]
  below : Below w.heap.size w W
theorem Boxes.new (w : World) (cs F z : Array Value) : Boxes w ((((w.alloc (.cells cs 58)).alloc (.cells F 67)).alloc (.cells z 58)).alloc (.cells #[.int .i64 0, .int .i64 0, .int .i64 0] 63)) cs F z :=
  ⟨(((Blk.new w _ cs _ rfl).alloc _).alloc _).alloc _, ((Blk.new _ _ F _ (by simp)).alloc _).alloc _, (Blk.new _ _ z _ (by simp)).alloc _, Blk.new _ _ _ _ (by simp), (((below_alloc1 w _).alloc (by simp) _).alloc (by simp; omega) _).alloc (by simp; omega) _⟩
theorem Boxes.drew {w W : World} {cs F z : Array Value} (h : Boxes w W cs F z) : Boxes w W.drew cs F z := ⟨h.m.drew, h.f.drew, h.r.drew, h.n.drew, h.below.drew⟩
theorem Boxes.put {w W : World} {cs F z : Array Value} (h : Boxes w W cs F z) (i : Nat) (v : Value) : Boxes w (W.setCell ⟨w.heap.size, i, none⟩ v) (cs.setIfInBounds i v) F z :=
  ⟨h.m.put i v, h.f.put_other i v (by omega), h.r.put_other i v (by omega), h.n.put_other i v (by omega), h.below.setCell (Nat.le_refl _) _⟩
theorem Boxes.set {w W : World} {cs F z : Array Value} (h : Boxes w W cs F z) (c2 : Array Value) : Boxes w (W.setRow w.heap.size c2) c2 F z :=
  ⟨h.m.set c2, h.f.set_other c2 (by omega), h.r.set_other c2 (by omega), h.n.set_other c2 (by omega), below_setRow h.below (Nat.le_refl _) c2⟩
theorem Boxes.res {w W : World} {cs F z : Array Value} (h : Boxes w W cs F z) (c2 : Array Value) : Boxes w (W.setRow (w.heap.size + 1 + 1) c2) cs F c2 :=
  ⟨h.m.set_other c2 (by omega), h.f.set_other c2 (by omega), h.r.set c2, h.n.set_other c2 (by omega), below_setRow h.below (by omega) c2⟩
theorem Boxes.ans {w W : World} {cs F z : Array Value} (h : Boxes w W cs F z) (a : Array Value) : Blk (W.setRow (w.heap.size + 1 + 1 + 1) a) 58 w.heap.size cs ∧ Blk (W.setRow (w.heap.size + 1 + 1 + 1) a) 58 (w.heap.size + 1 + 1) z ∧ Blk (W.setRow (w.heap.size + 1 + 1 + 1) a) 63 (w.heap.size + 1 + 1 + 1) a ∧ Below w.heap.size w (W.setRow (w.heap.size + 1 + 1 + 1) a) :=
  ⟨h.m.set_other a (by omega), h.r.set_other a (by omega), h.n.set a, below_setRow h.below (by omega) a⟩
theorem row_cell {W : World} {g : Nat} {cs : Array Value} (h : Kit.rowAt W g = cs) {i : Nat} (hi : i < cs.size) : W.cell? ⟨g, i, none⟩ = cs[i]? := by
  unfold Kit.rowAt at h
  cases hh : W.heap[g]? with
  | none => rw [hh] at h; subst h; simp at hi
  | some o =>
    rw [hh] at h
    cases o with
    | cells c t fr => subst h; exact cell_of_row W g i c t fr hh
    | _ => subst h; simp at hi
theorem info58' : (Try.prog.info? 58).map (·.size) = some 107 := info58
theorem z58 : Try.zeroCells58.size = 107 := by kernel_rfl

set_option maxHeartbeats 8000000 in
set_option maxRecDepth 100000 in
theorem refboot (m : Met) (hm : m.Ok) (hr : m.right = true) (F : Array Value) (hF : F[34]? = some (.bool false)) (hFs : F.size = 35) (w : World) :
    Calls Try.prog 55 #[.agg m.enc.toArray, .agg F] w fun e w' => e = .returned (.tuple #[.agg m.next.enc.toArray, .agg #[.int .i64 0, .int .i64 (m.aft 0), .int .i64 0]]) ∧ Below w.heap.size w w' := by
  obtain ⟨cs, hcs⟩ : ∃ cs, cs = m.enc.toArray := ⟨_, rfl⟩
  rw [← hcs]
  have hI := Met.is hm
  rw [← hcs] at hI
  obtain ⟨res, hres⟩ : ∃ res, res = Ending.returned (.tuple #[.agg m.next.enc.toArray, .agg #[.int .i64 0, .int .i64 (m.aft 0), .int .i64 0]]) := ⟨_, rfl⟩
  rw [← hres]
  obtain ⟨ha, hrg⟩ := Met.right_facts hr
  have HI := Lib.hid hI
  have HC := Lib.hid hcs
  have HRES := Lib.hid hres
  have HF := Lib.hid hF
  clear hI hcs hres hF
  go_enter Try.func55, Try.ntmps55
  go_upto_region 1 with fail
  have hB := Boxes.new w cs F Try.zeroCells58
  obtain ⟨W0, hW0⟩ : ∃ W0, W0 = ((((w.alloc (.cells cs 58)).alloc (.cells F 67)).alloc (.cells Try.zeroCells58 58)).alloc (.cells #[.int .i64 0, .int .i64 0, .int .i64 0] 63)) := ⟨_, rfl⟩
  rw [← hW0] at hB ⊢
  have HB := Lib.hid hB
  clear hB hW0
  have c70 := (HB.out.m.cell 70).trans HI.out.ph
  have c34 := (HB.out.f.cell 34).trans HF.out
  obtain ⟨aft, haft⟩ : ∃ a, a = m.aft 0 := ⟨_, rfl⟩
  have HAFT := Lib.hid haft
  clear haft
  have HBsz := Lib.hid (show cs.size = 107 by rw [HC.out]; simp [Met.enc_length hm])
  have HBone := Lib.hid (show cs.toList.all (·.oneCell') = true by rw [HC.out]; exact enc_one m)
  by_cases h3 : m.ph = 3
  · have q3 : (m.ph != 3) = false := by simp [h3]
    obtain ⟨-, -, -, -, tr0, tr2⟩ := hrg
    have HH3 := Lib.hid h3
    clear h3
    have c106 := (HB.out.m.cell 106).trans HI.out.tr
    have f106 := HB.out.m.free 106
    by_cases ht : 0 < m.tr
    · have HA2 := Lib.hid (show 1 - m.a = m.aft 0 by rw [Met.aft, if_pos ⟨HH3.out, ht⟩])
      obtain ⟨cs1, hcs1⟩ : ∃ cs1, cs1 = cs.setIfInBounds 106 (.int .i64 (m.tr - 1)) := ⟨_, rfl⟩
      have HN := Lib.hid (show cs1 = m.next.enc.toArray by rw [hcs1, HC.out, Met.set_tr hm, Met.next, if_neg (fun h => h HH3.out), if_pos ht])
      have hb2 := HB.out.put 106 (.int .i64 (m.tr - 1))
      rw [← hcs1] at hb2
      have ca : cs1[0]? = some (.int .i64 m.a) := by rw [hcs1]; simpa using HI.out.a
      have HBsz := Lib.hid (show cs1.size = 107 by rw [hcs1]; simpa using HBsz.out)
      have HBone := Lib.hid (show cs1.toList.all (·.oneCell') = true by rw [HN.out]; exact enc_one _)
      have HB := Lib.hid hb2
      have le0 : 0 + 107 ≤ cs1.size := by have := HBsz.out; omega
      have e107 : cs1.extract 0 107 = cs1 := by rw [← HBsz.out]; exact Array.extract_size
      have hwr : IntKind.i64.wrap (1 - m.a) = 1 - m.a := IntWalk.i64_in _ (by omega)
      clear hb2 hcs1
      go_wp2_with fail
      generalize W0.setCell ⟨w.heap.size, 106, none⟩ (.int .i64 (m.tr - 1)) = W1 at HB ⊢
      have hst : ∀ W : World, Blk W 58 (w.heap.size + 1 + 1) Try.zeroCells58 → (stv 58 ⟨w.heap.size + 1 + 1, 0, none⟩ (.agg cs1)).run Try.prog W = .ok () (W.setRow (w.heap.size + 1 + 1) cs1) := fun W hW => hW.store 58 _ (by rw [HBsz.out]; exact info58) (by rw [HBsz.out]; exact z58) HBone.out
      have HST := Lib.hid hst
      clear hst
      refine wp_region_noPanic ?_
      refine wp_region_held_drew (S := fun W => Kit.rowAt W w.heap.size = cs1) (by kernel_rfl) (HB.out.m.drew.row) (fun hHeld => ?_)
      refine wpAnyH_take (i := 0) (v := ?v0b) rfl (by kernel_rfl) (by kernel_rfl) (by kernel_rfl) (fun _ _ _ h => h) (Or.inl ⟨by rfl, ?y0b⟩) (by assumption) ?n0b
      case y0b => (intro W hSw; have q0 := hSw; go_simp; try with_reducible rfl)
      try simp only [Act.put, List.getElem_toArray, List.getElem_cons_succ, List.getElem_cons_zero, List.setIfInBounds_toArray, List.set_cons_zero, List.set_cons_succ]
      refine wpAnyH_take (i := 1) (v := ?v1b) rfl (by kernel_rfl) (by kernel_rfl) (by kernel_rfl) (fun _ _ _ h => h) (Or.inl ⟨by rfl, ?y1b⟩) (by assumption) ?n1b
      case y1b => (intro W hSw; go_simp; try with_reducible rfl)
      try simp only [Act.put, List.getElem_toArray, List.getElem_cons_succ, List.getElem_cons_zero, List.setIfInBounds_toArray, List.set_cons_zero, List.set_cons_succ]
      refine wpAnyH_take (i := 2) (v := ?v2b) rfl (by kernel_rfl) (by kernel_rfl) (by kernel_rfl) (fun _ _ _ h => h) (Or.inl ⟨by rfl, ?y2b⟩) (by assumption) ?n2b
      case y2b => (intro W hSw; have q0 : W.cell? ⟨w.heap.size, 0, none⟩ = some (.int .i64 m.a) := (row_cell hSw (by rw [HBsz.out]; decide)).trans ca; go_simp; try with_reducible rfl)
      try simp only [Act.put, List.getElem_toArray, List.getElem_cons_succ, List.getElem_cons_zero, List.setIfInBounds_toArray, List.set_cons_zero, List.set_cons_succ]
      refine wpAnyH_take (i := 3) (v := ?v3b) rfl (by kernel_rfl) (by kernel_rfl) (by kernel_rfl) (fun _ _ _ h => h) (Or.inl ⟨by rfl, ?y3b⟩) (by assumption) ?n3b
      case y3b => (intro W hSw; go_simp; try with_reducible rfl)
      try simp only [Act.put, List.getElem_toArray, List.getElem_cons_succ, List.getElem_cons_zero, List.setIfInBounds_toArray, List.set_cons_zero, List.set_cons_succ]
      refine wpAnyH_take (i := 4) (v := ?v4b) rfl (by kernel_rfl) (by kernel_rfl) (by kernel_rfl) (fun _ _ _ h => h) (Or.inl ⟨by rfl, ?y4b⟩) (by assumption) ?n4b
      case y4b => (intro W hSw; go_simp; try with_reducible rfl)
      try simp only [Act.put, List.getElem_toArray, List.getElem_cons_succ, List.getElem_cons_zero, List.setIfInBounds_toArray, List.set_cons_zero, List.set_cons_succ]
      have hBd := HB.out.drew
      have HBD := Lib.hid hBd
      clear hBd
      refine wpAnyH_ready (rs := [5]) (by kernel_rfl) (by simp) ?_
      refine AllReadyH.cons rfl (fun KK hK => ?_) AllReadyH.nil
      rw [if_pos (by rfl)]
      have hst1 := HST.out _ HBD.out.r
      go_simp
      try dsimp only
      refine hK.out _ _ ((HBD.out.res cs1).m.row) (fun hHeld => ?_)
      clear hK KK
      try simp only [Act.put, List.getElem_toArray, List.getElem_cons_succ, List.getElem_cons_zero, List.setIfInBounds_toArray, List.set_cons_zero, List.set_cons_succ]
      clear hst1
      have hst2 := (HBD.out.res cs1).n.store 63 #[.int .i64 0, .int .i64 (1 - m.a), .int .i64 0] info63 rfl rfl
      refine wpAnyH_ready (rs := [6]) (by kernel_rfl) (by simp) ?_
      refine AllReadyH.cons rfl (fun KK hK => ?_) AllReadyH.nil
      rw [if_pos (by rfl)]
      go_simp
      try dsimp only
      refine hK.out _ _ ((HBD.out.res cs1 |>.ans #[.int .i64 0, .int .i64 (1 - m.a), .int .i64 0]).1.row) (fun hHeld => ?_)
      clear hK KK
      try simp only [Act.put, List.getElem_toArray, List.getElem_cons_succ, List.getElem_cons_zero, List.setIfInBounds_toArray, List.set_cons_zero, List.set_cons_succ]
      refine wpAnyH_done (by kernel_rfl) ?_ _
      refine NoPanic.normal ?_
      clear hst2 hHeld
      obtain ⟨-, b58, b63, hfin⟩ := (HBD.out.res cs1 |>.ans #[.int .i64 0, .int .i64 (1 - m.a), .int .i64 0])
      have B58 := Lib.hid b58
      have B63 := Lib.hid b63
      have HFIN := Lib.hid hfin
      clear hfin b58 b63
      generalize (W1.drew.setRow (w.heap.size + 1 + 1) cs1).setRow (w.heap.size + 1 + 1 + 1) #[.int .i64 0, .int .i64 (1 - m.a), .int .i64 0] = W9 at B58 B63 HFIN ⊢
      go_wp2_with fail
      exact bodyPost_ret (v := .tuple #[.agg cs1, .agg #[.int .i64 0, .int .i64 (1 - m.a), .int .i64 0]]) (results_cc Try.results55 _ _ _ _ _ _ _ _ (0, 0) (0, 0) _ _ rfl B58.out.heap Try.underlying58 rfl (by rw [HBsz.out]; exact info58) rfl B63.out.heap Try.underlying63 rfl info63) rfl ⟨by rw [HRES.out, ← HA2.out, HN.out], HFIN.out⟩
    · obtain ht0 : m.tr = 0 := by omega
      have g0 : decide (0 < m.tr) = false := decide_eq_false ht
      have HA2 := Lib.hid (show m.a = m.aft 0 by rw [Met.aft, if_neg (fun h => ht h.2)])
      have c70b := c70
      have f70 := HB.out.m.free 70
      have hb2 := HB.out.put 70 (.int .i64 0)
      have hp := Met.set_ph hm 0
      rw [← HC.out] at hp
      rw [hp] at hb2
      have hm0 : ({ m with ph := 0 } : Met).Ok := ⟨hm.i0, hm.i1, hm.co, hm.wa, hm.wmn, rfl, hm.wgot, hm.wtr⟩
      have hsz0 : ({ m with ph := 0 } : Met).enc.toArray.size = 107 := by simp [Met.enc_length hm0]
      rcases ha with ha | ha
      · have HN0 := Lib.hid (show ({ ({ m with ph := 0 } : Met) with i1 := .zero } : Met) = m.next by rw [Met.next, if_neg (fun h => h HH3.out), if_neg ht, Met.setOth, if_pos ha])
        have hst3 := hb2.m.store_mid 55 35 #[.int .i64 0, .int .i64 0, .int .u8 0, .int .u8 0, .int .u8 0, .int .u8 0, .int .u8 0, .int .u8 0, .int .u8 0, .int .u8 0, .int .u8 0, .int .u8 0, .int .u8 0, .int .u8 0, .int .u8 0, .int .u8 0, .int .u8 0, .int .u8 0, .int .u8 0, .int .u8 0, .int .u8 0, .int .u8 0, .int .u8 0, .int .u8 0, .int .u8 0, .int .u8 0, .int .u8 0, .int .u8 0, .int .u8 0, .int .u8 0, .int .u8 0, .int .u8 0, .int .u8 0, .int .u8 0] info55 (by rw [hsz0]; decide) (by kernel_rfl)
        have hb3 := hb2.set ((({ m with ph := 0 } : Met).enc.toArray.toList.take 35 ++ (#[.int .i64 0, .int .i64 0, .int .u8 0, .int .u8 0, .int .u8 0, .int .u8 0, .int .u8 0, .int .u8 0, .int .u8 0, .int .u8 0, .int .u8 0, .int .u8 0, .int .u8 0, .int .u8 0, .int .u8 0, .int .u8 0, .int .u8 0, .int .u8 0, .int .u8 0, .int .u8 0, .int .u8 0, .int .u8 0, .int .u8 0, .int .u8 0, .int .u8 0, .int .u8 0, .int .u8 0, .int .u8 0, .int .u8 0, .int .u8 0, .int .u8 0, .int .u8 0, .int .u8 0, .int .u8 0] : Array Value).toList ++ ({ m with ph := 0 } : Met).enc.toArray.toList.drop (35 + (#[.int .i64 0, .int .i64 0, .int .u8 0, .int .u8 0, .int .u8 0, .int .u8 0, .int .u8 0, .int .u8 0, .int .u8 0, .int .u8 0, .int .u8 0, .int .u8 0, .int .u8 0, .int .u8 0, .int .u8 0, .int .u8 0, .int .u8 0, .int .u8 0, .int .u8 0, .int .u8 0, .int .u8 0, .int .u8 0, .int .u8 0, .int .u8 0, .int .u8 0, .int .u8 0, .int .u8 0, .int .u8 0, .int .u8 0, .int .u8 0, .int .u8 0, .int .u8 0, .int .u8 0, .int .u8 0] : Array Value).size)).toArray)
        obtain ⟨cs1, hcs1⟩ : ∃ cs1, cs1 = ((({ m with ph := 0 } : Met).enc.toArray.toList.take 35 ++ (#[.int .i64 0, .int .i64 0, .int .u8 0, .int .u8 0, .int .u8 0, .int .u8 0, .int .u8 0, .int .u8 0, .int .u8 0, .int .u8 0, .int .u8 0, .int .u8 0, .int .u8 0, .int .u8 0, .int .u8 0, .int .u8 0, .int .u8 0, .int .u8 0, .int .u8 0, .int .u8 0, .int .u8 0, .int .u8 0, .int .u8 0, .int .u8 0, .int .u8 0, .int .u8 0, .int .u8 0, .int .u8 0, .int .u8 0, .int .u8 0, .int .u8 0, .int .u8 0, .int .u8 0, .int .u8 0] : Array Value).toList ++ ({ m with ph := 0 } : Met).enc.toArray.toList.drop (35 + (#[.int .i64 0, .int .i64 0, .int .u8 0, .int .u8 0, .int .u8 0, .int .u8 0, .int .u8 0, .int .u8 0, .int .u8 0, .int .u8 0, .int .u8 0, .int .u8 0, .int .u8 0, .int .u8 0, .int .u8 0, .int .u8 0, .int .u8 0, .int .u8 0, .int .u8 0, .int .u8 0, .int .u8 0, .int .u8 0, .int .u8 0, .int .u8 0, .int .u8 0, .int .u8 0, .int .u8 0, .int .u8 0, .int .u8 0, .int .u8 0, .int .u8 0, .int .u8 0, .int .u8 0, .int .u8 0] : Array Value).size)).toArray) := ⟨_, rfl⟩
        rw [← hcs1] at hb3 hst3
        have HN := Lib.hid (show cs1 = m.next.enc.toArray by rw [hcs1, ← HN0.out]; exact Met.set_i1 hm0 .zero)
        have hcn := (Met.is (m := m.next) (by rw [← HN0.out]; exact ⟨hm.i0, Img.zero_ok, hm.co, hm.wa, hm.wmn, rfl, hm.wgot, hm.wtr⟩))
        rw [← HN.out] at hcn
        have ca : cs1[0]? = some (.int .i64 0) := by rw [hcn.a, ← HN0.out]; exact congrArg (fun x => some (Value.int .i64 x)) ha
        have HBsz := Lib.hid hcn.size
        have HBone := Lib.hid (show cs1.toList.all (·.oneCell') = true by rw [HN.out]; exact enc_one _)
        have le0 : 0 + 107 ≤ cs1.size := by have := HBsz.out; omega
        have e107 : cs1.extract 0 107 = cs1 := by rw [← HBsz.out]; exact Array.extract_size
        rw [ha] at HA2
        have c0 := (HB.out.m.cell 0).trans HI.out.a
        rw [ha] at c0
        have HHA := Lib.hid ha
        have HB := Lib.hid hb3
        clear hb2 hb3 hcs1 hcn hp ha
        go_wp2_with fail
        generalize (W0.setCell ⟨w.heap.size, 70, none⟩ (.int .i64 0)).setRow w.heap.size cs1 = W1 at HB ⊢
        have hst : ∀ W : World, Blk W 58 (w.heap.size + 1 + 1) Try.zeroCells58 → (stv 58 ⟨w.heap.size + 1 + 1, 0, none⟩ (.agg cs1)).run Try.prog W = .ok () (W.setRow (w.heap.size + 1 + 1) cs1) := fun W hW => hW.store 58 _ (by rw [HBsz.out]; exact info58) (by rw [HBsz.out]; exact z58) HBone.out
        have HST := Lib.hid hst
        clear hst
        refine wp_region_noPanic ?_
        refine wp_region_held_drew (S := fun W => Kit.rowAt W w.heap.size = cs1) (by kernel_rfl) (HB.out.m.drew.row) (fun hHeld => ?_)
        refine wpAnyH_take (i := 0) (v := ?v0c) rfl (by kernel_rfl) (by kernel_rfl) (by kernel_rfl) (fun _ _ _ h => h) (Or.inl ⟨by rfl, ?y0c⟩) (by assumption) ?n0c
        case y0c => (intro W hSw; have q0 := hSw; go_simp; try with_reducible rfl)
        try simp only [Act.put, List.getElem_toArray, List.getElem_cons_succ, List.getElem_cons_zero, List.setIfInBounds_toArray, List.set_cons_zero, List.set_cons_succ]
        refine wpAnyH_take (i := 1) (v := ?v1c) rfl (by kernel_rfl) (by kernel_rfl) (by kernel_rfl) (fun _ _ _ h => h) (Or.inl ⟨by rfl, ?y1c⟩) (by assumption) ?n1c
        case y1c => (intro W hSw; go_simp; try with_reducible rfl)
        try simp only [Act.put, List.getElem_toArray, List.getElem_cons_succ, List.getElem_cons_zero, List.setIfInBounds_toArray, List.set_cons_zero, List.set_cons_succ]
        refine wpAnyH_take (i := 2) (v := ?v2c) rfl (by kernel_rfl) (by kernel_rfl) (by kernel_rfl) (fun _ _ _ h => h) (Or.inl ⟨by rfl, ?y2c⟩) (by assumption) ?n2c
        case y2c => (intro W hSw; have q0 : W.cell? ⟨w.heap.size, 0, none⟩ = some (.int .i64 0) := (row_cell hSw (by rw [HBsz.out]; decide)).trans ca; go_simp; try with_reducible rfl)
        try simp only [Act.put, List.getElem_toArray, List.getElem_cons_succ, List.getElem_cons_zero, List.setIfInBounds_toArray, List.set_cons_zero, List.set_cons_succ]
        refine wpAnyH_take (i := 3) (v := ?v3c) rfl (by kernel_rfl) (by kernel_rfl) (by kernel_rfl) (fun _ _ _ h => h) (Or.inl ⟨by rfl, ?y3c⟩) (by assumption) ?n3c
        case y3c => (intro W hSw; go_simp; try with_reducible rfl)
        try simp only [Act.put, List.getElem_toArray, List.getElem_cons_succ, List.getElem_cons_zero, List.setIfInBounds_toArray, List.set_cons_zero, List.set_cons_succ]
        have hBd := HB.out.drew
        have HBD := Lib.hid hBd
        clear hBd
        refine wpAnyH_ready (rs := [4]) (by kernel_rfl) (by simp) ?_
        refine AllReadyH.cons rfl (fun KK hK => ?_) AllReadyH.nil
        rw [if_pos (by rfl)]
        have hst1 := HST.out _ HBD.out.r
        go_simp
        try dsimp only
        refine hK.out _ _ ((HBD.out.res cs1).m.row) (fun hHeld => ?_)
        clear hK KK
        try simp only [Act.put, List.getElem_toArray, List.getElem_cons_succ, List.getElem_cons_zero, List.setIfInBounds_toArray, List.set_cons_zero, List.set_cons_succ]
        clear hst1
        have hst2 := (HBD.out.res cs1).n.store 63 #[.int .i64 0, .int .i64 (0), .int .i64 0] info63 rfl rfl
        refine wpAnyH_ready (rs := [5]) (by kernel_rfl) (by simp) ?_
        refine AllReadyH.cons rfl (fun KK hK => ?_) AllReadyH.nil
        rw [if_pos (by rfl)]
        go_simp
        try dsimp only
        refine hK.out _ _ ((HBD.out.res cs1 |>.ans #[.int .i64 0, .int .i64 (0), .int .i64 0]).1.row) (fun hHeld => ?_)
        clear hK KK
        try simp only [Act.put, List.getElem_toArray, List.getElem_cons_succ, List.getElem_cons_zero, List.setIfInBounds_toArray, List.set_cons_zero, List.set_cons_succ]
        refine wpAnyH_done (by kernel_rfl) ?_ _
        refine NoPanic.normal ?_
        clear hst2 hHeld
        obtain ⟨-, b58, b63, hfin⟩ := (HBD.out.res cs1 |>.ans #[.int .i64 0, .int .i64 (0), .int .i64 0])
        have B58 := Lib.hid b58
        have B63 := Lib.hid b63
        have HFIN := Lib.hid hfin
        clear hfin b58 b63
        generalize (W1.drew.setRow (w.heap.size + 1 + 1) cs1).setRow (w.heap.size + 1 + 1 + 1) #[.int .i64 0, .int .i64 (0), .int .i64 0] = W9 at B58 B63 HFIN ⊢
        go_wp2_with fail
        exact bodyPost_ret (v := .tuple #[.agg cs1, .agg #[.int .i64 0, .int .i64 (0), .int .i64 0]]) (results_cc Try.results55 _ _ _ _ _ _ _ _ (0, 0) (0, 0) _ _ rfl B58.out.heap Try.underlying58 rfl (by rw [HBsz.out]; exact info58) rfl B63.out.heap Try.underlying63 rfl info63) rfl ⟨by rw [HRES.out, ← HA2.out, HN.out], HFIN.out⟩
      · have HN0 := Lib.hid (show ({ ({ m with ph := 0 } : Met) with i0 := .zero } : Met) = m.next by rw [Met.next, if_neg (fun h => h HH3.out), if_neg ht, Met.setOth, if_neg (by omega)])
        have hst3 := hb2.m.store_mid 55 1 #[.int .i64 0, .int .i64 0, .int .u8 0, .int .u8 0, .int .u8 0, .int .u8 0, .int .u8 0, .int .u8 0, .int .u8 0, .int .u8 0, .int .u8 0, .int .u8 0, .int .u8 0, .int .u8 0, .int .u8 0, .int .u8 0, .int .u8 0, .int .u8 0, .int .u8 0, .int .u8 0, .int .u8 0, .int .u8 0, .int .u8 0, .int .u8 0, .int .u8 0, .int .u8 0, .int .u8 0, .int .u8 0, .int .u8 0, .int .u8 0, .int .u8 0, .int .u8 0, .int .u8 0, .int .u8 0] info55 (by rw [hsz0]; decide) (by kernel_rfl)
        have hb3 := hb2.set ((({ m with ph := 0 } : Met).enc.toArray.toList.take 1 ++ (#[.int .i64 0, .int .i64 0, .int .u8 0, .int .u8 0, .int .u8 0, .int .u8 0, .int .u8 0, .int .u8 0, .int .u8 0, .int .u8 0, .int .u8 0, .int .u8 0, .int .u8 0, .int .u8 0, .int .u8 0, .int .u8 0, .int .u8 0, .int .u8 0, .int .u8 0, .int .u8 0, .int .u8 0, .int .u8 0, .int .u8 0, .int .u8 0, .int .u8 0, .int .u8 0, .int .u8 0, .int .u8 0, .int .u8 0, .int .u8 0, .int .u8 0, .int .u8 0, .int .u8 0, .int .u8 0] : Array Value).toList ++ ({ m with ph := 0 } : Met).enc.toArray.toList.drop (1 + (#[.int .i64 0, .int .i64 0, .int .u8 0, .int .u8 0, .int .u8 0, .int .u8 0, .int .u8 0, .int .u8 0, .int .u8 0, .int .u8 0, .int .u8 0, .int .u8 0, .int .u8 0, .int .u8 0, .int .u8 0, .int .u8 0, .int .u8 0, .int .u8 0, .int .u8 0, .int .u8 0, .int .u8 0, .int .u8 0, .int .u8 0, .int .u8 0, .int .u8 0, .int .u8 0, .int .u8 0, .int .u8 0, .int .u8 0, .int .u8 0, .int .u8 0, .int .u8 0, .int .u8 0, .int .u8 0] : Array Value).size)).toArray)
        obtain ⟨cs1, hcs1⟩ : ∃ cs1, cs1 = ((({ m with ph := 0 } : Met).enc.toArray.toList.take 1 ++ (#[.int .i64 0, .int .i64 0, .int .u8 0, .int .u8 0, .int .u8 0, .int .u8 0, .int .u8 0, .int .u8 0, .int .u8 0, .int .u8 0, .int .u8 0, .int .u8 0, .int .u8 0, .int .u8 0, .int .u8 0, .int .u8 0, .int .u8 0, .int .u8 0, .int .u8 0, .int .u8 0, .int .u8 0, .int .u8 0, .int .u8 0, .int .u8 0, .int .u8 0, .int .u8 0, .int .u8 0, .int .u8 0, .int .u8 0, .int .u8 0, .int .u8 0, .int .u8 0, .int .u8 0, .int .u8 0] : Array Value).toList ++ ({ m with ph := 0 } : Met).enc.toArray.toList.drop (1 + (#[.int .i64 0, .int .i64 0, .int .u8 0, .int .u8 0, .int .u8 0, .int .u8 0, .int .u8 0, .int .u8 0, .int .u8 0, .int .u8 0, .int .u8 0, .int .u8 0, .int .u8 0, .int .u8 0, .int .u8 0, .int .u8 0, .int .u8 0, .int .u8 0, .int .u8 0, .int .u8 0, .int .u8 0, .int .u8 0, .int .u8 0, .int .u8 0, .int .u8 0, .int .u8 0, .int .u8 0, .int .u8 0, .int .u8 0, .int .u8 0, .int .u8 0, .int .u8 0, .int .u8 0, .int .u8 0] : Array Value).size)).toArray) := ⟨_, rfl⟩
        rw [← hcs1] at hb3 hst3
        have HN := Lib.hid (show cs1 = m.next.enc.toArray by rw [hcs1, ← HN0.out]; exact Met.set_i0 hm0 .zero)
        have hcn := (Met.is (m := m.next) (by rw [← HN0.out]; exact ⟨Img.zero_ok, hm.i1, hm.co, hm.wa, hm.wmn, rfl, hm.wgot, hm.wtr⟩))
        rw [← HN.out] at hcn
        have ca : cs1[0]? = some (.int .i64 1) := by rw [hcn.a, ← HN0.out]; exact congrArg (fun x => some (Value.int .i64 x)) ha
        have HBsz := Lib.hid hcn.size
        have HBone := Lib.hid (show cs1.toList.all (·.oneCell') = true by rw [HN.out]; exact enc_one _)
        have le0 : 0 + 107 ≤ cs1.size := by have := HBsz.out; omega
        have e107 : cs1.extract 0 107 = cs1 := by rw [← HBsz.out]; exact Array.extract_size
        rw [ha] at HA2
        have c0 := (HB.out.m.cell 0).trans HI.out.a
        rw [ha] at c0
        have HHA := Lib.hid ha
        have HB := Lib.hid hb3
        clear hb2 hb3 hcs1 hcn hp ha
        go_wp2_with fail
        generalize (W0.setCell ⟨w.heap.size, 70, none⟩ (.int .i64 0)).setRow w.heap.size cs1 = W1 at HB ⊢
        have hst : ∀ W : World, Blk W 58 (w.heap.size + 1 + 1) Try.zeroCells58 → (stv 58 ⟨w.heap.size + 1 + 1, 0, none⟩ (.agg cs1)).run Try.prog W = .ok () (W.setRow (w.heap.size + 1 + 1) cs1) := fun W hW => hW.store 58 _ (by rw [HBsz.out]; exact info58) (by rw [HBsz.out]; exact z58) HBone.out
        have HST := Lib.hid hst
        clear hst
        refine wp_region_noPanic ?_
        refine wp_region_held_drew (S := fun W => Kit.rowAt W w.heap.size = cs1) (by kernel_rfl) (HB.out.m.drew.row) (fun hHeld => ?_)
        refine wpAnyH_take (i := 0) (v := ?v0d) rfl (by kernel_rfl) (by kernel_rfl) (by kernel_rfl) (fun _ _ _ h => h) (Or.inl ⟨by rfl, ?y0d⟩) (by assumption) ?n0d
        case y0d => (intro W hSw; have q0 := hSw; go_simp; try with_reducible rfl)
        try simp only [Act.put, List.getElem_toArray, List.getElem_cons_succ, List.getElem_cons_zero, List.setIfInBounds_toArray, List.set_cons_zero, List.set_cons_succ]
        refine wpAnyH_take (i := 1) (v := ?v1d) rfl (by kernel_rfl) (by kernel_rfl) (by kernel_rfl) (fun _ _ _ h => h) (Or.inl ⟨by rfl, ?y1d⟩) (by assumption) ?n1d
        case y1d => (intro W hSw; go_simp; try with_reducible rfl)
        try simp only [Act.put, List.getElem_toArray, List.getElem_cons_succ, List.getElem_cons_zero, List.setIfInBounds_toArray, List.set_cons_zero, List.set_cons_succ]
        refine wpAnyH_take (i := 2) (v := ?v2d) rfl (by kernel_rfl) (by kernel_rfl) (by kernel_rfl) (fun _ _ _ h => h) (Or.inl ⟨by rfl, ?y2d⟩) (by assumption) ?n2d
        case y2d => (intro W hSw; have q0 : W.cell? ⟨w.heap.size, 0, none⟩ = some (.int .i64 1) := (row_cell hSw (by rw [HBsz.out]; decide)).trans ca; go_simp; try with_reducible rfl)
        try simp only [Act.put, List.getElem_toArray, List.getElem_cons_succ, List.getElem_cons_zero, List.setIfInBounds_toArray, List.set_cons_zero, List.set_cons_succ]
        refine wpAnyH_take (i := 3) (v := ?v3d) rfl (by kernel_rfl) (by kernel_rfl) (by kernel_rfl) (fun _ _ _ h => h) (Or.inl ⟨by rfl, ?y3d⟩) (by assumption) ?n3d
        case y3d => (intro W hSw; go_simp; try with_reducible rfl)
        try simp only [Act.put, List.getElem_toArray, List.getElem_cons_succ, List.getElem_cons_zero, List.setIfInBounds_toArray, List.set_cons_zero, List.set_cons_succ]
        have hBd := HB.out.drew
        have HBD := Lib.hid hBd
        clear hBd
        refine wpAnyH_ready (rs := [4]) (by kernel_rfl) (by simp) ?_
        refine AllReadyH.cons rfl (fun KK hK => ?_) AllReadyH.nil
        rw [if_pos (by rfl)]
        have hst1 := HST.out _ HBD.out.r
        go_simp
        try dsimp only
        refine hK.out _ _ ((HBD.out.res cs1).m.row) (fun hHeld => ?_)
        clear hK KK
        try simp only [Act.put, List.getElem_toArray, List.getElem_cons_succ, List.getElem_cons_zero, List.setIfInBounds_toArray, List.set_cons_zero, List.set_cons_succ]
        clear hst1
        have hst2 := (HBD.out.res cs1).n.store 63 #[.int .i64 0, .int .i64 (1), .int .i64 0] info63 rfl rfl
        refine wpAnyH_ready (rs := [5]) (by kernel_rfl) (by simp) ?_
        refine AllReadyH.cons rfl (fun KK hK => ?_) AllReadyH.nil
        rw [if_pos (by rfl)]
        go_simp
        try dsimp only
        refine hK.out _ _ ((HBD.out.res cs1 |>.ans #[.int .i64 0, .int .i64 (1), .int .i64 0]).1.row) (fun hHeld => ?_)
        clear hK KK
        try simp only [Act.put, List.getElem_toArray, List.getElem_cons_succ, List.getElem_cons_zero, List.setIfInBounds_toArray, List.set_cons_zero, List.set_cons_succ]
        refine wpAnyH_done (by kernel_rfl) ?_ _
        refine NoPanic.normal ?_
        clear hst2 hHeld
        obtain ⟨-, b58, b63, hfin⟩ := (HBD.out.res cs1 |>.ans #[.int .i64 0, .int .i64 (1), .int .i64 0])
        have B58 := Lib.hid b58
        have B63 := Lib.hid b63
        have HFIN := Lib.hid hfin
        clear hfin b58 b63
        generalize (W1.drew.setRow (w.heap.size + 1 + 1) cs1).setRow (w.heap.size + 1 + 1 + 1) #[.int .i64 0, .int .i64 (1), .int .i64 0] = W9 at B58 B63 HFIN ⊢
        go_wp2_with fail
        exact bodyPost_ret (v := .tuple #[.agg cs1, .agg #[.int .i64 0, .int .i64 (1), .int .i64 0]]) (results_cc Try.results55 _ _ _ _ _ _ _ _ (0, 0) (0, 0) _ _ rfl B58.out.heap Try.underlying58 rfl (by rw [HBsz.out]; exact info58) rfl B63.out.heap Try.underlying63 rfl info63) rfl ⟨by rw [HRES.out, ← HA2.out, HN.out], HFIN.out⟩
  · have q3 : (m.ph != 3) = true := by simp [h3]
    have HN := Lib.hid (show cs = m.next.enc.toArray by rw [HC.out, Met.next, if_pos h3])
    have HA2 := Lib.hid (show m.a = m.aft 0 by rw [Met.aft, if_neg (fun h => h3 h.1)])
    have le0 : 0 + 107 ≤ cs.size := by have := HBsz.out; omega
    have e107 : cs.extract 0 107 = cs := by rw [← HBsz.out]; exact Array.extract_size
    go_wp2_with fail
    have ca := HI.out.a
    have hst : ∀ W : World, Blk W 58 (w.heap.size + 1 + 1) Try.zeroCells58 → (stv 58 ⟨w.heap.size + 1 + 1, 0, none⟩ (.agg cs)).run Try.prog W = .ok () (W.setRow (w.heap.size + 1 + 1) cs) := fun W hW => hW.store 58 _ (by rw [HBsz.out]; exact info58) (by rw [HBsz.out]; exact z58) HBone.out
    have HST := Lib.hid hst
    clear hst
    refine wp_region_noPanic ?_
    refine wp_region_held_drew (S := fun W => Kit.rowAt W w.heap.size = cs) (by kernel_rfl) (HB.out.m.drew.row) (fun hHeld => ?_)
    refine wpAnyH_take (i := 0) (v := ?v0) rfl (by kernel_rfl) (by kernel_rfl) (by kernel_rfl) (fun _ _ _ h => h) (Or.inl ⟨by rfl, ?y0⟩) (by assumption) ?n0
    case y0 => (intro W hSw; have q0 := hSw; go_simp; try with_reducible rfl)
    try simp only [Act.put, List.getElem_toArray, List.getElem_cons_succ, List.getElem_cons_zero, List.setIfInBounds_toArray, List.set_cons_zero, List.set_cons_succ]
    refine wpAnyH_take (i := 1) (v := ?v1) rfl (by kernel_rfl) (by kernel_rfl) (by kernel_rfl) (fun _ _ _ h => h) (Or.inl ⟨by rfl, ?y1⟩) (by assumption) ?n1
    case y1 => (intro W hSw; go_simp; try with_reducible rfl)
    try simp only [Act.put, List.getElem_toArray, List.getElem_cons_succ, List.getElem_cons_zero, List.setIfInBounds_toArray, List.set_cons_zero, List.set_cons_succ]
    refine wpAnyH_take (i := 2) (v := ?v2) rfl (by kernel_rfl) (by kernel_rfl) (by kernel_rfl) (fun _ _ _ h => h) (Or.inl ⟨by rfl, ?y2⟩) (by assumption) ?n2
    case y2 => (intro W hSw; have q0 : W.cell? ⟨w.heap.size, 0, none⟩ = some (.int .i64 m.a) := (row_cell hSw (by rw [HBsz.out]; decide)).trans ca; go_simp; try with_reducible rfl)
    try simp only [Act.put, List.getElem_toArray, List.getElem_cons_succ, List.getElem_cons_zero, List.setIfInBounds_toArray, List.set_cons_zero, List.set_cons_succ]
    refine wpAnyH_take (i := 3) (v := ?v3) rfl (by kernel_rfl) (by kernel_rfl) (by kernel_rfl) (fun _ _ _ h => h) (Or.inl ⟨by rfl, ?y3⟩) (by assumption) ?n3
    case y3 => (intro W hSw; go_simp; try with_reducible rfl)
    try simp only [Act.put, List.getElem_toArray, List.getElem_cons_succ, List.getElem_cons_zero, List.setIfInBounds_toArray, List.set_cons_zero, List.set_cons_succ]
    have hBd := HB.out.drew
    have HBD := Lib.hid hBd
    clear hBd
    refine wpAnyH_ready (rs := [4]) (by kernel_rfl) (by simp) ?_
    refine AllReadyH.cons rfl (fun KK hK => ?_) AllReadyH.nil
    rw [if_pos (by rfl)]
    have hst1 := HST.out _ HBD.out.r
    go_simp
    try dsimp only
    refine hK.out _ _ ((HBD.out.res cs).m.row) (fun hHeld => ?_)
    clear hK KK
    try simp only [Act.put, List.getElem_toArray, List.getElem_cons_succ, List.getElem_cons_zero, List.setIfInBounds_toArray, List.set_cons_zero, List.set_cons_succ]
    clear hst1
    have hst2 := (HBD.out.res cs).n.store 63 #[.int .i64 0, .int .i64 (m.a), .int .i64 0] info63 rfl rfl
    refine wpAnyH_ready (rs := [5]) (by kernel_rfl) (by simp) ?_
    refine AllReadyH.cons rfl (fun KK hK => ?_) AllReadyH.nil
    rw [if_pos (by rfl)]
    go_simp
    try dsimp only
    refine hK.out _ _ ((HBD.out.res cs |>.ans #[.int .i64 0, .int .i64 (m.a), .int .i64 0]).1.row) (fun hHeld => ?_)
    clear hK KK
    try simp only [Act.put, List.getElem_toArray, List.getElem_cons_succ, List.getElem_cons_zero, List.setIfInBounds_toArray, List.set_cons_zero, List.set_cons_succ]
    refine wpAnyH_done (by kernel_rfl) ?_ _
    refine NoPanic.normal ?_
    clear hst2 hHeld
    obtain ⟨-, b58, b63, hfin⟩ := (HBD.out.res cs |>.ans #[.int .i64 0, .int .i64 (m.a), .int .i64 0])
    have B58 := Lib.hid b58
    have B63 := Lib.hid b63
    have HFIN := Lib.hid hfin
    clear hfin b58 b63
    generalize (W0.drew.setRow (w.heap.size + 1 + 1) cs).setRow (w.heap.size + 1 + 1 + 1) #[.int .i64 0, .int .i64 (m.a), .int .i64 0] = W9 at B58 B63 HFIN ⊢
    go_wp2_with fail
    exact bodyPost_ret (v := .tuple #[.agg cs, .agg #[.int .i64 0, .int .i64 (m.a), .int .i64 0]]) (results_cc Try.results55 _ _ _ _ _ _ _ _ (0, 0) (0, 0) _ _ rfl B58.out.heap Try.underlying58 rfl (by rw [HBsz.out]; exact info58) rfl B63.out.heap Try.underlying63 rfl info63) rfl ⟨by rw [HRES.out, ← HA2.out, HN.out], HFIN.out⟩
end Go.Proofs.Ytajflegjpnmloaa.Boot
