/- Walks: meta. -/
import Derived.Test.YtehlcljachkgdaaKit
import Derived.DeepKeys
namespace Go.Proofs.Ytehlcljachkgdaa.Boot
open Go.RowKit Go.Proofs.YtehlcljachkgdaaW.PrintWords Go.Proofs.YtehlcljachkgdaaW.PrintLast Go.Proofs.Ytehlcljachkgdaa.Kit

theorem below_alloc1 (W : World) (o : Obj) : Below W.heap.size W (W.alloc o) := (Below.refl _ _).alloc (Nat.le_refl _) _
theorem info55 : (Try.prog.info? 49).map (·.size) = some 34 := by kernel_rfl
theorem info58 : (Try.prog.info? 52).map (·.size) = some 107 := by kernel_rfl
theorem ldI (p : Addr) : loadVar 49 p = ld 49 p := rfl
theorem ldM (p : Addr) : loadVar 52 p = ld 52 p := rfl
theorem ldI_run (W : World) (g o : Nat) (h : o + 34 ≤ (Kit.rowAt W g).size) : (ld 49 ⟨g, o, none⟩).run Try.prog W = .ok (.agg ((Kit.rowAt W g).extract o (o + 34))) W :=
  ld_run 49 34 Try.underlying49 rfl info55 W g o h (by decide)
theorem ldM_run (W : World) (g o : Nat) (h : o + 107 ≤ (Kit.rowAt W g).size) : (ld 52 ⟨g, o, none⟩).run Try.prog W = .ok (.agg ((Kit.rowAt W g).extract o (o + 107))) W :=
  ld_run 52 107 Try.underlying52 rfl info58 W g o h (by decide)
attribute [local go_sem ↓] ldI ldM
attribute [local go_sem] ldI_run ldM_run

/-- an image: its cells, and whether it is none -/
structure ImgIs (I : Array Value) (v s : Int) (b : Bool) : Prop where
  size : I.size = 34
  v : I[0]? = some (.int .i64 v)
  s : I[1]? = some (.int .i64 s)
  eq : ∀ W : World, (Go.binOp .eql 49 (.agg I) (.agg #[.int .i64 0, .int .i64 0, .int .u8 0, .int .u8 0, .int .u8 0, .int .u8 0, .int .u8 0, .int .u8 0, .int .u8 0, .int .u8 0, .int .u8 0, .int .u8 0, .int .u8 0, .int .u8 0, .int .u8 0, .int .u8 0, .int .u8 0, .int .u8 0, .int .u8 0, .int .u8 0, .int .u8 0, .int .u8 0, .int .u8 0, .int .u8 0, .int .u8 0, .int .u8 0, .int .u8 0, .int .u8 0, .int .u8 0, .int .u8 0, .int .u8 0, .int .u8 0, .int .u8 0, .int .u8 0])).run Try.prog W = .ok (.bool b) W
structure MetIs (cs : Array Value) (a mn ph got tr : Int) (I0 I1 C : Array Value) : Prop where
  size : cs.size = 107
  a : cs[0]? = some (.int .i64 a)
  mn : cs[69]? = some (.int .i64 mn)
  ph : cs[70]? = some (.int .i64 ph)
  got : cs[105]? = some (.int .i64 got)
  tr : cs[106]? = some (.int .i64 tr)
  e0 : cs.extract 1 35 = I0
  e1 : cs.extract 35 69 = I1
  eC : cs.extract 71 105 = C

set_option maxHeartbeats 2000000 in
theorem none_calls (I : Array Value) (v s : Int) (b : Bool) (h : ImgIs I v s b) (w : World) : Calls Try.prog 50 #[.agg I] w fun e w' => e = .returned (.bool b) ∧ Below w.heap.size w w' := by
  have hE := h.eq
  have h1 : Kit.rowAt (w.alloc (.cells I 49)) w.heap.size = I := Kit.rowAt_new _ _ _ _
  have h2 : I.extract 0 34 = I := by have := h.size; rw [← this]; exact Array.extract_size
  have h3 : 0 + 34 ≤ I.size := by rw [h.size]; decide
  go_enter Try.func50, Try.ntmps50
  go_wp2_with fail
  go_ret
  exact ⟨rfl, below_alloc1 _ _⟩

set_option maxHeartbeats 2000000 in
theorem image_zero (I : Array Value) (b : Bool) (h : ImgIs I 0 0 b) (w : World) : Calls Try.prog 49 #[.agg I] w fun e w' => e = .returned (.bool b) ∧ Below w.heap.size w w' := by
  have h1 : Kit.rowAt (w.alloc (.cells I 49)) w.heap.size = I := Kit.rowAt_new _ _ _ _
  have h2 : I.extract 0 34 = I := by have := h.size; rw [← this]; exact Array.extract_size
  have h3 : 0 + 34 ≤ I.size := by rw [h.size]; decide
  have hb1 := below_alloc1 w (.cells I 49)
  have c0 : (w.alloc (.cells I 49)).cell? ⟨w.heap.size, 0, none⟩ = some (.int .i64 0) := by rw [World.cell?_alloc_new]; exact h.v
  have HB := Lib.hid hb1
  have H := Lib.hid h
  clear h hb1
  go_enter Try.func49, Try.ntmps49
  go_wp2_with fail
  refine (none_calls I 0 0 b H.out _).mono ?_
  rintro e w2 ⟨rfl, hb2⟩
  go_wp2_with fail
  go_ret
  exact ⟨rfl, HB.out.trans (hb2.mono HB.out.size)⟩
set_option maxHeartbeats 2000000 in
theorem image_some (I : Array Value) (v s : Int) (b : Bool) (h : ImgIs I v s b) (hv : 0 < v) (hv2 : v ≤ 100) (hs : 0 < s) (hs2 : s ≤ 100) (w : World) : Calls Try.prog 49 #[.agg I] w fun e w' => e = .returned (.bool true) ∧ Below w.heap.size w w' := by
  have hb1 := below_alloc1 w (.cells I 49)
  have c0 : (w.alloc (.cells I 49)).cell? ⟨w.heap.size, 0, none⟩ = some (.int .i64 v) := by rw [World.cell?_alloc_new]; exact h.v
  have c1 : (w.alloc (.cells I 49)).cell? ⟨w.heap.size, 1, none⟩ = some (.int .i64 s) := by rw [World.cell?_alloc_new]; exact h.s
  have v0 : (v == 0) = false := beq_eq_false_iff_ne.2 (by omega)
  have s0 : (s == 0) = false := beq_eq_false_iff_ne.2 (by omega)
  have v1 : v ≤ 1073741824 := by omega
  have s1 : s ≤ 1920 := by omega
  have HB := Lib.hid hb1
  clear h hb1
  go_enter Try.func49, Try.ntmps49
  go_wp2_with fail
  go_ret
  exact ⟨by first | rfl | (simp; omega), HB.out⟩

set_option maxHeartbeats 2000000 in
theorem other_calls (cs : Array Value) (a mn ph got tr : Int) (I0 I1 C : Array Value) (h : MetIs cs a mn ph got tr I0 I1 C) (ha : 0 ≤ a) (ha1 : a ≤ 1) (w : World) : Calls Try.prog 62 #[.agg cs] w fun e w' => e = .returned (.int .i64 (1 - a)) ∧ Below w.heap.size w w' := by
  have hb1 := below_alloc1 w (.cells cs 52)
  have c0 : (w.alloc (.cells cs 52)).cell? ⟨w.heap.size, 0, none⟩ = some (.int .i64 a) := by rw [World.cell?_alloc_new]; exact h.a
  have HB := Lib.hid hb1
  clear h hb1
  go_enter Try.func62, Try.ntmps62
  go_wp2_with fail
  go_ret
  exact ⟨by first | rfl | (simp; omega), HB.out⟩

set_option maxHeartbeats 4000000 in
theorem phase_trial (cs : Array Value) (a mn tr : Int) (I0 I1 C : Array Value) (v0 s0 v1 s1 : Int) (h : MetIs cs a mn 3 0 tr I0 I1 C) (hC : ImgIs C 0 0 true) (h0 : ImgIs I0 v0 s0 false) (h1 : ImgIs I1 v1 s1 false) (ha : a = 0 ∨ a = 1) (w : World) : Calls Try.prog 51 #[.agg cs] w fun e w' => e = .returned (.bool true) ∧ Below w.heap.size w w' := by
  have hb1 := below_alloc1 w (.cells cs 52)
  have r0 : Kit.rowAt (w.alloc (.cells cs 52)) w.heap.size = cs := Kit.rowAt_new _ _ _ _
  have hc : ∀ i, (w.alloc (.cells cs 52)).cell? ⟨w.heap.size, i, none⟩ = cs[i]? := fun i => by rw [World.cell?_alloc_new]
  have c70 := (hc 70).trans h.ph
  have sz := h.size
  have le1 : 71 + 34 ≤ cs.size := by omega
  have eC := h.eC
  have HB := Lib.hid hb1
  have H := Lib.hid h
  have HC := Lib.hid hc
  clear h hb1 hc
  go_enter Try.func51, Try.ntmps51
  go_wp2_with fail
  refine (none_calls C 0 0 true hC _).mono ?_
  rintro e w2 ⟨rfl, hb2⟩
  have bs : w.heap.size < (w.alloc (.cells cs 52)).heap.size := by simp
  have r2 := (Kit.rowAt_below hb2 bs).trans r0
  have c105 := pw_cell_below hb2 ((HC.out 105).trans H.out.got)
  have le0 : 0 + 107 ≤ cs.size := by omega
  have e107 : cs.extract 0 107 = cs := by rw [← sz]; exact Array.extract_size
  have HB2 := Lib.hid (HB.out.trans (hb2.mono HB.out.size))
  have hw2 : w.heap.size < w2.heap.size := by have := hb2.size; omega
  clear r0 c70 hb2 bs
  go_wp2_with fail
  refine (other_calls cs a mn 3 0 tr I0 I1 C H.out (by omega) (by omega) _).mono ?_
  rintro e w3 ⟨rfl, hb3⟩
  have r3 := (Kit.rowAt_below hb3 hw2).trans r2
  have HB3 := Lib.hid (HB2.out.trans (hb3.mono HB2.out.size))
  have e0 := H.out.e0
  have e1 := H.out.e1
  have le2 : 1 + 34 ≤ cs.size := by omega
  have le3 : 35 + 34 ≤ cs.size := by omega
  clear r2 c105 hb3
  rcases ha with rfl | rfl
  · go_wp2_with fail
    refine (none_calls I1 v1 s1 false h1 _).mono ?_
    rintro e w4 ⟨rfl, hb4⟩
    go_wp2_with fail
    go_ret
    exact ⟨rfl, HB3.out.trans (hb4.mono HB3.out.size)⟩
  · go_wp2_with fail
    refine (none_calls I0 v0 s0 false h0 _).mono ?_
    rintro e w4 ⟨rfl, hb4⟩
    go_wp2_with fail
    go_ret
    exact ⟨rfl, HB3.out.trans (hb4.mono HB3.out.size)⟩

/-- the box that a Meta lies in -/
structure Box (W : World) (g : Nat) (cs : Array Value) : Prop where
  lt : g < W.heap.size
  row : Kit.rowAt W g = cs
  cell : ∀ i, W.cell? ⟨g, i, none⟩ = cs[i]?
theorem Box.new (w : World) (cs : Array Value) (t : TypeId) : Box (w.alloc (.cells cs t)) w.heap.size cs := ⟨by simp, Kit.rowAt_new _ _ _ _, fun i => by rw [World.cell?_alloc_new]⟩
theorem Box.below {W W' : World} {g : Nat} {cs : Array Value} (h : Box W g cs) (k : Below W.heap.size W W') : Box W' g cs :=
  ⟨Nat.lt_of_lt_of_le h.lt k.size, (Kit.rowAt_below k h.lt).trans h.row, fun i => (k.cell h.lt).trans (h.cell i)⟩

set_option maxHeartbeats 4000000 in
theorem phase_idle (cs : Array Value) (a mn : Int) (I0 I1 C : Array Value) (h : MetIs cs a mn 0 0 0 I0 I1 C) (hC : ImgIs C 0 0 true) (w : World) : Calls Try.prog 51 #[.agg cs] w fun e w' => e = .returned (.bool true) ∧ Below w.heap.size w w' := by
  have hb1 := below_alloc1 w (.cells cs 52)
  have B1 := Box.new w cs 52
  have r0 := B1.row
  have c70 := (B1.cell 70).trans h.ph
  have sz := h.size
  have le1 : 71 + 34 ≤ cs.size := by omega
  have eC := h.eC
  have HB := Lib.hid hb1
  have H := Lib.hid h
  have HX := Lib.hid B1
  clear h hb1 B1
  go_enter Try.func51, Try.ntmps51
  go_wp2_with fail
  refine (none_calls C 0 0 true hC _).mono ?_
  rintro e w2 ⟨rfl, hb2⟩
  have B2 := HX.out.below hb2
  have c105 := (B2.cell 105).trans H.out.got
  have c106 := (B2.cell 106).trans H.out.tr
  have HB2 := Lib.hid (HB.out.trans (hb2.mono HB.out.size))
  clear r0 c70 hb2 B2
  go_wp2_with fail
  go_ret
  exact ⟨rfl, HB2.out⟩

/-- what image says of an image that may be -/
def Fine (I : Array Value) : Prop := ∀ w : World, Calls Try.prog 49 #[.agg I] w fun e w' => e = .returned (.bool true) ∧ Below w.heap.size w w'

set_option maxHeartbeats 4000000 in
theorem right_zero (cs : Array Value) (ph tr : Int) (I0 I1 C : Array Value) (v s : Int) (h : MetIs cs 0 0 ph 0 tr I0 I1 C) (h0 : Fine I0) (h1 : Fine I1) (hC : Fine C) (hn : ImgIs I0 v s true) (w : World) : Calls Try.prog 25 #[.agg cs] w fun e w' => e = .returned (.bool false) ∧ Below w.heap.size w w' := by
  have hb1 := below_alloc1 w (.cells cs 52)
  have B1 := Box.new w cs 52
  have r0 := B1.row
  have c0 := (B1.cell 0).trans h.a
  have sz := h.size
  have le1 : 1 + 34 ≤ cs.size := by omega
  have le2 : 35 + 34 ≤ cs.size := by omega
  have le3 : 71 + 34 ≤ cs.size := by omega
  have le0 : 0 + 107 ≤ cs.size := by omega
  have e107 : cs.extract 0 107 = cs := by rw [← sz]; exact Array.extract_size
  have e0 := h.e0
  have e1 := h.e1
  have eC := h.eC
  have HB := Lib.hid hb1
  have H := Lib.hid h
  have HX := Lib.hid B1
  clear h hb1 B1
  go_enter Try.func25, Try.ntmps25
  go_wp2_with fail
  refine (h0 _).mono ?_
  rintro e w2 ⟨rfl, hb⟩
  have HX := Lib.hid (HX.out.below hb)
  have HB := Lib.hid (HB.out.trans (hb.mono HB.out.size))
  have r1 := HX.out.row
  clear r0 hb
  go_wp2_with fail
  refine (h1 _).mono ?_
  rintro e w3 ⟨rfl, hb⟩
  have HX := Lib.hid (HX.out.below hb)
  have HB := Lib.hid (HB.out.trans (hb.mono HB.out.size))
  have r2 := HX.out.row
  clear r1 hb
  go_wp2_with fail
  refine (hC _).mono ?_
  rintro e w4 ⟨rfl, hb⟩
  have HX := Lib.hid (HX.out.below hb)
  have HB := Lib.hid (HB.out.trans (hb.mono HB.out.size))
  have r3 := HX.out.row
  clear r2 hb
  have c0' := (HX.out.cell 0).trans H.out.a
  go_wp2_with fail
  refine (none_calls I0 v s _ hn _).mono ?_
  rintro e w5 ⟨rfl, hb⟩
  have HX := Lib.hid (HX.out.below hb)
  have HB := Lib.hid (HB.out.trans (hb.mono HB.out.size))
  have r4 := HX.out.row
  have c69 := (HX.out.cell 69).trans H.out.mn
  have c105 := (HX.out.cell 105).trans H.out.got
  have c106 := (HX.out.cell 106).trans H.out.tr
  clear r3 hb c0 c0'
  go_wp2_with fail
  go_ret
  exact ⟨rfl, HB.out⟩

set_option maxHeartbeats 4000000 in
theorem right_a0 (cs : Array Value) (ph tr : Int) (I0 I1 C : Array Value) (v s : Int) (h : MetIs cs 0 0 ph 0 tr I0 I1 C) (ht : 0 ≤ tr) (ht2 : tr ≤ 2) (h0 : Fine I0) (h1 : Fine I1) (hC : Fine C) (hn : ImgIs I0 v s false) (hp : ∀ w : World, Calls Try.prog 51 #[.agg cs] w fun e w' => e = .returned (.bool true) ∧ Below w.heap.size w w') (w : World) : Calls Try.prog 25 #[.agg cs] w fun e w' => e = .returned (.bool true) ∧ Below w.heap.size w w' := by
  have hb1 := below_alloc1 w (.cells cs 52)
  have B1 := Box.new w cs 52
  have r0 := B1.row
  have c0 := (B1.cell 0).trans h.a
  have sz := h.size
  have le1 : 1 + 34 ≤ cs.size := by omega
  have le2 : 35 + 34 ≤ cs.size := by omega
  have le3 : 71 + 34 ≤ cs.size := by omega
  have le0 : 0 + 107 ≤ cs.size := by omega
  have e107 : cs.extract 0 107 = cs := by rw [← sz]; exact Array.extract_size
  have e0 := h.e0
  have e1 := h.e1
  have eC := h.eC
  have HB := Lib.hid hb1
  have H := Lib.hid h
  have HX := Lib.hid B1
  clear h hb1 B1
  go_enter Try.func25, Try.ntmps25
  go_wp2_with fail
  refine (h0 _).mono ?_
  rintro e w2 ⟨rfl, hb⟩
  have HX := Lib.hid (HX.out.below hb)
  have HB := Lib.hid (HB.out.trans (hb.mono HB.out.size))
  have r1 := HX.out.row
  clear r0 hb
  go_wp2_with fail
  refine (h1 _).mono ?_
  rintro e w3 ⟨rfl, hb⟩
  have HX := Lib.hid (HX.out.below hb)
  have HB := Lib.hid (HB.out.trans (hb.mono HB.out.size))
  have r2 := HX.out.row
  clear r1 hb
  go_wp2_with fail
  refine (hC _).mono ?_
  rintro e w4 ⟨rfl, hb⟩
  have HX := Lib.hid (HX.out.below hb)
  have HB := Lib.hid (HB.out.trans (hb.mono HB.out.size))
  have r3 := HX.out.row
  clear r2 hb
  have c0' := (HX.out.cell 0).trans H.out.a
  go_wp2_with fail
  refine (none_calls I0 v s _ hn _).mono ?_
  rintro e w5 ⟨rfl, hb⟩
  have HX := Lib.hid (HX.out.below hb)
  have HB := Lib.hid (HB.out.trans (hb.mono HB.out.size))
  have r4 := HX.out.row
  have c69 := (HX.out.cell 69).trans H.out.mn
  have c105 := (HX.out.cell 105).trans H.out.got
  have c106 := (HX.out.cell 106).trans H.out.tr
  clear r3 hb c0 c0'
  go_wp2_with fail
  refine (hp _).mono ?_
  rintro e w6 ⟨rfl, hb⟩
  go_wp2_with fail
  go_ret
  exact ⟨rfl, HB.out.trans (hb.mono HB.out.size)⟩

set_option maxHeartbeats 4000000 in
theorem right_a1 (cs : Array Value) (ph tr : Int) (I0 I1 C : Array Value) (v s : Int) (h : MetIs cs 1 0 ph 0 tr I0 I1 C) (ht : 0 ≤ tr) (ht2 : tr ≤ 2) (h0 : Fine I0) (h1 : Fine I1) (hC : Fine C) (hn : ImgIs I1 v s false) (hp : ∀ w : World, Calls Try.prog 51 #[.agg cs] w fun e w' => e = .returned (.bool true) ∧ Below w.heap.size w w') (w : World) : Calls Try.prog 25 #[.agg cs] w fun e w' => e = .returned (.bool true) ∧ Below w.heap.size w w' := by
  have hb1 := below_alloc1 w (.cells cs 52)
  have B1 := Box.new w cs 52
  have r0 := B1.row
  have c0 := (B1.cell 0).trans h.a
  have sz := h.size
  have le1 : 1 + 34 ≤ cs.size := by omega
  have le2 : 35 + 34 ≤ cs.size := by omega
  have le3 : 71 + 34 ≤ cs.size := by omega
  have le0 : 0 + 107 ≤ cs.size := by omega
  have e107 : cs.extract 0 107 = cs := by rw [← sz]; exact Array.extract_size
  have e0 := h.e0
  have e1 := h.e1
  have eC := h.eC
  have HB := Lib.hid hb1
  have H := Lib.hid h
  have HX := Lib.hid B1
  clear h hb1 B1
  go_enter Try.func25, Try.ntmps25
  go_wp2_with fail
  refine (h0 _).mono ?_
  rintro e w2 ⟨rfl, hb⟩
  have HX := Lib.hid (HX.out.below hb)
  have HB := Lib.hid (HB.out.trans (hb.mono HB.out.size))
  have r1 := HX.out.row
  clear r0 hb
  go_wp2_with fail
  refine (h1 _).mono ?_
  rintro e w3 ⟨rfl, hb⟩
  have HX := Lib.hid (HX.out.below hb)
  have HB := Lib.hid (HB.out.trans (hb.mono HB.out.size))
  have r2 := HX.out.row
  clear r1 hb
  go_wp2_with fail
  refine (hC _).mono ?_
  rintro e w4 ⟨rfl, hb⟩
  have HX := Lib.hid (HX.out.below hb)
  have HB := Lib.hid (HB.out.trans (hb.mono HB.out.size))
  have r3 := HX.out.row
  clear r2 hb
  have c0' := (HX.out.cell 0).trans H.out.a
  go_wp2_with fail
  refine (none_calls I1 v s _ hn _).mono ?_
  rintro e w5 ⟨rfl, hb⟩
  have HX := Lib.hid (HX.out.below hb)
  have HB := Lib.hid (HB.out.trans (hb.mono HB.out.size))
  have r4 := HX.out.row
  have c69 := (HX.out.cell 69).trans H.out.mn
  have c105 := (HX.out.cell 105).trans H.out.got
  have c106 := (HX.out.cell 106).trans H.out.tr
  clear r3 hb c0 c0'
  go_wp2_with fail
  refine (hp _).mono ?_
  rintro e w6 ⟨rfl, hb⟩
  go_wp2_with fail
  go_ret
  exact ⟨rfl, HB.out.trans (hb.mono HB.out.size)⟩

end Go.Proofs.Ytehlcljachkgdaa.Boot
