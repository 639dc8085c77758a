/- Walk: meta.Right, of any Meta whose active slot is 0 or 1. -/
import Derived.Test.YtehlcljachkgdaaMetaWalk
namespace Go.Proofs.Ytehlcljachkgdaa.Boot
open Go.RowKit Go.Proofs.YtehlcljachkgdaaW.PrintWords Go.Proofs.YtehlcljachkgdaaW.PrintLast Go.Proofs.Ytehlcljachkgdaa.Kit
attribute [local go_sem ↓] ldI ldM
attribute [local go_sem] ldI_run ldM_run
def Says (I : Array Value) (m : Bool) : Prop := ∀ w : World, Calls Try.prog 49 #[.agg I] w fun e w' => e = .returned (.bool m) ∧ Below w.heap.size w w'

set_option maxHeartbeats 8000000 in
theorem right_any0 (cs : Array Value) (mn ph got tr : Int) (I0 I1 C : Array Value) (m0 m1 mC b p : Bool) (v s : Int) (h : MetIs cs 0 mn ph got tr I0 I1 C) (h0 : Says I0 m0) (h1 : Says I1 m1) (hC : Says C mC) (hn : ImgIs I0 v s b) (hp : mC = true → ∀ w : World, Calls Try.prog 51 #[.agg cs] w fun e w' => e = .returned (.bool p) ∧ Below w.heap.size w w') (w : World) : Calls Try.prog 25 #[.agg cs] w fun e w' => e = .returned (.bool (m0 && (m1 && (mC && (!b && (decide (0 ≤ mn ∧ mn ≤ 1073741824 ∧ 0 ≤ got ∧ got ≤ 6 ∧ 0 ≤ tr ∧ tr ≤ 2) && p)))))) ∧ Below w.heap.size w w' := by
  have hb1 := below_alloc1 w (.cells cs 52)
  have B1 := Box.new w cs 52
  have r1 := B1.row
  have c1 := (B1.cell 0).trans h.a
  have sz := h.size
  have le1 : 1 + 34 ≤ cs.size := by omega
  have le2 : 35 + 34 ≤ cs.size := by omega
  have le3 : 71 + 34 ≤ cs.size := by omega
  have le0 : 0 + 107 ≤ cs.size := by omega
  have e107 : cs.extract 0 107 = cs := by rw [← sz]; exact Array.extract_size
  have e0 := h.e0
  have e1 := h.e1
  have eC := h.eC
  have HB := Lib.hid hb1
  have H := Lib.hid h
  have HX := Lib.hid B1
  clear h hb1 B1
  go_enter Try.func25, Try.ntmps25
  go_wp2_with fail
  refine (h0 _).mono ?_
  rintro e w2 ⟨rfl, hb⟩
  have HX := Lib.hid (HX.out.below hb)
  have HB := Lib.hid (HB.out.trans (hb.mono HB.out.size))
  have r2 := HX.out.row
  have c2 := (HX.out.cell 0).trans H.out.a
  clear r1 c1 hb
  cases m0 with
  | false =>
    go_wp2_with fail
    go_ret
    exact ⟨rfl, HB.out⟩
  | true =>
    go_wp2_with fail
    refine (h1 _).mono ?_
    rintro e w3 ⟨rfl, hb⟩
    have HX := Lib.hid (HX.out.below hb)
    have HB := Lib.hid (HB.out.trans (hb.mono HB.out.size))
    have r3 := HX.out.row
    have c3 := (HX.out.cell 0).trans H.out.a
    clear r2 c2 hb
    cases m1 with
    | false =>
      go_wp2_with fail
      go_ret
      exact ⟨rfl, HB.out⟩
    | true =>
      go_wp2_with fail
      refine (hC _).mono ?_
      rintro e w4 ⟨rfl, hb⟩
      have HX := Lib.hid (HX.out.below hb)
      have HB := Lib.hid (HB.out.trans (hb.mono HB.out.size))
      have r4 := HX.out.row
      have c4 := (HX.out.cell 0).trans H.out.a
      clear r3 c3 hb
      cases mC with
      | false =>
        go_wp2_with fail
        go_ret
        exact ⟨rfl, HB.out⟩
      | true =>
        go_wp2_with fail
        refine (none_calls I0 v s b hn _).mono ?_
        rintro e w5 ⟨rfl, hb⟩
        have HX := Lib.hid (HX.out.below hb)
        have HB := Lib.hid (HB.out.trans (hb.mono HB.out.size))
        have r5 := HX.out.row
        have c69 := (HX.out.cell 69).trans H.out.mn
        have c105 := (HX.out.cell 105).trans H.out.got
        have c106 := (HX.out.cell 106).trans H.out.tr
        clear r4 c4 hb
        cases b with
        | true =>
          go_wp2_with fail
          go_ret
          exact ⟨rfl, HB.out⟩
        | false =>
          by_cases hr : 0 ≤ mn ∧ mn ≤ 1073741824 ∧ 0 ≤ got ∧ got ≤ 6 ∧ 0 ≤ tr ∧ tr ≤ 2
          · have HR := Lib.hid (decide_eq_true hr)
            obtain ⟨b1, b2, b3, b4, b5, b6⟩ := hr
            go_wp2_with fail
            refine (hp (by trivial) _).mono ?_
            rintro e w6 ⟨rfl, hb⟩
            go_wp2_with fail
            go_ret
            refine ⟨?_, HB.out.trans (hb.mono HB.out.size)⟩
            rw [HR.out]
            rfl
          · have HR := Lib.hid (decide_eq_false hr)
            go_wp2_with fail
            all_goals first
              | (exfalso; omega)
              | (go_ret; refine ⟨?_, HB.out⟩; first | (rw [HR.out]; rfl) | (simp; done) | (simp; omega))

set_option maxHeartbeats 8000000 in
theorem right_any1 (cs : Array Value) (mn ph got tr : Int) (I0 I1 C : Array Value) (m0 m1 mC b p : Bool) (v s : Int) (h : MetIs cs 1 mn ph got tr I0 I1 C) (h0 : Says I0 m0) (h1 : Says I1 m1) (hC : Says C mC) (hn : ImgIs I1 v s b) (hp : mC = true → ∀ w : World, Calls Try.prog 51 #[.agg cs] w fun e w' => e = .returned (.bool p) ∧ Below w.heap.size w w') (w : World) : Calls Try.prog 25 #[.agg cs] w fun e w' => e = .returned (.bool (m0 && (m1 && (mC && (!b && (decide (0 ≤ mn ∧ mn ≤ 1073741824 ∧ 0 ≤ got ∧ got ≤ 6 ∧ 0 ≤ tr ∧ tr ≤ 2) && p)))))) ∧ Below w.heap.size w w' := by
  have hb1 := below_alloc1 w (.cells cs 52)
  have B1 := Box.new w cs 52
  have r1 := B1.row
  have c1 := (B1.cell 0).trans h.a
  have sz := h.size
  have le1 : 1 + 34 ≤ cs.size := by omega
  have le2 : 35 + 34 ≤ cs.size := by omega
  have le3 : 71 + 34 ≤ cs.size := by omega
  have le0 : 0 + 107 ≤ cs.size := by omega
  have e107 : cs.extract 0 107 = cs := by rw [← sz]; exact Array.extract_size
  have e0 := h.e0
  have e1 := h.e1
  have eC := h.eC
  have HB := Lib.hid hb1
  have H := Lib.hid h
  have HX := Lib.hid B1
  clear h hb1 B1
  go_enter Try.func25, Try.ntmps25
  go_wp2_with fail
  refine (h0 _).mono ?_
  rintro e w2 ⟨rfl, hb⟩
  have HX := Lib.hid (HX.out.below hb)
  have HB := Lib.hid (HB.out.trans (hb.mono HB.out.size))
  have r2 := HX.out.row
  have c2 := (HX.out.cell 0).trans H.out.a
  clear r1 c1 hb
  cases m0 with
  | false =>
    go_wp2_with fail
    go_ret
    exact ⟨rfl, HB.out⟩
  | true =>
    go_wp2_with fail
    refine (h1 _).mono ?_
    rintro e w3 ⟨rfl, hb⟩
    have HX := Lib.hid (HX.out.below hb)
    have HB := Lib.hid (HB.out.trans (hb.mono HB.out.size))
    have r3 := HX.out.row
    have c3 := (HX.out.cell 0).trans H.out.a
    clear r2 c2 hb
    cases m1 with
    | false =>
      go_wp2_with fail
      go_ret
      exact ⟨rfl, HB.out⟩
    | true =>
      go_wp2_with fail
      refine (hC _).mono ?_
      rintro e w4 ⟨rfl, hb⟩
      have HX := Lib.hid (HX.out.below hb)
      have HB := Lib.hid (HB.out.trans (hb.mono HB.out.size))
      have r4 := HX.out.row
      have c4 := (HX.out.cell 0).trans H.out.a
      clear r3 c3 hb
      cases mC with
      | false =>
        go_wp2_with fail
        go_ret
        exact ⟨rfl, HB.out⟩
      | true =>
        go_wp2_with fail
        refine (none_calls I1 v s b hn _).mono ?_
        rintro e w5 ⟨rfl, hb⟩
        have HX := Lib.hid (HX.out.below hb)
        have HB := Lib.hid (HB.out.trans (hb.mono HB.out.size))
        have r5 := HX.out.row
        have c69 := (HX.out.cell 69).trans H.out.mn
        have c105 := (HX.out.cell 105).trans H.out.got
        have c106 := (HX.out.cell 106).trans H.out.tr
        clear r4 c4 hb
        cases b with
        | true =>
          go_wp2_with fail
          go_ret
          exact ⟨rfl, HB.out⟩
        | false =>
          by_cases hr : 0 ≤ mn ∧ mn ≤ 1073741824 ∧ 0 ≤ got ∧ got ≤ 6 ∧ 0 ≤ tr ∧ tr ≤ 2
          · have HR := Lib.hid (decide_eq_true hr)
            obtain ⟨b1, b2, b3, b4, b5, b6⟩ := hr
            go_wp2_with fail
            refine (hp (by trivial) _).mono ?_
            rintro e w6 ⟨rfl, hb⟩
            go_wp2_with fail
            go_ret
            refine ⟨?_, HB.out.trans (hb.mono HB.out.size)⟩
            rw [HR.out]
            rfl
          · have HR := Lib.hid (decide_eq_false hr)
            go_wp2_with fail
            all_goals first
              | (exfalso; omega)
              | (go_ret; refine ⟨?_, HB.out⟩; first | (rw [HR.out]; rfl) | (simp; done) | (simp; omega))

set_option maxHeartbeats 4000000 in
theorem right_out (cs : Array Value) (a mn ph got tr : Int) (I0 I1 C : Array Value) (h : MetIs cs a mn ph got tr I0 I1 C) (ha : a < 0 ∨ 1 < a) (w : World) : Calls Try.prog 25 #[.agg cs] w fun e w' => e = .returned (.bool false) ∧ Below w.heap.size w w' := by
  have hb1 := below_alloc1 w (.cells cs 52)
  have B1 := Box.new w cs 52
  have c1 := (B1.cell 0).trans h.a
  clear B1 h
  have HB := Lib.hid hb1
  clear hb1
  rcases ha with ha | ha
  · go_enter Try.func25, Try.ntmps25
    go_wp2_with fail
    go_ret
    exact ⟨rfl, HB.out⟩
  · have ha0 : ¬ a < 0 := by omega
    go_enter Try.func25, Try.ntmps25
    go_wp2_with fail
    go_ret
    exact ⟨rfl, HB.out⟩
set_option maxHeartbeats 4000000 in
theorem phase_out (cs : Array Value) (a mn ph got tr : Int) (I0 I1 C : Array Value) (h : MetIs cs a mn ph got tr I0 I1 C) (n0 : ph ≠ 0) (n1 : ph ≠ 1) (n2 : ph ≠ 2) (n3 : ph ≠ 3) (w : World) : Calls Try.prog 51 #[.agg cs] w fun e w' => e = .returned (.bool false) ∧ Below w.heap.size w w' := by
  have hb1 := below_alloc1 w (.cells cs 52)
  have B1 := Box.new w cs 52
  have c70 := (B1.cell 70).trans h.ph
  have q0 : (ph == 0) = false := beq_eq_false_iff_ne.2 n0
  have q1 : (ph == 1) = false := beq_eq_false_iff_ne.2 n1
  have q2 : (ph == 2) = false := beq_eq_false_iff_ne.2 n2
  have q3 : (ph == 3) = false := beq_eq_false_iff_ne.2 n3
  have HB := Lib.hid hb1
  clear hb1 B1 h
  go_enter Try.func51, Try.ntmps51
  go_wp2_with fail
  go_ret
  exact ⟨rfl, HB.out⟩
end Go.Proofs.Ytehlcljachkgdaa.Boot
