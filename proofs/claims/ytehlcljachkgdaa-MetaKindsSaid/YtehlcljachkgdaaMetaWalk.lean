/- Walks: what meta says of any image, and of any Meta. -/
import Derived.Test.YtehlcljachkgdaaBootWalk
namespace Go.Proofs.Ytehlcljachkgdaa.Boot
open Go.RowKit Go.Proofs.YtehlcljachkgdaaW.PrintWords Go.Proofs.YtehlcljachkgdaaW.PrintLast Go.Proofs.Ytehlcljachkgdaa.Kit
attribute [local go_sem ↓] ldI ldM
attribute [local go_sem] ldI_run ldM_run

/-- may an image be? b: it is none -/
def mayB (v s : Int) (b : Bool) : Bool := if v = 0 ∨ s = 0 then b else decide (0 < v ∧ v ≤ 1073741824 ∧ 0 < s ∧ s ≤ 1920)

set_option maxHeartbeats 4000000 in
theorem image_calls (I : Array Value) (v s : Int) (b : Bool) (h : ImgIs I v s b) (w : World) : Calls Try.prog 49 #[.agg I] w fun e w' => e = .returned (.bool (mayB v s b)) ∧ Below w.heap.size w w' := by
  have h1 : Kit.rowAt (w.alloc (.cells I 49)) w.heap.size = I := Kit.rowAt_new _ _ _ _
  have h2 : I.extract 0 34 = I := by have := h.size; rw [← this]; exact Array.extract_size
  have h3 : 0 + 34 ≤ I.size := by rw [h.size]; decide
  have hb1 := below_alloc1 w (.cells I 49)
  have c0 : (w.alloc (.cells I 49)).cell? ⟨w.heap.size, 0, none⟩ = some (.int .i64 v) := by rw [World.cell?_alloc_new]; exact h.v
  have c1 : (w.alloc (.cells I 49)).cell? ⟨w.heap.size, 1, none⟩ = some (.int .i64 s) := by rw [World.cell?_alloc_new]; exact h.s
  have HB := Lib.hid hb1
  have H := Lib.hid h
  clear h hb1
  by_cases hz : v = 0 ∨ s = 0
  · have hm : mayB v s b = b := by unfold mayB; rw [if_pos hz]
    have HM := Lib.hid hm
    clear hm
    rcases (by omega : v = 0 ∨ (v ≠ 0 ∧ s = 0)) with hv | ⟨hv, hs⟩
    · have v0 : (v == 0) = true := beq_iff_eq.2 hv
      go_enter Try.func49, Try.ntmps49
      go_wp2_with fail
      refine (none_calls I v s b H.out _).mono ?_
      rintro e w2 ⟨rfl, hb2⟩
      go_wp2_with fail
      go_ret
      exact ⟨by rw [HM.out]; rfl, HB.out.trans (hb2.mono HB.out.size)⟩
    · have v0 : (v == 0) = false := beq_eq_false_iff_ne.2 hv
      have s0 : (s == 0) = true := beq_iff_eq.2 hs
      go_enter Try.func49, Try.ntmps49
      go_wp2_with fail
      refine (none_calls I v s b H.out _).mono ?_
      rintro e w2 ⟨rfl, hb2⟩
      go_wp2_with fail
      go_ret
      exact ⟨by rw [HM.out]; rfl, HB.out.trans (hb2.mono HB.out.size)⟩
  · have hm : mayB v s b = decide (0 < v ∧ v ≤ 1073741824 ∧ 0 < s ∧ s ≤ 1920) := by unfold mayB; rw [if_neg hz]
    have HM := Lib.hid hm
    have v0 : (v == 0) = false := beq_eq_false_iff_ne.2 (by omega)
    have s0 : (s == 0) = false := beq_eq_false_iff_ne.2 (by omega)
    clear hm
    go_enter Try.func49, Try.ntmps49
    go_wp2_with fail
    all_goals
      go_ret
      exact ⟨by rw [HM.out]; exact congrArg (fun x => Ending.returned (Value.bool x)) (by first | exact decide_eq_decide.2 ⟨fun _ => by omega, fun _ => by omega⟩ | exact (decide_eq_false (by omega)).symm), HB.out⟩

set_option maxHeartbeats 2000000 in
theorem chunks_calls (I : Array Value) (v s : Int) (b : Bool) (h : ImgIs I v s b) (h0 : 0 ≤ s) (h1 : s ≤ 1920) (w : World) : Calls Try.prog 61 #[.agg I] w fun e w' => e = .returned (.int .i64 ((s + 319) / 320)) ∧ Below w.heap.size w w' := by
  have hb1 := below_alloc1 w (.cells I 49)
  have c1 : (w.alloc (.cells I 49)).cell? ⟨w.heap.size, 1, none⟩ = some (.int .i64 s) := by rw [World.cell?_alloc_new]; exact h.s
  have HB := Lib.hid hb1
  clear h hb1
  go_enter Try.func61, Try.ntmps61
  go_wp2_with fail
  go_ret
  refine ⟨?_, HB.out⟩
  rw [show s + 320 - 1 = s + 319 by omega]
  rfl

/-- what phase says: bC: nothing comes, bO: the other slot is empty, k: chunks -/
def phaseB (ph got tr k : Int) (bC bO : Bool) : Bool :=
  if ph = 0 then bC && (decide (got = 0) && decide (tr = 0))
  else if ph = 1 then !bC && (bO && (decide (tr = 0) && decide (got ≤ k)))
  else if ph = 2 then !bC && (bO && (decide (tr = 0) && decide (got = k)))
  else if ph = 3 then bC && (decide (got = 0) && !bO)
  else false
/-- none of the other slot, for either -/
theorem phase_0 (cs : Array Value) (a mn got tr : Int) (I0 I1 C : Array Value) (vC sC : Int) (bC : Bool) (h : MetIs cs a mn 0 got tr I0 I1 C) (hC : ImgIs C vC sC bC) (w : World) : Calls Try.prog 51 #[.agg cs] w fun e w' => e = .returned (.bool (bC && (decide (got = 0) && decide (tr = 0)))) ∧ Below w.heap.size w w' := by
  have hb1 := below_alloc1 w (.cells cs 52)
  have B1 := Box.new w cs 52
  have r0 := B1.row
  have c70 := (B1.cell 70).trans h.ph
  have sz := h.size
  have le1 : 71 + 34 ≤ cs.size := by omega
  have eC := h.eC
  have HB := Lib.hid hb1
  have H := Lib.hid h
  have HX := Lib.hid B1
  clear h hb1 B1
  go_enter Try.func51, Try.ntmps51
  go_wp2_with fail
  refine (none_calls C vC sC bC hC _).mono ?_
  rintro e w2 ⟨rfl, hb2⟩
  have B2 := HX.out.below hb2
  have c105 := (B2.cell 105).trans H.out.got
  have c106 := (B2.cell 106).trans H.out.tr
  have HB2 := Lib.hid (HB.out.trans (hb2.mono HB.out.size))
  clear r0 c70 hb2 B2
  cases bC with
  | false =>
    go_wp2_with fail
    go_ret
    exact ⟨rfl, HB2.out⟩
  | true =>
    by_cases hg : got = 0
    · have g0 : (got == 0) = true := beq_iff_eq.2 hg
      go_wp2_with fail
      go_ret
      refine ⟨?_, HB2.out⟩
      rw [decide_eq_true hg]
      rfl
    · have g0 : (got == 0) = false := beq_eq_false_iff_ne.2 hg
      go_wp2_with fail
      go_ret
      refine ⟨?_, HB2.out⟩
      rw [decide_eq_false hg]
      rfl

set_option maxHeartbeats 4000000 in
theorem phase_30 (cs : Array Value) (mn got tr : Int) (I0 I1 C : Array Value) (vC sC vO sO : Int) (bC bO : Bool) (h : MetIs cs 0 mn 3 got tr I0 I1 C) (hC : ImgIs C vC sC bC) (hO : ImgIs I1 vO sO bO) (w : World) : Calls Try.prog 51 #[.agg cs] w fun e w' => e = .returned (.bool (bC && (decide (got = 0) && !bO))) ∧ Below w.heap.size w w' := by
  have hb1 := below_alloc1 w (.cells cs 52)
  have B1 := Box.new w cs 52
  have r0 := B1.row
  have c70 := (B1.cell 70).trans h.ph
  have sz := h.size
  have le0 : 0 + 107 ≤ cs.size := by omega
  have e107 : cs.extract 0 107 = cs := by rw [← sz]; exact Array.extract_size
  have le1 : 71 + 34 ≤ cs.size := by omega
  have le2 : 1 + 34 ≤ cs.size := by omega
  have le3 : 35 + 34 ≤ cs.size := by omega
  have eC := h.eC
  have e0 := h.e0
  have e1 := h.e1
  have HB := Lib.hid hb1
  have H := Lib.hid h
  have HX := Lib.hid B1
  clear h hb1 B1
  go_enter Try.func51, Try.ntmps51
  go_wp2_with fail
  refine (none_calls C vC sC bC hC _).mono ?_
  rintro e w2 ⟨rfl, hb2⟩
  have HX := Lib.hid (HX.out.below hb2)
  have HB := Lib.hid (HB.out.trans (hb2.mono HB.out.size))
  have r1 := HX.out.row
  have c105 := (HX.out.cell 105).trans H.out.got
  clear r0 c70 hb2
  cases bC with
  | false =>
    go_wp2_with fail
    go_ret
    exact ⟨rfl, HB.out⟩
  | true =>
    by_cases hg : got = 0
    · have g0 : (got == 0) = true := beq_iff_eq.2 hg
      have HG := Lib.hid hg
      clear hg
      go_wp2_with fail
      refine (other_calls cs 0 mn 3 got tr I0 I1 C H.out (by decide) (by decide) _).mono ?_
      rintro e w3 ⟨rfl, hb3⟩
      have HX := Lib.hid (HX.out.below hb3)
      have HB := Lib.hid (HB.out.trans (hb3.mono HB.out.size))
      have r2 := HX.out.row
      clear r1 c105 hb3
      go_wp2_with fail
      refine (none_calls I1 vO sO bO hO _).mono ?_
      rintro e w4 ⟨rfl, hb4⟩
      go_wp2_with fail
      go_ret
      refine ⟨?_, HB.out.trans (hb4.mono HB.out.size)⟩
      rw [decide_eq_true HG.out]
      rfl
    · have g0 : (got == 0) = false := beq_eq_false_iff_ne.2 hg
      go_wp2_with fail
      go_ret
      refine ⟨?_, HB.out⟩
      rw [decide_eq_false hg]
      rfl

set_option maxHeartbeats 4000000 in
theorem phase_31 (cs : Array Value) (mn got tr : Int) (I0 I1 C : Array Value) (vC sC vO sO : Int) (bC bO : Bool) (h : MetIs cs 1 mn 3 got tr I0 I1 C) (hC : ImgIs C vC sC bC) (hO : ImgIs I0 vO sO bO) (w : World) : Calls Try.prog 51 #[.agg cs] w fun e w' => e = .returned (.bool (bC && (decide (got = 0) && !bO))) ∧ Below w.heap.size w w' := by
  have hb1 := below_alloc1 w (.cells cs 52)
  have B1 := Box.new w cs 52
  have r0 := B1.row
  have c70 := (B1.cell 70).trans h.ph
  have sz := h.size
  have le0 : 0 + 107 ≤ cs.size := by omega
  have e107 : cs.extract 0 107 = cs := by rw [← sz]; exact Array.extract_size
  have le1 : 71 + 34 ≤ cs.size := by omega
  have le2 : 1 + 34 ≤ cs.size := by omega
  have le3 : 35 + 34 ≤ cs.size := by omega
  have eC := h.eC
  have e0 := h.e0
  have e1 := h.e1
  have HB := Lib.hid hb1
  have H := Lib.hid h
  have HX := Lib.hid B1
  clear h hb1 B1
  go_enter Try.func51, Try.ntmps51
  go_wp2_with fail
  refine (none_calls C vC sC bC hC _).mono ?_
  rintro e w2 ⟨rfl, hb2⟩
  have HX := Lib.hid (HX.out.below hb2)
  have HB := Lib.hid (HB.out.trans (hb2.mono HB.out.size))
  have r1 := HX.out.row
  have c105 := (HX.out.cell 105).trans H.out.got
  clear r0 c70 hb2
  cases bC with
  | false =>
    go_wp2_with fail
    go_ret
    exact ⟨rfl, HB.out⟩
  | true =>
    by_cases hg : got = 0
    · have g0 : (got == 0) = true := beq_iff_eq.2 hg
      have HG := Lib.hid hg
      clear hg
      go_wp2_with fail
      refine (other_calls cs 1 mn 3 got tr I0 I1 C H.out (by decide) (by decide) _).mono ?_
      rintro e w3 ⟨rfl, hb3⟩
      have HX := Lib.hid (HX.out.below hb3)
      have HB := Lib.hid (HB.out.trans (hb3.mono HB.out.size))
      have r2 := HX.out.row
      clear r1 c105 hb3
      go_wp2_with fail
      refine (none_calls I0 vO sO bO hO _).mono ?_
      rintro e w4 ⟨rfl, hb4⟩
      go_wp2_with fail
      go_ret
      refine ⟨?_, HB.out.trans (hb4.mono HB.out.size)⟩
      rw [decide_eq_true HG.out]
      rfl
    · have g0 : (got == 0) = false := beq_eq_false_iff_ne.2 hg
      go_wp2_with fail
      go_ret
      refine ⟨?_, HB.out⟩
      rw [decide_eq_false hg]
      rfl

set_option maxHeartbeats 4000000 in
theorem phase_10 (cs : Array Value) (mn got tr : Int) (I0 I1 C : Array Value) (vC sC vO sO : Int) (bC bO : Bool) (h : MetIs cs 0 mn 1 got tr I0 I1 C) (hC : ImgIs C vC sC bC) (hs0 : 0 ≤ sC) (hs1 : sC ≤ 1920) (hO : ImgIs I1 vO sO bO) (w : World) : Calls Try.prog 51 #[.agg cs] w fun e w' => e = .returned (.bool (!bC && (bO && (decide (tr = 0) && decide (got ≤ (sC + 319) / 320))))) ∧ Below w.heap.size w w' := by
  have hb1 := below_alloc1 w (.cells cs 52)
  have B1 := Box.new w cs 52
  have r0 := B1.row
  have c70 := (B1.cell 70).trans h.ph
  have sz := h.size
  have le0 : 0 + 107 ≤ cs.size := by omega
  have e107 : cs.extract 0 107 = cs := by rw [← sz]; exact Array.extract_size
  have le1 : 71 + 34 ≤ cs.size := by omega
  have le2 : 1 + 34 ≤ cs.size := by omega
  have le3 : 35 + 34 ≤ cs.size := by omega
  have eC := h.eC
  have e0 := h.e0
  have e1 := h.e1
  have HB := Lib.hid hb1
  have H := Lib.hid h
  have HX := Lib.hid B1
  clear h hb1 B1
  obtain ⟨k, hk⟩ : ∃ k, k = (sC + 319) / 320 := ⟨_, rfl⟩
  rw [← hk]
  go_enter Try.func51, Try.ntmps51
  go_wp2_with fail
  refine (chunks_calls C vC sC bC hC hs0 hs1 _).mono ?_
  rintro e w2 ⟨rfl, hb2⟩
  rw [← hk]
  have HX := Lib.hid (HX.out.below hb2)
  have HB := Lib.hid (HB.out.trans (hb2.mono HB.out.size))
  have r1 := HX.out.row
  clear r0 c70 hb2 hk hs0 hs1
  go_wp2_with fail
  refine (none_calls C vC sC bC hC _).mono ?_
  rintro e w3 ⟨rfl, hb2⟩
  have HX := Lib.hid (HX.out.below hb2)
  have HB := Lib.hid (HB.out.trans (hb2.mono HB.out.size))
  have r2 := HX.out.row
  clear r1 hb2
  cases bC with
  | true =>
    go_wp2_with fail
    go_ret
    exact ⟨rfl, HB.out⟩
  | false =>
    go_wp2_with fail
    refine (other_calls cs 0 mn 1 got tr I0 I1 C H.out (by decide) (by decide) _).mono ?_
    rintro e w4 ⟨rfl, hb3⟩
    have HX := Lib.hid (HX.out.below hb3)
    have HB := Lib.hid (HB.out.trans (hb3.mono HB.out.size))
    have r3 := HX.out.row
    clear r2 hb3
    go_wp2_with fail
    refine (none_calls I1 vO sO bO hO _).mono ?_
    rintro e w5 ⟨rfl, hb4⟩
    have HX := Lib.hid (HX.out.below hb4)
    have HB := Lib.hid (HB.out.trans (hb4.mono HB.out.size))
    have c70 := (HX.out.cell 70).trans H.out.ph
    have c105 := (HX.out.cell 105).trans H.out.got
    have c106 := (HX.out.cell 106).trans H.out.tr
    clear r3 hb4
    cases bO with
    | false =>
      go_wp2_with fail
      go_ret
      exact ⟨rfl, HB.out⟩
    | true =>
      by_cases ht : tr = 0
      · have t0 : (tr == 0) = true := beq_iff_eq.2 ht
        have HT := Lib.hid (show decide (tr = 0) = true from decide_eq_true ht)
        by_cases hg : got = k
        · have g0 : (got == k) = true := beq_iff_eq.2 hg
          have HD := Lib.hid (show decide (got ≤ k) = true from decide_eq_true (by omega))
          clear hg ht
          go_wp2_with fail
          go_ret
          refine ⟨?_, HB.out⟩
          rw [HT.out, HD.out]
          rfl
        · have g0 : (got == k) = false := beq_eq_false_iff_ne.2 hg
          have HD := Lib.hid (show decide (got ≤ k) = decide (got < k) from decide_eq_decide.2 ⟨fun _ => by omega, fun _ => by omega⟩)
          clear hg ht
          go_wp2_with fail
          go_ret
          refine ⟨?_, HB.out⟩
          rw [HT.out, HD.out]
          rfl
      · have t0 : (tr == 0) = false := beq_eq_false_iff_ne.2 ht
        have HT := Lib.hid (show decide (tr = 0) = false from decide_eq_false ht)
        clear ht
        go_wp2_with fail
        go_ret
        refine ⟨?_, HB.out⟩
        rw [HT.out]
        rfl

set_option maxHeartbeats 4000000 in
theorem phase_11 (cs : Array Value) (mn got tr : Int) (I0 I1 C : Array Value) (vC sC vO sO : Int) (bC bO : Bool) (h : MetIs cs 1 mn 1 got tr I0 I1 C) (hC : ImgIs C vC sC bC) (hs0 : 0 ≤ sC) (hs1 : sC ≤ 1920) (hO : ImgIs I0 vO sO bO) (w : World) : Calls Try.prog 51 #[.agg cs] w fun e w' => e = .returned (.bool (!bC && (bO && (decide (tr = 0) && decide (got ≤ (sC + 319) / 320))))) ∧ Below w.heap.size w w' := by
  have hb1 := below_alloc1 w (.cells cs 52)
  have B1 := Box.new w cs 52
  have r0 := B1.row
  have c70 := (B1.cell 70).trans h.ph
  have sz := h.size
  have le0 : 0 + 107 ≤ cs.size := by omega
  have e107 : cs.extract 0 107 = cs := by rw [← sz]; exact Array.extract_size
  have le1 : 71 + 34 ≤ cs.size := by omega
  have le2 : 1 + 34 ≤ cs.size := by omega
  have le3 : 35 + 34 ≤ cs.size := by omega
  have eC := h.eC
  have e0 := h.e0
  have e1 := h.e1
  have HB := Lib.hid hb1
  have H := Lib.hid h
  have HX := Lib.hid B1
  clear h hb1 B1
  obtain ⟨k, hk⟩ : ∃ k, k = (sC + 319) / 320 := ⟨_, rfl⟩
  rw [← hk]
  go_enter Try.func51, Try.ntmps51
  go_wp2_with fail
  refine (chunks_calls C vC sC bC hC hs0 hs1 _).mono ?_
  rintro e w2 ⟨rfl, hb2⟩
  rw [← hk]
  have HX := Lib.hid (HX.out.below hb2)
  have HB := Lib.hid (HB.out.trans (hb2.mono HB.out.size))
  have r1 := HX.out.row
  clear r0 c70 hb2 hk hs0 hs1
  go_wp2_with fail
  refine (none_calls C vC sC bC hC _).mono ?_
  rintro e w3 ⟨rfl, hb2⟩
  have HX := Lib.hid (HX.out.below hb2)
  have HB := Lib.hid (HB.out.trans (hb2.mono HB.out.size))
  have r2 := HX.out.row
  clear r1 hb2
  cases bC with
  | true =>
    go_wp2_with fail
    go_ret
    exact ⟨rfl, HB.out⟩
  | false =>
    go_wp2_with fail
    refine (other_calls cs 1 mn 1 got tr I0 I1 C H.out (by decide) (by decide) _).mono ?_
    rintro e w4 ⟨rfl, hb3⟩
    have HX := Lib.hid (HX.out.below hb3)
    have HB := Lib.hid (HB.out.trans (hb3.mono HB.out.size))
    have r3 := HX.out.row
    clear r2 hb3
    go_wp2_with fail
    refine (none_calls I0 vO sO bO hO _).mono ?_
    rintro e w5 ⟨rfl, hb4⟩
    have HX := Lib.hid (HX.out.below hb4)
    have HB := Lib.hid (HB.out.trans (hb4.mono HB.out.size))
    have c70 := (HX.out.cell 70).trans H.out.ph
    have c105 := (HX.out.cell 105).trans H.out.got
    have c106 := (HX.out.cell 106).trans H.out.tr
    clear r3 hb4
    cases bO with
    | false =>
      go_wp2_with fail
      go_ret
      exact ⟨rfl, HB.out⟩
    | true =>
      by_cases ht : tr = 0
      · have t0 : (tr == 0) = true := beq_iff_eq.2 ht
        have HT := Lib.hid (show decide (tr = 0) = true from decide_eq_true ht)
        by_cases hg : got = k
        · have g0 : (got == k) = true := beq_iff_eq.2 hg
          have HD := Lib.hid (show decide (got ≤ k) = true from decide_eq_true (by omega))
          clear hg ht
          go_wp2_with fail
          go_ret
          refine ⟨?_, HB.out⟩
          rw [HT.out, HD.out]
          rfl
        · have g0 : (got == k) = false := beq_eq_false_iff_ne.2 hg
          have HD := Lib.hid (show decide (got ≤ k) = decide (got < k) from decide_eq_decide.2 ⟨fun _ => by omega, fun _ => by omega⟩)
          clear hg ht
          go_wp2_with fail
          go_ret
          refine ⟨?_, HB.out⟩
          rw [HT.out, HD.out]
          rfl
      · have t0 : (tr == 0) = false := beq_eq_false_iff_ne.2 ht
        have HT := Lib.hid (show decide (tr = 0) = false from decide_eq_false ht)
        clear ht
        go_wp2_with fail
        go_ret
        refine ⟨?_, HB.out⟩
        rw [HT.out]
        rfl

set_option maxHeartbeats 4000000 in
theorem phase_20 (cs : Array Value) (mn got tr : Int) (I0 I1 C : Array Value) (vC sC vO sO : Int) (bC bO : Bool) (h : MetIs cs 0 mn 2 got tr I0 I1 C) (hC : ImgIs C vC sC bC) (hs0 : 0 ≤ sC) (hs1 : sC ≤ 1920) (hO : ImgIs I1 vO sO bO) (w : World) : Calls Try.prog 51 #[.agg cs] w fun e w' => e = .returned (.bool (!bC && (bO && (decide (tr = 0) && decide (got = (sC + 319) / 320))))) ∧ Below w.heap.size w w' := by
  have hb1 := below_alloc1 w (.cells cs 52)
  have B1 := Box.new w cs 52
  have r0 := B1.row
  have c70 := (B1.cell 70).trans h.ph
  have sz := h.size
  have le0 : 0 + 107 ≤ cs.size := by omega
  have e107 : cs.extract 0 107 = cs := by rw [← sz]; exact Array.extract_size
  have le1 : 71 + 34 ≤ cs.size := by omega
  have le2 : 1 + 34 ≤ cs.size := by omega
  have le3 : 35 + 34 ≤ cs.size := by omega
  have eC := h.eC
  have e0 := h.e0
  have e1 := h.e1
  have HB := Lib.hid hb1
  have H := Lib.hid h
  have HX := Lib.hid B1
  clear h hb1 B1
  obtain ⟨k, hk⟩ : ∃ k, k = (sC + 319) / 320 := ⟨_, rfl⟩
  rw [← hk]
  go_enter Try.func51, Try.ntmps51
  go_wp2_with fail
  refine (chunks_calls C vC sC bC hC hs0 hs1 _).mono ?_
  rintro e w2 ⟨rfl, hb2⟩
  rw [← hk]
  have HX := Lib.hid (HX.out.below hb2)
  have HB := Lib.hid (HB.out.trans (hb2.mono HB.out.size))
  have r1 := HX.out.row
  clear r0 c70 hb2 hk hs0 hs1
  go_wp2_with fail
  refine (none_calls C vC sC bC hC _).mono ?_
  rintro e w3 ⟨rfl, hb2⟩
  have HX := Lib.hid (HX.out.below hb2)
  have HB := Lib.hid (HB.out.trans (hb2.mono HB.out.size))
  have r2 := HX.out.row
  clear r1 hb2
  cases bC with
  | true =>
    go_wp2_with fail
    go_ret
    exact ⟨rfl, HB.out⟩
  | false =>
    go_wp2_with fail
    refine (other_calls cs 0 mn 2 got tr I0 I1 C H.out (by decide) (by decide) _).mono ?_
    rintro e w4 ⟨rfl, hb3⟩
    have HX := Lib.hid (HX.out.below hb3)
    have HB := Lib.hid (HB.out.trans (hb3.mono HB.out.size))
    have r3 := HX.out.row
    clear r2 hb3
    go_wp2_with fail
    refine (none_calls I1 vO sO bO hO _).mono ?_
    rintro e w5 ⟨rfl, hb4⟩
    have HX := Lib.hid (HX.out.below hb4)
    have HB := Lib.hid (HB.out.trans (hb4.mono HB.out.size))
    have c70 := (HX.out.cell 70).trans H.out.ph
    have c105 := (HX.out.cell 105).trans H.out.got
    have c106 := (HX.out.cell 106).trans H.out.tr
    clear r3 hb4
    cases bO with
    | false =>
      go_wp2_with fail
      go_ret
      exact ⟨rfl, HB.out⟩
    | true =>
      by_cases ht : tr = 0
      · have t0 : (tr == 0) = true := beq_iff_eq.2 ht
        have HT := Lib.hid (show decide (tr = 0) = true from decide_eq_true ht)
        by_cases hg : got = k
        · have g0 : (got == k) = true := beq_iff_eq.2 hg
          have HD := Lib.hid (show decide (got = k) = true from decide_eq_true (by omega))
          clear hg ht
          go_wp2_with fail
          go_ret
          refine ⟨?_, HB.out⟩
          rw [HT.out, HD.out]
          rfl
        · have g0 : (got == k) = false := beq_eq_false_iff_ne.2 hg
          have HD := Lib.hid (show decide (got = k) = false from decide_eq_false hg)
          clear hg ht
          go_wp2_with fail
          go_ret
          refine ⟨?_, HB.out⟩
          rw [HT.out, HD.out]
          rfl
      · have t0 : (tr == 0) = false := beq_eq_false_iff_ne.2 ht
        have HT := Lib.hid (show decide (tr = 0) = false from decide_eq_false ht)
        clear ht
        go_wp2_with fail
        go_ret
        refine ⟨?_, HB.out⟩
        rw [HT.out]
        rfl

set_option maxHeartbeats 4000000 in
theorem phase_21 (cs : Array Value) (mn got tr : Int) (I0 I1 C : Array Value) (vC sC vO sO : Int) (bC bO : Bool) (h : MetIs cs 1 mn 2 got tr I0 I1 C) (hC : ImgIs C vC sC bC) (hs0 : 0 ≤ sC) (hs1 : sC ≤ 1920) (hO : ImgIs I0 vO sO bO) (w : World) : Calls Try.prog 51 #[.agg cs] w fun e w' => e = .returned (.bool (!bC && (bO && (decide (tr = 0) && decide (got = (sC + 319) / 320))))) ∧ Below w.heap.size w w' := by
  have hb1 := below_alloc1 w (.cells cs 52)
  have B1 := Box.new w cs 52
  have r0 := B1.row
  have c70 := (B1.cell 70).trans h.ph
  have sz := h.size
  have le0 : 0 + 107 ≤ cs.size := by omega
  have e107 : cs.extract 0 107 = cs := by rw [← sz]; exact Array.extract_size
  have le1 : 71 + 34 ≤ cs.size := by omega
  have le2 : 1 + 34 ≤ cs.size := by omega
  have le3 : 35 + 34 ≤ cs.size := by omega
  have eC := h.eC
  have e0 := h.e0
  have e1 := h.e1
  have HB := Lib.hid hb1
  have H := Lib.hid h
  have HX := Lib.hid B1
  clear h hb1 B1
  obtain ⟨k, hk⟩ : ∃ k, k = (sC + 319) / 320 := ⟨_, rfl⟩
  rw [← hk]
  go_enter Try.func51, Try.ntmps51
  go_wp2_with fail
  refine (chunks_calls C vC sC bC hC hs0 hs1 _).mono ?_
  rintro e w2 ⟨rfl, hb2⟩
  rw [← hk]
  have HX := Lib.hid (HX.out.below hb2)
  have HB := Lib.hid (HB.out.trans (hb2.mono HB.out.size))
  have r1 := HX.out.row
  clear r0 c70 hb2 hk hs0 hs1
  go_wp2_with fail
  refine (none_calls C vC sC bC hC _).mono ?_
  rintro e w3 ⟨rfl, hb2⟩
  have HX := Lib.hid (HX.out.below hb2)
  have HB := Lib.hid (HB.out.trans (hb2.mono HB.out.size))
  have r2 := HX.out.row
  clear r1 hb2
  cases bC with
  | true =>
    go_wp2_with fail
    go_ret
    exact ⟨rfl, HB.out⟩
  | false =>
    go_wp2_with fail
    refine (other_calls cs 1 mn 2 got tr I0 I1 C H.out (by decide) (by decide) _).mono ?_
    rintro e w4 ⟨rfl, hb3⟩
    have HX := Lib.hid (HX.out.below hb3)
    have HB := Lib.hid (HB.out.trans (hb3.mono HB.out.size))
    have r3 := HX.out.row
    clear r2 hb3
    go_wp2_with fail
    refine (none_calls I0 vO sO bO hO _).mono ?_
    rintro e w5 ⟨rfl, hb4⟩
    have HX := Lib.hid (HX.out.below hb4)
    have HB := Lib.hid (HB.out.trans (hb4.mono HB.out.size))
    have c70 := (HX.out.cell 70).trans H.out.ph
    have c105 := (HX.out.cell 105).trans H.out.got
    have c106 := (HX.out.cell 106).trans H.out.tr
    clear r3 hb4
    cases bO with
    | false =>
      go_wp2_with fail
      go_ret
      exact ⟨rfl, HB.out⟩
    | true =>
      by_cases ht : tr = 0
      · have t0 : (tr == 0) = true := beq_iff_eq.2 ht
        have HT := Lib.hid (show decide (tr = 0) = true from decide_eq_true ht)
        by_cases hg : got = k
        · have g0 : (got == k) = true := beq_iff_eq.2 hg
          have HD := Lib.hid (show decide (got = k) = true from decide_eq_true (by omega))
          clear hg ht
          go_wp2_with fail
          go_ret
          refine ⟨?_, HB.out⟩
          rw [HT.out, HD.out]
          rfl
        · have g0 : (got == k) = false := beq_eq_false_iff_ne.2 hg
          have HD := Lib.hid (show decide (got = k) = false from decide_eq_false hg)
          clear hg ht
          go_wp2_with fail
          go_ret
          refine ⟨?_, HB.out⟩
          rw [HT.out, HD.out]
          rfl
      · have t0 : (tr == 0) = false := beq_eq_false_iff_ne.2 ht
        have HT := Lib.hid (show decide (tr = 0) = false from decide_eq_false ht)
        clear ht
        go_wp2_with fail
        go_ret
        refine ⟨?_, HB.out⟩
        rw [HT.out]
        rfl
end Go.Proofs.Ytehlcljachkgdaa.Boot
