/- Walks: the reference's image, Chunks, RightMeta, of any Meta. -/
import Derived.Test.YtehlcljachkgdaaMetaRight
namespace Go.Proofs.Ytehlcljachkgdaa.Boot
open Go.RowKit Go.Proofs.YtehlcljachkgdaaW.PrintWords Go.Proofs.YtehlcljachkgdaaW.PrintLast Go.Proofs.Ytehlcljachkgdaa.Kit
attribute [local go_sem ↓] ldI ldM
attribute [local go_sem] ldI_run ldM_run
set_option linter.unusedSimpArgs false

/-- an image's numbers may be -/
def FineN (v s : Int) : Prop := 1 ≤ v ∧ v ≤ 1073741824 ∧ 1 ≤ s ∧ s ≤ 1920
instance (v s : Int) : Decidable (FineN v s) := by unfold FineN; exact inferInstance
set_option maxHeartbeats 4000000 in
theorem refimage (I : Array Value) (v s : Int) (b nn : Bool) (h : ImgIs I v s b) (w : World) : Calls Try.prog 40 #[.agg I, .bool nn] w fun e w' => e = .returned (.bool (b || (!nn && decide (FineN v s)))) ∧ Below w.heap.size w w' := by
  have h1 : Kit.rowAt (w.alloc (.cells I 49)) w.heap.size = I := Kit.rowAt_new _ _ _ _
  have h2 : I.extract 0 34 = I := by have := h.size; rw [← this]; exact Array.extract_size
  have h3 : 0 + 34 ≤ I.size := by rw [h.size]; decide
  have hb1 := below_alloc1 w (.cells I 49)
  have c0 : (w.alloc (.cells I 49)).cell? ⟨w.heap.size, 0, none⟩ = some (.int .i64 v) := by rw [World.cell?_alloc_new]; exact h.v
  have c1 : (w.alloc (.cells I 49)).cell? ⟨w.heap.size, 1, none⟩ = some (.int .i64 s) := by rw [World.cell?_alloc_new]; exact h.s
  have hE := h.eq
  have HB := Lib.hid hb1
  clear h hb1
  cases b with
  | true =>
    go_enter Try.func40, Try.ntmps40
    go_wp2_with fail
    go_ret
    exact ⟨rfl, HB.out⟩
  | false =>
    cases nn with
    | true =>
      go_enter Try.func40, Try.ntmps40
      go_wp2_with fail
      go_ret
      exact ⟨rfl, HB.out⟩
    | false =>
      by_cases hr : FineN v s
      · have HR := Lib.hid (decide_eq_true hr)
        obtain ⟨b1, b2, b3, b4⟩ := hr
        go_enter Try.func40, Try.ntmps40
        go_wp2_with fail
        go_ret
        exact ⟨by rw [HR.out]; rfl, HB.out⟩
      · have HR := Lib.hid (decide_eq_false hr)
        have HN := Lib.hid (show ¬ (1 ≤ v ∧ v ≤ 1073741824 ∧ 1 ≤ s ∧ s ≤ 1920) from hr)
        clear hr
        go_enter Try.func40, Try.ntmps40
        go_wp2_with fail
        all_goals first
          | (exfalso; have := HN.out; omega)
          | (go_ret; exact ⟨by rw [HR.out]; first | rfl | (simp; done) | (have := HN.out; simp; omega), HB.out⟩)

/-- how many chunks so many bytes are -/
def chunksR (s : Int) : Int := if s < 1 then 0 else (s - 1) / 320 + 1
theorem refchunks (s : Int) (w : World) (h0 : 0 ≤ s) (h1 : s ≤ 1920) : Calls Try.prog 41 #[.int .i64 s] w fun e w' => e = .returned (.int .i64 (chunksR s)) ∧ w = w' := by
  by_cases h : s < 1
  · have he : chunksR s = 0 := if_pos h
    have HE := Lib.hid he
    clear he
    go_enter Try.func41, Try.ntmps41
    go_wp2_with fail
    go_ret
    exact ⟨by rw [HE.out]; rfl, rfl⟩
  · have he : chunksR s = (s - 1) / 320 + 1 := if_neg h
    have HE := Lib.hid he
    have hb : 0 ≤ (s - 1) / 320 ∧ (s - 1) / 320 ≤ 6 := by omega
    obtain ⟨b1, b2⟩ := hb
    clear he
    go_enter Try.func41, Try.ntmps41
    go_wp2_with fail
    go_ret
    exact ⟨by rw [HE.out]; rfl, rfl⟩
/-- what the reference's RightMeta says of the phase: co: something comes, ot: the other slot has an image, k: chunks -/
def phaseR (ph got tr k : Int) (co ot : Bool) : Bool :=
  if ph = 0 then !co && (decide (got = 0) && decide (tr = 0))
  else if ph = 1 then co && (!ot && (decide (tr = 0) && decide (got ≤ k)))
  else if ph = 2 then co && (!ot && (decide (tr = 0) && decide (got = k)))
  else if ph = 3 then !co && (decide (got = 0) && ot)
  else false

set_option maxHeartbeats 16000000 in
set_option maxRecDepth 100000 in
theorem refright0 (cs : Array Value) (mn ph got tr : Int) (I0 I1 C : Array Value) (m0 m1 mC : Bool) (v0 v1 vC sC : Int) (h : MetIs cs 0 mn ph got tr I0 I1 C)
    (h0 : ∀ w : World, Calls Try.prog 40 #[.agg I0, .bool false] w fun e w' => e = .returned (.bool m0) ∧ Below w.heap.size w w')
    (h1 : ∀ w : World, Calls Try.prog 40 #[.agg I1, .bool false] w fun e w' => e = .returned (.bool m1) ∧ Below w.heap.size w w')
    (hC : ∀ w : World, Calls Try.prog 40 #[.agg C, .bool (!decide (0 < vC))] w fun e w' => e = .returned (.bool mC) ∧ Below w.heap.size w w')
    (e0 : cs[1]? = some (.int .i64 v0)) (e1 : cs[35]? = some (.int .i64 v1)) (eC : cs[71]? = some (.int .i64 vC)) (eS : cs[72]? = some (.int .i64 sC)) (hs : mC = true → 0 ≤ sC ∧ sC ≤ 1920) (w : World) :
    Calls Try.prog 21 #[.agg cs] w fun e w' => e = .returned (.bool (m0 && (m1 && (!decide (v0 = 0) && (decide (0 ≤ mn ∧ mn ≤ 1073741824 ∧ 0 ≤ got ∧ got ≤ 6 ∧ 0 ≤ tr ∧ tr ≤ 2) && (mC && phaseR ph got tr (chunksR sC) (decide (0 < vC)) (decide (0 < v1)))))))) ∧ Below w.heap.size w w' := by
  have hb1 := below_alloc1 w (.cells cs 52)
  have B1 := Box.new w cs 52
  have r1 := B1.row
  have c1 := (B1.cell 0).trans h.a
  have sz := h.size
  have le1 : 1 + 34 ≤ cs.size := by omega
  have le2 : 35 + 34 ≤ cs.size := by omega
  have le3 : 71 + 34 ≤ cs.size := by omega
  have le0 : 0 + 107 ≤ cs.size := by omega
  have e107 : cs.extract 0 107 = cs := by rw [← sz]; exact Array.extract_size
  have x0 := h.e0
  have x1 := h.e1
  have xC := h.eC
  have HB := Lib.hid hb1
  have H := Lib.hid h
  have HX := Lib.hid B1
  have E0 := Lib.hid e0
  have E1 := Lib.hid e1
  have EC := Lib.hid eC
  have ES := Lib.hid eS
  have HS := Lib.hid hs
  clear h hb1 B1 e0 e1 eC eS hs
  obtain ⟨P, hP⟩ : ∃ P, P = phaseR ph got tr (chunksR sC) (decide (0 < vC)) (decide (0 < v1)) := ⟨_, rfl⟩
  rw [← hP]
  have HP := Lib.hid hP
  clear hP
  obtain ⟨res, hres⟩ : ∃ res, res = (m0 && (m1 && (!decide (v0 = 0) && (decide (0 ≤ mn ∧ mn ≤ 1073741824 ∧ 0 ≤ got ∧ got ≤ 6 ∧ 0 ≤ tr ∧ tr ≤ 2) && (mC && P))))) := ⟨_, rfl⟩
  rw [← hres]
  have HRES := Lib.hid hres
  clear hres
  obtain ⟨co, hco⟩ : ∃ co, co = decide (0 < vC) := ⟨_, rfl⟩
  rw [← hco] at hC HP
  have HCO := Lib.hid hco
  clear hco
  go_enter Try.func21, Try.ntmps21
  go_wp2_with fail
  refine (h0 _).mono ?_
  rintro e w2 ⟨rfl, hb⟩
  have HX := Lib.hid (HX.out.below hb)
  have HB := Lib.hid (HB.out.trans (hb.mono HB.out.size))
  have r2 := HX.out.row
  have c2 := (HX.out.cell 0).trans H.out.a
  clear r1 c1 hb
  cases m0 with
  | false =>
    go_wp2_with fail
    go_ret
    exact ⟨by rw [HRES.out]; rfl, HB.out⟩
  | true =>
    go_wp2_with fail
    refine (h1 _).mono ?_
    rintro e w3 ⟨rfl, hb⟩
    have HX := Lib.hid (HX.out.below hb)
    have HB := Lib.hid (HB.out.trans (hb.mono HB.out.size))
    have r3 := HX.out.row
    have c3 := (HX.out.cell 0).trans H.out.a
    have ca := (HX.out.cell 1).trans E0.out
    have cb := (HX.out.cell 35).trans E1.out
    have c69 := (HX.out.cell 69).trans H.out.mn
    have c105 := (HX.out.cell 105).trans H.out.got
    have c106 := (HX.out.cell 106).trans H.out.tr
    have c71 := (HX.out.cell 71).trans EC.out
    clear r2 c2 hb
    cases m1 with
    | false =>
      go_wp2_with fail
      go_ret
      exact ⟨by rw [HRES.out]; rfl, HB.out⟩
    | true =>
      by_cases hv : v0 = 0
      · have hv0 : (v0 == 0) = true := beq_iff_eq.2 hv
        have HV := Lib.hid (decide_eq_true hv)
        clear hv
        go_wp2_with fail
        go_ret
        exact ⟨by rw [HRES.out, HV.out]; rfl, HB.out⟩
      · have hv0 : (v0 == 0) = false := beq_eq_false_iff_ne.2 hv
        have HV := Lib.hid (decide_eq_false hv)
        clear hv
        by_cases hr : 0 ≤ mn ∧ mn ≤ 1073741824 ∧ 0 ≤ got ∧ got ≤ 6 ∧ 0 ≤ tr ∧ tr ≤ 2
        · have HR := Lib.hid (decide_eq_true hr)
          obtain ⟨b1, b2, b3, b4, b5, b6⟩ := hr
          obtain ⟨ot, hot⟩ : ∃ ot, ot = decide (0 < v1) := ⟨_, rfl⟩
          rw [← hot] at HP
          have HOT := Lib.hid hot
          have ho2 := hot.symm
          have hc2 := HCO.out.symm
          clear hot
          go_wp2_with fail
          refine (hC _).mono ?_
          rintro e w4 ⟨rfl, hb⟩
          have HX := Lib.hid (HX.out.below hb)
          have HB := Lib.hid (HB.out.trans (hb.mono HB.out.size))
          have c70 := (HX.out.cell 70).trans H.out.ph
          have c72 := (HX.out.cell 72).trans ES.out
          have c105 := (HX.out.cell 105).trans H.out.got
          have c106 := (HX.out.cell 106).trans H.out.tr
          clear r3 c3 ca cb c69 c71 hb ho2 hc2
          cases mC with
          | false =>
            go_wp2_with fail
            go_ret
            exact ⟨by rw [HRES.out, HV.out, HR.out]; rfl, HB.out⟩
          | true =>
            obtain ⟨hs0, hs1⟩ := HS.out rfl
            obtain ⟨k, hk⟩ : ∃ k, k = chunksR sC := ⟨_, rfl⟩
            rw [← hk] at HP
            have HK := Lib.hid hk
            clear hk
            go_wp2_with fail
            refine (refchunks sC _ hs0 hs1).mono ?_
            rintro e w5 ⟨rfl, rfl⟩
            rw [← HK.out]
            clear hs0 hs1
            have hres1 : res = phaseR ph got tr k co ot := by rw [HRES.out, HV.out, HR.out, HP.out]; rfl
            have HRES := Lib.hid hres1
            clear hres1
            rcases (by omega : ph = 0 ∨ ph = 1 ∨ ph = 2 ∨ ph = 3 ∨ (ph ≠ 0 ∧ ph ≠ 1 ∧ ph ≠ 2 ∧ ph ≠ 3)) with rfl | rfl | rfl | rfl | ⟨n0, n1, n2, n3⟩
            · cases co with
              | true =>
                have hr2 : res = false := by rw [HRES.out]; simp [phaseR, *]
                have HR2 := Lib.hid hr2
                clear hr2
                go_wp2_with fail
                go_ret
                exact ⟨by rw [HR2.out]; rfl, HB.out⟩
              | false =>
                by_cases hg : got = 0
                · have g0 : (got == 0) = true := beq_iff_eq.2 hg
                  by_cases ht : tr = 0
                  · have t0 : (tr == 0) = true := beq_iff_eq.2 ht
                    have hr2 : res = true := by rw [HRES.out]; simp [phaseR, *]
                    have HR2 := Lib.hid hr2
                    clear hr2
                    go_wp2_with fail
                    go_ret
                    exact ⟨by rw [HR2.out]; rfl, HB.out⟩
                  · have t0 : (tr == 0) = false := beq_eq_false_iff_ne.2 ht
                    have hr2 : res = false := by rw [HRES.out]; simp [phaseR, *]
                    have HR2 := Lib.hid hr2
                    clear hr2
                    go_wp2_with fail
                    go_ret
                    exact ⟨by rw [HR2.out]; rfl, HB.out⟩
                · have g0 : (got == 0) = false := beq_eq_false_iff_ne.2 hg
                  have hr2 : res = false := by rw [HRES.out]; simp [phaseR, *]
                  have HR2 := Lib.hid hr2
                  clear hr2
                  go_wp2_with fail
                  go_ret
                  exact ⟨by rw [HR2.out]; rfl, HB.out⟩
            · cases co with
              | true =>
                cases ot with
                | true =>
                  have hr2 : res = false := by rw [HRES.out]; simp [phaseR, *]
                  have HR2 := Lib.hid hr2
                  clear hr2
                  go_wp2_with fail
                  go_ret
                  exact ⟨by rw [HR2.out]; rfl, HB.out⟩
                | false =>
                  by_cases ht : tr = 0
                  · have t0 : (tr == 0) = true := beq_iff_eq.2 ht
                    have hr2 : res = decide (got ≤ k) := by rw [HRES.out]; simp [phaseR, *]
                    have HR2 := Lib.hid hr2
                    clear hr2
                    go_wp2_with fail
                    go_ret
                    exact ⟨by rw [HR2.out]; rfl, HB.out⟩
                  · have t0 : (tr == 0) = false := beq_eq_false_iff_ne.2 ht
                    have hr2 : res = false := by rw [HRES.out]; simp [phaseR, *]
                    have HR2 := Lib.hid hr2
                    clear hr2
                    go_wp2_with fail
                    go_ret
                    exact ⟨by rw [HR2.out]; rfl, HB.out⟩
              | false =>
                have hr2 : res = false := by rw [HRES.out]; simp [phaseR, *]
                have HR2 := Lib.hid hr2
                clear hr2
                go_wp2_with fail
                go_ret
                exact ⟨by rw [HR2.out]; rfl, HB.out⟩
            · cases co with
              | true =>
                cases ot with
                | true =>
                  have hr2 : res = false := by rw [HRES.out]; simp [phaseR, *]
                  have HR2 := Lib.hid hr2
                  clear hr2
                  go_wp2_with fail
                  go_ret
                  exact ⟨by rw [HR2.out]; rfl, HB.out⟩
                | false =>
                  by_cases ht : tr = 0
                  · have t0 : (tr == 0) = true := beq_iff_eq.2 ht
                    by_cases hg : got = k
                    · have g0 : (got == k) = true := beq_iff_eq.2 hg
                      have hr2 : res = true := by rw [HRES.out]; simp [phaseR, *]
                      have HR2 := Lib.hid hr2
                      clear hr2
                      go_wp2_with fail
                      go_ret
                      exact ⟨by rw [HR2.out]; rfl, HB.out⟩
                    · have g0 : (got == k) = false := beq_eq_false_iff_ne.2 hg
                      have hr2 : res = false := by rw [HRES.out]; simp [phaseR, *]
                      have HR2 := Lib.hid hr2
                      clear hr2
                      go_wp2_with fail
                      go_ret
                      exact ⟨by rw [HR2.out]; rfl, HB.out⟩
                  · have t0 : (tr == 0) = false := beq_eq_false_iff_ne.2 ht
                    have hr2 : res = false := by rw [HRES.out]; simp [phaseR, *]
                    have HR2 := Lib.hid hr2
                    clear hr2
                    go_wp2_with fail
                    go_ret
                    exact ⟨by rw [HR2.out]; rfl, HB.out⟩
              | false =>
                have hr2 : res = false := by rw [HRES.out]; simp [phaseR, *]
                have HR2 := Lib.hid hr2
                clear hr2
                go_wp2_with fail
                go_ret
                exact ⟨by rw [HR2.out]; rfl, HB.out⟩
            · cases co with
              | true =>
                have hr2 : res = false := by rw [HRES.out]; simp [phaseR, *]
                have HR2 := Lib.hid hr2
                clear hr2
                go_wp2_with fail
                go_ret
                exact ⟨by rw [HR2.out]; rfl, HB.out⟩
              | false =>
                by_cases hg : got = 0
                · have g0 : (got == 0) = true := beq_iff_eq.2 hg
                  cases ot with
                  | true =>
                    have hr2 : res = true := by rw [HRES.out]; simp [phaseR, *]
                    have HR2 := Lib.hid hr2
                    clear hr2
                    go_wp2_with fail
                    go_ret
                    exact ⟨by rw [HR2.out]; rfl, HB.out⟩
                  | false =>
                    have hr2 : res = false := by rw [HRES.out]; simp [phaseR, *]
                    have HR2 := Lib.hid hr2
                    clear hr2
                    go_wp2_with fail
                    go_ret
                    exact ⟨by rw [HR2.out]; rfl, HB.out⟩
                · have g0 : (got == 0) = false := beq_eq_false_iff_ne.2 hg
                  have hr2 : res = false := by rw [HRES.out]; simp [phaseR, *]
                  have HR2 := Lib.hid hr2
                  clear hr2
                  go_wp2_with fail
                  go_ret
                  exact ⟨by rw [HR2.out]; rfl, HB.out⟩
            · have q0 : (ph == 0) = false := beq_eq_false_iff_ne.2 n0
              have q1 : (ph == 1) = false := beq_eq_false_iff_ne.2 n1
              have q2 : (ph == 2) = false := beq_eq_false_iff_ne.2 n2
              have q3 : (ph == 3) = false := beq_eq_false_iff_ne.2 n3
              have hr2 : res = false := by rw [HRES.out]; simp [phaseR, *]
              have HR2 := Lib.hid hr2
              clear hr2
              go_wp2_with fail
              go_ret
              exact ⟨by rw [HR2.out]; rfl, HB.out⟩
        · have HR := Lib.hid (decide_eq_false hr)
          have HN := Lib.hid hr
          clear hr
          go_wp2_with fail
          all_goals first
            | (exfalso; have := HN.out; omega)
            | (go_ret; refine ⟨?_, HB.out⟩; rw [HRES.out, HV.out, HR.out]; first | rfl | (simp; done) | (have := HN.out; simp; omega))

set_option maxHeartbeats 16000000 in
set_option maxRecDepth 100000 in
theorem refright1 (cs : Array Value) (mn ph got tr : Int) (I0 I1 C : Array Value) (m0 m1 mC : Bool) (v0 v1 vC sC : Int) (h : MetIs cs 1 mn ph got tr I0 I1 C)
    (h0 : ∀ w : World, Calls Try.prog 40 #[.agg I0, .bool false] w fun e w' => e = .returned (.bool m0) ∧ Below w.heap.size w w')
    (h1 : ∀ w : World, Calls Try.prog 40 #[.agg I1, .bool false] w fun e w' => e = .returned (.bool m1) ∧ Below w.heap.size w w')
    (hC : ∀ w : World, Calls Try.prog 40 #[.agg C, .bool (!decide (0 < vC))] w fun e w' => e = .returned (.bool mC) ∧ Below w.heap.size w w')
    (e0 : cs[1]? = some (.int .i64 v0)) (e1 : cs[35]? = some (.int .i64 v1)) (eC : cs[71]? = some (.int .i64 vC)) (eS : cs[72]? = some (.int .i64 sC)) (hs : mC = true → 0 ≤ sC ∧ sC ≤ 1920) (w : World) :
    Calls Try.prog 21 #[.agg cs] w fun e w' => e = .returned (.bool (m0 && (m1 && (!decide (v1 = 0) && (decide (0 ≤ mn ∧ mn ≤ 1073741824 ∧ 0 ≤ got ∧ got ≤ 6 ∧ 0 ≤ tr ∧ tr ≤ 2) && (mC && phaseR ph got tr (chunksR sC) (decide (0 < vC)) (decide (0 < v0)))))))) ∧ Below w.heap.size w w' := by
  have hb1 := below_alloc1 w (.cells cs 52)
  have B1 := Box.new w cs 52
  have r1 := B1.row
  have c1 := (B1.cell 0).trans h.a
  have sz := h.size
  have le1 : 1 + 34 ≤ cs.size := by omega
  have le2 : 35 + 34 ≤ cs.size := by omega
  have le3 : 71 + 34 ≤ cs.size := by omega
  have le0 : 0 + 107 ≤ cs.size := by omega
  have e107 : cs.extract 0 107 = cs := by rw [← sz]; exact Array.extract_size
  have x0 := h.e0
  have x1 := h.e1
  have xC := h.eC
  have HB := Lib.hid hb1
  have H := Lib.hid h
  have HX := Lib.hid B1
  have E0 := Lib.hid e0
  have E1 := Lib.hid e1
  have EC := Lib.hid eC
  have ES := Lib.hid eS
  have HS := Lib.hid hs
  clear h hb1 B1 e0 e1 eC eS hs
  obtain ⟨P, hP⟩ : ∃ P, P = phaseR ph got tr (chunksR sC) (decide (0 < vC)) (decide (0 < v0)) := ⟨_, rfl⟩
  rw [← hP]
  have HP := Lib.hid hP
  clear hP
  obtain ⟨res, hres⟩ : ∃ res, res = (m0 && (m1 && (!decide (v1 = 0) && (decide (0 ≤ mn ∧ mn ≤ 1073741824 ∧ 0 ≤ got ∧ got ≤ 6 ∧ 0 ≤ tr ∧ tr ≤ 2) && (mC && P))))) := ⟨_, rfl⟩
  rw [← hres]
  have HRES := Lib.hid hres
  clear hres
  obtain ⟨co, hco⟩ : ∃ co, co = decide (0 < vC) := ⟨_, rfl⟩
  rw [← hco] at hC HP
  have HCO := Lib.hid hco
  clear hco
  go_enter Try.func21, Try.ntmps21
  go_wp2_with fail
  refine (h0 _).mono ?_
  rintro e w2 ⟨rfl, hb⟩
  have HX := Lib.hid (HX.out.below hb)
  have HB := Lib.hid (HB.out.trans (hb.mono HB.out.size))
  have r2 := HX.out.row
  have c2 := (HX.out.cell 0).trans H.out.a
  clear r1 c1 hb
  cases m0 with
  | false =>
    go_wp2_with fail
    go_ret
    exact ⟨by rw [HRES.out]; rfl, HB.out⟩
  | true =>
    go_wp2_with fail
    refine (h1 _).mono ?_
    rintro e w3 ⟨rfl, hb⟩
    have HX := Lib.hid (HX.out.below hb)
    have HB := Lib.hid (HB.out.trans (hb.mono HB.out.size))
    have r3 := HX.out.row
    have c3 := (HX.out.cell 0).trans H.out.a
    have ca := (HX.out.cell 35).trans E1.out
    have cb := (HX.out.cell 1).trans E0.out
    have c69 := (HX.out.cell 69).trans H.out.mn
    have c105 := (HX.out.cell 105).trans H.out.got
    have c106 := (HX.out.cell 106).trans H.out.tr
    have c71 := (HX.out.cell 71).trans EC.out
    clear r2 c2 hb
    cases m1 with
    | false =>
      go_wp2_with fail
      go_ret
      exact ⟨by rw [HRES.out]; rfl, HB.out⟩
    | true =>
      by_cases hv : v1 = 0
      · have hv0 : (v1 == 0) = true := beq_iff_eq.2 hv
        have HV := Lib.hid (decide_eq_true hv)
        clear hv
        go_wp2_with fail
        go_ret
        exact ⟨by rw [HRES.out, HV.out]; rfl, HB.out⟩
      · have hv0 : (v1 == 0) = false := beq_eq_false_iff_ne.2 hv
        have HV := Lib.hid (decide_eq_false hv)
        clear hv
        by_cases hr : 0 ≤ mn ∧ mn ≤ 1073741824 ∧ 0 ≤ got ∧ got ≤ 6 ∧ 0 ≤ tr ∧ tr ≤ 2
        · have HR := Lib.hid (decide_eq_true hr)
          obtain ⟨b1, b2, b3, b4, b5, b6⟩ := hr
          obtain ⟨ot, hot⟩ : ∃ ot, ot = decide (0 < v0) := ⟨_, rfl⟩
          rw [← hot] at HP
          have HOT := Lib.hid hot
          have ho2 := hot.symm
          have hc2 := HCO.out.symm
          clear hot
          go_wp2_with fail
          refine (hC _).mono ?_
          rintro e w4 ⟨rfl, hb⟩
          have HX := Lib.hid (HX.out.below hb)
          have HB := Lib.hid (HB.out.trans (hb.mono HB.out.size))
          have c70 := (HX.out.cell 70).trans H.out.ph
          have c72 := (HX.out.cell 72).trans ES.out
          have c105 := (HX.out.cell 105).trans H.out.got
          have c106 := (HX.out.cell 106).trans H.out.tr
          clear r3 c3 ca cb c69 c71 hb ho2 hc2
          cases mC with
          | false =>
            go_wp2_with fail
            go_ret
            exact ⟨by rw [HRES.out, HV.out, HR.out]; rfl, HB.out⟩
          | true =>
            obtain ⟨hs0, hs1⟩ := HS.out rfl
            obtain ⟨k, hk⟩ : ∃ k, k = chunksR sC := ⟨_, rfl⟩
            rw [← hk] at HP
            have HK := Lib.hid hk
            clear hk
            go_wp2_with fail
            refine (refchunks sC _ hs0 hs1).mono ?_
            rintro e w5 ⟨rfl, rfl⟩
            rw [← HK.out]
            clear hs0 hs1
            have hres1 : res = phaseR ph got tr k co ot := by rw [HRES.out, HV.out, HR.out, HP.out]; rfl
            have HRES := Lib.hid hres1
            clear hres1
            rcases (by omega : ph = 0 ∨ ph = 1 ∨ ph = 2 ∨ ph = 3 ∨ (ph ≠ 0 ∧ ph ≠ 1 ∧ ph ≠ 2 ∧ ph ≠ 3)) with rfl | rfl | rfl | rfl | ⟨n0, n1, n2, n3⟩
            · cases co with
              | true =>
                have hr2 : res = false := by rw [HRES.out]; simp [phaseR, *]
                have HR2 := Lib.hid hr2
                clear hr2
                go_wp2_with fail
                go_ret
                exact ⟨by rw [HR2.out]; rfl, HB.out⟩
              | false =>
                by_cases hg : got = 0
                · have g0 : (got == 0) = true := beq_iff_eq.2 hg
                  by_cases ht : tr = 0
                  · have t0 : (tr == 0) = true := beq_iff_eq.2 ht
                    have hr2 : res = true := by rw [HRES.out]; simp [phaseR, *]
                    have HR2 := Lib.hid hr2
                    clear hr2
                    go_wp2_with fail
                    go_ret
                    exact ⟨by rw [HR2.out]; rfl, HB.out⟩
                  · have t0 : (tr == 0) = false := beq_eq_false_iff_ne.2 ht
                    have hr2 : res = false := by rw [HRES.out]; simp [phaseR, *]
                    have HR2 := Lib.hid hr2
                    clear hr2
                    go_wp2_with fail
                    go_ret
                    exact ⟨by rw [HR2.out]; rfl, HB.out⟩
                · have g0 : (got == 0) = false := beq_eq_false_iff_ne.2 hg
                  have hr2 : res = false := by rw [HRES.out]; simp [phaseR, *]
                  have HR2 := Lib.hid hr2
                  clear hr2
                  go_wp2_with fail
                  go_ret
                  exact ⟨by rw [HR2.out]; rfl, HB.out⟩
            · cases co with
              | true =>
                cases ot with
                | true =>
                  have hr2 : res = false := by rw [HRES.out]; simp [phaseR, *]
                  have HR2 := Lib.hid hr2
                  clear hr2
                  go_wp2_with fail
                  go_ret
                  exact ⟨by rw [HR2.out]; rfl, HB.out⟩
                | false =>
                  by_cases ht : tr = 0
                  · have t0 : (tr == 0) = true := beq_iff_eq.2 ht
                    have hr2 : res = decide (got ≤ k) := by rw [HRES.out]; simp [phaseR, *]
                    have HR2 := Lib.hid hr2
                    clear hr2
                    go_wp2_with fail
                    go_ret
                    exact ⟨by rw [HR2.out]; rfl, HB.out⟩
                  · have t0 : (tr == 0) = false := beq_eq_false_iff_ne.2 ht
                    have hr2 : res = false := by rw [HRES.out]; simp [phaseR, *]
                    have HR2 := Lib.hid hr2
                    clear hr2
                    go_wp2_with fail
                    go_ret
                    exact ⟨by rw [HR2.out]; rfl, HB.out⟩
              | false =>
                have hr2 : res = false := by rw [HRES.out]; simp [phaseR, *]
                have HR2 := Lib.hid hr2
                clear hr2
                go_wp2_with fail
                go_ret
                exact ⟨by rw [HR2.out]; rfl, HB.out⟩
            · cases co with
              | true =>
                cases ot with
                | true =>
                  have hr2 : res = false := by rw [HRES.out]; simp [phaseR, *]
                  have HR2 := Lib.hid hr2
                  clear hr2
                  go_wp2_with fail
                  go_ret
                  exact ⟨by rw [HR2.out]; rfl, HB.out⟩
                | false =>
                  by_cases ht : tr = 0
                  · have t0 : (tr == 0) = true := beq_iff_eq.2 ht
                    by_cases hg : got = k
                    · have g0 : (got == k) = true := beq_iff_eq.2 hg
                      have hr2 : res = true := by rw [HRES.out]; simp [phaseR, *]
                      have HR2 := Lib.hid hr2
                      clear hr2
                      go_wp2_with fail
                      go_ret
                      exact ⟨by rw [HR2.out]; rfl, HB.out⟩
                    · have g0 : (got == k) = false := beq_eq_false_iff_ne.2 hg
                      have hr2 : res = false := by rw [HRES.out]; simp [phaseR, *]
                      have HR2 := Lib.hid hr2
                      clear hr2
                      go_wp2_with fail
                      go_ret
                      exact ⟨by rw [HR2.out]; rfl, HB.out⟩
                  · have t0 : (tr == 0) = false := beq_eq_false_iff_ne.2 ht
                    have hr2 : res = false := by rw [HRES.out]; simp [phaseR, *]
                    have HR2 := Lib.hid hr2
                    clear hr2
                    go_wp2_with fail
                    go_ret
                    exact ⟨by rw [HR2.out]; rfl, HB.out⟩
              | false =>
                have hr2 : res = false := by rw [HRES.out]; simp [phaseR, *]
                have HR2 := Lib.hid hr2
                clear hr2
                go_wp2_with fail
                go_ret
                exact ⟨by rw [HR2.out]; rfl, HB.out⟩
            · cases co with
              | true =>
                have hr2 : res = false := by rw [HRES.out]; simp [phaseR, *]
                have HR2 := Lib.hid hr2
                clear hr2
                go_wp2_with fail
                go_ret
                exact ⟨by rw [HR2.out]; rfl, HB.out⟩
              | false =>
                by_cases hg : got = 0
                · have g0 : (got == 0) = true := beq_iff_eq.2 hg
                  cases ot with
                  | true =>
                    have hr2 : res = true := by rw [HRES.out]; simp [phaseR, *]
                    have HR2 := Lib.hid hr2
                    clear hr2
                    go_wp2_with fail
                    go_ret
                    exact ⟨by rw [HR2.out]; rfl, HB.out⟩
                  | false =>
                    have hr2 : res = false := by rw [HRES.out]; simp [phaseR, *]
                    have HR2 := Lib.hid hr2
                    clear hr2
                    go_wp2_with fail
                    go_ret
                    exact ⟨by rw [HR2.out]; rfl, HB.out⟩
                · have g0 : (got == 0) = false := beq_eq_false_iff_ne.2 hg
                  have hr2 : res = false := by rw [HRES.out]; simp [phaseR, *]
                  have HR2 := Lib.hid hr2
                  clear hr2
                  go_wp2_with fail
                  go_ret
                  exact ⟨by rw [HR2.out]; rfl, HB.out⟩
            · have q0 : (ph == 0) = false := beq_eq_false_iff_ne.2 n0
              have q1 : (ph == 1) = false := beq_eq_false_iff_ne.2 n1
              have q2 : (ph == 2) = false := beq_eq_false_iff_ne.2 n2
              have q3 : (ph == 3) = false := beq_eq_false_iff_ne.2 n3
              have hr2 : res = false := by rw [HRES.out]; simp [phaseR, *]
              have HR2 := Lib.hid hr2
              clear hr2
              go_wp2_with fail
              go_ret
              exact ⟨by rw [HR2.out]; rfl, HB.out⟩
        · have HR := Lib.hid (decide_eq_false hr)
          have HN := Lib.hid hr
          clear hr
          go_wp2_with fail
          all_goals first
            | (exfalso; have := HN.out; omega)
            | (go_ret; refine ⟨?_, HB.out⟩; rw [HRES.out, HV.out, HR.out]; first | rfl | (simp; done) | (have := HN.out; simp; omega))

set_option maxHeartbeats 4000000 in
theorem refright_out (cs : Array Value) (a mn ph got tr : Int) (I0 I1 C : Array Value) (h : MetIs cs a mn ph got tr I0 I1 C) (ha : a < 0 ∨ 1 < a) (w : World) : Calls Try.prog 21 #[.agg cs] w fun e w' => e = .returned (.bool false) ∧ Below w.heap.size w w' := by
  have hb1 := below_alloc1 w (.cells cs 52)
  have B1 := Box.new w cs 52
  have c1 := (B1.cell 0).trans h.a
  clear B1 h
  have HB := Lib.hid hb1
  clear hb1
  rcases ha with ha | ha
  · go_enter Try.func21, Try.ntmps21
    go_wp2_with fail
    go_ret
    exact ⟨rfl, HB.out⟩
  · have ha0 : ¬ a < 0 := by omega
    go_enter Try.func21, Try.ntmps21
    go_wp2_with fail
    go_ret
    exact ⟨rfl, HB.out⟩
end Go.Proofs.Ytehlcljachkgdaa.Boot
