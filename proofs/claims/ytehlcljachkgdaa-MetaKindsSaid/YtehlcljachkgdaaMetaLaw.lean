/- What may be kept: the program's Right and the reference's say the same. -/
import Derived.Test.YtehlcljachkgdaaMetaRef
import Derived.Test.YtehlcljachkgdaaMetaEnc
namespace Go.Proofs.Ytehlcljachkgdaa.Boot
open Go.RowKit Go.Proofs.YtehlcljachkgdaaW.PrintWords Go.Proofs.YtehlcljachkgdaaW.PrintLast Go.Proofs.Ytehlcljachkgdaa.Kit

def Img.may (i : Img) : Bool := mayB i.v i.s i.none
def Met.act (m : Met) : Img := if m.a = 0 then m.i0 else m.i1
def Met.oth (m : Met) : Img := if m.a = 0 then m.i1 else m.i0
def Met.ranges (m : Met) : Prop := 0 ≤ m.mn ∧ m.mn ≤ 1073741824 ∧ 0 ≤ m.got ∧ m.got ≤ 6 ∧ 0 ≤ m.tr ∧ m.tr ≤ 2
instance (m : Met) : Decidable m.ranges := by unfold Met.ranges; exact inferInstance
def Met.phase (m : Met) : Bool := phaseB m.ph m.got m.tr ((m.co.s + 319) / 320) m.co.none m.oth.none
/-- may it be kept? -/
def Met.right (m : Met) : Bool := decide (0 ≤ m.a ∧ m.a ≤ 1) && (m.i0.may && (m.i1.may && (m.co.may && (!m.act.none && (decide m.ranges && m.phase)))))

theorem none_zero {i : Img} (h : i.none = true) : i.v = 0 ∧ i.s = 0 := by
  have : i = .zero := by simpa [Img.none] using h
  subst this
  exact ⟨rfl, rfl⟩
theorem may_cases {i : Img} (h : i.may = true) : (i.none = true ∧ i.v = 0 ∧ i.s = 0) ∨ (i.none = false ∧ 1 ≤ i.v ∧ i.v ≤ 1073741824 ∧ 1 ≤ i.s ∧ i.s ≤ 1920) := by
  unfold Img.may mayB at h
  cases hn : i.none with
  | true => exact .inl ⟨rfl, none_zero hn⟩
  | false =>
    rw [hn] at h
    split at h
    · cases h
    · have := of_decide_eq_true h
      exact .inr ⟨rfl, by omega⟩
theorem may_size {i : Img} (h : i.may = true) : 0 ≤ i.s ∧ i.s ≤ 1920 := by
  rcases may_cases h with ⟨_, _, h⟩ | ⟨_, _, _, h⟩ <;> omega
theorem ref_may (i : Img) : (i.none || (!false && decide (FineN i.v i.s))) = i.may := by
  unfold Img.may mayB
  cases hn : i.none with
  | true =>
    obtain ⟨h1, h2⟩ := none_zero hn
    rw [if_pos (.inl h1)]
    rfl
  | false =>
    by_cases hz : i.v = 0 ∨ i.s = 0
    · have hf : ¬ FineN i.v i.s := fun f => by obtain ⟨f1, f2, f3, f4⟩ := f; omega
      rw [if_pos hz, decide_eq_false hf]
      rfl
    · rw [if_neg hz]
      simp only [Bool.not_false, Bool.true_and, Bool.false_or]
      exact decide_eq_decide.2 ⟨fun f => by obtain ⟨f1, f2, f3, f4⟩ := f; omega, fun _ => ⟨by omega, by omega, by omega, by omega⟩⟩
theorem ref_mayC (i : Img) : (i.none || (!(!decide (0 < i.v)) && decide (FineN i.v i.s))) = i.may := by
  rw [← ref_may]
  by_cases h : 0 < i.v
  · simp [h]
  · have : ¬ FineN i.v i.s := fun f => by have := f.1; omega
    simp [this]
theorem may_none {i : Img} (h : i.may = true) : decide (i.v = 0) = i.none := by
  rcases may_cases h with ⟨h, h1, _⟩ | ⟨h, h1, _⟩
  · rw [h]; exact decide_eq_true h1
  · rw [h]; exact decide_eq_false (by omega)
theorem may_some {i : Img} (h : i.may = true) : decide (0 < i.v) = !i.none := by
  rcases may_cases h with ⟨h, h1, _⟩ | ⟨h, h1, _⟩
  · rw [h]; exact decide_eq_false (by omega)
  · rw [h]; exact decide_eq_true (by omega)
theorem chunks_same {s : Int} (h : 0 ≤ s) : chunksR s = (s + 319) / 320 := by
  unfold chunksR
  split <;> omega
theorem phase_same (ph got tr k : Int) (bC bO : Bool) : phaseR ph got tr k (!bC) (!bO) = phaseB ph got tr k bC bO := by
  unfold phaseR phaseB
  simp only [Bool.not_not]

theorem says {i : Img} (h : i.Ok) : Says i.enc.toArray i.may := fun w => image_calls _ _ _ _ (Img.is h) w
theorem right_m (m : Met) (h : m.Ok) (w : World) : Calls Try.prog 25 #[.agg m.enc.toArray] w fun e w' => e = .returned (.bool m.right) ∧ Below w.heap.size w w' := by
  have hI := Met.is h
  by_cases ha : 0 ≤ m.a ∧ m.a ≤ 1
  · have hp : m.co.may = true → ∀ w : World, Calls Try.prog 51 #[.agg m.enc.toArray] w fun e w' => e = .returned (.bool m.phase) ∧ Below w.heap.size w w' := by
      intro hc w
      obtain ⟨hs0, hs1⟩ := may_size hc
      have hC := Img.is h.co
      obtain ⟨a, i0, i1, mn, ph, co, got, tr⟩ := m
      simp only at ha hs0 hs1 hC
      unfold Met.phase Met.oth phaseB
      simp only
      have h0 := Img.is h.i0
      have h1 := Img.is h.i1
      simp only at h0 h1
      by_cases p0 : ph = 0
      · subst p0
        rw [if_pos rfl]
        exact phase_0 _ a mn got tr _ _ _ _ _ _ hI hC w
      rw [if_neg p0]
      by_cases p1 : ph = 1
      · subst p1
        rw [if_pos rfl]
        rcases (by omega : a = 0 ∨ a = 1) with rfl | rfl
        · rw [if_pos rfl]; exact phase_10 _ mn got tr _ _ _ _ _ _ _ _ _ hI hC hs0 hs1 h1 w
        · rw [if_neg (by decide)]; exact phase_11 _ mn got tr _ _ _ _ _ _ _ _ _ hI hC hs0 hs1 h0 w
      rw [if_neg p1]
      by_cases p2 : ph = 2
      · subst p2
        rw [if_pos rfl]
        rcases (by omega : a = 0 ∨ a = 1) with rfl | rfl
        · rw [if_pos rfl]; exact phase_20 _ mn got tr _ _ _ _ _ _ _ _ _ hI hC hs0 hs1 h1 w
        · rw [if_neg (by decide)]; exact phase_21 _ mn got tr _ _ _ _ _ _ _ _ _ hI hC hs0 hs1 h0 w
      rw [if_neg p2]
      by_cases p3 : ph = 3
      · subst p3
        rw [if_pos rfl]
        rcases (by omega : a = 0 ∨ a = 1) with rfl | rfl
        · rw [if_pos rfl]; exact phase_30 _ mn got tr _ _ _ _ _ _ _ _ _ hI hC h1 w
        · rw [if_neg (by decide)]; exact phase_31 _ mn got tr _ _ _ _ _ _ _ _ _ hI hC h0 w
      rw [if_neg p3]
      exact phase_out _ a mn ph got tr _ _ _ hI p0 p1 p2 p3 w
    have hr : m.right = (m.i0.may && (m.i1.may && (m.co.may && (!m.act.none && (decide m.ranges && m.phase))))) := by
      unfold Met.right
      rw [decide_eq_true ha, Bool.true_and]
    rw [hr]
    rcases (by omega : m.a = 0 ∨ m.a = 1) with e | e
    · rw [e] at hI
      have : m.act = m.i0 := if_pos e
      rw [this]
      exact right_any0 _ _ _ _ _ _ _ _ _ _ _ _ _ _ _ hI (says h.i0) (says h.i1) (says h.co) (Img.is h.i0) hp w
    · rw [e] at hI
      have : m.act = m.i1 := if_neg (by omega)
      rw [this]
      exact right_any1 _ _ _ _ _ _ _ _ _ _ _ _ _ _ _ hI (says h.i0) (says h.i1) (says h.co) (Img.is h.i1) hp w
  · have hr : m.right = false := by
      unfold Met.right
      rw [decide_eq_false ha, Bool.false_and]
    rw [hr]
    exact right_out _ _ _ _ _ _ _ _ _ hI (by omega) w
theorem refright_m (m : Met) (h : m.Ok) (w : World) : Calls Try.prog 21 #[.agg m.enc.toArray] w fun e w' => e = .returned (.bool m.right) ∧ Below w.heap.size w w' := by
  have hI := Met.is h
  have p := Met.parts h
  by_cases ha : 0 ≤ m.a ∧ m.a ≤ 1
  · have s0 : ∀ w : World, Calls Try.prog 40 #[.agg m.i0.enc.toArray, .bool false] w fun e w' => e = .returned (.bool m.i0.may) ∧ Below w.heap.size w w' := fun w => by
      rw [← ref_may]; exact refimage _ _ _ _ _ (Img.is h.i0) w
    have s1 : ∀ w : World, Calls Try.prog 40 #[.agg m.i1.enc.toArray, .bool false] w fun e w' => e = .returned (.bool m.i1.may) ∧ Below w.heap.size w w' := fun w => by
      rw [← ref_may]; exact refimage _ _ _ _ _ (Img.is h.i1) w
    have sC : ∀ w : World, Calls Try.prog 40 #[.agg m.co.enc.toArray, .bool (!decide (0 < m.co.v))] w fun e w' => e = .returned (.bool m.co.may) ∧ Below w.heap.size w w' := fun w => by
      rw [← ref_mayC]; exact refimage _ _ _ _ _ (Img.is h.co) w
    have e1 : m.enc.toArray[1]? = some (.int .i64 m.i0.v) := (at_drop p.d1 0).trans rfl
    have e35 : m.enc.toArray[35]? = some (.int .i64 m.i1.v) := (at_drop p.d35 0).trans rfl
    have e71 : m.enc.toArray[71]? = some (.int .i64 m.co.v) := (at_drop p.d71 0).trans rfl
    have e72 : m.enc.toArray[72]? = some (.int .i64 m.co.s) := (at_drop p.d71 1).trans rfl
    have hr : m.right = (m.i0.may && (m.i1.may && (!decide (m.act.v = 0) && (decide m.ranges && (m.co.may && phaseR m.ph m.got m.tr (chunksR m.co.s) (decide (0 < m.co.v)) (decide (0 < m.oth.v))))))) := by
      unfold Met.right
      rw [decide_eq_true ha, Bool.true_and]
      cases h0 : m.i0.may with
      | false => rfl
      | true =>
        cases h1 : m.i1.may with
        | false => rfl
        | true =>
          cases hC : m.co.may with
          | false => simp
          | true =>
            have hact : m.act.may = true := by unfold Met.act; split <;> assumption
            have hoth : m.oth.may = true := by unfold Met.oth; split <;> assumption
            rw [may_none hact, may_some hC, may_some hoth, chunks_same (may_size hC).1, phase_same]
            rfl
    rw [hr]
    rcases (by omega : m.a = 0 ∨ m.a = 1) with e | e
    · rw [e] at hI
      rw [show m.act = m.i0 from if_pos e, show m.oth = m.i1 from if_pos e]
      exact refright0 _ _ _ _ _ _ _ _ _ _ _ _ _ _ _ hI s0 s1 sC e1 e35 e71 e72 may_size w
    · rw [e] at hI
      rw [show m.act = m.i1 from if_neg (by omega), show m.oth = m.i0 from if_neg (by omega)]
      exact refright1 _ _ _ _ _ _ _ _ _ _ _ _ _ _ _ hI s0 s1 sC e1 e35 e71 e72 may_size w
  · have hr : m.right = false := by
      unfold Met.right
      rw [decide_eq_false ha, Bool.false_and]
    rw [hr]
    exact refright_out _ _ _ _ _ _ _ _ _ hI (by omega) w
end Go.Proofs.Ytehlcljachkgdaa.Boot
