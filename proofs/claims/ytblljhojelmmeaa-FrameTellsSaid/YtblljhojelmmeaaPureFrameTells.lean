/- Proved: whatever four ints the law is called with, frame.Turn and frame.Wait answer as the reference's Turn and Wait do, so the law returns true. No condition. -/
import Derived.Test.YtblljhojelmmeaaPFrameTellsx1
import Derived.OpenShut
namespace Go.Proofs.Ytblljhojelmmeaa.Pure
open Go.RowKit Go.Proofs.Ytblljhojelmmeaa.PFrameTells Go.Proofs.YtblljhojelmmeaaW.PrintWords Go.Proofs.YtblljhojelmmeaaW.PrintLast

theorem FrameTells : waterlinelaw22_FrameTells.Pure := by
  intro a0 a1 a2 a3 h0 h1 h2 h3
  obtain ⟨b0, c0⟩ := bounds_i64 h0
  obtain ⟨b1, c1⟩ := bounds_i64 h1
  obtain ⟨b2, c2⟩ := bounds_i64 h2
  obtain ⟨b3, c3⟩ := bounds_i64 h3
  refine ⟨9, ?_⟩
  have al : waterlinelaw22_alive.f 9 = some true := by decide +kernel
  unfold waterlinelaw22_FrameTells.f
  rw [al]
  simp only [Option.bind_some, if_true]
  unfold frame_Wait.f frame_Turn.f waterlineref21_Turn.f waterlineref21_Wait.f
  by_cases k0 : a0 < 1
  · simp only [if_pos k0, Option.bind_some, if_true, frame_Wait.j0]
    rfl
  · by_cases k1 : a1 < 0
    · simp only [if_neg k0, if_pos k1, Option.bind_some, if_true, frame_Wait.j0]
      by_cases k2 : a0 > 1073741824
      · simp only [if_pos k2]; rfl
      · simp only [if_neg k2]; rfl
    · have ht : Int.tmod a1 a0 = a1 % a0 := Int.tmod_eq_emod_of_nonneg (by omega)
      have t0 : 0 ≤ a1 % a0 := Int.emod_nonneg _ (by omega)
      have t1 : a1 % a0 < a0 := Int.emod_lt_of_pos _ (by omega)
      rw [ht]
      generalize a1 % a0 = t at *
      have kz : ¬ a0 = 0 := by omega
      have kt : ¬ t = -1 := by omega
      simp only [if_neg k0, if_neg k1, if_neg kz, Option.bind_some, if_true, if_neg kt]
      by_cases k2 : a0 > 1073741824
      · simp only [if_pos k2, frame_Wait.j0, Option.bind_some, if_true]; rfl
      · by_cases k3 : a2 < 0
        · simp only [if_neg k2, if_pos k3, frame_Wait.j0, Option.bind_some, if_true]; rfl
        · by_cases k4 : a2 ≥ a0
          · simp only [if_neg k2, if_neg k3, if_pos k4, frame_Wait.j0, Option.bind_some, if_true]; rfl
          · by_cases k5 : a3 < 0
            · simp only [if_neg k2, if_neg k3, if_neg k4, if_pos k5, frame_Wait.j0, Option.bind_some, if_true]; rfl
            · by_cases k6 : a3 > 1073741824
              · simp only [if_neg k2, if_neg k3, if_neg k4, if_neg k5, if_pos k6, frame_Wait.j0, Option.bind_some, decide_eq_true k6, if_true]; rfl
              · have q0 : 0 ≤ a3 * a0 := Int.mul_nonneg (by omega) (by omega)
                have q1 : a3 * a0 ≤ 1073741824 * 1073741824 := Int.mul_le_mul (by omega) (by omega) (by omega) (by omega)
                simp only [if_neg k2, if_neg k3, if_neg k4, if_neg k5, if_neg k6, frame_Wait.j0, Option.bind_some, decide_eq_false k6, Bool.false_eq_true, if_false]
                generalize a3 * a0 = q at *
                have w1 : wrap64 (a2 - t) = a2 - t := by unfold wrap64; omega
                have w2 : wrap64 (a2 - t + a0) = a2 - t + a0 := by unfold wrap64; omega
                have w3 : wrap64 q = q := by unfold wrap64; omega
                rw [w1, w2, w3, Int.tmod_eq_emod_of_nonneg (by omega)]
                by_cases k7 : a2 - t < 0
                · rw [if_pos k7, Int.emod_eq_of_lt (by omega) (by omega)]
                  simp only [Option.bind_some, Option.some.injEq, beq_iff_eq]
                  unfold wrap64
                  omega
                · have e : (a2 - t + a0) % a0 = a2 - t := by
                    rw [Int.add_emod_right, Int.emod_eq_of_lt (by omega) (by omega)]
                  rw [if_neg k7, e]
                  simp only [Option.bind_some, Option.some.injEq, beq_iff_eq]
                  unfold wrap64
                  omega
end Go.Proofs.Ytblljhojelmmeaa.Pure
