/- Proved: whatever two ints the law is called with, it returns true: within its own guards each of the tenants has one turn in as many ticks. No condition. -/
import Derived.Test.YtblljhojelmmeaaPFrameAllx1
import Derived.OpenShut
namespace Go.Proofs.Ytblljhojelmmeaa.Pure
open Go.RowKit Go.Proofs.Ytblljhojelmmeaa.PFrameAll Go.Proofs.YtblljhojelmmeaaW.PrintWords Go.Proofs.YtblljhojelmmeaaW.PrintLast

theorem fa_turn {a b : Int} (h : 1 ≤ a) (k : 0 ≤ b) : frame_Turn.f a b = some (b % a) := by
  unfold frame_Turn.f
  rw [if_neg (by omega), if_neg (by omega), if_neg (by omega), Int.tmod_eq_emod_of_nonneg k]

theorem fa_apart {n k i j : Int} (h : (k + i) % n = (k + j) % n) (hij : i < j) (hn : j < i + n) : False := by
  have h2 : (k + j - (k + i)) % n = 0 := Int.emod_eq_emod_iff_emod_sub_eq_zero.mp h.symm
  have h3 : k + j - (k + i) = j - i := by omega
  rw [h3, Int.emod_eq_of_lt (by omega) (by omega)] at h2
  omega

theorem fa_loop {n k : Int} (n1 : 1 ≤ n) (n50 : n ≤ 50) (k0 : 0 ≤ k) (kb : k ≤ 1099511627776) (d : Nat) :
    ∀ (m : Nat) (i : Int) (l : List Bool), 0 ≤ i → i ≤ n → n - i = d → d < m → (l.length : Int) = n →
    (∀ j : Nat, l.getD j false = true → ∃ i', 0 ≤ i' ∧ i' < i ∧ (k + i') % n = j) →
    waterlinelaw22_FrameAll.l0 m n k l i = some true := by
  induction d with
  | zero =>
    intro m i l i0 i1 hd hm _ _
    obtain ⟨m, rfl⟩ : ∃ m', m = m' + 1 := ⟨m - 1, by omega⟩
    simp only [waterlinelaw22_FrameAll.l0]
    rw [if_neg (by omega)]
  | succ d ih =>
    intro m i l i0 i1 hd hm hl hinv
    obtain ⟨m, rfl⟩ : ∃ m', m = m' + 1 := ⟨m - 1, by omega⟩
    simp only [waterlinelaw22_FrameAll.l0]
    have w1 : wrap64 (k + i) = k + i := by unfold wrap64; omega
    have w2 : wrap64 (i + 1) = i + 1 := by unfold wrap64; omega
    have t0 : 0 ≤ (k + i) % n := Int.emod_nonneg _ (by omega)
    have t1 : (k + i) % n < n := Int.emod_lt_of_pos _ (by omega)
    rw [if_pos (by omega), w1, w2, fa_turn n1 (by omega)]
    simp only [Option.bind_some]
    have hf : ¬ rdOf false l ((k + i) % n) = true := by
      unfold rdOf
      intro h
      obtain ⟨i', g0, g1, g2⟩ := hinv _ h
      rw [Int.toNat_of_nonneg t0] at g2
      exact fa_apart g2 g1 (by omega)
    rw [if_neg (by omega), if_neg (by omega), if_pos t0, if_pos (by omega), if_neg hf]
    refine ih m (i + 1) _ (by omega) (by omega) (by omega) (by omega) (by rw [List.length_set]; exact hl) ?_
    intro j hj
    by_cases e : ((k + i) % n).toNat = j
    · exact ⟨i, i0, by omega, by omega⟩
    · rw [List.getD_eq_getElem?_getD, List.getElem?_set_ne e, ← List.getD_eq_getElem?_getD] at hj
      obtain ⟨i', g0, g1, g2⟩ := hinv j hj
      exact ⟨i', g0, by omega, g2⟩

theorem FrameAll : waterlinelaw22_FrameAll.Pure := by
  intro a0 a1 h0 h1
  refine ⟨100, ?_⟩
  have al : waterlinelaw22_alive.f 100 = some true := by decide +kernel
  have out : ∀ n, waterlinelaw22_FrameAll.j0 (n + 1) a0 a1 true true = some true := fun n => by simp only [waterlinelaw22_FrameAll.j0]; rfl
  unfold waterlinelaw22_FrameAll.f
  rw [al]
  simp only [Option.bind_some, if_true]
  by_cases c1 : a0 < 1
  · rw [if_pos c1]; exact out 99
  rw [if_neg c1]
  by_cases c2 : a0 > 50
  · rw [if_pos c2]; exact out 99
  rw [if_neg c2]
  by_cases c3 : a1 < 0
  · rw [if_pos c3]; exact out 99
  rw [if_neg c3]
  by_cases c4 : a1 > 1099511627776
  · rw [decide_eq_true c4]; exact out 99
  rw [decide_eq_false c4]
  simp only [waterlinelaw22_FrameAll.j0, Bool.false_eq_true, if_false]
  rw [if_pos (by omega), if_pos (by omega)]
  refine fa_loop (by omega) (by omega) (by omega) (by omega) a0.toNat _ 0 _ (by omega) (by omega) (by omega) (by omega) (by rw [List.length_replicate]; omega) ?_
  intro j hj
  rw [List.getD_eq_getElem?_getD, List.getElem?_replicate] at hj
  split at hj <;> simp at hj
end Go.Proofs.Ytblljhojelmmeaa.Pure
