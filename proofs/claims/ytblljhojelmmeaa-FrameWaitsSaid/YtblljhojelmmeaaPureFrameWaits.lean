/- Proved: whatever four ints the law is called with, it returns true: within its own guards the ticks that frame.Wait tells hold exactly queued+1 turns of the tenant, the last of them at the end. No condition. -/
import Derived.Test.YtblljhojelmmeaaPFrameWaitsx1
import Derived.OpenShut
namespace Go.Proofs.Ytblljhojelmmeaa.Pure
open Go.RowKit Go.Proofs.Ytblljhojelmmeaa.PFrameWaits Go.Proofs.YtblljhojelmmeaaW.PrintWords Go.Proofs.YtblljhojelmmeaaW.PrintLast

theorem fw_turn {a b : Int} (h : 1 ≤ a) (k : 0 ≤ b) : frame_Turn.f a b = some (b % a) := by
  unfold frame_Turn.f
  rw [if_neg (by omega), if_neg (by omega), if_neg (by omega), Int.tmod_eq_emod_of_nonneg k]

/-- the ticks till the first turn -/
def fw_first (T t k : Int) : Int := if t - k % T < 0 then t - k % T + T else t - k % T

theorem fw_step {T t k i : Int} (h1 : 1 ≤ T) (h8 : T ≤ 8) (t0 : 0 ≤ t) (t1 : t < T) (_k0 : 0 ≤ k) (_i0 : 0 ≤ i) :
    ((k + i) % T = t → (i + 1 + T - 1 - fw_first T t k) / T = (i + T - 1 - fw_first T t k) / T + 1) ∧
    (¬ (k + i) % T = t → (i + 1 + T - 1 - fw_first T t k) / T = (i + T - 1 - fw_first T t k) / T) := by
  unfold fw_first
  have : T = 1 ∨ T = 2 ∨ T = 3 ∨ T = 4 ∨ T = 5 ∨ T = 6 ∨ T = 7 ∨ T = 8 := by omega
  rcases this with rfl | rfl | rfl | rfl | rfl | rfl | rfl | rfl <;> constructor <;> intro h <;> split <;> omega

theorem fw_bounds {T t k q : Int} (h1 : 1 ≤ T) (h8 : T ≤ 8) (t0 : 0 ≤ t) (t1 : t < T) (_k0 : 0 ≤ k) (q0 : 0 ≤ q) (q1 : q ≤ 10) :
    0 ≤ fw_first T t k ∧ fw_first T t k < T ∧ fw_first T t k + 1 + q * T ≤ T * (q + 1) ∧ T * (q + 1) ≤ 88 ∧ 0 ≤ q * T ∧
    (k + (fw_first T t k + 1 + q * T) - 1) % T = t ∧ (fw_first T t k + 1 + q * T + T - 1 - fw_first T t k) / T = q + 1 := by
  unfold fw_first
  have : T = 1 ∨ T = 2 ∨ T = 3 ∨ T = 4 ∨ T = 5 ∨ T = 6 ∨ T = 7 ∨ T = 8 := by omega
  rcases this with rfl | rfl | rfl | rfl | rfl | rfl | rfl | rfl <;> split <;> omega

theorem fw_wait {T t k q : Int} (h1 : 1 ≤ T) (h8 : T ≤ 8) (t0 : 0 ≤ t) (t1 : t < T) (k0 : 0 ≤ k) (q0 : 0 ≤ q) (q1 : q ≤ 10) (m : Nat) :
    frame_Wait.f (m + 1) T t k q = some (fw_first T t k + 1 + q * T) := by
  obtain ⟨f0, f1, f2, f3, f4, _, _⟩ := fw_bounds h1 h8 t0 t1 k0 q0 q1
  have g0 : 0 ≤ k % T := Int.emod_nonneg _ (by omega)
  have g1 : k % T < T := Int.emod_lt_of_pos _ (by omega)
  unfold frame_Wait.f
  rw [fw_turn h1 k0]
  simp only [Option.bind_some, frame_Wait.j0]
  rw [if_neg (by omega), if_neg (by omega), if_neg (by omega), if_neg (by omega), if_neg (by omega)]
  have d : ¬ (q > 1073741824) := by omega
  simp only [decide_eq_false d, Bool.false_eq_true, if_false]
  unfold fw_first at *
  generalize hp : q * T = p at *
  have w1 : wrap64 (t - k % T) = t - k % T := by unfold wrap64; omega
  rw [w1]
  by_cases c : t - k % T < 0
  · rw [if_pos c] at *
    rw [if_pos c]
    unfold wrap64
    congr 1
    omega
  · rw [if_neg c] at *
    rw [if_neg c]
    unfold wrap64
    congr 1
    omega

theorem fw_loop {T t k q : Int} (h1 : 1 ≤ T) (h8 : T ≤ 8) (t0 : 0 ≤ t) (t1 : t < T) (k0 : 0 ≤ k) (k1 : k ≤ 1000) (q0 : 0 ≤ q) (q1 : q ≤ 10) (n : Int)
    (hn : n = fw_first T t k + 1 + q * T) (hq : (n + T - 1 - fw_first T t k) / T = q + 1) (hn88 : n ≤ 88) (_f0 : 0 ≤ fw_first T t k) (_f1 : fw_first T t k < T) (d : Nat) :
    ∀ (m : Nat) (i c : Int), 0 ≤ i → i ≤ n → n - i = d → d < m → c = (i + T - 1 - fw_first T t k) / T → 0 ≤ c → c ≤ i →
    waterlinelaw22_FrameWaits.l0 m T t k q n c i = some true := by
  induction d with
  | zero =>
    intro m i c i0 i1 hd hm hc c0 c1
    obtain ⟨m, rfl⟩ : ∃ m', m = m' + 1 := ⟨m - 1, by omega⟩
    simp only [waterlinelaw22_FrameWaits.l0]
    rw [if_neg (by omega)]
    have hi : i = n := by omega
    subst hi
    rw [hc, hq]
    have w : wrap64 (q + 1) = q + 1 := by unfold wrap64; omega
    rw [w]
    simp
  | succ d ih =>
    intro m i c i0 i1 hd hm hc c0 c1
    obtain ⟨m, rfl⟩ : ∃ m', m = m' + 1 := ⟨m - 1, by omega⟩
    simp only [waterlinelaw22_FrameWaits.l0]
    have w1 : wrap64 (k + i) = k + i := by unfold wrap64; omega
    have w2 : wrap64 (i + 1) = i + 1 := by unfold wrap64; omega
    have w3 : wrap64 (c + 1) = c + 1 := by unfold wrap64; omega
    rw [if_pos (by omega), w1, w2, w3, fw_turn h1 (by omega)]
    simp only [Option.bind_some]
    obtain ⟨s1, s2⟩ := fw_step h1 h8 t0 t1 k0 i0
    by_cases e : (k + i) % T = t
    · rw [if_pos e]
      exact ih m (i + 1) (c + 1) (by omega) (by omega) (by omega) (by omega) (by rw [s1 e, hc]) (by omega) (by omega)
    · rw [if_neg e]
      exact ih m (i + 1) c (by omega) (by omega) (by omega) (by omega) (by rw [s2 e, hc]) (by omega) (by omega)

theorem FrameWaits : waterlinelaw22_FrameWaits.Pure := by
  intro a0 a1 a2 a3 h0 h1 h2 h3
  refine ⟨100, ?_⟩
  have al : waterlinelaw22_alive.f 100 = some true := by decide +kernel
  have out : ∀ n, waterlinelaw22_FrameWaits.j0 (n + 1) a0 a1 a2 a3 true true = some true := fun n => by simp only [waterlinelaw22_FrameWaits.j0]; rfl
  unfold waterlinelaw22_FrameWaits.f
  rw [al]
  simp only [Option.bind_some, if_true]
  by_cases c1 : a0 < 1
  · rw [if_pos c1]; exact out 99
  rw [if_neg c1]
  by_cases c2 : a0 > 8
  · rw [if_pos c2]; exact out 99
  rw [if_neg c2]
  by_cases c3 : a1 < 0
  · rw [if_pos c3]; exact out 99
  rw [if_neg c3]
  by_cases c4 : a1 ≥ a0
  · rw [if_pos c4]; exact out 99
  rw [if_neg c4]
  by_cases c5 : a2 < 0
  · rw [if_pos c5]; exact out 99
  rw [if_neg c5]
  by_cases c6 : a2 > 1000
  · rw [if_pos c6]; exact out 99
  rw [if_neg c6]
  by_cases c7 : a3 < 0
  · rw [if_pos c7]; exact out 99
  rw [if_neg c7]
  by_cases c8 : a3 > 10
  · rw [decide_eq_true c8]; exact out 99
  rw [decide_eq_false c8]
  have g1 : 1 ≤ a0 := by omega
  have g2 : a0 ≤ 8 := by omega
  have g3 : 0 ≤ a1 := by omega
  have g4 : a1 < a0 := by omega
  have g5 : 0 ≤ a2 := by omega
  have g7 : 0 ≤ a3 := by omega
  have g8 : a3 ≤ 10 := by omega
  obtain ⟨f0, f1, f2, f3, f4, f5, f6⟩ := fw_bounds (k := a2) (q := a3) g1 g2 g3 g4 g5 g7 g8
  simp only [waterlinelaw22_FrameWaits.j0, Bool.false_eq_true, if_false]
  rw [fw_wait g1 g2 g3 g4 g5 g7 g8]
  simp only [Option.bind_some]
  have w1 : wrap64 (a3 + 1) = a3 + 1 := by unfold wrap64; omega
  generalize hn : fw_first a0 a1 a2 + 1 + a3 * a0 = n at *
  have w2 : wrap64 (a0 * (a3 + 1)) = a0 * (a3 + 1) := by
    generalize a0 * (a3 + 1) = z at *
    unfold wrap64; omega
  have w3 : wrap64 (wrap64 (a2 + n) - 1) = a2 + n - 1 := by unfold wrap64; omega
  rw [if_neg (by omega), w1, w2, if_neg (by omega), w3, fw_turn g1 (by omega), f5]
  simp only [Option.bind_some, bne_self_eq_false, waterlinelaw22_FrameWaits.j1, Bool.false_eq_true, if_false]
  exact fw_loop g1 g2 g3 g4 g5 (by omega) g7 g8 n hn.symm f6 (by omega) f0 f1 n.toNat _ 0 0 (by omega) (by omega) (by omega) (by omega)
    (by rw [Int.ediv_eq_zero_of_lt] <;> omega) (by omega) (by omega)
end Go.Proofs.Ytblljhojelmmeaa.Pure
