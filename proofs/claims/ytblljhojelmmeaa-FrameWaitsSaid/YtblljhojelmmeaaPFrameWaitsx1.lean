-- PRINTED BY print.sh 35421559b90ae4d0a3588c463048766b98c2df88dd9212a6774a882060cdf62d: not written by this session
import Derived.Test.YtblljhojelmmeaaPFrameWaitsx0
namespace Go.Proofs.Ytblljhojelmmeaa.PFrameWaits
open Go.RowKit Go.Proofs.YtblljhojelmmeaaW.PrintWords Go.Proofs.YtblljhojelmmeaaW.PrintLast Go.Proofs.YtblljhojelmmeaaW.PrintMore
attribute [local go_sem] max2_int min2_int max_two min_two max_three min_three max_four min_four   -- for this text's walks alone
set_option linter.unusedVariables false
set_option linter.unusedSimpArgs false

/-! ### frame_Turn: function 26 -/
def frame_Turn.f (a0 : Int) (a1 : Int) : Option (Int) := if a0 < 1 then (some (-1)) else (if a1 < 0 then (some (-1)) else (if a0 = 0 then (none) else (some (Int.tmod a1 a0))))
set_option maxHeartbeats 8000000 in
set_option maxRecDepth 100000 in
theorem frame_Turn.calls (a0 : Int) (a1 : Int) (r : Int) (w : World) (h : frame_Turn.f a0 a1 = some r) :
    Calls Try.prog 26 #[.int .i64 a0, .int .i64 a1] w fun e w' => e = .returned (.int .i64 r) ∧ Drawn0 w w' := by
  have H : (if a0 < 1 then (some (-1)) else (if a1 < 0 then (some (-1)) else (if a0 = 0 then (none) else (some (Int.tmod a1 a0))))) = some r := h
  clear h
  by_cases c3 : a0 < 1
  · rw [if_pos c3] at H
    have c3b0 : decide (a0 < 1) = true := decide_eq_true c3
    clear c3
    obtain rfl := Option.some.inj H
    go_enter Try.func26, Try.ntmps26
    go_wp2
    go_ret
    exact ⟨by first | rfl | (simp; done) | (simp [*]; done), by repeat (first | exact Drawn0.refl _ | apply Drawn0.step)⟩
  · rw [if_neg c3] at H
    have c3b0 : decide (a0 < 1) = false := decide_eq_false c3
    clear c3
    by_cases c4 : a1 < 0
    · rw [if_pos c4] at H
      have c4b0 : decide (a1 < 0) = true := decide_eq_true c4
      clear c4
      obtain rfl := Option.some.inj H
      go_enter Try.func26, Try.ntmps26
      go_wp2
      go_ret
      exact ⟨by first | rfl | (simp; done) | (simp [*]; done), by repeat (first | exact Drawn0.refl _ | apply Drawn0.step)⟩
    · rw [if_neg c4] at H
      have c4b0 : decide (a1 < 0) = false := decide_eq_false c4
      clear c4
      by_cases c5 : a0 = 0
      · rw [if_pos c5] at H
        exact absurd H (by simp)
      · rw [if_neg c5] at H
        have c5b0 : (a0 == 0) = false := beq_eq_false_iff_ne.mpr c5
        have c5b1 : (a0 != 0) = true := bne_iff_ne.mpr c5
        obtain rfl := Option.some.inj H
        go_enter Try.func26, Try.ntmps26
        go_wp2
        go_ret
        exact ⟨by first | rfl | (simp; done) | (simp [*]; done), by repeat (first | exact Drawn0.refl _ | apply Drawn0.step)⟩

/-! ### frame_Wait: function 28 -/
def frame_Wait.j0 : Nat → Int → Int → Int → Int → Bool → Option (Int)
  | 0, _, _, _, _, _ => none
  | k + 1, x0, x1, x3, x9, x36 => if x36 = true then (some (-1)) else (if (wrap64 (x1 - x9)) < 0 then (some (wrap64 ((wrap64 ((wrap64 ((wrap64 (x1 - x9)) + x0)) + 1)) + (wrap64 (x3 * x0))))) else (some (wrap64 ((wrap64 ((wrap64 (x1 - x9)) + 1)) + (wrap64 (x3 * x0))))))
def frame_Wait.f (k : Nat) (a0 : Int) (a1 : Int) (a2 : Int) (a3 : Int) : Option (Int) := (frame_Turn.f a0 a2).bind fun t101 => (if t101 = (-1) then (frame_Wait.j0 k a0 a1 a3 t101 true) else (if a0 > 1073741824 then (frame_Wait.j0 k a0 a1 a3 t101 true) else (if a1 < 0 then (frame_Wait.j0 k a0 a1 a3 t101 true) else (if a1 ≥ a0 then (frame_Wait.j0 k a0 a1 a3 t101 true) else (if a3 < 0 then (frame_Wait.j0 k a0 a1 a3 t101 true) else (frame_Wait.j0 k a0 a1 a3 t101 (decide (a3 > 1073741824))))))))
theorem frame_Wait.mono_l : ∀ k, (∀ y0 y1 y2 y3 y4, LeO (frame_Wait.j0 k y0 y1 y2 y3 y4) (frame_Wait.j0 (k + 1) y0 y1 y2 y3 y4))
  | 0 => fun _ _ _ _ _ r h => by simp [frame_Wait.j0] at h
  | k + 1 => by
    have ih0 := frame_Wait.mono_l k
    · intro y0 y1 y2 y3 y4
      unfold frame_Wait.j0
      repeat' first
      | (with_reducible exact ih0 _ _ _ _ _)
      | (with_reducible exact LeO.refl _)
      | (with_reducible exact LeO.none _)
      | (with_reducible refine LeO.ite ?_ ?_)
      | (with_reducible refine LeO.bind ?_ (fun _ => ?_))
      | exact ih0 _ _ _ _ _
      | exact LeO.none _
      | refine LeO.ite ?_ ?_
      | refine LeO.bind ?_ (fun _ => ?_)
theorem frame_Wait.mono : ∀ a0 a1 a2 a3 k, LeO (frame_Wait.f k a0 a1 a2 a3) (frame_Wait.f (k + 1) a0 a1 a2 a3) := by
  intro a0 a1 a2 a3 k
  have ih0 := frame_Wait.mono_l k
  unfold frame_Wait.f
  repeat' first
      | (with_reducible exact ih0 _ _ _ _ _)
      | (with_reducible exact LeO.refl _)
      | (with_reducible exact LeO.none _)
      | (with_reducible refine LeO.ite ?_ ?_)
      | (with_reducible refine LeO.bind ?_ (fun _ => ?_))
      | exact ih0 _ _ _ _ _
      | exact LeO.none _
      | refine LeO.ite ?_ ?_
      | refine LeO.bind ?_ (fun _ => ?_)
set_option maxHeartbeats 8000000 in
set_option maxRecDepth 100000 in
theorem frame_Wait.calls (k : Nat) (a0 : Int) (a1 : Int) (a2 : Int) (a3 : Int) (r : Int) (w : World) (h : frame_Wait.f k a0 a1 a2 a3 = some r) :
    Calls Try.prog 28 #[.int .i64 a0, .int .i64 a1, .int .i64 a2, .int .i64 a3] w fun e w' => e = .returned (.int .i64 r) ∧ Drawn0 w w' := by
  have H : ((frame_Turn.f a0 a2).bind fun t101 => (if t101 = (-1) then (frame_Wait.j0 k a0 a1 a3 t101 true) else (if a0 > 1073741824 then (frame_Wait.j0 k a0 a1 a3 t101 true) else (if a1 < 0 then (frame_Wait.j0 k a0 a1 a3 t101 true) else (if a1 ≥ a0 then (frame_Wait.j0 k a0 a1 a3 t101 true) else (if a3 < 0 then (frame_Wait.j0 k a0 a1 a3 t101 true) else (frame_Wait.j0 k a0 a1 a3 t101 (decide (a3 > 1073741824))))))))) = some r := h
  clear h
  replace H := Option.bind_eq_some_iff.mp H
  obtain ⟨t101, A50, H⟩ := H
  replace H : (if t101 = (-1) then (frame_Wait.j0 k a0 a1 a3 t101 true) else (if a0 > 1073741824 then (frame_Wait.j0 k a0 a1 a3 t101 true) else (if a1 < 0 then (frame_Wait.j0 k a0 a1 a3 t101 true) else (if a1 ≥ a0 then (frame_Wait.j0 k a0 a1 a3 t101 true) else (if a3 < 0 then (frame_Wait.j0 k a0 a1 a3 t101 true) else (frame_Wait.j0 k a0 a1 a3 t101 (decide (a3 > 1073741824)))))))) = some r := H
  have A5 := Aside0.mk A50
  clear A50
  have HC6 := Aside0.mk H
  clear H
  go_enter Try.func28, Try.ntmps28
  go_upto_region 2 with (first | ((with_reducible refine gate_callee (f := 26) rfl ?_); refine goesL_ (some 13) rfl rfl Try.func26 (by kernel_rfl) rfl #[.int .i64 a0, .int .i64 a2] rfl (by (try simp only [List.map_toArray, List.map_cons, List.map_nil]); first | done | rfl | (simp only [List.length_drop, List.length_take]; rfl)) ?_; (with_reducible refine (frame_Turn.calls a0 a2 t101 _ A5.out).mono ?_); rintro e w' ⟨rfl, ⟨nd, rfl⟩⟩; refine ⟨_, rfl, ?_⟩))
  (try simp only [Act.put, List.setIfInBounds_toArray, List.set_cons_zero, List.set_cons_succ])
  go_cut [36] (fun v36 wc => ∃ (kq : Nat) (x36_5 : Bool), v36 = .bool x36_5 ∧ Aside0 (frame_Wait.j0 kq a0 a1 a3 t101 x36_5 = some r) ∧ Aside0 (kq ≤ k) ∧ Drawn0 w wc)
  case first =>
    have H := HC6.out
    clear HC6
    by_cases c7 : t101 = (-1)
    · rw [if_pos c7] at H
      have c7b0 : (t101 == (-1)) = true := beq_iff_eq.mpr c7
      have c7b1 : (t101 != (-1)) = false := bne_eq_false_iff_eq.mpr c7
      clear c7
      (first | rw [c7b0] | (simp only [i64_w, i32_w]; rw [c7b0]) | skip)
      have H' := Aside0.mk H
      clear H
      go_wp2
      go_meet
      case rel => exact ⟨_, (true), (by first | rfl | (simp; done) | (simp [*]; done)), H', ⟨by first | omega | exact Nat.le_refl _⟩, by repeat (first | exact Drawn0.refl _ | apply Drawn0.step)⟩
    · rw [if_neg c7] at H
      have c7b0 : (t101 == (-1)) = false := beq_eq_false_iff_ne.mpr c7
      have c7b1 : (t101 != (-1)) = true := bne_iff_ne.mpr c7
      (first | rw [c7b0] | (simp only [i64_w, i32_w]; rw [c7b0]) | skip)
      by_cases c8 : a0 > 1073741824
      · rw [if_pos c8] at H
        have c8b0 : decide (1073741824 < a0) = true := decide_eq_true c8
        clear c8
        have H' := Aside0.mk H
        clear H
        go_wp2
        go_meet
        case rel => exact ⟨_, (true), (by first | rfl | (simp; done) | (simp [*]; done)), H', ⟨by first | omega | exact Nat.le_refl _⟩, by repeat (first | exact Drawn0.refl _ | apply Drawn0.step)⟩
      · rw [if_neg c8] at H
        have c8b0 : decide (1073741824 < a0) = false := decide_eq_false c8
        clear c8
        by_cases c9 : a1 < 0
        · rw [if_pos c9] at H
          have c9b0 : decide (a1 < 0) = true := decide_eq_true c9
          clear c9
          have H' := Aside0.mk H
          clear H
          go_wp2
          go_meet
          case rel => exact ⟨_, (true), (by first | rfl | (simp; done) | (simp [*]; done)), H', ⟨by first | omega | exact Nat.le_refl _⟩, by repeat (first | exact Drawn0.refl _ | apply Drawn0.step)⟩
        · rw [if_neg c9] at H
          have c9b0 : decide (a1 < 0) = false := decide_eq_false c9
          clear c9
          by_cases c10 : a1 ≥ a0
          · rw [if_pos c10] at H
            have c10b0 : decide (a0 ≤ a1) = true := decide_eq_true c10
            clear c10
            have H' := Aside0.mk H
            clear H
            go_wp2
            go_meet
            case rel => exact ⟨_, (true), (by first | rfl | (simp; done) | (simp [*]; done)), H', ⟨by first | omega | exact Nat.le_refl _⟩, by repeat (first | exact Drawn0.refl _ | apply Drawn0.step)⟩
          · rw [if_neg c10] at H
            have c10b0 : decide (a0 ≤ a1) = false := decide_eq_false c10
            clear c10
            by_cases c11 : a3 < 0
            · rw [if_pos c11] at H
              have c11b0 : decide (a3 < 0) = true := decide_eq_true c11
              clear c11
              have H' := Aside0.mk H
              clear H
              go_wp2
              go_meet
              case rel => exact ⟨_, (true), (by first | rfl | (simp; done) | (simp [*]; done)), H', ⟨by first | omega | exact Nat.le_refl _⟩, by repeat (first | exact Drawn0.refl _ | apply Drawn0.step)⟩
            · rw [if_neg c11] at H
              have c11b0 : decide (a3 < 0) = false := decide_eq_false c11
              clear c11
              have H' := Aside0.mk H
              clear H
              go_wp2
              go_meet
              case rel => exact ⟨_, (decide (a3 > 1073741824)), (by first | rfl | (simp; done) | (simp [*]; done)), H', ⟨by first | omega | exact Nat.le_refl _⟩, by repeat (first | exact Drawn0.refl _ | apply Drawn0.step)⟩
  case rest =>
    clear HC6
    try clear c1
    try clear c2
    try clear p2
    try clear c7
    try clear c7b0
    try clear c7b1
    try clear c8
    try clear c8b0
    try clear c9
    try clear c9b0
    try clear c10
    try clear c10b0
    try clear c11
    try clear c11b0
    obtain ⟨kq, x36_5, rfl, HA, HJ5, ⟨mc5, rfl⟩⟩ := hcut
    cases kq with
    | zero => exact absurd HA.out (by simp [frame_Wait.j0])
    | succ kj5 =>
      have H := HA.out
      clear HA
      simp only [frame_Wait.j0] at H
      by_cases c12 : x36_5 = true
      · subst c12
        have H1 : (some (-1)) = some r := by rw [if_pos rfl] at H; exact H
        clear H
        have H := H1
        clear H1
        obtain rfl := Option.some.inj H
        go_wp2
        go_ret
        exact ⟨by first | rfl | (simp; done) | (simp [*]; done), by repeat (first | exact Drawn0.refl _ | apply Drawn0.step)⟩
      · replace c12 := Bool.eq_false_iff.mpr c12
        subst c12
        have H1 : (if (wrap64 (a1 - t101)) < 0 then (some (wrap64 ((wrap64 ((wrap64 ((wrap64 (a1 - t101)) + a0)) + 1)) + (wrap64 (a3 * a0))))) else (some (wrap64 ((wrap64 ((wrap64 (a1 - t101)) + 1)) + (wrap64 (a3 * a0)))))) = some r := by rw [if_neg (show ¬ (false = true) by decide)] at H; exact H
        clear H
        have H := H1
        clear H1
        by_cases c13 : (wrap64 (a1 - t101)) < 0
        · rw [if_pos c13] at H
          have c13b0 : decide ((wrap64 (a1 - t101)) < 0) = true := decide_eq_true c13
          clear c13
          obtain rfl := Option.some.inj H
          go_wp2
          go_ret
          exact ⟨by first | rfl | (simp; done) | (simp [*]; done), by repeat (first | exact Drawn0.refl _ | apply Drawn0.step)⟩
        · rw [if_neg c13] at H
          have c13b0 : decide ((wrap64 (a1 - t101)) < 0) = false := decide_eq_false c13
          clear c13
          obtain rfl := Option.some.inj H
          go_wp2
          go_ret
          exact ⟨by first | rfl | (simp; done) | (simp [*]; done), by repeat (first | exact Drawn0.refl _ | apply Drawn0.step)⟩

/-! ### waterlinelaw22_alive: function 25 -/
def waterlinelaw22_alive.f (k : Nat)  : Option (Bool) := (frame_Turn.f 3 4).bind fun t102 => (if t102 = 1 then ((frame_Wait.f k 3 1 4 0).bind fun t103 => (some (t103 == 1))) else (some false))
theorem waterlinelaw22_alive.mono : ∀ k, LeO (waterlinelaw22_alive.f k ) (waterlinelaw22_alive.f (k + 1) ) := by
  intro  k
  unfold waterlinelaw22_alive.f
  repeat' first
      | (with_reducible exact frame_Wait.mono _ _ _ _ _)
      | (with_reducible exact LeO.refl _)
      | (with_reducible exact LeO.none _)
      | (with_reducible refine LeO.ite ?_ ?_)
      | (with_reducible refine LeO.bind ?_ (fun _ => ?_))
      | exact frame_Wait.mono _ _ _ _ _
      | exact LeO.none _
      | refine LeO.ite ?_ ?_
      | refine LeO.bind ?_ (fun _ => ?_)
set_option maxHeartbeats 8000000 in
set_option maxRecDepth 100000 in
theorem waterlinelaw22_alive.calls (k : Nat)  (r : Bool) (w : World) (h : waterlinelaw22_alive.f k  = some r) :
    Calls Try.prog 25 #[] w fun e w' => e = .returned (.bool r) ∧ Drawn0 w w' := by
  have H : ((frame_Turn.f 3 4).bind fun t102 => (if t102 = 1 then ((frame_Wait.f k 3 1 4 0).bind fun t103 => (some (t103 == 1))) else (some false))) = some r := h
  clear h
  replace H := Option.bind_eq_some_iff.mp H
  obtain ⟨t102, A10, H⟩ := H
  replace H : (if t102 = 1 then ((frame_Wait.f k 3 1 4 0).bind fun t103 => (some (t103 == 1))) else (some false)) = some r := H
  have A1 := Aside0.mk A10
  clear A10
  by_cases c2 : t102 = 1
  · rw [if_pos c2] at H
    have c2b0 : (t102 == 1) = true := beq_iff_eq.mpr c2
    have c2b1 : (t102 != 1) = false := bne_eq_false_iff_eq.mpr c2
    clear c2
    replace H := Option.bind_eq_some_iff.mp H
    obtain ⟨t103, A30, H⟩ := H
    replace H : (some (t103 == 1)) = some r := H
    have A3 := Aside0.mk A30
    clear A30
    obtain rfl := Option.some.inj H
    go_enter Try.func25, Try.ntmps25
    go_wp2_with (first | ((with_reducible refine gate_callee (f := 26) rfl ?_); refine goesL_ (some 1) rfl rfl Try.func26 (by kernel_rfl) rfl #[.int .i64 3, .int .i64 4] rfl (by (try simp only [List.map_toArray, List.map_cons, List.map_nil]); first | done | rfl | (simp only [List.length_drop, List.length_take]; rfl)) ?_; (with_reducible refine (frame_Turn.calls 3 4 t102 _ A1.out).mono ?_); rintro e w' ⟨rfl, ⟨nd, rfl⟩⟩; refine ⟨_, rfl, ?_⟩) | (go_at_call 28; (with_reducible refine (frame_Wait.calls k 3 1 4 0 t103 _ A3.out).mono ?_); rintro e w' ⟨rfl, ⟨nd, rfl⟩⟩))
    go_ret
    exact ⟨by first | rfl | (simp; done) | (simp [*]; done), by repeat (first | exact Drawn0.refl _ | apply Drawn0.step)⟩
  · rw [if_neg c2] at H
    have c2b0 : (t102 == 1) = false := beq_eq_false_iff_ne.mpr c2
    have c2b1 : (t102 != 1) = true := bne_iff_ne.mpr c2
    obtain rfl := Option.some.inj H
    go_enter Try.func25, Try.ntmps25
    go_wp2_with (first | ((with_reducible refine gate_callee (f := 26) rfl ?_); refine goesL_ (some 1) rfl rfl Try.func26 (by kernel_rfl) rfl #[.int .i64 3, .int .i64 4] rfl (by (try simp only [List.map_toArray, List.map_cons, List.map_nil]); first | done | rfl | (simp only [List.length_drop, List.length_take]; rfl)) ?_; (with_reducible refine (frame_Turn.calls 3 4 t102 _ A1.out).mono ?_); rintro e w' ⟨rfl, ⟨nd, rfl⟩⟩; refine ⟨_, rfl, ?_⟩))
    go_ret
    exact ⟨by first | rfl | (simp; done) | (simp [*]; done), by repeat (first | exact Drawn0.refl _ | apply Drawn0.step)⟩

/-! ### waterlinelaw22_FrameWaits: function 10 -/
mutual
def waterlinelaw22_FrameWaits.j0 : Nat → Int → Int → Int → Int → Bool → Bool → Option (Bool)
  | 0, _, _, _, _, _, _ => none
  | k + 1, x0, x1, x2, x3, x9, x48 => if x48 = true then (some x9) else ((frame_Wait.f k x0 x1 x2 x3).bind fun t105 => (if t105 < 1 then (waterlinelaw22_FrameWaits.j1 k x0 x1 x2 x3 t105 true) else (if t105 > (wrap64 (x0 * (wrap64 (x3 + 1)))) then (waterlinelaw22_FrameWaits.j1 k x0 x1 x2 x3 t105 true) else ((frame_Turn.f x0 (wrap64 ((wrap64 (x2 + t105)) - 1))).bind fun t106 => (waterlinelaw22_FrameWaits.j1 k x0 x1 x2 x3 t105 (t106 != x1))))))
def waterlinelaw22_FrameWaits.j1 : Nat → Int → Int → Int → Int → Int → Bool → Option (Bool)
  | 0, _, _, _, _, _, _ => none
  | k + 1, x0, x1, x2, x3, x10, x74 => if x74 = true then (some false) else (waterlinelaw22_FrameWaits.l0 k x0 x1 x2 x3 x10 0 0)
def waterlinelaw22_FrameWaits.l0 : Nat → Int → Int → Int → Int → Int → Int → Int → Option (Bool)
  | 0, _, _, _, _, _, _, _ => none
  | k + 1, x0, x1, x2, x3, x10, x11, x12 => if x12 < x10 then ((frame_Turn.f x0 (wrap64 (x2 + x12))).bind fun t107 => (if t107 = x1 then (waterlinelaw22_FrameWaits.l0 k x0 x1 x2 x3 x10 (wrap64 (x11 + 1)) (wrap64 (x12 + 1))) else (waterlinelaw22_FrameWaits.l0 k x0 x1 x2 x3 x10 x11 (wrap64 (x12 + 1))))) else (some (x11 == (wrap64 (x3 + 1))))
end
def waterlinelaw22_FrameWaits.f (k : Nat) (a0 : Int) (a1 : Int) (a2 : Int) (a3 : Int) : Option (Bool) := (waterlinelaw22_alive.f k).bind fun t104 => (if t104 = true then (if a0 < 1 then (waterlinelaw22_FrameWaits.j0 k a0 a1 a2 a3 t104 true) else (if a0 > 8 then (waterlinelaw22_FrameWaits.j0 k a0 a1 a2 a3 t104 true) else (if a1 < 0 then (waterlinelaw22_FrameWaits.j0 k a0 a1 a2 a3 t104 true) else (if a1 ≥ a0 then (waterlinelaw22_FrameWaits.j0 k a0 a1 a2 a3 t104 true) else (if a2 < 0 then (waterlinelaw22_FrameWaits.j0 k a0 a1 a2 a3 t104 true) else (if a2 > 1000 then (waterlinelaw22_FrameWaits.j0 k a0 a1 a2 a3 t104 true) else (if a3 < 0 then (waterlinelaw22_FrameWaits.j0 k a0 a1 a2 a3 t104 true) else (waterlinelaw22_FrameWaits.j0 k a0 a1 a2 a3 t104 (decide (a3 > 10)))))))))) else (waterlinelaw22_FrameWaits.j0 k a0 a1 a2 a3 t104 true))
theorem waterlinelaw22_FrameWaits.mono_l : ∀ k, (∀ y0 y1 y2 y3 y4 y5, LeO (waterlinelaw22_FrameWaits.j0 k y0 y1 y2 y3 y4 y5) (waterlinelaw22_FrameWaits.j0 (k + 1) y0 y1 y2 y3 y4 y5)) ∧ (∀ y0 y1 y2 y3 y4 y5, LeO (waterlinelaw22_FrameWaits.j1 k y0 y1 y2 y3 y4 y5) (waterlinelaw22_FrameWaits.j1 (k + 1) y0 y1 y2 y3 y4 y5)) ∧ (∀ y0 y1 y2 y3 y4 y5 y6, LeO (waterlinelaw22_FrameWaits.l0 k y0 y1 y2 y3 y4 y5 y6) (waterlinelaw22_FrameWaits.l0 (k + 1) y0 y1 y2 y3 y4 y5 y6))
  | 0 => ⟨fun _ _ _ _ _ _ r h => by simp [waterlinelaw22_FrameWaits.j0] at h, fun _ _ _ _ _ _ r h => by simp [waterlinelaw22_FrameWaits.j1] at h, fun _ _ _ _ _ _ _ r h => by simp [waterlinelaw22_FrameWaits.l0] at h⟩
  | k + 1 => by
    obtain ⟨ih0, ih1, ih2⟩ := waterlinelaw22_FrameWaits.mono_l k
    refine ⟨?_, ?_, ?_⟩
    · intro y0 y1 y2 y3 y4 y5
      unfold waterlinelaw22_FrameWaits.j0
      repeat' first
      | (with_reducible exact ih0 _ _ _ _ _ _)
      | (with_reducible exact ih1 _ _ _ _ _ _)
      | (with_reducible exact ih2 _ _ _ _ _ _ _)
      | (with_reducible exact frame_Wait.mono _ _ _ _ _)
      | (with_reducible exact waterlinelaw22_alive.mono _)
      | (with_reducible exact LeO.refl _)
      | (with_reducible exact LeO.none _)
      | (with_reducible refine LeO.ite ?_ ?_)
      | (with_reducible refine LeO.bind ?_ (fun _ => ?_))
      | exact ih0 _ _ _ _ _ _
      | exact ih1 _ _ _ _ _ _
      | exact ih2 _ _ _ _ _ _ _
      | exact frame_Wait.mono _ _ _ _ _
      | exact waterlinelaw22_alive.mono _
      | exact LeO.none _
      | refine LeO.ite ?_ ?_
      | refine LeO.bind ?_ (fun _ => ?_)
    · intro y0 y1 y2 y3 y4 y5
      unfold waterlinelaw22_FrameWaits.j1
      repeat' first
      | (with_reducible exact ih0 _ _ _ _ _ _)
      | (with_reducible exact ih1 _ _ _ _ _ _)
      | (with_reducible exact ih2 _ _ _ _ _ _ _)
      | (with_reducible exact frame_Wait.mono _ _ _ _ _)
      | (with_reducible exact waterlinelaw22_alive.mono _)
      | (with_reducible exact LeO.refl _)
      | (with_reducible exact LeO.none _)
      | (with_reducible refine LeO.ite ?_ ?_)
      | (with_reducible refine LeO.bind ?_ (fun _ => ?_))
      | exact ih0 _ _ _ _ _ _
      | exact ih1 _ _ _ _ _ _
      | exact ih2 _ _ _ _ _ _ _
      | exact frame_Wait.mono _ _ _ _ _
      | exact waterlinelaw22_alive.mono _
      | exact LeO.none _
      | refine LeO.ite ?_ ?_
      | refine LeO.bind ?_ (fun _ => ?_)
    · intro y0 y1 y2 y3 y4 y5 y6
      unfold waterlinelaw22_FrameWaits.l0
      repeat' first
      | (with_reducible exact ih0 _ _ _ _ _ _)
      | (with_reducible exact ih1 _ _ _ _ _ _)
      | (with_reducible exact ih2 _ _ _ _ _ _ _)
      | (with_reducible exact frame_Wait.mono _ _ _ _ _)
      | (with_reducible exact waterlinelaw22_alive.mono _)
      | (with_reducible exact LeO.refl _)
      | (with_reducible exact LeO.none _)
      | (with_reducible refine LeO.ite ?_ ?_)
      | (with_reducible refine LeO.bind ?_ (fun _ => ?_))
      | exact ih0 _ _ _ _ _ _
      | exact ih1 _ _ _ _ _ _
      | exact ih2 _ _ _ _ _ _ _
      | exact frame_Wait.mono _ _ _ _ _
      | exact waterlinelaw22_alive.mono _
      | exact LeO.none _
      | refine LeO.ite ?_ ?_
      | refine LeO.bind ?_ (fun _ => ?_)
theorem waterlinelaw22_FrameWaits.mono : ∀ a0 a1 a2 a3 k, LeO (waterlinelaw22_FrameWaits.f k a0 a1 a2 a3) (waterlinelaw22_FrameWaits.f (k + 1) a0 a1 a2 a3) := by
  intro a0 a1 a2 a3 k
  obtain ⟨ih0, ih1, ih2⟩ := waterlinelaw22_FrameWaits.mono_l k
  unfold waterlinelaw22_FrameWaits.f
  repeat' first
      | (with_reducible exact ih0 _ _ _ _ _ _)
      | (with_reducible exact ih1 _ _ _ _ _ _)
      | (with_reducible exact ih2 _ _ _ _ _ _ _)
      | (with_reducible exact frame_Wait.mono _ _ _ _ _)
      | (with_reducible exact waterlinelaw22_alive.mono _)
      | (with_reducible exact LeO.refl _)
      | (with_reducible exact LeO.none _)
      | (with_reducible refine LeO.ite ?_ ?_)
      | (with_reducible refine LeO.bind ?_ (fun _ => ?_))
      | exact ih0 _ _ _ _ _ _
      | exact ih1 _ _ _ _ _ _
      | exact ih2 _ _ _ _ _ _ _
      | exact frame_Wait.mono _ _ _ _ _
      | exact waterlinelaw22_alive.mono _
      | exact LeO.none _
      | refine LeO.ite ?_ ?_
      | refine LeO.bind ?_ (fun _ => ?_)
set_option maxHeartbeats 8000000 in
set_option maxRecDepth 100000 in
theorem waterlinelaw22_FrameWaits.calls (k : Nat) (a0 : Int) (a1 : Int) (a2 : Int) (a3 : Int) (r : Bool) (w : World) (h : waterlinelaw22_FrameWaits.f k a0 a1 a2 a3 = some r) :
    Calls Try.prog 10 #[.int .i64 a0, .int .i64 a1, .int .i64 a2, .int .i64 a3] w fun e w' => e = .returned (.bool r) ∧ Drawn0 w w' := by
  have H : ((waterlinelaw22_alive.f k).bind fun t104 => (if t104 = true then (if a0 < 1 then (waterlinelaw22_FrameWaits.j0 k a0 a1 a2 a3 t104 true) else (if a0 > 8 then (waterlinelaw22_FrameWaits.j0 k a0 a1 a2 a3 t104 true) else (if a1 < 0 then (waterlinelaw22_FrameWaits.j0 k a0 a1 a2 a3 t104 true) else (if a1 ≥ a0 then (waterlinelaw22_FrameWaits.j0 k a0 a1 a2 a3 t104 true) else (if a2 < 0 then (waterlinelaw22_FrameWaits.j0 k a0 a1 a2 a3 t104 true) else (if a2 > 1000 then (waterlinelaw22_FrameWaits.j0 k a0 a1 a2 a3 t104 true) else (if a3 < 0 then (waterlinelaw22_FrameWaits.j0 k a0 a1 a2 a3 t104 true) else (waterlinelaw22_FrameWaits.j0 k a0 a1 a2 a3 t104 (decide (a3 > 10)))))))))) else (waterlinelaw22_FrameWaits.j0 k a0 a1 a2 a3 t104 true))) = some r := h
  clear h
  replace H := Option.bind_eq_some_iff.mp H
  obtain ⟨t104, A50, H⟩ := H
  replace H : (if t104 = true then (if a0 < 1 then (waterlinelaw22_FrameWaits.j0 k a0 a1 a2 a3 t104 true) else (if a0 > 8 then (waterlinelaw22_FrameWaits.j0 k a0 a1 a2 a3 t104 true) else (if a1 < 0 then (waterlinelaw22_FrameWaits.j0 k a0 a1 a2 a3 t104 true) else (if a1 ≥ a0 then (waterlinelaw22_FrameWaits.j0 k a0 a1 a2 a3 t104 true) else (if a2 < 0 then (waterlinelaw22_FrameWaits.j0 k a0 a1 a2 a3 t104 true) else (if a2 > 1000 then (waterlinelaw22_FrameWaits.j0 k a0 a1 a2 a3 t104 true) else (if a3 < 0 then (waterlinelaw22_FrameWaits.j0 k a0 a1 a2 a3 t104 true) else (waterlinelaw22_FrameWaits.j0 k a0 a1 a2 a3 t104 (decide (a3 > 10)))))))))) else (waterlinelaw22_FrameWaits.j0 k a0 a1 a2 a3 t104 true)) = some r := H
  have A5 := Aside0.mk A50
  clear A50
  have HC6 := Aside0.mk H
  clear H
  go_enter Try.func10, Try.ntmps10
  go_upto_region 2 with (first | ((with_reducible refine gate_callee (f := 25) rfl ?_); refine goesL_ (some 13) rfl rfl Try.func25 (by kernel_rfl) rfl #[] rfl (by (try simp only [List.map_toArray, List.map_cons, List.map_nil]); first | done | rfl | (simp only [List.length_drop, List.length_take]; rfl)) ?_; (with_reducible refine (waterlinelaw22_alive.calls k  t104 _ A5.out).mono ?_); rintro e w' ⟨rfl, ⟨nd, rfl⟩⟩; refine ⟨_, rfl, ?_⟩))
  (try simp only [Act.put, List.setIfInBounds_toArray, List.set_cons_zero, List.set_cons_succ])
  go_cut [48] (fun v48 wc => ∃ (kq : Nat) (x48_5 : Bool), v48 = .bool x48_5 ∧ Aside0 (waterlinelaw22_FrameWaits.j0 kq a0 a1 a2 a3 t104 x48_5 = some r) ∧ Aside0 (kq ≤ k) ∧ Drawn0 w wc)
  case first =>
    have H := HC6.out
    clear HC6
    by_cases c7 : t104 = true
    · subst c7
      have H1 : (if a0 < 1 then (waterlinelaw22_FrameWaits.j0 k a0 a1 a2 a3 true true) else (if a0 > 8 then (waterlinelaw22_FrameWaits.j0 k a0 a1 a2 a3 true true) else (if a1 < 0 then (waterlinelaw22_FrameWaits.j0 k a0 a1 a2 a3 true true) else (if a1 ≥ a0 then (waterlinelaw22_FrameWaits.j0 k a0 a1 a2 a3 true true) else (if a2 < 0 then (waterlinelaw22_FrameWaits.j0 k a0 a1 a2 a3 true true) else (if a2 > 1000 then (waterlinelaw22_FrameWaits.j0 k a0 a1 a2 a3 true true) else (if a3 < 0 then (waterlinelaw22_FrameWaits.j0 k a0 a1 a2 a3 true true) else (waterlinelaw22_FrameWaits.j0 k a0 a1 a2 a3 true (decide (a3 > 10)))))))))) = some r := by rw [if_pos rfl] at H; exact H
      clear H
      have H := H1
      clear H1
      by_cases c8 : a0 < 1
      · rw [if_pos c8] at H
        have c8b0 : decide (a0 < 1) = true := decide_eq_true c8
        clear c8
        (first | rw [c8b0] | (simp only [i64_w, i32_w]; rw [c8b0]) | skip)
        have H' := Aside0.mk H
        clear H
        go_wp2
        go_meet
        case rel => exact ⟨_, (true), (by first | rfl | (simp; done) | (simp [*]; done)), H', ⟨by first | omega | exact Nat.le_refl _⟩, by repeat (first | exact Drawn0.refl _ | apply Drawn0.step)⟩
      · rw [if_neg c8] at H
        have c8b0 : decide (a0 < 1) = false := decide_eq_false c8
        clear c8
        (first | rw [c8b0] | (simp only [i64_w, i32_w]; rw [c8b0]) | skip)
        by_cases c9 : a0 > 8
        · rw [if_pos c9] at H
          have c9b0 : decide (8 < a0) = true := decide_eq_true c9
          clear c9
          have H' := Aside0.mk H
          clear H
          go_wp2
          go_meet
          case rel => exact ⟨_, (true), (by first | rfl | (simp; done) | (simp [*]; done)), H', ⟨by first | omega | exact Nat.le_refl _⟩, by repeat (first | exact Drawn0.refl _ | apply Drawn0.step)⟩
        · rw [if_neg c9] at H
          have c9b0 : decide (8 < a0) = false := decide_eq_false c9
          clear c9
          by_cases c10 : a1 < 0
          · rw [if_pos c10] at H
            have c10b0 : decide (a1 < 0) = true := decide_eq_true c10
            clear c10
            have H' := Aside0.mk H
            clear H
            go_wp2
            go_meet
            case rel => exact ⟨_, (true), (by first | rfl | (simp; done) | (simp [*]; done)), H', ⟨by first | omega | exact Nat.le_refl _⟩, by repeat (first | exact Drawn0.refl _ | apply Drawn0.step)⟩
          · rw [if_neg c10] at H
            have c10b0 : decide (a1 < 0) = false := decide_eq_false c10
            clear c10
            by_cases c11 : a1 ≥ a0
            · rw [if_pos c11] at H
              have c11b0 : decide (a0 ≤ a1) = true := decide_eq_true c11
              clear c11
              have H' := Aside0.mk H
              clear H
              go_wp2
              go_meet
              case rel => exact ⟨_, (true), (by first | rfl | (simp; done) | (simp [*]; done)), H', ⟨by first | omega | exact Nat.le_refl _⟩, by repeat (first | exact Drawn0.refl _ | apply Drawn0.step)⟩
            · rw [if_neg c11] at H
              have c11b0 : decide (a0 ≤ a1) = false := decide_eq_false c11
              clear c11
              by_cases c12 : a2 < 0
              · rw [if_pos c12] at H
                have c12b0 : decide (a2 < 0) = true := decide_eq_true c12
                clear c12
                have H' := Aside0.mk H
                clear H
                go_wp2
                go_meet
                case rel => exact ⟨_, (true), (by first | rfl | (simp; done) | (simp [*]; done)), H', ⟨by first | omega | exact Nat.le_refl _⟩, by repeat (first | exact Drawn0.refl _ | apply Drawn0.step)⟩
              · rw [if_neg c12] at H
                have c12b0 : decide (a2 < 0) = false := decide_eq_false c12
                clear c12
                by_cases c13 : a2 > 1000
                · rw [if_pos c13] at H
                  have c13b0 : decide (1000 < a2) = true := decide_eq_true c13
                  clear c13
                  have H' := Aside0.mk H
                  clear H
                  go_wp2
                  go_meet
                  case rel => exact ⟨_, (true), (by first | rfl | (simp; done) | (simp [*]; done)), H', ⟨by first | omega | exact Nat.le_refl _⟩, by repeat (first | exact Drawn0.refl _ | apply Drawn0.step)⟩
                · rw [if_neg c13] at H
                  have c13b0 : decide (1000 < a2) = false := decide_eq_false c13
                  clear c13
                  by_cases c14 : a3 < 0
                  · rw [if_pos c14] at H
                    have c14b0 : decide (a3 < 0) = true := decide_eq_true c14
                    clear c14
                    have H' := Aside0.mk H
                    clear H
                    go_wp2
                    go_meet
                    case rel => exact ⟨_, (true), (by first | rfl | (simp; done) | (simp [*]; done)), H', ⟨by first | omega | exact Nat.le_refl _⟩, by repeat (first | exact Drawn0.refl _ | apply Drawn0.step)⟩
                  · rw [if_neg c14] at H
                    have c14b0 : decide (a3 < 0) = false := decide_eq_false c14
                    clear c14
                    have H' := Aside0.mk H
                    clear H
                    go_wp2
                    go_meet
                    case rel => exact ⟨_, (decide (a3 > 10)), (by first | rfl | (simp; done) | (simp [*]; done)), H', ⟨by first | omega | exact Nat.le_refl _⟩, by repeat (first | exact Drawn0.refl _ | apply Drawn0.step)⟩
    · replace c7 := Bool.eq_false_iff.mpr c7
      subst c7
      have H1 : (waterlinelaw22_FrameWaits.j0 k a0 a1 a2 a3 false true) = some r := by rw [if_neg (show ¬ (false = true) by decide)] at H; exact H
      clear H
      have H := H1
      clear H1
      have H' := Aside0.mk H
      clear H
      go_wp2
      go_meet
      case rel => exact ⟨_, (true), (by first | rfl | (simp; done) | (simp [*]; done)), H', ⟨by first | omega | exact Nat.le_refl _⟩, by repeat (first | exact Drawn0.refl _ | apply Drawn0.step)⟩
  case rest =>
    clear HC6
    try clear c1
    try clear c2
    try clear p2
    try clear c7
    try clear c8
    try clear c8b0
    try clear c9
    try clear c9b0
    try clear c10
    try clear c10b0
    try clear c11
    try clear c11b0
    try clear c12
    try clear c12b0
    try clear c13
    try clear c13b0
    try clear c14
    try clear c14b0
    obtain ⟨kq, x48_5, rfl, HA, HJ5, ⟨mc5, rfl⟩⟩ := hcut
    cases kq with
    | zero => exact absurd HA.out (by simp [waterlinelaw22_FrameWaits.j0])
    | succ kj5 =>
      have H := HA.out
      clear HA
      simp only [waterlinelaw22_FrameWaits.j0] at H
      by_cases c15 : x48_5 = true
      · subst c15
        have H1 : (some t104) = some r := by rw [if_pos rfl] at H; exact H
        clear H
        have H := H1
        clear H1
        obtain rfl := Option.some.inj H
        go_wp2
        go_ret
        exact ⟨by first | rfl | (simp; done) | (simp [*]; done), by repeat (first | exact Drawn0.refl _ | apply Drawn0.step)⟩
      · replace c15 := Bool.eq_false_iff.mpr c15
        subst c15
        have H1 : ((frame_Wait.f kj5 a0 a1 a2 a3).bind fun t105 => (if t105 < 1 then (waterlinelaw22_FrameWaits.j1 kj5 a0 a1 a2 a3 t105 true) else (if t105 > (wrap64 (a0 * (wrap64 (a3 + 1)))) then (waterlinelaw22_FrameWaits.j1 kj5 a0 a1 a2 a3 t105 true) else ((frame_Turn.f a0 (wrap64 ((wrap64 (a2 + t105)) - 1))).bind fun t106 => (waterlinelaw22_FrameWaits.j1 kj5 a0 a1 a2 a3 t105 (t106 != a1)))))) = some r := by rw [if_neg (show ¬ (false = true) by decide)] at H; exact H
        clear H
        have H := H1
        clear H1
        replace H := Option.bind_eq_some_iff.mp H
        obtain ⟨t105, A160, H⟩ := H
        replace H : (if t105 < 1 then (waterlinelaw22_FrameWaits.j1 kj5 a0 a1 a2 a3 t105 true) else (if t105 > (wrap64 (a0 * (wrap64 (a3 + 1)))) then (waterlinelaw22_FrameWaits.j1 kj5 a0 a1 a2 a3 t105 true) else ((frame_Turn.f a0 (wrap64 ((wrap64 (a2 + t105)) - 1))).bind fun t106 => (waterlinelaw22_FrameWaits.j1 kj5 a0 a1 a2 a3 t105 (t106 != a1))))) = some r := H
        have A16 := Aside0.mk A160
        clear A160
        have HC17 := Aside0.mk H
        clear H
        go_upto_region 5 with (first | ((with_reducible refine gate_callee (f := 28) rfl ?_); refine goesL_ (some 54) rfl rfl Try.func28 (by kernel_rfl) rfl #[.int .i64 a0, .int .i64 a1, .int .i64 a2, .int .i64 a3] rfl (by (try simp only [List.map_toArray, List.map_cons, List.map_nil]); first | done | rfl | (simp only [List.length_drop, List.length_take]; rfl)) ?_; (with_reducible refine (frame_Wait.calls kj5 a0 a1 a2 a3 t105 _ A16.out).mono ?_); rintro e w' ⟨rfl, ⟨nd, rfl⟩⟩; refine ⟨_, rfl, ?_⟩))
        (try simp only [Act.put, List.setIfInBounds_toArray, List.set_cons_zero, List.set_cons_succ])
        go_cut [74] (fun v74 wc => ∃ (kq : Nat) (x74_16 : Bool), v74 = .bool x74_16 ∧ Aside0 (waterlinelaw22_FrameWaits.j1 kq a0 a1 a2 a3 t105 x74_16 = some r) ∧ Aside0 (kq ≤ kj5) ∧ Drawn0 w wc)
        case first =>
          have H := HC17.out
          clear HC17
          by_cases c18 : t105 < 1
          · rw [if_pos c18] at H
            have c18b0 : decide (t105 < 1) = true := decide_eq_true c18
            clear c18
            (first | rw [c18b0] | (simp only [i64_w, i32_w]; rw [c18b0]) | skip)
            have H' := Aside0.mk H
            clear H
            go_wp2
            go_meet
            case rel => exact ⟨_, (true), (by first | rfl | (simp; done) | (simp [*]; done)), H', ⟨by have := HJ5.out; first | omega | exact Nat.le_refl _⟩, by repeat (first | exact Drawn0.refl _ | apply Drawn0.step)⟩
          · rw [if_neg c18] at H
            have c18b0 : decide (t105 < 1) = false := decide_eq_false c18
            clear c18
            (first | rw [c18b0] | (simp only [i64_w, i32_w]; rw [c18b0]) | skip)
            by_cases c19 : t105 > (wrap64 (a0 * (wrap64 (a3 + 1))))
            · rw [if_pos c19] at H
              have c19b0 : decide ((wrap64 (a0 * (wrap64 (a3 + 1)))) < t105) = true := decide_eq_true c19
              clear c19
              have H' := Aside0.mk H
              clear H
              go_wp2
              go_meet
              case rel => exact ⟨_, (true), (by first | rfl | (simp; done) | (simp [*]; done)), H', ⟨by have := HJ5.out; first | omega | exact Nat.le_refl _⟩, by repeat (first | exact Drawn0.refl _ | apply Drawn0.step)⟩
            · rw [if_neg c19] at H
              have c19b0 : decide ((wrap64 (a0 * (wrap64 (a3 + 1)))) < t105) = false := decide_eq_false c19
              clear c19
              replace H := Option.bind_eq_some_iff.mp H
              obtain ⟨t106, A200, H⟩ := H
              replace H : (waterlinelaw22_FrameWaits.j1 kj5 a0 a1 a2 a3 t105 (t106 != a1)) = some r := H
              have A20 := Aside0.mk A200
              clear A200
              have H' := Aside0.mk H
              clear H
              go_wp2_with (first | (go_at_call 26; (with_reducible refine (frame_Turn.calls a0 (wrap64 ((wrap64 (a2 + t105)) - 1)) t106 _ A20.out).mono ?_); rintro e w' ⟨rfl, ⟨nd, rfl⟩⟩))
              go_meet
              case rel => exact ⟨_, ((t106 != a1)), (by first | rfl | (simp; done) | (simp [*]; done)), H', ⟨by have := HJ5.out; first | omega | exact Nat.le_refl _⟩, by repeat (first | exact Drawn0.refl _ | apply Drawn0.step)⟩
        case rest =>
          clear HC17
          try clear c1
          try clear c2
          try clear p2
          try clear c5
          try clear p6
          try clear c7
          try clear c8
          try clear c8b0
          try clear c9
          try clear c9b0
          try clear c10
          try clear c10b0
          try clear c11
          try clear c11b0
          try clear c12
          try clear c12b0
          try clear c13
          try clear c13b0
          try clear c14
          try clear c14b0
          try clear c15
          try clear c18
          try clear c18b0
          try clear c19
          try clear c19b0
          try clear p2
          obtain ⟨kq, x74_16, rfl, HA, HJ16, ⟨mc16, rfl⟩⟩ := hcut
          cases kq with
          | zero => exact absurd HA.out (by simp [waterlinelaw22_FrameWaits.j1])
          | succ kj16 =>
            have H := HA.out
            clear HA
            simp only [waterlinelaw22_FrameWaits.j1] at H
            by_cases c21 : x74_16 = true
            · subst c21
              have H1 : (some false) = some r := by rw [if_pos rfl] at H; exact H
              clear H
              have H := H1
              clear H1
              obtain rfl := Option.some.inj H
              go_wp2
              go_ret
              exact ⟨by first | rfl | (simp; done) | (simp [*]; done), by repeat (first | exact Drawn0.refl _ | apply Drawn0.step)⟩
            · replace c21 := Bool.eq_false_iff.mpr c21
              subst c21
              have H1 : (waterlinelaw22_FrameWaits.l0 kj16 a0 a1 a2 a3 t105 0 0) = some r := by rw [if_neg (show ¬ (false = true) by decide)] at H; exact H
              clear H
              have H := H1
              clear H1
              have H' := Aside0.mk H
              clear H
              go_wp2
              go_loopg [11, 12] kj16 (fun kq v11 v12 w' => ∃ (x11_3 : Int) (x12_3 : Int), v11 = .int .i64 x11_3 ∧ v12 = .int .i64 x12_3 ∧ Aside0 (waterlinelaw22_FrameWaits.l0 kq a0 a1 a2 a3 t105 x11_3 x12_3 = some r) ∧ Aside0 (kq ≤ kj16) ∧ Drawn0 w w')
              case atStart => exact ⟨(0), (0), (by first | rfl | (simp; done) | (simp [*]; done)), (by first | rfl | (simp; done) | (simp [*]; done)), H', ⟨Nat.le_refl _⟩, by repeat (first | exact Drawn0.refl _ | apply Drawn0.step)⟩
              case round =>
                clear H'
                try clear c1
                try clear c2
                try clear p2
                try clear c5
                try clear p6
                try clear c7
                try clear c8
                try clear c8b0
                try clear c9
                try clear c9b0
                try clear c10
                try clear c10b0
                try clear c11
                try clear c11b0
                try clear c12
                try clear c12b0
                try clear c13
                try clear c13b0
                try clear c14
                try clear c14b0
                try clear c15
                try clear c16
                try clear c18
                try clear c18b0
                try clear c19
                try clear c19b0
                try clear c21
                try clear p2
                try clear p6
                obtain ⟨x11_3, x12_3, rfl, rfl, HA, HK3, ⟨m3, rfl⟩⟩ := hrel
                cases gk with
                | zero => exact absurd HA.out (by simp [waterlinelaw22_FrameWaits.l0])
                | succ k3 =>
                  have H := HA.out
                  clear HA
                  simp only [waterlinelaw22_FrameWaits.l0] at H
                  by_cases c22 : x12_3 < t105
                  · rw [if_pos c22] at H
                    have c22b0 : decide (x12_3 < t105) = true := decide_eq_true c22
                    clear c22
                    replace H := Option.bind_eq_some_iff.mp H
                    obtain ⟨t107, A230, H⟩ := H
                    replace H : (if t107 = a1 then (waterlinelaw22_FrameWaits.l0 k3 a0 a1 a2 a3 t105 (wrap64 (x11_3 + 1)) (wrap64 (x12_3 + 1))) else (waterlinelaw22_FrameWaits.l0 k3 a0 a1 a2 a3 t105 x11_3 (wrap64 (x12_3 + 1)))) = some r := H
                    have A23 := Aside0.mk A230
                    clear A230
                    by_cases c24 : t107 = a1
                    · rw [if_pos c24] at H
                      have c24b0 : (t107 == a1) = true := beq_iff_eq.mpr c24
                      have c24b1 : (t107 != a1) = false := bne_eq_false_iff_eq.mpr c24
                      clear c24
                      have H' := Aside0.mk H
                      clear H
                      go_wp2_with (first | ((with_reducible refine gate_callee (f := 26) rfl ?_); refine goesL_ (some 84) rfl rfl Try.func26 (by kernel_rfl) rfl #[.int .i64 a0, .int .i64 (wrap64 (a2 + x12_3))] rfl (by (try simp only [List.map_toArray, List.map_cons, List.map_nil]); first | done | rfl | (simp only [List.length_drop, List.length_take]; rfl)) ?_; (with_reducible refine (frame_Turn.calls a0 (wrap64 (a2 + x12_3)) t107 _ A23.out).mono ?_); rintro e w' ⟨rfl, ⟨nd, rfl⟩⟩; refine ⟨_, rfl, ?_⟩))
                      go_roundg k3
                      case measure => have := HJ5.out; have := HJ16.out; have := HK3.out; omega
                      case rel => exact ⟨(wrap64 (x11_3 + 1)), (wrap64 (x12_3 + 1)), (by first | rfl | (simp; done) | (simp [*]; done)), (by first | rfl | (simp; done) | (simp [*]; done)), H', ⟨by have := HJ5.out; have := HJ16.out; have := HK3.out; omega⟩, by repeat (first | exact Drawn0.refl _ | apply Drawn0.step)⟩
                    · rw [if_neg c24] at H
                      have c24b0 : (t107 == a1) = false := beq_eq_false_iff_ne.mpr c24
                      have c24b1 : (t107 != a1) = true := bne_iff_ne.mpr c24
                      have H' := Aside0.mk H
                      clear H
                      go_wp2_with (first | ((with_reducible refine gate_callee (f := 26) rfl ?_); refine goesL_ (some 84) rfl rfl Try.func26 (by kernel_rfl) rfl #[.int .i64 a0, .int .i64 (wrap64 (a2 + x12_3))] rfl (by (try simp only [List.map_toArray, List.map_cons, List.map_nil]); first | done | rfl | (simp only [List.length_drop, List.length_take]; rfl)) ?_; (with_reducible refine (frame_Turn.calls a0 (wrap64 (a2 + x12_3)) t107 _ A23.out).mono ?_); rintro e w' ⟨rfl, ⟨nd, rfl⟩⟩; refine ⟨_, rfl, ?_⟩))
                      go_roundg k3
                      case measure => have := HJ5.out; have := HJ16.out; have := HK3.out; omega
                      case rel => exact ⟨(x11_3), (wrap64 (x12_3 + 1)), (by first | rfl | (simp; done) | (simp [*]; done)), (by first | rfl | (simp; done) | (simp [*]; done)), H', ⟨by have := HJ5.out; have := HJ16.out; have := HK3.out; omega⟩, by repeat (first | exact Drawn0.refl _ | apply Drawn0.step)⟩
                  · rw [if_neg c22] at H
                    have c22b0 : decide (x12_3 < t105) = false := decide_eq_false c22
                    clear c22
                    obtain rfl := Option.some.inj H
                    go_wp2
                    go_ret
                    exact ⟨by first | rfl | (simp; done) | (simp [*]; done), by repeat (first | exact Drawn0.refl _ | apply Drawn0.step)⟩

/-- THE ONE PURE STATEMENT of waterlinelaw22_FrameWaits: yours. -/
def waterlinelaw22_FrameWaits.Pure : Prop := ∀ (a0 : Int) (a1 : Int) (a2 : Int) (a3 : Int), (Lit.int .i64 a0).wf = true → (Lit.int .i64 a1).wf = true → (Lit.int .i64 a2).wf = true → (Lit.int .i64 a3).wf = true → ∃ k, waterlinelaw22_FrameWaits.f k a0 a1 a2 a3 = some true
theorem waterlinelaw22_FrameWaits.walk (P : waterlinelaw22_FrameWaits.Pure) (a0 : Int) (a1 : Int) (a2 : Int) (a3 : Int) (w : World) (w0 : (Lit.int .i64 a0).wf = true) (w1 : (Lit.int .i64 a1).wf = true) (w2 : (Lit.int .i64 a2).wf = true) (w3 : (Lit.int .i64 a3).wf = true) :
    Calls Try.prog 10 #[.int .i64 a0, .int .i64 a1, .int .i64 a2, .int .i64 a3] w fun e w' => e = .returned (.bool true) ∧ Below w.heap.size w w' := by
  obtain ⟨k, h⟩ := P a0 a1 a2 a3 w0 w1 w2 w3
  refine (waterlinelaw22_FrameWaits.calls k a0 a1 a2 a3 true w h).mono ?_
  rintro e w' ⟨rfl, hd⟩
  exact ⟨rfl, hd.below⟩

end Go.Proofs.Ytblljhojelmmeaa.PFrameWaits
