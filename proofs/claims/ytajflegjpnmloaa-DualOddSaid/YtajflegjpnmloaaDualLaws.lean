/- Walks: the three laws of chapter 8 return true. -/
import Derived.Test.YtajflegjpnmloaaDualWalk
namespace Go.Proofs.Ytajflegjpnmloaa.DualLaws
open Go.RowKit Go.Proofs.YtajflegjpnmloaaW.PrintWords Go.Proofs.YtajflegjpnmloaaW.PrintLast Go.Proofs.Ytajflegjpnmloaa.Kit Go.Proofs.Ytajflegjpnmloaa.Dual Go.Proofs.Ytajflegjpnmloaa.DualWalk

set_option linter.unusedSimpArgs false

theorem live (w : World) : Calls Try.prog 18 #[] w fun e w' => e = .returned (.bool true) ∧ Below w.heap.size w w' := by
  have hr := reads_mark w 5 (1, 2) [97] (by decide)
  have hs : Small [97] := small_mem (by decide)
  have HR := Lib.hid hr
  clear hr
  have kc := fun (C : Array Value) (n c : Nat) => Lib.run_convert_bytes_const (P := Try.prog) w 23 5 C n c Try.underlying23 Try.underlying5
  go_enter Try.func18, Try.ntmps18
  go_wp2_with fail
  refine (put_calls _ _ _ [97] _ HR.out hs (by decide)).mono ?_
  rintro e w2 ⟨v, rfl, hg⟩
  have hb2 : Below w.heap.size w w2 := ((Below.refl _ _).alloc (Nat.le_refl _) _).trans (hg.2.mono (by simp))
  obtain ⟨A, c, rfl, hr2⟩ := hg.reads
  have e2 : put [97] = [97, 158] := rfl
  rw [e2] at hr2 ⊢
  obtain ⟨ad, rfl, h0⟩ := reads_cell hr2 (k := 0) (by decide)
  obtain ⟨ad', e', h1⟩ := reads_cell hr2 (k := 1) (by decide)
  obtain rfl := Option.some.inj e'
  rw [add_one] at h1
  rw [add_none] at h0
  have r0 : rd [97, 158] ((0 : Nat) : Int) = 97 := rfl
  have r1 : rd [97, 158] ((1 : Nat) : Int) = 158 := rfl
  rw [r0] at h0
  rw [r1] at h1
  clear hr2 hg HR r0 r1 e' e2
  go_wp2_with fail
  go_ret
  exact ⟨rfl, hb2⟩

theorem tells_out (A : Option Addr) (n c : Nat) (w : World) (h : 1000 < n) :
    Calls Try.prog 4 #[.slice A n c] w fun e w' => e = .returned (.bool true) ∧ Below w.heap.size w w' := by
  go_enter Try.func4, Try.ntmps4
  go_wp2_with fail
  refine (live _).mono ?_
  rintro e w1 ⟨rfl, hb⟩
  go_wp2_with fail
  go_ret
  exact ⟨rfl, hb⟩

theorem keepD {B n0 n2 n3 n4 n5 : Nat} {A A2 A3 A4 A5 : Option Addr} {x0 x2 x3 x4 x5 : List Int} {w W : World} (h0 : Rd W A n0 x0) (h2 : Rd W A2 n2 x2) (h3 : Rd W A3 n3 x3) (h4 : Rd W A4 n4 x4) (h5 : Rd W A5 n5 x5) (hb : Below B w W) (hB : B ≤ W.heap.size) :
    Rd W.drew A n0 x0 ∧ Rd W.drew A2 n2 x2 ∧ Rd W.drew A3 n3 x3 ∧ Rd W.drew A4 n4 x4 ∧ Rd W.drew A5 n5 x5 ∧ Below B w W.drew ∧ B ≤ W.drew.heap.size := ⟨h0.drew, h2.drew, h3.drew, h4.drew, h5.drew, hb.drew, hB⟩
theorem keepB {B n0 n2 n3 n4 n5 : Nat} {A A2 A3 A4 A5 : Option Addr} {x0 x2 x3 x4 x5 : List Int} {w W W' : World} (h0 : Rd W A n0 x0) (h2 : Rd W A2 n2 x2) (h3 : Rd W A3 n3 x3) (h4 : Rd W A4 n4 x4) (h5 : Rd W A5 n5 x5) (hb : Below B w W) (hB : B ≤ W.heap.size) (k : Below W.heap.size W W') :
    Rd W' A n0 x0 ∧ Rd W' A2 n2 x2 ∧ Rd W' A3 n3 x3 ∧ Rd W' A4 n4 x4 ∧ Rd W' A5 n5 x5 ∧ Below B w W' ∧ B ≤ W'.heap.size := ⟨h0.below k, h2.below k, h3.below k, h4.below k, h5.below k, hb.trans (k.mono hB), Nat.le_trans hB k.size⟩

set_option maxHeartbeats 1000000 in
theorem tells_in (A : Option Addr) (n c : Nat) (xs : List Int) (w : World) (hr : ReadsInt w .u8 A n xs) (hs : Small xs) (hn : n ≤ 1000) :
    Calls Try.prog 4 #[.slice A n c] w fun e w' => e = .returned (.bool true) ∧ Below w.heap.size w w' := by
  have hpl : (put xs).length ≤ 2000 := by rw [put_length, hr.1]; omega
  go_enter Try.func4, Try.ntmps4
  go_wp2_with fail
  refine (live _).mono ?_
  rintro e w1 ⟨rfl, hb⟩
  have HR1 := Lib.hid (hr.below hb)
  go_wp2_with fail
  refine (put_calls _ _ _ _ _ HR1.out hs (by omega)).mono ?_
  rintro e w2 ⟨v, rfl, hg2⟩
  have hb2 := hb.trans (hg2.2.mono hb.size)
  obtain ⟨A2, c2, rfl, hr2⟩ := hg2.reads
  have HR2 := Lib.hid hr2
  clear hg2 hr2 hb HR1
  go_wp2_with fail
  refine (get_calls _ _ _ _ _ HR2.out (put_small hs) (by omega)).mono ?_
  rintro e w3 ⟨v, rfl, hg3⟩
  rw [get_put] at hg3 ⊢
  simp only [Option.getD_some, Option.isSome_some] at hg3 ⊢
  have hb3 := hb2.trans (hg3.2.mono hb2.size)
  have HR2' := Lib.hid (HR2.out.below hg3.2)
  obtain ⟨A3, c3, rfl, hr3⟩ := hg3.reads
  have HR3 := Lib.hid hr3
  have HR0 := Lib.hid (hr.below hb3)
  clear hg3 hr3 hb2 HR2
  go_wp2_with fail
  refine (get_calls _ _ _ _ _ HR0.out hs (by omega)).mono ?_
  rintro e w4 ⟨v, rfl, hg4⟩
  have hb4 := hb3.trans (hg4.2.mono hb3.size)
  have HR2 := Lib.hid (HR2'.out.below hg4.2)
  have HR3' := Lib.hid (HR3.out.below hg4.2)
  obtain ⟨A4, c4, rfl, hr4⟩ := hg4.reads
  have HR4 := Lib.hid hr4
  have HR0' := Lib.hid (hr.below hb4)
  clear hg4 hr4 hb3 HR3 HR2' HR0
  go_wp2_with fail
  refine (get_ref _ _ _ _ _ HR0'.out hs (by omega)).mono ?_
  rintro e w5 ⟨v, rfl, hg5⟩
  have hb5 := hb4.trans (hg5.2.mono hb4.size)
  have hr2 := HR2.out.below hg5.2
  have hr3 := HR3'.out.below hg5.2
  have hr4 := HR4.out.below hg5.2
  obtain ⟨A5, c5, rfl, hr5⟩ := hg5.reads
  have hr0 := hr.below hb5
  clear hg5 hb4 HR3' HR2 HR4 HR0'
  generalize (get xs).isSome = ok at *
  generalize (get xs).getD [] = zs at *
  go_wp2_with fail
  have q2 := fun (W : World) (h : Rd W A2 (put xs).length (put xs)) => h.conv c2
  have q3 := fun (W : World) (h : Rd W A3 xs.length xs) => h.conv c3
  have q4 := fun (W : World) (h : Rd W A4 zs.length zs) => h.conv c4
  have q5 := fun (W : World) (h : Rd W A5 zs.length zs) => h.conv c5
  have q0 := fun (W : World) (h : Rd W A n xs) => h.conv c
  have hB5 := hb5.size
  have k0 := Rd.mk hr0
  have k2 := Rd.mk hr2
  have k3 := Rd.mk hr3
  have k4 := Rd.mk hr4
  have k5 := Rd.mk hr5
  clear hr0 hr2 hr3 hr4 hr5
  refine wp_region_noPanic ?_
  refine wp_region_held_drew (S := fun w' => Rd w' A n xs ∧ Rd w' A2 (put xs).length (put xs) ∧ Rd w' A3 xs.length xs ∧ Rd w' A4 zs.length zs ∧ Rd w' A5 zs.length zs ∧ Below w.heap.size w w' ∧ w.heap.size ≤ w'.heap.size) (by kernel_rfl) (keepD k0 k2 k3 k4 k5 hb5 hB5) (fun hHeld => ?_)
  refine wpAnyH_take (i := 0) (v := ?v0) rfl (by kernel_rfl) (by kernel_rfl) (by kernel_rfl) (fun _ _ _ h => h) (Or.inl ⟨by rfl, ?y0⟩) (by assumption) ?n0
  case y0 => (intro W hSw; go_split_ands; go_simp; try with_reducible rfl)
  try simp only [Act.put, List.getElem_toArray, List.getElem_cons_succ, List.getElem_cons_zero, List.setIfInBounds_toArray, List.set_cons_zero, List.set_cons_succ]
  refine wpAnyH_take (i := 1) (v := ?v1) rfl (by kernel_rfl) (by kernel_rfl) (by kernel_rfl) (fun _ _ _ h => h) (Or.inl ⟨by rfl, ?y1⟩) (by assumption) ?n1
  case y1 => (intro W hSw; go_split_ands; go_simp; try with_reducible rfl)
  try simp only [Act.put, List.getElem_toArray, List.getElem_cons_succ, List.getElem_cons_zero, List.setIfInBounds_toArray, List.set_cons_zero, List.set_cons_succ]
  refine wpAnyH_take (i := 2) (v := ?v2) rfl (by kernel_rfl) (by kernel_rfl) (by kernel_rfl) (fun _ _ _ h => h) (Or.inl ⟨by rfl, ?y2⟩) (by assumption) ?n2
  case y2 => (intro W hSw; go_split_ands; go_simp; try with_reducible rfl)
  try simp only [Act.put, List.getElem_toArray, List.getElem_cons_succ, List.getElem_cons_zero, List.setIfInBounds_toArray, List.set_cons_zero, List.set_cons_succ]
  refine wpAnyH_ready (rs := [3]) (by kernel_rfl) (by simp) ?_
  refine AllReadyH.cons rfl (fun K hK => ?_) AllReadyH.nil
  rw [if_pos (by rfl)]
  go_simp
  refine (put_ref _ _ _ xs _ hHeld.1.out hs (by omega)).mono ?_
  rintro e w6 ⟨v, rfl, hg6⟩
  obtain ⟨hb6, A6, c6, q6, h6, rfl⟩ := hg6.open_
  dsimp only
  refine hK.out _ _ (keepB hHeld.1 hHeld.2.1 hHeld.2.2.1 hHeld.2.2.2.1 hHeld.2.2.2.2.1 hHeld.2.2.2.2.2.1 hHeld.2.2.2.2.2.2 hb6) (fun hHeld2 => ?_)
  clear hK K hHeld
  try simp only [Act.put, List.getElem_toArray, List.getElem_cons_succ, List.getElem_cons_zero, List.setIfInBounds_toArray, List.set_cons_zero, List.set_cons_succ]
  refine wpAnyH_more (S2 := fun w' => (Rd w' A n xs ∧ Rd w' A2 (put xs).length (put xs) ∧ Rd w' A3 xs.length xs ∧ Rd w' A4 zs.length zs ∧ Rd w' A5 zs.length zs ∧ Below w.heap.size w w' ∧ w.heap.size ≤ w'.heap.size) ∧ Rd w' A6 (put xs).length (put xs)) (fun _ h => h.1) _ _ _ _ ?_
  have hHeld3 := And.intro hHeld2 h6
  have hb7 := hHeld2.2.2.2.2.2.1
  clear hHeld2
  refine wpAnyH_take (i := 4) (v := ?v4) rfl (by kernel_rfl) (by kernel_rfl) (by kernel_rfl) (fun _ _ _ h => h) (Or.inl ⟨by rfl, ?y4⟩) (by assumption) ?n4
  case y4 => (intro W hSw; go_split_ands; go_simp; try with_reducible rfl)
  try simp only [Act.put, List.getElem_toArray, List.getElem_cons_succ, List.getElem_cons_zero, List.setIfInBounds_toArray, List.set_cons_zero, List.set_cons_succ]
  refine wpAnyH_take (i := 5) (v := ?v5) rfl (by kernel_rfl) (by kernel_rfl) (by kernel_rfl) (fun _ _ _ h => h) (Or.inl ⟨by rfl, ?y5⟩) (by assumption) ?n5
  case y5 => (intro W hSw; go_split_ands; go_simp; try with_reducible rfl)
  try simp only [Act.put, List.getElem_toArray, List.getElem_cons_succ, List.getElem_cons_zero, List.setIfInBounds_toArray, List.set_cons_zero, List.set_cons_succ]
  refine wpAnyH_take (i := 6) (v := ?v6) rfl (by kernel_rfl) (by kernel_rfl) (by kernel_rfl) (fun _ _ _ h => h) (Or.inl ⟨by rfl, ?y6⟩) (by assumption) ?n6
  case y6 => (intro W hSw; go_split_ands; go_simp; try with_reducible rfl)
  try simp only [Act.put, List.getElem_toArray, List.getElem_cons_succ, List.getElem_cons_zero, List.setIfInBounds_toArray, List.set_cons_zero, List.set_cons_succ]
  refine wpAnyH_take (i := 7) (v := ?v7) rfl (by kernel_rfl) (by kernel_rfl) (by kernel_rfl) (fun _ _ _ h => h) (Or.inl ⟨by rfl, ?y7⟩) (by assumption) ?n7
  case y7 => (intro W hSw; go_split_ands; go_simp; try with_reducible rfl)
  try simp only [Act.put, List.getElem_toArray, List.getElem_cons_succ, List.getElem_cons_zero, List.setIfInBounds_toArray, List.set_cons_zero, List.set_cons_succ]
  refine wpAnyH_take (i := 8) (v := ?v8) rfl (by kernel_rfl) (by kernel_rfl) (by kernel_rfl) (fun _ _ _ h => h) (Or.inl ⟨by rfl, ?y8⟩) (by assumption) ?n8
  case y8 => (intro W hSw; go_split_ands; go_simp; try with_reducible rfl)
  try simp only [Act.put, List.getElem_toArray, List.getElem_cons_succ, List.getElem_cons_zero, List.setIfInBounds_toArray, List.set_cons_zero, List.set_cons_succ]
  refine wpAnyH_take (i := 9) (v := ?v9) rfl (by kernel_rfl) (by kernel_rfl) (by kernel_rfl) (fun _ _ _ h => h) (Or.inl ⟨by rfl, ?y9⟩) (by assumption) ?n9
  case y9 => (intro W hSw; go_split_ands; go_simp; try with_reducible rfl)
  try simp only [Act.put, List.getElem_toArray, List.getElem_cons_succ, List.getElem_cons_zero, List.setIfInBounds_toArray, List.set_cons_zero, List.set_cons_succ]
  refine wpAnyH_take (i := 10) (v := ?v10) rfl (by kernel_rfl) (by kernel_rfl) (by kernel_rfl) (fun _ _ _ h => h) (Or.inl ⟨by rfl, ?y10⟩) (by assumption) ?n10
  case y10 => (intro W hSw; go_split_ands; go_simp; try with_reducible rfl)
  try simp only [Act.put, List.getElem_toArray, List.getElem_cons_succ, List.getElem_cons_zero, List.setIfInBounds_toArray, List.set_cons_zero, List.set_cons_succ]
  refine wpAnyH_take (i := 11) (v := ?v11) rfl (by kernel_rfl) (by kernel_rfl) (by kernel_rfl) (fun _ _ _ h => h) (Or.inl ⟨by rfl, ?y11⟩) (by assumption) ?n11
  case y11 => (intro W hSw; go_split_ands; go_simp; try with_reducible rfl)
  try simp only [Act.put, List.getElem_toArray, List.getElem_cons_succ, List.getElem_cons_zero, List.setIfInBounds_toArray, List.set_cons_zero, List.set_cons_succ]
  refine wpAnyH_take (i := 12) (v := ?v12) rfl (by kernel_rfl) (by kernel_rfl) (by kernel_rfl) (fun _ _ _ h => h) (Or.inl ⟨by rfl, ?y12⟩) (by assumption) ?n12
  case y12 => (intro W hSw; go_split_ands; go_simp; try with_reducible rfl)
  try simp only [Act.put, List.getElem_toArray, List.getElem_cons_succ, List.getElem_cons_zero, List.setIfInBounds_toArray, List.set_cons_zero, List.set_cons_succ]
  refine wpAnyH_take (i := 13) (v := ?v13) rfl (by kernel_rfl) (by kernel_rfl) (by kernel_rfl) (fun _ _ _ h => h) (Or.inl ⟨by rfl, ?y13⟩) (by assumption) ?n13
  case y13 => (intro W hSw; go_split_ands; go_simp; try with_reducible rfl)
  try simp only [Act.put, List.getElem_toArray, List.getElem_cons_succ, List.getElem_cons_zero, List.setIfInBounds_toArray, List.set_cons_zero, List.set_cons_succ]
  refine wpAnyH_take (i := 14) (v := ?v14) rfl (by kernel_rfl) (by kernel_rfl) (by kernel_rfl) (fun _ _ _ h => h) (Or.inl ⟨by rfl, ?y14⟩) (by assumption) ?n14
  case y14 => (intro W hSw; go_split_ands; go_simp; try with_reducible rfl)
  try simp only [Act.put, List.getElem_toArray, List.getElem_cons_succ, List.getElem_cons_zero, List.setIfInBounds_toArray, List.set_cons_zero, List.set_cons_succ]
  refine wpAnyH_take (i := 15) (v := ?v15) rfl (by kernel_rfl) (by kernel_rfl) (by kernel_rfl) (fun _ _ _ h => h) (Or.inl ⟨by rfl, ?y15⟩) (by assumption) ?n15
  case y15 => (intro W hSw; go_split_ands; go_simp; try with_reducible rfl)
  try simp only [Act.put, List.getElem_toArray, List.getElem_cons_succ, List.getElem_cons_zero, List.setIfInBounds_toArray, List.set_cons_zero, List.set_cons_succ]
  refine wpAnyH_take (i := 16) (v := ?v16) rfl (by kernel_rfl) (by kernel_rfl) (by kernel_rfl) (fun _ _ _ h => h) (Or.inl ⟨by rfl, ?y16⟩) (by assumption) ?n16
  case y16 => (intro W hSw; go_split_ands; go_simp; try with_reducible rfl)
  try simp only [Act.put, List.getElem_toArray, List.getElem_cons_succ, List.getElem_cons_zero, List.setIfInBounds_toArray, List.set_cons_zero, List.set_cons_succ]
  refine wpAnyH_take (i := 17) (v := ?v17) rfl (by kernel_rfl) (by kernel_rfl) (by kernel_rfl) (fun _ _ _ h => h) (Or.inl ⟨by rfl, ?y17⟩) (by assumption) ?n17
  case y17 => (intro W hSw; go_split_ands; go_simp; try with_reducible rfl)
  try simp only [Act.put, List.getElem_toArray, List.getElem_cons_succ, List.getElem_cons_zero, List.setIfInBounds_toArray, List.set_cons_zero, List.set_cons_succ]
  refine wpAnyH_take (i := 18) (v := ?v18) rfl (by kernel_rfl) (by kernel_rfl) (by kernel_rfl) (fun _ _ _ h => h) (Or.inl ⟨by rfl, ?y18⟩) (by assumption) ?n18
  case y18 => (intro W hSw; go_split_ands; go_simp; try with_reducible rfl)
  try simp only [Act.put, List.getElem_toArray, List.getElem_cons_succ, List.getElem_cons_zero, List.setIfInBounds_toArray, List.set_cons_zero, List.set_cons_succ]
  refine wpAnyH_take (i := 19) (v := ?v19) rfl (by kernel_rfl) (by kernel_rfl) (by kernel_rfl) (fun _ _ _ h => h) (Or.inl ⟨by rfl, ?y19⟩) (by assumption) ?n19
  case y19 => (intro W hSw; go_split_ands; go_simp; try with_reducible rfl)
  try simp only [Act.put, List.getElem_toArray, List.getElem_cons_succ, List.getElem_cons_zero, List.setIfInBounds_toArray, List.set_cons_zero, List.set_cons_succ]
  refine wpAnyH_take (i := 20) (v := ?v20) rfl (by kernel_rfl) (by kernel_rfl) (by kernel_rfl) (fun _ _ _ h => h) (Or.inl ⟨by rfl, ?y20⟩) (by assumption) ?n20
  case y20 => (intro W hSw; go_split_ands; go_simp; try with_reducible rfl)
  try simp only [Act.put, List.getElem_toArray, List.getElem_cons_succ, List.getElem_cons_zero, List.setIfInBounds_toArray, List.set_cons_zero, List.set_cons_succ]
  refine wpAnyH_take (i := 21) (v := ?v21) rfl (by kernel_rfl) (by kernel_rfl) (by kernel_rfl) (fun _ _ _ h => h) (Or.inl ⟨by rfl, ?y21⟩) (by assumption) ?n21
  case y21 => (intro W hSw; go_split_ands; go_simp; try with_reducible rfl)
  try simp only [Act.put, List.getElem_toArray, List.getElem_cons_succ, List.getElem_cons_zero, List.setIfInBounds_toArray, List.set_cons_zero, List.set_cons_succ]
  refine wpAnyH_take (i := 22) (v := ?v22) rfl (by kernel_rfl) (by kernel_rfl) (by kernel_rfl) (fun _ _ _ h => h) (Or.inl ⟨by rfl, ?y22⟩) (by assumption) ?n22
  case y22 => (intro W hSw; go_split_ands; go_simp; try with_reducible rfl)
  try simp only [Act.put, List.getElem_toArray, List.getElem_cons_succ, List.getElem_cons_zero, List.setIfInBounds_toArray, List.set_cons_zero, List.set_cons_succ]
  refine wpAnyH_take (i := 23) (v := ?v23) rfl (by kernel_rfl) (by kernel_rfl) (by kernel_rfl) (fun _ _ _ h => h) (Or.inl ⟨by rfl, ?y23⟩) (by assumption) ?n23
  case y23 => (intro W hSw; go_split_ands; go_simp; try with_reducible rfl)
  try simp only [Act.put, List.getElem_toArray, List.getElem_cons_succ, List.getElem_cons_zero, List.setIfInBounds_toArray, List.set_cons_zero, List.set_cons_succ]
  refine wpAnyH_take (i := 24) (v := ?v24) rfl (by kernel_rfl) (by kernel_rfl) (by kernel_rfl) (fun _ _ _ h => h) (Or.inl ⟨by rfl, ?y24⟩) (by assumption) ?n24
  case y24 => (intro W hSw; go_split_ands; go_simp; try with_reducible rfl)
  try simp only [Act.put, List.getElem_toArray, List.getElem_cons_succ, List.getElem_cons_zero, List.setIfInBounds_toArray, List.set_cons_zero, List.set_cons_succ]
  refine wpAnyH_take (i := 25) (v := ?v25) rfl (by kernel_rfl) (by kernel_rfl) (by kernel_rfl) (fun _ _ _ h => h) (Or.inl ⟨by rfl, ?y25⟩) (by assumption) ?n25
  case y25 => (intro W hSw; go_split_ands; go_simp; try with_reducible rfl)
  try simp only [Act.put, List.getElem_toArray, List.getElem_cons_succ, List.getElem_cons_zero, List.setIfInBounds_toArray, List.set_cons_zero, List.set_cons_succ]
  refine wpAnyH_take (i := 26) (v := ?v26) rfl (by kernel_rfl) (by kernel_rfl) (by kernel_rfl) (fun _ _ _ h => h) (Or.inl ⟨by rfl, ?y26⟩) (by assumption) ?n26
  case y26 => (intro W hSw; go_split_ands; go_simp; try with_reducible rfl)
  try simp only [Act.put, List.getElem_toArray, List.getElem_cons_succ, List.getElem_cons_zero, List.setIfInBounds_toArray, List.set_cons_zero, List.set_cons_succ]
  refine wpAnyH_take (i := 27) (v := ?v27) rfl (by kernel_rfl) (by kernel_rfl) (by kernel_rfl) (fun _ _ _ h => h) (Or.inl ⟨by rfl, ?y27⟩) (by assumption) ?n27
  case y27 => (intro W hSw; go_split_ands; go_simp; try with_reducible rfl)
  try simp only [Act.put, List.getElem_toArray, List.getElem_cons_succ, List.getElem_cons_zero, List.setIfInBounds_toArray, List.set_cons_zero, List.set_cons_succ]
  refine wpAnyH_take (i := 28) (v := ?v28) rfl (by kernel_rfl) (by kernel_rfl) (by kernel_rfl) (fun _ _ _ h => h) (Or.inl ⟨by rfl, ?y28⟩) (by assumption) ?n28
  case y28 => (intro W hSw; go_split_ands; go_simp; try with_reducible rfl)
  try simp only [Act.put, List.getElem_toArray, List.getElem_cons_succ, List.getElem_cons_zero, List.setIfInBounds_toArray, List.set_cons_zero, List.set_cons_succ]
  refine wpAnyH_done (by kernel_rfl) ?_ _
  refine NoPanic.normal ?_
  go_wp2_with fail
  go_ret
  exact ⟨by simp, hb7⟩

theorem tells_walk (A : Option Addr) (n c : Nat) (zs : List Int) (w : World) (h : IsBytes w A n c zs) :
    Calls Try.prog 4 #[.slice A n c] w fun e w' => e = .returned (.bool true) ∧ Below w.heap.size w w' := by
  obtain ⟨l, rfl, hr, _, hw, _⟩ := ReadsInt.ofRowC h
  by_cases hl : 1000 < l.length
  · exact tells_out A _ c w hl
  · exact tells_in A _ c l w hr (small_of hw) (by omega)
end Go.Proofs.Ytajflegjpnmloaa.DualLaws
