/- Walk: FieldWrites. -/
import Derived.Test.YtgcdankgckgibaaFieldStep
import Derived.BigQuiet
import Derived.Deep.QuietTactic
namespace Go.Proofs.Ytgcdankgckgibaa.Field
open Go.RowKit Go.Proofs.YtgcdankgckgibaaW.PrintWords Go.Proofs.YtgcdankgckgibaaW.PrintLast Go.Proofs.Ytgcdankgckgibaa.Kit

set_option linter.unusedSimpArgs false

/-- a row of items, as the walk wants it -/
def Rows4 (W : World) (T : Option Addr) (len : Nat) : Prop := ∀ i, i < len → ∃ (a : Addr) (raw : Bool) (n size : Int) (D : Option Addr) (m c : Nat) (ys : List Int), T = some a ∧ ItemIs W a i raw n size (.slice D m c) ∧ ReadsInt W .u8 D m ys ∧ Small ys
theorem Rows4.items {W W' : World} {T : Option Addr} {len : Nat} (h : Rows4 W T len) (k : Below W.heap.size W W') : ∀ i, i < len → ∃ a raw n size v, T = some a ∧ ItemIs W' a i raw n size v := fun i hi => by
  obtain ⟨a, raw, n, size, D, m, c, ys, e, h, _⟩ := h i hi
  exact ⟨a, raw, n, size, _, e, h.below k⟩

theorem Cap8 {W : World} {b : Nat} {e : TypeId} {n c : Nat} {A : Option Addr} {xs : List Value} (h : W.ownsRow b e 1 (.slice A n c) n xs) : n ≤ c := by
  rcases h.2 with ⟨e, h0⟩ | ⟨g, cap, cur, e, _, _, h1, _⟩
  · omega
  · injection e with _ _ e3; omega
theorem writes_out (T : Option Addr) (len cap : Nat) (w : World) (h : 40 < len) :
    Calls Try.prog 9 #[.slice T len cap] w fun e w' => e = .returned (.bool true) ∧ Below w.heap.size w w' := by
  go_enter Try.func9, Try.ntmps9
  go_wp2_with fail
  refine (live9 _).mono ?_
  rintro e w1 ⟨rfl, hb⟩
  go_wp2_with fail
  all_goals first
    | (exfalso; omega)
    | (go_ret; exact ⟨rfl, hb⟩)

set_option maxHeartbeats 20000000 in
set_option maxRecDepth 100000 in
theorem writes_in (T : Option Addr) (len cap : Nat) (w : World) (hT : Rows4 w T len) (hl : len ≤ 40) :
    Calls Try.prog 9 #[.slice T len cap] w fun e w' => e = .returned (.bool true) ∧ Below w.heap.size w w' := by
  have HT := Lib.hid hT
  clear hT
  go_enter Try.func9, Try.ntmps9
  go_wp2_with fail
  refine (live9 _).mono ?_
  rintro e w1 ⟨rfl, hb⟩
  have HB1 := Lib.hid hb
  clear hb
  go_wp2_with fail
  have hk1 := below_alloc1 w1 (.cells #[.slice none 0 0] 42)
  have hk2 := below_alloc1 (w1.alloc (.cells #[.slice none 0 0] 42)) (.cells #[.slice none 0 0] 53)
  have es : (w1.alloc (.cells #[.slice none 0 0] 42)).heap.size = w1.heap.size + 1 := by simp
  have hw0 : Wr (w1.alloc (.cells #[.slice none 0 0] 42)) 42 w1.heap.size w1.heap.size (.slice none 0 0) [] := Wr.new _ _
  have hv0 : Wr ((w1.alloc (.cells #[.slice none 0 0] 42)).alloc (.cells #[.slice none 0 0] 53)) 53 w1.heap.size (w1.heap.size + 1) (.slice none 0 0) [] := by
    have h := Wr.new (w1.alloc (.cells #[.slice none 0 0] 42)) 53
    rw [es] at h
    exact ⟨by omega, h.cell, own_nil _ _ _ _⟩
  have HTW := Lib.hid (Two.mk (hw0.below hk2) hv0 (by omega) (by simp [Value.ownBlock]) (by simp [Value.ownBlock]) (by simp [Value.ownBlock]))
  have HB2 := Lib.hid (HB1.out.trans ((hk1.trans (hk2.mono (by rw [es]; omega))).mono HB1.out.size))
  have hB1 := HB1.out.size
  clear hk1 hk2 es hw0 hv0 HB1
  go_loopw [6] (fun i wr => ∃ k : Nat, k ≤ len ∧ i = .int .i64 k ∧ ∃ (vw vv : Value) (xs : List Int), Two wr w1.heap.size w1.heap.size (w1.heap.size + 1) vw vv xs xs ∧ Small xs ∧ xs.length ≤ k * 1000 ∧ Below w.heap.size w wr) (fun i _ => len - (intOf i).toNat)
  case atStart => exact ⟨0, Nat.zero_le _, rfl, _, _, [], HTW.out, small_nil, by simp, HB2.out⟩
  case round =>
    obtain ⟨k, hk, rfl, vw, vv, xs, htw, hsx, hlx, hb⟩ := hrel
    have HW := Lib.hid htw
    have HB := Lib.hid hb
    have hsz : w1.heap.size ≤ wr.heap.size := by have := htw.w.lt; omega
    clear htw hb
    by_cases hlt : k < len
    · obtain ⟨a, raw, n, size, D, m, c, ys, rfl, hi, hr, hsy⟩ := HT.out k hlt
      have HI := Lib.hid hi
      have HR := Lib.hid hr
      have hold := old_block hr
      have HOLD := Lib.hid hold
      have hx5 : xs.length ≤ 100000 := by omega
      have i0 := (HI.out.below HB.out).f0
      have i3 := (HI.out.below HB.out).f3
      clear hi hr hold
      by_cases hm : 300 < m
      · go_wp2_with fail
        go_ret
        exact ⟨rfl, HB.out⟩
      cases raw with
      | true =>
      go_wp2_with fail
      clear i0 i3
      refine wp_region_noPanic ?_
      refine wp_region_held_drew (S := fun W => Below w.heap.size w W) (by kernel_rfl) HB.out.drew (fun hHeld => ?_)
      refine wpAnyH_take (i := 0) (v := ?v0a) rfl (by kernel_rfl) (by kernel_rfl) (by kernel_rfl) (fun _ _ _ h => h) (Or.inl ⟨by rfl, ?y0a⟩) (by assumption) ?n0a
      case y0a => (intro W hSw; go_simp; try with_reducible rfl)
      try simp only [Act.put, List.getElem_toArray, List.getElem_cons_succ, List.getElem_cons_zero, List.setIfInBounds_toArray, List.set_cons_zero, List.set_cons_succ]
      refine wpAnyH_take (i := 1) (v := ?v1a) rfl (by kernel_rfl) (by kernel_rfl) (by kernel_rfl) (fun _ _ _ h => h) (Or.inl ⟨by rfl, ?y1a⟩) (by assumption) ?n1a
      case y1a => (intro W hSw; go_simp; try with_reducible rfl)
      try simp only [Act.put, List.getElem_toArray, List.getElem_cons_succ, List.getElem_cons_zero, List.setIfInBounds_toArray, List.set_cons_zero, List.set_cons_succ]
      refine wpAnyH_take (i := 2) (v := ?v2a) rfl (by kernel_rfl) (by kernel_rfl) (by kernel_rfl) (fun _ _ _ h => h) (Or.inl ⟨by rfl, ?y2a⟩) (by assumption) ?n2a
      case y2a => (intro W hSw; go_simp; try with_reducible rfl)
      try simp only [Act.put, List.getElem_toArray, List.getElem_cons_succ, List.getElem_cons_zero, List.setIfInBounds_toArray, List.set_cons_zero, List.set_cons_succ]
      refine wpAnyH_take (i := 3) (v := ?v3a) rfl (by kernel_rfl) (by kernel_rfl) (by kernel_rfl) (fun _ _ _ h => h) (Or.inl ⟨by rfl, ?y3a⟩) (by assumption) ?n3a
      case y3a => (intro W hSw; go_simp; try with_reducible rfl)
      try simp only [Act.put, List.getElem_toArray, List.getElem_cons_succ, List.getElem_cons_zero, List.setIfInBounds_toArray, List.set_cons_zero, List.set_cons_succ]
      refine wpAnyH_take (i := 4) (v := ?v4a) rfl (by kernel_rfl) (by kernel_rfl) (by kernel_rfl) (fun _ _ _ h => h) (Or.inl ⟨by rfl, ?y4a⟩) (by assumption) ?n4a
      case y4a => (intro W hSw; go_simp; try with_reducible rfl)
      try simp only [Act.put, List.getElem_toArray, List.getElem_cons_succ, List.getElem_cons_zero, List.setIfInBounds_toArray, List.set_cons_zero, List.set_cons_succ]
      refine wpAnyH_take (i := 5) (v := ?v5a) rfl (by kernel_rfl) (by kernel_rfl) (by kernel_rfl) (fun _ _ _ h => h) (Or.inl ⟨by rfl, ?y5a⟩) (by assumption) ?n5a
      case y5a => (intro W hSw; have q0 := (HI.out.below hSw).f3; go_simp; try with_reducible rfl)
      try simp only [Act.put, List.getElem_toArray, List.getElem_cons_succ, List.getElem_cons_zero, List.setIfInBounds_toArray, List.set_cons_zero, List.set_cons_succ]
      refine wpAnyH_take (i := 7) (v := ?v7a) rfl (by kernel_rfl) (by kernel_rfl) (by kernel_rfl) (fun _ _ _ h => h) (Or.inl ⟨by rfl, ?y7a⟩) (by assumption) ?n7a
      case y7a => (intro W hSw; go_simp; try with_reducible rfl)
      try simp only [Act.put, List.getElem_toArray, List.getElem_cons_succ, List.getElem_cons_zero, List.setIfInBounds_toArray, List.set_cons_zero, List.set_cons_succ]
      refine wpAnyH_take (i := 8) (v := ?v8a) rfl (by kernel_rfl) (by kernel_rfl) (by kernel_rfl) (fun _ _ _ h => h) (Or.inl ⟨by rfl, ?y8a⟩) (by assumption) ?n8a
      case y8a => (intro W hSw; go_simp; try with_reducible rfl)
      try simp only [Act.put, List.getElem_toArray, List.getElem_cons_succ, List.getElem_cons_zero, List.setIfInBounds_toArray, List.set_cons_zero, List.set_cons_succ]
      refine wpAnyH_take (i := 9) (v := ?v9a) rfl (by kernel_rfl) (by kernel_rfl) (by kernel_rfl) (fun _ _ _ h => h) (Or.inl ⟨by rfl, ?y9a⟩) (by assumption) ?n9a
      case y9a => (intro W hSw; go_simp; try with_reducible rfl)
      try simp only [Act.put, List.getElem_toArray, List.getElem_cons_succ, List.getElem_cons_zero, List.setIfInBounds_toArray, List.set_cons_zero, List.set_cons_succ]
      refine wpAnyH_take (i := 10) (v := ?v10a) rfl (by kernel_rfl) (by kernel_rfl) (by kernel_rfl) (fun _ _ _ h => h) (Or.inl ⟨by rfl, ?y10a⟩) (by assumption) ?n10a
      case y10a => (intro W hSw; go_simp; try with_reducible rfl)
      try simp only [Act.put, List.getElem_toArray, List.getElem_cons_succ, List.getElem_cons_zero, List.setIfInBounds_toArray, List.set_cons_zero, List.set_cons_succ]
      refine wpAnyH_take (i := 11) (v := ?v11a) rfl (by kernel_rfl) (by kernel_rfl) (by kernel_rfl) (fun _ _ _ h => h) (Or.inl ⟨by rfl, ?y11a⟩) (by assumption) ?n11a
      case y11a => (intro W hSw; have q0 := (HI.out.below hSw).f2; go_simp; try with_reducible rfl)
      try simp only [Act.put, List.getElem_toArray, List.getElem_cons_succ, List.getElem_cons_zero, List.setIfInBounds_toArray, List.set_cons_zero, List.set_cons_succ]
      refine wpAnyH_ready (rs := [6]) (by kernel_rfl) (by simp) ?_
      refine AllReadyH.cons rfl (fun KK hK => ?_) AllReadyH.nil
      refine step_reads (o := ⟨some 45, _, _, _, _, _⟩) wr.drew.heap.size rfl (.const (.slice none 0 0)) (.tmp 44) 33 5 rfl Try.underlying33 info5 (.slice none 0 0) [] ys D m c rfl rfl (own_nil _ _ _ _) (HR.out.below hHeld) (Nat.le_refl _) (by simp; omega) ?_
      intro A5 n5 c5 w5 own5 hg5
      rw [List.nil_append] at own5
      obtain ⟨A5', c5', hv5, hr5⟩ := own_reads own5
      injection hv5 with e1 e2 e3
      subst e1 e2 e3
      have hf5 : Below wr.drew.heap.size wr.drew w5 := (Fr.of_grown hg5).to_below (fun i hi e => by cases e) (Nat.le_refl _)
      have hw5 := (HW.out.drew).below hf5
      have hbel := hHeld.trans (hf5.mono hHeld.size)
      have hsz5 : w1.heap.size ≤ w5.heap.size := by have := hw5.w.lt; omega
      refine hK.out _ _ hbel (fun hHeld2 => ?_)
      clear hK KK hHeld hbel own5 hg5 hf5
      try simp only [Act.put, List.getElem_toArray, List.getElem_cons_succ, List.getElem_cons_zero, List.setIfInBounds_toArray, List.set_cons_zero, List.set_cons_succ]
      refine wpAnyH_ready (rs := [12]) (by kernel_rfl) (by simp) ?_
      refine AllReadyH.cons rfl (fun KK hK => ?_) AllReadyH.nil
      rw [if_pos (by rfl)]
      go_simp
      refine (raw_put w1.heap.size w1.heap.size vw xs A5 _ _ ys size _ hw5.w hx5 hsz5 hr5).mono ?_
      rintro e w6 ⟨rfl, vw', hwr, hn, hf⟩
      dsimp only
      have hw6 := hw5.stepW hwr hn hf
      have hbel : Below w.heap.size w w6 := hHeld2.trans ((hw5.w.to_below hf hsz5).mono hB1)
      refine hK.out _ _ hbel (fun hHeld => ?_)
      clear hK KK hHeld2 hbel hwr hn hf hw5 hr5
      try simp only [Act.put, List.getElem_toArray, List.getElem_cons_succ, List.getElem_cons_zero, List.setIfInBounds_toArray, List.set_cons_zero, List.set_cons_succ]
      refine wpAnyH_done (by kernel_rfl) ?_ _
      refine NoPanic.normal ?_
      have HW6 := Lib.hid hw6
      have HB6 := Lib.hid hHeld
      have hsz6 : w1.heap.size ≤ w6.heap.size := by have := hw6.w.lt; omega
      clear hw6 hHeld HB HW
      go_wp2_with fail
      refine wp_region_noPanic ?_
      refine wp_region_held_drew (S := fun W => Below w.heap.size w W) (by kernel_rfl) HB6.out.drew (fun hHeld => ?_)
      refine wpAnyH_take (i := 0) (v := ?v0b) rfl (by kernel_rfl) (by kernel_rfl) (by kernel_rfl) (fun _ _ _ h => h) (Or.inl ⟨by rfl, ?y0b⟩) (by assumption) ?n0b
      case y0b => (intro W hSw; go_simp; try with_reducible rfl)
      try simp only [Act.put, List.getElem_toArray, List.getElem_cons_succ, List.getElem_cons_zero, List.setIfInBounds_toArray, List.set_cons_zero, List.set_cons_succ]
      refine wpAnyH_take (i := 1) (v := ?v1b) rfl (by kernel_rfl) (by kernel_rfl) (by kernel_rfl) (fun _ _ _ h => h) (Or.inl ⟨by rfl, ?y1b⟩) (by assumption) ?n1b
      case y1b => (intro W hSw; go_simp; try with_reducible rfl)
      try simp only [Act.put, List.getElem_toArray, List.getElem_cons_succ, List.getElem_cons_zero, List.setIfInBounds_toArray, List.set_cons_zero, List.set_cons_succ]
      refine wpAnyH_take (i := 2) (v := ?v2b) rfl (by kernel_rfl) (by kernel_rfl) (by kernel_rfl) (fun _ _ _ h => h) (Or.inl ⟨by rfl, ?y2b⟩) (by assumption) ?n2b
      case y2b => (intro W hSw; go_simp; try with_reducible rfl)
      try simp only [Act.put, List.getElem_toArray, List.getElem_cons_succ, List.getElem_cons_zero, List.setIfInBounds_toArray, List.set_cons_zero, List.set_cons_succ]
      refine wpAnyH_take (i := 3) (v := ?v3b) rfl (by kernel_rfl) (by kernel_rfl) (by kernel_rfl) (fun _ _ _ h => h) (Or.inl ⟨by rfl, ?y3b⟩) (by assumption) ?n3b
      case y3b => (intro W hSw; go_simp; try with_reducible rfl)
      try simp only [Act.put, List.getElem_toArray, List.getElem_cons_succ, List.getElem_cons_zero, List.setIfInBounds_toArray, List.set_cons_zero, List.set_cons_succ]
      refine wpAnyH_take (i := 4) (v := ?v4b) rfl (by kernel_rfl) (by kernel_rfl) (by kernel_rfl) (fun _ _ _ h => h) (Or.inl ⟨by rfl, ?y4b⟩) (by assumption) ?n4b
      case y4b => (intro W hSw; go_simp; try with_reducible rfl)
      try simp only [Act.put, List.getElem_toArray, List.getElem_cons_succ, List.getElem_cons_zero, List.setIfInBounds_toArray, List.set_cons_zero, List.set_cons_succ]
      refine wpAnyH_take (i := 5) (v := ?v5b) rfl (by kernel_rfl) (by kernel_rfl) (by kernel_rfl) (fun _ _ _ h => h) (Or.inl ⟨by rfl, ?y5b⟩) (by assumption) ?n5b
      case y5b => (intro W hSw; have q0 := (HI.out.below hSw).f3; go_simp; try with_reducible rfl)
      try simp only [Act.put, List.getElem_toArray, List.getElem_cons_succ, List.getElem_cons_zero, List.setIfInBounds_toArray, List.set_cons_zero, List.set_cons_succ]
      refine wpAnyH_take (i := 6) (v := ?v6b) rfl (by kernel_rfl) (by kernel_rfl) (by kernel_rfl) (fun _ _ _ h => h) (Or.inl ⟨by rfl, ?y6b⟩) (by assumption) ?n6b
      case y6b => (intro W hSw; go_simp; try with_reducible rfl)
      try simp only [Act.put, List.getElem_toArray, List.getElem_cons_succ, List.getElem_cons_zero, List.setIfInBounds_toArray, List.set_cons_zero, List.set_cons_succ]
      refine wpAnyH_take (i := 7) (v := ?v7b) rfl (by kernel_rfl) (by kernel_rfl) (by kernel_rfl) (fun _ _ _ h => h) (Or.inl ⟨by rfl, ?y7b⟩) (by assumption) ?n7b
      case y7b => (intro W hSw; go_simp; try with_reducible rfl)
      try simp only [Act.put, List.getElem_toArray, List.getElem_cons_succ, List.getElem_cons_zero, List.setIfInBounds_toArray, List.set_cons_zero, List.set_cons_succ]
      refine wpAnyH_take (i := 8) (v := ?v8b) rfl (by kernel_rfl) (by kernel_rfl) (by kernel_rfl) (fun _ _ _ h => h) (Or.inl ⟨by rfl, ?y8b⟩) (by assumption) ?n8b
      case y8b => (intro W hSw; go_simp; try with_reducible rfl)
      try simp only [Act.put, List.getElem_toArray, List.getElem_cons_succ, List.getElem_cons_zero, List.setIfInBounds_toArray, List.set_cons_zero, List.set_cons_succ]
      refine wpAnyH_take (i := 9) (v := ?v9b) rfl (by kernel_rfl) (by kernel_rfl) (by kernel_rfl) (fun _ _ _ h => h) (Or.inl ⟨by rfl, ?y9b⟩) (by assumption) ?n9b
      case y9b => (intro W hSw; go_simp; try with_reducible rfl)
      try simp only [Act.put, List.getElem_toArray, List.getElem_cons_succ, List.getElem_cons_zero, List.setIfInBounds_toArray, List.set_cons_zero, List.set_cons_succ]
      refine wpAnyH_take (i := 10) (v := ?v10b) rfl (by kernel_rfl) (by kernel_rfl) (by kernel_rfl) (fun _ _ _ h => h) (Or.inl ⟨by rfl, ?y10b⟩) (by assumption) ?n10b
      case y10b => (intro W hSw; have q0 := (HI.out.below hSw).f2; go_simp; try with_reducible rfl)
      try simp only [Act.put, List.getElem_toArray, List.getElem_cons_succ, List.getElem_cons_zero, List.setIfInBounds_toArray, List.set_cons_zero, List.set_cons_succ]
      refine wpAnyH_ready (rs := [11]) (by kernel_rfl) (by simp) ?_
      refine AllReadyH.cons rfl (fun KK hK => ?_) AllReadyH.nil
      rw [if_pos (by rfl)]
      go_simp
      refine (raw_ref w1.heap.size (w1.heap.size + 1) vv xs D m c ys size _ HW6.out.drew.v hx5 hsz6 (HR.out.below hHeld) (fun h ad e => Nat.lt_of_lt_of_le (HOLD.out h ad e) hB1)).mono ?_
      rintro e w7 ⟨rfl, vv', hvr, hn, hf⟩
      dsimp only
      have hw7 := HW6.out.drew.stepV hvr hn hf
      have hbel : Below w.heap.size w w7 := hHeld.trans ((HW6.out.drew.v.to_below hf hsz6).mono hB1)
      refine hK.out _ _ hbel (fun hHeld2 => ?_)
      clear hK KK hHeld hbel hvr hn hf
      try simp only [Act.put, List.getElem_toArray, List.getElem_cons_succ, List.getElem_cons_zero, List.setIfInBounds_toArray, List.set_cons_zero, List.set_cons_succ]
      refine wpAnyH_done (by kernel_rfl) ?_ _
      refine NoPanic.normal ?_
      have HW7 := Lib.hid hw7
      have HB7 := Lib.hid hHeld2
      clear hw7 hHeld2 HB6 HW6
      go_wp2_with fail
      go_roundw
      case rel => exact ⟨k + 1, by omega, by go_num, _, _, _, HW7.out, small_append hsx (rawL_small hsy _), by rw [List.length_append, rawL_length]; have := clip_le size 1000 (by omega); omega, HB7.out⟩
      case measure => simp [intOf]; omega
      | false =>
      go_wp2_with fail
      clear i0 i3
      refine wp_region_noPanic ?_
      refine wp_region_held_drew (S := fun W => Below w.heap.size w W) (by kernel_rfl) HB.out.drew (fun hHeld => ?_)
      refine wpAnyH_take (i := 0) (v := ?v0c) rfl (by kernel_rfl) (by kernel_rfl) (by kernel_rfl) (fun _ _ _ h => h) (Or.inl ⟨by rfl, ?y0c⟩) (by assumption) ?n0c
      case y0c => (intro W hSw; go_simp; try with_reducible rfl)
      try simp only [Act.put, List.getElem_toArray, List.getElem_cons_succ, List.getElem_cons_zero, List.setIfInBounds_toArray, List.set_cons_zero, List.set_cons_succ]
      refine wpAnyH_take (i := 1) (v := ?v1c) rfl (by kernel_rfl) (by kernel_rfl) (by kernel_rfl) (fun _ _ _ h => h) (Or.inl ⟨by rfl, ?y1c⟩) (by assumption) ?n1c
      case y1c => (intro W hSw; go_simp; try with_reducible rfl)
      try simp only [Act.put, List.getElem_toArray, List.getElem_cons_succ, List.getElem_cons_zero, List.setIfInBounds_toArray, List.set_cons_zero, List.set_cons_succ]
      refine wpAnyH_take (i := 2) (v := ?v2c) rfl (by kernel_rfl) (by kernel_rfl) (by kernel_rfl) (fun _ _ _ h => h) (Or.inl ⟨by rfl, ?y2c⟩) (by assumption) ?n2c
      case y2c => (intro W hSw; go_simp; try with_reducible rfl)
      try simp only [Act.put, List.getElem_toArray, List.getElem_cons_succ, List.getElem_cons_zero, List.setIfInBounds_toArray, List.set_cons_zero, List.set_cons_succ]
      refine wpAnyH_take (i := 3) (v := ?v3c) rfl (by kernel_rfl) (by kernel_rfl) (by kernel_rfl) (fun _ _ _ h => h) (Or.inl ⟨by rfl, ?y3c⟩) (by assumption) ?n3c
      case y3c => (intro W hSw; go_simp; try with_reducible rfl)
      try simp only [Act.put, List.getElem_toArray, List.getElem_cons_succ, List.getElem_cons_zero, List.setIfInBounds_toArray, List.set_cons_zero, List.set_cons_succ]
      refine wpAnyH_take (i := 4) (v := ?v4c) rfl (by kernel_rfl) (by kernel_rfl) (by kernel_rfl) (fun _ _ _ h => h) (Or.inl ⟨by rfl, ?y4c⟩) (by assumption) ?n4c
      case y4c => (intro W hSw; go_simp; try with_reducible rfl)
      try simp only [Act.put, List.getElem_toArray, List.getElem_cons_succ, List.getElem_cons_zero, List.setIfInBounds_toArray, List.set_cons_zero, List.set_cons_succ]
      refine wpAnyH_take (i := 5) (v := ?v5c) rfl (by kernel_rfl) (by kernel_rfl) (by kernel_rfl) (fun _ _ _ h => h) (Or.inl ⟨by rfl, ?y5c⟩) (by assumption) ?n5c
      case y5c => (intro W hSw; have q0 := (HI.out.below hSw).f1; go_simp; try with_reducible rfl)
      try simp only [Act.put, List.getElem_toArray, List.getElem_cons_succ, List.getElem_cons_zero, List.setIfInBounds_toArray, List.set_cons_zero, List.set_cons_succ]
      refine wpAnyH_take (i := 6) (v := ?v6c) rfl (by kernel_rfl) (by kernel_rfl) (by kernel_rfl) (fun _ _ _ h => h) (Or.inl ⟨by rfl, ?y6c⟩) (by assumption) ?n6c
      case y6c => (intro W hSw; go_simp; try with_reducible rfl)
      try simp only [Act.put, List.getElem_toArray, List.getElem_cons_succ, List.getElem_cons_zero, List.setIfInBounds_toArray, List.set_cons_zero, List.set_cons_succ]
      refine wpAnyH_take (i := 7) (v := ?v7c) rfl (by kernel_rfl) (by kernel_rfl) (by kernel_rfl) (fun _ _ _ h => h) (Or.inl ⟨by rfl, ?y7c⟩) (by assumption) ?n7c
      case y7c => (intro W hSw; go_simp; try with_reducible rfl)
      try simp only [Act.put, List.getElem_toArray, List.getElem_cons_succ, List.getElem_cons_zero, List.setIfInBounds_toArray, List.set_cons_zero, List.set_cons_succ]
      refine wpAnyH_take (i := 8) (v := ?v8c) rfl (by kernel_rfl) (by kernel_rfl) (by kernel_rfl) (fun _ _ _ h => h) (Or.inl ⟨by rfl, ?y8c⟩) (by assumption) ?n8c
      case y8c => (intro W hSw; go_simp; try with_reducible rfl)
      try simp only [Act.put, List.getElem_toArray, List.getElem_cons_succ, List.getElem_cons_zero, List.setIfInBounds_toArray, List.set_cons_zero, List.set_cons_succ]
      refine wpAnyH_take (i := 9) (v := ?v9c) rfl (by kernel_rfl) (by kernel_rfl) (by kernel_rfl) (fun _ _ _ h => h) (Or.inl ⟨by rfl, ?y9c⟩) (by assumption) ?n9c
      case y9c => (intro W hSw; go_simp; try with_reducible rfl)
      try simp only [Act.put, List.getElem_toArray, List.getElem_cons_succ, List.getElem_cons_zero, List.setIfInBounds_toArray, List.set_cons_zero, List.set_cons_succ]
      refine wpAnyH_take (i := 10) (v := ?v10c) rfl (by kernel_rfl) (by kernel_rfl) (by kernel_rfl) (fun _ _ _ h => h) (Or.inl ⟨by rfl, ?y10c⟩) (by assumption) ?n10c
      case y10c => (intro W hSw; have q0 := (HI.out.below hSw).f2; go_simp; try with_reducible rfl)
      try simp only [Act.put, List.getElem_toArray, List.getElem_cons_succ, List.getElem_cons_zero, List.setIfInBounds_toArray, List.set_cons_zero, List.set_cons_succ]
      refine wpAnyH_ready (rs := [11]) (by kernel_rfl) (by simp) ?_
      refine AllReadyH.cons rfl (fun KK hK => ?_) AllReadyH.nil
      rw [if_pos (by rfl)]
      go_simp
      have hw5 := HW.out.drew
      refine (num_put w1.heap.size w1.heap.size vw xs n size _ hw5.w hx5 hsz).mono ?_
      rintro e w6 ⟨rfl, vw', hwr, hn, hf⟩
      dsimp only
      have hw6 := hw5.stepW hwr hn hf
      have hbel : Below w.heap.size w w6 := hHeld.trans ((hw5.w.to_below hf hsz).mono hB1)
      refine hK.out _ _ hbel (fun hHeld2 => ?_)
      clear hK KK hHeld hbel hwr hn hf hw5
      try simp only [Act.put, List.getElem_toArray, List.getElem_cons_succ, List.getElem_cons_zero, List.setIfInBounds_toArray, List.set_cons_zero, List.set_cons_succ]
      refine wpAnyH_done (by kernel_rfl) ?_ _
      refine NoPanic.normal ?_
      have HW6 := Lib.hid hw6
      have HB6 := Lib.hid hHeld2
      have hsz6 : w1.heap.size ≤ w6.heap.size := by have := hw6.w.lt; omega
      clear hw6 hHeld2 HB HW
      go_wp2_with fail
      refine wp_region_noPanic ?_
      refine wp_region_held_drew (S := fun W => Below w.heap.size w W) (by kernel_rfl) HB6.out.drew (fun hHeld => ?_)
      refine wpAnyH_take (i := 0) (v := ?v0d) rfl (by kernel_rfl) (by kernel_rfl) (by kernel_rfl) (fun _ _ _ h => h) (Or.inl ⟨by rfl, ?y0d⟩) (by assumption) ?n0d
      case y0d => (intro W hSw; go_simp; try with_reducible rfl)
      try simp only [Act.put, List.getElem_toArray, List.getElem_cons_succ, List.getElem_cons_zero, List.setIfInBounds_toArray, List.set_cons_zero, List.set_cons_succ]
      refine wpAnyH_take (i := 1) (v := ?v1d) rfl (by kernel_rfl) (by kernel_rfl) (by kernel_rfl) (fun _ _ _ h => h) (Or.inl ⟨by rfl, ?y1d⟩) (by assumption) ?n1d
      case y1d => (intro W hSw; go_simp; try with_reducible rfl)
      try simp only [Act.put, List.getElem_toArray, List.getElem_cons_succ, List.getElem_cons_zero, List.setIfInBounds_toArray, List.set_cons_zero, List.set_cons_succ]
      refine wpAnyH_take (i := 2) (v := ?v2d) rfl (by kernel_rfl) (by kernel_rfl) (by kernel_rfl) (fun _ _ _ h => h) (Or.inl ⟨by rfl, ?y2d⟩) (by assumption) ?n2d
      case y2d => (intro W hSw; go_simp; try with_reducible rfl)
      try simp only [Act.put, List.getElem_toArray, List.getElem_cons_succ, List.getElem_cons_zero, List.setIfInBounds_toArray, List.set_cons_zero, List.set_cons_succ]
      refine wpAnyH_take (i := 3) (v := ?v3d) rfl (by kernel_rfl) (by kernel_rfl) (by kernel_rfl) (fun _ _ _ h => h) (Or.inl ⟨by rfl, ?y3d⟩) (by assumption) ?n3d
      case y3d => (intro W hSw; go_simp; try with_reducible rfl)
      try simp only [Act.put, List.getElem_toArray, List.getElem_cons_succ, List.getElem_cons_zero, List.setIfInBounds_toArray, List.set_cons_zero, List.set_cons_succ]
      refine wpAnyH_take (i := 4) (v := ?v4d) rfl (by kernel_rfl) (by kernel_rfl) (by kernel_rfl) (fun _ _ _ h => h) (Or.inl ⟨by rfl, ?y4d⟩) (by assumption) ?n4d
      case y4d => (intro W hSw; go_simp; try with_reducible rfl)
      try simp only [Act.put, List.getElem_toArray, List.getElem_cons_succ, List.getElem_cons_zero, List.setIfInBounds_toArray, List.set_cons_zero, List.set_cons_succ]
      refine wpAnyH_take (i := 5) (v := ?v5d) rfl (by kernel_rfl) (by kernel_rfl) (by kernel_rfl) (fun _ _ _ h => h) (Or.inl ⟨by rfl, ?y5d⟩) (by assumption) ?n5d
      case y5d => (intro W hSw; have q0 := (HI.out.below hSw).f1; go_simp; try with_reducible rfl)
      try simp only [Act.put, List.getElem_toArray, List.getElem_cons_succ, List.getElem_cons_zero, List.setIfInBounds_toArray, List.set_cons_zero, List.set_cons_succ]
      refine wpAnyH_take (i := 6) (v := ?v6d) rfl (by kernel_rfl) (by kernel_rfl) (by kernel_rfl) (fun _ _ _ h => h) (Or.inl ⟨by rfl, ?y6d⟩) (by assumption) ?n6d
      case y6d => (intro W hSw; go_simp; try with_reducible rfl)
      try simp only [Act.put, List.getElem_toArray, List.getElem_cons_succ, List.getElem_cons_zero, List.setIfInBounds_toArray, List.set_cons_zero, List.set_cons_succ]
      refine wpAnyH_take (i := 7) (v := ?v7d) rfl (by kernel_rfl) (by kernel_rfl) (by kernel_rfl) (fun _ _ _ h => h) (Or.inl ⟨by rfl, ?y7d⟩) (by assumption) ?n7d
      case y7d => (intro W hSw; go_simp; try with_reducible rfl)
      try simp only [Act.put, List.getElem_toArray, List.getElem_cons_succ, List.getElem_cons_zero, List.setIfInBounds_toArray, List.set_cons_zero, List.set_cons_succ]
      refine wpAnyH_take (i := 8) (v := ?v8d) rfl (by kernel_rfl) (by kernel_rfl) (by kernel_rfl) (fun _ _ _ h => h) (Or.inl ⟨by rfl, ?y8d⟩) (by assumption) ?n8d
      case y8d => (intro W hSw; go_simp; try with_reducible rfl)
      try simp only [Act.put, List.getElem_toArray, List.getElem_cons_succ, List.getElem_cons_zero, List.setIfInBounds_toArray, List.set_cons_zero, List.set_cons_succ]
      refine wpAnyH_take (i := 9) (v := ?v9d) rfl (by kernel_rfl) (by kernel_rfl) (by kernel_rfl) (fun _ _ _ h => h) (Or.inl ⟨by rfl, ?y9d⟩) (by assumption) ?n9d
      case y9d => (intro W hSw; go_simp; try with_reducible rfl)
      try simp only [Act.put, List.getElem_toArray, List.getElem_cons_succ, List.getElem_cons_zero, List.setIfInBounds_toArray, List.set_cons_zero, List.set_cons_succ]
      refine wpAnyH_take (i := 10) (v := ?v10d) rfl (by kernel_rfl) (by kernel_rfl) (by kernel_rfl) (fun _ _ _ h => h) (Or.inl ⟨by rfl, ?y10d⟩) (by assumption) ?n10d
      case y10d => (intro W hSw; have q0 := (HI.out.below hSw).f2; go_simp; try with_reducible rfl)
      try simp only [Act.put, List.getElem_toArray, List.getElem_cons_succ, List.getElem_cons_zero, List.setIfInBounds_toArray, List.set_cons_zero, List.set_cons_succ]
      refine wpAnyH_ready (rs := [11]) (by kernel_rfl) (by simp) ?_
      refine AllReadyH.cons rfl (fun KK hK => ?_) AllReadyH.nil
      rw [if_pos (by rfl)]
      go_simp
      refine (num_ref w1.heap.size (w1.heap.size + 1) vv xs n size _ HW6.out.drew.v hx5 hsz6).mono ?_
      rintro e w7 ⟨rfl, vv', hvr, hn, hf⟩
      dsimp only
      have hw7 := HW6.out.drew.stepV hvr hn hf
      have hbel : Below w.heap.size w w7 := hHeld.trans ((HW6.out.drew.v.to_below hf hsz6).mono hB1)
      refine hK.out _ _ hbel (fun hHeld2 => ?_)
      clear hK KK hHeld hbel hvr hn hf
      try simp only [Act.put, List.getElem_toArray, List.getElem_cons_succ, List.getElem_cons_zero, List.setIfInBounds_toArray, List.set_cons_zero, List.set_cons_succ]
      refine wpAnyH_done (by kernel_rfl) ?_ _
      refine NoPanic.normal ?_
      have HW7 := Lib.hid hw7
      have HB7 := Lib.hid hHeld2
      clear hw7 hHeld2 HB6 HW6
      go_wp2_with fail
      go_roundw
      case rel => exact ⟨k + 1, by omega, by go_num, _, _, _, HW7.out, small_append hsx (numL_small _ _), by rw [List.length_append, numL_length]; have := clip_le size 8 (by omega); omega, HB7.out⟩
      case measure => simp [intOf]; omega
    · have hk3 : k = len := by omega
      subst hk3
      have hx5 : xs.length ≤ 100000 := by omega
      go_wp2_with fail
      refine (bytes_put w1.heap.size w1.heap.size vw xs _ HW.out.w hx5).mono ?_
      rintro e w8 ⟨v8, rfl, hg⟩
      have ho8 := hg.1
      obtain ⟨L, hL⟩ : ∃ L, L = xs.length := ⟨_, rfl⟩
      rw [← hL] at ho8
      have hcap := own_reads ho8
      obtain ⟨A8, c8, rfl, hr8⟩ := hcap
      have hc8 := Cap8 ho8
      have hv8 := (HW.out.v.below hg.2)
      have hc0 := hv8.cell0
      obtain ⟨A9, c9, rfl, hr9⟩ := own_reads hv8.own
      have HB8 := Lib.hid (HB.out.trans (hg.2.mono HB.out.size))
      have q1 := fun j : Nat => conv_reads (w := w8.drewN j) c8 hr8
      have q2 := fun j : Nat => conv_reads (w := w8.drewN j) c9 hr9
      have HR8 := Lib.hid hr8
      have HRJ := Lib.hid (fun j : Nat => show ReadsInt (w8.drewN j) .u8 A8 L xs from hr8)
      have HBJ := Lib.hid (fun j : Nat => drewN_below HB8.out j)
      have hL5 : L ≤ 100000 := by omega
      clear hg ho8 hr8 hr9 hv8 HB HW hL hx5 hlx
      go_wp2_with fail
      go_quiet (fail)
      go_wp2_with fail
      clear q1 q2 hc0
      refine (reads_walk A8 L c8 xs T k cap _ (HRJ.out _) hsx (by omega) hc8 (by omega) (HT.out.items (HBJ.out _))).mono ?_
      rintro e w9 ⟨rfl, hb9⟩
      have HB9 := Lib.hid ((HBJ.out _).trans (hb9.mono (HBJ.out _).size))
      have HR9 := Lib.hid ((HRJ.out _).below hb9)
      clear hb9 HRJ HBJ HR8 HB8
      cases L with
      | zero =>
        go_wp2_with fail
        go_ret
        exact ⟨rfl, HB9.out⟩
      | succ L =>
        have hL0 : ((↑(L + 1) : Int) == 0) = false := beq_eq_false_iff_ne.2 (by omega)
        have hL1 : (↑(L + 1) : Int) - 1 = (L : Int) := by omega
        go_wp2_with fail
        refine (reads_walk A8 L c8 (xs.take L) T k cap _ (HR9.out.take_ L (by omega)) (small_take hsx L) (by omega) (by omega) (by omega) (HT.out.items HB9.out)).mono ?_
        rintro e w10 ⟨rfl, hb10⟩
        go_wp2_with fail
        go_ret
        exact ⟨rfl, HB9.out.trans (hb10.mono HB9.out.size)⟩

theorem fieldWrites_any {H : Type} {enc : TypeId × Value → H} {base b1 : Nat} {held : Bool} {d1 : DataW H} {p1 : List MemPlace} (v1 : Value) (W : World)
    (hv1 : Value.okWide Try.prog W .any b1 45 v1) (h1 : DataW.Trod enc Try.prog W base (fun _ => true) held 45 v1 d1 p1) :
    Calls Try.prog 9 #[v1] W fun e W' => e = .returned (.bool true) ∧ Below W.heap.size W W' := by
  obtain ⟨T0, len0, cap0, rfl⟩ := Go.WideShapes.okWide_slice Try.underlying45 hv1
  obtain ⟨fuel, hf⟩ := h1
  have hf : DataW.trod enc Try.prog W base (fun _ => true) held fuel 45 [.slice T0 len0 cap0] = some (d1, p1) := hf
  obtain ⟨T, len, cap, e, hT⟩ := open_items hf
  injection e with e1 e2 e3
  subst e1 e2 e3
  by_cases hl : 40 < len0
  · exact writes_out _ _ _ W hl
  · refine writes_in _ _ _ W (fun i hi => ?_) (by omega)
    obtain ⟨a, raw, k, size, B, m', c', zs', e, h, hz⟩ := hT i hi
    obtain ⟨l, rfl, hr, _, hw, _⟩ := ReadsInt.ofRowC hz
    exact ⟨a, raw, k, size, B, _, c', l, e, h, hr, small_of hw⟩
end Go.Proofs.Ytgcdankgckgibaa.Field
