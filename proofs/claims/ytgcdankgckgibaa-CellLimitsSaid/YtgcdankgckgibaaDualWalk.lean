/- Walks: dual.Put, Get and the reference's do what the plain functions say. -/
import Derived.Test.YtgcdankgckgibaaDualPlain
import Derived.Laws.MakeOwn
import Derived.BigQuiet
import Derived.Deep.RegionHeld3
namespace Go.Proofs.Ytgcdankgckgibaa.DualWalk
open Go.RowKit Go.Proofs.YtgcdankgckgibaaW.PrintWords Go.Proofs.YtgcdankgckgibaaW.PrintLast Go.Proofs.Ytgcdankgckgibaa.Kit Go.Proofs.Ytgcdankgckgibaa.Dual

/-- make([]byte, 0, c) -/
theorem run_make0 (c : Nat) (hc : c ≤ 1000000) (W : World) : (Instr.makeSlice 33 (.int .i64 0) (.int .i64 (c : Int))).run Try.prog W = .ok (.slice (some ⟨W.heap.size, 0, none⟩) 0 c) (W.alloc (.cells (madeCells #[.int .u8 0] c) 5)) := by
  obtain ⟨i0, hi, hzz⟩ := Option.map_eq_some_iff.1 info5
  simp only [Prod.mk.injEq] at hzz
  obtain ⟨hz0, hz1, hz2⟩ := hzz
  have h := run_make (P := Try.prog) W 33 5 i0 (.int .u8 0) Try.underlying33 hi hz0 .i64 .i64 0 (c : Int) (by omega) (by omega) (by rw [hz2]; omega) (by omega)
  rw [hz1] at h
  simpa [Value.cells] using h
theorem own_make0 (W : World) (base c : Nat) (hb : base ≤ W.heap.size) (hc : c ≤ 1000000) : (W.alloc (.cells (madeCells #[.int .u8 0] c) 5)).ownsRow base 5 1 (.slice (some ⟨W.heap.size, 0, none⟩) 0 c) 0 (nums .u8 []) := by
  refine ⟨by simp [nums], .inr ⟨W.heap.size, c, madeCells #[.int .u8 0] c, rfl, hb, heap_alloc_new W _, by omega, by simp [maxLen]; omega, by simp [size_madeCells], by simp [nums]⟩⟩

set_option maxHeartbeats 1000000 in
theorem put_calls (A : Option Addr) (n c : Nat) (xs : List Int) (w : World) (hr : ReadsInt w .u8 A n xs) (hs : Small xs) (hn : n ≤ 100000) :
    Calls Try.prog 54 #[.slice A n c] w fun e w' => ∃ v, e = .returned v ∧ Gives w w' v (put xs) := by
  have hxn : xs.length = n := hr.1
  have HXN := Lib.hid hxn
  have hmk := run_make0 (2 * n) (by omega)
  have e2 : ((2 * n : Nat) : Int) = 2 * (n : Int) := by omega
  rw [e2] at hmk
  clear e2 hxn
  go_enter Try.func54, Try.ntmps54
  go_wp2_with fail
  have hown := own_make0 w w.heap.size (2 * n) (Nat.le_refl _) (by omega)
  have hb0 : Below w.heap.size w (w.alloc (.cells (madeCells #[.int .u8 0] (2 * n)) 5)) := (Below.refl _ _).alloc (Nat.le_refl _) _
  have hcells : ∀ k, k < n → ∃ ad, A = some ad ∧ (w.alloc (.cells (madeCells #[.int .u8 0] (2 * n)) 5)).cell? (ad.add k) = some (.int .u8 (rd xs k)) := fun k hk => reads_cell (hr.below hb0) hk
  clear hmk hcells
  go_loopw [3, 12] (fun v i wr => ∃ k : Nat, k ≤ n ∧ i = .int .i64 k ∧ wr.ownsRow w.heap.size 5 1 v (put (xs.take k)).length (nums .u8 (put (xs.take k))) ∧ Below w.heap.size w wr) (fun _ i _ => n - (intOf i).toNat)
  case atStart => exact ⟨0, Nat.zero_le _, rfl, hown, hb0⟩
  case round =>
    obtain ⟨k, hk, rfl, ho, hb⟩ := hrel
    by_cases hlt : k < n
    · obtain ⟨ad, rfl, hc⟩ := reads_cell (hr.below hb) hlt
      obtain ⟨c0, c1⟩ := hs k
      have hx := not8 _ c0 c1
      have hp := put_take xs k (by have := HXN.out; omega)
      have hpl := put_length (xs.take k)
      have htl := List.length_take_le k xs
      generalize hrd : rd xs (k : Int) = cb at *
      have HR := Lib.hid hrd
      have HP := Lib.hid hp
      have HL := Lib.hid hpl
      clear hrd hp hpl
      go_wp2_with (first
        | (at_builtin
           refine print_append_row w.heap.size rfl (.tmp 16) (.tmp 20) 33 5 .u8 1 rfl Try.underlying33 info5 (by decide) _ (put (xs.take k)) [cb, 255 - cb] (some ⟨_, 0, none⟩) 2 2 rfl rfl (ho.alloc _) (reads_mark _ 5 (0, 0) [cb, 255 - cb] (by simp)) (hb.alloc hb.size _) (by have := hb.size; simp; omega) (by have := HL.out; omega) ?_
           intro v1 w2 own1 hb1 hg1 hat1
           rw [← HP.out] at own1
           have HO1 := Lib.hid own1
           have HB1 := Lib.hid hb1
           clear own1 hb1 hg1 hat1)
        | fail)
      go_roundw
      case rel => exact ⟨k + 1, by omega, by go_num, HO1.out, HB1.out⟩
      case measure => simp [intOf]; omega
    · go_wp2_with fail
      have hk2 : k = n := by omega
      rw [List.take_of_length_le (by have := HXN.out; omega)] at ho
      go_ret
      exact ⟨_, rfl, ho, hb⟩

set_option maxHeartbeats 1000000 in
theorem put_ref (A : Option Addr) (n c : Nat) (xs : List Int) (w : World) (hr : ReadsInt w .u8 A n xs) (hs : Small xs) (hn : n ≤ 100000) :
    Calls Try.prog 55 #[.slice A n c] w fun e w' => ∃ v, e = .returned v ∧ Gives w w' v (put xs) := by
  have hxn : xs.length = n := hr.1
  have HXN := Lib.hid hxn
  clear hxn
  go_enter Try.func55, Try.ntmps55
  go_wp2_with fail
  go_loopw [3, 4] (fun v i wr => ∃ k : Nat, k ≤ n ∧ i = .int .i64 k ∧ wr.ownsRow w.heap.size 5 1 v (put (xs.take k)).length (nums .u8 (put (xs.take k))) ∧ Below w.heap.size w wr) (fun _ i _ => n - (intOf i).toNat)
  case atStart => exact ⟨0, Nat.zero_le _, rfl, own_nil _ _ _ _, Below.refl _ _⟩
  case round =>
    obtain ⟨k, hk, rfl, ho, hb⟩ := hrel
    by_cases hlt : k < n
    · obtain ⟨ad, rfl, hc0⟩ := reads_cell hr hlt
      have hc := pw_cell_below hb hc0
      obtain ⟨c0, c1⟩ := hs k
      have hx := xor255 _ c0 c1
      have hp := put_take xs k (by have := HXN.out; omega)
      have hpl := put_length (xs.take k)
      have htl := List.length_take_le k xs
      have hk0 : (0 : Int) ≤ (k : Int) := by omega
      have hk1 : (k : Int) < (n : Int) := by omega
      generalize hrd : rd xs (k : Int) = cb at *
      have hcw := Lib.hid hc0
      clear hc0
      have HR := Lib.hid hrd
      have HP := Lib.hid hp
      have HL := Lib.hid hpl
      have HO := Lib.hid ho
      clear hrd hp hpl ho
      go_wp2_with fail
      go_region_held3 (fun w' => w'.cell? (ad.add k) = some (.int .u8 cb)) (first | go_keep | exact pw_cell_below (by assumption) hcw.out)
        ((go_loud (refine step_row w.heap.size (by rfl) (.tmp 11) (.tmp 21) 33 5 (by rfl) Try.underlying33 info5 _ (put (xs.take k)) [cb, 255 - cb] _ 2 2 (by rfl) (by rfl) (by decide) (HO.out.alloc _) (reads_mark _ 5 (0, 0) [cb, 255 - cb] (by simp)) ((hb.alloc hb.size _).drew) (by have := hb.size; simp; omega) (by have := HL.out; omega) ?_); intro v1 w2 own1 hb1))
      rw [← HP.out] at own1
      have HO1 := Lib.hid own1
      have HB1 := Lib.hid hb1
      clear own1 hb1
      go_wp2_with fail
      go_roundw
      case rel => exact ⟨k + 1, by omega, by go_num, HO1.out, HB1.out⟩
      case measure => simp [intOf]; omega
    · go_wp2_with fail
      have hk2 : k = n := by omega
      rw [List.take_of_length_le (by have := HXN.out; omega)] at ho
      go_ret
      exact ⟨_, rfl, ho, hb⟩

set_option maxHeartbeats 1000000 in
theorem get_odd_calls (A : Option Addr) (n c : Nat) (w : World) (h : n % 2 = 1) :
    Calls Try.prog 56 #[.slice A n c] w fun e w' => e = .returned (.tuple #[.slice none 0 0, .bool false]) ∧ w = w' := by
  have hm : ((n : Int) % 2 != 0) = true := by simp; omega
  go_enter Try.func56, Try.ntmps56
  go_wp2_with fail
  go_ret2
  exact ⟨rfl, rfl⟩

set_option maxHeartbeats 1000000 in
theorem get_even (A : Option Addr) (n c : Nat) (xs : List Int) (w : World) (hr : ReadsInt w .u8 A n xs) (hs : Small xs) (hn : n ≤ 100000) (h : n % 2 = 0) :
    Calls Try.prog 56 #[.slice A n c] w fun e w' => ∃ v, e = .returned (.tuple #[v, .bool (get xs).isSome]) ∧ Gives w w' v ((get xs).getD []) := by
  have hxn : xs.length = n := hr.1
  have HXN := Lib.hid hxn
  have hmk := run_make0 (n / 2) (by omega)
  have e2 : ((n / 2 : Nat) : Int) = (n : Int) / 2 := by omega
  rw [e2] at hmk
  have hm : ((n : Int) % 2 != 0) = false := by simp; omega
  clear e2 hxn
  go_enter Try.func56, Try.ntmps56
  go_wp2_with fail
  have hown := own_make0 w w.heap.size (n / 2) (Nat.le_refl _) (by omega)
  have hb0 : Below w.heap.size w (w.alloc (.cells (madeCells #[.int .u8 0] (n / 2)) 5)) := (Below.refl _ _).alloc (Nat.le_refl _) _
  clear hmk hm
  go_loopw [4, 5] (fun v i wr => ∃ k j : Nat, j = 2 * k ∧ j ≤ n ∧ i = .int .i64 j ∧ wr.ownsRow w.heap.size 5 1 v (evens xs k).length (nums .u8 (evens xs k)) ∧ Below w.heap.size w wr ∧ upto xs k) (fun _ i _ => n - (intOf i).toNat)
  case atStart => exact ⟨0, 0, rfl, Nat.zero_le _, rfl, hown, hb0, upto_zero xs⟩
  case round =>
    obtain ⟨k, j, hj, hk, rfl, ho, hb, hu⟩ := hrel
    have HJ := Lib.hid hj
    have HU := Lib.hid hu
    clear hu hj
    by_cases hlt : j < n
    · have hlt1 : j + 1 < n := by have := HJ.out; omega
      obtain ⟨ad, rfl, hc0⟩ := reads_cell hr hlt
      obtain ⟨ad', e', hc1⟩ := reads_cell hr (show j + 1 < n by have := HJ.out; omega)
      obtain rfl := Option.some.inj e'
      clear e'
      have hca := pw_cell_below hb hc0
      have hcb := pw_cell_below hb hc1
      rw [add_succ] at hcb
      obtain ⟨c0, c1⟩ := hs j
      obtain ⟨d0, d1⟩ := hs (j + 1)
      have hx := not8 _ d0 d1
      have hup := upto_succ (xs := xs) (k := k) (by have := HXN.out; have := HJ.out; omega) HU.out
      have hst := upto_stop (xs := xs) (k := k) (by have := HXN.out; have := HJ.out; omega) HU.out
      have hev := evens_succ xs k
      rw [← HJ.out] at hup hst hev
      have hel := evens_length xs k
      generalize hrd : rd xs (j : Int) = cb at *
      generalize hrd1 : rd xs ((j + 1 : Nat) : Int) = cb1 at *
      have HUP := Lib.hid hup
      have HST := Lib.hid hst
      have HEV := Lib.hid hev
      have HEL := Lib.hid hel
      have HO := Lib.hid ho
      clear hrd hrd1 hc0 hc1 hup hst hev hel ho
      have hk0 : (0 : Int) ≤ (j : Int) := by omega
      have hk1 : (j : Int) < (n : Int) := by omega
      have hk2 : (0 : Int) ≤ (j : Int) + 1 := by omega
      have hk3 : (j : Int) + 1 < (n : Int) := by omega
      have hk4 : IntKind.i64.wrap ((j : Int) + 1) = (j : Int) + 1 := IntWalk.i64_in _ (by omega)
      have hk5 : ((j : Int) + 1).toNat = j + 1 := by omega
      by_cases he : cb = 255 - cb1
      · have ht : (cb != 255 - cb1) = false := by simp [he]
        have HE := Lib.hid he
        clear he
        go_wp2_with fail
        go_quiet (fail)
        go_wp2_with (first
          | (at_builtin
             refine print_append_row w.heap.size rfl (.tmp 31) (.tmp 36) 33 5 .u8 1 rfl Try.underlying33 info5 (by decide) _ (evens xs k) [cb] (some ⟨_, 0, none⟩) 1 1 rfl rfl (HO.out.alloc _) (reads_mark _ 5 (0, 0) [cb] (by simp)) (drewN_below (hb.alloc hb.size _) _) (by have := hb.size; simp; omega) (by have := HEL.out; have := HJ.out; omega) ?_
             intro v1 w2 own1 hb1 hg1 hat1
             rw [← HEV.out] at own1
             have HO1 := Lib.hid own1
             have HB1 := Lib.hid hb1
             clear own1 hb1 hg1 hat1)
          | fail)
        go_roundw
        case rel => exact ⟨k + 1, j + 2, by have := HJ.out; omega, by omega, by go_num, HO1.out, HB1.out, HUP.out HE.out⟩
        case measure => simp [intOf]; omega
      · have ht : (cb != 255 - cb1) = true := by simpa using he
        have hg := HST.out he
        have HG := Lib.hid hg
        clear he hg
        go_wp2_with fail
        go_quiet (fail)
        go_wp2_with fail
        go_ret2
        exact ⟨_, by rw [HG.out]; rfl, by rw [HG.out]; exact Gives.none_ (drewN_below hb _)⟩
    · have hg := upto_end (xs := xs) (k := k) (by have := HXN.out; have := HJ.out; omega) HU.out
      have HG := Lib.hid hg
      clear hg
      go_wp2_with fail
      go_ret2
      exact ⟨_, by rw [HG.out]; rfl, by rw [HG.out]; exact ⟨ho, hb⟩⟩

set_option maxHeartbeats 1000000 in
theorem get_odd_ref (A : Option Addr) (n c : Nat) (w : World) (h : n % 2 = 1) :
    Calls Try.prog 57 #[.slice A n c] w fun e w' => e = .returned (.tuple #[.slice none 0 0, .bool false]) ∧ w = w' := by
  have hm : ((n : Int) % 2 != 0) = true := by simp; omega
  go_enter Try.func57, Try.ntmps57
  go_wp2_with fail
  go_ret2
  exact ⟨rfl, rfl⟩

set_option maxHeartbeats 1000000 in
theorem get_even_ref (A : Option Addr) (n c : Nat) (xs : List Int) (w : World) (hr : ReadsInt w .u8 A n xs) (hs : Small xs) (hn : n ≤ 100000) (h : n % 2 = 0) :
    Calls Try.prog 57 #[.slice A n c] w fun e w' => ∃ v, e = .returned (.tuple #[v, .bool (get xs).isSome]) ∧ Gives w w' v ((get xs).getD []) := by
  have hxn : xs.length = n := hr.1
  have HXN := Lib.hid hxn
  have hm : ((n : Int) % 2 != 0) = false := by simp; omega
  clear hxn
  go_enter Try.func57, Try.ntmps57
  go_wp2_with fail
  clear hm
  go_loopw [4, 5] (fun v i wr => ∃ k j : Nat, j = 2 * k ∧ j ≤ n ∧ i = .int .i64 j ∧ wr.ownsRow w.heap.size 5 1 v (evens xs k).length (nums .u8 (evens xs k)) ∧ Below w.heap.size w wr ∧ upto xs k) (fun _ i _ => n - (intOf i).toNat)
  case atStart => exact ⟨0, 0, rfl, Nat.zero_le _, rfl, own_nil _ _ _ _, Below.refl _ _, upto_zero xs⟩
  case round =>
    obtain ⟨k, j, hj, hk, rfl, ho, hb, hu⟩ := hrel
    have HJ := Lib.hid hj
    have HU := Lib.hid hu
    clear hu hj
    by_cases hlt : j < n
    · have hlt1 : j + 1 < n := by have := HJ.out; omega
      obtain ⟨ad, rfl, hc0⟩ := reads_cell hr hlt
      obtain ⟨ad', e', hc1⟩ := reads_cell hr (show j + 1 < n by have := HJ.out; omega)
      obtain rfl := Option.some.inj e'
      clear e'
      have hca := pw_cell_below hb hc0
      have hcb := pw_cell_below hb hc1
      rw [add_succ] at hcb
      obtain ⟨c0, c1⟩ := hs j
      obtain ⟨d0, d1⟩ := hs (j + 1)
      have hx := xor_eq255 _ _ c0 c1 d0 d1
      have hup := upto_succ (xs := xs) (k := k) (by have := HXN.out; have := HJ.out; omega) HU.out
      have hst := upto_stop (xs := xs) (k := k) (by have := HXN.out; have := HJ.out; omega) HU.out
      have hev := evens_succ xs k
      rw [← HJ.out] at hup hst hev
      have hel := evens_length xs k
      generalize hrd : rd xs (j : Int) = cb at *
      generalize hrd1 : rd xs ((j + 1 : Nat) : Int) = cb1 at *
      have HX := Lib.hid hx
      have HUP := Lib.hid hup
      have HST := Lib.hid hst
      have HEV := Lib.hid hev
      have HEL := Lib.hid hel
      have HO := Lib.hid ho
      clear hx hrd hrd1 hc0 hc1 hup hst hev hel ho
      have hk0 : (0 : Int) ≤ (j : Int) := by omega
      have hk1 : (j : Int) < (n : Int) := by omega
      have hk2 : (0 : Int) ≤ (j : Int) + 1 := by omega
      have hk3 : (j : Int) + 1 < (n : Int) := by omega
      have hk4 : IntKind.i64.wrap ((j : Int) + 1) = (j : Int) + 1 := IntWalk.i64_in _ (by omega)
      have hk5 : ((j : Int) + 1).toNat = j + 1 := by omega
      by_cases he : cb = 255 - cb1
      · have ht : bits .xor .u8 cb cb1 = 255 := HX.out.2 he
        have HE := Lib.hid he
        clear he
        go_wp2_with fail
        go_quiet (fail)
        go_wp2_with (first
          | (at_builtin
             refine print_append_row w.heap.size rfl (.tmp 27) (.tmp 32) 33 5 .u8 1 rfl Try.underlying33 info5 (by decide) _ (evens xs k) [cb] (some ⟨_, 0, none⟩) 1 1 rfl rfl (HO.out.alloc _) (reads_mark _ 5 (0, 0) [cb] (by simp)) (drewN_below (hb.alloc hb.size _) _) (by have := hb.size; simp; omega) (by have := HEL.out; have := HJ.out; omega) ?_
             intro v1 w2 own1 hb1 hg1 hat1
             rw [← HEV.out] at own1
             have HO1 := Lib.hid own1
             have HB1 := Lib.hid hb1
             clear own1 hb1 hg1 hat1)
          | fail)
        go_roundw
        case rel => exact ⟨k + 1, j + 2, by have := HJ.out; omega, by omega, by go_num, HO1.out, HB1.out, HUP.out HE.out⟩
        case measure => simp [intOf]; omega
      · have ht : (bits .xor .u8 cb cb1 != 255) = true := by rw [bne_iff_ne]; exact fun e => he (HX.out.1 e)
        have hg := HST.out he
        have HG := Lib.hid hg
        clear he hg
        go_wp2_with fail
        go_quiet (fail)
        go_wp2_with fail
        go_ret2
        exact ⟨_, by rw [HG.out]; rfl, by rw [HG.out]; exact Gives.none_ (drewN_below hb _)⟩
    · have hg := upto_end (xs := xs) (k := k) (by have := HXN.out; have := HJ.out; omega) HU.out
      have HG := Lib.hid hg
      clear hg
      go_wp2_with fail
      go_ret2
      exact ⟨_, by rw [HG.out]; rfl, by rw [HG.out]; exact ⟨ho, hb⟩⟩

theorem get_calls (A : Option Addr) (n c : Nat) (xs : List Int) (w : World) (hr : ReadsInt w .u8 A n xs) (hs : Small xs) (hn : n ≤ 100000) :
    Calls Try.prog 56 #[.slice A n c] w fun e w' => ∃ v, e = .returned (.tuple #[v, .bool (get xs).isSome]) ∧ Gives w w' v ((get xs).getD []) := by
  by_cases h : n % 2 = 0
  · exact get_even A n c xs w hr hs hn h
  · refine (get_odd_calls A n c w (by omega)).mono ?_
    rintro e w' ⟨rfl, rfl⟩
    have hg := get_odd xs (by have := hr.1; omega)
    exact ⟨_, by rw [hg]; rfl, by rw [hg]; exact Gives.none_ (Below.refl _ _)⟩
theorem get_ref (A : Option Addr) (n c : Nat) (xs : List Int) (w : World) (hr : ReadsInt w .u8 A n xs) (hs : Small xs) (hn : n ≤ 100000) :
    Calls Try.prog 57 #[.slice A n c] w fun e w' => ∃ v, e = .returned (.tuple #[v, .bool (get xs).isSome]) ∧ Gives w w' v ((get xs).getD []) := by
  by_cases h : n % 2 = 0
  · exact get_even_ref A n c xs w hr hs hn h
  · refine (get_odd_ref A n c w (by omega)).mono ?_
    rintro e w' ⟨rfl, rfl⟩
    have hg := get_odd xs (by have := hr.1; omega)
    exact ⟨_, by rw [hg]; rfl, by rw [hg]; exact Gives.none_ (Below.refl _ _)⟩
end Go.Proofs.Ytgcdankgckgibaa.DualWalk
