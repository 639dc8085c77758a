/- Walk: CapsLimits. -/
import Derived.Test.YtgcdankgckgibaaCapsLive
import Derived.Deep.DeepCutAuto
namespace Go.Proofs.Ytgcdankgckgibaa.Caps
open Go.RowKit Go.Proofs.YtgcdankgckgibaaW.PrintWords Go.Proofs.YtgcdankgckgibaaW.PrintLast Go.Proofs.Ytgcdankgckgibaa.Kit Go.Proofs.Ytgcdankgckgibaa.Runes
attribute [local go_sem ↓] ldC
set_option linter.unusedSimpArgs false

set_option maxHeartbeats 2000000 in
theorem limits_out (which : Int) (over : Bool) (w : World) (h : which < 0 ∨ 6 < which) : Calls Try.prog 4 #[.int .i64 which, .bool over] w fun e w' => e = .returned (.bool true) ∧ Below w.heap.size w w' := by
  go_enter Try.func4, Try.ntmps4
  go_wp2_with fail
  refine (live15 _).mono ?_
  rintro e w1 ⟨rfl, hb⟩
  go_wp2_with fail
  all_goals first
    | (exfalso; omega)
    | (go_ret; exact ⟨rfl, hb⟩)

theorem make_run (n : Int) (m : Nat) (h : n = m) (hn : m ≤ 1000000) : ∃ o : Obj, ∀ W : World, (Instr.makeSlice 33 (.int .i64 n) (.int .i64 n)).run Try.prog W = .ok (.slice (some ⟨W.heap.size, 0, none⟩) m m) (W.alloc o) := by
  subst h
  exact ⟨_, print_make (P := Try.prog) 33 5 .u8 1 Try.underlying33 info5 (by decide) m (by omega)⟩
/-- the config's box -/
structure LimBox (w0 W : World) (g : Nat) (c : Cfg) : Prop where
  heap : W.heap[g]? = some (.cells c.cells.toArray 35 (0, 0))
  below : Below w0.heap.size w0 W
  ge : w0.heap.size ≤ g
theorem LimBox.at_ {w0 W : World} {g : Nat} {c : Cfg} (h : LimBox w0 W g c) : CfgAt W ⟨g, 0, none⟩ c := fun j v e => by
  rw [show (⟨g, 0, none⟩ : Addr).add j = ⟨g, j, none⟩ by unfold Addr.add; split <;> simp_all, cell_of_row W g j _ _ _ h.heap]
  simpa using e
theorem LimBox.free {w0 W : World} {g : Nat} {c : Cfg} (h : LimBox w0 W g c) (i : Nat) : W.frozen? ⟨g, i, none⟩ = false := by simp [World.frozen?, h.heap]
theorem LimBox.lt {w0 W : World} {g : Nat} {c : Cfg} (h : LimBox w0 W g c) : g < W.heap.size := (Array.getElem?_eq_some_iff.1 h.heap).1
theorem LimBox.alloc {w0 W : World} {g : Nat} {c : Cfg} (h : LimBox w0 W g c) (o : Obj) : LimBox w0 (W.alloc o) g c :=
  ⟨((below_alloc1 W o).block g h.lt).trans h.heap, h.below.trans ((below_alloc1 W o).mono h.below.size), h.ge⟩
theorem LimBox.set {w0 W : World} {g : Nat} {c d : Cfg} (h : LimBox w0 W g c) (i : Nat) (v : Value) (hd : d.cells.toArray = c.cells.toArray.setIfInBounds i v) : LimBox w0 (W.setCell ⟨g, i, none⟩ v) g d := by
  refine ⟨?_, h.below.setCell (by have := h.ge; simpa using this) _, h.ge⟩
  rw [hd]
  simp [World.setCell, Array.getElem?_modify, h.heap]
theorem newBox (w0 W : World) (g : Nat) (hg : g = W.heap.size) (c : Cfg) (h : Below w0.heap.size w0 W) : LimBox w0 (W.alloc (.cells #[.string c.nm, .slice c.ka c.nk c.kc, .int .i64 c.slot, .int .i64 c.bud, .int .i64 c.quo, .int .i64 c.rig, .slice c.fa c.nf c.fc] 35)) g c := by
  subst hg
  exact ⟨heap_alloc_new W _, h.trans ((below_alloc1 W _).mono h.size), h.size⟩
theorem LimBox.drew {w0 W : World} {g : Nat} {c : Cfg} (h : LimBox w0 W g c) : LimBox w0 W.drew g c := ⟨h.heap, h.below.drew, h.ge⟩
def cfgL (nm : ByteArray) (ka : Option Addr) (nk : Nat) (slot bud quo rig : Int) (fa : Option Addr) (nf : Nat) : Cfg := ⟨nm, ka, nk, nk, slot, bud, quo, rig, fa, nf, nf⟩
theorem valid8 : validB (runes ⟨#[97, 98, 99, 100, 101, 102, 103, 104]⟩) = true := by kernel_rfl
theorem valid9 : validB (runes ⟨#[97, 98, 99, 100, 101, 102, 103, 104, 105]⟩) = false := by kernel_rfl
theorem right_of {c : Cfg} (v : Bool) (hv : validB (runes c.nm) = v) (f : Bool) (hf : decide c.fits = f) : c.right = (v && f) := by
  unfold Cfg.right
  rw [hv, hf]

set_option maxHeartbeats 8000000 in
set_option maxRecDepth 100000 in
theorem limits_false (which : Int) (w : World) (h0 : 0 ≤ which) (h6 : which ≤ 6) : Calls Try.prog 4 #[.int .i64 which, .bool false] w fun e w' => e = .returned (.bool true) ∧ Below w.heap.size w w' := by
  go_enter Try.func4, Try.ntmps4
  go_wp2_with fail
  refine (live15 _).mono ?_
  rintro e w1 ⟨rfl, hb⟩
  have HB := Lib.hid hb
  clear hb
  go_upto_region 7 with fail
  go_cut [7] (fun s7 wx => ∃ (g : Nat) (k1 k2 : Option Addr), s7 = .pointer (some ⟨g, 0, none⟩) ∧ LimBox w1 wx g (cfgL ⟨#[97]⟩ k1 64 6 1000 6 1023 k2 1920))
  case first =>
    obtain ⟨o1, hm1⟩ := make_run 64 64 rfl (by decide)
    obtain ⟨o2, hm2⟩ := make_run 1920 1920 rfl (by decide)
    go_region
    all_goals
      go_wp2_with fail
      go_meet
      first
        | exact ⟨_, _, _, rfl, (newBox w1 _ _ (by simp) (cfgL ⟨#[97]⟩ _ 64 6 1000 6 1023 _ 1920) (((Below.refl _ _).alloc (Nat.le_refl _) _).alloc (by simp) _)).drew⟩
        | exact ⟨_, _, _, rfl, ((newBox w1 _ _ (by simp) (cfgL ⟨#[97]⟩ _ 64 6 1000 6 1023 _ 1920) ((Below.refl _ _).alloc (Nat.le_refl _) _)).alloc _).drew⟩
        | exact ⟨_, _, _, rfl, (((newBox w1 _ _ (by simp) (cfgL ⟨#[97]⟩ _ 64 6 1000 6 1023 _ 1920) (Below.refl _ _)).alloc _).alloc _).drew⟩
  case rest =>
    obtain ⟨g, k1, k2, rfl, hL⟩ := hcut
    have HL := Lib.hid hL
    clear hL
    rcases (by omega : which = 0 ∨ which = 1 ∨ which = 2 ∨ which = 3 ∨ which = 4 ∨ which = 5 ∨ which = 6) with rfl | rfl | rfl | rfl | rfl | rfl | rfl
    · obtain ⟨o, hm⟩ := make_run 64 64 rfl (by decide)
      have hc0 := ((HL.out.alloc o).at_) 1 _ rfl
      rw [show (⟨g, 0, none⟩ : Addr).add 1 = ⟨g, 1, none⟩ from rfl] at hc0
      have hf0 := (HL.out.alloc o).free 1
      have hL0 := (HL.out.alloc o).set 1 (.slice (some ⟨wc.heap.size, 0, none⟩) 64 64) (d := cfgL ⟨#[97]⟩ (some ⟨wc.heap.size, 0, none⟩) 64 6 1000 6 1023 k2 1920) rfl
      have hld := hL0.at_.load
      have hr := right_of (c := cfgL ⟨#[97]⟩ (some ⟨wc.heap.size, 0, none⟩) 64 6 1000 6 1023 k2 1920) true validA true (decide_eq_true (by simp [Cfg.fits, cfgL]))
      have HR := Lib.hid hr
      have HB2 := Lib.hid (HB.out.trans (hL0.below.mono HB.out.size))
      clear hr hL0
      go_wp2_with fail
      refine (right_calls (cfgL ⟨#[97]⟩ (some ⟨wc.heap.size, 0, none⟩) 64 6 1000 6 1023 k2 1920) _ (show (ByteArray.mk #[97]).size < 9223372036854775807 by decide)).mono ?_
      rintro e w3 ⟨rfl, hb3⟩
      rw [HR.out]
      go_wp2_with fail
      go_ret
      exact ⟨rfl, HB2.out.trans (hb3.mono HB2.out.size)⟩
    · have hc0 := (HL.out.at_) 2 _ rfl
      rw [show (⟨g, 0, none⟩ : Addr).add 2 = ⟨g, 2, none⟩ from rfl] at hc0
      have hf0 := HL.out.free 2
      have hL0 := HL.out.set 2 (.int .i64 6) (d := cfgL ⟨#[97]⟩ k1 64 6 1000 6 1023 k2 1920) rfl
      have hc1 := (hL0.at_) 4 _ rfl
      rw [show (⟨g, 0, none⟩ : Addr).add 4 = ⟨g, 4, none⟩ from rfl] at hc1
      have hf1 := hL0.free 4
      have hL1 := hL0.set 4 (.int .i64 6) (d := cfgL ⟨#[97]⟩ k1 64 6 1000 6 1023 k2 1920) rfl
      have hld := hL1.at_.load
      have hr := right_of (c := cfgL ⟨#[97]⟩ k1 64 6 1000 6 1023 k2 1920) true validA true (decide_eq_true (by simp [Cfg.fits, cfgL]))
      have HR := Lib.hid hr
      have HB2 := Lib.hid (HB.out.trans (hL1.below.mono HB.out.size))
      clear hr hL0 hL1
      go_wp2_with fail
      refine (right_calls (cfgL ⟨#[97]⟩ k1 64 6 1000 6 1023 k2 1920) _ (show (ByteArray.mk #[97]).size < 9223372036854775807 by decide)).mono ?_
      rintro e w3 ⟨rfl, hb3⟩
      rw [HR.out]
      go_wp2_with fail
      go_ret
      exact ⟨rfl, HB2.out.trans (hb3.mono HB2.out.size)⟩
    · have hc0 := (HL.out.at_) 3 _ rfl
      rw [show (⟨g, 0, none⟩ : Addr).add 3 = ⟨g, 3, none⟩ from rfl] at hc0
      have hf0 := HL.out.free 3
      have hL0 := HL.out.set 3 (.int .i64 1000) (d := cfgL ⟨#[97]⟩ k1 64 6 1000 6 1023 k2 1920) rfl
      have hld := hL0.at_.load
      have hr := right_of (c := cfgL ⟨#[97]⟩ k1 64 6 1000 6 1023 k2 1920) true validA true (decide_eq_true (by simp [Cfg.fits, cfgL]))
      have HR := Lib.hid hr
      have HB2 := Lib.hid (HB.out.trans (hL0.below.mono HB.out.size))
      clear hr hL0
      go_wp2_with fail
      refine (right_calls (cfgL ⟨#[97]⟩ k1 64 6 1000 6 1023 k2 1920) _ (show (ByteArray.mk #[97]).size < 9223372036854775807 by decide)).mono ?_
      rintro e w3 ⟨rfl, hb3⟩
      rw [HR.out]
      go_wp2_with fail
      go_ret
      exact ⟨rfl, HB2.out.trans (hb3.mono HB2.out.size)⟩
    · have hc0 := (HL.out.at_) 4 _ rfl
      rw [show (⟨g, 0, none⟩ : Addr).add 4 = ⟨g, 4, none⟩ from rfl] at hc0
      have hf0 := HL.out.free 4
      have hL0 := HL.out.set 4 (.int .i64 6) (d := cfgL ⟨#[97]⟩ k1 64 6 1000 6 1023 k2 1920) rfl
      have hld := hL0.at_.load
      have hr := right_of (c := cfgL ⟨#[97]⟩ k1 64 6 1000 6 1023 k2 1920) true validA true (decide_eq_true (by simp [Cfg.fits, cfgL]))
      have HR := Lib.hid hr
      have HB2 := Lib.hid (HB.out.trans (hL0.below.mono HB.out.size))
      clear hr hL0
      go_wp2_with fail
      refine (right_calls (cfgL ⟨#[97]⟩ k1 64 6 1000 6 1023 k2 1920) _ (show (ByteArray.mk #[97]).size < 9223372036854775807 by decide)).mono ?_
      rintro e w3 ⟨rfl, hb3⟩
      rw [HR.out]
      go_wp2_with fail
      go_ret
      exact ⟨rfl, HB2.out.trans (hb3.mono HB2.out.size)⟩
    · have hc0 := (HL.out.at_) 5 _ rfl
      rw [show (⟨g, 0, none⟩ : Addr).add 5 = ⟨g, 5, none⟩ from rfl] at hc0
      have hf0 := HL.out.free 5
      have hL0 := HL.out.set 5 (.int .i64 1023) (d := cfgL ⟨#[97]⟩ k1 64 6 1000 6 1023 k2 1920) rfl
      have hld := hL0.at_.load
      have hr := right_of (c := cfgL ⟨#[97]⟩ k1 64 6 1000 6 1023 k2 1920) true validA true (decide_eq_true (by simp [Cfg.fits, cfgL]))
      have HR := Lib.hid hr
      have HB2 := Lib.hid (HB.out.trans (hL0.below.mono HB.out.size))
      clear hr hL0
      go_wp2_with fail
      refine (right_calls (cfgL ⟨#[97]⟩ k1 64 6 1000 6 1023 k2 1920) _ (show (ByteArray.mk #[97]).size < 9223372036854775807 by decide)).mono ?_
      rintro e w3 ⟨rfl, hb3⟩
      rw [HR.out]
      go_wp2_with fail
      go_ret
      exact ⟨rfl, HB2.out.trans (hb3.mono HB2.out.size)⟩
    · obtain ⟨o, hm⟩ := make_run 1920 1920 rfl (by decide)
      have hc0 := ((HL.out.alloc o).at_) 6 _ rfl
      rw [show (⟨g, 0, none⟩ : Addr).add 6 = ⟨g, 6, none⟩ from rfl] at hc0
      have hf0 := (HL.out.alloc o).free 6
      have hL0 := (HL.out.alloc o).set 6 (.slice (some ⟨wc.heap.size, 0, none⟩) 1920 1920) (d := cfgL ⟨#[97]⟩ k1 64 6 1000 6 1023 (some ⟨wc.heap.size, 0, none⟩) 1920) rfl
      have hld := hL0.at_.load
      have hr := right_of (c := cfgL ⟨#[97]⟩ k1 64 6 1000 6 1023 (some ⟨wc.heap.size, 0, none⟩) 1920) true validA true (decide_eq_true (by simp [Cfg.fits, cfgL]))
      have HR := Lib.hid hr
      have HB2 := Lib.hid (HB.out.trans (hL0.below.mono HB.out.size))
      clear hr hL0
      go_wp2_with fail
      refine (right_calls (cfgL ⟨#[97]⟩ k1 64 6 1000 6 1023 (some ⟨wc.heap.size, 0, none⟩) 1920) _ (show (ByteArray.mk #[97]).size < 9223372036854775807 by decide)).mono ?_
      rintro e w3 ⟨rfl, hb3⟩
      rw [HR.out]
      go_wp2_with fail
      go_ret
      exact ⟨rfl, HB2.out.trans (hb3.mono HB2.out.size)⟩
    · have hc0 := (HL.out.at_) 0 _ rfl
      rw [show (⟨g, 0, none⟩ : Addr).add 0 = ⟨g, 0, none⟩ from rfl] at hc0
      have hf0 := HL.out.free 0
      have hL0 := HL.out.set 0 (.string ⟨#[97, 98, 99, 100, 101, 102, 103, 104]⟩) (d := cfgL ⟨#[97, 98, 99, 100, 101, 102, 103, 104]⟩ k1 64 6 1000 6 1023 k2 1920) rfl
      have hld := hL0.at_.load
      have hr := right_of (c := cfgL ⟨#[97, 98, 99, 100, 101, 102, 103, 104]⟩ k1 64 6 1000 6 1023 k2 1920) true valid8 true (decide_eq_true (by simp [Cfg.fits, cfgL]))
      have HR := Lib.hid hr
      have HB2 := Lib.hid (HB.out.trans (hL0.below.mono HB.out.size))
      clear hr hL0
      go_wp2_with fail
      refine (right_calls (cfgL ⟨#[97, 98, 99, 100, 101, 102, 103, 104]⟩ k1 64 6 1000 6 1023 k2 1920) _ (show (ByteArray.mk #[97, 98, 99, 100, 101, 102, 103, 104]).size < 9223372036854775807 by decide)).mono ?_
      rintro e w3 ⟨rfl, hb3⟩
      rw [HR.out]
      go_wp2_with fail
      go_ret
      exact ⟨rfl, HB2.out.trans (hb3.mono HB2.out.size)⟩

set_option maxHeartbeats 8000000 in
set_option maxRecDepth 100000 in
theorem limits_true (which : Int) (w : World) (h0 : 0 ≤ which) (h6 : which ≤ 6) : Calls Try.prog 4 #[.int .i64 which, .bool true] w fun e w' => e = .returned (.bool true) ∧ Below w.heap.size w w' := by
  go_enter Try.func4, Try.ntmps4
  go_wp2_with fail
  refine (live15 _).mono ?_
  rintro e w1 ⟨rfl, hb⟩
  have HB := Lib.hid hb
  clear hb
  go_upto_region 7 with fail
  go_cut [7] (fun s7 wx => ∃ (g : Nat) (k1 k2 : Option Addr), s7 = .pointer (some ⟨g, 0, none⟩) ∧ LimBox w1 wx g (cfgL ⟨#[97]⟩ k1 64 6 1000 6 1023 k2 1920))
  case first =>
    obtain ⟨o1, hm1⟩ := make_run 64 64 rfl (by decide)
    obtain ⟨o2, hm2⟩ := make_run 1920 1920 rfl (by decide)
    go_region
    all_goals
      go_wp2_with fail
      go_meet
      first
        | exact ⟨_, _, _, rfl, (newBox w1 _ _ (by simp) (cfgL ⟨#[97]⟩ _ 64 6 1000 6 1023 _ 1920) (((Below.refl _ _).alloc (Nat.le_refl _) _).alloc (by simp) _)).drew⟩
        | exact ⟨_, _, _, rfl, ((newBox w1 _ _ (by simp) (cfgL ⟨#[97]⟩ _ 64 6 1000 6 1023 _ 1920) ((Below.refl _ _).alloc (Nat.le_refl _) _)).alloc _).drew⟩
        | exact ⟨_, _, _, rfl, (((newBox w1 _ _ (by simp) (cfgL ⟨#[97]⟩ _ 64 6 1000 6 1023 _ 1920) (Below.refl _ _)).alloc _).alloc _).drew⟩
  case rest =>
    obtain ⟨g, k1, k2, rfl, hL⟩ := hcut
    have HL := Lib.hid hL
    clear hL
    rcases (by omega : which = 0 ∨ which = 1 ∨ which = 2 ∨ which = 3 ∨ which = 4 ∨ which = 5 ∨ which = 6) with rfl | rfl | rfl | rfl | rfl | rfl | rfl
    · obtain ⟨o, hm⟩ := make_run 65 65 rfl (by decide)
      have hc0 := ((HL.out.alloc o).at_) 1 _ rfl
      rw [show (⟨g, 0, none⟩ : Addr).add 1 = ⟨g, 1, none⟩ from rfl] at hc0
      have hf0 := (HL.out.alloc o).free 1
      have hL0 := (HL.out.alloc o).set 1 (.slice (some ⟨wc.heap.size, 0, none⟩) 65 65) (d := cfgL ⟨#[97]⟩ (some ⟨wc.heap.size, 0, none⟩) 65 6 1000 6 1023 k2 1920) rfl
      have hld := hL0.at_.load
      have hr := right_of (c := cfgL ⟨#[97]⟩ (some ⟨wc.heap.size, 0, none⟩) 65 6 1000 6 1023 k2 1920) true validA false (decide_eq_false (by simp [Cfg.fits, cfgL]))
      have HR := Lib.hid hr
      have HB2 := Lib.hid (HB.out.trans (hL0.below.mono HB.out.size))
      clear hr hL0
      go_wp2_with fail
      refine (right_calls (cfgL ⟨#[97]⟩ (some ⟨wc.heap.size, 0, none⟩) 65 6 1000 6 1023 k2 1920) _ (show (ByteArray.mk #[97]).size < 9223372036854775807 by decide)).mono ?_
      rintro e w3 ⟨rfl, hb3⟩
      rw [HR.out]
      go_wp2_with fail
      go_ret
      exact ⟨rfl, HB2.out.trans (hb3.mono HB2.out.size)⟩
    · have hc0 := (HL.out.at_) 2 _ rfl
      rw [show (⟨g, 0, none⟩ : Addr).add 2 = ⟨g, 2, none⟩ from rfl] at hc0
      have hf0 := HL.out.free 2
      have hL0 := HL.out.set 2 (.int .i64 7) (d := cfgL ⟨#[97]⟩ k1 64 7 1000 6 1023 k2 1920) rfl
      have hc1 := (hL0.at_) 4 _ rfl
      rw [show (⟨g, 0, none⟩ : Addr).add 4 = ⟨g, 4, none⟩ from rfl] at hc1
      have hf1 := hL0.free 4
      have hL1 := hL0.set 4 (.int .i64 6) (d := cfgL ⟨#[97]⟩ k1 64 7 1000 6 1023 k2 1920) rfl
      have hld := hL1.at_.load
      have hr := right_of (c := cfgL ⟨#[97]⟩ k1 64 7 1000 6 1023 k2 1920) true validA false (decide_eq_false (by simp [Cfg.fits, cfgL]))
      have HR := Lib.hid hr
      have HB2 := Lib.hid (HB.out.trans (hL1.below.mono HB.out.size))
      clear hr hL0 hL1
      go_wp2_with fail
      refine (right_calls (cfgL ⟨#[97]⟩ k1 64 7 1000 6 1023 k2 1920) _ (show (ByteArray.mk #[97]).size < 9223372036854775807 by decide)).mono ?_
      rintro e w3 ⟨rfl, hb3⟩
      rw [HR.out]
      go_wp2_with fail
      go_ret
      exact ⟨rfl, HB2.out.trans (hb3.mono HB2.out.size)⟩
    · have hc0 := (HL.out.at_) 3 _ rfl
      rw [show (⟨g, 0, none⟩ : Addr).add 3 = ⟨g, 3, none⟩ from rfl] at hc0
      have hf0 := HL.out.free 3
      have hL0 := HL.out.set 3 (.int .i64 1001) (d := cfgL ⟨#[97]⟩ k1 64 6 1001 6 1023 k2 1920) rfl
      have hld := hL0.at_.load
      have hr := right_of (c := cfgL ⟨#[97]⟩ k1 64 6 1001 6 1023 k2 1920) true validA false (decide_eq_false (by simp [Cfg.fits, cfgL]))
      have HR := Lib.hid hr
      have HB2 := Lib.hid (HB.out.trans (hL0.below.mono HB.out.size))
      clear hr hL0
      go_wp2_with fail
      refine (right_calls (cfgL ⟨#[97]⟩ k1 64 6 1001 6 1023 k2 1920) _ (show (ByteArray.mk #[97]).size < 9223372036854775807 by decide)).mono ?_
      rintro e w3 ⟨rfl, hb3⟩
      rw [HR.out]
      go_wp2_with fail
      go_ret
      exact ⟨rfl, HB2.out.trans (hb3.mono HB2.out.size)⟩
    · have hc0 := (HL.out.at_) 4 _ rfl
      rw [show (⟨g, 0, none⟩ : Addr).add 4 = ⟨g, 4, none⟩ from rfl] at hc0
      have hf0 := HL.out.free 4
      have hL0 := HL.out.set 4 (.int .i64 7) (d := cfgL ⟨#[97]⟩ k1 64 6 1000 7 1023 k2 1920) rfl
      have hld := hL0.at_.load
      have hr := right_of (c := cfgL ⟨#[97]⟩ k1 64 6 1000 7 1023 k2 1920) true validA false (decide_eq_false (by simp [Cfg.fits, cfgL]))
      have HR := Lib.hid hr
      have HB2 := Lib.hid (HB.out.trans (hL0.below.mono HB.out.size))
      clear hr hL0
      go_wp2_with fail
      refine (right_calls (cfgL ⟨#[97]⟩ k1 64 6 1000 7 1023 k2 1920) _ (show (ByteArray.mk #[97]).size < 9223372036854775807 by decide)).mono ?_
      rintro e w3 ⟨rfl, hb3⟩
      rw [HR.out]
      go_wp2_with fail
      go_ret
      exact ⟨rfl, HB2.out.trans (hb3.mono HB2.out.size)⟩
    · have hc0 := (HL.out.at_) 5 _ rfl
      rw [show (⟨g, 0, none⟩ : Addr).add 5 = ⟨g, 5, none⟩ from rfl] at hc0
      have hf0 := HL.out.free 5
      have hL0 := HL.out.set 5 (.int .i64 1024) (d := cfgL ⟨#[97]⟩ k1 64 6 1000 6 1024 k2 1920) rfl
      have hld := hL0.at_.load
      have hr := right_of (c := cfgL ⟨#[97]⟩ k1 64 6 1000 6 1024 k2 1920) true validA false (decide_eq_false (by simp [Cfg.fits, cfgL]))
      have HR := Lib.hid hr
      have HB2 := Lib.hid (HB.out.trans (hL0.below.mono HB.out.size))
      clear hr hL0
      go_wp2_with fail
      refine (right_calls (cfgL ⟨#[97]⟩ k1 64 6 1000 6 1024 k2 1920) _ (show (ByteArray.mk #[97]).size < 9223372036854775807 by decide)).mono ?_
      rintro e w3 ⟨rfl, hb3⟩
      rw [HR.out]
      go_wp2_with fail
      go_ret
      exact ⟨rfl, HB2.out.trans (hb3.mono HB2.out.size)⟩
    · obtain ⟨o, hm⟩ := make_run 1921 1921 rfl (by decide)
      have hc0 := ((HL.out.alloc o).at_) 6 _ rfl
      rw [show (⟨g, 0, none⟩ : Addr).add 6 = ⟨g, 6, none⟩ from rfl] at hc0
      have hf0 := (HL.out.alloc o).free 6
      have hL0 := (HL.out.alloc o).set 6 (.slice (some ⟨wc.heap.size, 0, none⟩) 1921 1921) (d := cfgL ⟨#[97]⟩ k1 64 6 1000 6 1023 (some ⟨wc.heap.size, 0, none⟩) 1921) rfl
      have hld := hL0.at_.load
      have hr := right_of (c := cfgL ⟨#[97]⟩ k1 64 6 1000 6 1023 (some ⟨wc.heap.size, 0, none⟩) 1921) true validA false (decide_eq_false (by simp [Cfg.fits, cfgL]))
      have HR := Lib.hid hr
      have HB2 := Lib.hid (HB.out.trans (hL0.below.mono HB.out.size))
      clear hr hL0
      go_wp2_with fail
      refine (right_calls (cfgL ⟨#[97]⟩ k1 64 6 1000 6 1023 (some ⟨wc.heap.size, 0, none⟩) 1921) _ (show (ByteArray.mk #[97]).size < 9223372036854775807 by decide)).mono ?_
      rintro e w3 ⟨rfl, hb3⟩
      rw [HR.out]
      go_wp2_with fail
      go_ret
      exact ⟨rfl, HB2.out.trans (hb3.mono HB2.out.size)⟩
    · have hc0 := (HL.out.at_) 0 _ rfl
      rw [show (⟨g, 0, none⟩ : Addr).add 0 = ⟨g, 0, none⟩ from rfl] at hc0
      have hf0 := HL.out.free 0
      have hL0 := HL.out.set 0 (.string ⟨#[97, 98, 99, 100, 101, 102, 103, 104, 105]⟩) (d := cfgL ⟨#[97, 98, 99, 100, 101, 102, 103, 104, 105]⟩ k1 64 6 1000 6 1023 k2 1920) rfl
      have hld := hL0.at_.load
      have hr := right_of (c := cfgL ⟨#[97, 98, 99, 100, 101, 102, 103, 104, 105]⟩ k1 64 6 1000 6 1023 k2 1920) false valid9 true (decide_eq_true (by simp [Cfg.fits, cfgL]))
      have HR := Lib.hid hr
      have HB2 := Lib.hid (HB.out.trans (hL0.below.mono HB.out.size))
      clear hr hL0
      have hcat : (({ data := #[97, 98, 99, 100, 101, 102, 103, 104] } : ByteArray) ++ ({ data := #[105] } : ByteArray).extract 0 1) = { data := #[97, 98, 99, 100, 101, 102, 103, 104, 105] } := by kernel_rfl
      go_wp2_with fail
      refine (right_calls (cfgL ⟨#[97, 98, 99, 100, 101, 102, 103, 104, 105]⟩ k1 64 6 1000 6 1023 k2 1920) _ (show (ByteArray.mk #[97, 98, 99, 100, 101, 102, 103, 104, 105]).size < 9223372036854775807 by decide)).mono ?_
      rintro e w3 ⟨rfl, hb3⟩
      rw [HR.out]
      go_wp2_with fail
      go_ret
      exact ⟨rfl, HB2.out.trans (hb3.mono HB2.out.size)⟩
theorem limits_any (which : Int) (over : Bool) (w : World) : Calls Try.prog 4 #[.int .i64 which, .bool over] w fun e w' => e = .returned (.bool true) ∧ Below w.heap.size w w' := by
  by_cases h : which < 0 ∨ 6 < which
  · exact limits_out which over w h
  · cases over
    · exact limits_false which w (by omega) (by omega)
    · exact limits_true which w (by omega) (by omega)
end Go.Proofs.Ytgcdankgckgibaa.Caps
