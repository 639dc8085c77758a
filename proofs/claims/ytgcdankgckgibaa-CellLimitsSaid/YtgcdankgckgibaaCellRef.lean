/- Walk: the reference's GetCell. -/
import Derived.Test.YtgcdankgckgibaaCellWalk
namespace Go.Proofs.Ytgcdankgckgibaa.Cell
open Go.RowKit Go.Proofs.YtgcdankgckgibaaW.PrintWords Go.Proofs.YtgcdankgckgibaaW.PrintLast Go.Proofs.Ytgcdankgckgibaa.Kit Go.Proofs.Ytgcdankgckgibaa.Field

theorem own_cap {W : World} {b : Nat} {e : TypeId} {n c : Nat} {A : Option Addr} {xs : List Value} (h : W.ownsRow b e 1 (.slice A n c) n xs) : n ≤ c := by
  rcases h.2 with ⟨e, h0⟩ | ⟨g, cap, cur, e, _, _, h1, _⟩
  · omega
  · injection e with _ _ e3; omega

set_option maxHeartbeats 1000000 in
theorem get_ref (A : Option Addr) (m c : Nat) (xs : List Int) (w : World) (hr : ReadsInt w .u8 A m xs) (hs : Small xs) (hn : m ≤ 100000) :
    Calls Try.prog 41 #[.slice A m c] w (GetOut w (getC xs)) := by
  have hm := hr.1
  cases hg : Dual.get xs with
  | none =>
    have hgc : getC xs = none := by unfold getC; rw [hg]
    have HGC := Lib.hid hgc
    have HG := Lib.hid hg
    clear hg hgc hm
    go_enter Try.func41, Try.ntmps41
    go_wp2_with fail
    refine (DualWalk.get_ref _ _ _ _ _ hr hs hn).mono ?_
    rw [HG.out]
    rintro e w1 ⟨v, rfl, hg⟩
    obtain ⟨A1, c1, rfl, -⟩ := hg.reads
    have HB := Lib.hid hg.2
    clear hg
    go_wp2_with fail
    go_ret3
    rw [HGC.out]
    exact getOut_none HB.out
  | some all =>
    have hal : xs.length = 2 * all.length := Dual.get_length hg
    have hsa : Small all := small_mem (Dual.get_small hg (mem_small hs))
    have hgc : getC xs = if xs.length ≠ 320 then none else if mayC (numOf (got all false 4)) = true then some (numOf (got all false 4), got (rest all false 4) (!takeOk all false 4) 156) else none := by unfold getC; rw [hg]
    have HGC := Lib.hid hgc
    have HG := Lib.hid hg
    have HSA := Lib.hid hsa
    clear hg hgc hsa
    by_cases h3 : m = 320
    · have h3' : ((m : Int) != 320) = false := by simp [h3]
      have hl : all.length ≤ 100000 := by omega
      have hx : ¬ xs.length ≠ 320 := by omega
      have HX := Lib.hid hx
      clear h3 hm hal hx
      go_enter Try.func41, Try.ntmps41
      go_wp2_with fail
      refine (DualWalk.get_ref _ _ _ _ _ hr hs hn).mono ?_
      rw [HG.out]
      simp only [Option.isSome_some, Option.getD_some]
      rintro e w1 ⟨v, rfl, hg⟩
      obtain ⟨A1, c1, rfl, hr1⟩ := hg.reads
      have HB1 := Lib.hid hg.2
      have HR1 := Lib.hid hr1
      have HO1 := Lib.hid hg.1
      clear hg hr1
      go_wp2_with fail
      have HC1' := Lib.hid (own_cap (by have := HO1.out; exact this))
      refine (new_ref A1 _ c1 w1.heap.size all _ HR1.out HSA.out hl HC1'.out (Nat.le_refl _) (fun hm0 ad e => by
        have := own_lt HO1.out ad.block (by rw [e]; rfl)
        exact this)).mono ?_
      rintro e w2 ⟨g, rfl, hg0, hp, hb⟩
      have HP2 := Lib.hid hp
      have HB2 := Lib.hid (HB1.out.trans (hb.mono HB1.out.size))
      have hg1 : w.heap.size ≤ g := Nat.le_trans HB1.out.size hg0
      clear hp hb HB1 HR1
      go_wp2_with fail
      refine (num_ref_get w1.heap.size g _ _ 4 _ HP2.out).mono ?_
      rintro e w3 ⟨rfl, hp, hf⟩
      rw [clip_4] at hp ⊢
      obtain ⟨q, hq⟩ : ∃ q, q = numOf (got all false 4) := ⟨_, rfl⟩
      obtain ⟨x1, hx1⟩ : ∃ x1, x1 = rest all false 4 := ⟨_, rfl⟩
      obtain ⟨b1, hb1⟩ : ∃ b1, b1 = !takeOk all false 4 := ⟨_, rfl⟩
      rw [← hx1, ← hb1] at hp
      rw [← hq]
      have HGD : Hid (getC xs = if mayC q = true then some (q, got x1 b1 156) else none) := Lib.hid (by rw [HGC.out, if_neg HX.out, hq, hx1, hb1])
      have HP3 := Lib.hid hp
      have HB3 := Lib.hid (HB2.out.trans (hf.to_below (fun i hi e => by have e : i = g := e; omega) HB2.out.size))
      clear hq hx1 hb1 hp hf HP2 HB2 HGC HX
      rcases (by omega : q < 1 ∨ (1 ≤ q ∧ 2147483647 < q) ∨ (1 ≤ q ∧ q ≤ 2147483647)) with h | ⟨h, h'⟩ | ⟨h, h'⟩
      · have HR0 := Lib.hid (show getC xs = none by rw [HGD.out, if_neg (by rw [mayC_iff]; omega)])
        go_wp2_with fail
        go_ret3
        rw [HR0.out]
        exact getOut_none HB3.out
      · have HR0 := Lib.hid (show getC xs = none by rw [HGD.out, if_neg (by rw [mayC_iff]; omega)])
        go_wp2_with fail
        go_ret3
        rw [HR0.out]
        exact getOut_none HB3.out
      · have HR0 := Lib.hid (show getC xs = some (q, got x1 b1 156) by rw [HGD.out, if_pos (by rw [mayC_iff]; omega)])
        go_wp2_with fail
        refine (raw_ref_get w1.heap.size g _ _ 156 _ HP3.out).mono ?_
        rintro e w4 ⟨v4, rfl, ho, hp, hf⟩
        rw [clip_156] at ho
        have HB4 := Lib.hid (HB3.out.trans (hf.to_below (fun i hi e => by have e : i = g := e; omega) HB3.out.size))
        have HO := Lib.hid (own_lower ho HB3.out.size)
        clear hp hf ho
        go_wp2_with fail
        go_ret3
        rw [HR0.out]
        exact ⟨v4, rfl, HO.out, HB4.out⟩
    · have h3' : ((m : Int) != 320) = true := by simp; omega
      have HR0 := Lib.hid (show getC xs = none by rw [HGC.out, if_pos (by omega)])
      clear h3 hm hal HGC
      go_enter Try.func41, Try.ntmps41
      go_wp2_with fail
      refine (DualWalk.get_ref _ _ _ _ _ hr hs hn).mono ?_
      rw [HG.out]
      simp only [Option.isSome_some, Option.getD_some]
      rintro e w1 ⟨v, rfl, hg⟩
      obtain ⟨A1, c1, rfl, -⟩ := hg.reads
      have HB := Lib.hid hg.2
      clear hg
      go_wp2_with fail
      go_ret3
      rw [HR0.out]
      exact getOut_none HB.out
end Go.Proofs.Ytgcdankgckgibaa.Cell
