/- Walks: cell.Put, Get and the reference's do what the plain functions say. -/
import Derived.Test.YtgcdankgckgibaaDualWalk
import Derived.Test.YtgcdankgckgibaaFieldGets
import Derived.Test.YtgcdankgckgibaaFieldRaw
namespace Go.Proofs.Ytgcdankgckgibaa.Cell
open Go.RowKit Go.Proofs.YtgcdankgckgibaaW.PrintWords Go.Proofs.YtgcdankgckgibaaW.PrintLast Go.Proofs.Ytgcdankgckgibaa.Kit Go.Proofs.Ytgcdankgckgibaa.Field

/-- may a cell have a number? -/
def mayC (n : Int) : Bool := decide (1 ≤ n) && decide (n ≤ 2147483647)
theorem mayC_iff (n : Int) : mayC n = true ↔ 1 ≤ n ∧ n ≤ 2147483647 := by simp [mayC]
/-- a cell's load, and the seq ahead of it -/
def loadL (n : Int) (b : List Int) : List Int := numL n 4 ++ rawL b 156
def putB (n : Int) (b : List Int) : List Int := if mayC n = true ∧ b.length ≤ 156 then Dual.put (loadL n b) else []
def putE (n : Int) (b : List Int) : Int := if mayC n = true then if b.length ≤ 156 then 0 else 10 else 1
/-- what a sector's bytes are -/
def getC (xs : List Int) : Option (Int × List Int) :=
  match Dual.get xs with
  | none => none
  | some all => if xs.length ≠ 320 then none else if mayC (numOf (got all false 4)) = true then some (numOf (got all false 4), got (rest all false 4) (!takeOk all false 4) 156) else none
theorem loadL_length (n : Int) (b : List Int) : (loadL n b).length = 160 := by simp [loadL, numL_length, rawL_length]
theorem loadL_small (n : Int) {b : List Int} (h : Small b) : Small (loadL n b) := small_append (numL_small _ _) (rawL_small h _)
theorem Wr.new (W : World) (T : TypeId) : Wr (W.alloc (.cells #[.slice none 0 0] T)) T W.heap.size W.heap.size (.slice none 0 0) [] := ⟨Nat.le_refl _, heap_alloc_new _ _, own_nil _ _ _ _⟩
theorem below_alloc1 (W : World) (o : Obj) : Below W.heap.size W (W.alloc o) := (Below.refl _ _).alloc (Nat.le_refl _) _
theorem clip_4 : clip 4 8 = 4 := by decide
theorem clip_156 : clip 156 1000 = 156 := by decide
theorem gives_lower {w w1 w2 : World} {v : Value} {xs : List Int} (hb : Below w.heap.size w w1) (h : Gives w1 w2 v xs) : Gives w w2 v xs :=
  ⟨own_lower h.1 hb.size, hb.trans (h.2.mono hb.size)⟩

theorem may_calls (n : Int) (w : World) : Calls Try.prog 53 #[.int .i64 n] w fun e w' => e = .returned (.bool (mayC n)) ∧ w = w' := by
  rcases (by omega : n < 1 ∨ 2147483647 < n ∨ (1 ≤ n ∧ n ≤ 2147483647)) with h | h | ⟨h, h'⟩
  all_goals
    go_enter Try.func53, Try.ntmps53
    go_wp2_with fail
    go_ret
    exact ⟨by unfold mayC; simp; try omega, rfl⟩

/-- what Put gives -/
def PutOut (w : World) (n : Int) (b : List Int) (e : Ending) (w' : World) : Prop := ∃ v, e = .returned (.tuple #[v, .int .i64 (putE n b)]) ∧ Gives w w' v (putB n b)

set_option maxHeartbeats 1000000 in
theorem put_calls (n : Int) (A : Option Addr) (m c : Nat) (b : List Int) (w : World) (hr : ReadsInt w .u8 A m b) (hs : Small b) :
    Calls Try.prog 38 #[.int .i64 n, .slice A m c] w (PutOut w n b) := by
  have hm := hr.1
  by_cases hy : mayC n = true
  · by_cases hl : m ≤ 156
    · have hb : putB n b = Dual.put (loadL n b) := by unfold putB; rw [if_pos ⟨hy, by omega⟩]
      have he : putE n b = 0 := by unfold putE; rw [if_pos hy, if_pos (by omega)]
      have HB := Lib.hid hb
      have HE := Lib.hid he
      have HY := Lib.hid hy
      clear hb he hy hm
      go_enter Try.func38, Try.ntmps38
      go_wp2_with (go_at_call 53; refine (may_calls n _).mono ?_; rintro e w' ⟨rfl, rfl⟩; rw [HY.out])
      have HW := Lib.hid (Wr.new w 42)
      have hb1 := below_alloc1 w (.cells #[.slice none 0 0] 42)
      have HR1 := Lib.hid (hr.below hb1)
      have HB1 := Lib.hid hb1
      clear hb1
      refine (num_put w.heap.size _ _ _ n 4 _ HW.out (by simp) (by simp)).mono ?_
      rintro e w2 ⟨rfl, v2, hw2, hn2, hf2⟩
      have hb2 := HW.out.to_below hf2 (by simp)
      rw [clip_4, List.nil_append] at hw2
      have hs2 : w.heap.size < w2.heap.size := by have := hf2.size; simp at this; omega
      have HB2 := Lib.hid (HB1.out.trans hb2)
      have HR2 := Lib.hid (hr.below HB2.out)
      have HW2 := Lib.hid hw2
      clear hw2 hn2 hf2 hb2 HB1 HW HR1
      go_wp2_with fail
      refine (raw_put w.heap.size _ _ _ _ _ _ b 156 _ HW2.out (by simp [numL_length]) (by omega) HR2.out).mono ?_
      rintro e w3 ⟨rfl, v3, hw3, hn3, hf3⟩
      have hb3 := HW2.out.to_below hf3 (by omega)
      rw [clip_156] at hw3
      have hw3 : Wr w3 42 w.heap.size w.heap.size v3 (loadL n b) := hw3
      have HB3 := Lib.hid (HB2.out.trans hb3)
      have HW3 := Lib.hid hw3
      clear hw3 hn3 hf3 hb3 HB2 HW2 HR2
      go_wp2_with fail
      refine (bytes_put _ _ _ _ _ HW3.out (by rw [loadL_length]; omega)).mono ?_
      rintro e w4 ⟨v4, rfl, hg⟩
      have ho := hg.1
      rw [loadL_length] at ho
      obtain ⟨A4, c4, rfl, hr4⟩ := own_reads ho
      have HB4 := Lib.hid (HB3.out.trans (hg.2.mono HB3.out.size))
      have HR4 := Lib.hid hr4
      clear hg ho hr4 HB3 HW3
      go_wp2_with fail
      refine (DualWalk.put_calls _ _ _ _ _ HR4.out (loadL_small n hs) (by omega)).mono ?_
      rintro e w5 ⟨v5, rfl, hg⟩
      go_wp2_with fail
      go_ret2
      exact ⟨v5, by rw [HE.out]; rfl, by rw [HB.out]; exact gives_lower HB4.out hg⟩
    · have hb : putB n b = [] := by unfold putB; rw [if_neg (fun h => by have := h.2; omega)]
      have he : putE n b = 10 := by unfold putE; rw [if_pos hy, if_neg (by omega)]
      have HB := Lib.hid hb
      have HE := Lib.hid he
      have HY := Lib.hid hy
      clear hb he hy hm
      go_enter Try.func38, Try.ntmps38
      go_wp2_with (go_at_call 53; refine (may_calls n _).mono ?_; rintro e w' ⟨rfl, rfl⟩; rw [HY.out])
      go_ret2
      exact ⟨_, by rw [HE.out]; rfl, by rw [HB.out]; exact Gives.none_ (Below.refl _ _)⟩
  · have hb : putB n b = [] := by unfold putB; rw [if_neg (fun h => hy h.1)]
    have he : putE n b = 1 := by unfold putE; rw [if_neg hy]
    have hy : mayC n = false := by simpa using hy
    have HB := Lib.hid hb
    have HE := Lib.hid he
    have HY := Lib.hid hy
    clear hb he hy hm
    go_enter Try.func38, Try.ntmps38
    go_wp2_with (go_at_call 53; refine (may_calls n _).mono ?_; rintro e w' ⟨rfl, rfl⟩; rw [HY.out])
    go_ret2
    exact ⟨_, by rw [HE.out]; rfl, by rw [HB.out]; exact Gives.none_ (Below.refl _ _)⟩

set_option maxHeartbeats 1000000 in
theorem put_ref (n : Int) (A : Option Addr) (m c : Nat) (b : List Int) (w : World) (hr : ReadsInt w .u8 A m b) (hs : Small b) :
    Calls Try.prog 39 #[.int .i64 n, .slice A m c] w (PutOut w n b) := by
  have hm := hr.1
  have hold : 0 < m → ∀ ad, A = some ad → ad.block < w.heap.size := fun hm0 ad e => by
    obtain ⟨ad', e', hcell⟩ := hr.2.2 hm0
    have e2 : ad = ad' := by rw [e] at e'; injection e'
    subst e2
    have := World.block_lt_of_cell? w _ (hcell 0 hm0)
    rwa [add_none] at this
  have HOLD := Lib.hid hold
  clear hold
  rcases (by omega : n < 1 ∨ 2147483647 < n ∨ (1 ≤ n ∧ n ≤ 2147483647)) with h | h | ⟨h, h'⟩
  · have hy : ¬ mayC n = true := by rw [mayC_iff]; omega
    have hb : putB n b = [] := by unfold putB; rw [if_neg (fun h => hy h.1)]
    have he : putE n b = 1 := by unfold putE; rw [if_neg hy]
    have HB := Lib.hid hb
    have HE := Lib.hid he
    clear hb he hy hm
    go_enter Try.func39, Try.ntmps39
    go_wp2_with fail
    go_ret2
    exact ⟨_, by rw [HE.out]; rfl, by rw [HB.out]; exact Gives.none_ (Below.refl _ _)⟩
  · have hy : ¬ mayC n = true := by rw [mayC_iff]; omega
    have hb : putB n b = [] := by unfold putB; rw [if_neg (fun h => hy h.1)]
    have he : putE n b = 1 := by unfold putE; rw [if_neg hy]
    have HB := Lib.hid hb
    have HE := Lib.hid he
    clear hb he hy hm
    go_enter Try.func39, Try.ntmps39
    go_wp2_with fail
    go_ret2
    exact ⟨_, by rw [HE.out]; rfl, by rw [HB.out]; exact Gives.none_ (Below.refl _ _)⟩
  · have hy : mayC n = true := by rw [mayC_iff]; omega
    by_cases hl : m ≤ 156
    · have hb : putB n b = Dual.put (loadL n b) := by unfold putB; rw [if_pos ⟨hy, by omega⟩]
      have he : putE n b = 0 := by unfold putE; rw [if_pos hy, if_pos (by omega)]
      have HB := Lib.hid hb
      have HE := Lib.hid he
      clear hb he hy hm
      go_enter Try.func39, Try.ntmps39
      go_wp2_with fail
      have HW := Lib.hid (Wr.new w 53)
      have hb1 := below_alloc1 w (.cells #[.slice none 0 0] 53)
      have HB1 := Lib.hid hb1
      clear hb1
      refine (num_ref w.heap.size _ _ _ n 4 _ HW.out (by simp) (by simp)).mono ?_
      rintro e w2 ⟨rfl, v2, hw2, hn2, hf2⟩
      have hb2 := HW.out.to_below hf2 (by simp)
      rw [clip_4, List.nil_append] at hw2
      have hs2 : w.heap.size < w2.heap.size := by have := hf2.size; simp at this; omega
      have HB2 := Lib.hid (HB1.out.trans hb2)
      have HR2 := Lib.hid (hr.below HB2.out)
      have HW2 := Lib.hid hw2
      clear hw2 hn2 hf2 hb2 HB1 HW
      go_wp2_with fail
      refine (raw_ref w.heap.size _ _ _ _ _ _ b 156 _ HW2.out (by simp [numL_length]) (by omega) HR2.out HOLD.out).mono ?_
      rintro e w3 ⟨rfl, v3, hw3, hn3, hf3⟩
      have hb3 := HW2.out.to_below hf3 (by omega)
      rw [clip_156] at hw3
      have hw3 : Wr w3 53 w.heap.size w.heap.size v3 (loadL n b) := hw3
      have HB3 := Lib.hid (HB2.out.trans hb3)
      have hc3 := hw3.cell0
      have ho := hw3.own
      rw [loadL_length] at ho
      obtain ⟨A3, c3, rfl, hr3⟩ := own_reads ho
      have HR3 := Lib.hid hr3
      clear hw3 hn3 hf3 hb3 HB2 HW2 HR2 ho hr3
      go_wp2_with fail
      refine (DualWalk.put_ref _ _ _ _ _ HR3.out (loadL_small n hs) (by omega)).mono ?_
      rintro e w5 ⟨v5, rfl, hg⟩
      go_wp2_with fail
      go_ret2
      exact ⟨v5, by rw [HE.out]; rfl, by rw [HB.out]; exact gives_lower HB3.out hg⟩
    · have hb : putB n b = [] := by unfold putB; rw [if_neg (fun h => by have := h.2; omega)]
      have he : putE n b = 10 := by unfold putE; rw [if_pos hy, if_neg (by omega)]
      have HB := Lib.hid hb
      have HE := Lib.hid he
      clear hb he hy hm
      go_enter Try.func39, Try.ntmps39
      go_wp2_with fail
      go_ret2
      exact ⟨_, by rw [HE.out]; rfl, by rw [HB.out]; exact Gives.none_ (Below.refl _ _)⟩

/-- what Get gives -/
def GetOut (w : World) (r : Option (Int × List Int)) (e : Ending) (w' : World) : Prop :=
  ∃ v, e = .returned (.tuple #[.int .i64 ((r.map (·.1)).getD 0), v, .bool r.isSome]) ∧ Gives w w' v ((r.map (·.2)).getD [])
theorem getOut_none {w w' : World} (hb : Below w.heap.size w w') : GetOut w none (.returned (.tuple #[.int .i64 0, .slice none 0 0, .bool false])) w' := ⟨_, rfl, Gives.none_ hb⟩

set_option maxHeartbeats 1000000 in
theorem get_calls (A : Option Addr) (m c : Nat) (xs : List Int) (w : World) (hr : ReadsInt w .u8 A m xs) (hs : Small xs) (hn : m ≤ 100000) :
    Calls Try.prog 40 #[.slice A m c] w (GetOut w (getC xs)) := by
  have hm := hr.1
  cases hg : Dual.get xs with
  | none =>
    have hgc : getC xs = none := by unfold getC; rw [hg]
    have HGC := Lib.hid hgc
    have HG := Lib.hid hg
    clear hg hgc hm
    go_enter Try.func40, Try.ntmps40
    go_wp2_with fail
    refine (DualWalk.get_calls _ _ _ _ _ hr hs hn).mono ?_
    rw [HG.out]
    rintro e w1 ⟨v, rfl, hg⟩
    obtain ⟨A1, c1, rfl, -⟩ := hg.reads
    have HB := Lib.hid hg.2
    clear hg
    go_wp2_with fail
    go_ret3
    rw [HGC.out]
    exact getOut_none HB.out
  | some all =>
    have hal : xs.length = 2 * all.length := Dual.get_length hg
    have hsa : Small all := small_mem (Dual.get_small hg (mem_small hs))
    have hgc : getC xs = if xs.length ≠ 320 then none else if mayC (numOf (got all false 4)) = true then some (numOf (got all false 4), got (rest all false 4) (!takeOk all false 4) 156) else none := by unfold getC; rw [hg]
    have HGC := Lib.hid hgc
    have HG := Lib.hid hg
    have HSA := Lib.hid hsa
    clear hg hgc hsa
    by_cases h3 : m = 320
    · have h3' : ((m : Int) != 320) = false := by simp [h3]
      have hl : all.length ≤ 100000 := by omega
      have hx : ¬ xs.length ≠ 320 := by omega
      have HX := Lib.hid hx
      clear h3 hm hal hx
      go_enter Try.func40, Try.ntmps40
      go_wp2_with fail
      refine (DualWalk.get_calls _ _ _ _ _ hr hs hn).mono ?_
      rw [HG.out]
      simp only [Option.isSome_some, Option.getD_some]
      rintro e w1 ⟨v, rfl, hg⟩
      obtain ⟨A1, c1, rfl, hr1⟩ := hg.reads
      have HB1 := Lib.hid hg.2
      have HR1 := Lib.hid hr1
      clear hg hr1
      go_wp2_with fail
      refine (new_get _ _ _ _ _ HR1.out HSA.out hl).mono ?_
      rintro e w2 ⟨g, rfl, hg0, hp, hb⟩
      have HP2 := Lib.hid hp
      have HB2 := Lib.hid (HB1.out.trans (hb.mono HB1.out.size))
      have hg1 : w.heap.size ≤ g := Nat.le_trans HB1.out.size hg0
      clear hp hb HB1 HR1
      go_wp2_with fail
      refine (num_get g g _ _ 4 _ HP2.out).mono ?_
      rintro e w3 ⟨rfl, hp, hf⟩
      rw [clip_4] at hp ⊢
      obtain ⟨q, hq⟩ : ∃ q, q = numOf (got all false 4) := ⟨_, rfl⟩
      obtain ⟨x1, hx1⟩ : ∃ x1, x1 = rest all false 4 := ⟨_, rfl⟩
      obtain ⟨b1, hb1⟩ : ∃ b1, b1 = !takeOk all false 4 := ⟨_, rfl⟩
      rw [← hx1, ← hb1] at hp
      rw [← hq]
      have HGD : Hid (getC xs = if mayC q = true then some (q, got x1 b1 156) else none) := Lib.hid (by rw [HGC.out, if_neg HX.out, hq, hx1, hb1])
      have HP3 := Lib.hid hp
      have HB3 := Lib.hid (HB2.out.trans (hf.to_below (fun i hi e => by have e : i = g := e; omega) HB2.out.size))
      clear hq hx1 hb1 hp hf HP2 HB2 HGC HX
      go_wp2_with fail
      refine (may_calls q _).mono ?_
      rintro e w' ⟨rfl, rfl⟩
      cases hy : mayC q with
      | false =>
        have HR0 := Lib.hid (show getC xs = none by rw [HGD.out, if_neg (by rw [hy]; decide)])
        clear hy
        go_wp2_with fail
        go_ret3
        rw [HR0.out]
        exact getOut_none HB3.out
      | true =>
        have HR0 := Lib.hid (show getC xs = some (q, got x1 b1 156) by rw [HGD.out, if_pos hy])
        clear hy
        go_wp2_with fail
        refine (raw_get g g _ _ 156 _ HP3.out).mono ?_
        rintro e w4 ⟨v4, rfl, ho, hp, hf⟩
        rw [clip_156] at ho
        have HB4 := Lib.hid (HB3.out.trans (hf.to_below (fun i hi e => by have e : i = g := e; omega) HB3.out.size))
        have HO := Lib.hid (own_lower ho HB3.out.size)
        clear hp hf ho
        go_wp2_with fail
        go_ret3
        rw [HR0.out]
        exact ⟨v4, rfl, HO.out, HB4.out⟩
    · have h3' : ((m : Int) != 320) = true := by simp; omega
      have HR0 := Lib.hid (show getC xs = none by rw [HGC.out, if_pos (by omega)])
      clear h3 hm hal HGC
      go_enter Try.func40, Try.ntmps40
      go_wp2_with fail
      refine (DualWalk.get_calls _ _ _ _ _ hr hs hn).mono ?_
      rw [HG.out]
      simp only [Option.isSome_some, Option.getD_some]
      rintro e w1 ⟨v, rfl, hg⟩
      obtain ⟨A1, c1, rfl, -⟩ := hg.reads
      have HB := Lib.hid hg.2
      clear hg
      go_wp2_with fail
      go_ret3
      rw [HR0.out]
      exact getOut_none HB.out
end Go.Proofs.Ytgcdankgckgibaa.Cell
