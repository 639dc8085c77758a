/- Walks: an image that is read: meta.get, and the reference's. -/
import Derived.Test.YtehlcljachkgdaaFieldGets
import Derived.Test.YtehlcljachkgdaaBlk
import Derived.OrdersHeld
import Derived.Deep.RegionHeld
import Derived.Laws.CopyOwn
namespace Go.Proofs.Ytehlcljachkgdaa.Boot
open Go.RowKit Go.Proofs.YtehlcljachkgdaaW.PrintWords Go.Proofs.YtehlcljachkgdaaW.PrintLast Go.Proofs.Ytehlcljachkgdaa.Kit Go.Proofs.Ytehlcljachkgdaa.Field
attribute [local go_sem ↓] ldI ldM stI stM
attribute [local go_sem] ldI_run ldM_run
set_option linter.unusedSimpArgs false
set_option linter.unusedVariables false

end Go.Proofs.Ytehlcljachkgdaa.Boot
namespace Go.Proofs.Ytehlcljachkgdaa.Field
open Go.RowKit Go.Proofs.YtehlcljachkgdaaW.PrintWords Go.Proofs.YtehlcljachkgdaaW.PrintLast Go.Proofs.Ytehlcljachkgdaa.Kit Go.Proofs.Ytehlcljachkgdaa.Boot
theorem Fr.row {F : Nat → Prop} {W W' : World} {g : Nat} (h : Fr F W W') (hg : W.heap.size ≤ g) (c : Array Value) : Fr F W (W'.setRow g c) :=
  h.then_ (F' := fun i => i = g) ⟨rfl, rfl, rfl, by simp [World.setRow], fun i _ hn => Go.Proofs.Ytehlcljachkgdaa.Boot.setRow_other W' c hn⟩ (fun i hi e => by omega)
theorem Fr.high {F : Nat → Prop} {W W' W'' : World} {b : Nat} (h : Fr F W W') (k : Below b W' W'') (hb : W.heap.size ≤ b) : Fr F W W'' :=
  h.then_ (F' := fun i => b ≤ i) ⟨k.os, k.tape, k.output, k.size, fun i _ hn => k.block i (by omega)⟩ (fun i hi e => by omega)
theorem Rp.high {W W' : World} {H g b : Nat} {xs : List Int} {bad : Bool} (h : Rp W H g xs bad) (k : Below b W W') (hb : g < b) : Rp W' H g xs bad :=
  h.keep (F := fun i => b ≤ i) ⟨k.os, k.tape, k.output, k.size, fun i _ hn => k.block i (by omega)⟩ (fun i hi => ⟨by have := h.1.hH; omega, by omega⟩)
theorem Rr.high {W W' : World} {H g b : Nat} {xs : List Int} {bad : Bool} (h : Rr W H g xs bad) (k : Below b W W') (hb : g < b) : Rr W' H g xs bad :=
  h.keep (F := fun i => b ≤ i) ⟨k.os, k.tape, k.output, k.size, fun i _ hn => k.block i (by omega)⟩ (fun i hi => ⟨by obtain ⟨ys, h1, _⟩ := h; have := h1.hH; omega, by omega⟩)
theorem Rp.lt {W : World} {H g : Nat} {xs : List Int} {bad : Bool} (h : Rp W H g xs bad) : g < W.heap.size := h.1.lt
theorem Rr.lt {W : World} {H g : Nat} {xs : List Int} {bad : Bool} (h : Rr W H g xs bad) : g < W.heap.size := by obtain ⟨ys, h1, _⟩ := h; exact h1.lt
theorem Rp.row {W : World} {H g b : Nat} {xs : List Int} {bad : Bool} (h : Rp W H g xs bad) (hb : g < b) (c : Array Value) : Rp (W.setRow b c) H g xs bad := h.high (below_setRow (Below.refl b W) (Nat.le_refl _) c) hb
theorem Rr.row {W : World} {H g b : Nat} {xs : List Int} {bad : Bool} (h : Rr W H g xs bad) (hb : g < b) (c : Array Value) : Rr (W.setRow b c) H g xs bad := h.high (below_setRow (Below.refl b W) (Nat.le_refl _) c) hb
theorem Rp.cell {W : World} {H g b : Nat} {xs : List Int} {bad : Bool} (h : Rp W H g xs bad) (hb : g < b) (i : Nat) (v : Value) : Rp (W.setCell ⟨b, i, none⟩ v) H g xs bad := h.high ((Below.refl b W).setCell (Nat.le_refl _) v) hb
theorem Rr.cell {W : World} {H g b : Nat} {xs : List Int} {bad : Bool} (h : Rr W H g xs bad) (hb : g < b) (i : Nat) (v : Value) : Rr (W.setCell ⟨b, i, none⟩ v) H g xs bad := h.high ((Below.refl b W).setCell (Nat.le_refl _) v) hb
end Go.Proofs.Ytehlcljachkgdaa.Field
namespace Go.Proofs.Ytehlcljachkgdaa.Boot
open Go.RowKit Go.Proofs.YtehlcljachkgdaaW.PrintWords Go.Proofs.YtehlcljachkgdaaW.PrintLast Go.Proofs.Ytehlcljachkgdaa.Kit Go.Proofs.Ytehlcljachkgdaa.Field
attribute [local go_sem ↓] ldI ldM stI stM
attribute [local go_sem] ldI_run ldM_run
set_option linter.unusedSimpArgs false
set_option linter.unusedVariables false
/-- what a reader has left; whether bytes were missing -/
abbrev RS := List Int × Bool
def rdNum (k : Nat) (r : RS) : Int × RS := (numOf (Field.got r.1 r.2 k), Field.rest r.1 r.2 k, !takeOk r.1 r.2 k)
def rdRaw (k : Nat) (r : RS) : List Int × RS := (Field.got r.1 r.2 k, Field.rest r.1 r.2 k, !takeOk r.1 r.2 k)
def rdImg (r : RS) : Img × RS := (⟨(rdNum 4 r).1, (rdNum 4 (rdNum 4 r).2).1, rawL (rdRaw 32 (rdNum 4 (rdNum 4 r).2).2).1 32⟩, (rdRaw 32 (rdNum 4 (rdNum 4 r).2).2).2)
def Imaged (P : World → Nat → Nat → List Int → Bool → Prop) (w : World) (H g : Nat) (r : RS) (e : Ending) (w' : World) : Prop :=
  e = .returned (.agg (rdImg r).1.enc.toArray) ∧ P w' H g (rdImg r).2.1 (rdImg r).2.2 ∧ Fr (· = g) w w'
theorem clip4' : clip 4 8 = 4 := by decide
theorem clip1' : clip 1 8 = 1 := by decide
theorem clip32' : clip 32 1000 = 32 := by decide
theorem Blk.fr {F : Nat → Prop} {W W' : World} {t : TypeId} {b : Nat} {cs : Array Value} (h : Blk W t b cs) (k : Fr F W W') (hn : ¬ F b) : Blk W' t b cs := ⟨(k.block b h.lt hn).trans h.heap⟩
theorem info55' : (Try.prog.info? 49).map (·.size) = some 34 := info55
/-- an image's cells behind the copy -/
theorem spliced (x y : Int) (l : List Int) (h : l.length ≤ 32) : (splice (Value.int .i64 x :: Value.int .i64 y :: nums .u8 (List.replicate 32 0)) 2 (nums .u8 l)).toArray = (Img.mk x y (rawL l 32)).enc.toArray := by
  unfold splice Img.enc
  rw [rawL_eq, List.take_of_length_le h, nums_length, nums_append]
  have : (Value.int .i64 x :: Value.int .i64 y :: nums .u8 (List.replicate 32 0)).drop (2 + l.length) = nums .u8 (List.replicate (32 - l.length) 0) := by
    rw [show 2 + l.length = l.length + 1 + 1 by omega, List.drop_succ_cons, List.drop_succ_cons]
    simp only [nums, ← List.map_drop, List.drop_replicate]
  rw [this]
  rfl
theorem zero_img : (#[.int .i64 0, .int .i64 0, .int .u8 0, .int .u8 0, .int .u8 0, .int .u8 0, .int .u8 0, .int .u8 0, .int .u8 0, .int .u8 0, .int .u8 0, .int .u8 0, .int .u8 0, .int .u8 0, .int .u8 0, .int .u8 0, .int .u8 0, .int .u8 0, .int .u8 0, .int .u8 0, .int .u8 0, .int .u8 0, .int .u8 0, .int .u8 0, .int .u8 0, .int .u8 0, .int .u8 0, .int .u8 0, .int .u8 0, .int .u8 0, .int .u8 0, .int .u8 0, .int .u8 0, .int .u8 0] : Array Value).toList.all (·.oneCell') = true := by kernel_rfl
theorem one_img (x y : Int) : (#[.int .i64 x, .int .i64 y, .int .u8 0, .int .u8 0, .int .u8 0, .int .u8 0, .int .u8 0, .int .u8 0, .int .u8 0, .int .u8 0, .int .u8 0, .int .u8 0, .int .u8 0, .int .u8 0, .int .u8 0, .int .u8 0, .int .u8 0, .int .u8 0, .int .u8 0, .int .u8 0, .int .u8 0, .int .u8 0, .int .u8 0, .int .u8 0, .int .u8 0, .int .u8 0, .int .u8 0, .int .u8 0, .int .u8 0, .int .u8 0, .int .u8 0, .int .u8 0, .int .u8 0, .int .u8 0] : Array Value).toList.all (·.oneCell') = true := by rfl
theorem put_img (x y : Int) : (#[.int .i64 x, .int .i64 0, .int .u8 0, .int .u8 0, .int .u8 0, .int .u8 0, .int .u8 0, .int .u8 0, .int .u8 0, .int .u8 0, .int .u8 0, .int .u8 0, .int .u8 0, .int .u8 0, .int .u8 0, .int .u8 0, .int .u8 0, .int .u8 0, .int .u8 0, .int .u8 0, .int .u8 0, .int .u8 0, .int .u8 0, .int .u8 0, .int .u8 0, .int .u8 0, .int .u8 0, .int .u8 0, .int .u8 0, .int .u8 0, .int .u8 0, .int .u8 0, .int .u8 0, .int .u8 0] : Array Value).setIfInBounds 1 (.int .i64 y) = (Value.int .i64 x :: Value.int .i64 y :: nums .u8 (List.replicate 32 0)).toArray := by rfl
theorem lit_img (x y : Int) : (#[.int .i64 x, .int .i64 y, .int .u8 0, .int .u8 0, .int .u8 0, .int .u8 0, .int .u8 0, .int .u8 0, .int .u8 0, .int .u8 0, .int .u8 0, .int .u8 0, .int .u8 0, .int .u8 0, .int .u8 0, .int .u8 0, .int .u8 0, .int .u8 0, .int .u8 0, .int .u8 0, .int .u8 0, .int .u8 0, .int .u8 0, .int .u8 0, .int .u8 0, .int .u8 0, .int .u8 0, .int .u8 0, .int .u8 0, .int .u8 0, .int .u8 0, .int .u8 0, .int .u8 0, .int .u8 0] : Array Value) = (Value.int .i64 x :: Value.int .i64 y :: nums .u8 (List.replicate 32 0)).toArray := by rfl
theorem nums_one (l : List Int) : ∀ v ∈ nums .u8 l, v.oneCell' = true := fun v hv => by
  simp only [nums, List.mem_map] at hv; obtain ⟨q, _, rfl⟩ := hv; rfl
theorem src_of {W : World} {A : Option Addr} {n : Nat} {l : List Int} (h : ReadsInt W .u8 A n l) (hp : 0 < l.length) : ∃ ad, A = some ad ∧ ∀ j v, (nums .u8 l)[j]? = some v → W.cell? (ad.add j) = some v := by
  obtain ⟨ad, e, hc⟩ := h.2.2 (by rw [← h.1]; exact hp)
  refine ⟨ad, e, fun j v hv => ?_⟩
  have hj : j < l.length := by
    have := (List.getElem?_eq_some_iff.1 hv).1
    rwa [nums_length] at this
  rw [hc j (by rw [← h.1]; exact hj)]
  simpa [nums, hj, List.getD_eq_getElem?_getD] using hv

set_option maxHeartbeats 8000000 in
set_option maxRecDepth 100000 in
theorem get_m (H g : Nat) (xs : List Int) (bad : Bool) (w : World) (h : Rp w H g xs bad) : Calls Try.prog 45 #[.pointer (some ⟨g, 0, none⟩)] w (Imaged Rp w H g (xs, bad)) := by
  have hg0 := h.lt
  have HR := Lib.hid (h.below (below_alloc1 w (.cells #[.int .i64 0, .int .i64 0, .int .u8 0, .int .u8 0, .int .u8 0, .int .u8 0, .int .u8 0, .int .u8 0, .int .u8 0, .int .u8 0, .int .u8 0, .int .u8 0, .int .u8 0, .int .u8 0, .int .u8 0, .int .u8 0, .int .u8 0, .int .u8 0, .int .u8 0, .int .u8 0, .int .u8 0, .int .u8 0, .int .u8 0, .int .u8 0, .int .u8 0, .int .u8 0, .int .u8 0, .int .u8 0, .int .u8 0, .int .u8 0, .int .u8 0, .int .u8 0, .int .u8 0, .int .u8 0] 49)))
  have HB0 := Lib.hid (Blk.new w 49 #[.int .i64 0, .int .i64 0, .int .u8 0, .int .u8 0, .int .u8 0, .int .u8 0, .int .u8 0, .int .u8 0, .int .u8 0, .int .u8 0, .int .u8 0, .int .u8 0, .int .u8 0, .int .u8 0, .int .u8 0, .int .u8 0, .int .u8 0, .int .u8 0, .int .u8 0, .int .u8 0, .int .u8 0, .int .u8 0, .int .u8 0, .int .u8 0, .int .u8 0, .int .u8 0, .int .u8 0, .int .u8 0, .int .u8 0, .int .u8 0, .int .u8 0, .int .u8 0, .int .u8 0, .int .u8 0] _ rfl)
  have HF := Lib.hid ((Fr.refl (· = g) w).alloc (.cells #[.int .i64 0, .int .i64 0, .int .u8 0, .int .u8 0, .int .u8 0, .int .u8 0, .int .u8 0, .int .u8 0, .int .u8 0, .int .u8 0, .int .u8 0, .int .u8 0, .int .u8 0, .int .u8 0, .int .u8 0, .int .u8 0, .int .u8 0, .int .u8 0, .int .u8 0, .int .u8 0, .int .u8 0, .int .u8 0, .int .u8 0, .int .u8 0, .int .u8 0, .int .u8 0, .int .u8 0, .int .u8 0, .int .u8 0, .int .u8 0, .int .u8 0, .int .u8 0, .int .u8 0, .int .u8 0] 49))
  clear h
  go_enter Try.func45, Try.ntmps45
  go_wp2_with fail
  refine (num_get H g _ _ 4 _ HR.out).mono ?_
  rintro e w1 ⟨rfl, hr, hf⟩
  rw [clip4'] at hr ⊢
  have hs1 : w.heap.size ≤ w1.heap.size := by have := hf.size; simp at this; omega
  have hlt1 : w.heap.size < w1.heap.size := by have := hf.size; simp at this; omega
  have hg1 : g < w1.heap.size := by omega
  obtain ⟨x, hx⟩ : ∃ x, x = numOf (Field.got xs bad 4) := ⟨_, rfl⟩
  rw [← hx]
  have HXX := Lib.hid hx
  have HB0 := Lib.hid (HB0.out.fr hf (by omega))
  have HF := Lib.hid (HF.out.then_ hf (fun i hi e => e))
  have hst1 := (Blk.new w1 49 #[.int .i64 0, .int .i64 0, .int .u8 0, .int .u8 0, .int .u8 0, .int .u8 0, .int .u8 0, .int .u8 0, .int .u8 0, .int .u8 0, .int .u8 0, .int .u8 0, .int .u8 0, .int .u8 0, .int .u8 0, .int .u8 0, .int .u8 0, .int .u8 0, .int .u8 0, .int .u8 0, .int .u8 0, .int .u8 0, .int .u8 0, .int .u8 0, .int .u8 0, .int .u8 0, .int .u8 0, .int .u8 0, .int .u8 0, .int .u8 0, .int .u8 0, .int .u8 0, .int .u8 0, .int .u8 0] _ rfl).store 49 #[.int .i64 x, .int .i64 0, .int .u8 0, .int .u8 0, .int .u8 0, .int .u8 0, .int .u8 0, .int .u8 0, .int .u8 0, .int .u8 0, .int .u8 0, .int .u8 0, .int .u8 0, .int .u8 0, .int .u8 0, .int .u8 0, .int .u8 0, .int .u8 0, .int .u8 0, .int .u8 0, .int .u8 0, .int .u8 0, .int .u8 0, .int .u8 0, .int .u8 0, .int .u8 0, .int .u8 0, .int .u8 0, .int .u8 0, .int .u8 0, .int .u8 0, .int .u8 0, .int .u8 0, .int .u8 0] info55 rfl (one_img x 0)
  have HR := Lib.hid ((hr.below (below_alloc1 w1 (.cells #[.int .i64 0, .int .i64 0, .int .u8 0, .int .u8 0, .int .u8 0, .int .u8 0, .int .u8 0, .int .u8 0, .int .u8 0, .int .u8 0, .int .u8 0, .int .u8 0, .int .u8 0, .int .u8 0, .int .u8 0, .int .u8 0, .int .u8 0, .int .u8 0, .int .u8 0, .int .u8 0, .int .u8 0, .int .u8 0, .int .u8 0, .int .u8 0, .int .u8 0, .int .u8 0, .int .u8 0, .int .u8 0, .int .u8 0, .int .u8 0, .int .u8 0, .int .u8 0, .int .u8 0, .int .u8 0] 49))).row hg1 #[.int .i64 x, .int .i64 0, .int .u8 0, .int .u8 0, .int .u8 0, .int .u8 0, .int .u8 0, .int .u8 0, .int .u8 0, .int .u8 0, .int .u8 0, .int .u8 0, .int .u8 0, .int .u8 0, .int .u8 0, .int .u8 0, .int .u8 0, .int .u8 0, .int .u8 0, .int .u8 0, .int .u8 0, .int .u8 0, .int .u8 0, .int .u8 0, .int .u8 0, .int .u8 0, .int .u8 0, .int .u8 0, .int .u8 0, .int .u8 0, .int .u8 0, .int .u8 0, .int .u8 0, .int .u8 0])
  have HB1 := Lib.hid ((Blk.new w1 49 #[.int .i64 0, .int .i64 0, .int .u8 0, .int .u8 0, .int .u8 0, .int .u8 0, .int .u8 0, .int .u8 0, .int .u8 0, .int .u8 0, .int .u8 0, .int .u8 0, .int .u8 0, .int .u8 0, .int .u8 0, .int .u8 0, .int .u8 0, .int .u8 0, .int .u8 0, .int .u8 0, .int .u8 0, .int .u8 0, .int .u8 0, .int .u8 0, .int .u8 0, .int .u8 0, .int .u8 0, .int .u8 0, .int .u8 0, .int .u8 0, .int .u8 0, .int .u8 0, .int .u8 0, .int .u8 0] _ rfl).set #[.int .i64 x, .int .i64 0, .int .u8 0, .int .u8 0, .int .u8 0, .int .u8 0, .int .u8 0, .int .u8 0, .int .u8 0, .int .u8 0, .int .u8 0, .int .u8 0, .int .u8 0, .int .u8 0, .int .u8 0, .int .u8 0, .int .u8 0, .int .u8 0, .int .u8 0, .int .u8 0, .int .u8 0, .int .u8 0, .int .u8 0, .int .u8 0, .int .u8 0, .int .u8 0, .int .u8 0, .int .u8 0, .int .u8 0, .int .u8 0, .int .u8 0, .int .u8 0, .int .u8 0, .int .u8 0])
  have HB0 := Lib.hid ((HB0.out.alloc (.cells #[.int .i64 0, .int .i64 0, .int .u8 0, .int .u8 0, .int .u8 0, .int .u8 0, .int .u8 0, .int .u8 0, .int .u8 0, .int .u8 0, .int .u8 0, .int .u8 0, .int .u8 0, .int .u8 0, .int .u8 0, .int .u8 0, .int .u8 0, .int .u8 0, .int .u8 0, .int .u8 0, .int .u8 0, .int .u8 0, .int .u8 0, .int .u8 0, .int .u8 0, .int .u8 0, .int .u8 0, .int .u8 0, .int .u8 0, .int .u8 0, .int .u8 0, .int .u8 0, .int .u8 0, .int .u8 0] 49)).set_other (g' := w1.heap.size) #[.int .i64 x, .int .i64 0, .int .u8 0, .int .u8 0, .int .u8 0, .int .u8 0, .int .u8 0, .int .u8 0, .int .u8 0, .int .u8 0, .int .u8 0, .int .u8 0, .int .u8 0, .int .u8 0, .int .u8 0, .int .u8 0, .int .u8 0, .int .u8 0, .int .u8 0, .int .u8 0, .int .u8 0, .int .u8 0, .int .u8 0, .int .u8 0, .int .u8 0, .int .u8 0, .int .u8 0, .int .u8 0, .int .u8 0, .int .u8 0, .int .u8 0, .int .u8 0, .int .u8 0, .int .u8 0] (by omega))
  have HF := Lib.hid ((HF.out.alloc (.cells #[.int .i64 0, .int .i64 0, .int .u8 0, .int .u8 0, .int .u8 0, .int .u8 0, .int .u8 0, .int .u8 0, .int .u8 0, .int .u8 0, .int .u8 0, .int .u8 0, .int .u8 0, .int .u8 0, .int .u8 0, .int .u8 0, .int .u8 0, .int .u8 0, .int .u8 0, .int .u8 0, .int .u8 0, .int .u8 0, .int .u8 0, .int .u8 0, .int .u8 0, .int .u8 0, .int .u8 0, .int .u8 0, .int .u8 0, .int .u8 0, .int .u8 0, .int .u8 0, .int .u8 0, .int .u8 0] 49)).row hs1 #[.int .i64 x, .int .i64 0, .int .u8 0, .int .u8 0, .int .u8 0, .int .u8 0, .int .u8 0, .int .u8 0, .int .u8 0, .int .u8 0, .int .u8 0, .int .u8 0, .int .u8 0, .int .u8 0, .int .u8 0, .int .u8 0, .int .u8 0, .int .u8 0, .int .u8 0, .int .u8 0, .int .u8 0, .int .u8 0, .int .u8 0, .int .u8 0, .int .u8 0, .int .u8 0, .int .u8 0, .int .u8 0, .int .u8 0, .int .u8 0, .int .u8 0, .int .u8 0, .int .u8 0, .int .u8 0])
  have HSZ := Lib.hid (show w1.heap.size < ((w1.alloc (.cells #[.int .i64 0, .int .i64 0, .int .u8 0, .int .u8 0, .int .u8 0, .int .u8 0, .int .u8 0, .int .u8 0, .int .u8 0, .int .u8 0, .int .u8 0, .int .u8 0, .int .u8 0, .int .u8 0, .int .u8 0, .int .u8 0, .int .u8 0, .int .u8 0, .int .u8 0, .int .u8 0, .int .u8 0, .int .u8 0, .int .u8 0, .int .u8 0, .int .u8 0, .int .u8 0, .int .u8 0, .int .u8 0, .int .u8 0, .int .u8 0, .int .u8 0, .int .u8 0, .int .u8 0, .int .u8 0] 49)).setRow w1.heap.size #[.int .i64 x, .int .i64 0, .int .u8 0, .int .u8 0, .int .u8 0, .int .u8 0, .int .u8 0, .int .u8 0, .int .u8 0, .int .u8 0, .int .u8 0, .int .u8 0, .int .u8 0, .int .u8 0, .int .u8 0, .int .u8 0, .int .u8 0, .int .u8 0, .int .u8 0, .int .u8 0, .int .u8 0, .int .u8 0, .int .u8 0, .int .u8 0, .int .u8 0, .int .u8 0, .int .u8 0, .int .u8 0, .int .u8 0, .int .u8 0, .int .u8 0, .int .u8 0, .int .u8 0, .int .u8 0]).heap.size from HB1.out.lt)
  clear hr hf hx
  go_wp2_with fail
  generalize (w1.alloc (.cells #[.int .i64 0, .int .i64 0, .int .u8 0, .int .u8 0, .int .u8 0, .int .u8 0, .int .u8 0, .int .u8 0, .int .u8 0, .int .u8 0, .int .u8 0, .int .u8 0, .int .u8 0, .int .u8 0, .int .u8 0, .int .u8 0, .int .u8 0, .int .u8 0, .int .u8 0, .int .u8 0, .int .u8 0, .int .u8 0, .int .u8 0, .int .u8 0, .int .u8 0, .int .u8 0, .int .u8 0, .int .u8 0, .int .u8 0, .int .u8 0, .int .u8 0, .int .u8 0, .int .u8 0, .int .u8 0] 49)).setRow w1.heap.size #[.int .i64 x, .int .i64 0, .int .u8 0, .int .u8 0, .int .u8 0, .int .u8 0, .int .u8 0, .int .u8 0, .int .u8 0, .int .u8 0, .int .u8 0, .int .u8 0, .int .u8 0, .int .u8 0, .int .u8 0, .int .u8 0, .int .u8 0, .int .u8 0, .int .u8 0, .int .u8 0, .int .u8 0, .int .u8 0, .int .u8 0, .int .u8 0, .int .u8 0, .int .u8 0, .int .u8 0, .int .u8 0, .int .u8 0, .int .u8 0, .int .u8 0, .int .u8 0, .int .u8 0, .int .u8 0] = w2 at HR HB1 HB0 HF HSZ ⊢
  clear hst1
  refine (num_get H g _ _ 4 _ HR.out).mono ?_
  rintro e w3 ⟨rfl, hr, hf⟩
  rw [clip4'] at hr ⊢
  obtain ⟨y, hy⟩ : ∃ y, y = (rdNum 4 (rdNum 4 (xs, bad)).2).1 := ⟨_, rfl⟩
  have hy' : numOf (Field.got (Field.rest xs bad 4) (!takeOk xs bad 4) 4) = y := hy.symm
  rw [hy']
  have HYY := Lib.hid hy
  have HB1 := Lib.hid (HB1.out.fr hf (by omega))
  have HB0 := Lib.hid (HB0.out.fr hf (by omega))
  have HF := Lib.hid (HF.out.then_ hf (fun i hi e => e))
  have c1 := HB1.out.cell 1
  have f1 := HB1.out.free 1
  have HR := Lib.hid (hr.cell hg1 1 (.int .i64 y))
  have hp1 := HB1.out.put 1 (.int .i64 y)
  rw [put_img] at hp1
  have HB1 := Lib.hid hp1
  have HB0 := Lib.hid (HB0.out.put_other (g' := w1.heap.size) 1 (.int .i64 y) (by omega))
  have HF := Lib.hid (HF.out.setCell (p := ⟨w1.heap.size, 1, none⟩) (.inr hs1) (.int .i64 y))
  clear hr hf hy hy' hp1
  go_wp2_with fail
  generalize w3.setCell ⟨w1.heap.size, 1, none⟩ (.int .i64 y) = w4 at HR HB1 HB0 HF ⊢
  clear c1 f1
  refine wp_region_noPanic ?_
  refine wp_region_held_drew (S := fun _ => True) (by kernel_rfl) (trivial) (fun hHeld => ?_)
  have HRd := Lib.hid (HR.out.below (Below.refl _ _).drew)
  have HBd := Lib.hid HB1.out.drew
  have HCd := Lib.hid HB0.out.drew
  have HFd := Lib.hid HF.out.drew
  refine wpAnyH_take (i := 0) (v := ?v0) rfl (by kernel_rfl) (by kernel_rfl) (by kernel_rfl) (fun _ _ _ h => h) (Or.inl ⟨by rfl, ?y0⟩) (by assumption) ?n0
  case y0 => (intro W hSw; go_simp; try with_reducible rfl)
  try simp only [Act.put, List.getElem_toArray, List.getElem_cons_succ, List.getElem_cons_zero, List.setIfInBounds_toArray, List.set_cons_zero, List.set_cons_succ]
  refine wpAnyH_take (i := 1) (v := ?v1) rfl (by kernel_rfl) (by kernel_rfl) (by kernel_rfl) (fun _ _ _ h => h) (Or.inl ⟨by rfl, ?y1⟩) (by assumption) ?n1
  case y1 => (intro W hSw; go_simp; try with_reducible rfl)
  try simp only [Act.put, List.getElem_toArray, List.getElem_cons_succ, List.getElem_cons_zero, List.setIfInBounds_toArray, List.set_cons_zero, List.set_cons_succ]
  refine wpAnyH_take (i := 2) (v := ?v2) rfl (by kernel_rfl) (by kernel_rfl) (by kernel_rfl) (fun _ _ _ h => h) (Or.inl ⟨by rfl, ?y2⟩) (by assumption) ?n2
  case y2 => (intro W hSw; go_simp; try with_reducible rfl)
  try simp only [Act.put, List.getElem_toArray, List.getElem_cons_succ, List.getElem_cons_zero, List.setIfInBounds_toArray, List.set_cons_zero, List.set_cons_succ]
  refine wpAnyH_ready (rs := [3]) (by kernel_rfl) (by simp) ?_
  refine AllReadyH.cons rfl (fun KK hK => ?_) AllReadyH.nil
  rw [if_pos (by rfl)]
  go_simp
  refine (raw_get H g _ _ 32 _ HRd.out).mono ?_
  rintro e w5 ⟨vr, rfl, hown, hr, hf⟩
  rw [clip32'] at hown hr
  have hne1 : w1.heap.size ≠ g := by omega
  have hne0 : w.heap.size ≠ g := by omega
  have HR := Lib.hid hr
  have HB1 := Lib.hid (HBd.out.fr hf hne1)
  have HB0 := Lib.hid (HCd.out.fr hf hne0)
  have HF := Lib.hid (HFd.out.then_ hf (fun i hi e => e))
  obtain ⟨A, cr, rfl, hrd⟩ := own_reads hown
  have HRD := Lib.hid hrd
  have hgl := got_length_le (rdNum 4 (rdNum 4 (xs, bad)).2).2.1 (rdNum 4 (rdNum 4 (xs, bad)).2).2.2 32
  clear hown hr hf hrd
  try dsimp only
  refine hK.out _ _ (trivial) (fun hHeld => ?_)
  clear hK KK
  try simp only [Act.put, List.getElem_toArray, List.getElem_cons_succ, List.getElem_cons_zero, List.setIfInBounds_toArray, List.set_cons_zero, List.set_cons_succ]
  refine wpAnyH_ready (rs := [4]) (by kernel_rfl) (by simp) ?_
  refine AllReadyH.cons rfl (fun KK hK => ?_) AllReadyH.nil
  refine step_copy_splice rfl (.tmp 11) (.tmp 13) 23 23 rfl 5 Try.underlying23 (by kernel_rfl) (some ⟨w1.heap.size, 2, none⟩) A 32 32 _ cr (by rfl) (by rfl) w1.heap.size 2 (Value.int .i64 x :: Value.int .i64 y :: nums .u8 (List.replicate 32 0)) 49 HB1.out.heap (nums .u8 (Field.got (rdNum 4 (rdNum 4 (xs, bad)).2).2.1 (rdNum 4 (rdNum 4 (xs, bad)).2).2.2 32)) (by rw [nums_length]; exact (Nat.min_eq_left hgl).symm) (fun hp => ⟨rfl, src_of HRD.out (by rw [nums_length] at hp; exact hp)⟩) (by rw [nums_length]; simp [nums_length]; omega) (nums_one _) w1.heap.size w5 (Below.refl _ _) (Nat.le_refl _) ?_
  intro w6 hh hb6
  have hi6 : Blk w6 49 w1.heap.size (Img.mk x y (rawL (Field.got (rdNum 4 (rdNum 4 (xs, bad)).2).2.1 (rdNum 4 (rdNum 4 (xs, bad)).2).2.2 32) 32)).enc.toArray := ⟨by rw [← spliced x y _ hgl]; exact hh.out⟩
  have HI6 := Lib.hid hi6
  have HR := Lib.hid (HR.out.high hb6 hg1)
  have HB0 := Lib.hid (show Blk w6 49 w.heap.size _ from ⟨(hb6.block w.heap.size (by omega)).trans HB0.out.heap⟩)
  have HF := Lib.hid (HF.out.high hb6 hs1)
  clear hh hb6 hi6
  try dsimp only
  refine hK.out _ _ (trivial) (fun hHeld => ?_)
  clear hK KK
  try simp only [Act.put, List.getElem_toArray, List.getElem_cons_succ, List.getElem_cons_zero, List.setIfInBounds_toArray, List.set_cons_zero, List.set_cons_succ]
  refine wpAnyH_done (by kernel_rfl) ?_ _
  refine NoPanic.normal ?_
  obtain ⟨I, hI⟩ : ∃ I, I = (Img.mk x y (rawL (Field.got (rdNum 4 (rdNum 4 (xs, bad)).2).2.1 (rdNum 4 (rdNum 4 (xs, bad)).2).2.2 32) 32)) := ⟨_, rfl⟩
  rw [← hI] at HI6
  have hok : I.enc.toArray.size = 34 := by rw [hI]; simp [Img.enc, nums_length, rawL_length]
  have hone : I.enc.toArray.toList.all (·.oneCell') = true := img_one I
  have le34 : 0 + 34 ≤ I.enc.toArray.size := by omega
  have e34 : I.enc.toArray.extract 0 34 = I.enc.toArray := by rw [← hok]; exact Array.extract_size
  have hst := HB0.out.store 49 I.enc.toArray (by rw [hok]; exact info55) (by rw [hok]; rfl) hone
  have hrow := HI6.out.row
  have HFIN := Lib.hid (HF.out.row (Nat.le_refl _) I.enc.toArray)
  have HRF := Lib.hid (HR.out.row hg0 I.enc.toArray)
  have HBF := Lib.hid (HB0.out.set I.enc.toArray)
  have HIE := Lib.hid (show I = (rdImg (xs, bad)).1 by rw [hI, HXX.out, HYY.out]; rfl)
  have HOK := Lib.hid hok
  obtain ⟨J, hJ⟩ : ∃ J, J = I.enc.toArray := ⟨_, rfl⟩
  rw [← hJ] at hst hrow HFIN HRF HBF le34 e34 HOK
  have HJ := Lib.hid hJ
  clear hI hok hone hHeld hJ
  go_wp2_with fail
  exact bodyPost_ret (v := .agg J) (results_single Try.results45 (.cell w.heap.size 49 J (0, 0) _ rfl HBF.out.heap Try.underlying49 rfl (by rw [HOK.out]; exact info55) .nil)) rfl ⟨by rw [← HIE.out, HJ.out], HRF.out, HFIN.out⟩

set_option maxHeartbeats 8000000 in
set_option maxRecDepth 100000 in
theorem get_ref (H g : Nat) (xs : List Int) (bad : Bool) (w : World) (h : Rr w H g xs bad) : Calls Try.prog 48 #[.pointer (some ⟨g, 0, none⟩)] w (Imaged Rr w H g (xs, bad)) := by
  have hg0 := h.lt
  have HR := Lib.hid (h.below (below_alloc1 w (.cells #[.int .i64 0, .int .i64 0, .int .u8 0, .int .u8 0, .int .u8 0, .int .u8 0, .int .u8 0, .int .u8 0, .int .u8 0, .int .u8 0, .int .u8 0, .int .u8 0, .int .u8 0, .int .u8 0, .int .u8 0, .int .u8 0, .int .u8 0, .int .u8 0, .int .u8 0, .int .u8 0, .int .u8 0, .int .u8 0, .int .u8 0, .int .u8 0, .int .u8 0, .int .u8 0, .int .u8 0, .int .u8 0, .int .u8 0, .int .u8 0, .int .u8 0, .int .u8 0, .int .u8 0, .int .u8 0] 49)))
  have HB0 := Lib.hid (Blk.new w 49 #[.int .i64 0, .int .i64 0, .int .u8 0, .int .u8 0, .int .u8 0, .int .u8 0, .int .u8 0, .int .u8 0, .int .u8 0, .int .u8 0, .int .u8 0, .int .u8 0, .int .u8 0, .int .u8 0, .int .u8 0, .int .u8 0, .int .u8 0, .int .u8 0, .int .u8 0, .int .u8 0, .int .u8 0, .int .u8 0, .int .u8 0, .int .u8 0, .int .u8 0, .int .u8 0, .int .u8 0, .int .u8 0, .int .u8 0, .int .u8 0, .int .u8 0, .int .u8 0, .int .u8 0, .int .u8 0] _ rfl)
  have HF := Lib.hid ((Fr.refl (· = g) w).alloc (.cells #[.int .i64 0, .int .i64 0, .int .u8 0, .int .u8 0, .int .u8 0, .int .u8 0, .int .u8 0, .int .u8 0, .int .u8 0, .int .u8 0, .int .u8 0, .int .u8 0, .int .u8 0, .int .u8 0, .int .u8 0, .int .u8 0, .int .u8 0, .int .u8 0, .int .u8 0, .int .u8 0, .int .u8 0, .int .u8 0, .int .u8 0, .int .u8 0, .int .u8 0, .int .u8 0, .int .u8 0, .int .u8 0, .int .u8 0, .int .u8 0, .int .u8 0, .int .u8 0, .int .u8 0, .int .u8 0] 49))
  clear h
  go_enter Try.func48, Try.ntmps48
  go_wp2_with fail
  refine (num_ref_get H g _ _ 4 _ HR.out).mono ?_
  rintro e w1 ⟨rfl, hr, hf⟩
  rw [clip4'] at hr ⊢
  have HB0 := Lib.hid (HB0.out.fr hf (by omega))
  have HF := Lib.hid (HF.out.then_ hf (fun i hi e => e))
  have HR := Lib.hid hr
  obtain ⟨x, hx⟩ : ∃ x, x = numOf (Field.got xs bad 4) := ⟨_, rfl⟩
  rw [← hx]
  have HXX := Lib.hid hx
  have hs0 : w.heap.size < w1.heap.size := by have := hf.size; simp at this; omega
  clear hr hf hx
  rename_i w0
  go_wp2_with fail
  refine (num_ref_get H g _ _ 4 _ HR.out).mono ?_
  rintro e w3 ⟨rfl, hr, hf⟩
  rw [clip4'] at hr ⊢
  have hs3 : w.heap.size < w3.heap.size := by have := hf.size; omega
  obtain ⟨y, hy⟩ : ∃ y, y = (rdNum 4 (rdNum 4 (xs, bad)).2).1 := ⟨_, rfl⟩
  have hy' : numOf (Field.got (Field.rest xs bad 4) (!takeOk xs bad 4) 4) = y := hy.symm
  rw [hy']
  have HYY := Lib.hid hy
  have HB0 := Lib.hid (HB0.out.fr hf (by omega))
  have HF := Lib.hid (HF.out.then_ hf (fun i hi e => e))
  have HR0 := Lib.hid hr
  clear hr hf hy hy' HR
  clear hs0
  obtain ⟨w1, rfl⟩ : ∃ q, q = w3 := ⟨_, rfl⟩
  have hs1 : w.heap.size ≤ w1.heap.size := by omega
  have hlt1 : w.heap.size < w1.heap.size := hs3
  have hg1 : g < w1.heap.size := by omega
  have hst1 := (Blk.new w1 49 #[.int .i64 0, .int .i64 0, .int .u8 0, .int .u8 0, .int .u8 0, .int .u8 0, .int .u8 0, .int .u8 0, .int .u8 0, .int .u8 0, .int .u8 0, .int .u8 0, .int .u8 0, .int .u8 0, .int .u8 0, .int .u8 0, .int .u8 0, .int .u8 0, .int .u8 0, .int .u8 0, .int .u8 0, .int .u8 0, .int .u8 0, .int .u8 0, .int .u8 0, .int .u8 0, .int .u8 0, .int .u8 0, .int .u8 0, .int .u8 0, .int .u8 0, .int .u8 0, .int .u8 0, .int .u8 0] _ rfl).store 49 #[.int .i64 x, .int .i64 y, .int .u8 0, .int .u8 0, .int .u8 0, .int .u8 0, .int .u8 0, .int .u8 0, .int .u8 0, .int .u8 0, .int .u8 0, .int .u8 0, .int .u8 0, .int .u8 0, .int .u8 0, .int .u8 0, .int .u8 0, .int .u8 0, .int .u8 0, .int .u8 0, .int .u8 0, .int .u8 0, .int .u8 0, .int .u8 0, .int .u8 0, .int .u8 0, .int .u8 0, .int .u8 0, .int .u8 0, .int .u8 0, .int .u8 0, .int .u8 0, .int .u8 0, .int .u8 0] info55 rfl (one_img x y)
  have HR := Lib.hid ((HR0.out.below (below_alloc1 w1 (.cells #[.int .i64 0, .int .i64 0, .int .u8 0, .int .u8 0, .int .u8 0, .int .u8 0, .int .u8 0, .int .u8 0, .int .u8 0, .int .u8 0, .int .u8 0, .int .u8 0, .int .u8 0, .int .u8 0, .int .u8 0, .int .u8 0, .int .u8 0, .int .u8 0, .int .u8 0, .int .u8 0, .int .u8 0, .int .u8 0, .int .u8 0, .int .u8 0, .int .u8 0, .int .u8 0, .int .u8 0, .int .u8 0, .int .u8 0, .int .u8 0, .int .u8 0, .int .u8 0, .int .u8 0, .int .u8 0] 49))).row hg1 #[.int .i64 x, .int .i64 y, .int .u8 0, .int .u8 0, .int .u8 0, .int .u8 0, .int .u8 0, .int .u8 0, .int .u8 0, .int .u8 0, .int .u8 0, .int .u8 0, .int .u8 0, .int .u8 0, .int .u8 0, .int .u8 0, .int .u8 0, .int .u8 0, .int .u8 0, .int .u8 0, .int .u8 0, .int .u8 0, .int .u8 0, .int .u8 0, .int .u8 0, .int .u8 0, .int .u8 0, .int .u8 0, .int .u8 0, .int .u8 0, .int .u8 0, .int .u8 0, .int .u8 0, .int .u8 0])
  have HP1 := Lib.hid ((Blk.new w1 49 #[.int .i64 0, .int .i64 0, .int .u8 0, .int .u8 0, .int .u8 0, .int .u8 0, .int .u8 0, .int .u8 0, .int .u8 0, .int .u8 0, .int .u8 0, .int .u8 0, .int .u8 0, .int .u8 0, .int .u8 0, .int .u8 0, .int .u8 0, .int .u8 0, .int .u8 0, .int .u8 0, .int .u8 0, .int .u8 0, .int .u8 0, .int .u8 0, .int .u8 0, .int .u8 0, .int .u8 0, .int .u8 0, .int .u8 0, .int .u8 0, .int .u8 0, .int .u8 0, .int .u8 0, .int .u8 0] _ rfl).set #[.int .i64 x, .int .i64 y, .int .u8 0, .int .u8 0, .int .u8 0, .int .u8 0, .int .u8 0, .int .u8 0, .int .u8 0, .int .u8 0, .int .u8 0, .int .u8 0, .int .u8 0, .int .u8 0, .int .u8 0, .int .u8 0, .int .u8 0, .int .u8 0, .int .u8 0, .int .u8 0, .int .u8 0, .int .u8 0, .int .u8 0, .int .u8 0, .int .u8 0, .int .u8 0, .int .u8 0, .int .u8 0, .int .u8 0, .int .u8 0, .int .u8 0, .int .u8 0, .int .u8 0, .int .u8 0])
  have HB0 := Lib.hid ((HB0.out.alloc (.cells #[.int .i64 0, .int .i64 0, .int .u8 0, .int .u8 0, .int .u8 0, .int .u8 0, .int .u8 0, .int .u8 0, .int .u8 0, .int .u8 0, .int .u8 0, .int .u8 0, .int .u8 0, .int .u8 0, .int .u8 0, .int .u8 0, .int .u8 0, .int .u8 0, .int .u8 0, .int .u8 0, .int .u8 0, .int .u8 0, .int .u8 0, .int .u8 0, .int .u8 0, .int .u8 0, .int .u8 0, .int .u8 0, .int .u8 0, .int .u8 0, .int .u8 0, .int .u8 0, .int .u8 0, .int .u8 0] 49)).set_other (g' := w1.heap.size) #[.int .i64 x, .int .i64 y, .int .u8 0, .int .u8 0, .int .u8 0, .int .u8 0, .int .u8 0, .int .u8 0, .int .u8 0, .int .u8 0, .int .u8 0, .int .u8 0, .int .u8 0, .int .u8 0, .int .u8 0, .int .u8 0, .int .u8 0, .int .u8 0, .int .u8 0, .int .u8 0, .int .u8 0, .int .u8 0, .int .u8 0, .int .u8 0, .int .u8 0, .int .u8 0, .int .u8 0, .int .u8 0, .int .u8 0, .int .u8 0, .int .u8 0, .int .u8 0, .int .u8 0, .int .u8 0] (by omega))
  have HF := Lib.hid ((HF.out.alloc (.cells #[.int .i64 0, .int .i64 0, .int .u8 0, .int .u8 0, .int .u8 0, .int .u8 0, .int .u8 0, .int .u8 0, .int .u8 0, .int .u8 0, .int .u8 0, .int .u8 0, .int .u8 0, .int .u8 0, .int .u8 0, .int .u8 0, .int .u8 0, .int .u8 0, .int .u8 0, .int .u8 0, .int .u8 0, .int .u8 0, .int .u8 0, .int .u8 0, .int .u8 0, .int .u8 0, .int .u8 0, .int .u8 0, .int .u8 0, .int .u8 0, .int .u8 0, .int .u8 0, .int .u8 0, .int .u8 0] 49)).row hs1 #[.int .i64 x, .int .i64 y, .int .u8 0, .int .u8 0, .int .u8 0, .int .u8 0, .int .u8 0, .int .u8 0, .int .u8 0, .int .u8 0, .int .u8 0, .int .u8 0, .int .u8 0, .int .u8 0, .int .u8 0, .int .u8 0, .int .u8 0, .int .u8 0, .int .u8 0, .int .u8 0, .int .u8 0, .int .u8 0, .int .u8 0, .int .u8 0, .int .u8 0, .int .u8 0, .int .u8 0, .int .u8 0, .int .u8 0, .int .u8 0, .int .u8 0, .int .u8 0, .int .u8 0, .int .u8 0])
  clear HR0
  go_wp2_with fail
  generalize (w1.alloc (.cells #[.int .i64 0, .int .i64 0, .int .u8 0, .int .u8 0, .int .u8 0, .int .u8 0, .int .u8 0, .int .u8 0, .int .u8 0, .int .u8 0, .int .u8 0, .int .u8 0, .int .u8 0, .int .u8 0, .int .u8 0, .int .u8 0, .int .u8 0, .int .u8 0, .int .u8 0, .int .u8 0, .int .u8 0, .int .u8 0, .int .u8 0, .int .u8 0, .int .u8 0, .int .u8 0, .int .u8 0, .int .u8 0, .int .u8 0, .int .u8 0, .int .u8 0, .int .u8 0, .int .u8 0, .int .u8 0] 49)).setRow w1.heap.size #[.int .i64 x, .int .i64 y, .int .u8 0, .int .u8 0, .int .u8 0, .int .u8 0, .int .u8 0, .int .u8 0, .int .u8 0, .int .u8 0, .int .u8 0, .int .u8 0, .int .u8 0, .int .u8 0, .int .u8 0, .int .u8 0, .int .u8 0, .int .u8 0, .int .u8 0, .int .u8 0, .int .u8 0, .int .u8 0, .int .u8 0, .int .u8 0, .int .u8 0, .int .u8 0, .int .u8 0, .int .u8 0, .int .u8 0, .int .u8 0, .int .u8 0, .int .u8 0, .int .u8 0, .int .u8 0] = w4 at HR HP1 HB0 HF ⊢
  clear hst1
  have hq1 := HP1.out
  rw [lit_img] at hq1
  have HB1 := Lib.hid hq1
  clear hq1 HP1
  refine wp_region_noPanic ?_
  refine wp_region_held_drew (S := fun _ => True) (by kernel_rfl) (trivial) (fun hHeld => ?_)
  have HRd := Lib.hid (HR.out.below (Below.refl _ _).drew)
  have HBd := Lib.hid HB1.out.drew
  have HCd := Lib.hid HB0.out.drew
  have HFd := Lib.hid HF.out.drew
  refine wpAnyH_take (i := 0) (v := ?v0) rfl (by kernel_rfl) (by kernel_rfl) (by kernel_rfl) (fun _ _ _ h => h) (Or.inl ⟨by rfl, ?y0⟩) (by assumption) ?n0
  case y0 => (intro W hSw; go_simp; try with_reducible rfl)
  try simp only [Act.put, List.getElem_toArray, List.getElem_cons_succ, List.getElem_cons_zero, List.setIfInBounds_toArray, List.set_cons_zero, List.set_cons_succ]
  refine wpAnyH_take (i := 1) (v := ?v1) rfl (by kernel_rfl) (by kernel_rfl) (by kernel_rfl) (fun _ _ _ h => h) (Or.inl ⟨by rfl, ?y1⟩) (by assumption) ?n1
  case y1 => (intro W hSw; go_simp; try with_reducible rfl)
  try simp only [Act.put, List.getElem_toArray, List.getElem_cons_succ, List.getElem_cons_zero, List.setIfInBounds_toArray, List.set_cons_zero, List.set_cons_succ]
  refine wpAnyH_take (i := 2) (v := ?v2) rfl (by kernel_rfl) (by kernel_rfl) (by kernel_rfl) (fun _ _ _ h => h) (Or.inl ⟨by rfl, ?y2⟩) (by assumption) ?n2
  case y2 => (intro W hSw; go_simp; try with_reducible rfl)
  try simp only [Act.put, List.getElem_toArray, List.getElem_cons_succ, List.getElem_cons_zero, List.setIfInBounds_toArray, List.set_cons_zero, List.set_cons_succ]
  refine wpAnyH_ready (rs := [3]) (by kernel_rfl) (by simp) ?_
  refine AllReadyH.cons rfl (fun KK hK => ?_) AllReadyH.nil
  rw [if_pos (by rfl)]
  go_simp
  refine (raw_ref_get H g _ _ 32 _ HRd.out).mono ?_
  rintro e w5 ⟨vr, rfl, hown, hr, hf⟩
  rw [clip32'] at hown hr
  have hne1 : w1.heap.size ≠ g := by omega
  have hne0 : w.heap.size ≠ g := by omega
  have HR := Lib.hid hr
  have HB1 := Lib.hid (HBd.out.fr hf hne1)
  have HB0 := Lib.hid (HCd.out.fr hf hne0)
  have HF := Lib.hid (HFd.out.then_ hf (fun i hi e => e))
  obtain ⟨A, cr, rfl, hrd⟩ := own_reads hown
  have HRD := Lib.hid hrd
  have hgl := got_length_le (rdNum 4 (rdNum 4 (xs, bad)).2).2.1 (rdNum 4 (rdNum 4 (xs, bad)).2).2.2 32
  clear hown hr hf hrd
  try dsimp only
  refine hK.out _ _ (trivial) (fun hHeld => ?_)
  clear hK KK
  try simp only [Act.put, List.getElem_toArray, List.getElem_cons_succ, List.getElem_cons_zero, List.setIfInBounds_toArray, List.set_cons_zero, List.set_cons_succ]
  refine wpAnyH_ready (rs := [4]) (by kernel_rfl) (by simp) ?_
  refine AllReadyH.cons rfl (fun KK hK => ?_) AllReadyH.nil
  refine step_copy_splice rfl (.tmp 10) (.tmp 12) 23 23 rfl 5 Try.underlying23 (by kernel_rfl) (some ⟨w1.heap.size, 2, none⟩) A 32 32 _ cr (by rfl) (by rfl) w1.heap.size 2 (Value.int .i64 x :: Value.int .i64 y :: nums .u8 (List.replicate 32 0)) 49 HB1.out.heap (nums .u8 (Field.got (rdNum 4 (rdNum 4 (xs, bad)).2).2.1 (rdNum 4 (rdNum 4 (xs, bad)).2).2.2 32)) (by rw [nums_length]; exact (Nat.min_eq_left hgl).symm) (fun hp => ⟨rfl, src_of HRD.out (by rw [nums_length] at hp; exact hp)⟩) (by rw [nums_length]; simp [nums_length]; omega) (nums_one _) w1.heap.size w5 (Below.refl _ _) (Nat.le_refl _) ?_
  intro w6 hh hb6
  have hi6 : Blk w6 49 w1.heap.size (Img.mk x y (rawL (Field.got (rdNum 4 (rdNum 4 (xs, bad)).2).2.1 (rdNum 4 (rdNum 4 (xs, bad)).2).2.2 32) 32)).enc.toArray := ⟨by rw [← spliced x y _ hgl]; exact hh.out⟩
  have HI6 := Lib.hid hi6
  have HR := Lib.hid (HR.out.high hb6 hg1)
  have HB0 := Lib.hid (show Blk w6 49 w.heap.size _ from ⟨(hb6.block w.heap.size (by omega)).trans HB0.out.heap⟩)
  have HF := Lib.hid (HF.out.high hb6 hs1)
  clear hh hb6 hi6
  try dsimp only
  refine hK.out _ _ (trivial) (fun hHeld => ?_)
  clear hK KK
  try simp only [Act.put, List.getElem_toArray, List.getElem_cons_succ, List.getElem_cons_zero, List.setIfInBounds_toArray, List.set_cons_zero, List.set_cons_succ]
  refine wpAnyH_done (by kernel_rfl) ?_ _
  refine NoPanic.normal ?_
  obtain ⟨I, hI⟩ : ∃ I, I = (Img.mk x y (rawL (Field.got (rdNum 4 (rdNum 4 (xs, bad)).2).2.1 (rdNum 4 (rdNum 4 (xs, bad)).2).2.2 32) 32)) := ⟨_, rfl⟩
  rw [← hI] at HI6
  have hok : I.enc.toArray.size = 34 := by rw [hI]; simp [Img.enc, nums_length, rawL_length]
  have hone : I.enc.toArray.toList.all (·.oneCell') = true := img_one I
  have le34 : 0 + 34 ≤ I.enc.toArray.size := by omega
  have e34 : I.enc.toArray.extract 0 34 = I.enc.toArray := by rw [← hok]; exact Array.extract_size
  have hst := HB0.out.store 49 I.enc.toArray (by rw [hok]; exact info55) (by rw [hok]; rfl) hone
  have hrow := HI6.out.row
  have HFIN := Lib.hid (HF.out.row (Nat.le_refl _) I.enc.toArray)
  have HRF := Lib.hid (HR.out.row hg0 I.enc.toArray)
  have HBF := Lib.hid (HB0.out.set I.enc.toArray)
  have HIE := Lib.hid (show I = (rdImg (xs, bad)).1 by rw [hI, HXX.out, HYY.out]; rfl)
  have HOK := Lib.hid hok
  obtain ⟨J, hJ⟩ : ∃ J, J = I.enc.toArray := ⟨_, rfl⟩
  rw [← hJ] at hst hrow HFIN HRF HBF le34 e34 HOK
  have HJ := Lib.hid hJ
  clear hI hok hone hHeld hJ
  go_wp2_with fail
  exact bodyPost_ret (v := .agg J) (results_single Try.results48 (.cell w.heap.size 49 J (0, 0) _ rfl HBF.out.heap Try.underlying49 rfl (by rw [HOK.out]; exact info55) .nil)) rfl ⟨by rw [← HIE.out, HJ.out], HRF.out, HFIN.out⟩
end Go.Proofs.Ytehlcljachkgdaa.Boot
