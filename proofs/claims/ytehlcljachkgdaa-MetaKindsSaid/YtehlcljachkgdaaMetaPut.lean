/- Walks: what is kept, written: meta.put, meta.Bytes, and the reference's. -/
import Derived.Test.YtehlcljachkgdaaFieldRaw
import Derived.Test.YtehlcljachkgdaaFieldRef
import Derived.Test.YtehlcljachkgdaaMetaLaw
namespace Go.Proofs.Ytehlcljachkgdaa.Field
open Go.RowKit Go.Proofs.YtehlcljachkgdaaW.PrintWords Go.Proofs.YtehlcljachkgdaaW.PrintLast Go.Proofs.Ytehlcljachkgdaa.Kit
set_option maxHeartbeats 1000000 in
theorem raw_ref2 (B g : Nat) (v : Value) (xs : List Int) (A : Option Addr) (m c : Nat) (ys : List Int) (size : Int) (w : World) (h : Wr w 79 B g v xs) (hx : xs.length ≤ 100000) (hB : B ≤ w.heap.size) (hr : ReadsInt w .u8 A m ys) (hA : ∀ ad, A = some ad → ¬ wF g v ad.block) :
    Calls Try.prog 63 #[.pointer (some ⟨g, 0, none⟩), .slice A m c, .int .i64 size] w fun e w' => e = .returned (.tuple #[]) ∧ ∃ v', Wr w' 79 B g v' (xs ++ rawL ys (clip size 1000)) ∧ rowNext w v v' ∧ Fr (wF g v) w w' := by
  have hk8 := clip_le size 1000 (by omega)
  obtain ⟨k, hk⟩ : ∃ k, k = clip size 1000 := ⟨_, rfl⟩
  rw [← hk] at hk8
  have HK := Lib.hid hk
  clear hk
  have hapart : ∀ W : World, Fr (wF g v) w W → ReadsInt W .u8 A m ys := fun W hf => by
    exact hf.reads hr fun hm ad e => hA ad e
  have HAP := Lib.hid hapart
  clear hapart
  go_enter Try.func63, Try.ntmps63
  go_wp2_with fail
  go_loopw [6] (fun i wr => ∃ (t : Nat) (v1 : Value), t ≤ k ∧ i = .int .i64 t ∧ Wr wr 79 B g v1 (xs ++ rawL ys t) ∧ rowNext w v v1 ∧ Fr (wF g v) w wr) (fun i _ => k - (intOf i).toNat)
  case atStart => exact ⟨0, v, Nat.zero_le _, rfl, by simpa [rawL] using h, .refl _ _, .refl _ _⟩
  case round =>
    obtain ⟨t, v1, ht, rfl, hw, hn, hf⟩ := hrel
    have hry := HAP.out wr hf
    by_cases hlt : t < k
    · have hsn := rawL_succ ys t
      have htl := rawL_length ys t
      have HTL := Lib.hid htl
      have hc0 := hw.cell0
      have HS := Lib.hid hsn
      have HW := Lib.hid hw
      have HAT : Hid (At wr 79 g v1) := Lib.hid HW.out.cell
      have HNE := Lib.hid (HW.out.ne (by decide))
      clear hsn hw htl
      by_cases htm : t < m
      · obtain ⟨ad, rfl, hcy⟩ := reads_cell hry htm
        generalize hrd : rd ys (t : Int) = b at *
        clear hrd hry
        go_wp2_with (first
          | (go_at_call 57; refine (cut size 1000 _ (by omega)).mono ?_; rintro e w' ⟨rfl, rfl⟩; rw [← HK.out])
          | (at_builtin
             go_loud (refine wpList_append_F B rfl (.tmp 26) (.tmp 28) 23 5 rfl Try.underlying23 info5 _ (xs ++ rawL ys t) [b] (some ⟨_, 0, none⟩) 1 1 rfl rfl (HW.out.own.alloc _) (reads_mark _ 5 (0, 0) [b] (by simp)) (by simp; have := hf.size; omega) (by have := HTL.out; simp; omega) ?_)
             intro A2 n2 c2 w2 own2 hg2 hn2
             have hc2 := At.cell (At.grown hg2 (At.alloc HAT.out _) HNE.out)
             have hf2 := At.free (At.grown hg2 (At.alloc HAT.out _) HNE.out)
             have HO2 := Lib.hid own2
             have HG2 := Lib.hid hg2
             have HN2 := Lib.hid hn2
             clear own2 hg2 hn2)
          | fail)
        obtain ⟨hw3, hf3⟩ := HW.out.push ((Below.refl _ _).alloc (Nat.le_refl _) _) HO2.out HG2.out (by decide)
        have HW3 := Lib.hid hw3
        have HF3 := Lib.hid hf3
        clear hw3 hf3 hc2 hf2 hc0
        go_roundw
        case rel => exact ⟨t + 1, _, by omega, by go_num, by rw [HS.out, ← List.append_assoc]; exact HW3.out, hn.trans HN2.out (by simp; have := hf.size; omega), hn.frame hf HF3.out⟩
        case measure => simp [intOf]; omega
      · have hz : rd ys (t : Int) = 0 := rd_ge (by have := hry.1; omega)
        rw [hz] at HS
        clear hz hry
        go_wp2_with (first
          | (go_at_call 57; refine (cut size 1000 _ (by omega)).mono ?_; rintro e w' ⟨rfl, rfl⟩; rw [← HK.out])
          | (at_builtin
             go_loud (refine wpList_append_F B rfl (.tmp 26) (.tmp 28) 23 5 rfl Try.underlying23 info5 _ (xs ++ rawL ys t) [0] (some ⟨_, 0, none⟩) 1 1 rfl rfl (HW.out.own.alloc _) (reads_mark _ 5 (0, 0) [0] (by simp)) (by simp; have := hf.size; omega) (by have := HTL.out; simp; omega) ?_)
             intro A2 n2 c2 w2 own2 hg2 hn2
             have hc2 := At.cell (At.grown hg2 (At.alloc HAT.out _) HNE.out)
             have hf2 := At.free (At.grown hg2 (At.alloc HAT.out _) HNE.out)
             have HO2 := Lib.hid own2
             have HG2 := Lib.hid hg2
             have HN2 := Lib.hid hn2
             clear own2 hg2 hn2)
          | fail)
        obtain ⟨hw3, hf3⟩ := HW.out.push ((Below.refl _ _).alloc (Nat.le_refl _) _) HO2.out HG2.out (by decide)
        have HW3 := Lib.hid hw3
        have HF3 := Lib.hid hf3
        clear hw3 hf3 hc2 hf2 hc0
        go_roundw
        case rel => exact ⟨t + 1, _, by omega, by go_num, by rw [HS.out, ← List.append_assoc]; exact HW3.out, hn.trans HN2.out (by simp; have := hf.size; omega), hn.frame hf HF3.out⟩
        case measure => simp [intOf]; omega
    · obtain rfl : k = t := by omega
      go_wp2_with (go_at_call 57; refine (cut size 1000 _ (by omega)).mono ?_; rintro e w' ⟨rfl, rfl⟩; rw [← HK.out])
      go_end0
      exact ⟨rfl, v1, by rw [← HK.out]; exact hw, hn, hf⟩
end Go.Proofs.Ytehlcljachkgdaa.Field
namespace Go.Proofs.Ytehlcljachkgdaa.Boot
open Go.RowKit Go.Proofs.YtehlcljachkgdaaW.PrintWords Go.Proofs.YtehlcljachkgdaaW.PrintLast Go.Proofs.Ytehlcljachkgdaa.Kit Go.Proofs.Ytehlcljachkgdaa.Field
attribute [local go_sem ↓] ldI ldM
attribute [local go_sem] ldI_run ldM_run
set_option linter.unusedSimpArgs false
set_option linter.unusedVariables false

theorem clip1 : clip 1 8 = 1 := by decide
theorem clip4 : clip 4 8 = 4 := by decide
theorem clip32 : clip 32 1000 = 32 := by decide
/-- an image, and what is kept, as bytes -/
def imgL (i : Img) : List Int := numL i.v 4 ++ numL i.s 4 ++ rawL i.d 32
def metL (m : Met) : List Int := numL m.a 1 ++ imgL m.i0 ++ imgL m.i1 ++ numL m.mn 4 ++ numL m.ph 1 ++ imgL m.co ++ numL m.got 1 ++ numL m.tr 1
theorem imgL_length (i : Img) : (imgL i).length = 40 := by simp [imgL, numL_length, rawL_length]
theorem metL_length (m : Met) : (metL m).length = 128 := by simp [metL, imgL_length, numL_length]
def bytesM (m : Met) : List Int := if m.right then metL m else []

/-- block b holds these cells -/
structure Bx (W : World) (t : TypeId) (b : Nat) (cs : Array Value) : Prop where
  heap : W.heap[b]? = some (.cells cs t (0, 0))
theorem Bx.cell {W : World} {t : TypeId} {b : Nat} {cs : Array Value} (h : Bx W t b cs) (i : Nat) : W.cell? ⟨b, i, none⟩ = cs[i]? := cell_of_row W b i cs t (0, 0) h.heap
theorem Bx.row {W : World} {t : TypeId} {b : Nat} {cs : Array Value} (h : Bx W t b cs) : Kit.rowAt W b = cs := Kit.rowAt_of h.heap
theorem Bx.lt {W : World} {t : TypeId} {b : Nat} {cs : Array Value} (h : Bx W t b cs) : b < W.heap.size := (Array.getElem?_eq_some_iff.1 h.heap).1
theorem Bx.below {W W' : World} {t : TypeId} {b : Nat} {cs : Array Value} (h : Bx W t b cs) (k : Below W.heap.size W W') : Bx W' t b cs := ⟨(k.block b h.lt).trans h.heap⟩
theorem Bx.new (w : World) (cs : Array Value) (t : TypeId) : Bx (w.alloc (.cells cs t)) t w.heap.size cs := ⟨heap_alloc_new w _⟩
/-- a writer, on its way, beside a box -/
structure Put (w W : World) (T : TypeId) (B g : Nat) (v0 v : Value) (xs : List Int) (t : TypeId) (b : Nat) (cs : Array Value) : Prop where
  wr : Wr W T B g v xs
  next : rowNext w v0 v
  fr : Fr (wF g v0) w W
  box : Bx W t b cs
  bg : b ≠ g
  bv : v.ownBlock ≠ some b
theorem Put.step {w W W' : World} {T : TypeId} {B g b : Nat} {v0 v v' : Value} {xs ys : List Int} {t : TypeId} {cs : Array Value} (h : Put w W T B g v0 v xs t b cs) (hw : Wr W' T B g v' ys) (hn : rowNext W v v') (hf : Fr (wF g v) W W') : Put w W' T B g v0 v' ys t b cs := by
  refine ⟨hw, h.next.trans hn h.fr.size, h.next.frame h.fr hf, ⟨(hf.block b h.box.lt ?_).trans h.box.heap⟩, h.bg, ?_⟩
  · rintro (e | e)
    · exact h.bg e
    · exact h.bv e
  · rcases hn with e | ⟨b', e, hb⟩
    · rw [e]; exact h.bv
    · rw [e]; intro e2; injection e2 with e2; have := h.box.lt; omega
/-- the digest lies in an image's box -/
theorem dig_reads {W : World} {t : TypeId} {b : Nat} {i : Img} (hi : i.Ok) (h : Bx W t b i.enc.toArray) : ReadsInt W .u8 (some ⟨b, 2, none⟩) 32 i.d := by
  refine ⟨hi.len, by omega, fun _ => ⟨_, rfl, fun j hj => ?_⟩⟩
  have hl : j < i.d.length := by rw [hi.len]; exact hj
  rw [show (⟨b, 2, none⟩ : Addr).add j = ⟨b, 2 + j, none⟩ by unfold Addr.add; split <;> simp_all, h.cell]
  simp only [Img.enc, List.getElem?_toArray]
  rw [show 2 + j = j + 1 + 1 by omega, List.getElem?_cons_succ, List.getElem?_cons_succ]
  simp [nums, hl, List.getD_eq_getElem?_getD]
theorem dig_ref_bx {W : World} {t : TypeId} {b : Nat} {cs : Array Value} {i : Img} (hi : i.Ok) (h : Bx W t b cs) (e : cs = i.enc.toArray) : ReadsInt W .u8 (some ⟨b, 2, none⟩) 32 i.d := dig_reads hi (e ▸ h)

set_option maxHeartbeats 4000000 in
theorem put_m (B g : Nat) (v : Value) (xs : List Int) (i : Img) (hi : i.Ok) (w : World) (h : Wr w 65 B g v xs) (hx : xs.length ≤ 1000) (hB : B ≤ w.heap.size) :
    Calls Try.prog 42 #[.pointer (some ⟨g, 0, none⟩), .agg i.enc.toArray] w fun e w' => e = .returned (.tuple #[]) ∧ ∃ v', Wr w' 65 B g v' (xs ++ imgL i) ∧ rowNext w v v' ∧ Fr (wF g v) w w' := by
  obtain ⟨cs, hcs⟩ : ∃ cs, cs = i.enc.toArray := ⟨_, rfl⟩
  have hlt := h.lt
  have hP : Put w (w.alloc (.cells cs 49)) 65 B g v v xs 49 w.heap.size cs :=
    ⟨h.below (below_alloc1 _ _), .refl _ _, (Fr.refl _ _).alloc _, Bx.new _ _ _, by omega, fun e => by have := (own_lt h.own _ e); omega⟩
  have hv0 : cs[0]? = some (.int .i64 i.v) := by rw [hcs]; simp [Img.enc]
  have hs0 : cs[1]? = some (.int .i64 i.s) := by rw [hcs]; simp [Img.enc]
  rw [← hcs]
  have HCS := Lib.hid hcs
  have HP := Lib.hid hP
  have HV := Lib.hid hv0
  have HS := Lib.hid hs0
  have c0 := (hP.box.cell 0).trans hv0
  clear hcs hP hv0 hs0 h
  go_enter Try.func42, Try.ntmps42
  go_wp2_with fail
  refine (num_put B g _ xs i.v 4 _ HP.out.wr (by omega) (Nat.le_trans hB HP.out.fr.size)).mono ?_
  rintro e w2 ⟨rfl, v2, hw, hn, hf⟩
  rw [clip4] at hw
  have HP := Lib.hid (HP.out.step hw hn hf)
  have c1 := (HP.out.box.cell 1).trans HS.out
  clear c0 hw hn hf
  go_wp2_with fail
  refine (num_put B g _ (xs ++ numL i.v 4) i.s 4 _ HP.out.wr (by simp [numL_length]; omega) (Nat.le_trans hB HP.out.fr.size)).mono ?_
  rintro e w3 ⟨rfl, v3, hw, hn, hf⟩
  rw [clip4] at hw
  have HP := Lib.hid (HP.out.step hw hn hf)
  have hd := dig_ref_bx hi HP.out.box HCS.out
  have HD := Lib.hid hd
  clear c1 hw hn hf hd
  go_wp2_with fail
  refine (raw_put B g _ (xs ++ numL i.v 4 ++ numL i.s 4) _ 32 _ i.d 32 _ HP.out.wr (by simp [numL_length]; omega) (Nat.le_trans hB HP.out.fr.size) HD.out).mono ?_
  rintro e w4 ⟨rfl, v4, hw, hn, hf⟩
  rw [clip32] at hw
  have HP := Lib.hid (HP.out.step hw hn hf)
  clear hw hn hf
  go_wp2_with fail
  go_end0
  exact ⟨rfl, v4, by rw [imgL, ← List.append_assoc, ← List.append_assoc]; exact HP.out.wr, HP.out.next, HP.out.fr⟩

set_option maxHeartbeats 4000000 in
theorem put_ref (B g : Nat) (v : Value) (xs : List Int) (i : Img) (hi : i.Ok) (w : World) (h : Wr w 79 B g v xs) (hx : xs.length ≤ 1000) (hB : B ≤ w.heap.size) :
    Calls Try.prog 52 #[.pointer (some ⟨g, 0, none⟩), .agg i.enc.toArray] w fun e w' => e = .returned (.tuple #[]) ∧ ∃ v', Wr w' 79 B g v' (xs ++ imgL i) ∧ rowNext w v v' ∧ Fr (wF g v) w w' := by
  obtain ⟨cs, hcs⟩ : ∃ cs, cs = i.enc.toArray := ⟨_, rfl⟩
  have hlt := h.lt
  have hP : Put w (w.alloc (.cells cs 49)) 79 B g v v xs 49 w.heap.size cs :=
    ⟨h.below (below_alloc1 _ _), .refl _ _, (Fr.refl _ _).alloc _, Bx.new _ _ _, by omega, fun e => by have := (own_lt h.own _ e); omega⟩
  have hv0 : cs[0]? = some (.int .i64 i.v) := by rw [hcs]; simp [Img.enc]
  have hs0 : cs[1]? = some (.int .i64 i.s) := by rw [hcs]; simp [Img.enc]
  rw [← hcs]
  have HCS := Lib.hid hcs
  have HP := Lib.hid hP
  have HV := Lib.hid hv0
  have HS := Lib.hid hs0
  have c0 := (hP.box.cell 0).trans hv0
  clear hcs hP hv0 hs0 h
  go_enter Try.func52, Try.ntmps52
  go_wp2_with fail
  refine (num_ref B g _ xs i.v 4 _ HP.out.wr (by omega) (Nat.le_trans hB HP.out.fr.size)).mono ?_
  rintro e w2 ⟨rfl, v2, hw, hn, hf⟩
  rw [clip4] at hw
  have HP := Lib.hid (HP.out.step hw hn hf)
  have c1 := (HP.out.box.cell 1).trans HS.out
  clear c0 hw hn hf
  go_wp2_with fail
  refine (num_ref B g _ (xs ++ numL i.v 4) i.s 4 _ HP.out.wr (by simp [numL_length]; omega) (Nat.le_trans hB HP.out.fr.size)).mono ?_
  rintro e w3 ⟨rfl, v3, hw, hn, hf⟩
  rw [clip4] at hw
  have HP := Lib.hid (HP.out.step hw hn hf)
  have hd := dig_ref_bx hi HP.out.box HCS.out
  have HD := Lib.hid hd
  clear c1 hw hn hf hd
  go_wp2_with fail
  refine (raw_ref2 B g _ (xs ++ numL i.v 4 ++ numL i.s 4) _ 32 _ i.d 32 _ HP.out.wr (by simp [numL_length]; omega) (Nat.le_trans hB HP.out.fr.size) HD.out (fun ad e hF => by injection e with e; subst e; rcases hF with hF | hF; exact HP.out.bg hF; exact HP.out.bv hF)).mono ?_
  rintro e w4 ⟨rfl, v4, hw, hn, hf⟩
  rw [clip32] at hw
  have HP := Lib.hid (HP.out.step hw hn hf)
  clear hw hn hf
  go_wp2_with fail
  go_end0
  exact ⟨rfl, v4, by rw [imgL, ← List.append_assoc, ← List.append_assoc]; exact HP.out.wr, HP.out.next, HP.out.fr⟩
end Go.Proofs.Ytehlcljachkgdaa.Boot
