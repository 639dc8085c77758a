/- Walk: the program's writer of bytes, Raw. -/
import Derived.Test.YtehlcljachkgdaaFieldPut
namespace Go.Proofs.Ytehlcljachkgdaa.Field
open Go.RowKit Go.Proofs.YtehlcljachkgdaaW.PrintWords Go.Proofs.YtehlcljachkgdaaW.PrintLast Go.Proofs.Ytehlcljachkgdaa.Kit

theorem made_nums (k : Nat) : madeCells #[Value.int .u8 0] k = (nums .u8 (List.replicate k 0)).toArray := by
  apply Array.ext'
  apply List.ext_getElem
  · simp [nums, madeCells]
  · intro i h1 h2
    simp [nums, madeCells, Nat.mod_one]
theorem copy_pos {W : World} {A : Option Addr} {m k : Nat} {ys : List Int} (hr : ReadsInt W .u8 A m ys) (D : Option Addr) (g off : Nat) (hD : D = some ⟨g, off, none⟩) :
    0 < (nums .u8 (ys.take k)).length → D = some ⟨g, off, none⟩ ∧ ∃ ad, A = some ad ∧ ∀ j v, (nums .u8 (ys.take k))[j]? = some v → W.cell? (ad.add j) = some v := by
  intro hp
  rw [nums_length, List.length_take, hr.1] at hp
  obtain ⟨ad, e, hc⟩ := hr.2.2 (by omega)
  refine ⟨hD, ad, e, fun j v hv => ?_⟩
  have hj : j < (ys.take k).length := by
    have := (List.getElem?_eq_some_iff.1 hv).1
    rwa [nums_length] at this
  have hjk : j < m := by rw [List.length_take, hr.1] at hj; omega
  rw [hc j hjk, ← hv]
  have hj2 : j < ys.length := by have := hr.1; omega
  have hj3 : j < k := by rw [List.length_take] at hj; omega
  simp [nums, List.getD_eq_getElem?_getD, hj2, hj3]
theorem raw_reads {W : World} {b m k : Nat} {ys : List Int} (h : Hid (W.heap[b]? = some (.cells (splice (nums .u8 (List.replicate k 0)) 0 (nums .u8 (ys.take k))).toArray 5 (0, 0)))) (hm : ys.length = m) (hk : k ≤ 1000000) :
    ReadsInt W .u8 (some ⟨b, 0, none⟩) k (rawL ys k) := by
  have e : splice (nums .u8 (List.replicate k 0)) 0 (nums .u8 (ys.take k)) = nums .u8 (rawL ys k) := by
    rw [rawL_eq]
    unfold splice
    simp only [nums, List.take_zero, List.nil_append, Nat.zero_add, List.map_append, List.length_map, List.length_take, List.map_replicate, List.drop_replicate]
    congr 2
    omega
  rw [e] at h
  refine ⟨rawL_length _ _, by omega, fun _ => ⟨_, rfl, fun j hj => ?_⟩⟩
  rw [add_plain, cell_of_row W b j _ _ _ h.out]
  have hl := rawL_length ys k
  simp [nums, List.getD_eq_getElem?_getD, hl, hj]
set_option maxHeartbeats 1000000 in
set_option maxRecDepth 100000 in
theorem raw_put (B g : Nat) (v : Value) (xs : List Int) (A : Option Addr) (m c : Nat) (ys : List Int) (size : Int) (w : World) (h : Wr w 65 B g v xs) (hx : xs.length ≤ 100000) (hB : B ≤ w.heap.size) (hr : ReadsInt w .u8 A m ys) :
    Calls Try.prog 30 #[.pointer (some ⟨g, 0, none⟩), .slice A m c, .int .i64 size] w fun e w' => e = .returned (.tuple #[]) ∧ ∃ v', Wr w' 65 B g v' (xs ++ rawL ys (clip size 1000)) ∧ rowNext w v v' ∧ Fr (wF g v) w w' := by
  have hkm := clip_mm size 1000 (by omega)
  have hk8 := clip_le size 1000 (by omega)
  obtain ⟨k, hk⟩ : ∃ k, k = clip size 1000 := ⟨_, rfl⟩
  rw [← hk] at hk8 hkm
  have HK := Lib.hid hk
  clear hk
  have hmk := print_make (P := Try.prog) 23 5 .u8 1 Try.underlying23 info5 (by decide) k (by omega)
  have hym := hr.1
  have HYM := Lib.hid hym
  have hcs : ((nums .u8 (ys.take k))).length = Nat.min m k := by rw [nums_length, List.length_take, hym]; show min k m = min m k; omega
  have HCS := Lib.hid hcs
  have hz : (w.alloc (.cells (madeCells #[.int .u8 0] k) 5)).heap[w.heap.size]? = some (.cells (nums .u8 (List.replicate k 0)).toArray 5 (0, 0)) := by
    rw [heap_alloc_new, made_nums]
  have hpos := copy_pos (k := k) (hr.below ((Below.refl _ _).alloc (Nat.le_refl _) (.cells (madeCells #[.int .u8 0] k) 5))) (some ⟨w.heap.size, 0, none⟩) w.heap.size 0 rfl
  have HAT : Hid (At w 65 g v) := Lib.hid h.cell
  have HNE := Lib.hid (h.ne (by decide))
  have HW := Lib.hid h
  have HOWN := Lib.hid h
  clear h
  have HZ := Lib.hid hz
  have HPOS := Lib.hid hpos
  clear hym hcs hr hz hpos
  go_enter Try.func30, Try.ntmps30
  go_wp2_with (first
    | (refine wpList_copy_splice (o := ⟨some 13, _, _, _, _, _⟩) rfl (.tmp 11) (.tmp 12) 23 23 rfl 5 Try.underlying23 (by rfl) (some ⟨w.heap.size, 0, none⟩) A k k m c rfl rfl w.heap.size 0 (nums .u8 (List.replicate k 0)) 5 HZ.out (nums .u8 (ys.take k)) HCS.out HPOS.out (by simp [nums_length, HYM.out]; omega) (by intro u hu; simp only [nums, List.mem_map] at hu; obtain ⟨q, _, rfl⟩ := hu; rfl) w.heap.size w ((Below.refl _ _).alloc (Nat.le_refl _) _) (Nat.le_refl _) ?_
       intro w2 hrow hb2
       have hc2 := At.cell (HAT.out.below hb2)
       have hf2 := At.free (HAT.out.below hb2)
       have HB2 := Lib.hid hb2
       clear hb2)
    | (at_builtin
       go_loud (refine wpList_append_F B rfl (.tmp 18) (.tmp 19) 23 5 rfl Try.underlying23 info5 _ xs (rawL ys k) (some ⟨w.heap.size, 0, none⟩) k k rfl rfl (HOWN.out.own_below HB2.out) (raw_reads hrow HYM.out (by omega)) (by have := HB2.out.size; omega) (by omega) ?_)
       intro A3 n3 c3 w3 own3 hg3 hn3
       have hc3 := At.cell (At.grown hg3 (HAT.out.below HB2.out) HNE.out)
       have hf3 := At.free (At.grown hg3 (HAT.out.below HB2.out) HNE.out)
       have HO3 := Lib.hid own3
       have HG3 := Lib.hid hg3
       have HN3 := Lib.hid hn3
       clear own3 hg3 hn3)
    | fail)
  go_end0
  obtain ⟨hw4, hf4⟩ := HW.out.push HB2.out HO3.out HG3.out (by decide)
  exact ⟨rfl, _, by rw [← HK.out]; exact hw4, rowNext.trans (.refl _ _) HN3.out HB2.out.size, hf4⟩
end Go.Proofs.Ytehlcljachkgdaa.Field
