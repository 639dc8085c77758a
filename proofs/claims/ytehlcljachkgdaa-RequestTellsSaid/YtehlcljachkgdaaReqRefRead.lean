/- Walks: the reference's ReadReq, ReadAnswer. -/
import Derived.Test.YtehlcljachkgdaaReqAns
import Derived.BigQuiet
namespace Go.Proofs.Ytehlcljachkgdaa.Req
open Go.RowKit Go.Proofs.YtehlcljachkgdaaW.PrintWords Go.Proofs.YtehlcljachkgdaaW.PrintLast Go.Proofs.Ytehlcljachkgdaa.Kit Go.Proofs.Ytehlcljachkgdaa.Field

theorem bytes_eq {xs ys : List Int} (hx : Small xs) (hy : Small ys) : (strOfNums xs).toList = (strOfNums ys).toList ↔ xs = ys := by
  rw [ByteArray.toList_eq, ByteArray.toList_eq, strOfNums_data, strOfNums_data]
  constructor
  · intro h
    apply List.ext_getElem
    · have := congrArg List.length h
      simpa using this
    · intro i h1 h2
      have h3 := congrArg (fun l => l[i]?) h
      simp [h1, h2] at h3
      have b1 := mem_small hx _ (List.getElem_mem h1)
      have b2 := mem_small hy _ (List.getElem_mem h2)
      have h4 := congrArg UInt8.toNat h3
      simp at h4
      omega
  · rintro rfl; rfl
theorem str_same {xs : List Int} : ((strOfNums xs).toList == (strOfNums xs).toList) = true := by simp
theorem str_differ {xs ys : List Int} (hx : Small xs) (hy : Small ys) (h : xs ≠ ys) : ((strOfNums xs).toList == (strOfNums ys).toList) = false := by
  rw [beq_eq_false_iff_ne]
  exact fun e => h ((bytes_eq hx hy).1 e)
theorem ansB_small (e n g : Int) : Small (ansB e n g) := by unfold ansB; split; exact ansL_small _ _ _; exact small_nil
theorem reqB_small {k n : Int} {bs : List Int} (h : Small bs) : Small (reqB k n bs) := by unfold reqB; split; exact reqL_small h; exact small_nil
theorem ansB_len (e n g : Int) : (ansB e n g).length ≤ 9 := by unfold ansB; split; rw [ansL_length]; exact Nat.le_refl _; simp

set_option maxHeartbeats 2000000 in
set_option maxRecDepth 100000 in
theorem refA_calls (A : Option Addr) (m c : Nat) (xs : List Int) (w : World) (hr : ReadsInt w .u8 A m xs) (hs : Small xs) (hm : m ≤ 100000) (hc : m ≤ c) :
    Calls Try.prog 15 #[.slice A m c] w (AnsOut w (refAns xs)) := by
  go_enter Try.func15, Try.ntmps15
  go_wp2_with fail
  have hb0 := below_alloc1 w (.cells #[.int .i64 0, .int .i64 0, .int .i64 0] 30)
  have hold : 0 < m → ∀ ad, A = some ad → ad.block < w.heap.size := fun hm0 ad e => by
    obtain ⟨ad', e', hcell⟩ := hr.2.2 hm0
    have e2 : ad = ad' := by rw [e] at e'; injection e'
    subst e2
    have := World.block_lt_of_cell? w _ (hcell 0 hm0)
    rwa [add_none] at this
  refine (new_ref A m c w.heap.size xs _ (hr.below hb0) hs hm hc (by simp) hold).mono ?_
  rintro e w1 ⟨g, rfl, hg0, hp, hb⟩
  have hh1 := (hb.block w.heap.size (by simp)).trans (heap_alloc_new w (.cells #[.int .i64 0, .int .i64 0, .int .i64 0] 30))
  have HH1 := Lib.hid hh1
  have HB1 := Lib.hid (hb0.trans (hb.mono (by simp)))
  have HP1 := Lib.hid hp
  have hg1 : w.heap.size < g := by simp at hg0; omega
  clear hp hb hh1 hold
  go_wp2_with fail
  refine (num_ref_get w.heap.size g _ _ 1 _ HP1.out).mono ?_
  rintro e w2 ⟨rfl, hp, hf⟩
  rw [clip_1] at hp ⊢
  obtain ⟨k, hk⟩ : ∃ k, k = numOf (got xs false 1) := ⟨_, rfl⟩
  obtain ⟨x1, hx1⟩ : ∃ x1, x1 = rest xs false 1 := ⟨_, rfl⟩
  obtain ⟨b1, hb1⟩ : ∃ b1, b1 = !takeOk xs false 1 := ⟨_, rfl⟩
  rw [← hx1, ← hb1] at hp
  rw [← hk]
  have HH2 := Lib.hid (frame_blk hf HH1.out (fun e => by have e : w.heap.size = g := e; omega))
  have HB2 := Lib.hid (HB1.out.trans (fr_below hf (by omega) HB1.out.size))
  have HP2 := Lib.hid hp
  have HK := Lib.hid hk
  have HX1 := Lib.hid hx1
  have HC1 := Lib.hid hb1
  clear hk hx1 hb1 hp hf HP1 HB1 HH1
  go_wp2_with fail
  refine (num_ref_get w.heap.size g _ _ 4 _ HP2.out).mono ?_
  rintro e w3 ⟨rfl, hp, hf⟩
  rw [clip_4] at hp ⊢
  obtain ⟨n, hn⟩ : ∃ n, n = numOf (got x1 b1 4) := ⟨_, rfl⟩
  obtain ⟨x2, hx2⟩ : ∃ x2, x2 = rest x1 b1 4 := ⟨_, rfl⟩
  obtain ⟨b2, hb2⟩ : ∃ b2, b2 = !takeOk x1 b1 4 := ⟨_, rfl⟩
  rw [← hx2, ← hb2] at hp
  rw [← hn]
  have HH3 := Lib.hid (frame_blk hf HH2.out (fun e => by have e : w.heap.size = g := e; omega))
  have HB3 := Lib.hid (HB2.out.trans (fr_below hf (by omega) HB2.out.size))
  have HP3 := Lib.hid hp
  have HN := Lib.hid hn
  have HX2 := Lib.hid hx2
  have HC2 := Lib.hid hb2
  clear hn hx2 hb2 hp hf HP2 HB2 HH2
  go_wp2_with fail
  refine (num_ref_get w.heap.size g _ _ 4 _ HP3.out).mono ?_
  rintro e w4 ⟨rfl, hp, hf⟩
  rw [clip_4] at hp ⊢
  obtain ⟨z, hz⟩ : ∃ z, z = numOf (got x2 b2 4) := ⟨_, rfl⟩
  obtain ⟨x3, hx3⟩ : ∃ x3, x3 = rest x2 b2 4 := ⟨_, rfl⟩
  obtain ⟨b3, hb3⟩ : ∃ b3, b3 = !takeOk x2 b2 4 := ⟨_, rfl⟩
  rw [← hx3, ← hb3] at hp
  rw [← hz]
  have HRD := Lib.hid (readAns_of HX1.out HC1.out HX2.out HC2.out hx3 hb3 HK.out HN.out hz).2
  have HH4 := Lib.hid (frame_blk hf HH3.out (fun e => by have e : w.heap.size = g := e; omega))
  have HB4 := Lib.hid (HB3.out.trans (fr_below hf (by omega) HB3.out.size))
  have HP4 := Lib.hid hp
  clear hz hx3 hb3 hp hf HP3 HB3 HH3 HX1 HC1 HX2 HC2 HK HN
  go_wp2_with fail
  have hh5 := heap_alloc_new w4 (.cells #[.int .i64 k, .int .i64 n, .int .i64 z] 30)
  have hb5 := below_alloc1 w4 (.cells #[.int .i64 k, .int .i64 n, .int .i64 z] 30)
  refine (ansRef_calls k n z _).mono ?_
  rintro e w5 ⟨v5, rfl, hg⟩
  have hlt4 := heap_lt HH4.out
  have hh6 := (hg.2.block w4.heap.size (by simp)).trans hh5
  have HH6 := Lib.hid ((hg.2.block w.heap.size (by simp; omega)).trans ((hb5.block w.heap.size hlt4).trans HH4.out))
  have HB6 := Lib.hid (HB4.out.trans (((hb5.trans (hg.2.mono (by simp)))).mono HB4.out.size))
  have HP6 := Lib.hid (HP4.out.below (hb5.trans (hg.2.mono (by simp))))
  have HR6 := Lib.hid (hr.below HB6.out)
  have hsa := ansB_small k n z
  have hla := ansB_len k n z
  obtain ⟨ys, hys⟩ : ∃ ys, ys = ansB k n z := ⟨_, rfl⟩
  rw [← hys] at hg hsa hla
  have HRD2 : Hid (refAns xs = if b3 = true ∨ ys = [] ∨ ys ≠ xs then none else some (k, n, z)) := Lib.hid (by rw [HRD.out, hys])
  obtain ⟨A5, c5, rfl, hr5⟩ := hg.reads
  have HR5 := Lib.hid hr5
  have HS := Lib.hid hsa
  obtain ⟨d0, d1, d2⟩ := cells_of hh6
  obtain ⟨e0, e1, e2⟩ := cells_of HH6.out
  have f0 := free_of HH6.out 0
  have f1 := free_of HH6.out 1
  have f2 := free_of HH6.out 2
  have hlt6 : w.heap.size < w5.heap.size := heap_lt HH6.out
  have hnx : w4.heap.size ≠ w.heap.size := by omega
  clear hg hh5 hb5 hh6 hys hsa hr5 HRD HH4 HB4 HP4
  go_wp2_with fail
  refine (bad_ref w.heap.size g _ _ _ HP6.out).mono ?_
  rintro e w6 ⟨rfl, rfl⟩
  clear HP6
  cases b3 with
  | true =>
    have HR0 := Lib.hid (show refAns xs = none by rw [HRD2.out, if_pos (by left; rfl)])
    go_wp2_with fail
    exact bodyPost_ret (v := .tuple #[.agg #[.int .i64 0, .int .i64 0, .int .i64 0], .int .i64 6]) (by simp [results, Try.results15, go_sem, e0, e1, e2]) rfl (by rw [HR0.out]; exact ⟨rfl, ((HB6.out.setCell (p := ⟨w.heap.size, 0, none⟩) (Nat.le_refl _) _).setCell (p := ⟨w.heap.size, 1, none⟩) (Nat.le_refl _) _).setCell (p := ⟨w.heap.size, 2, none⟩) (Nat.le_refl _) _⟩)
  | false =>
    rcases Nat.eq_zero_or_pos ys.length with hy | hy
    · have hy0 : ((ys.length : Int) == 0) = true := by simp [hy]
      have HR0 := Lib.hid (show refAns xs = none by rw [HRD2.out, if_pos (by right; left; exact List.eq_nil_of_length_eq_zero hy)])
      clear hy
      go_wp2_with fail
      exact bodyPost_ret (v := .tuple #[.agg #[.int .i64 0, .int .i64 0, .int .i64 0], .int .i64 6]) (by simp [results, Try.results15, go_sem, e0, e1, e2]) rfl (by rw [HR0.out]; exact ⟨rfl, ((HB6.out.setCell (p := ⟨w.heap.size, 0, none⟩) (Nat.le_refl _) _).setCell (p := ⟨w.heap.size, 1, none⟩) (Nat.le_refl _) _).setCell (p := ⟨w.heap.size, 2, none⟩) (Nat.le_refl _) _⟩)
    · have hy0 : ((ys.length : Int) == 0) = false := beq_eq_false_iff_ne.2 (by omega)
      have kc5 := conv_reads c5 HR5.out
      have kc6 := conv_reads c HR6.out
      by_cases hxy : ys = xs
      · have HR0 := Lib.hid (show refAns xs = some (k, n, z) by
          rw [HRD2.out, if_neg]
          rintro (h | h | h)
          · cases h
          · rw [h] at hy; simp at hy
          · exact h hxy)
        have hst : ((strOfNums ys).toList == (strOfNums xs).toList) = true := by rw [hxy]; exact str_same
        clear hxy
        go_wp2_with fail
        exact bodyPost_ret (v := .tuple #[.agg #[.int .i64 k, .int .i64 n, .int .i64 z], .int .i64 0]) (by simp [results, Try.results15, go_sem, e0, e1, e2]) rfl (by rw [HR0.out]; exact ⟨rfl, ((HB6.out.setCell (p := ⟨w.heap.size, 0, none⟩) (Nat.le_refl _) _).setCell (p := ⟨w.heap.size, 1, none⟩) (Nat.le_refl _) _).setCell (p := ⟨w.heap.size, 2, none⟩) (Nat.le_refl _) _⟩)
      · have HR0 := Lib.hid (show refAns xs = none by rw [HRD2.out, if_pos (by right; right; exact hxy)])
        have hst := str_differ HS.out hs hxy
        clear hxy
        go_wp2_with fail
        exact bodyPost_ret (v := .tuple #[.agg #[.int .i64 0, .int .i64 0, .int .i64 0], .int .i64 6]) (by simp [results, Try.results15, go_sem, e0, e1, e2]) rfl (by rw [HR0.out]; exact ⟨rfl, ((HB6.out.setCell (p := ⟨w.heap.size, 0, none⟩) (Nat.le_refl _) _).setCell (p := ⟨w.heap.size, 1, none⟩) (Nat.le_refl _) _).setCell (p := ⟨w.heap.size, 2, none⟩) (Nat.le_refl _) _⟩)
end Go.Proofs.Ytehlcljachkgdaa.Req
