/- Walk: the reference's ReadReq. -/
import Derived.Test.YtehlcljachkgdaaReqRefRead
namespace Go.Proofs.Ytehlcljachkgdaa.Req
open Go.RowKit Go.Proofs.YtehlcljachkgdaaW.PrintWords Go.Proofs.YtehlcljachkgdaaW.PrintLast Go.Proofs.Ytehlcljachkgdaa.Kit Go.Proofs.Ytehlcljachkgdaa.Field

set_option maxHeartbeats 2000000 in
set_option maxRecDepth 100000 in
theorem refReq_calls (A : Option Addr) (m c : Nat) (xs : List Int) (w : World) (hr : ReadsInt w .u8 A m xs) (hs : Small xs) (hm : m ≤ 100000) (hc : m ≤ c) :
    Calls Try.prog 13 #[.slice A m c] w (ReadOut w (refReq xs)) := by
  go_enter Try.func13, Try.ntmps13
  go_wp2_with fail
  have hb0 := below_alloc1 w (.cells #[.int .i64 0, .int .i64 0, .slice none 0 0] 25)
  have hold : 0 < m → ∀ ad, A = some ad → ad.block < w.heap.size := fun hm0 ad e => by
    obtain ⟨ad', e', hcell⟩ := hr.2.2 hm0
    have e2 : ad = ad' := by rw [e] at e'; injection e'
    subst e2
    have := World.block_lt_of_cell? w _ (hcell 0 hm0)
    rwa [add_none] at this
  refine (new_ref A m c w.heap.size xs _ (hr.below hb0) hs hm hc (by simp) hold).mono ?_
  rintro e w1 ⟨g, rfl, hg0, hp, hb⟩
  have hh1 := (hb.block w.heap.size (by simp)).trans (heap_alloc_new w (.cells #[.int .i64 0, .int .i64 0, .slice none 0 0] 25))
  have HH1 := Lib.hid hh1
  have HB1 := Lib.hid (hb0.trans (hb.mono (by simp)))
  have HP1 := Lib.hid hp
  have hg1 : w.heap.size < g := by simp at hg0; omega
  clear hp hb hh1 hold
  go_wp2_with fail
  refine (num_ref_get w.heap.size g _ _ 1 _ HP1.out).mono ?_
  rintro e w2 ⟨rfl, hp, hf⟩
  rw [clip_1] at hp ⊢
  obtain ⟨k, hk⟩ : ∃ k, k = numOf (got xs false 1) := ⟨_, rfl⟩
  obtain ⟨x1, hx1⟩ : ∃ x1, x1 = rest xs false 1 := ⟨_, rfl⟩
  obtain ⟨b1, hb1⟩ : ∃ b1, b1 = !takeOk xs false 1 := ⟨_, rfl⟩
  rw [← hx1, ← hb1] at hp
  rw [← hk]
  have HH2 := Lib.hid (frame_blk hf HH1.out (fun e => by have e : w.heap.size = g := e; omega))
  have HB2 := Lib.hid (HB1.out.trans (fr_below hf (by omega) HB1.out.size))
  have HP2 := Lib.hid hp
  have HK := Lib.hid hk
  have HX1 := Lib.hid hx1
  have HC1 := Lib.hid hb1
  have hgl : g < w2.heap.size := by obtain ⟨ys, h, _⟩ := hp; exact h.lt
  clear hk hx1 hb1 hp hf HP1 HB1 HH1
  go_wp2_with fail
  refine (num_ref_get w.heap.size g _ _ 4 _ HP2.out).mono ?_
  rintro e w3 ⟨rfl, hp, hf⟩
  rw [clip_4] at hp ⊢
  obtain ⟨n, hn⟩ : ∃ n, n = numOf (got x1 b1 4) := ⟨_, rfl⟩
  obtain ⟨x2, hx2⟩ : ∃ x2, x2 = rest x1 b1 4 := ⟨_, rfl⟩
  obtain ⟨b2, hb2⟩ : ∃ b2, b2 = !takeOk x1 b1 4 := ⟨_, rfl⟩
  rw [← hx2, ← hb2] at hp
  rw [← hn]
  have hs3 := hf.size
  have HH3 := Lib.hid (frame_blk hf HH2.out (fun e => by have e : w.heap.size = g := e; omega))
  have HB3 := Lib.hid (HB2.out.trans (fr_below hf (by omega) HB2.out.size))
  have HP3 := Lib.hid hp
  have HN := Lib.hid hn
  have HX2 := Lib.hid hx2
  have HC2 := Lib.hid hb2
  clear hn hx2 hb2 hp hf HP2 HB2 HH2
  go_wp2_with fail
  have hb3 := below_alloc1 w3 (.cells #[.int .i64 k, .int .i64 n, .slice none 0 0] 25)
  have HQ3 := Lib.hid (heap_alloc_new w3 (.cells #[.int .i64 k, .int .i64 n, .slice none 0 0] 25))
  have HH3' := Lib.hid ((hb3.block w.heap.size (heap_lt HH3.out)).trans HH3.out)
  have HP3' := Lib.hid (HP3.out.below hb3)
  have HB3' := Lib.hid (HB3.out.trans (hb3.mono HB3.out.size))
  have hlt3 := heap_lt HH3.out
  clear hb3 HP3 HH3
  refine (num_ref_get w.heap.size g _ _ 2 _ HP3'.out).mono ?_
  rintro e w4 ⟨rfl, hp, hf⟩
  rw [clip_2] at hp ⊢
  obtain ⟨z, hz⟩ : ∃ z, z = numOf (got x2 b2 2) := ⟨_, rfl⟩
  obtain ⟨x3, hx3⟩ : ∃ x3, x3 = rest x2 b2 2 := ⟨_, rfl⟩
  obtain ⟨b3, hb3⟩ : ∃ b3, b3 = !takeOk x2 b2 2 := ⟨_, rfl⟩
  rw [← hx3, ← hb3] at hp
  rw [← hz]
  have HRD := Lib.hid (refReq_of HX1.out HC1.out HX2.out HC2.out hx3 hb3 HK.out HN.out hz)
  have HQ4 := Lib.hid (frame_blk hf HQ3.out (fun e => by have e : w3.heap.size = g := e; omega))
  have HH4 := Lib.hid (frame_blk hf HH3'.out (fun e => by have e : w.heap.size = g := e; omega))
  have HB4 := Lib.hid (HB3'.out.trans (fr_below hf (by omega) HB3'.out.size))
  have HP4 := Lib.hid hp
  clear hz hx3 hb3 hp hf HP3' HB3' HH3' HX1 HC1 HX2 HC2 HK HN HQ3
  by_cases hz : z ≤ 1000
  · obtain ⟨bs, hbs⟩ : ∃ bs, bs = got x3 b3 (clip z 1000) := ⟨_, rfl⟩
    obtain ⟨b4, hb4⟩ : ∃ b4, b4 = !takeOk x3 b3 (clip z 1000) := ⟨_, rfl⟩
    have hrd : refReq xs = if b4 = true ∨ reqB k n bs = [] ∨ reqB k n bs ≠ xs then none else some (k, n, bs) := by
      rw [HRD.out, hbs, hb4]; simp only [if_pos hz]
    have HRD2 := Lib.hid hrd
    have HBS := Lib.hid hbs
    have HB4' := Lib.hid hb4
    clear hrd HRD hbs hb4
    go_wp2_with fail
    refine (raw_ref_get w.heap.size g _ _ z _ HP4.out).mono ?_
    rintro e w5 ⟨v5, rfl, ho, hp, hf⟩
    rw [← HBS.out] at ho
    rw [← HB4'.out] at hp
    have hq5 := frame_blk hf HQ4.out (fun e => by have e : w3.heap.size = g := e; omega)
    have hh5 := frame_blk hf HH4.out (fun e => by have e : w.heap.size = g := e; omega)
    have HB5 := Lib.hid (HB4.out.trans (fr_below hf (by omega) HB4.out.size))
    have hbl : bs.length ≤ 1000 := by
      have h1 := got_length_le x3 b3 (clip z 1000)
      rw [← HBS.out] at h1
      have h2 := clip_le z 1000 (by omega)
      omega
    obtain ⟨-, -, c2⟩ := cells_of hq5
    have f2 := free_of hq5 2
    have hsb : Small bs := by
      obtain ⟨ys, h1, h2⟩ := HP4.out
      rw [HBS.out]
      refine got_small ?_ _ _
      rw [h2]
      split
      · exact small_nil
      · exact h1.small
    obtain ⟨A5, c5, rfl, hr5⟩ := own_reads ho
    have hob := own_base ho
    have hq6 := set_blk (i := 2) hq5 (.slice A5 bs.length c5)
    have HQ6 : Hid ((w5.setCell ⟨w3.heap.size, 2, none⟩ (.slice A5 bs.length c5)).heap[w3.heap.size]? = some (.cells #[.int .i64 k, .int .i64 n, .slice A5 bs.length c5] 25 (0, 0))) := Lib.hid hq6
    have hfs := fr_set w5 w3.heap.size 2 (.slice A5 bs.length c5)
    have HH6 := Lib.hid (frame_blk hfs hh5 (fun e => by have e : w.heap.size = w3.heap.size := e; omega))
    have HB6 := Lib.hid (HB5.out.trans (fr_below hfs (by omega) HB5.out.size))
    have HP6 := Lib.hid (hp.keep hfs (fun i e => fr_far e (by omega) (by omega)))
    have hown5 := own_lower' ho HB4.out.size
    have HO6 := Lib.hid (own_set hown5 (p := ⟨w3.heap.size, 2, none⟩) (fun r hr => by have := hob r hr; have := heap_lt HQ4.out; show r ≠ w3.heap.size; omega) (.slice A5 bs.length c5))
    have HR6 := Lib.hid (hfs.reads hr5 (fun hn0 ad e hF => by
      have e1 : ad.block = w3.heap.size := hF
      have := hob ad.block (by rw [e]; rfl)
      have := heap_lt HQ4.out
      omega))
    have HSB := Lib.hid hsb
    obtain ⟨d0, d1, d2⟩ := cells_of HQ6.out
    have HOB := Lib.hid hob
    have hlt4 := heap_lt HH4.out
    clear ho hp hf hq5 hh5 hr5 hq6 hfs hown5 hob HP4 HH4 HQ4 HB4 HBS HB4' hsb
    go_wp2_with fail
    clear c2 f2 d0 d1 d2
    refine (reqRef_calls k n _ _ _ bs _ HR6.out).mono ?_
    rintro e w7 ⟨v7, rfl, hg⟩
    have hsa := reqB_small (k := k) (n := n) HSB.out
    obtain ⟨ys, hys⟩ : ∃ ys, ys = reqB k n bs := ⟨_, rfl⟩
    rw [← hys] at hg hsa
    have HRD3 : Hid (refReq xs = if b4 = true ∨ ys = [] ∨ ys ≠ xs then none else some (k, n, bs)) := Lib.hid (by rw [HRD2.out, hys])
    have HB7 := Lib.hid (HB6.out.trans (hg.2.mono HB6.out.size))
    have HP7 := Lib.hid (HP6.out.below hg.2)
    have HR7 := Lib.hid (hr.below HB7.out)
    have HO7 := Lib.hid (pw_own_below HO6.out hg.2)
    have hh7 := (hg.2.block w.heap.size (heap_lt HH6.out)).trans HH6.out
    have hq7 := (hg.2.block w3.heap.size (heap_lt HQ6.out)).trans HQ6.out
    obtain ⟨d0, d1, d2⟩ := cells_of hq7
    obtain ⟨e0, e1, e2⟩ := cells_of hh7
    have f0 := free_of hh7 0
    have f1 := free_of hh7 1
    have f2 := free_of hh7 2
    have hnx : w3.heap.size ≠ w.heap.size := by omega
    have hlen : ys.length ≤ 2000 := by
      rw [hys]; unfold reqB; split
      · rw [reqL_length]; omega
      · simp
    obtain ⟨A7, c7, rfl, hr7⟩ := hg.reads
    have HRR7 := Lib.hid hr7
    have HS := Lib.hid hsa
    clear hg hys hsa hh7 hq7 hr7 HRD2 HH6 HQ6 HB6 HP6 HO6 HR6 HSB
    go_wp2_with fail
    refine (bad_ref w.heap.size g _ _ _ HP7.out).mono ?_
    rintro e w8 ⟨rfl, rfl⟩
    clear HP7
    cases b4 with
    | true =>
      have HR0 := Lib.hid (show refReq xs = none by rw [HRD3.out, if_pos (by left; rfl)])
      go_wp2_with fail
      exact bodyPost_ret (v := .tuple #[.agg #[.int .i64 0, .int .i64 0, .slice none 0 0], .int .i64 6]) (by simp [results, Try.results13, go_sem, e0, e1, e2]) rfl (by rw [HR0.out]; exact ⟨rfl, ((HB7.out.setCell (p := ⟨w.heap.size, 0, none⟩) (Nat.le_refl _) _).setCell (p := ⟨w.heap.size, 1, none⟩) (Nat.le_refl _) _).setCell (p := ⟨w.heap.size, 2, none⟩) (Nat.le_refl _) _⟩)
    | false =>
      rcases Nat.eq_zero_or_pos ys.length with hy | hy
      · have hy0 : ((ys.length : Int) == 0) = true := by simp [hy]
        have HR0 := Lib.hid (show refReq xs = none by rw [HRD3.out, if_pos (by right; left; exact List.eq_nil_of_length_eq_zero hy)])
        clear hy
        go_wp2_with fail
        exact bodyPost_ret (v := .tuple #[.agg #[.int .i64 0, .int .i64 0, .slice none 0 0], .int .i64 6]) (by simp [results, Try.results13, go_sem, e0, e1, e2]) rfl (by rw [HR0.out]; exact ⟨rfl, ((HB7.out.setCell (p := ⟨w.heap.size, 0, none⟩) (Nat.le_refl _) _).setCell (p := ⟨w.heap.size, 1, none⟩) (Nat.le_refl _) _).setCell (p := ⟨w.heap.size, 2, none⟩) (Nat.le_refl _) _⟩)
      · have hy0 : ((ys.length : Int) == 0) = false := beq_eq_false_iff_ne.2 (by omega)
        have kc5 := conv_reads c7 HRR7.out
        have kc6 := conv_reads c HR7.out
        by_cases hxy : ys = xs
        · have HR0 := Lib.hid (show refReq xs = some (k, n, bs) by
            rw [HRD3.out, if_neg]
            rintro (h | h | h)
            · cases h
            · rw [h] at hy; simp at hy
            · exact h hxy)
          have hst : ((strOfNums ys).toList == (strOfNums xs).toList) = true := by rw [hxy]; exact str_same
          clear hxy
          have hfin : ∀ a b d : Value, Gives w (((w7.setCell ⟨w.heap.size, 0, none⟩ a).setCell ⟨w.heap.size, 1, none⟩ b).setCell ⟨w.heap.size, 2, none⟩ d) (.slice A5 bs.length c5) bs := by
            intro a b d
            have hne : ∀ r, (Value.slice A5 bs.length c5).ownBlock = some r → r ≠ w.heap.size := fun r hr => by have := HOB.out r hr; omega
            exact ⟨own_set (own_set (own_set HO7.out hne _) hne _) hne _, ((HB7.out.setCell (p := ⟨w.heap.size, 0, none⟩) (Nat.le_refl _) _).setCell (p := ⟨w.heap.size, 1, none⟩) (Nat.le_refl _) _).setCell (p := ⟨w.heap.size, 2, none⟩) (Nat.le_refl _) _⟩
          have HFIN := Lib.hid hfin
          clear hfin
          go_wp2_with fail
          exact bodyPost_ret (v := .tuple #[.agg #[.int .i64 k, .int .i64 n, .slice A5 bs.length c5], .int .i64 0]) (by simp [results, Try.results13, go_sem, e0, e1, e2]) rfl (by rw [HR0.out]; exact ⟨_, rfl, HFIN.out _ _ _⟩)
        · have HR0 := Lib.hid (show refReq xs = none by rw [HRD3.out, if_pos (by right; right; exact hxy)])
          have hst := str_differ HS.out hs hxy
          clear hxy
          go_wp2_with fail
          exact bodyPost_ret (v := .tuple #[.agg #[.int .i64 0, .int .i64 0, .slice none 0 0], .int .i64 6]) (by simp [results, Try.results13, go_sem, e0, e1, e2]) rfl (by rw [HR0.out]; exact ⟨rfl, ((HB7.out.setCell (p := ⟨w.heap.size, 0, none⟩) (Nat.le_refl _) _).setCell (p := ⟨w.heap.size, 1, none⟩) (Nat.le_refl _) _).setCell (p := ⟨w.heap.size, 2, none⟩) (Nat.le_refl _) _⟩)
  · have hrd : refReq xs = if b3 = true ∨ reqB k n [] = [] ∨ reqB k n [] ≠ xs then none else some (k, n, []) := by
      rw [HRD.out]; simp only [if_neg hz]
    have HRD2 := Lib.hid hrd
    clear hrd HRD
    have hz' : 1000 < z := by omega
    obtain ⟨d0, d1, d2⟩ := cells_of HQ4.out
    go_wp2_with fail
    clear d0 d1 d2
    refine (reqRef_calls k n none 0 0 [] _ (reads_nil _ _)).mono ?_
    rintro e w7 ⟨v7, rfl, hg⟩
    have hsa := reqB_small (k := k) (n := n) small_nil
    obtain ⟨ys, hys⟩ : ∃ ys, ys = reqB k n [] := ⟨_, rfl⟩
    rw [← hys] at hg hsa
    have HRD3 : Hid (refReq xs = if b3 = true ∨ ys = [] ∨ ys ≠ xs then none else some (k, n, [])) := Lib.hid (by rw [HRD2.out, hys])
    have HB7 := Lib.hid (HB4.out.trans (hg.2.mono HB4.out.size))
    have HP7 := Lib.hid (HP4.out.below hg.2)
    have HR7 := Lib.hid (hr.below HB7.out)
    have hh7 := (hg.2.block w.heap.size (heap_lt HH4.out)).trans HH4.out
    have hq7 := (hg.2.block w3.heap.size (heap_lt HQ4.out)).trans HQ4.out
    obtain ⟨d0, d1, d2⟩ := cells_of hq7
    obtain ⟨e0, e1, e2⟩ := cells_of hh7
    have f0 := free_of hh7 0
    have f1 := free_of hh7 1
    have f2 := free_of hh7 2
    have hnx : w3.heap.size ≠ w.heap.size := by omega
    have hlen : ys.length ≤ 2000 := by
      rw [hys]; unfold reqB; split
      · rw [reqL_length]; simp
      · simp
    obtain ⟨A7, c7, rfl, hr7⟩ := hg.reads
    have HRR7 := Lib.hid hr7
    have HS := Lib.hid hsa
    clear hg hys hsa hh7 hq7 hr7 HRD2 HH4 HQ4 HB4 HP4
    go_wp2_with fail
    refine (bad_ref w.heap.size g _ _ _ HP7.out).mono ?_
    rintro e w8 ⟨rfl, rfl⟩
    clear HP7
    cases b3 with
    | true =>
      have HR0 := Lib.hid (show refReq xs = none by rw [HRD3.out, if_pos (by left; rfl)])
      go_wp2_with fail
      exact bodyPost_ret (v := .tuple #[.agg #[.int .i64 0, .int .i64 0, .slice none 0 0], .int .i64 6]) (by simp [results, Try.results13, go_sem, e0, e1, e2]) rfl (by rw [HR0.out]; exact ⟨rfl, ((HB7.out.setCell (p := ⟨w.heap.size, 0, none⟩) (Nat.le_refl _) _).setCell (p := ⟨w.heap.size, 1, none⟩) (Nat.le_refl _) _).setCell (p := ⟨w.heap.size, 2, none⟩) (Nat.le_refl _) _⟩)
    | false =>
      rcases Nat.eq_zero_or_pos ys.length with hy | hy
      · have hy0 : ((ys.length : Int) == 0) = true := by simp [hy]
        have HR0 := Lib.hid (show refReq xs = none by rw [HRD3.out, if_pos (by right; left; exact List.eq_nil_of_length_eq_zero hy)])
        clear hy
        go_wp2_with fail
        exact bodyPost_ret (v := .tuple #[.agg #[.int .i64 0, .int .i64 0, .slice none 0 0], .int .i64 6]) (by simp [results, Try.results13, go_sem, e0, e1, e2]) rfl (by rw [HR0.out]; exact ⟨rfl, ((HB7.out.setCell (p := ⟨w.heap.size, 0, none⟩) (Nat.le_refl _) _).setCell (p := ⟨w.heap.size, 1, none⟩) (Nat.le_refl _) _).setCell (p := ⟨w.heap.size, 2, none⟩) (Nat.le_refl _) _⟩)
      · have hy0 : ((ys.length : Int) == 0) = false := beq_eq_false_iff_ne.2 (by omega)
        have kc5 := conv_reads c7 HRR7.out
        have kc6 := conv_reads c HR7.out
        by_cases hxy : ys = xs
        · have HR0 := Lib.hid (show refReq xs = some (k, n, []) by
            rw [HRD3.out, if_neg]
            rintro (h | h | h)
            · cases h
            · rw [h] at hy; simp at hy
            · exact h hxy)
          have hst : ((strOfNums ys).toList == (strOfNums xs).toList) = true := by rw [hxy]; exact str_same
          clear hxy
          go_wp2_with fail
          exact bodyPost_ret (v := .tuple #[.agg #[.int .i64 k, .int .i64 n, .slice none 0 0], .int .i64 0]) (by simp [results, Try.results13, go_sem, e0, e1, e2]) rfl (by rw [HR0.out]; exact ⟨_, rfl, Gives.none_ (((HB7.out.setCell (p := ⟨w.heap.size, 0, none⟩) (Nat.le_refl _) _).setCell (p := ⟨w.heap.size, 1, none⟩) (Nat.le_refl _) _).setCell (p := ⟨w.heap.size, 2, none⟩) (Nat.le_refl _) _)⟩)
        · have HR0 := Lib.hid (show refReq xs = none by rw [HRD3.out, if_pos (by right; right; exact hxy)])
          have hst := str_differ HS.out hs hxy
          clear hxy
          go_wp2_with fail
          exact bodyPost_ret (v := .tuple #[.agg #[.int .i64 0, .int .i64 0, .slice none 0 0], .int .i64 6]) (by simp [results, Try.results13, go_sem, e0, e1, e2]) rfl (by rw [HR0.out]; exact ⟨rfl, ((HB7.out.setCell (p := ⟨w.heap.size, 0, none⟩) (Nat.le_refl _) _).setCell (p := ⟨w.heap.size, 1, none⟩) (Nat.le_refl _) _).setCell (p := ⟨w.heap.size, 2, none⟩) (Nat.le_refl _) _⟩)
end Go.Proofs.Ytehlcljachkgdaa.Req
