/- Walks: alive of chapter 10, CellTells. -/
import Derived.Test.YtgcdankgckgibaaCellRef
import Derived.BigQuiet
import Derived.Deep.QuietTactic
namespace Go.Proofs.Ytgcdankgckgibaa.Cell
open Go.RowKit Go.Proofs.YtgcdankgckgibaaW.PrintWords Go.Proofs.YtgcdankgckgibaaW.PrintLast Go.Proofs.Ytgcdankgckgibaa.Kit Go.Proofs.Ytgcdankgckgibaa.Field

theorem num10 (n : Int) (w : World) : Calls Try.prog 42 #[.int .i64 n] w fun e w' => e = .returned (.int .i64 n) ∧ w = w' := by
  go_enter Try.func42, Try.ntmps42
  go_wp2_with fail
  go_ret
  exact ⟨rfl, rfl⟩
theorem getC_nil : getC [] = none := by unfold getC; rfl
theorem putL_length (n : Int) (b : List Int) : (Dual.put (loadL n b)).length = 320 := by rw [Dual.put_length, loadL_length]
theorem got_load (n : Int) (b : List Int) : takeOk (loadL n b) false 4 = true ∧ got (loadL n b) false 4 = numL n 4 ∧ rest (loadL n b) false 4 = rawL b 156 ∧ got (rawL b 156) false 156 = rawL b 156 := by
  have h : takeOk (loadL n b) false 4 = true := by unfold takeOk; rw [loadL_length]; rfl
  have h2 : takeOk (rawL b 156) false 156 = true := by unfold takeOk; rw [rawL_length]; rfl
  have e1 : (loadL n b).take 4 = numL n 4 := by unfold loadL; rw [List.take_append_of_le_length (by rw [numL_length]; omega), List.take_of_length_le (by rw [numL_length]; omega)]
  have e2 : (loadL n b).drop 4 = rawL b 156 := by
    unfold loadL
    rw [List.drop_append]
    simp [numL_length]
  refine ⟨h, ?_, ?_, ?_⟩
  · unfold got; rw [if_pos h, e1]
  · unfold rest; rw [if_pos h, e2]
  · unfold got; rw [if_pos h2, List.take_of_length_le (by rw [rawL_length]; omega)]
theorem getC_put (n : Int) (b : List Int) (h : mayC n = true) : getC (Dual.put (loadL n b)) = some (n, rawL b 156) := by
  obtain ⟨h1, h2, h3, h4⟩ := got_load n b
  obtain ⟨n0, n1⟩ := (mayC_iff n).1 h
  have hv : numOf (numL n 4) = n := by
    rw [numOf_small (numL_small _ _) (by rw [numL_length]; omega), val_back (by omega) (by have h256 : (256 : Int) ^ 4 = 4294967296 := (by decide); omega)]
  unfold getC
  rw [Dual.get_put]
  simp only [putL_length, h2, hv, h, if_true, h3, h1]
  simp [h4]
theorem put_yes {n : Int} {b : List Int} (h : mayC n = true) (hl : b.length ≤ 156) : putB n b = Dual.put (loadL n b) ∧ putE n b = 0 := by
  unfold putB putE
  rw [if_pos ⟨h, hl⟩, if_pos h, if_pos hl]
  exact ⟨rfl, rfl⟩
theorem put_no {n : Int} {b : List Int} (h : ¬ (mayC n = true ∧ b.length ≤ 156)) : putB n b = [] ∧ (putE n b = 1 ∨ putE n b = 10) := by
  unfold putB putE
  rw [if_neg h]
  refine ⟨rfl, ?_⟩
  by_cases h1 : mayC n = true
  · rw [if_pos h1, if_neg (fun h2 => h ⟨h1, h2⟩)]; exact .inr rfl
  · rw [if_neg h1]; exact .inl rfl
theorem putB_length (n : Int) (b : List Int) : (putB n b).length ≤ 320 := by
  unfold putB; split
  · rw [putL_length]; exact Nat.le_refl _
  · simp
theorem putB_small (n : Int) {b : List Int} (h : Small b) : Small (putB n b) := by
  unfold putB; split
  · exact Dual.put_small (loadL_small n h)
  · exact small_nil
theorem getC_le {xs : List Int} {r : Int × List Int} (h : getC xs = some r) : r.2.length ≤ 156 := by
  unfold getC at h
  split at h
  · cases h
  · split at h
    · cases h
    · split at h
      · injection h with h
        subst h
        exact got_length_le _ _ _
      · cases h

set_option maxHeartbeats 1000000 in
theorem live10 (w : World) : Calls Try.prog 37 #[] w fun e w' => e = .returned (.bool true) ∧ Below w.heap.size w w' := by
  obtain ⟨hp1, hp2⟩ := put_yes (n := 1) (b := [97]) (by decide) (by decide)
  have hgp := getC_put 1 [97] (by decide)
  have HP1 := Lib.hid hp1
  have HP2 := Lib.hid hp2
  have HGP := Lib.hid hgp
  clear hp1 hp2 hgp
  go_enter Try.func37, Try.ntmps37
  go_wp2_with fail
  refine (get_calls none 0 0 [] _ (reads_nil _ _) small_nil (by omega)).mono ?_
  rw [getC_nil]
  rintro e w1 ⟨v1, rfl, hg⟩
  obtain ⟨A1, c1, rfl, -⟩ := hg.reads
  have HB1 := Lib.hid hg.2
  clear hg
  have kc := fun (C : Array Value) (n c : Nat) => Lib.run_convert_bytes_const (P := Try.prog) w1 33 5 C n c Try.underlying33 Try.underlying5
  go_wp2_with fail
  clear kc
  have HR2 := Lib.hid (reads_mark w1 5 (1, 2) [97] (by decide))
  have HB2 := Lib.hid (HB1.out.trans ((below_alloc1 w1 (.cells #[.int .u8 97] 5 (1, 2))).mono HB1.out.size))
  refine (put_calls 1 _ _ _ [97] _ HR2.out (small_mem (by decide))).mono ?_
  rintro e w2 ⟨v2, rfl, hg⟩
  rw [HP2.out]
  rw [HP1.out] at hg
  have ho := hg.1
  rw [putL_length] at ho
  obtain ⟨A2, c2, rfl, hr2⟩ := own_reads ho
  have HB3 := Lib.hid (HB2.out.trans (hg.2.mono HB2.out.size))
  have HR3 := Lib.hid hr2
  clear hg ho hr2 HR2 HB2 HB1
  go_wp2_with fail
  refine (get_calls A2 320 c2 _ _ HR3.out (Dual.put_small (loadL_small 1 (small_mem (by decide)))) (by omega)).mono ?_
  rw [HGP.out]
  rintro e w3 ⟨v3, rfl, hg⟩
  have ho := hg.1
  have ho : w3.ownsRow w2.heap.size 5 1 v3 156 (nums .u8 (rawL [97] 156)) := ho
  obtain ⟨A3, c3, rfl, -⟩ := own_reads ho
  have HB4 := Lib.hid (HB3.out.trans (hg.2.mono HB3.out.size))
  clear hg ho HR3 HB3
  go_wp2_with fail
  refine (num10 0 _).mono ?_
  rintro e w' ⟨rfl, rfl⟩
  go_wp2_with fail
  go_ret
  exact ⟨by first | rfl | (simp; done) | (simp; omega), HB4.out⟩

theorem tells_out (n : Int) (A : Option Addr) (m c : Nat) (C : Option Addr) (k d : Nat) (w : World) (h : 300 < m ∨ 1000 < k) :
    Calls Try.prog 11 #[.int .i64 n, .slice A m c, .slice C k d] w fun e w' => e = .returned (.bool true) ∧ Below w.heap.size w w' := by
  go_enter Try.func11, Try.ntmps11
  go_wp2_with fail
  refine (live10 _).mono ?_
  rintro e w1 ⟨rfl, hb⟩
  go_wp2_with fail
  all_goals first
    | (exfalso; omega)
    | (go_ret; exact ⟨rfl, hb⟩)

set_option maxHeartbeats 2000000 in
theorem tells_in (n : Int) (A : Option Addr) (m c : Nat) (C : Option Addr) (k d : Nat) (b xs : List Int) (w : World) (hr : ReadsInt w .u8 A m b) (hs : Small b) (hq : ReadsInt w .u8 C k xs) (hxs : Small xs) (hm : m ≤ 300) (hk : k ≤ 1000) :
    Calls Try.prog 11 #[.int .i64 n, .slice A m c, .slice C k d] w fun e w' => e = .returned (.bool true) ∧ Below w.heap.size w w' := by
  have hpl := putB_length n b
  have hml := hr.1
  have HML := Lib.hid hml
  obtain ⟨L, hL⟩ : ∃ L, L = (putB n b).length := ⟨_, rfl⟩
  rw [← hL] at hpl
  have HL := Lib.hid hL.symm
  clear hL hml
  go_enter Try.func11, Try.ntmps11
  go_wp2_with fail
  refine (live10 _).mono ?_
  rintro e w1 ⟨rfl, hb⟩
  have HR1 := Lib.hid (hr.below hb)
  have HB1 := Lib.hid hb
  clear hb
  go_wp2_with (first
    | (at_builtin
       refine print_append_row (o := ⟨some 38, _, _, _, _, _⟩) (w0 := w) w.heap.size rfl (.const (.slice none 0 0)) (.tmp 37) 33 5 .u8 1 rfl Try.underlying33 info5 (by decide) _ [] b A m c rfl rfl (own_nil _ _ _ _) HR1.out HB1.out HB1.out.size (by simp; omega) ?_
       intro v2 w2 own2 hb2 hg2 hat2
       rw [List.nil_append, HML.out] at own2
       obtain ⟨A2, c2, rfl, hr2⟩ := own_reads own2
       have HR2 := Lib.hid hr2
       have HB2 := Lib.hid hb2
       clear own2 hb2 hg2 hat2 hr2)
    | fail)
  clear HB1 HR1
  refine (put_calls n A2 m c2 b _ HR2.out hs).mono ?_
  rintro e w3 ⟨v3, rfl, hg⟩
  obtain ⟨E, hE⟩ : ∃ E, E = putE n b := ⟨_, rfl⟩
  rw [← hE]
  have HE := Lib.hid hE
  have ho := hg.1
  rw [HL.out] at ho
  obtain ⟨A3, c3, rfl, hr3⟩ := own_reads ho
  have HB3 := Lib.hid (HB2.out.trans (hg.2.mono HB2.out.size))
  have HR3 := Lib.hid hr3
  have HRA := Lib.hid (hr.below HB3.out)
  clear hg ho hr3 HB2 HR2 hE
  go_wp2_with fail
  refine (put_ref n A m c b _ HRA.out hs).mono ?_
  rintro e w4 ⟨v4, rfl, hg⟩
  rw [← HE.out]
  have ho := hg.1
  rw [HL.out] at ho
  obtain ⟨A4, c4, rfl, hr4⟩ := own_reads ho
  have HB4 := Lib.hid (HB3.out.trans (hg.2.mono HB3.out.size))
  have HR34 := Lib.hid (HR3.out.below hg.2)
  have HR4 := Lib.hid hr4
  have HQ4 := Lib.hid (hq.below HB4.out)
  clear hg ho hr4 HB3 HR3 HRA
  go_wp2_with fail
  refine (get_calls C k d xs _ HQ4.out hxs (by omega)).mono ?_
  rintro e w5 ⟨v5, rfl, hg⟩
  obtain ⟨N, hN⟩ : ∃ N, N = ((getC xs).map (·.1)).getD 0 := ⟨_, rfl⟩
  obtain ⟨Z, hZ⟩ : ∃ Z, Z = ((getC xs).map (·.2)).getD [] := ⟨_, rfl⟩
  obtain ⟨S, hS⟩ : ∃ S, S = (getC xs).isSome := ⟨_, rfl⟩
  rw [← hZ] at hg
  rw [← hN, ← hS]
  have HN := Lib.hid hN
  have HZ := Lib.hid hZ
  have HS := Lib.hid hS
  obtain ⟨A5, c5, rfl, hr5⟩ := hg.reads
  have HB5 := Lib.hid (HB4.out.trans (hg.2.mono HB4.out.size))
  have HR35 := Lib.hid (HR34.out.below hg.2)
  have HR45 := Lib.hid (HR4.out.below hg.2)
  have HR5 := Lib.hid hr5
  have HQ5 := Lib.hid (hq.below HB5.out)
  clear hg hr5 hN hZ hS HB4 HR34 HR4 HQ4
  go_wp2_with fail
  refine (get_ref C k d xs _ HQ5.out hxs (by omega)).mono ?_
  rintro e w6 ⟨v6, rfl, hg⟩
  rw [← HN.out, ← HS.out]
  rw [← HZ.out] at hg
  obtain ⟨A6, c6, rfl, hr6⟩ := hg.reads
  have HB6 := Lib.hid (HB5.out.trans (hg.2.mono HB5.out.size))
  have HR36 := Lib.hid (HR35.out.below hg.2)
  have k3 := conv_reads c3 HR36.out
  have k4 := conv_reads c4 (HR45.out.below hg.2)
  have k5 := conv_reads c5 (HR5.out.below hg.2)
  have k6 := conv_reads c6 hr6
  have n1 := num10 E
  have N1 := Lib.hid n1
  clear hg hr6 HB5 HR35 HR45 HR5 HQ5 n1 HN HZ HS
  by_cases hy : mayC n = true ∧ b.length ≤ 156
  · obtain ⟨hp1, hp2⟩ := put_yes hy.1 hy.2
    have hgp := getC_put n b hy.1
    have hE0 : E = 0 := by rw [HE.out, hp2]
    subst hE0
    have hL3 : L = 320 := by rw [← HL.out, hp1, putL_length]
    subst hL3
    have hm1 : m ≤ 156 := by have := HML.out; omega
    have htk : (rawL b 156).take m = b := by rw [rawL_take b hm1, ← HML.out, rawL_self]
    have hsp : Small (putB n b) := putB_small n hs
    rw [← hp1] at hgp
    have HGP := Lib.hid hgp
    have HTK := Lib.hid htk
    clear hp1 hp2 hgp htk hy
    go_wp2_with fail
    refine (N1.out _).mono ?_
    rintro e w' ⟨rfl, rfl⟩
    go_wp2_with fail
    clear k3 k4 k5 k6
    refine (get_calls A3 320 c3 (putB n b) _ HR36.out hsp (by omega)).mono ?_
    rw [HGP.out]
    rintro e w7 ⟨v7, rfl, hg⟩
    have ho : w7.ownsRow w6.heap.size 5 1 v7 156 (nums .u8 (rawL b 156)) := hg.1
    obtain ⟨A7, c7, rfl, hr7⟩ := own_reads ho
    have hc7 := own_cap ho
    have HB7 := Lib.hid (HB6.out.trans (hg.2.mono HB6.out.size))
    have hra := hr.below HB7.out
    have hrt := hr7.take_ m hm1
    rw [HTK.out] at hrt
    have q1 := fun j : Nat => conv_reads (w := w7.drewN j) c hra
    have q2 := fun j : Nat => conv_reads (w := w7.drewN j) c7 hrt
    clear hg ho hr7 hra hrt HB6 HR36
    go_wp2_with fail
    go_quiet (fail)
    go_wp2_with fail
    go_ret
    exact ⟨by first | rfl | (simp; done) | (simp; omega), drewN_below HB7.out _⟩
  · obtain ⟨hp1, hp2⟩ := put_no hy
    have hE1 : (E != 0) = true := by
      rw [HE.out]
      rcases hp2 with e | e <;> rw [e] <;> rfl
    clear hy hp1 hp2
    go_wp2_with fail
    refine (N1.out _).mono ?_
    rintro e w' ⟨rfl, rfl⟩
    go_wp2_with fail
    go_ret
    exact ⟨rfl, HB6.out⟩

theorem tells_walk (n : Int) (A : Option Addr) (m c : Nat) (zs : List Int) (C : Option Addr) (k d : Nat) (ys : List Int) (w : World) (h : IsBytes w A m c zs) (hq : IsBytes w C k d ys) :
    Calls Try.prog 11 #[.int .i64 n, .slice A m c, .slice C k d] w fun e w' => e = .returned (.bool true) ∧ Below w.heap.size w w' := by
  obtain ⟨l, rfl, hr, _, hw, _⟩ := ReadsInt.ofRowC h
  obtain ⟨q, rfl, hr2, _, hv, _⟩ := ReadsInt.ofRowC hq
  by_cases hl : 300 < l.length ∨ 1000 < q.length
  · exact tells_out n A _ c C _ d w hl
  · exact tells_in n A _ c C _ d l q w hr (small_of hw) hr2 (small_of hv) (by omega) (by omega)
end Go.Proofs.Ytgcdankgckgibaa.Cell
