/- Walk: DualCuts returns true. -/
import Derived.Test.YtajflegjpnmloaaDualLaws
import Derived.Test.YtajflegjpnmloaaDualBits
import Derived.BigQuiet
namespace Go.Proofs.Ytajflegjpnmloaa.DualLaws
open Go.RowKit Go.Proofs.YtajflegjpnmloaaW.PrintWords Go.Proofs.YtajflegjpnmloaaW.PrintLast Go.Proofs.Ytajflegjpnmloaa.Kit Go.Proofs.Ytajflegjpnmloaa.Dual Go.Proofs.Ytajflegjpnmloaa.DualWalk

theorem cuts_out (A : Option Addr) (n c : Nat) (M : Option Addr) (m d : Nat) (w : World) (h : 300 < n ∨ m < 2 * n) :
    Calls Try.prog 5 #[.slice A n c, .slice M m d] w fun e w' => e = .returned (.bool true) ∧ Below w.heap.size w w' := by
  go_enter Try.func5, Try.ntmps5
  go_wp2_with fail
  refine (live _).mono ?_
  rintro e w1 ⟨rfl, hb⟩
  go_wp2_with fail
  all_goals first
    | (exfalso; omega)
    | (go_ret; exact ⟨rfl, hb⟩)

set_option maxHeartbeats 2000000 in
theorem cuts_in (A : Option Addr) (n c : Nat) (M : Option Addr) (m d : Nat) (xs ms : List Int) (w : World) (hr : ReadsInt w .u8 A n xs) (hs : Small xs) (hq : ReadsInt w .u8 M m ms) (hms : Small ms) (hn : n ≤ 300) (hm : 2 * n ≤ m) :
    Calls Try.prog 5 #[.slice A n c, .slice M m d] w fun e w' => e = .returned (.bool true) ∧ Below w.heap.size w w' := by
  have hxn := hr.1
  obtain ⟨L, hL⟩ : ∃ L, L = 2 * n := ⟨_, rfl⟩
  have hpl : (put xs).length = L := by rw [put_length, hxn, hL]
  have HPL := Lib.hid hpl
  have HXN := Lib.hid hxn
  have hps := put_small hs
  have hne : ((L : Int) != 2 * (n : Int)) = false := by simp; omega
  have hLm : L ≤ m := by omega
  have hL6 : L ≤ 600 := by omega
  have HCL : Hid ((orl (put xs) ms).length = L) := Lib.hid (by rw [orl_length, hpl])
  have HL := Lib.hid hL
  clear hxn hpl hL
  go_enter Try.func5, Try.ntmps5
  go_wp2_with fail
  refine (live _).mono ?_
  rintro e w1 ⟨rfl, hb⟩
  have HR1 := Lib.hid (hr.below hb)
  go_wp2_with fail
  refine (put_calls _ _ _ _ _ HR1.out hs (by omega)).mono ?_
  rintro e w2 ⟨v, rfl, hg2⟩
  have hb2 := hb.trans (hg2.2.mono hb.size)
  obtain ⟨X, cx, rfl, hr2⟩ := hg2.reads
  rw [HPL.out] at hr2 ⊢
  have hq2 := hq.below hb2
  have hmk := print_make (P := Try.prog) 23 5 .u8 1 Try.underlying23 info5 (by decide) L (by omega)
  clear hg2 hb HR1
  go_wp2_with fail
  have hown := own_made w2 w2.heap.size 5 .u8 L (Nat.le_refl _) (by omega)
  have hb0 : Below w2.heap.size w2 (w2.alloc (.cells (madeCells #[.int .u8 0] L) 5)) := (Below.refl _ _).alloc (Nat.le_refl _) _
  have hp0 := built_zero (orl (put xs) ms)
  rw [HCL.out] at hp0
  rw [← hp0] at hown
  clear hmk hne hp0
  go_loopw [7, 9] (fun sm i wr => ∃ k : Nat, k ≤ L ∧ i = .int .i64 k ∧ sm = .bool (same (put xs) ms k) ∧ wr.ownsRow w2.heap.size 5 1 (.slice (some ⟨w2.heap.size, 0, none⟩) L L) L (nums .u8 (built (orl (put xs) ms) k)) ∧ Below w2.heap.size w2 wr) (fun _ i _ => L - (intOf i).toNat)
  case atStart => exact ⟨0, Nat.zero_le _, rfl, rfl, hown, hb0⟩
  case round =>
    obtain ⟨k, hk, rfl, rfl, ho, hb⟩ := hrel
    by_cases hlt : k < L
    · obtain ⟨ax, rfl, hcx⟩ := reads_cell hr2 hlt
      obtain ⟨am, rfl, hcm⟩ := reads_cell hq2 (show k < m by omega)
      have hx1 := pw_cell_below hb hcx
      have hm1 := pw_cell_below hb hcm
      obtain ⟨hc1, hf1⟩ := own_at ho (k : Int) (by omega) (by omega)
      rw [Int.toNat_natCast] at hc1 hf1
      have hk0 : (0 : Int) ≤ (k : Int) := by omega
      have hk1 : (k : Int) < (L : Int) := by omega
      have hk2 : (k : Int) < (m : Int) := by omega
      have hor := orl_at (xs := put xs) (ms := ms) (i := k) (by have := HPL.out; omega)
      have hss := same_succ (put xs) ms k
      have hst := own_store ho (k : Int) (bits .or .u8 (rd (put xs) k) (rd ms k))
      rw [Int.toNat_natCast, ← hor, built_set _ _ (by have := HCL.out; omega), hor] at hst
      have HST := Lib.hid hst
      have HSS := Lib.hid hss
      have HOR := Lib.hid hor
      have HO := Lib.hid ho
      have HCX := Lib.hid hcx
      clear hst hss hor ho hcx hcm
      go_wp2_with fail
      go_region
      have hB : Below w2.heap.size w2 (wr.setCell ⟨w2.heap.size, k, none⟩ (.int .u8 (bits .or .u8 (rd (put xs) k) (rd ms k)))).drew := (hb.setCell (p := ⟨w2.heap.size, k, none⟩) (Nat.le_refl _) _).drew
      have hO2 : (wr.setCell ⟨w2.heap.size, k, none⟩ (.int .u8 (bits .or .u8 (rd (put xs) k) (rd ms k)))).drew.ownsRow w2.heap.size 5 1 (.slice (some ⟨w2.heap.size, 0, none⟩) L L) L (nums .u8 (built (orl (put xs) ms) (k + 1))) := HST.out.1
      generalize (wr.setCell ⟨w2.heap.size, k, none⟩ (.int .u8 (bits .or .u8 (rd (put xs) k) (rd ms k)))).drew = W at *
      obtain ⟨hc2, _⟩ := own_at hO2 (k : Int) (by omega) (by omega)
      rw [Int.toNat_natCast, built_at _ _ _ (by omega) (by have := HCL.out; omega), HOR.out] at hc2
      have hx2 := pw_cell_below hB HCX.out
      have hs1 := HSS.out
      rw [HOR.out] at hs1
      have HS1 := Lib.hid hs1
      have HO2 := Lib.hid hO2
      clear hx1 hm1 hc1 hf1 HST hs1 hO2 hb
      cases hsm : same (put xs) ms k with
      | false =>
        have HSM := Lib.hid hsm
        clear hsm
        go_wp2_with fail
        go_quiet (fail)
        go_wp2_with fail
        go_roundw
        case rel => exact ⟨k + 1, by omega, by go_num, by rw [HS1.out, HSM.out]; rfl, HO2.out, drewN_below hB _⟩
        case measure => simp [intOf]; omega
      | true =>
        have HSM := Lib.hid hsm
        clear hsm
        go_wp2_with fail
        go_quiet (fail)
        go_wp2_with fail
        go_roundw
        case rel => exact ⟨k + 1, by omega, by go_num, by rw [HS1.out, HSM.out]; simp, HO2.out, drewN_below hB _⟩
        case measure => simp [intOf]; omega
    · have hkL : k = L := by omega
      have hall := built_all (orl (put xs) ms)
      rw [HCL.out] at hall
      rw [hkL, hall] at ho
      obtain ⟨C, cc, hv, hrc⟩ := own_reads ho
      have HV := Lib.hid hv
      have hrc' : ReadsInt wr .u8 (some ⟨w2.heap.size, 0, none⟩) L (orl (put xs) ms) := by
        have e := HV.out
        injection e with e1 _ _
        rw [e1]
        exact hrc
      have HRC := Lib.hid hrc'
      have HB := Lib.hid (hb2.trans (hb.mono hb2.size))
      have HKL := Lib.hid hkL
      cases hsm : same (put xs) ms k with
      | false =>
        have hg := get_orl hs hms (by rw [HPL.out, ← hkL]; exact hsm)
        have HG := Lib.hid hg
        have HSM := Lib.hid hsm
        clear hv hrc hrc' hkL hall ho hb hsm hg
        go_wp2_with fail
        refine (get_calls _ _ _ _ _ HRC.out (orl_small hps hms) (by omega)).mono ?_
        rintro e w3 ⟨v, rfl, hg3⟩
        rw [HG.out] at hg3 ⊢
        have hb3 := HB.out.trans (hg3.2.mono HB.out.size)
        obtain ⟨A3, c3, rfl, hr3⟩ := hg3.reads
        clear hg3 hr3
        go_wp2_with fail
        go_ret
        exact ⟨rfl, hb3⟩
      | true =>
        have he := same_all (xs := put xs) (ms := ms) (by rw [HPL.out, ← hkL]; exact hsm)
        have HE := Lib.hid he
        have HSM := Lib.hid hsm
        clear hv hrc hrc' hkL hall ho hb hsm he
        go_wp2_with fail
        refine (get_calls _ _ _ _ _ HRC.out (orl_small hps hms) (by omega)).mono ?_
        rintro e w3 ⟨v, rfl, hg3⟩
        rw [HE.out, get_put] at hg3 ⊢
        simp only [Option.getD_some, Option.isSome_some] at hg3 ⊢
        have hb3 := HB.out.trans (hg3.2.mono HB.out.size)
        obtain ⟨hb4, A3, c3, q3, h3, rfl⟩ := hg3.open_
        have q0 := fun (W : World) (h : Rd W A n xs) => h.conv c
        have k0 := Rd.mk (hr.below hb3)
        clear hg3 hb4
        go_wp2_with fail
        go_ret
        exact ⟨rfl, hb3⟩

theorem cuts_walk (A : Option Addr) (n c : Nat) (zs : List Int) (M : Option Addr) (m d : Nat) (ys : List Int) (w : World) (h : IsBytes w A n c zs) (k : IsBytes w M m d ys) :
    Calls Try.prog 5 #[.slice A n c, .slice M m d] w fun e w' => e = .returned (.bool true) ∧ Below w.heap.size w w' := by
  obtain ⟨l, rfl, hr, _, hw, _⟩ := ReadsInt.ofRowC h
  obtain ⟨q, rfl, hq, _, hv, _⟩ := ReadsInt.ofRowC k
  by_cases hl : 300 < l.length ∨ q.length < 2 * l.length
  · exact cuts_out A _ c M _ d w hl
  · exact cuts_in A _ c M _ d l q w hr (small_of hw) hq (small_of hv) (by omega) (by omega)
end Go.Proofs.Ytajflegjpnmloaa.DualLaws
