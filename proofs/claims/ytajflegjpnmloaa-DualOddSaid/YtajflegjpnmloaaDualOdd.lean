/- Walk: DualOdd returns true. -/
import Derived.Test.YtajflegjpnmloaaDualLaws
import Derived.BigQuiet
namespace Go.Proofs.Ytajflegjpnmloaa.DualLaws
open Go.RowKit Go.Proofs.YtajflegjpnmloaaW.PrintWords Go.Proofs.YtajflegjpnmloaaW.PrintLast Go.Proofs.Ytajflegjpnmloaa.Kit Go.Proofs.Ytajflegjpnmloaa.Dual Go.Proofs.Ytajflegjpnmloaa.DualWalk

theorem get_pairs : ∀ (cs : List Int), (get cs).isSome = true → ∀ j : Nat, 2 * j + 1 < cs.length → rd cs ((2 * j : Nat) : Int) = 255 - rd cs ((2 * j + 1 : Nat) : Int)
  | [], _, j, hj => by simp at hj
  | [_], _, j, hj => by simp at hj
  | c0 :: c1 :: r, hg, j, hj => by
    rw [Dual.get] at hg
    by_cases hc : c0 = 255 - c1
    · rw [if_pos hc] at hg
      rcases j with _ | j
      · exact hc
      · have hr : (get r).isSome = true := by
          cases hq : get r with
          | none => rw [hq] at hg; simp at hg
          | some z => rfl
        exact get_pairs r hr j (by simp only [List.length_cons] at hj; omega)
    · rw [if_neg hc] at hg
      simp at hg
theorem get_twin (xs : List Int) (k : Nat) (h : 2 * k + 1 < xs.length) : get (xs.set (2 * k + 1) (rd xs ((2 * k : Nat) : Int))) = none := by
  cases hg : get (xs.set (2 * k + 1) (rd xs ((2 * k : Nat) : Int))) with
  | none => rfl
  | some z =>
    have e := get_pairs _ (by rw [hg]; rfl) k (by rw [List.length_set]; exact h)
    have e1 : rd (xs.set (2 * k + 1) (rd xs ((2 * k : Nat) : Int))) ((2 * k : Nat) : Int) = rd xs ((2 * k : Nat) : Int) := by
      conv => lhs; simp only [rd, List.getD_eq_getElem?_getD, Int.toNat_natCast]
      rw [List.getElem?_set_ne (by omega)]
      simp only [rd, List.getD_eq_getElem?_getD, Int.toNat_natCast]
    have e2 : rd (xs.set (2 * k + 1) (rd xs ((2 * k : Nat) : Int))) ((2 * k + 1 : Nat) : Int) = rd xs ((2 * k : Nat) : Int) := by
      conv => lhs; simp only [rd, List.getD_eq_getElem?_getD, Int.toNat_natCast]
      rw [List.getElem?_set_self h]
      rfl
    rw [e1, e2] at e
    omega
theorem small_twin {xs : List Int} (h : Small xs) (i j : Nat) : Small (xs.set i (rd xs (j : Int))) :=
  small_mem fun x hx => by
    rcases List.mem_or_eq_of_mem_set hx with hx | rfl
    · exact mem_small h x hx
    · exact h j
theorem own_reads_at {w : World} {base n c : Nat} {e : TypeId} {A : Option Addr} {xs : List Int} (h : w.ownsRow base e 1 (.slice A n c) n (nums .u8 xs)) : ReadsInt w .u8 A n xs := by
  obtain ⟨A', c', hv, hr⟩ := own_reads h
  injection hv with e1 _ _
  rw [e1]
  exact hr
theorem own_cap {w : World} {base n c : Nat} {e : TypeId} {A : Option Addr} {xs : List Value} (h : w.ownsRow base e 1 (.slice A n c) n xs) : n ≤ c := by
  rcases h.2 with ⟨hv, h0⟩ | ⟨g, cap, cur, hv, _, _, hle, _⟩
  · omega
  · injection hv with _ _ hc
    omega

theorem odd_out (A : Option Addr) (n c : Nat) (at_ : Int) (w : World) (h : n < 1 ∨ 300 < n ∨ at_ < 0) :
    Calls Try.prog 6 #[.slice A n c, .int .i64 at_] w fun e w' => e = .returned (.bool true) ∧ Below w.heap.size w w' := by
  go_enter Try.func6, Try.ntmps6
  go_wp2_with fail
  refine (live _).mono ?_
  rintro e w1 ⟨rfl, hb⟩
  go_wp2_with fail
  all_goals first
    | (exfalso; omega)
    | (go_ret; exact ⟨rfl, hb⟩)

set_option maxHeartbeats 2000000 in
theorem odd_in (A : Option Addr) (n c : Nat) (at_ : Int) (xs : List Int) (w : World) (hr : ReadsInt w .u8 A n xs) (hs : Small xs) (h1 : 1 ≤ n) (hn : n ≤ 300) (h0 : 0 ≤ at_) :
    Calls Try.prog 6 #[.slice A n c, .int .i64 at_] w fun e w' => e = .returned (.bool true) ∧ Below w.heap.size w w' := by
  have hxn := hr.1
  obtain ⟨L, hL⟩ : ∃ L, L + 1 = 2 * n := ⟨2 * n - 1, by omega⟩
  have hpl : (put xs).length = L + 1 := by rw [put_length, hxn, hL]
  have HPL := Lib.hid hpl
  have hps := put_small hs
  have hne : ((L : Int) + 1 != 2 * (n : Int)) = false := by simp; omega
  have hL6 : L ≤ 600 := by omega
  have HL := Lib.hid hL
  clear hxn hpl hL
  go_enter Try.func6, Try.ntmps6
  go_wp2_with fail
  refine (live _).mono ?_
  rintro e w1 ⟨rfl, hb⟩
  have HR1 := Lib.hid (hr.below hb)
  go_wp2_with fail
  refine (put_calls _ _ _ _ _ HR1.out hs (by omega)).mono ?_
  rintro e w2 ⟨v, rfl, hg2⟩
  have hb2 := hb.trans (hg2.2.mono hb.size)
  obtain ⟨X, cx, rfl, hr2⟩ := hg2.reads
  have hcap := own_cap hg2.1
  rw [HPL.out] at hr2 hcap ⊢
  have hk0 : 0 ≤ at_ % (n : Int) := Int.emod_nonneg _ (by omega)
  have hk1 : at_ % (n : Int) < n := Int.emod_lt_of_pos _ (by omega)
  obtain ⟨k, hk⟩ := Int.eq_ofNat_of_zero_le hk0
  have hkn : (k : Int) < n := by omega
  have hj0 : (0 : Int) ≤ 2 * (k : Int) := by omega
  have hj1 : 2 * (k : Int) < (L : Int) + 1 := by have := HL.out; omega
  have hj2 : 2 * (k : Int) + 1 < (L : Int) + 1 := by have := HL.out; omega
  have hj3 : (2 * (k : Int)).toNat = 2 * k := by omega
  have hj4 : (2 * (k : Int) + 1).toNat = 2 * k + 1 := by omega
  clear hg2 hb HR1 hk0 hk1
  have HX := Lib.hid hr2
  have HB := Lib.hid hb2
  go_wp2_with (first
    | (at_builtin
       refine print_append_row w2.heap.size rfl (.const (.slice none 0 0)) (.tmp 47) 23 5 .u8 1 rfl Try.underlying23 info5 (by decide) (.slice none 0 0) [] (put xs) X (L + 1) cx rfl rfl (own_nil _ _ _ _) HX.out (Below.refl _ _) (Nat.le_refl _) (by simp; omega) ?_
       intro v1 w3 own1 hb3 hg1 hat1
       rw [List.nil_append, HPL.out] at own1
       obtain ⟨g, cap, rfl, hgb, hgl⟩ := own1.form (by omega)
       obtain ⟨hca, hfa⟩ := own_at own1 (2 * (k : Int)) hj0 (by omega)
       obtain ⟨hcb, hfb⟩ := own_at own1 (2 * (k : Int) + 1) (by omega) (by omega)
       rw [hj3] at hca hfa
       rw [hj4] at hcb hfb
       have hst := own_store own1 (2 * (k : Int) + 1) (rd (put xs) (2 * (k : Int)))
       rw [hj4] at hst
       have HST := Lib.hid hst
       have HO1 := Lib.hid own1
       have HB1 := Lib.hid hb3
       clear own1 hb3 hg1 hat1 hst)
    | fail)
  have hB4 : Below w2.heap.size w2 (w3.setCell ⟨g, 2 * k + 1, none⟩ (.int .u8 (rd (put xs) (2 * (k : Int))))) := HB1.out.setCell (p := ⟨g, 2 * k + 1, none⟩) hgb _
  have hO4 := HST.out.1
  generalize w3.setCell ⟨g, 2 * k + 1, none⟩ (.int .u8 (rd (put xs) (2 * (k : Int)))) = w4 at *
  have hX4 := HX.out.below hB4
  have HX4 := Lib.hid hX4
  have hb4 := HB.out.trans (hB4.mono HB.out.size)
  have HO4 := Lib.hid hO4
  have ht := hX4.take_ L (by omega)
  have hodd : get ((put xs).take L) = none := get_odd _ (by rw [List.length_take, HPL.out]; have := HL.out; omega)
  have HODD := Lib.hid hodd
  clear hca hfa hcb hfb HST hO4 hX4 hodd HB1 HO1 hB4
  refine (get_calls _ _ _ _ _ ht (small_take hps _) (by omega)).mono ?_
  rintro e w5 ⟨v, rfl, hg5⟩
  rw [HODD.out] at hg5 ⊢
  have hb5 := hb4.trans (hg5.2.mono hb4.size)
  have HX5 := Lib.hid (HX4.out.below hg5.2)
  have HO5 := Lib.hid (pw_own_below HO4.out hg5.2)
  obtain ⟨A5, c5, rfl, hr5⟩ := hg5.reads
  clear hg5 hr5 hb4 ht HX4 HO4 HODD
  have hbs := hb5.size
  go_wp2_with (first
    | (at_builtin
       refine print_append_row w5.heap.size rfl (.const (.slice none 0 0)) (.tmp 69) 23 5 .u8 1 rfl Try.underlying23 info5 (by decide) (.slice none 0 0) [] (put xs) X (L + 1) cx rfl rfl (own_nil _ _ _ _) HX5.out (Below.refl _ _) (Nat.le_refl _) (by simp; omega) ?_
       intro v1 w6 own1 hb6 hg1 hat1
       rw [List.nil_append] at own1
       have HO6 := Lib.hid own1
       have HB6 := Lib.hid hb6
       clear own1 hb6 hg1 hat1)
    | (at_builtin
       refine print_append_row w5.heap.size rfl (.tmp 70) (.tmp 71) 23 5 .u8 1 rfl Try.underlying23 info5 (by decide) v1 (put xs) [1] (some ⟨w6.heap.size, 0, none⟩) 1 1 rfl rfl (HO6.out.alloc _) (reads_mark w6 5 (0, 0) [1] (by decide)) (HB6.out.alloc HB6.out.size _) (by have := HB6.out.size; simp; omega) (by have := HPL.out; omega) ?_
       intro v2 w7 own2 hb7 hg2 hat2
       have HO7 := Lib.hid own2
       have HB7 := Lib.hid hb7
       clear own2 hb7 hg2 hat2))
  obtain ⟨A7, c7, rfl, hr7⟩ := own_reads HO7.out
  have hlen7 : (put xs ++ [1]).length = L + 2 := by rw [List.length_append, HPL.out]; rfl
  have hodd : get (put xs ++ [1]) = none := get_odd _ (by have := HL.out; omega)
  have HODD := Lib.hid hodd
  have HL7 := Lib.hid hlen7
  have hb7 := hb5.trans (HB7.out.mono hb5.size)
  clear hlen7 hodd
  refine (get_calls _ _ _ _ _ hr7 (small_append hps (small_mem (by decide))) (by have := HL7.out; omega)).mono ?_
  rintro e w8 ⟨v, rfl, hg8⟩
  rw [HODD.out] at hg8 ⊢
  have hb8 := hb7.trans (hg8.2.mono hb7.size)
  have HO8 := Lib.hid (pw_own_below (pw_own_below HO5.out HB7.out) hg8.2)
  obtain ⟨A8, c8, rfl, hr8⟩ := hg8.reads
  clear hg8 hr8 hr7 hb7 HODD HO6 HO7 HB6 HO5 HX5
  go_wp2_with fail
  have hr9 := own_reads_at HO8.out
  have e9 : (2 * (k : Int)) = ((2 * k : Nat) : Int) := by omega
  rw [e9] at hr9
  have htw := get_twin (put xs) k (by have := HPL.out; have := HL.out; omega)
  have HTW := Lib.hid htw
  clear htw HO8 e9
  refine (get_calls _ _ _ _ _ hr9 (small_twin hps _ _) (by omega)).mono ?_
  rintro e w10 ⟨v, rfl, hg10⟩
  rw [HTW.out] at hg10 ⊢
  have hb10 := hb8.trans (hg10.2.mono hb8.size)
  obtain ⟨A10, c10, rfl, hr10⟩ := hg10.reads
  clear hg10 hr10 hr9 hb8 HTW
  go_wp2_with fail
  refine (get_calls _ _ _ [] _ (reads_nil _ _) small_nil (by decide)).mono ?_
  rintro e w11 ⟨v, rfl, hg11⟩
  have hb11 := hb10.trans (hg11.2.mono hb10.size)
  obtain ⟨A11, c11, rfl, hr11⟩ := hg11.reads
  clear hg11 hr11 hb10
  go_wp2_with fail
  go_ret
  exact ⟨rfl, hb11⟩

theorem odd_walk (A : Option Addr) (n c : Nat) (zs : List Int) (at_ : Int) (w : World) (h : IsBytes w A n c zs) (_h1 : (Lit.int .i64 at_).wf = true) :
    Calls Try.prog 6 #[.slice A n c, .int .i64 at_] w fun e w' => e = .returned (.bool true) ∧ Below w.heap.size w w' := by
  obtain ⟨l, rfl, hr, _, hw, _⟩ := ReadsInt.ofRowC h
  by_cases hl : l.length < 1 ∨ 300 < l.length ∨ at_ < 0
  · exact odd_out A _ c at_ w hl
  · exact odd_in A _ c at_ l w hr (small_of hw) (by omega) (by omega) (by omega)
end Go.Proofs.Ytajflegjpnmloaa.DualLaws
