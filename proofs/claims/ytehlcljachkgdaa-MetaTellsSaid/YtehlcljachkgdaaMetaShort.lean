/- Walk: MetaShort. -/
import Derived.Test.YtehlcljachkgdaaMetaLive
import Derived.Test.YtehlcljachkgdaaMetaOpen
namespace Go.Proofs.Ytehlcljachkgdaa.Boot
open Go.ChangeShapes Go.WideShapes Go.RowKit Go.Proofs.YtehlcljachkgdaaW.PrintWords Go.Proofs.YtehlcljachkgdaaW.PrintLast Go.Proofs.Ytehlcljachkgdaa.Kit Go.Proofs.Ytehlcljachkgdaa.Field
attribute [local go_sem ↓] ldI ldM stI stM
attribute [local go_sem] ldI_run ldM_run
set_option linter.unusedSimpArgs false
set_option linter.unusedVariables false
theorem own_cap {W : World} {b : Nat} {e : TypeId} {n c : Nat} {A : Option Addr} {xs : List Value} (h : W.ownsRow b e 1 (.slice A n c) n xs) : n ≤ c := by
  rcases h.2 with ⟨e, h0⟩ | ⟨g, cap, cur, e, _, _, h1, _⟩
  · omega
  · injection e with _ _ e3; omega
set_option maxHeartbeats 8000000 in
set_option maxRecDepth 100000 in
theorem short_out (m : Met) (hm : m.Ok) (n : Int) (h : m.right = false ∨ n < 0) (w : World) :
    Calls Try.prog 7 #[.agg m.enc.toArray, .int .i64 n] w fun e w' => e = .returned (.bool true) ∧ Below w.heap.size w w' := by
  have hR := fun w => refright_m m hm w
  obtain ⟨cs, hcs⟩ : ∃ cs, cs = m.enc.toArray := ⟨_, rfl⟩
  have hsz : cs.size = 107 := by rw [hcs]; simp [Met.enc_length hm]
  rw [← hcs] at hR ⊢
  have le0 : 0 + 107 ≤ cs.size := by omega
  have e107 : cs.extract 0 107 = cs := by rw [← hsz]; exact Array.extract_size
  obtain ⟨r, hr⟩ : ∃ r, r = m.right := ⟨_, rfl⟩
  rw [← hr] at hR h
  have HR := Lib.hid hR
  clear hR hcs hr hsz
  go_enter Try.func7, Try.ntmps7
  go_wp2_with fail
  refine (live13 _).mono ?_
  rintro e w1 ⟨rfl, hb⟩
  have hB := (Blk.new w 52 cs _ rfl).below hb
  have r0 := hB.row
  have HB := Lib.hid ((below_alloc1 w _).trans (hb.mono (below_alloc1 w _).size))
  clear hB hb
  go_wp2_with fail
  refine (HR.out _).mono ?_
  rintro e w2 ⟨rfl, hb⟩
  have HB2 := Lib.hid (HB.out.trans (hb.mono HB.out.size))
  clear r0 hb
  cases r with
  | false =>
    go_wp2_with fail
    go_ret
    exact ⟨rfl, HB2.out⟩
  | true =>
    have h' : n < 0 := by rcases h with h | h; · cases h
                          · exact h
    clear h
    go_wp2_with fail
    go_ret
    exact ⟨rfl, HB2.out⟩

set_option maxHeartbeats 8000000 in
set_option maxRecDepth 100000 in
theorem short_in (m : Met) (hm : m.Ok) (hr : m.right = true) (q : Nat) (w : World) :
    Calls Try.prog 7 #[.agg m.enc.toArray, .int .i64 q] w fun e w' => e = .returned (.bool true) ∧ Below w.heap.size w w' := by
  have hR : ∀ w : World, Calls Try.prog 21 #[.agg m.enc.toArray] w fun e w' => e = .returned (.bool true) ∧ Below w.heap.size w w' := fun w => by
    rw [← hr]; exact refright_m m hm w
  have hby := fun w => bytes_m m hm w
  have hbb : bytesM m = metL m := bytesM_yes hr
  rw [hbb] at hby
  obtain ⟨i, hi⟩ : ∃ i, i = q % 128 := ⟨_, rfl⟩
  have hi1 : i < 128 := by omega
  have hi2 : (q : Int) % 128 = (i : Int) := by omega
  have hL : (metL m).length = 128 := metL_length m
  have hL1 : (metL m ++ [1]).length = 129 := by rw [List.length_append, hL]; rfl
  have T1 := Lib.hid (read_short (xs := (metL m).take i) (by rw [List.length_take, hL]; omega))
  have T2 := Lib.hid (read_no hm hr (zs := [1]) rfl)
  have HSM := Lib.hid (metL_small hm)
  have HL := Lib.hid hL
  have HL1 := Lib.hid hL1
  obtain ⟨cs, hcs⟩ : ∃ cs, cs = m.enc.toArray := ⟨_, rfl⟩
  obtain ⟨c0, hc0⟩ : ∃ c, c = Met.zero.enc.toArray := ⟨_, rfl⟩
  have hsz : cs.size = 107 := by rw [hcs]; simp [Met.enc_length hm]
  have HC0 := Lib.hid hc0
  have HS0 := Lib.hid (show c0.size = 107 by rw [hc0]; simp [Met.enc_length Met.zero_ok])
  have HO0 := Lib.hid (show c0.toList.all (·.oneCell') = true by rw [hc0]; exact enc_one _)
  rw [← hcs] at hR hby ⊢
  have le0 : 0 + 107 ≤ cs.size := by omega
  have e107 : cs.extract 0 107 = cs := by rw [← hsz]; exact Array.extract_size
  have HR := Lib.hid hR
  have HBY := Lib.hid hby
  clear hR hcs hc0 hr hsz hby hbb hi hL hL1 hm
  go_enter Try.func7, Try.ntmps7
  go_wp2_with fail
  refine (live13 _).mono ?_
  rintro e w1 ⟨rfl, hb⟩
  have hB := (Blk.new w 52 cs _ rfl).below hb
  have r0 := hB.row
  have HM := Lib.hid hB
  have HB := Lib.hid ((below_alloc1 w _).trans (hb.mono (below_alloc1 w _).size))
  clear hB hb
  go_wp2_with fail
  refine (HR.out _).mono ?_
  rintro e w2 ⟨rfl, hb⟩
  have HM := Lib.hid (HM.out.below hb)
  have HB := Lib.hid (HB.out.trans (hb.mono HB.out.size))
  clear r0 hb
  have r1 := HM.out.row
  go_wp2_with fail
  refine (HBY.out _).mono ?_
  rintro e w5 ⟨v, rfl, hg⟩
  have ho := hg.1
  rw [HL.out] at ho
  obtain ⟨A, c, rfl, hrd⟩ := own_reads ho
  have hcx := own_cap ho
  have HRD := Lib.hid hrd
  have HB := Lib.hid (HB.out.trans (hg.2.mono HB.out.size))
  clear hg hrd ho r1 HM
  go_wp2_with fail
  refine (read_m A i c _ _ (HRD.out.take_ i (by omega)) (small_take HSM.out i) (by omega)).mono ?_
  rintro e w6 ⟨rfl, hb6⟩
  rw [T1.out.1, T1.out.2, ← HC0.out]
  have hst := (Blk.new w6 52 Try.zeroCells52 _ rfl).store 52 c0 (by rw [HS0.out]; exact info58) (by rw [HS0.out]; exact z58) HO0.out
  have hbx : Below w6.heap.size w6 ((w6.alloc (.cells Try.zeroCells52 52)).setRow w6.heap.size c0) := below_setRow (below_alloc1 w6 (.cells Try.zeroCells52 52)) (Nat.le_refl _) c0
  have HB := Lib.hid (HB.out.trans (hb6.mono HB.out.size))
  have HB := Lib.hid (HB.out.trans (hbx.mono HB.out.size))
  have HRD := Lib.hid ((HRD.out.below hb6).below hbx)
  clear hb6 hbx
  go_upto_region 8 with fail
  generalize (w6.alloc (.cells Try.zeroCells52 52)).setRow w6.heap.size c0 = W7 at HB HRD ⊢
  clear hst
  go_wp2_with (first
    | (at_builtin
       refine print_append_row (o := ⟨some 41, _, _, _, _, _⟩) (w0 := W7) W7.heap.size rfl (.const (.slice none 0 0)) (.tmp 40) 23 5 .u8 1 rfl Try.underlying23 info5 (by decide) _ [] (metL m) A 128 c rfl rfl (own_nil _ _ _ _) HRD.out (Below.refl _ _) (Nat.le_refl _) (by simp) ?_
       intro v6 w8 own6 hb6 hg6 hat6
       rw [List.nil_append] at own6
       have HO6 := Lib.hid own6
       have HB6 := Lib.hid hb6
       clear own6 hb6 hg6 hat6)
    | (at_builtin
       refine print_append_row (o := ⟨some 43, _, _, _, _, _⟩) (w0 := W7) W7.heap.size rfl (.tmp 41) (.tmp 42) 23 5 .u8 1 rfl Try.underlying23 info5 (by decide) _ (metL m) [1] (some ⟨_, 0, none⟩) 1 1 rfl rfl (HO6.out.alloc _) (reads_mark _ 5 (0, 0) [1] (by simp)) (HB6.out.alloc (by have := HB6.out.size; omega) _) (by simp; have := HB6.out.size; omega) (by rw [HL.out]; omega) ?_
       intro v7 w9 own7 hb7 hg7 hat7
       rw [HL1.out] at own7
       obtain ⟨A7, c7, rfl, hr7⟩ := own_reads own7
       have HR7 := Lib.hid hr7
       have HB7 := Lib.hid hb7
       clear own7 hb7 hg7 hat7 hr7)
    | fail)
  have HB := Lib.hid (HB.out.trans (HB7.out.mono HB.out.size))
  clear HB6 HO6 HB7 HRD
  refine (read_m A7 129 c7 _ _ HR7.out (small_append HSM.out (small_mem (by decide))) (by omega)).mono ?_
  rintro e w10 ⟨rfl, hb10⟩
  rw [T2.out.1, T2.out.2, ← HC0.out]
  have hst := (Blk.new w10 52 Try.zeroCells52 _ rfl).store 52 c0 (by rw [HS0.out]; exact info58) (by rw [HS0.out]; exact z58) HO0.out
  have hbx : Below w10.heap.size w10 ((w10.alloc (.cells Try.zeroCells52 52)).setRow w10.heap.size c0) := below_setRow (below_alloc1 w10 (.cells Try.zeroCells52 52)) (Nat.le_refl _) c0
  have HB := Lib.hid (HB.out.trans (hb10.mono HB.out.size))
  have HB := Lib.hid (HB.out.trans (hbx.mono HB.out.size))
  clear hb10 hbx HR7
  go_upto_region 9 with fail
  generalize (w10.alloc (.cells Try.zeroCells52 52)).setRow w10.heap.size c0 = W11 at HB ⊢
  clear hst
  go_wp2_with fail
  refine (num13 _ _).mono ?_
  rintro e w8 ⟨rfl, rfl⟩
  go_wp2_with fail
  refine (num13 _ _).mono ?_
  rintro e w8 ⟨rfl, rfl⟩
  go_wp2_with fail
  go_ret
  exact ⟨rfl, HB.out⟩
theorem short_any {H : Type} {enc : TypeId × Value → H} {base b0 : Nat} {spare : Nat → Bool} {held : Bool} {d : DataW H} {p : List MemPlace} (v : Value) (n : Int) (W : World) (hv : Value.okWide Try.prog W .any b0 52 v) (h : DataW.Trod enc Try.prog W base spare held 52 v d p) :
    Calls Try.prog 7 #[v, .int .i64 n] W fun e W' => e = .returned (.bool true) ∧ Below W.heap.size W W' := by
  obtain ⟨m, hm, rfl⟩ := open_met hv h
  by_cases hc : m.right = false ∨ n < 0
  · exact short_out m hm n hc W
  · have hr : m.right = true := by
      cases hq : m.right with
      | true => rfl
      | false => exact absurd (.inl hq) hc
    obtain ⟨k, rfl⟩ : ∃ k : Nat, n = k := ⟨n.toNat, by omega⟩
    exact short_in m hm hr k W
end Go.Proofs.Ytehlcljachkgdaa.Boot
