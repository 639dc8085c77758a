/- Walks: the program's reader of bytes, what is left; and the reference's reader. -/
import Derived.Test.YtehlcljachkgdaaFieldGet
import Derived.Test.YtehlcljachkgdaaFieldRef
namespace Go.Proofs.Ytehlcljachkgdaa.Field
open Go.RowKit Go.Proofs.YtehlcljachkgdaaW.PrintWords Go.Proofs.YtehlcljachkgdaaW.PrintLast Go.Proofs.Ytehlcljachkgdaa.Kit

theorem own_lower {W : World} {b b' : Nat} {e : TypeId} {size n : Nat} {v : Value} {xs : List Value} (h : W.ownsRow b e size v n xs) (hb : b' ≤ b) : W.ownsRow b' e size v n xs := by
  refine ⟨h.1, ?_⟩
  rcases h.2 with h1 | ⟨r, cap, cur, e, hr, h2⟩
  · exact .inl h1
  · exact .inr ⟨r, cap, cur, e, by omega, h2⟩
/-- what is read as bytes -/
def Rawed (P : World → Nat → Nat → List Int → Bool → Prop) (w : World) (H g : Nat) (xs : List Int) (bad : Bool) (k : Nat) (e : Ending) (w' : World) : Prop :=
  ∃ v, e = .returned v ∧ w'.ownsRow w.heap.size 5 1 v (got xs bad k).length (nums .u8 (got xs bad k)) ∧ P w' H g (rest xs bad k) (!takeOk xs bad k) ∧ Fr (· = g) w w'

set_option maxHeartbeats 1000000 in
theorem raw_get (H g : Nat) (xs : List Int) (bad : Bool) (size : Int) (w : World) (h : Rp w H g xs bad) :
    Calls Try.prog 56 #[.pointer (some ⟨g, 0, none⟩), .int .i64 size] w (Rawed Rp w H g xs bad (clip size 1000)) := by
  have hk8 := clip_le size 1000 (by omega)
  have hmm := clip_mm size 1000 (by omega)
  obtain ⟨k, hk⟩ : ∃ k, k = clip size 1000 := ⟨_, rfl⟩
  rw [← hk] at hk8 hmm
  have HK := Lib.hid hk
  clear hk
  have hgl := got_length_le xs bad k
  go_enter Try.func56, Try.ntmps56
  go_wp2_with fail
  refine (take_calls H g xs bad k _ h).mono ?_
  rintro e w1 ⟨A, c, rfl, hr, hp, hf⟩
  have HR := Lib.hid hr
  have HP := Lib.hid hp
  clear hr hp
  go_wp2_with fail
  refine (clone_calls _ _ _ _ _ HR.out (by omega)).mono ?_
  rintro e w2 ⟨v, rfl, hg⟩
  go_wp2_with fail
  go_ret
  rw [← HK.out]
  exact ⟨v, rfl, own_lower hg.1 hf.size, HP.out.below hg.2, hf.below hg.2⟩

theorem left_get (H g : Nat) (xs : List Int) (bad : Bool) (w : World) (h : Rp w H g xs bad) :
    Calls Try.prog 55 #[.pointer (some ⟨g, 0, none⟩)] w fun e w' => e = .returned (.int .i64 xs.length) ∧ w = w' := by
  obtain ⟨A, c, hh, hc, hr, hA⟩ := h.1.at_
  have hc0 : w.cell? ⟨g, 0, none⟩ = some (.slice A xs.length c) := by rw [cell_of_row w g 0 _ _ (0, 0) hh]; rfl
  clear h hh hr hc hA
  go_enter Try.func55, Try.ntmps55
  go_wp2_with fail
  go_ret
  exact ⟨rfl, rfl⟩
theorem bad_get (H g : Nat) (xs : List Int) (bad : Bool) (w : World) (h : Rp w H g xs bad) :
    Calls Try.prog 46 #[.pointer (some ⟨g, 0, none⟩)] w fun e w' => e = .returned (.bool bad) ∧ w = w' := by
  obtain ⟨A, c, hh, hc, hr, hA⟩ := h.1.at_
  have hc0 : w.cell? ⟨g, 1, none⟩ = some (.bool bad) := by rw [cell_of_row w g 1 _ _ (0, 0) hh]; rfl
  clear h hh hr hc hA
  go_enter Try.func46, Try.ntmps46
  go_wp2_with fail
  go_ret
  exact ⟨rfl, rfl⟩
theorem new_get (A : Option Addr) (n c : Nat) (xs : List Int) (w : World) (hr : ReadsInt w .u8 A n xs) (hs : Small xs) (hn : n ≤ 100000) :
    Calls Try.prog 43 #[.slice A n c] w fun e w' => ∃ g, e = .returned (.pointer (some ⟨g, 0, none⟩)) ∧ w.heap.size ≤ g ∧ Rp w' g g xs false ∧ Below w.heap.size w w' := by
  go_enter Try.func43, Try.ntmps43
  go_wp2_with fail
  refine (clone_calls _ _ _ _ _ hr (by omega)).mono ?_
  rintro e w1 ⟨v, rfl, hg⟩
  have hl := hr.1
  have hlt := own_lt hg.1
  obtain ⟨A1, c1, rfl, hr1⟩ := own_reads hg.1
  have hc1 : xs.length ≤ c1 := by
    rcases hg.1.2 with ⟨e, h0⟩ | ⟨g, cap, cur, e, _, _, h1, _⟩
    · omega
    · injection e with _ _ e3; omega
  have HB := Lib.hid hg.2
  have HR1 := Lib.hid hr1
  have HLT := Lib.hid hlt
  clear hr1 hg hr hlt
  go_wp2_with fail
  go_ret
  refine ⟨w1.heap.size, rfl, HB.out.size, ⟨⟨Nat.le_refl _, hs, by omega, A1, c1, by rw [hl]; exact heap_alloc_new _ _, hc1, HR1.out.below ((Below.refl _ _).alloc (Nat.le_refl _) _), fun _ ad e => HLT.out _ (by rw [e]; rfl)⟩, fun e => by cases e⟩, HB.out.alloc HB.out.size _⟩

theorem new_ref (A : Option Addr) (n c H : Nat) (xs : List Int) (w : World) (hr : ReadsInt w .u8 A n xs) (hs : Small xs) (hn : n ≤ 100000) (hc : n ≤ c) (hH : H ≤ w.heap.size) (hA : 0 < n → ∀ ad, A = some ad → ad.block < H) :
    Calls Try.prog 34 #[.slice A n c] w fun e w' => ∃ g, e = .returned (.pointer (some ⟨g, 0, none⟩)) ∧ w.heap.size ≤ g ∧ Rr w' H g xs false ∧ Below w.heap.size w w' := by
  have hl := hr.1
  have HL := Lib.hid hl
  have HR := Lib.hid hr
  clear hl hr
  go_enter Try.func34, Try.ntmps34
  go_wp2_with fail
  go_ret
  refine ⟨w.heap.size, rfl, Nat.le_refl _, ⟨xs, ⟨hH, hs, by have := HL.out; omega, A, c, by rw [HL.out]; exact heap_alloc_new _ _, by have := HL.out; omega, by rw [HL.out]; exact HR.out.below ((Below.refl _ _).alloc (Nat.le_refl _) _), by rw [HL.out]; exact hA⟩, rfl⟩, (Below.refl _ _).alloc (Nat.le_refl _) _⟩

theorem bad_ref (H g : Nat) (xs : List Int) (bad : Bool) (w : World) (h : Rr w H g xs bad) :
    Calls Try.prog 37 #[.pointer (some ⟨g, 0, none⟩)] w fun e w' => e = .returned (.bool bad) ∧ w = w' := by
  obtain ⟨ys, h, rfl⟩ := h
  obtain ⟨A, c, hh, hc, hr, hA⟩ := h.at_
  have hc1 : w.cell? ⟨g, 1, none⟩ = some (.bool bad) := by rw [cell_of_row w g 1 _ _ (0, 0) hh]; rfl
  clear h hh hr hc hA
  go_enter Try.func37, Try.ntmps37
  go_wp2_with fail
  go_ret
  exact ⟨rfl, rfl⟩

theorem raw_ref_fail (H g : Nat) (ys : List Int) (bad : Bool) (k : Nat) (size : Int) (w : World) (hk : k = clip size 1000) (h : Rc w 93 H g ys bad) (hb : bad = true ∨ ys.length < k) :
    Calls Try.prog 36 #[.pointer (some ⟨g, 0, none⟩), .int .i64 size] w fun e w' => e = .returned (.slice none 0 0) ∧ Rc w' 93 H g ys true ∧ Fr (· = g) w w' := by
  obtain ⟨A, c, hh, hc, hr, hA⟩ := h.at_
  have hl := h.len
  have hc0 : w.cell? ⟨g, 0, none⟩ = some (.slice A ys.length c) := by rw [cell_of_row w g 0 _ _ (0, 0) hh]; rfl
  have hc1 : w.cell? ⟨g, 1, none⟩ = some (.bool bad) := by rw [cell_of_row w g 1 _ _ (0, 0) hh]; rfl
  have hf1 : w.frozen? ⟨g, 1, none⟩ = false := by simp [World.frozen?, hh]
  have hF : Fr (· = g) w (w.setCell ⟨g, 1, none⟩ (.bool true)) := (Fr.refl (· = g) w).setCell (p := ⟨g, 1, none⟩) (.inl rfl) _
  have hend : Rc (w.setCell ⟨g, 1, none⟩ (.bool true)) 93 H g ys true := by
    refine ⟨h.hH, h.small, h.len, A, c, by simp [World.setCell, Array.getElem?_modify, hh], hc, hF.reads hr fun hn ad e hf => ?_, hA⟩
    have := hA hn ad e
    have := h.hH
    omega
  have HE := Lib.hid hend
  have HFF := Lib.hid hF
  have hk8 := clip_le size 1000 (by omega)
  rw [← hk] at hk8
  have HK := Lib.hid hk
  clear h hh hr hA hend hF hk
  rcases hb with rfl | hb
  · go_enter Try.func36, Try.ntmps36
    go_wp2_with (go_at_call 57; refine (cut size 1000 _ (by omega)).mono ?_; rintro e w' ⟨rfl, rfl⟩; rw [← HK.out])
    go_ret
    exact ⟨rfl, HE.out, HFF.out⟩
  · cases bad
    all_goals
      go_enter Try.func36, Try.ntmps36
      go_wp2_with (go_at_call 57; refine (cut size 1000 _ (by omega)).mono ?_; rintro e w' ⟨rfl, rfl⟩; rw [← HK.out])
      go_ret
      exact ⟨rfl, HE.out, HFF.out⟩

set_option maxHeartbeats 1000000 in
theorem raw_ref_ok (H g : Nat) (ys : List Int) (k : Nat) (size : Int) (w : World) (hk : k = clip size 1000) (h : Rc w 93 H g ys false) (hb : k ≤ ys.length) :
    Calls Try.prog 36 #[.pointer (some ⟨g, 0, none⟩), .int .i64 size] w fun e w' => ∃ v, e = .returned v ∧ w'.ownsRow w.heap.size 5 1 v (ys.take k).length (nums .u8 (ys.take k)) ∧ Rc w' 93 H g (ys.drop k) false ∧ Fr (· = g) w w' := by
  obtain ⟨A, c, hh, hc, hr, hA⟩ := h.at_
  have hl := h.len
  have hc0 : w.cell? ⟨g, 0, none⟩ = some (.slice A ys.length c) := by rw [cell_of_row w g 0 _ _ (0, 0) hh]; rfl
  have hc1 : w.cell? ⟨g, 1, none⟩ = some (.bool false) := by rw [cell_of_row w g 1 _ _ (0, 0) hh]; rfl
  have hat : w.heap[g]? = some (.cells #[.slice A ys.length c, .bool false] 93 (0, 0)) := hh
  obtain ⟨A', hcut, hA1, hA2⟩ := cutA A ys.length c k hb
  have hend : ∀ w1, Below w.heap.size w w1 → Rc (w1.setCell ⟨g, 0, none⟩ (.slice A' (ys.length - k) (c - k))) 93 H g (ys.drop k) false ∧ Fr (· = g) w (w1.setCell ⟨g, 0, none⟩ (.slice A' (ys.length - k) (c - k))) := by
    intro w1 hb1
    have hF : Fr (· = g) w (w1.setCell ⟨g, 0, none⟩ (.slice A' (ys.length - k) (c - k))) := (Fr.of_below hb1 (· = g)).setCell (p := ⟨g, 0, none⟩) (.inl rfl) _
    have hh1 := (hb1.block g (heap_lt hat)).trans hat
    have hr2 : ReadsInt (w1.setCell ⟨g, 0, none⟩ (.slice A' (ys.length - k) (c - k))) .u8 A ys.length ys := hF.reads hr fun hn ad e hf => by
      have := hA hn ad e
      have := h.hH
      omega
    refine ⟨⟨h.hH, small_drop h.small k, by simp; omega, A', c - k, ?_, by simp; omega, ?_, ?_⟩, hF⟩
    · simp [World.setCell, Array.getElem?_modify, hh1]
    · rw [List.length_drop]; exact hA1 _ ys hc hr2
    · intro hp ad' e
      obtain ⟨ad, e1, e2⟩ := hA2 ad' e
      rw [e2]
      rw [List.length_drop] at hp
      exact hA (by omega) ad e1
  have hlk : (ys.take k).length = k := by rw [List.length_take]; omega
  have hrk := hr.take_ k hb
  have HE := Lib.hid hend
  have HRK := Lib.hid hrk
  have HLK := Lib.hid hlk
  have HAT := Lib.hid hat
  have hk8 := clip_le size 1000 (by omega)
  rw [← hk] at hk8
  have HK := Lib.hid hk
  clear h hh hr hA hend hrk hlk hat hA1 hA2 hk
  have hk0 : (0 : Int) ≤ (k : Int) := by omega
  have hk1 : (k : Int) ≤ (c : Int) := by omega
  go_enter Try.func36, Try.ntmps36
  go_wp2_with (first
    | (go_at_call 57; refine (cut size 1000 _ (by omega)).mono ?_; rintro e w' ⟨rfl, rfl⟩; rw [← HK.out])
    | (at_builtin
       go_loud (refine print_append_row (w0 := w) w.heap.size rfl (.const (.slice none 0 0)) (.tmp 30) 23 5 .u8 1 rfl Try.underlying23 info5 (by decide) _ [] (ys.take k) A k _ rfl rfl (own_nil _ _ _ _) HRK.out (Below.refl _ _) (Nat.le_refl _) (by simp; omega) ?_)
       intro v1 w2 own1 hb1 hg1 hat1
       have hh2 := (hb1.block g (heap_lt HAT.out)).trans HAT.out
       have hc2 : w2.cell? ⟨g, 0, none⟩ = some (.slice A ys.length c) := by rw [cell_of_row w2 g 0 _ _ (0, 0) hh2]; rfl
       have hf2 : w2.frozen? ⟨g, 0, none⟩ = false := by simp [World.frozen?, hh2]
       have HO1 := Lib.hid own1
       have HB1 := Lib.hid hb1
       have HH2 := Lib.hid hh2
       clear own1 hb1 hg1 hat1 hh2)
    | fail)
  go_ret
  obtain ⟨h1, h2⟩ := HE.out _ HB1.out
  refine ⟨_, rfl, ?_, h1, h2⟩
  have ho := HO1.out
  rw [List.nil_append] at ho
  refine ⟨ho.1, ?_⟩
  rcases ho.2 with e | ⟨r, cap, cur, rfl, hr, hh, h3⟩
  · exact .inl e
  · refine .inr ⟨r, cap, cur, rfl, hr, (Below.heap_setCell w2 ⟨g, 0, none⟩ _ r (fun e => ?_)).trans hh, h3⟩
    have e : r = g := e
    have := heap_lt HAT.out
    omega

theorem raw_ref_get (H g : Nat) (xs : List Int) (bad : Bool) (size : Int) (w : World) (h : Rr w H g xs bad) :
    Calls Try.prog 36 #[.pointer (some ⟨g, 0, none⟩), .int .i64 size] w (Rawed Rr w H g xs bad (clip size 1000)) := by
  obtain ⟨ys, h, rfl⟩ := h
  by_cases hb : bad = true ∨ ys.length < clip size 1000
  · refine (raw_ref_fail H g ys bad _ size w rfl h hb).mono ?_
    rintro e w' ⟨rfl, h1, h2⟩
    have hok : takeOk (if bad = true then [] else ys) bad (clip size 1000) = false := by
      unfold takeOk
      rcases hb with rfl | hb
      · rfl
      · cases bad
        · simp; omega
        · rfl
    have hg : got (if bad = true then [] else ys) bad (clip size 1000) = [] := by unfold got; rw [hok]; rfl
    have hr : rest (if bad = true then [] else ys) bad (clip size 1000) = [] := by unfold rest; rw [hok]; rfl
    refine ⟨_, rfl, by rw [hg]; exact own_nil _ _ _ _, ?_, h2⟩
    rw [hr, hok]
    exact ⟨ys, h1, rfl⟩
  · have hbad : bad = false := by cases bad <;> simp_all
    subst hbad
    have hle : clip size 1000 ≤ ys.length := by simp at hb; omega
    refine (raw_ref_ok H g ys _ size w rfl h hle).mono ?_
    rintro e w' ⟨v, rfl, ho, h1, h2⟩
    have hok : takeOk ys false (clip size 1000) = true := by unfold takeOk; simp; omega
    have hg : got ys false (clip size 1000) = ys.take (clip size 1000) := by unfold got; rw [hok]; rfl
    have hr : rest ys false (clip size 1000) = ys.drop (clip size 1000) := by unfold rest; rw [hok]; rfl
    have e0 : (if false = true then [] else ys) = ys := rfl
    rw [e0]
    refine ⟨v, rfl, by rw [hg]; exact ho, ?_, h2⟩
    rw [hr, hok]
    exact ⟨_, h1, rfl⟩

theorem clip_clip (size : Int) : clip (clip size 8) 1000 = clip size 8 := by
  have h := clip_le size 8 (by omega)
  rw [clip_in (by omega) (by omega)]
  omega
set_option maxHeartbeats 1000000 in
theorem num_ref_get (H g : Nat) (xs : List Int) (bad : Bool) (size : Int) (w : World) (h : Rr w H g xs bad) :
    Calls Try.prog 35 #[.pointer (some ⟨g, 0, none⟩), .int .i64 size] w (Nummed Rr w H g xs bad (clip size 8)) := by
  have hk8 := clip_le size 8 (by omega)
  have hcc := clip_clip size
  have hxs : Small xs := by
    obtain ⟨ys, h1, rfl⟩ := h
    split
    · exact small_nil
    · exact h1.small
  obtain ⟨k, hk⟩ : ∃ k, k = clip size 8 := ⟨_, rfl⟩
  rw [← hk] at hk8 hcc
  have HK := Lib.hid hk
  have HCC := Lib.hid hcc
  clear hk hcc
  have hgs := got_small hxs bad k
  have hgl := got_length_le xs bad k
  go_enter Try.func35, Try.ntmps35
  go_wp2_with fail
  refine (cut size 8 _ (by omega)).mono ?_
  rintro e w' ⟨rfl, rfl⟩
  rw [← HK.out]
  go_wp2_with fail
  refine (raw_ref_get H g xs bad k _ h).mono ?_
  rintro e w1 ⟨v, rfl, ho, hp, hf⟩
  rw [HCC.out] at ho hp
  obtain ⟨l, hl⟩ : ∃ l, l = got xs bad k := ⟨_, rfl⟩
  rw [← hl] at hgs hgl ho
  have HL := Lib.hid hl
  clear hl
  obtain ⟨A, c, rfl, hr⟩ := own_reads ho
  clear ho
  go_wp2_with fail
  go_loop [6, 7] (fun n i => ∃ t : Nat, t ≤ l.length ∧ n = .int .u64 (val (l.take t)) ∧ i = .int .i64 t) (fun _ i => l.length - (intOf i).toNat)
  case atStart => exact ⟨0, Nat.zero_le _, rfl, rfl⟩
  case round =>
    obtain ⟨t, ht, rfl, rfl⟩ := hrel
    by_cases hlt : t < l.length
    · obtain ⟨ad, rfl, hc⟩ := reads_cell hr hlt
      obtain ⟨hv, v0, v1⟩ := val_take hgs (by omega) hlt
      obtain ⟨b0, b1⟩ := hgs t
      have hor := or_byte _ _ v0 v1 b0 b1
      generalize rd l (t : Int) = b at *
      generalize val (l.take t) = x at *
      have HV := Lib.hid hv
      clear hv
      have hw1 : IntKind.u64.wrap (x * 256) = x * 256 := by rw [IntKind.wrap_u64]; omega
      have hw2 : IntKind.u64.wrap b = b := by rw [IntKind.wrap_u64]; omega
      have hi0 : (0 : Int) ≤ (t : Int) := by omega
      have hi1 : (t : Int) < (l.length : Int) := by omega
      go_wp2_with fail
      go_round
      case rel => exact ⟨t + 1, by omega, by rw [HV.out], by go_num⟩
      case measure => simp [intOf]; omega
    · obtain rfl : t = l.length := by omega
      rw [List.take_length]
      go_wp2_with fail
      go_ret
      rw [← HK.out]
      exact ⟨ret_int (by rw [← HL.out]; rfl), hp, hf⟩
end Go.Proofs.Ytehlcljachkgdaa.Field
