/- Walks: the program's reader of bytes. -/
import Derived.Test.YtehlcljachkgdaaFieldPut
namespace Go.Proofs.Ytehlcljachkgdaa.Field
open Go.RowKit Go.Proofs.YtehlcljachkgdaaW.PrintWords Go.Proofs.YtehlcljachkgdaaW.PrintLast Go.Proofs.Ytehlcljachkgdaa.Kit

/-- a reader at block g: its slice reads ys, below block H; bad: bytes were missing -/
structure Rc (W : World) (T : TypeId) (H g : Nat) (ys : List Int) (bad : Bool) : Prop where
  hH : H ≤ g
  small : Small ys
  len : ys.length ≤ 100000
  at_ : ∃ A c, W.heap[g]? = some (.cells #[.slice A ys.length c, .bool bad] T (0, 0)) ∧ ys.length ≤ c ∧ ReadsInt W .u8 A ys.length ys ∧ (0 < ys.length → ∀ ad, A = some ad → ad.block < H)
/-- the program's: what is left xs -/
def Rp (W : World) (H g : Nat) (xs : List Int) (bad : Bool) : Prop := Rc W 97 H g xs bad ∧ (bad = true → xs = [])
/-- the reference's -/
def Rr (W : World) (H g : Nat) (xs : List Int) (bad : Bool) : Prop := ∃ ys, Rc W 93 H g ys bad ∧ xs = if bad then [] else ys
theorem Rc.lt {W : World} {T : TypeId} {H g : Nat} {ys : List Int} {bad : Bool} (h : Rc W T H g ys bad) : g < W.heap.size := by
  obtain ⟨A, c, hh, _⟩ := h.at_
  exact heap_lt hh
theorem Rc.keep {F : Nat → Prop} {W W' : World} {T : TypeId} {H g : Nat} {ys : List Int} {bad : Bool} (h : Rc W T H g ys bad) (k : Fr F W W') (hF : ∀ i, F i → H ≤ i ∧ i ≠ g) : Rc W' T H g ys bad := by
  obtain ⟨A, c, hh, hc, hr, hA⟩ := h.at_
  refine ⟨h.hH, h.small, h.len, A, c, (k.block g (heap_lt hh) (fun hf => (hF g hf).2 rfl)).trans hh, hc, k.reads hr fun hn ad e hf => ?_, hA⟩
  have h1 := (hF _ hf).1
  have h2 := hA hn ad e
  omega
theorem Rp.keep {F : Nat → Prop} {W W' : World} {H g : Nat} {ys : List Int} {bad : Bool} (h : Rp W H g ys bad) (k : Fr F W W') (hF : ∀ i, F i → H ≤ i ∧ i ≠ g) : Rp W' H g ys bad := ⟨h.1.keep k hF, h.2⟩
theorem Rr.keep {F : Nat → Prop} {W W' : World} {H g : Nat} {ys : List Int} {bad : Bool} (h : Rr W H g ys bad) (k : Fr F W W') (hF : ∀ i, F i → H ≤ i ∧ i ≠ g) : Rr W' H g ys bad := by
  obtain ⟨zs, h1, h2⟩ := h
  exact ⟨zs, h1.keep k hF, h2⟩
theorem Rp.below {W W' : World} {H g : Nat} {ys : List Int} {bad : Bool} (h : Rp W H g ys bad) (k : Below W.heap.size W W') : Rp W' H g ys bad := h.keep (Fr.of_below k (fun _ => False)) (fun _ hf => hf.elim)
theorem Rr.below {W W' : World} {H g : Nat} {ys : List Int} {bad : Bool} (h : Rr W H g ys bad) (k : Below W.heap.size W W') : Rr W' H g ys bad := h.keep (Fr.of_below k (fun _ => False)) (fun _ hf => hf.elim)

/-- xs[k:] -/
theorem cutA (A : Option Addr) (n c k : Nat) (hk : k ≤ n) : ∃ A' : Option Addr, (∀ W : World, (Instr.slice 23 (.slice A n c) (some (.int .i64 (k : Int))) none none).run Try.prog W = .ok (.slice A' (n - k) (c - k)) W) ∧
    (∀ (W : World) (xs : List Int), n ≤ c → ReadsInt W .u8 A n xs → ReadsInt W .u8 A' (n - k) (xs.drop k)) ∧ ∀ ad', A' = some ad' → ∃ ad, A = some ad ∧ ad'.block = ad.block := by
  obtain ⟨i0, hi, hzz⟩ := Option.map_eq_some_iff.1 info5
  simp only [Prod.mk.injEq] at hzz
  obtain ⟨_, hz1, _⟩ := hzz
  refine ⟨if c = k then A else A.map (·.add k), fun W => ?_, fun W xs hc h => h.drop_ k hk hc, fun ad' e => ?_⟩
  · have hel : Try.prog.elem 23 = 5 := by simp [Program.elem, Try.underlying23]
    have hu : Try.prog.underlying 23 = some (.slice (Try.prog.elem 23)) := by rw [hel]; exact Try.underlying23
    rw [run_slice_l W 23 A n c hu .i64 (k : Int) (Int.natCast_nonneg _) (by omega), hel]
    simp [sizeOf, typeInfo, hi, hz1, sliced, Result.andThen]
  · split at e
    · exact ⟨ad', e, rfl⟩
    · cases A with
      | none => cases e
      | some ad =>
        simp at e
        subst e
        exact ⟨ad, rfl, by unfold Addr.add; split <;> rfl⟩

/-- what take gives -/
def Took (w : World) (H g : Nat) (xs : List Int) (bad : Bool) (k : Nat) (e : Ending) (w' : World) : Prop :=
  ∃ A c, e = .returned (.slice A (got xs bad k).length c) ∧ ReadsInt w' .u8 A (got xs bad k).length (got xs bad k) ∧ Rp w' H g (rest xs bad k) (!takeOk xs bad k) ∧ Fr (· = g) w w'

theorem take_bad (H g : Nat) (xs : List Int) (k : Nat) (w : World) (h : Rp w H g xs true) :
    Calls Try.prog 58 #[.pointer (some ⟨g, 0, none⟩), .int .i64 k] w (Took w H g xs true k) := by
  obtain rfl := h.2 rfl
  obtain ⟨A, c, hh, hc, hr, hA⟩ := h.1.at_
  have hc1 : w.cell? ⟨g, 1, none⟩ = some (.bool true) := by rw [cell_of_row w g 1 _ _ (0, 0) hh]; rfl
  have H0 := Lib.hid h
  clear h hh hr hc hA
  go_enter Try.func58, Try.ntmps58
  go_wp2_with fail
  go_ret
  exact ⟨none, 0, rfl, reads_nil _ _, H0.out, Fr.refl _ _⟩

theorem take_more (H g : Nat) (xs : List Int) (k : Nat) (w : World) (h : Rp w H g xs false) (hk : xs.length < k) :
    Calls Try.prog 58 #[.pointer (some ⟨g, 0, none⟩), .int .i64 k] w (Took w H g xs false k) := by
  obtain ⟨A, c, hh, hc, hr, hA⟩ := h.1.at_
  have hc0 : w.cell? ⟨g, 0, none⟩ = some (.slice A xs.length c) := by rw [cell_of_row w g 0 _ _ (0, 0) hh]; rfl
  have hc1 : w.cell? ⟨g, 1, none⟩ = some (.bool false) := by rw [cell_of_row w g 1 _ _ (0, 0) hh]; rfl
  have hf : ∀ i, w.frozen? ⟨g, i, none⟩ = false := fun i => by simp [World.frozen?, hh]
  have hf0 := hf 0
  have hf1 := hf 1
  have hgot : got xs false k = [] := by unfold got takeOk; rw [if_neg (by simp; omega)]
  have hrest : rest xs false k = [] := by unfold rest takeOk; rw [if_neg (by simp; omega)]
  have hok : takeOk xs false k = false := by unfold takeOk; simp; omega
  have hend : Took w H g xs false k (.returned (.slice none 0 0)) ((w.setCell ⟨g, 0, none⟩ (.slice none 0 0)).setCell ⟨g, 1, none⟩ (.bool true)) := by
    refine ⟨none, 0, by rw [hgot]; rfl, by rw [hgot]; exact reads_nil _ _, ?_, ((Fr.refl (· = g) w).setCell (p := ⟨g, 0, none⟩) (.inl rfl) _).setCell (p := ⟨g, 1, none⟩) (.inl rfl) _⟩
    rw [hrest, hok]
    exact ⟨⟨h.1.hH, small_nil, by simp, none, 0, by simp [World.setCell, Array.getElem?_modify, hh], Nat.le_refl _, reads_nil _ _, fun hp => absurd hp (by simp)⟩, fun _ => rfl⟩
  have HE := Lib.hid hend
  clear h hh hr hc hA hf hgot hrest hok hend
  go_enter Try.func58, Try.ntmps58
  go_wp2_with fail
  go_ret
  exact HE.out

theorem take_ok (H g : Nat) (xs : List Int) (k : Nat) (w : World) (h : Rp w H g xs false) (hk : k ≤ xs.length) :
    Calls Try.prog 58 #[.pointer (some ⟨g, 0, none⟩), .int .i64 k] w (Took w H g xs false k) := by
  obtain ⟨A, c, hh, hc, hr, hA⟩ := h.1.at_
  have hl := h.1.len
  have hc0 : w.cell? ⟨g, 0, none⟩ = some (.slice A xs.length c) := by rw [cell_of_row w g 0 _ _ (0, 0) hh]; rfl
  have hc1 : w.cell? ⟨g, 1, none⟩ = some (.bool false) := by rw [cell_of_row w g 1 _ _ (0, 0) hh]; rfl
  have hf : ∀ i, w.frozen? ⟨g, i, none⟩ = false := fun i => by simp [World.frozen?, hh]
  have hf0 := hf 0
  obtain ⟨A', hcut, hA1, hA2⟩ := cutA A xs.length c k hk
  have hok : takeOk xs false k = true := by unfold takeOk; simp; omega
  have hgot : got xs false k = xs.take k := by unfold got; rw [hok]; rfl
  have hrest : rest xs false k = xs.drop k := by unfold rest; rw [hok]; rfl
  have hend : ∀ c', k ≤ c' → Took w H g xs false k (.returned (.slice A k c')) (w.setCell ⟨g, 0, none⟩ (.slice A' (xs.length - k) (c - k))) := by
    intro c' _
    have hF : Fr (· = g) w (w.setCell ⟨g, 0, none⟩ (.slice A' (xs.length - k) (c - k))) := (Fr.refl (· = g) w).setCell (p := ⟨g, 0, none⟩) (.inl rfl) _
    have hr2 : ReadsInt (w.setCell ⟨g, 0, none⟩ (.slice A' (xs.length - k) (c - k))) .u8 A xs.length xs := hF.reads hr fun hn ad e hf => by
      have := hA hn ad e
      have := h.1.hH
      omega
    have hlk : (xs.take k).length = k := by rw [List.length_take]; omega
    refine ⟨A, c', by rw [hgot, hlk], by rw [hgot, hlk]; exact hr2.take_ k hk, ?_, hF⟩
    rw [hrest, hok]
    refine ⟨⟨h.1.hH, small_drop h.1.small k, by simp; omega, A', c - k, ?_, by simp; omega, ?_, ?_⟩, fun e => by cases e⟩
    · simp [World.setCell, Array.getElem?_modify, hh]
    · rw [List.length_drop]; exact hA1 _ xs hc hr2
    · intro hp ad' e
      obtain ⟨ad, e1, e2⟩ := hA2 ad' e
      rw [e2]
      rw [List.length_drop] at hp
      exact hA (by omega) ad e1
  have HE := Lib.hid hend
  clear h hh hr hA hf hgot hrest hok hend hA1 hA2
  go_enter Try.func58, Try.ntmps58
  go_wp2_with fail
  go_ret
  exact HE.out _ (by omega)

theorem take_calls (H g : Nat) (xs : List Int) (bad : Bool) (k : Nat) (w : World) (h : Rp w H g xs bad) :
    Calls Try.prog 58 #[.pointer (some ⟨g, 0, none⟩), .int .i64 k] w (Took w H g xs bad k) := by
  cases bad with
  | true => exact take_bad H g xs k w h
  | false =>
    by_cases hk : k ≤ xs.length
    · exact take_ok H g xs k w h hk
    · exact take_more H g xs k w h (by omega)

theorem or_byte (x c : Int) (h0 : 0 ≤ x) (h1 : x < 72057594037927936) (c0 : 0 ≤ c) (c1 : c ≤ 255) : bits .or .u64 (x * 256) c = x * 256 + c := by
  obtain ⟨n, rfl⟩ := Int.eq_ofNat_of_zero_le h0
  obtain ⟨m, rfl⟩ := Int.eq_ofNat_of_zero_le c0
  rw [show (n : Int) * 256 = ((n * 256 : Nat) : Int) from by omega, u64_or_nat _ _ (by omega) (by omega)]
  have e : n * 256 ||| m = n * 256 + m := by
    have := Nat.shiftLeft_add_eq_or_of_lt (show m < 2 ^ 8 by omega) n
    rw [Nat.shiftLeft_eq] at this
    exact this.symm
  rw [e]
  omega

/-- what is read as a number -/
def Nummed (P : World → Nat → Nat → List Int → Bool → Prop) (w : World) (H g : Nat) (xs : List Int) (bad : Bool) (k : Nat) (e : Ending) (w' : World) : Prop :=
  e = .returned (.int .i64 (numOf (got xs bad k))) ∧ P w' H g (rest xs bad k) (!takeOk xs bad k) ∧ Fr (· = g) w w'

theorem val_take {l : List Int} (hs : Small l) (h8 : l.length ≤ 8) {t : Nat} (h : t < l.length) : val (l.take (t + 1)) = val (l.take t) * 256 + rd l t ∧ 0 ≤ val (l.take t) ∧ val (l.take t) < 72057594037927936 := by
  obtain ⟨a, b⟩ := val_range (small_take hs t)
  have hl : (l.take t).length = t := by rw [List.length_take]; omega
  rw [hl] at b
  refine ⟨by rw [List.take_succ_eq_append_getElem h, val_snoc, rd_lt h], a, ?_⟩
  have h1 : (256 : Int) ^ t ≤ 256 ^ 7 := by
    have := Nat.pow_le_pow_right (n := 256) (by omega) (show t ≤ 7 by omega)
    have e1 : ((256 ^ t : Nat) : Int) = (256 : Int) ^ t := by simp
    have e2 : ((256 ^ 7 : Nat) : Int) = (256 : Int) ^ 7 := by simp
    omega
  have e3 : (256 : Int) ^ 7 = 72057594037927936 := by decide
  omega

set_option maxHeartbeats 1000000 in
theorem num_get (H g : Nat) (xs : List Int) (bad : Bool) (size : Int) (w : World) (h : Rp w H g xs bad) :
    Calls Try.prog 44 #[.pointer (some ⟨g, 0, none⟩), .int .i64 size] w (Nummed Rp w H g xs bad (clip size 8)) := by
  have hk8 := clip_le size 8 (by omega)
  have hmm := clip_mm size 8 (by omega)
  obtain ⟨k, hk⟩ : ∃ k, k = clip size 8 := ⟨_, rfl⟩
  rw [← hk] at hk8 hmm
  have HK := Lib.hid hk
  clear hk
  have hgs := got_small h.1.small bad k
  have hgl := got_length_le xs bad k
  go_enter Try.func44, Try.ntmps44
  go_wp2_with fail
  refine (take_calls H g xs bad k _ h).mono ?_
  rintro e w1 ⟨A, c, rfl, hr, hp, hf⟩
  obtain ⟨l, hl⟩ : ∃ l, l = got xs bad k := ⟨_, rfl⟩
  rw [← hl] at hgs hgl hr ⊢
  have HL := Lib.hid hl
  clear hl
  go_wp2_with fail
  go_loop [5, 7, 14] (fun n _ i => ∃ t : Nat, t ≤ l.length ∧ n = .int .u64 (val (l.take t)) ∧ i = .int .i64 t) (fun _ _ i => l.length - (intOf i).toNat)
  case atStart => exact ⟨0, Nat.zero_le _, rfl, rfl⟩
  case round =>
    obtain ⟨t, ht, rfl, rfl⟩ := hrel
    by_cases hlt : t < l.length
    · obtain ⟨ad, rfl, hc⟩ := reads_cell hr hlt
      obtain ⟨hv, v0, v1⟩ := val_take hgs (by omega) hlt
      obtain ⟨b0, b1⟩ := hgs t
      have hor := or_byte _ _ v0 v1 b0 b1
      generalize rd l (t : Int) = b at *
      generalize val (l.take t) = x at *
      have HV := Lib.hid hv
      clear hv
      have hw1 : IntKind.u64.wrap (x * 256) = x * 256 := by rw [IntKind.wrap_u64]; omega
      have hw2 : IntKind.u64.wrap b = b := by rw [IntKind.wrap_u64]; omega
      have hi0 : (0 : Int) ≤ (t : Int) := by omega
      have hi1 : (t : Int) < (l.length : Int) := by omega
      go_wp2_with fail
      go_round
      case rel => exact ⟨t + 1, by omega, by rw [HV.out], by go_num⟩
      case measure => simp [intOf]; omega
    · obtain rfl : t = l.length := by omega
      rw [List.take_length]
      go_wp2_with fail
      go_ret
      rw [← HK.out]
      exact ⟨ret_int (by rw [← HL.out]; rfl), hp, hf⟩
end Go.Proofs.Ytehlcljachkgdaa.Field
