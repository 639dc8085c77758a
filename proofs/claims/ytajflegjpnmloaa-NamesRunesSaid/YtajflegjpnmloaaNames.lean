/- names.Count, names.Clean and the reference's: what they give. -/
import Derived.Test.YtajflegjpnmloaaRunes
import Derived.WalkLawsBesides
import Derived.Laws.Cover4
import Derived.WalkSmall
import Derived.Lib.OthersKept
namespace Go.Proofs.Ytajflegjpnmloaa.Names
open Go.RowKit Go.Proofs.YtajflegjpnmloaaW.PrintWords Go.Proofs.YtajflegjpnmloaaW.PrintLast Go.Proofs.Ytajflegjpnmloaa.Kit Go.Proofs.Ytajflegjpnmloaa.Runes

def smallI (c : Int) : Int := if (65 ≤ c ∧ c ≤ 90) ∨ (913 ≤ c ∧ c ≤ 937 ∧ c ≠ 930) then c + 32 else c
def cleanL (l : List Int) : List Int := ((l.map smallI).filter mayB).take 8
theorem cleanL_length (l : List Int) : (cleanL l).length ≤ 8 := List.length_take_le _ _
theorem cleanL_add {l : List Int} {c : Int} (h : mayB (smallI c) = true) (h8 : (cleanL l).length < 8) : cleanL (l ++ [c]) = cleanL l ++ [smallI c] := by
  have hl : ((l.map smallI).filter mayB).length < 8 := by
    unfold cleanL at h8
    rw [List.length_take] at h8
    omega
  unfold cleanL
  rw [List.map_append, List.filter_append, List.take_of_length_le (by simp [h]; omega), List.take_of_length_le (by omega)]
  simp [h]
theorem cleanL_full {l : List Int} {c : Int} (h8 : ¬ (cleanL l).length < 8) : cleanL (l ++ [c]) = cleanL l := by
  have hl : 8 ≤ ((l.map smallI).filter mayB).length := by
    unfold cleanL at h8
    rw [List.length_take] at h8
    omega
  unfold cleanL
  rw [List.map_append, List.filter_append, List.take_append_of_le_length hl]
theorem cleanL_skip {l : List Int} {c : Int} (h : mayB (smallI c) = false) : cleanL (l ++ [c]) = cleanL l := by
  unfold cleanL
  rw [List.map_append, List.filter_append]
  simp [h]

theorem seven' (c : Int) : c < 65 ∨ (65 ≤ c ∧ c ≤ 90) ∨ (90 < c ∧ c < 913) ∨ (913 ≤ c ∧ c < 930) ∨ c = 930 ∨ (930 < c ∧ c ≤ 937) ∨ 937 < c := by omega

theorem small (c : Int) (w : World) (h0 : 0 ≤ c) (h1 : c ≤ 2147483647) : Calls Try.prog 45 #[.int .i32 c] w fun e w' => e = .returned (.int .i32 (smallI c)) ∧ w = w' := by
  rcases seven' c with h | ⟨h, h'⟩ | ⟨h, h'⟩ | ⟨h, h'⟩ | h | ⟨h, h'⟩ | h
  all_goals
    have hw : c < 1000 → IntKind.i32.wrap (c + 32) = c + 32 := fun _ => by rw [IntKind.wrap_i32]; omega
    first | have hne : (c != 930) = true := (by simp; omega) | skip
    go_enter Try.func45, Try.ntmps45
    go_wp2_with fail
    go_ret
    first
    | exact ⟨(show Ending.returned (.int .i32 c) = _ by rw [show smallI c = c from by simp only [smallI]; rw [if_neg (by omega)]]), rfl⟩
    | (have e : smallI c = c + 32 := by (simp only [smallI]; rw [if_pos (by omega)])
       rw [e]
       first
       | exact ⟨rfl, rfl⟩
       | exact ⟨(show Ending.returned (.int .i32 (IntKind.i32.wrap (c + 32))) = _ by rw [hw (by omega)]), rfl⟩)

set_option maxHeartbeats 1000000 in
set_option maxRecDepth 100000 in
theorem valid_ref (s : ByteArray) (w : World) (hs : s.size < 9223372036854775807) :
    Calls Try.prog 27 #[.string s] w fun e w' => e = .returned (.bool (validB (runes s))) ∧ Below w.heap.size w w' := by
  go_enter Try.func27, Try.ntmps27
  go_wp2_with fail
  go_loopw [3] (fun n w' => ∃ (pos b : Nat) (pre : List Int), w' = w.iter s pos ∧ n = .int .i64 pre.length ∧ runes s = pre ++ runesFrom s b pos ∧ pre.all mayB = true ∧ s.size ≤ pos + b ∧ pre.length ≤ pos) (fun _ w' => s.size - w'.iterPos w.heap.size)
  case atStart => exact ⟨0, s.size, [], rfl, rfl, rfl, rfl, by omega, Nat.le_refl _⟩
  case round =>
    obtain ⟨pos, b, pre, rfl, rfl, hc, hm, hb, ha⟩ := hrel
    have HC := Lib.hid hc
    have HM := Lib.hid hm
    clear hc hm
    by_cases hp : pos < s.size
    · have hnx : ∀ ty, (Instr.next (.pointer (some ⟨w.heap.size, 0, none⟩)) true ty).run Try.prog (w.iter s pos) = _ := fun ty => run_next_any w s pos ty hp
      have hwd := decode_width s pos hp
      obtain ⟨b, rfl⟩ : ∃ b', b = b' + 1 := ⟨b - 1, by omega⟩
      have hr : runesFrom s (b + 1) pos = ((Utf8.decode s pos).1 : Int) :: runesFrom s b (pos + (Utf8.decode s pos).2) := by simp [runesFrom, hp]
      have HR := Lib.hid hr
      clear hr
      cases hy : mayB ((Utf8.decode s pos).1 : Int) with
      | true =>
        have HY := Lib.hid hy
        clear hy
        go_wp2_with (first | (go_at_call 44; refine (good _ _).mono ?_; rintro e w' ⟨rfl, rfl⟩; rw [HY.out]))
        go_roundw
        case rel => exact ⟨_, b, pre ++ [((Utf8.decode s pos).1 : Int)], rfl, by simp, by rw [HC.out, HR.out]; simp, by simp [HM.out, HY.out], by omega, by simp; omega⟩
        case measure => simp; omega
      | false =>
        have HY := Lib.hid hy
        clear hy
        go_wp2_with (first | (go_at_call 44; refine (good _ _).mono ?_; rintro e w' ⟨rfl, rfl⟩; rw [HY.out]))
        go_ret
        exact ⟨by rw [HC.out, HR.out]; simp [validB, HY.out], (Below.refl _ _).alloc (Nat.le_refl _) _⟩
    · have hnx : ∀ ty, (Instr.next (.pointer (some ⟨w.heap.size, 0, none⟩)) true ty).run Try.prog (w.iter s pos) = _ := fun ty => run_next_end w s pos ty hp
      have he := runesFrom_end s b pos hp
      have hl : runes s = pre := by rw [HC.out, he, List.append_nil]
      have HL := Lib.hid hl
      clear he hl
      by_cases h1 : 1 ≤ pre.length
      · by_cases h8 : pre.length ≤ 8
        · go_wp2_with fail
          go_ret
          exact ⟨by rw [HL.out, valid_yes HM.out h1 h8]; simp; try omega, (Below.refl _ _).alloc (Nat.le_refl _) _⟩
        · go_wp2_with fail
          go_ret
          exact ⟨by rw [HL.out, valid_long h8]; simp; try omega, (Below.refl _ _).alloc (Nat.le_refl _) _⟩
      · go_wp2_with fail
        go_ret
        exact ⟨by rw [HL.out, valid_none h1]; simp; try omega, (Below.refl _ _).alloc (Nat.le_refl _) _⟩

theorem runeCount (s : ByteArray) (w : World) (hs : s.size < 9223372036854775807) :
    Calls Try.prog 42 #[.string s] w fun e w' => e = .returned (.int .i64 (runes s).length) ∧ Below w.heap.size w w' := by
  go_enter Try.func42, Try.ntmps42
  go_wp2_with fail
  go_loopw [2] (fun n w' => ∃ (pos b : Nat) (pre : List Int), w' = w.iter s pos ∧ n = .int .i64 pre.length ∧ runes s = pre ++ runesFrom s b pos ∧ s.size ≤ pos + b ∧ pre.length ≤ pos) (fun _ w' => s.size - w'.iterPos w.heap.size)
  case atStart => exact ⟨0, s.size, [], rfl, rfl, rfl, by omega, Nat.le_refl _⟩
  case round =>
    obtain ⟨pos, b, pre, rfl, rfl, hc, hb, ha⟩ := hrel
    have HC := Lib.hid hc
    clear hc
    by_cases hp : pos < s.size
    · have hnx : ∀ ty, (Instr.next (.pointer (some ⟨w.heap.size, 0, none⟩)) true ty).run Try.prog (w.iter s pos) = _ := fun ty => run_next_any w s pos ty hp
      have hwd := decode_width s pos hp
      obtain ⟨b, rfl⟩ : ∃ b', b = b' + 1 := ⟨b - 1, by omega⟩
      have hr : runesFrom s (b + 1) pos = ((Utf8.decode s pos).1 : Int) :: runesFrom s b (pos + (Utf8.decode s pos).2) := by simp [runesFrom, hp]
      have HR := Lib.hid hr
      clear hr
      go_wp2_with fail
      go_roundw
      case rel => exact ⟨_, b, pre ++ [((Utf8.decode s pos).1 : Int)], rfl, by simp, by rw [HC.out, HR.out]; simp, by omega, by simp; omega⟩
      case measure => simp; omega
    · have hnx : ∀ ty, (Instr.next (.pointer (some ⟨w.heap.size, 0, none⟩)) true ty).run Try.prog (w.iter s pos) = _ := fun ty => run_next_end w s pos ty hp
      have he := runesFrom_end s b pos hp
      have hl : runes s = pre := by rw [HC.out, he, List.append_nil]
      have HL := Lib.hid hl
      clear he hl
      go_wp2_with fail
      go_ret
      exact ⟨by rw [HL.out]; rfl, (Below.refl _ _).alloc (Nat.le_refl _) _⟩
theorem count_ref (s : ByteArray) (w : World) (hs : s.size < 9223372036854775807) :
    Calls Try.prog 25 #[.string s] w fun e w' => e = .returned (.int .i64 (runes s).length) ∧ Below w.heap.size w w' := by
  go_enter Try.func25, Try.ntmps25
  go_wp2_with fail
  go_loopw [3] (fun n w' => ∃ (pos b : Nat) (pre : List Int), w' = w.iter s pos ∧ n = .int .i64 pre.length ∧ runes s = pre ++ runesFrom s b pos ∧ s.size ≤ pos + b ∧ pre.length ≤ pos) (fun _ w' => s.size - w'.iterPos w.heap.size)
  case atStart => exact ⟨0, s.size, [], rfl, rfl, rfl, by omega, Nat.le_refl _⟩
  case round =>
    obtain ⟨pos, b, pre, rfl, rfl, hc, hb, ha⟩ := hrel
    have HC := Lib.hid hc
    clear hc
    by_cases hp : pos < s.size
    · have hnx : ∀ ty, (Instr.next (.pointer (some ⟨w.heap.size, 0, none⟩)) true ty).run Try.prog (w.iter s pos) = _ := fun ty => run_next_any w s pos ty hp
      have hwd := decode_width s pos hp
      obtain ⟨b, rfl⟩ : ∃ b', b = b' + 1 := ⟨b - 1, by omega⟩
      have hr : runesFrom s (b + 1) pos = ((Utf8.decode s pos).1 : Int) :: runesFrom s b (pos + (Utf8.decode s pos).2) := by simp [runesFrom, hp]
      have HR := Lib.hid hr
      clear hr
      go_wp2_with fail
      go_roundw
      case rel => exact ⟨_, b, pre ++ [((Utf8.decode s pos).1 : Int)], rfl, by simp, by rw [HC.out, HR.out]; simp, by omega, by simp; omega⟩
      case measure => simp; omega
    · have hnx : ∀ ty, (Instr.next (.pointer (some ⟨w.heap.size, 0, none⟩)) true ty).run Try.prog (w.iter s pos) = _ := fun ty => run_next_end w s pos ty hp
      have he := runesFrom_end s b pos hp
      have hl : runes s = pre := by rw [HC.out, he, List.append_nil]
      have HL := Lib.hid hl
      clear he hl
      go_wp2_with fail
      go_ret
      exact ⟨by rw [HL.out]; rfl, (Below.refl _ _).alloc (Nat.le_refl _) _⟩
theorem count (s : ByteArray) (w : World) (hs : s.size < 9223372036854775807) :
    Calls Try.prog 24 #[.string s] w fun e w' => e = .returned (.int .i64 (runes s).length) ∧ Below w.heap.size w w' := by
  go_enter Try.func24, Try.ntmps24
  go_wp2_with (first | (go_at_call 42; refine (runeCount s _ hs).mono ?_; rintro e w1 ⟨rfl, hb⟩))
  go_ret
  exact ⟨rfl, hb⟩

theorem info21 : (Try.prog.info? 21).map (fun i => (i.zero, i.size, i.bytes)) = some (some (.int .i32 0), 1, 4) := by kernel_rfl
theorem conv_runes {w : World} {A : Option Addr} {n : Nat} {xs : List Int} (c : Nat) (h : ReadsInt w .i32 A n xs) : (convert 33 9 (.slice A n c)).run Try.prog w = .ok (.string (runesBytes xs)) w := by
  have hn : xs.length = n := h.1
  rcases Nat.eq_zero_or_pos n with h0 | h0
  · subst h0
    obtain rfl : xs = [] := List.eq_nil_of_length_eq_zero hn
    rcases A with _ | ad
    · exact run_convert_runes_nil w 33 9 21 0 c Try.underlying33 Try.underlying21 Try.underlying9
    · exact run_convert_runes w 33 9 21 ad 0 c [] (Nat.zero_le _) Try.underlying33 Try.underlying21 Try.underlying9 (fun j hj => absurd hj (by simp))
  · obtain ⟨ad, rfl, hc⟩ := h.2.2 h0
    have e := run_convert_runes w 33 9 21 ad n c xs (by omega) Try.underlying33 Try.underlying21 Try.underlying9 (fun j hj => hc j (by omega))
    rw [List.take_of_length_le (by omega)] at e
    exact e
theorem reads_mark32 (w : World) (e : TypeId) (m : Nat × Nat) (xs : List Int) (h : xs.length ≤ 9223372036854775807) :
    ReadsInt (w.alloc (.cells (nums .i32 xs).toArray e m)) .i32 (some ⟨w.heap.size, 0, none⟩) xs.length xs := by
  refine ⟨rfl, h, fun _ => ⟨_, rfl, fun j hj => ?_⟩⟩
  rw [add_plain, World.cell?_alloc_mark]
  simp [nums, hj, List.getD_eq_getElem?_getD]
theorem below_less {B C : Nat} {w w' : World} (h : Below B w w') (k : C ≤ B) : Below C w w' := ⟨h.os, h.tape, h.output, h.size, fun i hi => h.block i (by omega)⟩

set_option maxHeartbeats 2000000 in
set_option maxRecDepth 100000 in
theorem clean (s : ByteArray) (w : World) :
    Calls Try.prog 28 #[.string s] w fun e w' => e = .returned (.string (runesBytes (cleanL (runes s)))) ∧ Below w.heap.size w w' := by
  go_enter Try.func28, Try.ntmps28
  go_wp2_with fail
  go_loopw [3] (fun v wr => ∃ (pos b : Nat) (pre : List Int), wr.heap[w.heap.size]? = some (.stringIter s pos) ∧ wr.ownsRow (w.heap.size + 1) 21 1 v (cleanL pre).length (nums .i32 (cleanL pre)) ∧ Below w.heap.size w wr ∧ w.heap.size + 1 ≤ wr.heap.size ∧ runes s = pre ++ runesFrom s b pos ∧ s.size ≤ pos + b) (fun _ wr => s.size - wr.iterPos w.heap.size)
  case atStart => exact ⟨0, s.size, [], World.iter_heap w s 0, own_nil _ _ _ _, (Below.refl _ _).alloc (Nat.le_refl _) _, (Array.getElem?_eq_some_iff.1 (World.iter_heap w s 0)).1, rfl, by omega⟩
  case round =>
    obtain ⟨pos, b, pre, hit, hown, hbw, hsz, hc, hb⟩ := hrel
    have hpos0 := iterPos_of hit
    have HC := Lib.hid hc
    clear hc
    obtain ⟨A, cv, rfl, hrd⟩ := own_reads hown
    by_cases hp : pos < s.size
    · have hnx : ∀ ty, (Instr.next (.pointer (some ⟨w.heap.size, 0, none⟩)) true ty).run Try.prog wr = _ := fun ty => Lib.run_next_any_at wr w.heap.size s pos ty hit hp
      have hwd := decode_width s pos hp
      have hle := decode_le s pos
      obtain ⟨b, rfl⟩ : ∃ b', b = b' + 1 := ⟨b - 1, by omega⟩
      have hr : runesFrom s (b + 1) pos = ((Utf8.decode s pos).1 : Int) :: runesFrom s b (pos + (Utf8.decode s pos).2) := by simp [runesFrom, hp]
      have hit2 := Lib.iterAt_heap wr w.heap.size s pos (pos + (Utf8.decode s pos).2) hit
      have hbw2 := Lib.below_iterAt hbw (k := w.heap.size) (Nat.le_refl _) s (pos + (Utf8.decode s pos).2)
      have hown2 := ownsRow_iterAt hown (k := w.heap.size) (by omega) s (pos + (Utf8.decode s pos).2)
      have hsz2 : w.heap.size + 1 ≤ (wr.iterAt w.heap.size s (pos + (Utf8.decode s pos).2)).heap.size := by rw [Lib.iterAt_size]; omega
      obtain ⟨W1, hW1⟩ : ∃ W1, W1 = wr.iterAt w.heap.size s (pos + (Utf8.decode s pos).2) := ⟨_, rfl⟩
      rw [← hW1] at hnx hit2 hbw2 hown2 hsz2
      have hcl := cleanL_length pre
      have hc0 : (0 : Int) ≤ ((Utf8.decode s pos).1 : Int) := by omega
      have hc1 : ((Utf8.decode s pos).1 : Int) ≤ 2147483647 := by omega
      generalize hcc : ((Utf8.decode s pos).1 : Int) = cc at *
      have HR := Lib.hid hr
      clear hr hW1 hit hown hbw hcc hrd
      have HO := Lib.hid hown2
      have HI := Lib.hid hit2
      have HB := Lib.hid hbw2
      clear hown2 hit2 hbw2
      cases hy : mayB (smallI cc) with
      | true =>
        by_cases h8 : (cleanL pre).length < 8
        · have hadd := cleanL_add hy h8
          have HA := Lib.hid hadd
          have HY := Lib.hid hy
          clear hadd hy
          go_wp2_with (first
            | (go_at_call 45; refine (small _ _ hc0 hc1).mono ?_; rintro e w' ⟨rfl, rfl⟩)
            | (go_at_call 43; refine (may _ _).mono ?_; rintro e w' ⟨rfl, rfl⟩; rw [HY.out])
            | (at_builtin
               refine print_append_row (w0 := W1) (w.heap.size + 1) rfl (.tmp 20) (.tmp 22) 33 21 .i32 4 rfl Try.underlying33 info21 (by decide) _ (cleanL pre) [smallI cc] (some ⟨_, 0, none⟩) 1 1 rfl rfl (HO.out.alloc _) (reads_mark32 _ 21 (0, 0) [smallI cc] (by simp)) ((Below.refl _ _).alloc hsz2 _) (by simp; omega) (by omega) ?_
               intro v1 w2 own1 hb1 hg1 hat1
               rw [← HA.out] at own1
               have HO1 := Lib.hid own1
               have HB1 := Lib.hid hb1
               clear own1 hb1 hg1 hat1)
            | fail)
          go_roundw
          case rel => exact ⟨_, b, pre ++ [cc], (HB1.out.block w.heap.size (by omega)).trans HI.out, HO1.out, HB.out.trans (below_less HB1.out (by omega)), Nat.le_trans hsz2 HB1.out.size, by rw [HC.out, HR.out]; simp, by omega⟩
          case measure => rw [iterPos_of ((HB1.out.block w.heap.size (by omega)).trans HI.out), hpos0]; omega
        · have hadd := cleanL_full (c := cc) h8
          have HA := Lib.hid hadd
          have HY := Lib.hid hy
          clear hadd hy
          go_wp2_with (first
            | (go_at_call 45; refine (small _ _ hc0 hc1).mono ?_; rintro e w' ⟨rfl, rfl⟩)
            | (go_at_call 43; refine (may _ _).mono ?_; rintro e w' ⟨rfl, rfl⟩; rw [HY.out])
            | fail)
          go_roundw
          case rel => exact ⟨_, b, pre ++ [cc], HI.out, (by rw [HA.out]; exact HO.out), HB.out, hsz2, by rw [HC.out, HR.out]; simp, by omega⟩
          case measure => rw [iterPos_of HI.out, hpos0]; omega
      | false =>
        have hadd := cleanL_skip (l := pre) hy
        have HA := Lib.hid hadd
        have HY := Lib.hid hy
        clear hadd hy
        go_wp2_with (first
          | (go_at_call 45; refine (small _ _ hc0 hc1).mono ?_; rintro e w' ⟨rfl, rfl⟩)
          | (go_at_call 43; refine (may _ _).mono ?_; rintro e w' ⟨rfl, rfl⟩; rw [HY.out])
          | fail)
        go_roundw
        case rel => exact ⟨_, b, pre ++ [cc], HI.out, (by rw [HA.out]; exact HO.out), HB.out, hsz2, by rw [HC.out, HR.out]; simp, by omega⟩
        case measure => rw [iterPos_of HI.out, hpos0]; omega
    · have hnx : ∀ ty, (Instr.next (.pointer (some ⟨w.heap.size, 0, none⟩)) true ty).run Try.prog wr = _ := fun ty => Lib.run_next_end_at wr w.heap.size s pos ty hit hp
      have he := runesFrom_end s b pos hp
      have hl : runes s = pre := by rw [HC.out, he, List.append_nil]
      have HL := Lib.hid hl
      have kc := conv_runes cv hrd
      clear he hl
      go_wp2_with fail
      go_ret
      exact ⟨by rw [HL.out]; rfl, hbw⟩

set_option maxHeartbeats 2000000 in
set_option maxRecDepth 100000 in
theorem clean_ref (s : ByteArray) (w : World) :
    Calls Try.prog 29 #[.string s] w fun e w' => e = .returned (.string (runesBytes (cleanL (runes s)))) ∧ Below w.heap.size w w' := by
  go_enter Try.func29, Try.ntmps29
  go_wp2_with fail
  go_loopw [3] (fun v wr => ∃ (pos b : Nat) (pre : List Int), wr.heap[w.heap.size]? = some (.stringIter s pos) ∧ wr.ownsRow (w.heap.size + 1) 21 1 v (cleanL pre).length (nums .i32 (cleanL pre)) ∧ Below w.heap.size w wr ∧ w.heap.size + 1 ≤ wr.heap.size ∧ runes s = pre ++ runesFrom s b pos ∧ s.size ≤ pos + b) (fun _ wr => s.size - wr.iterPos w.heap.size)
  case atStart => exact ⟨0, s.size, [], World.iter_heap w s 0, own_nil _ _ _ _, (Below.refl _ _).alloc (Nat.le_refl _) _, (Array.getElem?_eq_some_iff.1 (World.iter_heap w s 0)).1, rfl, by omega⟩
  case round =>
    obtain ⟨pos, b, pre, hit, hown, hbw, hsz, hc, hb⟩ := hrel
    have hpos0 := iterPos_of hit
    have HC := Lib.hid hc
    clear hc
    obtain ⟨A, cv, rfl, hrd⟩ := own_reads hown
    by_cases hp : pos < s.size
    · have hnx : ∀ ty, (Instr.next (.pointer (some ⟨w.heap.size, 0, none⟩)) true ty).run Try.prog wr = _ := fun ty => Lib.run_next_any_at wr w.heap.size s pos ty hit hp
      have hwd := decode_width s pos hp
      have hle := decode_le s pos
      obtain ⟨b, rfl⟩ : ∃ b', b = b' + 1 := ⟨b - 1, by omega⟩
      have hr : runesFrom s (b + 1) pos = ((Utf8.decode s pos).1 : Int) :: runesFrom s b (pos + (Utf8.decode s pos).2) := by simp [runesFrom, hp]
      have hit2 := Lib.iterAt_heap wr w.heap.size s pos (pos + (Utf8.decode s pos).2) hit
      have hbw2 := Lib.below_iterAt hbw (k := w.heap.size) (Nat.le_refl _) s (pos + (Utf8.decode s pos).2)
      have hown2 := ownsRow_iterAt hown (k := w.heap.size) (by omega) s (pos + (Utf8.decode s pos).2)
      have hsz2 : w.heap.size + 1 ≤ (wr.iterAt w.heap.size s (pos + (Utf8.decode s pos).2)).heap.size := by rw [Lib.iterAt_size]; omega
      obtain ⟨W1, hW1⟩ : ∃ W1, W1 = wr.iterAt w.heap.size s (pos + (Utf8.decode s pos).2) := ⟨_, rfl⟩
      rw [← hW1] at hnx hit2 hbw2 hown2 hsz2
      have hcl := cleanL_length pre
      have hc0 : (0 : Int) ≤ ((Utf8.decode s pos).1 : Int) := by omega
      have hc1 : ((Utf8.decode s pos).1 : Int) ≤ 2147483647 := by omega
      generalize hcc : ((Utf8.decode s pos).1 : Int) = cc at *
      have HR := Lib.hid hr
      clear hr hW1 hit hown hbw hcc hrd
      have HO := Lib.hid hown2
      have HI := Lib.hid hit2
      have HB := Lib.hid hbw2
      clear hown2 hit2 hbw2
      have hw : cc < 1000 → IntKind.i32.wrap (cc + 32) = cc + 32 := fun _ => by rw [IntKind.wrap_i32]; omega
      obtain ⟨sc, hsc⟩ : ∃ sc, sc = smallI cc := ⟨_, rfl⟩
      have hsm : (sc = cc + 32 ∧ ((65 ≤ cc ∧ cc ≤ 90) ∨ (913 ≤ cc ∧ cc < 930) ∨ (930 < cc ∧ cc ≤ 937))) ∨ (sc = cc ∧ (cc < 65 ∨ (90 < cc ∧ cc < 913) ∨ (930 ≤ cc ∧ cc ≤ 930) ∨ 937 < cc)) := by
        rw [hsc]; unfold smallI; split <;> omega
      cases hy : mayB (smallI cc) with
      | true =>
        by_cases h8 : (cleanL pre).length < 8
        · have hadd := cleanL_add hy h8
          have HA := Lib.hid hadd
          have HY := Lib.hid hy
          clear hadd hy
          rw [← hsc] at HY
          try rw [← hsc] at HA
          clear hsc
          rcases hsm with ⟨hE, ⟨h, h'⟩ | ⟨h, h'⟩ | ⟨h, h'⟩⟩ | ⟨hE, h | ⟨h, h'⟩ | ⟨h, h'⟩ | h⟩
          all_goals
            first | have hne : (cc != 930) = true := (by simp; omega) | have hne : (cc != 930) = false := (by simp; omega)
            (rw [hE] at HY; try rw [hE] at HA)
            clear hw
            go_wp2_with (first
              | (go_at_call 44; refine (good _ _).mono ?_; rintro e w' ⟨rfl, rfl⟩; rw [HY.out])
              | (at_builtin
                 first
                 | (refine print_append_row (w0 := W1) (w.heap.size + 1) rfl (.tmp 38) (.tmp 40) 33 21 .i32 4 rfl Try.underlying33 info21 (by decide) _ (cleanL pre) [cc + 32] (some ⟨_, 0, none⟩) 1 1 rfl rfl (HO.out.alloc _) (reads_mark32 _ 21 (0, 0) [cc + 32] (by simp)) ((Below.refl _ _).alloc hsz2 _) (by simp; omega) (by omega) ?_)
                 | (refine print_append_row (w0 := W1) (w.heap.size + 1) rfl (.tmp 38) (.tmp 40) 33 21 .i32 4 rfl Try.underlying33 info21 (by decide) _ (cleanL pre) [cc] (some ⟨_, 0, none⟩) 1 1 rfl rfl (HO.out.alloc _) (reads_mark32 _ 21 (0, 0) [cc] (by simp)) ((Below.refl _ _).alloc hsz2 _) (by simp; omega) (by omega) ?_)
                 intro v1 w2 own1 hb1 hg1 hat1
                 rw [← HA.out] at own1
                 have HO1 := Lib.hid own1
                 have HB1 := Lib.hid hb1
                 clear own1 hb1 hg1 hat1)
              | fail)
            go_roundw
            case rel => exact ⟨_, b, pre ++ [cc], (HB1.out.block w.heap.size (by omega)).trans HI.out, HO1.out, HB.out.trans (below_less HB1.out (by omega)), Nat.le_trans hsz2 HB1.out.size, by rw [HC.out, HR.out]; simp, by omega⟩
            case measure => rw [iterPos_of ((HB1.out.block w.heap.size (by omega)).trans HI.out), hpos0]; omega
        · have hadd := cleanL_full (c := cc) h8
          have HA := Lib.hid hadd
          have HY := Lib.hid hy
          clear hadd hy
          rw [← hsc] at HY
          try rw [← hsc] at HA
          clear hsc
          rcases hsm with ⟨hE, ⟨h, h'⟩ | ⟨h, h'⟩ | ⟨h, h'⟩⟩ | ⟨hE, h | ⟨h, h'⟩ | ⟨h, h'⟩ | h⟩
          all_goals
            first | have hne : (cc != 930) = true := (by simp; omega) | have hne : (cc != 930) = false := (by simp; omega)
            (rw [hE] at HY; try rw [hE] at HA)
            clear hw
            go_wp2_with (first
              | (go_at_call 44; refine (good _ _).mono ?_; rintro e w' ⟨rfl, rfl⟩; rw [HY.out])
              | fail)
            go_roundw
            case rel => exact ⟨_, b, pre ++ [cc], HI.out, (by rw [HA.out]; exact HO.out), HB.out, hsz2, by rw [HC.out, HR.out]; simp, by omega⟩
            case measure => rw [iterPos_of HI.out, hpos0]; omega
      | false =>
        have hadd := cleanL_skip (l := pre) hy
        have HA := Lib.hid hadd
        have HY := Lib.hid hy
        clear hadd hy
        rw [← hsc] at HY
        try rw [← hsc] at HA
        clear hsc
        rcases hsm with ⟨hE, ⟨h, h'⟩ | ⟨h, h'⟩ | ⟨h, h'⟩⟩ | ⟨hE, h | ⟨h, h'⟩ | ⟨h, h'⟩ | h⟩
        all_goals
          first | have hne : (cc != 930) = true := (by simp; omega) | have hne : (cc != 930) = false := (by simp; omega)
          (rw [hE] at HY; try rw [hE] at HA)
          clear hw
          go_wp2_with (first
            | (go_at_call 44; refine (good _ _).mono ?_; rintro e w' ⟨rfl, rfl⟩; rw [HY.out])
            | fail)
          go_roundw
          case rel => exact ⟨_, b, pre ++ [cc], HI.out, (by rw [HA.out]; exact HO.out), HB.out, hsz2, by rw [HC.out, HR.out]; simp, by omega⟩
          case measure => rw [iterPos_of HI.out, hpos0]; omega
    · have hnx : ∀ ty, (Instr.next (.pointer (some ⟨w.heap.size, 0, none⟩)) true ty).run Try.prog wr = _ := fun ty => Lib.run_next_end_at wr w.heap.size s pos ty hit hp
      have he := runesFrom_end s b pos hp
      have hl : runes s = pre := by rw [HC.out, he, List.append_nil]
      have HL := Lib.hid hl
      have kc := conv_runes cv hrd
      clear he hl
      go_wp2_with fail
      go_ret
      exact ⟨by rw [HL.out]; rfl, hbw⟩
end Go.Proofs.Ytajflegjpnmloaa.Names
