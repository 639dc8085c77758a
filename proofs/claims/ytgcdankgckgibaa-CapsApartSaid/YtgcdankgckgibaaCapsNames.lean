/- Walk: CapsNames. -/
import Derived.Test.YtgcdankgckgibaaCapsLive
import Derived.Deep.DeepCutAuto
import Derived.Laws.Strings2
namespace Go.Proofs.Ytgcdankgckgibaa.Caps
open Go.RowKit Go.Proofs.YtgcdankgckgibaaW.PrintWords Go.Proofs.YtgcdankgckgibaaW.PrintLast Go.Proofs.Ytgcdankgckgibaa.Kit Go.Proofs.Ytgcdankgckgibaa.Runes
attribute [local go_sem ↓] ldC
set_option linter.unusedSimpArgs false

/-- the i-th name -/
def nmOf (i : Nat) : ByteArray := (⟨#[97, 98, 99, 100, 101, 102, 103, 104, 105, 106]⟩ : ByteArray).extract i (i + 1)
theorem nm_valid {i : Nat} (h : i < 10) : validB (runes (nmOf i)) = true := by
  rcases (by omega : i = 0 ∨ i = 1 ∨ i = 2 ∨ i = 3 ∨ i = 4 ∨ i = 5 ∨ i = 6 ∨ i = 7 ∨ i = 8 ∨ i = 9) with rfl | rfl | rfl | rfl | rfl | rfl | rfl | rfl | rfl | rfl <;> kernel_rfl
def keyOfNm (i : Nat) : List UInt8 := [(97 + i).toUInt8]
theorem nm_key {i : Nat} (h : i < 10) : (nmOf i).data.toList = keyOfNm i := by
  rcases (by omega : i = 0 ∨ i = 1 ∨ i = 2 ∨ i = 3 ∨ i = 4 ∨ i = 5 ∨ i = 6 ∨ i = 7 ∨ i = 8 ∨ i = 9) with rfl | rfl | rfl | rfl | rfl | rfl | rfl | rfl | rfl | rfl <;> kernel_rfl
theorem key_inj {i j : Nat} (hi : i < 10) (hj : j < 10) (h : keyOfNm i = keyOfNm j) : i = j := by
  simp only [keyOfNm, List.cons.injEq, and_true] at h
  have := congrArg UInt8.toNat h
  simp at this
  omega
/-- a config of this law -/
structure Good (i : Nat) (c : Cfg) : Prop where
  nm : c.nm = nmOf i
  nk : c.nk = 1
  slot : c.slot = 1
  bud : c.bud = 0
  quo : c.quo = 1
  rig : c.rig = 0
  nf : c.nf = 1
theorem Good.right {i : Nat} {c : Cfg} (h : Good i c) (hi : i < 10) : c.right = true := by
  unfold Cfg.right
  rw [h.nm, nm_valid hi, Bool.true_and, decide_eq_true_eq]
  simp [Cfg.fits, h.nk, h.slot, h.bud, h.quo, h.rig, h.nf]
theorem Good.size {i : Nat} {c : Cfg} (h : Good i c) (hi : i < 10) : c.nm.size < 9223372036854775807 := by
  have : c.nm.size = 1 := by
    rw [h.nm, ← ByteArray.size_data, ← Array.length_toList, nm_key hi]; rfl
  omega
def flat (l : List Cfg) : List Value := l.flatMap Cfg.cells
theorem flat_snoc (l : List Cfg) (c : Cfg) : flat (l ++ [c]) = flat l ++ c.cells := by simp [flat]
theorem cells_length (c : Cfg) : c.cells.length = 7 := rfl
theorem flat_length (l : List Cfg) : (flat l).length = l.length * 7 := by
  induction l with
  | nil => rfl
  | cons c l ih => simp only [flat, List.flatMap_cons, List.length_append, List.length_cons, cells_length] at ih ⊢; omega
theorem flat_at : ∀ (l : List Cfg) (i : Nat) (h : i < l.length) (j : Nat) (v : Value), l[i].cells[j]? = some v → (flat l)[i * 7 + j]? = some v
  | c :: l, 0, _, j, v, e => by
    have hj : j < 7 := by
      have := (List.getElem?_eq_some_iff.1 e).1
      simpa [cells_length] using this
    rw [flat, List.flatMap_cons, Nat.zero_mul, Nat.zero_add, List.getElem?_append_left (by rw [cells_length]; exact hj)]
    exact e
  | c :: l, i + 1, h, j, v, e => by
    have ih := flat_at l i (by simpa using h) j v (by simpa using e)
    rw [flat, List.flatMap_cons, List.getElem?_append_right (by rw [cells_length]; omega), cells_length, show (i + 1) * 7 + j - 7 = i * 7 + j by omega]
    exact ih
/-- a row of configs that the call made -/
theorem row_of {W : World} {g : Nat} {l : List Cfg} (h : ∀ j u, (flat l)[j]? = some u → W.cell? ⟨g, j, none⟩ = some u) : CfgRow W (some ⟨g, 0, none⟩) l := fun i hi => by
  refine ⟨_, rfl, fun j v e => ?_⟩
  rw [show ((⟨g, 0, none⟩ : Addr).add (i * 7)).add j = ⟨g, i * 7 + j, none⟩ by unfold Addr.add; split <;> split <;> simp_all]
  exact h _ _ (flat_at l i hi j v e)

set_option maxHeartbeats 4000000 in
set_option maxRecDepth 100000 in
theorem names_out (n a b : Int) (w : World) (h : n < 1 ∨ 10 < n ∨ a < 0 ∨ n ≤ a ∨ b < 0 ∨ n ≤ b) : Calls Try.prog 5 #[.int .i64 n, .int .i64 a, .int .i64 b] w fun e w' => e = .returned (.bool true) ∧ Below w.heap.size w w' := by
  have H := Lib.hid h
  clear h
  go_enter Try.func5, Try.ntmps5
  go_wp2_with fail
  refine (live15 _).mono ?_
  rintro e w1 ⟨rfl, hb⟩
  go_upto_region 4 with fail
  all_goals first
    | (exfalso; have := H.out; omega)
    | (go_ret; exact ⟨rfl, hb⟩)

/-- a call's own row may be written -/
theorem own_free {W : World} {B size n c : Nat} {e : TypeId} {g : Nat} {xs : List Value} (h : W.ownsRow B e size (.slice (some ⟨g, 0, none⟩) n c) n xs) (i : Nat) : W.frozen? ⟨g, i, none⟩ = false := by
  rcases h.2 with ⟨h0, _⟩ | ⟨g', cap, cur, hv, _, hh, _⟩
  · cases h0
  · injection hv with h1 _ _
    injection h1 with h1
    injection h1 with h1
    subst h1
    simp [World.frozen?, hh]
/-- one config's name is another's -/
def rename (l : List Cfg) (a : Nat) (s : ByteArray) : List Cfg := l.modify a fun c => { c with nm := s }
theorem rename_length (l : List Cfg) (a : Nat) (s : ByteArray) : (rename l a s).length = l.length := by simp [rename]
theorem rename_at {l : List Cfg} {a i : Nat} {s : ByteArray} (h : i < (rename l a s).length) : (rename l a s)[i] = if i = a then { (l[i]'(by rw [rename_length] at h; exact h)) with nm := s } else l[i]'(by rw [rename_length] at h; exact h) := by
  simp only [rename, List.getElem_modify]
  by_cases e : a = i
  · rw [if_pos e, if_pos e.symm]
  · rw [if_neg e, if_neg (fun k => e k.symm)]
theorem row_rename {W : World} {g a : Nat} {l : List Cfg} {s : ByteArray} (h : ∀ j u, (flat l)[j]? = some u → W.cell? ⟨g, j, none⟩ = some u) (ha : a < l.length) : CfgRow (W.setCell ⟨g, a * 7, none⟩ (.string s)) (some ⟨g, 0, none⟩) (rename l a s) := fun i hi => by
  have hil : i < l.length := by rw [rename_length] at hi; exact hi
  refine ⟨_, rfl, fun j v e => ?_⟩
  rw [show ((⟨g, 0, none⟩ : Addr).add (i * 7)).add j = ⟨g, i * 7 + j, none⟩ by unfold Addr.add; split <;> split <;> simp_all]
  rw [rename_at hi] at e
  have hj : j < 7 := by
    have := (List.getElem?_eq_some_iff.1 e).1
    split at this <;> simpa [cells_length] using this
  by_cases hia : i = a
  · rw [if_pos hia] at e
    subst hia
    cases j with
    | zero =>
      have : v = .string s := by simpa [Cfg.cells] using e.symm
      subst this
      exact World.cell?_setCell_same W _ _ (h (i * 7) (.string l[i].nm) (flat_at l i hil 0 _ rfl))
    | succ j =>
      rw [World.cell?_setCell_other W ⟨g, i * 7, none⟩ ⟨g, i * 7 + (j + 1), none⟩ _ (fun k => by injection k with _ k _; omega)]
      exact h _ _ (flat_at l i hil (j + 1) v e)
  · rw [if_neg hia] at e
    rw [World.cell?_setCell_other W ⟨g, a * 7, none⟩ ⟨g, i * 7 + j, none⟩ _ (fun k => by injection k with _ k _; omega)]
    exact h _ _ (flat_at l i hil j v e)
theorem rename_right {l : List Cfg} {a b n : Nat} (hl : l.length = n) (h10 : n ≤ 10) (hg : ∀ j (h : j < l.length), Good j l[j]) (hb : b < n) : (rename l a (nmOf b)).all Cfg.right = true := by
  refine all_of fun i hi => ?_
  have hil : i < l.length := by rw [rename_length] at hi; exact hi
  rw [rename_at hi]
  have h1 := hg i hil
  split
  · have : Good b { l[i] with nm := nmOf b } := ⟨rfl, h1.nk, h1.slot, h1.bud, h1.quo, h1.rig, h1.nf⟩
    exact this.right (by omega)
  · exact h1.right (by omega)
theorem rename_size {l : List Cfg} {a b n : Nat} (hl : l.length = n) (h10 : n ≤ 10) (hg : ∀ j (h : j < l.length), Good j l[j]) (hb : b < n) : ∀ i (h : i < (rename l a (nmOf b)).length), (rename l a (nmOf b))[i].nm.size < 9223372036854775807 := by
  intro i hi
  have hil : i < l.length := by rw [rename_length] at hi; exact hi
  rw [rename_at hi]
  have h1 := hg i hil
  split
  · have : Good b { l[i] with nm := nmOf b } := ⟨rfl, h1.nk, h1.slot, h1.bud, h1.quo, h1.rig, h1.nf⟩
    exact this.size (by omega)
  · exact h1.size (by omega)
theorem rename_key {l : List Cfg} {a b n i : Nat} (hl : l.length = n) (h10 : n ≤ 10) (hg : ∀ j (h : j < l.length), Good j l[j]) (hb : b < n) (hi : i < (rename l a (nmOf b)).length) : (rename l a (nmOf b))[i].nm.data.toList = keyOfNm (if i = a then b else i) := by
  have hil : i < l.length := by rw [rename_length] at hi; exact hi
  rw [rename_at hi]
  split
  · exact nm_key (by omega)
  · rw [(hg i hil).nm]
    exact nm_key (by omega)
theorem names_get {l : List Cfg} {i : Nat} (h : i < (namesOf l).length) : (namesOf l)[i] = (l[i]'(by rw [namesOf_length] at h; exact h)).nm.data.toList := by simp [namesOf]
theorem rename_E {l : List Cfg} {a b n : Nat} (hl : l.length = n) (h1 : 1 ≤ n) (h10 : n ≤ 10) (hg : ∀ j (h : j < l.length), Good j l[j]) (ha : a < n) (hb : b < n) : dealE (rename l a (nmOf b)) = if 8 < n then 1 else if a = b then 0 else 7 := by
  have hlen := rename_length l a (nmOf b)
  by_cases h8 : 8 < n
  · rw [if_pos h8]
    exact dealE_len (by omega)
  · rw [if_neg h8]
    have hr := rename_right (a := a) hl h10 hg hb
    by_cases e : a = b
    · rw [if_pos e]
      refine dealE_yes (by omega) (by omega) hr ?_
      show List.Pairwise (· ≠ ·) _
      rw [List.pairwise_iff_getElem]
      intro i j hi hj hij
      rw [namesOf_length] at hi hj
      rw [names_get, names_get, rename_key hl h10 hg hb hi, rename_key hl h10 hg hb hj]
      intro k
      have := key_inj (by split <;> omega) (by split <;> omega) k
      split at this <;> split at this <;> omega
    · rw [if_neg e]
      refine dealE_same (by omega) (by omega) hr ?_
      intro hn
      have hi : a < (rename l a (nmOf b)).length := by omega
      have hj : b < (rename l a (nmOf b)).length := by omega
      have hn : List.Pairwise (· ≠ ·) (namesOf (rename l a (nmOf b))) := hn
      rw [List.pairwise_iff_getElem] at hn
      rcases Nat.lt_or_gt_of_ne e with h | h
      · refine hn a b (by rw [namesOf_length]; exact hi) (by rw [namesOf_length]; exact hj) h ?_
        rw [names_get, names_get, rename_key hl h10 hg hb hi, rename_key hl h10 hg hb hj, if_pos rfl, if_neg (fun k => e k.symm)]
      · refine hn b a (by rw [namesOf_length]; exact hj) (by rw [namesOf_length]; exact hi) h ?_
        rw [names_get, names_get, rename_key hl h10 hg hb hi, rename_key hl h10 hg hb hj, if_pos rfl, if_neg (fun k => e k.symm)]
/-- what the loop keeps -/
structure NamesAt (w wr : World) (k : Nat) (l : List Cfg) (v : Value) : Prop where
  len : l.length = k
  good : ∀ j (h : j < l.length), Good j l[j]
  own : wr.ownsRow w.heap.size 35 7 v k (flat l)
  below : Below w.heap.size w wr
def NamesRel (w wr : World) (n : Nat) (v i : Value) : Prop := ∃ (k : Nat) (l : List Cfg), k ≤ n ∧ i = .int .i64 k ∧ NamesAt w wr k l v
theorem NamesAt.snoc {w wr w2 : World} {k : Nat} {l : List Cfg} {v v1 : Value} {c : Cfg} (h : NamesAt w wr k l v) (hc : Good k c) (ho : w2.ownsRow w.heap.size 35 7 v1 (k + 1) (flat l ++ c.cells)) (hb : Below w.heap.size w w2) : NamesAt w w2 (k + 1) (l ++ [c]) v1 := by
  refine ⟨by simp [h.len], fun j hj => ?_, by rw [flat_snoc]; exact ho, hb⟩
  rcases Nat.lt_or_ge j l.length with hl | hl
  · rw [List.getElem_append_left hl]; exact h.good j hl
  · rw [List.getElem_append_right hl]
    obtain rfl : j = k := by simp at hj; have := h.len; omega
    simpa using hc
set_option maxHeartbeats 8000000 in
set_option maxRecDepth 100000 in
theorem names_in (n a b : Nat) (w : World) (h1 : 1 ≤ n) (h10 : n ≤ 10) (ha : a < n) (hb : b < n) : Calls Try.prog 5 #[.int .i64 n, .int .i64 a, .int .i64 b] w fun e w' => e = .returned (.bool true) ∧ Below w.heap.size w w' := by
  have kc := fun (w : World) (C : Array Value) (n c : Nat) => Lib.run_convert_bytes_const (P := Try.prog) w 33 5 C n c Try.underlying33 Try.underlying5
  go_enter Try.func5, Try.ntmps5
  go_wp2_with fail
  refine (live15 _).mono ?_
  rintro e w1 ⟨rfl, hb1⟩
  have HB := Lib.hid hb1
  clear hb1
  go_wp2_with fail
  go_loopw [8, 9] (fun v i wr => NamesRel w1 wr n v i) (fun _ i _ => n - (intOf i).toNat)
  case atStart => exact ⟨0, [], Nat.zero_le _, rfl, rfl, fun j h => absurd h (by simp), World.ownsRow_nil _ _ _ _, Below.refl _ _⟩
  case round =>
    obtain ⟨k, l, hk, rfl, hat⟩ := hrel
    obtain ⟨hl, hg, ho, hbw⟩ := hat
    have HAT0 := Lib.hid (NamesAt.mk hl hg ho hbw)
    have HL := Lib.hid hl
    have HG := Lib.hid hg
    have HO := Lib.hid ho
    have HW := Lib.hid hbw
    clear hl hg ho hbw
    by_cases hlt : k < n
    · have kd := Go.Joins.run_convert_bytes_const_at (P := Try.prog) (wr.alloc (.cells #[.int .u8 107] 5 (1, 2))) 33 5 #[.int .u8 120] 1 1 (wr.heap.size + 1) (by simp) Try.underlying33 Try.underlying5
      have hsl : (Instr.slice 9 (.string ⟨#[97, 98, 99, 100, 101, 102, 103, 104, 105, 106]⟩) (some (.int .i64 k)) (some (.int .i64 (k + 1))) none).run Try.prog wr = .ok (.string (nmOf k)) wr := by
        rw [run_slice_string wr 9 _ .i64 .i64 (k : Int) ((k : Int) + 1) Try.underlying9 (by omega) (by omega) (by have : (⟨#[97, 98, 99, 100, 101, 102, 103, 104, 105, 106]⟩ : ByteArray).size = 10 := rfl; omega)]
        rw [Int.toNat_natCast, show ((k : Int) + 1).toNat = k + 1 by omega]
        rfl
      obtain ⟨c, hc⟩ : ∃ c : Cfg, c = ⟨nmOf k, some ⟨wr.heap.size, 0, none⟩, 1, 1, 1, 0, 1, 0, some ⟨wr.heap.size + 1, 0, none⟩, 1, 1⟩ := ⟨_, rfl⟩
      have hown := own_below' (own_below' (own_below' HO.out (below_alloc1 wr (.cells #[.int .u8 107] 5 (1, 2)))) (below_alloc1 _ (.cells #[.int .u8 120] 5 (1, 2)))) (below_alloc1 _ (.cells #[.string c.nm, .slice c.ka c.nk c.kc, .int .i64 c.slot, .int .i64 c.bud, .int .i64 c.quo, .int .i64 c.rig, .slice c.fa c.nf c.fc] 35))
      have hat := box_at ((wr.alloc (.cells #[.int .u8 107] 5 (1, 2))).alloc (.cells #[.int .u8 120] 5 (1, 2))) c
      have hsz : ((wr.alloc (.cells #[.int .u8 107] 5 (1, 2))).alloc (.cells #[.int .u8 120] 5 (1, 2))).heap.size = wr.heap.size + 1 + 1 := by simp
      rw [hsz] at hat
      have hgc : Good k c := by subst hc; exact ⟨rfl, rfl, rfl, rfl, rfl, rfl, rfl⟩
      have HGC := Lib.hid hgc
      have hb3 := below_alloc3 wr (.cells #[.int .u8 107] 5 (1, 2)) (.cells #[.int .u8 120] 5 (1, 2)) (.cells #[.string c.nm, .slice c.ka c.nk c.kc, .int .i64 c.slot, .int .i64 c.bud, .int .i64 c.quo, .int .i64 c.rig, .slice c.fa c.nf c.fc] 35)
      have HB3 := Lib.hid hb3
      rw [hc] at hown hat HB3
      have HOWN := Lib.hid hown
      have HAT := Lib.hid hat
      have HC := Lib.hid hc
      have hws := HW.out.size
      clear hown hat hc hgc hb3 hsz
      go_wp2_with (first
        | (at_builtin
           refine list_own w1.heap.size 7 96 rfl (.tmp 47) (.tmp 57) 22 35 rfl Try.underlying22 infoCfg (by decide) _ k (flat l) ⟨wr.heap.size + 1 + 1, 0, none⟩ 1 1 (Cfg.cells ⟨nmOf k, some ⟨wr.heap.size, 0, none⟩, 1, 1, 1, 0, 1, 0, some ⟨wr.heap.size + 1, 0, none⟩, 1, 1⟩) rfl rfl HOWN.out rfl HAT.out (by intro u hu; simp [Cfg.cells] at hu; rcases hu with rfl | rfl | rfl | rfl | rfl | rfl | rfl <;> rfl) (by unfold maxLen; omega) (by omega) (by simp; omega) ?_
           intro v1 w2 own1 hg1 _
           have HO1 := Lib.hid own1
           have HG1 := Lib.hid hg1
           clear own1 hg1)
        | fail)
      go_roundw
      case rel => exact ⟨k + 1, l ++ [c], by omega, by go_num, HAT0.out.snoc HGC.out (by rw [HC.out]; exact HO1.out) (below_grown (HW.out.trans (HB3.out.mono hws)) HG1.out (fun b e => (own_ge HO.out e).1) (Nat.le_trans hws HB3.out.size))⟩
      case measure => simp [intOf]; omega
    · obtain rfl : n = k := by omega
      clear hlt hk
      obtain ⟨g, cap, rfl, hg1, hg2, hcap, hcell⟩ := own_open HO.out (by omega)
      have hln := HL.out
      have hna := hcell (a * 7) (.string (nmOf a)) (flat_at l a (by omega) 0 _ (by rw [← (HG.out a (by omega)).nm]; rfl))
      have hnb := hcell (b * 7) (.string (nmOf b)) (flat_at l b (by omega) 0 _ (by rw [← (HG.out b (by omega)).nm]; rfl))
      have hfa := own_free HO.out (a * 7)
      have hrow := row_rename (s := nmOf b) hcell (a := a) (by omega)
      have hE := rename_E hln h1 h10 HG.out ha hb
      have hsm := rename_size (a := a) hln h10 HG.out hb
      have HROW := Lib.hid hrow
      have HE := Lib.hid hE
      have HSM := Lib.hid hsm
      have hge : w1.heap.size ≤ g := hg1
      clear hcell hrow hE hsm HO hln hg1
      go_wp2_with fail
      refine (deal_calls _ n cap (rename l a (nmOf b)) _ (by rw [rename_length]; exact HL.out) HROW.out HSM.out).mono ?_
      rintro e w3 ⟨hb3, v3, rfl, -, -⟩
      have HB3 := Lib.hid (HB.out.trans ((((HW.out.setCell (p := ⟨g, a * 7, none⟩) hge (.string (nmOf b)))).trans (hb3.mono (HW.out.setCell (p := ⟨g, a * 7, none⟩) hge (.string (nmOf b))).size)).mono HB.out.size))
      rw [HE.out]
      clear hb3
      by_cases h8 : 8 < n
      · rw [if_pos h8]
        go_wp2_with fail
        refine (num_calls _ _).mono ?_
        rintro e w4 ⟨rfl, rfl⟩
        go_wp2_with fail
        go_ret
        exact ⟨rfl, HB3.out⟩
      · rw [if_neg h8]
        by_cases hab : a = b
        · rw [if_pos hab]
          have hq : ((a : Int) != b) = false := by simp [hab]
          go_wp2_with fail
          refine (num_calls _ _).mono ?_
          rintro e w4 ⟨rfl, rfl⟩
          go_wp2_with fail
          go_ret
          exact ⟨rfl, HB3.out⟩
        · rw [if_neg hab]
          have hq : ((a : Int) != b) = true := by simp; omega
          go_wp2_with fail
          refine (num_calls _ _).mono ?_
          rintro e w4 ⟨rfl, rfl⟩
          go_wp2_with fail
          go_ret
          exact ⟨rfl, HB3.out⟩
theorem names_any (n a b : Int) (w : World) : Calls Try.prog 5 #[.int .i64 n, .int .i64 a, .int .i64 b] w fun e w' => e = .returned (.bool true) ∧ Below w.heap.size w w' := by
  by_cases h : n < 1 ∨ 10 < n ∨ a < 0 ∨ n ≤ a ∨ b < 0 ∨ n ≤ b
  · exact names_out n a b w h
  · obtain ⟨n, rfl⟩ : ∃ k : Nat, n = k := ⟨n.toNat, by omega⟩
    obtain ⟨a, rfl⟩ : ∃ k : Nat, a = k := ⟨a.toNat, by omega⟩
    obtain ⟨b, rfl⟩ : ∃ k : Nat, b = k := ⟨b.toNat, by omega⟩
    exact names_in n a b w (by omega) (by omega) (by omega) (by omega)
end Go.Proofs.Ytgcdankgckgibaa.Caps
