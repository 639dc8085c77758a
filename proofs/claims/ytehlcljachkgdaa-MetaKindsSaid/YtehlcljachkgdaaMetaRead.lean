/- Walks: what is kept, read: meta.Read, and the reference's. -/
import Derived.Test.YtehlcljachkgdaaMetaBehind
namespace Go.Proofs.Ytehlcljachkgdaa.Boot
open Go.RowKit Go.Proofs.YtehlcljachkgdaaW.PrintWords Go.Proofs.YtehlcljachkgdaaW.PrintLast Go.Proofs.Ytehlcljachkgdaa.Kit Go.Proofs.Ytehlcljachkgdaa.Field
attribute [local go_sem ↓] ldI ldM stI stM
attribute [local go_sem] ldI_run ldM_run
set_option linter.unusedSimpArgs false
set_option linter.unusedVariables false

def q1 (xs : List Int) : Int × RS := rdNum 1 (xs, false)
def q2 (xs : List Int) : Img × RS := rdImg (q1 xs).2
def q3 (xs : List Int) : Img × RS := rdImg (q2 xs).2
def q4 (xs : List Int) : Int × RS := rdNum 4 (q3 xs).2
def q5 (xs : List Int) : Int × RS := rdNum 1 (q4 xs).2
def q6 (xs : List Int) : Img × RS := rdImg (q5 xs).2
def q7 (xs : List Int) : Int × RS := rdNum 1 (q6 xs).2
def q8 (xs : List Int) : Int × RS := rdNum 1 (q7 xs).2
def rdMet (xs : List Int) : Met := ⟨(q1 xs).1, (q2 xs).1, (q3 xs).1, (q4 xs).1, (q5 xs).1, (q6 xs).1, (q7 xs).1, (q8 xs).1⟩
/-- is it read? -/
def readB (xs : List Int) : Bool := !(q8 xs).2.2 && (zerosB (q8 xs).2.1 && (rdMet xs).right)
def readE (xs : List Int) : Int := if readB xs then 0 else 6
def readM (xs : List Int) : Met := if readB xs then rdMet xs else .zero

theorem rs_small {k : Nat} {r : RS} (h : Small r.1) : Small (rdNum k r).2.1 := rest_small h _ _
theorem img_ok {r : RS} (h : Small r.1) : (rdImg r).1.Ok ∧ Small (rdImg r).2.1 := by
  have h1 := rs_small (k := 4) h
  have h2 := rs_small (k := 4) h1
  refine ⟨⟨rawL_length _ _, fun x hx => ?_, wrap64_wf _, wrap64_wf _⟩, rest_small h2 _ _⟩
  have := mem_small (rawL_small (got_small h2 _ _) 32) x hx
  simp [Lit.wf, IntKind.min, IntKind.max, IntKind.signed, IntKind.bits]
  omega
theorem num_wf (k : Nat) (r : RS) : (Lit.int .i64 (rdNum k r).1).wf = true := wrap64_wf _
theorem rdMet_ok {xs : List Int} (h : Small xs) : (rdMet xs).Ok := by
  have s1 : Small (q1 xs).2.1 := rs_small h
  obtain ⟨o2, s2⟩ := img_ok (r := (q1 xs).2) s1
  obtain ⟨o3, s3⟩ := img_ok (r := (q2 xs).2) s2
  have s4 : Small (q4 xs).2.1 := rs_small s3
  have s5 : Small (q5 xs).2.1 := rs_small s4
  obtain ⟨o6, s6⟩ := img_ok (r := (q5 xs).2) s5
  exact ⟨o2, o3, o6, num_wf _ _, num_wf _ _, num_wf _ _, num_wf _ _, num_wf _ _⟩
theorem readM_ok {xs : List Int} (h : Small xs) : (readM xs).Ok := by
  unfold readM
  split
  · exact rdMet_ok h
  · exact Met.zero_ok
/-- lengths alone -/
structure Met.Len (m : Met) : Prop where
  i0 : m.i0.d.length = 32
  i1 : m.i1.d.length = 32
  co : m.co.d.length = 32
theorem img_len {i : Img} (h : i.d.length = 32) : i.enc.length = 34 := by simp [Img.enc, nums_length, h]
theorem Met.len_enc {m : Met} (h : m.Len) : m.enc.length = 107 := by simp [Met.enc, img_len h.i0, img_len h.i1, img_len h.co]
theorem zero_cells : Try.zeroCells52 = Met.zero.enc.toArray := by kernel_rfl
theorem Met.put_a (m : Met) (x : Int) : m.enc.toArray.setIfInBounds 0 (.int .i64 x) = ({ m with a := x } : Met).enc.toArray := by
  rw [set_at (n := 0) (pre := []) (v := .int .i64 m.a) (post := m.i0.enc ++ (m.i1.enc ++ (.int .i64 m.mn :: .int .i64 m.ph :: (m.co.enc ++ [.int .i64 m.got, .int .i64 m.tr])))) (by simp [Met.enc]) rfl]
  simp [Met.enc]
theorem Met.put_mn {m : Met} (h : m.Len) (x : Int) : m.enc.toArray.setIfInBounds 69 (.int .i64 x) = ({ m with mn := x } : Met).enc.toArray := by
  rw [set_at (pre := .int .i64 m.a :: (m.i0.enc ++ m.i1.enc)) (v := .int .i64 m.mn) (post := .int .i64 m.ph :: (m.co.enc ++ [.int .i64 m.got, .int .i64 m.tr])) (by simp [Met.enc]) (by simp [img_len h.i0, img_len h.i1])]
  simp [Met.enc]
theorem Met.put_ph {m : Met} (h : m.Len) (x : Int) : m.enc.toArray.setIfInBounds 70 (.int .i64 x) = ({ m with ph := x } : Met).enc.toArray := by
  rw [set_at (pre := .int .i64 m.a :: (m.i0.enc ++ (m.i1.enc ++ [.int .i64 m.mn]))) (v := .int .i64 m.ph) (post := m.co.enc ++ [.int .i64 m.got, .int .i64 m.tr]) (by simp [Met.enc]) (by simp [img_len h.i0, img_len h.i1])]
  simp [Met.enc]
theorem Met.put_got {m : Met} (h : m.Len) (x : Int) : m.enc.toArray.setIfInBounds 105 (.int .i64 x) = ({ m with got := x } : Met).enc.toArray := by
  rw [set_at (pre := .int .i64 m.a :: (m.i0.enc ++ (m.i1.enc ++ (.int .i64 m.mn :: .int .i64 m.ph :: m.co.enc)))) (v := .int .i64 m.got) (post := [.int .i64 m.tr]) (by simp [Met.enc]) (by simp [img_len h.i0, img_len h.i1, img_len h.co])]
  simp [Met.enc]
theorem Met.put_tr {m : Met} (h : m.Len) (x : Int) : m.enc.toArray.setIfInBounds 106 (.int .i64 x) = ({ m with tr := x } : Met).enc.toArray := by
  rw [set_at (pre := .int .i64 m.a :: (m.i0.enc ++ (m.i1.enc ++ (.int .i64 m.mn :: .int .i64 m.ph :: (m.co.enc ++ [.int .i64 m.got]))))) (v := .int .i64 m.tr) (post := []) (by simp [Met.enc]) (by simp [img_len h.i0, img_len h.i1, img_len h.co])]
  simp [Met.enc]
theorem cut_mid {l pre mid post new : List Value} {a b : Nat} (h : l = pre ++ mid ++ post) (ha : pre.length = a) (hb : a + mid.length = b) : (l.take a ++ new ++ l.drop b).toArray = (pre ++ new ++ post).toArray := by
  subst h
  congr 2
  · congr 1
    rw [List.append_assoc, ← ha, List.take_left]
  · rw [← hb, ← ha, ← List.length_append, List.drop_left]
theorem Met.put_i0 {m : Met} (h : m.Len) (i : Img) (hi : i.d.length = 32) : (m.enc.toArray.toList.take 1 ++ i.enc.toArray.toList ++ m.enc.toArray.toList.drop (1 + i.enc.toArray.size)).toArray = ({ m with i0 := i } : Met).enc.toArray := by
  show (m.enc.take 1 ++ i.enc ++ m.enc.drop (1 + i.enc.length)).toArray = _
  rw [cut_mid (a := 1) (b := 1 + i.enc.length) (pre := [.int .i64 m.a]) (mid := m.i0.enc) (post := m.i1.enc ++ (.int .i64 m.mn :: .int .i64 m.ph :: (m.co.enc ++ [.int .i64 m.got, .int .i64 m.tr]))) (by simp [Met.enc]) rfl (by rw [img_len h.i0, img_len hi])]
  simp [Met.enc]
theorem Met.put_i1 {m : Met} (h : m.Len) (i : Img) (hi : i.d.length = 32) : (m.enc.toArray.toList.take 35 ++ i.enc.toArray.toList ++ m.enc.toArray.toList.drop (35 + i.enc.toArray.size)).toArray = ({ m with i1 := i } : Met).enc.toArray := by
  show (m.enc.take 35 ++ i.enc ++ m.enc.drop (35 + i.enc.length)).toArray = _
  rw [cut_mid (pre := .int .i64 m.a :: m.i0.enc) (mid := m.i1.enc) (post := .int .i64 m.mn :: .int .i64 m.ph :: (m.co.enc ++ [.int .i64 m.got, .int .i64 m.tr])) (by simp [Met.enc]) (by simp [img_len h.i0]) (by rw [img_len h.i1, img_len hi])]
  simp [Met.enc]
theorem Met.put_co {m : Met} (h : m.Len) (i : Img) (hi : i.d.length = 32) : (m.enc.toArray.toList.take 71 ++ i.enc.toArray.toList ++ m.enc.toArray.toList.drop (71 + i.enc.toArray.size)).toArray = ({ m with co := i } : Met).enc.toArray := by
  show (m.enc.take 71 ++ i.enc ++ m.enc.drop (71 + i.enc.length)).toArray = _
  rw [cut_mid (pre := .int .i64 m.a :: (m.i0.enc ++ (m.i1.enc ++ [.int .i64 m.mn, .int .i64 m.ph]))) (mid := m.co.enc) (post := [.int .i64 m.got, .int .i64 m.tr]) (by simp [Met.enc]) (by simp [img_len h.i0, img_len h.i1]) (by rw [img_len h.co, img_len hi])]
  simp [Met.enc]
theorem q8_len (xs : List Int) : (q8 xs).2.1.length ≤ xs.length := by
  have n : ∀ k r, (rdNum k r).2.1.length ≤ r.1.length := fun k r => rest_length_le _ _ _
  have i : ∀ r, (rdImg r).2.1.length ≤ r.1.length := fun r => Nat.le_trans (rest_length_le _ _ _) (Nat.le_trans (n 4 _) (n 4 r))
  exact Nat.le_trans (n 1 _) (Nat.le_trans (n 1 _) (Nat.le_trans (i _) (Nat.le_trans (n 1 _) (Nat.le_trans (n 4 _) (Nat.le_trans (i _) (Nat.le_trans (i _) (n 1 _)))))))
/-- a reader that is not bad has left what it should -/
def LeftIs (xs : List Int) (r : RS) (k : Nat) : Prop := r.2 = false → r.1 = xs.drop k ∧ k ≤ xs.length
theorem left_num {xs : List Int} {r : RS} {k : Nat} (j : Nat) (h : LeftIs xs r k) : LeftIs xs (rdNum j r).2 (k + j) := by
  intro hb
  have hb : (!takeOk r.1 r.2 j) = false := hb
  have ht : takeOk r.1 r.2 j = true := by simpa using hb
  have ht2 := ht
  unfold takeOk at ht2
  rw [Bool.and_eq_true, Bool.not_eq_true', decide_eq_true_eq] at ht2
  obtain ⟨h1, h2⟩ := h ht2.1
  have he : (rdNum j r).2.1 = r.1.drop j := by show Field.rest r.1 r.2 j = _; unfold Field.rest; rw [if_pos ht]
  rw [he, h1, List.drop_drop]
  rw [h1, List.length_drop] at ht2
  exact ⟨rfl, by omega⟩
theorem left_img {xs : List Int} {r : RS} {k : Nat} (h : LeftIs xs r k) : LeftIs xs (rdImg r).2 (k + 40) := by
  have h2 := left_num 4 (left_num 4 h)
  have h3 : LeftIs xs (rdNum 32 (rdNum 4 (rdNum 4 r).2).2).2 (k + 4 + 4 + 32) := left_num 32 h2
  rw [show k + 4 + 4 + 32 = k + 40 by omega] at h3
  exact h3
theorem q8_left (xs : List Int) : LeftIs xs (q8 xs).2 128 := by
  have h0 : LeftIs xs (xs, false) 0 := fun _ => ⟨rfl, Nat.zero_le _⟩
  exact left_num 1 (left_num 1 (left_img (left_num 1 (left_num 4 (left_img (left_img (left_num 1 h0)))))))
theorem q8_rest (xs : List Int) (h : (q8 xs).2.2 = false) : (q8 xs).2.1 = xs.drop 128 := (q8_left xs h).1
/-- zeros from 128 to t -/
def zto (xs : List Int) (t : Nat) : Bool := zerosB ((xs.drop 128).take (t - 128))
theorem zto_succ {xs : List Int} {t : Nat} (h : 128 ≤ t) (ht : t < xs.length) : zto xs (t + 1) = (zto xs t && (rd xs t == 0)) := by
  obtain ⟨k, rfl⟩ : ∃ k, t = 128 + k := ⟨t - 128, by omega⟩
  unfold zto
  have hl : k < (xs.drop 128).length := by rw [List.length_drop]; omega
  rw [show 128 + k + 1 - 128 = k + 1 by omega, show 128 + k - 128 = k by omega, List.take_succ_eq_append_getElem hl]
  unfold zerosB
  rw [List.all_append, List.getElem_drop, rd_lt ht]
  simp only [List.all_cons, List.all_nil, Bool.and_true]
  generalize xs[128 + k] = q
  by_cases h0 : q = 0
  · simp [h0]
  · simp [h0]
theorem old_block {W : World} {A : Option Addr} {m : Nat} {xs : List Int} (hr : ReadsInt W .u8 A m xs) (hm : 0 < m) (ad : Addr) (e : A = some ad) : ad.block < W.heap.size := by
  obtain ⟨ad', e', hcell⟩ := hr.2.2 hm
  have e2 : ad = ad' := by rw [e] at e'; injection e'
  subst e2
  exact World.block_lt_of_cell? W _ (hcell 0 hm)
theorem zto_end {xs : List Int} {t : Nat} (h : xs.length ≤ t) : zto xs t = zerosB (xs.drop 128) := by
  unfold zto
  rw [List.take_of_length_le (by rw [List.length_drop]; omega)]
theorem rdImg_len (r : RS) : (rdImg r).1.d.length = 32 := rawL_length _ _
theorem met_at69 {m : Met} (h : m.Len) : m.enc.toArray[69]? = some (.int .i64 m.mn) := by
  have : m.enc = (.int .i64 m.a :: (m.i0.enc ++ m.i1.enc)) ++ (.int .i64 m.mn :: .int .i64 m.ph :: (m.co.enc ++ [.int .i64 m.got, .int .i64 m.tr])) := by simp [Met.enc]
  rw [List.getElem?_toArray, this, List.getElem?_append_right (by simp [img_len h.i0, img_len h.i1])]
  simp [img_len h.i0, img_len h.i1]
theorem met_at70 {m : Met} (h : m.Len) : m.enc.toArray[70]? = some (.int .i64 m.ph) := by
  have : m.enc = (.int .i64 m.a :: (m.i0.enc ++ m.i1.enc)) ++ (.int .i64 m.mn :: .int .i64 m.ph :: (m.co.enc ++ [.int .i64 m.got, .int .i64 m.tr])) := by simp [Met.enc]
  rw [List.getElem?_toArray, this, List.getElem?_append_right (by simp [img_len h.i0, img_len h.i1])]
  simp [img_len h.i0, img_len h.i1]
theorem met_at105 {m : Met} (h : m.Len) : m.enc.toArray[105]? = some (.int .i64 m.got) := by
  have : m.enc = (.int .i64 m.a :: (m.i0.enc ++ (m.i1.enc ++ (.int .i64 m.mn :: .int .i64 m.ph :: m.co.enc)))) ++ [.int .i64 m.got, .int .i64 m.tr] := by simp [Met.enc]
  rw [List.getElem?_toArray, this, List.getElem?_append_right (by simp [img_len h.i0, img_len h.i1, img_len h.co])]
  simp [img_len h.i0, img_len h.i1, img_len h.co]
theorem met_at106 {m : Met} (h : m.Len) : m.enc.toArray[106]? = some (.int .i64 m.tr) := by
  have : m.enc = (.int .i64 m.a :: (m.i0.enc ++ (m.i1.enc ++ (.int .i64 m.mn :: .int .i64 m.ph :: m.co.enc)))) ++ [.int .i64 m.got, .int .i64 m.tr] := by simp [Met.enc]
  rw [List.getElem?_toArray, this, List.getElem?_append_right (by simp [img_len h.i0, img_len h.i1, img_len h.co])]
  simp [img_len h.i0, img_len h.i1, img_len h.co]

/-- Sp: a reader on its way, beside the box that is filled and the result's -/
structure Sp (w W : World) (H g b0 b1 : Nat) (r : RS) (m : Met) : Prop where
  rd : Rp W H g r.1 r.2
  bm : Blk W 52 b1 m.enc.toArray
  bz : Blk W 52 b0 Try.zeroCells52
  below : Below w.heap.size w W
  l0 : w.heap.size ≤ b0
  l1 : b0 < g
  l2 : g < b1
  len : m.Len
section
variable {w W W' : World} {H g b0 b1 : Nat} {r r' : RS} {m : Met}
theorem Sp.next (h : Sp w W H g b0 b1 r m) (hr : Rp W' H g r'.1 r'.2) (hf : Fr (· = g) W W') : Sp w W' H g b0 b1 r' m :=
  have l0 := h.l0; have l1 := h.l1; have l2 := h.l2
  ⟨hr, h.bm.fr hf (by omega), h.bz.fr hf (by omega), h.below.trans (hf.to_below (fun i hi e => by omega) h.below.size), l0, l1, l2, h.len⟩
theorem Sp.cell (h : Sp w W H g b0 b1 r m) (i : Nat) (x : Int) {m' : Met} (e : m.enc.toArray.setIfInBounds i (.int .i64 x) = m'.enc.toArray) (hl : m'.Len) : Sp w (W.setCell ⟨b1, i, none⟩ (.int .i64 x)) H g b0 b1 r m' :=
  have l0 := h.l0; have l1 := h.l1; have l2 := h.l2
  ⟨h.rd.cell l2 i _, e ▸ h.bm.put i _, h.bz.put_other i _ (by omega), h.below.setCell (by show w.heap.size ≤ b1; omega) _, l0, l1, l2, hl⟩
theorem Sp.row (h : Sp w W H g b0 b1 r m) (c : Array Value) {m' : Met} (e : c = m'.enc.toArray) (hl : m'.Len) : Sp w (W.setRow b1 c) H g b0 b1 r m' :=
  have l0 := h.l0; have l1 := h.l1; have l2 := h.l2
  ⟨h.rd.row l2 c, e ▸ h.bm.set c, h.bz.set_other c (by omega), below_setRow h.below (by omega) c, l0, l1, l2, hl⟩
theorem Sp.store (h : Sp w W H g b0 b1 r m) (o : Nat) (i : Img) (hi : i.d.length = 32) (ho : o + 34 ≤ 107) : (stv 49 ⟨b1, o, none⟩ (.agg i.enc.toArray)).run Try.prog W = .ok () (W.setRow b1 (m.enc.toArray.toList.take o ++ i.enc.toArray.toList ++ m.enc.toArray.toList.drop (o + i.enc.toArray.size)).toArray) :=
  h.bm.store_mid 49 o i.enc.toArray (by rw [show i.enc.toArray.size = 34 from img_len hi]; exact info55) (by rw [show i.enc.toArray.size = 34 from img_len hi, show m.enc.toArray.size = 107 from Met.len_enc h.len]; exact ho) (img_one i)
end

/-- Sr: a reader on its way, beside the box that is filled and the result's -/
structure Sr (w W : World) (H g b0 b1 : Nat) (r : RS) (m : Met) : Prop where
  rd : Rr W H g r.1 r.2
  bm : Blk W 52 b1 m.enc.toArray
  bz : Blk W 52 b0 Try.zeroCells52
  below : Below w.heap.size w W
  l0 : w.heap.size ≤ b0
  l1 : b0 < g
  l2 : g < b1
  len : m.Len
section
variable {w W W' : World} {H g b0 b1 : Nat} {r r' : RS} {m : Met}
theorem Sr.next (h : Sr w W H g b0 b1 r m) (hr : Rr W' H g r'.1 r'.2) (hf : Fr (· = g) W W') : Sr w W' H g b0 b1 r' m :=
  have l0 := h.l0; have l1 := h.l1; have l2 := h.l2
  ⟨hr, h.bm.fr hf (by omega), h.bz.fr hf (by omega), h.below.trans (hf.to_below (fun i hi e => by omega) h.below.size), l0, l1, l2, h.len⟩
theorem Sr.cell (h : Sr w W H g b0 b1 r m) (i : Nat) (x : Int) {m' : Met} (e : m.enc.toArray.setIfInBounds i (.int .i64 x) = m'.enc.toArray) (hl : m'.Len) : Sr w (W.setCell ⟨b1, i, none⟩ (.int .i64 x)) H g b0 b1 r m' :=
  have l0 := h.l0; have l1 := h.l1; have l2 := h.l2
  ⟨h.rd.cell l2 i _, e ▸ h.bm.put i _, h.bz.put_other i _ (by omega), h.below.setCell (by show w.heap.size ≤ b1; omega) _, l0, l1, l2, hl⟩
theorem Sr.row (h : Sr w W H g b0 b1 r m) (c : Array Value) {m' : Met} (e : c = m'.enc.toArray) (hl : m'.Len) : Sr w (W.setRow b1 c) H g b0 b1 r m' :=
  have l0 := h.l0; have l1 := h.l1; have l2 := h.l2
  ⟨h.rd.row l2 c, e ▸ h.bm.set c, h.bz.set_other c (by omega), below_setRow h.below (by omega) c, l0, l1, l2, hl⟩
theorem Sr.store (h : Sr w W H g b0 b1 r m) (o : Nat) (i : Img) (hi : i.d.length = 32) (ho : o + 34 ≤ 107) : (stv 49 ⟨b1, o, none⟩ (.agg i.enc.toArray)).run Try.prog W = .ok () (W.setRow b1 (m.enc.toArray.toList.take o ++ i.enc.toArray.toList ++ m.enc.toArray.toList.drop (o + i.enc.toArray.size)).toArray) :=
  h.bm.store_mid 49 o i.enc.toArray (by rw [show i.enc.toArray.size = 34 from img_len hi]; exact info55) (by rw [show i.enc.toArray.size = 34 from img_len hi, show m.enc.toArray.size = 107 from Met.len_enc h.len]; exact ho) (img_one i)
end

set_option maxHeartbeats 16000000 in
set_option maxRecDepth 100000 in
theorem read_m (A : Option Addr) (n c : Nat) (xs : List Int) (w : World) (hr : ReadsInt w .u8 A n xs) (hs : Small xs) (hn : n ≤ 1000) : Calls Try.prog 23 #[.slice A n c] w fun e w' => e = .returned (.tuple #[.agg (readM xs).enc.toArray, .int .i64 (readE xs)]) ∧ Below w.heap.size w w' := by
  have hl := hr.1
  have hr0 := hr.below (below_alloc1 w (.cells Try.zeroCells52 52))
  have HR0 := Lib.hid hr0
  have HL := Lib.hid hl
  have HRW := Lib.hid hr
  clear hr hr0 hl
  go_enter Try.func23, Try.ntmps23
  go_wp2_with fail
  refine (new_get A n c xs _ HR0.out hs (by omega)).mono ?_
  rintro e w1 ⟨g, rfl, hg0, hrd, hb⟩
  have hg1 : w.heap.size < g := by simp at hg0; omega
  have HRD := Lib.hid hrd
  have HBZ := Lib.hid ((Blk.new w 52 Try.zeroCells52 _ rfl).below hb)
  have HB := Lib.hid ((below_alloc1 w _).trans (hb.mono (below_alloc1 w _).size))
  clear hrd hb hg0
  go_wp2_with fail
  refine (num_get g g _ _ 1 _ HRD.out).mono ?_
  rintro e w2 ⟨rfl, hr, hf⟩
  rw [clip1'] at hr ⊢
  obtain ⟨a, ha⟩ : ∃ a, a = (q1 xs).1 := ⟨_, rfl⟩
  rw [show numOf (Field.got xs false 1) = a from ha.symm]
  have HA := Lib.hid ha
  have HR1 := Lib.hid hr
  have hg2 : g < w2.heap.size := hr.lt
  have HBZ := Lib.hid (HBZ.out.fr hf (by omega))
  have HB := Lib.hid (HB.out.trans (hf.to_below (fun i hi e => by omega) HB.out.size))
  have hst := (Blk.new w2 52 Try.zeroCells52 _ rfl).store 52 (Try.zeroCells52.setIfInBounds 0 (.int .i64 a)) (by rw [Array.size_setIfInBounds, z58]; exact info58) (by rw [Array.size_setIfInBounds]) (by rw [zero_cells, Met.put_a]; exact enc_one _)
  have hS : Sp w ((w2.alloc (.cells Try.zeroCells52 52)).setRow w2.heap.size (Try.zeroCells52.setIfInBounds 0 (.int .i64 a))) g g w.heap.size w2.heap.size (q1 xs).2 { Met.zero with a := a } :=
    ⟨(hr.below (below_alloc1 w2 _)).row hg2 _, by rw [← Met.put_a, ← zero_cells]; exact (Blk.new w2 52 Try.zeroCells52 _ rfl).set _, (HBZ.out.alloc _).set_other (g' := w2.heap.size) _ (by omega), below_setRow (HB.out.trans ((below_alloc1 w2 _).mono HB.out.size)) HB.out.size _, Nat.le_refl _, hg1, hg2, ⟨by simp [Met.zero, Img.zero], by simp [Met.zero, Img.zero], by simp [Met.zero, Img.zero]⟩⟩
  have HS := Lib.hid hS
  obtain ⟨b1, hb1⟩ : ∃ b1, b1 = w2.heap.size := ⟨_, rfl⟩
  have HBE := Lib.hid hb1
  clear hr hf ha hS hb1
  go_wp2_with fail
  generalize (w2.alloc (.cells Try.zeroCells52 52)).setRow w2.heap.size (Try.zeroCells52.setIfInBounds 0 (.int .i64 a)) = W at HS ⊢
  rw [← HBE.out] at HS ⊢
  clear hst
  refine (get_m g g _ _ _ HS.out.rd).mono ?_
  rintro e v3 ⟨rfl, hr, hf⟩
  have HS := Lib.hid (show Sp w v3 g g w.heap.size b1 (q2 xs).2 _ from HS.out.next hr hf)
  obtain ⟨i0, hi0⟩ : ∃ i, i = (q2 xs).1 := ⟨_, rfl⟩
  have hlen : i0.d.length = 32 := by rw [hi0]; exact rdImg_len _
  rw [show (rdImg ((q1 xs).2.1, (q1 xs).2.2)).1 = i0 from hi0.symm]
  have HV3 := Lib.hid hi0
  have hst := HS.out.store 1 i0 hlen (by decide)
  have HS2 := Lib.hid (HS.out.row _ (Met.put_i0 HS.out.len i0 hlen) ⟨hlen, HS.out.len.i1, HS.out.len.co⟩)
  obtain ⟨W3, hW⟩ : ∃ q, q = v3.setRow b1 (_ : Array Value) := ⟨_, Eq.refl (v3.setRow b1 (List.take 1 (Met.enc _).toArray.toList ++ i0.enc.toArray.toList ++ List.drop (1 + i0.enc.toArray.size) (Met.enc _).toArray.toList).toArray)⟩
  rw [← hW] at hst HS2
  have HS := HS2
  clear hr hf hi0 HS2 hW
  go_wp2_with fail
  clear hst
  refine (get_m g g _ _ _ HS.out.rd).mono ?_
  rintro e v4 ⟨rfl, hr, hf⟩
  have HS := Lib.hid (show Sp w v4 g g w.heap.size b1 (q3 xs).2 _ from HS.out.next hr hf)
  obtain ⟨i1, hi1⟩ : ∃ i, i = (q3 xs).1 := ⟨_, rfl⟩
  have hlen : i1.d.length = 32 := by rw [hi1]; exact rdImg_len _
  rw [show (rdImg ((q2 xs).2.1, (q2 xs).2.2)).1 = i1 from hi1.symm]
  have HV4 := Lib.hid hi1
  have hst := HS.out.store 35 i1 hlen (by decide)
  have HS2 := Lib.hid (HS.out.row _ (Met.put_i1 HS.out.len i1 hlen) ⟨HS.out.len.i0, hlen, HS.out.len.co⟩)
  obtain ⟨W4, hW⟩ : ∃ q, q = v4.setRow b1 (_ : Array Value) := ⟨_, Eq.refl (v4.setRow b1 (List.take 35 (Met.enc _).toArray.toList ++ i1.enc.toArray.toList ++ List.drop (35 + i1.enc.toArray.size) (Met.enc _).toArray.toList).toArray)⟩
  rw [← hW] at hst HS2
  have HS := HS2
  clear hr hf hi1 HS2 hW
  go_wp2_with fail
  clear hst
  refine (num_get g g _ _ 4 _ HS.out.rd).mono ?_
  rintro e v5 ⟨rfl, hr, hf⟩
  rw [clip4'] at hr ⊢
  have HS := Lib.hid (show Sp w v5 g g w.heap.size b1 (q4 xs).2 _ from HS.out.next hr hf)
  obtain ⟨mn, hmn⟩ : ∃ i, i = (q4 xs).1 := ⟨_, rfl⟩
  rw [show numOf (Field.got (q3 xs).2.1 (q3 xs).2.2 4) = mn from hmn.symm]
  have HV5 := Lib.hid hmn
  have hcell := HS.out.bm.cell 69
  rw [show _ = some (Value.int .i64 _) from met_at69 HS.out.len] at hcell
  have hfree := HS.out.bm.free 69
  have HS2 := Lib.hid (HS.out.cell 69 mn (Met.put_mn HS.out.len mn) ⟨HS.out.len.i0, HS.out.len.i1, HS.out.len.co⟩)
  clear hr hf hmn
  go_wp2_with fail
  generalize v5.setCell ⟨b1, 69, none⟩ (.int .i64 mn) = W5 at HS2 ⊢
  have HS := HS2
  clear hcell hfree HS2
  refine (num_get g g _ _ 1 _ HS.out.rd).mono ?_
  rintro e v6 ⟨rfl, hr, hf⟩
  rw [clip1'] at hr ⊢
  have HS := Lib.hid (show Sp w v6 g g w.heap.size b1 (q5 xs).2 _ from HS.out.next hr hf)
  obtain ⟨ph, hph⟩ : ∃ i, i = (q5 xs).1 := ⟨_, rfl⟩
  rw [show numOf (Field.got (q4 xs).2.1 (q4 xs).2.2 1) = ph from hph.symm]
  have HV6 := Lib.hid hph
  have hcell := HS.out.bm.cell 70
  rw [show _ = some (Value.int .i64 _) from met_at70 HS.out.len] at hcell
  have hfree := HS.out.bm.free 70
  have HS2 := Lib.hid (HS.out.cell 70 ph (Met.put_ph HS.out.len ph) ⟨HS.out.len.i0, HS.out.len.i1, HS.out.len.co⟩)
  clear hr hf hph
  go_wp2_with fail
  generalize v6.setCell ⟨b1, 70, none⟩ (.int .i64 ph) = W6 at HS2 ⊢
  have HS := HS2
  clear hcell hfree HS2
  refine (get_m g g _ _ _ HS.out.rd).mono ?_
  rintro e v7 ⟨rfl, hr, hf⟩
  have HS := Lib.hid (show Sp w v7 g g w.heap.size b1 (q6 xs).2 _ from HS.out.next hr hf)
  obtain ⟨co, hco⟩ : ∃ i, i = (q6 xs).1 := ⟨_, rfl⟩
  have hlen : co.d.length = 32 := by rw [hco]; exact rdImg_len _
  rw [show (rdImg ((q5 xs).2.1, (q5 xs).2.2)).1 = co from hco.symm]
  have HV7 := Lib.hid hco
  have hst := HS.out.store 71 co hlen (by decide)
  have HS2 := Lib.hid (HS.out.row _ (Met.put_co HS.out.len co hlen) ⟨HS.out.len.i0, HS.out.len.i1, hlen⟩)
  obtain ⟨W7, hW⟩ : ∃ q, q = v7.setRow b1 (_ : Array Value) := ⟨_, Eq.refl (v7.setRow b1 (List.take 71 (Met.enc _).toArray.toList ++ co.enc.toArray.toList ++ List.drop (71 + co.enc.toArray.size) (Met.enc _).toArray.toList).toArray)⟩
  rw [← hW] at hst HS2
  have HS := HS2
  clear hr hf hco HS2 hW
  go_wp2_with fail
  clear hst
  refine (num_get g g _ _ 1 _ HS.out.rd).mono ?_
  rintro e v8 ⟨rfl, hr, hf⟩
  rw [clip1'] at hr ⊢
  have HS := Lib.hid (show Sp w v8 g g w.heap.size b1 (q7 xs).2 _ from HS.out.next hr hf)
  obtain ⟨got, hgot⟩ : ∃ i, i = (q7 xs).1 := ⟨_, rfl⟩
  rw [show numOf (Field.got (q6 xs).2.1 (q6 xs).2.2 1) = got from hgot.symm]
  have HV8 := Lib.hid hgot
  have hcell := HS.out.bm.cell 105
  rw [show _ = some (Value.int .i64 _) from met_at105 HS.out.len] at hcell
  have hfree := HS.out.bm.free 105
  have HS2 := Lib.hid (HS.out.cell 105 got (Met.put_got HS.out.len got) ⟨HS.out.len.i0, HS.out.len.i1, HS.out.len.co⟩)
  clear hr hf hgot
  go_wp2_with fail
  generalize v8.setCell ⟨b1, 105, none⟩ (.int .i64 got) = W8 at HS2 ⊢
  have HS := HS2
  clear hcell hfree HS2
  refine (num_get g g _ _ 1 _ HS.out.rd).mono ?_
  rintro e v9 ⟨rfl, hr, hf⟩
  rw [clip1'] at hr ⊢
  have HS := Lib.hid (show Sp w v9 g g w.heap.size b1 (q8 xs).2 _ from HS.out.next hr hf)
  obtain ⟨tr, htr⟩ : ∃ i, i = (q8 xs).1 := ⟨_, rfl⟩
  rw [show numOf (Field.got (q7 xs).2.1 (q7 xs).2.2 1) = tr from htr.symm]
  have HV9 := Lib.hid htr
  have hcell := HS.out.bm.cell 106
  rw [show _ = some (Value.int .i64 _) from met_at106 HS.out.len] at hcell
  have hfree := HS.out.bm.free 106
  have HS2 := Lib.hid (HS.out.cell 106 tr (Met.put_tr HS.out.len tr) ⟨HS.out.len.i0, HS.out.len.i1, HS.out.len.co⟩)
  clear hr hf htr
  go_wp2_with fail
  generalize v9.setCell ⟨b1, 106, none⟩ (.int .i64 tr) = W9 at HS2 ⊢
  have HS := HS2
  clear hcell hfree HS2
  have hMM : (⟨a, i0, i1, mn, ph, co, got, tr⟩ : Met) = rdMet xs := by rw [HA.out, HV3.out, HV4.out, HV5.out, HV6.out, HV7.out, HV8.out, HV9.out]; rfl
  rw [hMM] at HS
  have HOK := Lib.hid (rdMet_ok hs)
  clear hMM
  obtain ⟨cs, hcs⟩ : ∃ cs, cs = (rdMet xs).enc.toArray := ⟨_, rfl⟩
  have HCS := Lib.hid hcs
  have HSZ := Lib.hid (show cs.size = 107 by rw [hcs]; simp [Met.enc_length HOK.out])
  have hbm := HS.out.bm
  rw [← hcs] at hbm
  have HBM := Lib.hid hbm
  have HBZ := Lib.hid HS.out.bz
  have HBW := Lib.hid HS.out.below
  have HLT := Lib.hid HS.out.l2
  obtain ⟨bd, hbd⟩ : ∃ bd, bd = (q8 xs).2.2 := ⟨_, rfl⟩
  have hrd := HS.out.rd
  rw [← hbd] at hrd
  have HRDR := Lib.hid hrd
  have HBD := Lib.hid hbd
  have le0 : 0 + 107 ≤ cs.size := by have := HSZ.out; omega
  have e107 : cs.extract 0 107 = cs := by rw [← HSZ.out]; exact Array.extract_size
  have HRT := Lib.hid (fun w => right_m (rdMet xs) HOK.out w)
  obtain ⟨rt, hrt⟩ : ∃ rt, rt = (rdMet xs).right := ⟨_, rfl⟩
  have HRTE := Lib.hid hrt
  clear hcs hbm hbd hrd hrt HS
  refine (bad_get g g _ _ _ HRDR.out).mono ?_
  rintro e v10 ⟨rfl, rfl⟩
  cases bd with
  | true =>
    have hst := HBZ.out.store 52 Try.zeroCells52 (by rw [z58]; exact info58) rfl (by rw [zero_cells]; exact enc_one _)
    have HBF := Lib.hid (HBZ.out.set Try.zeroCells52)
    have HWF := Lib.hid (below_setRow HBW.out (Nat.le_refl _) Try.zeroCells52)
    have HNO := Lib.hid (show readB xs = false by rw [readB, ← HBD.out]; rfl)
    go_wp2_with fail
    exact bodyPost_ret (v := .tuple #[.agg Try.zeroCells52, .int .i64 6]) (results_ct Try.results23 _ _ _ _ _ (0, 0) _ rfl HBF.out.heap Try.underlying52 rfl (by rw [z58]; exact info58)) rfl ⟨by rw [readM, readE, HNO.out, zero_cells]; rfl, HWF.out⟩
  | false =>
    have hq := q8_len xs
    have HQ := Lib.hid (show (q8 xs).2.1.length ≤ 1000 by have := HL.out; omega)
    clear hq
    go_wp2_with fail
    refine (behind_calls g g _ _ HRDR.out HQ.out).mono ?_
    rintro e v11 ⟨rfl, hf⟩
    have hlt := HLT.out
    have HBM := Lib.hid (HBM.out.fr hf (by omega))
    have HBZ := Lib.hid (HBZ.out.fr hf (by omega))
    have HBW := Lib.hid (HBW.out.trans (hf.to_below (fun i hi e => by omega) HBW.out.size))
    clear hf hlt
    obtain ⟨z, hz⟩ : ∃ z, z = zerosB (q8 xs).2.1 := ⟨_, rfl⟩
    rw [← hz]
    have HZ := Lib.hid hz
    clear hz
    cases z with
    | false =>
      have hst := HBZ.out.store 52 Try.zeroCells52 (by rw [z58]; exact info58) rfl (by rw [zero_cells]; exact enc_one _)
      have HBF := Lib.hid (HBZ.out.set Try.zeroCells52)
      have HWF := Lib.hid (below_setRow HBW.out (Nat.le_refl _) Try.zeroCells52)
      have HNO := Lib.hid (show readB xs = false by rw [readB, ← HBD.out, ← HZ.out]; rfl)
      go_wp2_with fail
      exact bodyPost_ret (v := .tuple #[.agg Try.zeroCells52, .int .i64 6]) (results_ct Try.results23 _ _ _ _ _ (0, 0) _ rfl HBF.out.heap Try.underlying52 rfl (by rw [z58]; exact info58)) rfl ⟨by rw [readM, readE, HNO.out, zero_cells]; rfl, HWF.out⟩
    | true =>
      have hrow0 := HBM.out.row
      go_wp2_with fail
      have hrt := HRT.out v11
      rw [← HCS.out, ← HRTE.out] at hrt
      refine hrt.mono ?_
      rintro e v12 ⟨rfl, hb⟩
      have HBM := Lib.hid (HBM.out.below hb)
      have HBZ := Lib.hid (HBZ.out.below hb)
      have HBW := Lib.hid (HBW.out.trans (hb.mono HBW.out.size))
      clear hb hrow0
      cases rt with
      | false =>
        have hst := HBZ.out.store 52 Try.zeroCells52 (by rw [z58]; exact info58) rfl (by rw [zero_cells]; exact enc_one _)
        have HBF := Lib.hid (HBZ.out.set Try.zeroCells52)
        have HWF := Lib.hid (below_setRow HBW.out (Nat.le_refl _) Try.zeroCells52)
        have HNO := Lib.hid (show readB xs = false by rw [readB, ← HBD.out, ← HZ.out, ← HRTE.out]; rfl)
        go_wp2_with fail
        exact bodyPost_ret (v := .tuple #[.agg Try.zeroCells52, .int .i64 6]) (results_ct Try.results23 _ _ _ _ _ (0, 0) _ rfl HBF.out.heap Try.underlying52 rfl (by rw [z58]; exact info58)) rfl ⟨by rw [readM, readE, HNO.out, zero_cells]; rfl, HWF.out⟩
      | true =>
        have hrow := HBM.out.row
        have hst := HBZ.out.store 52 cs (by rw [HSZ.out]; exact info58) (by rw [HSZ.out]; exact z58) (by rw [HCS.out]; exact enc_one _)
        have HBF := Lib.hid (HBZ.out.set cs)
        have HWF := Lib.hid (below_setRow HBW.out (Nat.le_refl _) cs)
        have HYES := Lib.hid (show readB xs = true by rw [readB, ← HBD.out, ← HZ.out, ← HRTE.out]; rfl)
        go_wp2_with fail
        exact bodyPost_ret (v := .tuple #[.agg cs, .int .i64 0]) (results_ct Try.results23 _ _ _ _ _ (0, 0) _ rfl HBF.out.heap Try.underlying52 rfl (by rw [HSZ.out]; exact info58)) rfl ⟨by rw [readM, readE, HYES.out, HCS.out]; rfl, HWF.out⟩

set_option maxHeartbeats 16000000 in
set_option maxRecDepth 100000 in
theorem read_ref (A : Option Addr) (n c : Nat) (xs : List Int) (w : World) (hr : ReadsInt w .u8 A n xs) (hs : Small xs) (hn : n ≤ 1000) (hc : n ≤ c) : Calls Try.prog 24 #[.slice A n c] w fun e w' => e = .returned (.tuple #[.agg (readM xs).enc.toArray, .int .i64 (readE xs)]) ∧ Below w.heap.size w w' := by
  have hl := hr.1
  have hr0 := hr.below (below_alloc1 w (.cells Try.zeroCells52 52))
  have HR0 := Lib.hid hr0
  have HL := Lib.hid hl
  have HOLD := Lib.hid (old_block hr)
  have HRW := Lib.hid hr
  clear hr hr0 hl
  go_enter Try.func24, Try.ntmps24
  go_wp2_with fail
  refine (new_ref A n c w.heap.size xs _ HR0.out hs (by omega) hc (by simp) HOLD.out).mono ?_
  rintro e w1 ⟨g, rfl, hg0, hrd, hb⟩
  have hg1 : w.heap.size < g := by simp at hg0; omega
  have HRD := Lib.hid hrd
  have HBZ := Lib.hid ((Blk.new w 52 Try.zeroCells52 _ rfl).below hb)
  have HB := Lib.hid ((below_alloc1 w _).trans (hb.mono (below_alloc1 w _).size))
  clear hrd hb hg0
  go_wp2_with fail
  refine (num_ref_get w.heap.size g _ _ 1 _ HRD.out).mono ?_
  rintro e w2 ⟨rfl, hr, hf⟩
  rw [clip1'] at hr ⊢
  obtain ⟨a, ha⟩ : ∃ a, a = (q1 xs).1 := ⟨_, rfl⟩
  rw [show numOf (Field.got xs false 1) = a from ha.symm]
  have HA := Lib.hid ha
  have HR1 := Lib.hid hr
  have hg2 : g < w2.heap.size := hr.lt
  have HBZ := Lib.hid (HBZ.out.fr hf (by omega))
  have HB := Lib.hid (HB.out.trans (hf.to_below (fun i hi e => by omega) HB.out.size))
  have hst := (Blk.new w2 52 Try.zeroCells52 _ rfl).store 52 (Try.zeroCells52.setIfInBounds 0 (.int .i64 a)) (by rw [Array.size_setIfInBounds, z58]; exact info58) (by rw [Array.size_setIfInBounds]) (by rw [zero_cells, Met.put_a]; exact enc_one _)
  have hS : Sr w ((w2.alloc (.cells Try.zeroCells52 52)).setRow w2.heap.size (Try.zeroCells52.setIfInBounds 0 (.int .i64 a))) w.heap.size g w.heap.size w2.heap.size (q1 xs).2 { Met.zero with a := a } :=
    ⟨(hr.below (below_alloc1 w2 _)).row hg2 _, by rw [← Met.put_a, ← zero_cells]; exact (Blk.new w2 52 Try.zeroCells52 _ rfl).set _, (HBZ.out.alloc _).set_other (g' := w2.heap.size) _ (by omega), below_setRow (HB.out.trans ((below_alloc1 w2 _).mono HB.out.size)) HB.out.size _, Nat.le_refl _, hg1, hg2, ⟨by simp [Met.zero, Img.zero], by simp [Met.zero, Img.zero], by simp [Met.zero, Img.zero]⟩⟩
  have HS := Lib.hid hS
  obtain ⟨b1, hb1⟩ : ∃ b1, b1 = w2.heap.size := ⟨_, rfl⟩
  have HBE := Lib.hid hb1
  clear hr hf ha hS hb1
  go_wp2_with fail
  generalize (w2.alloc (.cells Try.zeroCells52 52)).setRow w2.heap.size (Try.zeroCells52.setIfInBounds 0 (.int .i64 a)) = W at HS ⊢
  rw [← HBE.out] at HS ⊢
  clear hst
  refine (get_ref w.heap.size g _ _ _ HS.out.rd).mono ?_
  rintro e v3 ⟨rfl, hr, hf⟩
  have HS := Lib.hid (show Sr w v3 w.heap.size g w.heap.size b1 (q2 xs).2 _ from HS.out.next hr hf)
  obtain ⟨i0, hi0⟩ : ∃ i, i = (q2 xs).1 := ⟨_, rfl⟩
  have hlen : i0.d.length = 32 := by rw [hi0]; exact rdImg_len _
  rw [show (rdImg ((q1 xs).2.1, (q1 xs).2.2)).1 = i0 from hi0.symm]
  have HV3 := Lib.hid hi0
  have hst := HS.out.store 1 i0 hlen (by decide)
  have HS2 := Lib.hid (HS.out.row _ (Met.put_i0 HS.out.len i0 hlen) ⟨hlen, HS.out.len.i1, HS.out.len.co⟩)
  obtain ⟨W3, hW⟩ : ∃ q, q = v3.setRow b1 (_ : Array Value) := ⟨_, Eq.refl (v3.setRow b1 (List.take 1 (Met.enc _).toArray.toList ++ i0.enc.toArray.toList ++ List.drop (1 + i0.enc.toArray.size) (Met.enc _).toArray.toList).toArray)⟩
  rw [← hW] at hst HS2
  have HS := HS2
  clear hr hf hi0 HS2 hW
  go_wp2_with fail
  clear hst
  refine (get_ref w.heap.size g _ _ _ HS.out.rd).mono ?_
  rintro e v4 ⟨rfl, hr, hf⟩
  have HS := Lib.hid (show Sr w v4 w.heap.size g w.heap.size b1 (q3 xs).2 _ from HS.out.next hr hf)
  obtain ⟨i1, hi1⟩ : ∃ i, i = (q3 xs).1 := ⟨_, rfl⟩
  have hlen : i1.d.length = 32 := by rw [hi1]; exact rdImg_len _
  rw [show (rdImg ((q2 xs).2.1, (q2 xs).2.2)).1 = i1 from hi1.symm]
  have HV4 := Lib.hid hi1
  have hst := HS.out.store 35 i1 hlen (by decide)
  have HS2 := Lib.hid (HS.out.row _ (Met.put_i1 HS.out.len i1 hlen) ⟨HS.out.len.i0, hlen, HS.out.len.co⟩)
  obtain ⟨W4, hW⟩ : ∃ q, q = v4.setRow b1 (_ : Array Value) := ⟨_, Eq.refl (v4.setRow b1 (List.take 35 (Met.enc _).toArray.toList ++ i1.enc.toArray.toList ++ List.drop (35 + i1.enc.toArray.size) (Met.enc _).toArray.toList).toArray)⟩
  rw [← hW] at hst HS2
  have HS := HS2
  clear hr hf hi1 HS2 hW
  go_wp2_with fail
  clear hst
  refine (num_ref_get w.heap.size g _ _ 4 _ HS.out.rd).mono ?_
  rintro e v5 ⟨rfl, hr, hf⟩
  rw [clip4'] at hr ⊢
  have HS := Lib.hid (show Sr w v5 w.heap.size g w.heap.size b1 (q4 xs).2 _ from HS.out.next hr hf)
  obtain ⟨mn, hmn⟩ : ∃ i, i = (q4 xs).1 := ⟨_, rfl⟩
  rw [show numOf (Field.got (q3 xs).2.1 (q3 xs).2.2 4) = mn from hmn.symm]
  have HV5 := Lib.hid hmn
  have hcell := HS.out.bm.cell 69
  rw [show _ = some (Value.int .i64 _) from met_at69 HS.out.len] at hcell
  have hfree := HS.out.bm.free 69
  have HS2 := Lib.hid (HS.out.cell 69 mn (Met.put_mn HS.out.len mn) ⟨HS.out.len.i0, HS.out.len.i1, HS.out.len.co⟩)
  clear hr hf hmn
  go_wp2_with fail
  generalize v5.setCell ⟨b1, 69, none⟩ (.int .i64 mn) = W5 at HS2 ⊢
  have HS := HS2
  clear hcell hfree HS2
  refine (num_ref_get w.heap.size g _ _ 1 _ HS.out.rd).mono ?_
  rintro e v6 ⟨rfl, hr, hf⟩
  rw [clip1'] at hr ⊢
  have HS := Lib.hid (show Sr w v6 w.heap.size g w.heap.size b1 (q5 xs).2 _ from HS.out.next hr hf)
  obtain ⟨ph, hph⟩ : ∃ i, i = (q5 xs).1 := ⟨_, rfl⟩
  rw [show numOf (Field.got (q4 xs).2.1 (q4 xs).2.2 1) = ph from hph.symm]
  have HV6 := Lib.hid hph
  have hcell := HS.out.bm.cell 70
  rw [show _ = some (Value.int .i64 _) from met_at70 HS.out.len] at hcell
  have hfree := HS.out.bm.free 70
  have HS2 := Lib.hid (HS.out.cell 70 ph (Met.put_ph HS.out.len ph) ⟨HS.out.len.i0, HS.out.len.i1, HS.out.len.co⟩)
  clear hr hf hph
  go_wp2_with fail
  generalize v6.setCell ⟨b1, 70, none⟩ (.int .i64 ph) = W6 at HS2 ⊢
  have HS := HS2
  clear hcell hfree HS2
  refine (get_ref w.heap.size g _ _ _ HS.out.rd).mono ?_
  rintro e v7 ⟨rfl, hr, hf⟩
  have HS := Lib.hid (show Sr w v7 w.heap.size g w.heap.size b1 (q6 xs).2 _ from HS.out.next hr hf)
  obtain ⟨co, hco⟩ : ∃ i, i = (q6 xs).1 := ⟨_, rfl⟩
  have hlen : co.d.length = 32 := by rw [hco]; exact rdImg_len _
  rw [show (rdImg ((q5 xs).2.1, (q5 xs).2.2)).1 = co from hco.symm]
  have HV7 := Lib.hid hco
  have hst := HS.out.store 71 co hlen (by decide)
  have HS2 := Lib.hid (HS.out.row _ (Met.put_co HS.out.len co hlen) ⟨HS.out.len.i0, HS.out.len.i1, hlen⟩)
  obtain ⟨W7, hW⟩ : ∃ q, q = v7.setRow b1 (_ : Array Value) := ⟨_, Eq.refl (v7.setRow b1 (List.take 71 (Met.enc _).toArray.toList ++ co.enc.toArray.toList ++ List.drop (71 + co.enc.toArray.size) (Met.enc _).toArray.toList).toArray)⟩
  rw [← hW] at hst HS2
  have HS := HS2
  clear hr hf hco HS2 hW
  go_wp2_with fail
  clear hst
  refine (num_ref_get w.heap.size g _ _ 1 _ HS.out.rd).mono ?_
  rintro e v8 ⟨rfl, hr, hf⟩
  rw [clip1'] at hr ⊢
  have HS := Lib.hid (show Sr w v8 w.heap.size g w.heap.size b1 (q7 xs).2 _ from HS.out.next hr hf)
  obtain ⟨got, hgot⟩ : ∃ i, i = (q7 xs).1 := ⟨_, rfl⟩
  rw [show numOf (Field.got (q6 xs).2.1 (q6 xs).2.2 1) = got from hgot.symm]
  have HV8 := Lib.hid hgot
  have hcell := HS.out.bm.cell 105
  rw [show _ = some (Value.int .i64 _) from met_at105 HS.out.len] at hcell
  have hfree := HS.out.bm.free 105
  have HS2 := Lib.hid (HS.out.cell 105 got (Met.put_got HS.out.len got) ⟨HS.out.len.i0, HS.out.len.i1, HS.out.len.co⟩)
  clear hr hf hgot
  go_wp2_with fail
  generalize v8.setCell ⟨b1, 105, none⟩ (.int .i64 got) = W8 at HS2 ⊢
  have HS := HS2
  clear hcell hfree HS2
  refine (num_ref_get w.heap.size g _ _ 1 _ HS.out.rd).mono ?_
  rintro e v9 ⟨rfl, hr, hf⟩
  rw [clip1'] at hr ⊢
  have HS := Lib.hid (show Sr w v9 w.heap.size g w.heap.size b1 (q8 xs).2 _ from HS.out.next hr hf)
  obtain ⟨tr, htr⟩ : ∃ i, i = (q8 xs).1 := ⟨_, rfl⟩
  rw [show numOf (Field.got (q7 xs).2.1 (q7 xs).2.2 1) = tr from htr.symm]
  have HV9 := Lib.hid htr
  have hcell := HS.out.bm.cell 106
  rw [show _ = some (Value.int .i64 _) from met_at106 HS.out.len] at hcell
  have hfree := HS.out.bm.free 106
  have HS2 := Lib.hid (HS.out.cell 106 tr (Met.put_tr HS.out.len tr) ⟨HS.out.len.i0, HS.out.len.i1, HS.out.len.co⟩)
  clear hr hf htr
  go_wp2_with fail
  generalize v9.setCell ⟨b1, 106, none⟩ (.int .i64 tr) = W9 at HS2 ⊢
  have HS := HS2
  clear hcell hfree HS2
  have hMM : (⟨a, i0, i1, mn, ph, co, got, tr⟩ : Met) = rdMet xs := by rw [HA.out, HV3.out, HV4.out, HV5.out, HV6.out, HV7.out, HV8.out, HV9.out]; rfl
  rw [hMM] at HS
  have HOK := Lib.hid (rdMet_ok hs)
  clear hMM
  obtain ⟨cs, hcs⟩ : ∃ cs, cs = (rdMet xs).enc.toArray := ⟨_, rfl⟩
  have HCS := Lib.hid hcs
  have HSZ := Lib.hid (show cs.size = 107 by rw [hcs]; simp [Met.enc_length HOK.out])
  have hbm := HS.out.bm
  rw [← hcs] at hbm
  have HBM := Lib.hid hbm
  have HBZ := Lib.hid HS.out.bz
  have HBW := Lib.hid HS.out.below
  have HLT := Lib.hid HS.out.l2
  obtain ⟨bd, hbd⟩ : ∃ bd, bd = (q8 xs).2.2 := ⟨_, rfl⟩
  have hrd := HS.out.rd
  rw [← hbd] at hrd
  have HRDR := Lib.hid hrd
  have HBD := Lib.hid hbd
  have le0 : 0 + 107 ≤ cs.size := by have := HSZ.out; omega
  have e107 : cs.extract 0 107 = cs := by rw [← HSZ.out]; exact Array.extract_size
  have HRT := Lib.hid (fun w => refright_m (rdMet xs) HOK.out w)
  obtain ⟨rt, hrt⟩ : ∃ rt, rt = (rdMet xs).right := ⟨_, rfl⟩
  have HRTE := Lib.hid hrt
  clear hcs hbm hbd hrd hrt HS
  refine (bad_ref w.heap.size g _ _ _ HRDR.out).mono ?_
  rintro e v10 ⟨rfl, rfl⟩
  obtain ⟨W8', hW8'⟩ : ∃ q, q = W9 := ⟨_, rfl⟩
  have hry := HRW.out.below HBW.out
  have HRY := Lib.hid hry
  clear hry hW8'
  go_wp2_with fail
  go_loop [6, 7] (fun ok i => ∃ t : Nat, 128 ≤ t ∧ (t ≤ n ∨ t = 128) ∧ i = .int .i64 t ∧ ok = .bool (!bd && zto xs t)) (fun _ i => n - (intOf i).toNat)
  case atStart => exact ⟨128, Nat.le_refl _, .inr rfl, rfl, by simp [zto, zerosB]⟩
  case round =>
    obtain ⟨t, h128, htn, rfl, rfl⟩ := hrel
    by_cases hlt : t < n
    · obtain ⟨ad, rfl, hc⟩ := reads_cell HRY.out hlt
      have hsn := zto_succ (xs := xs) h128 (by have := HL.out; omega)
      have HSN := Lib.hid hsn
      clear hsn
      obtain ⟨b, hb⟩ : ∃ b, b = rd xs (t : Int) := ⟨_, rfl⟩
      rw [← hb] at hc
      have HB := Lib.hid hb
      clear hb
      obtain ⟨cur, hcur⟩ : ∃ cur, cur = (!bd && zto xs t) := ⟨_, rfl⟩
      have HCUR := Lib.hid hcur
      rw [← hcur]
      clear hcur
      cases cur with
      | true =>
        go_wp2_with fail
        go_round
        case rel => exact ⟨t + 1, by omega, .inl (by omega), by go_num, by rw [HSN.out, ← HB.out, ← Bool.and_assoc, ← HCUR.out]; rfl⟩
        case measure => simp [intOf]; omega
      | false =>
        go_wp2_with fail
        go_round
        case rel => exact ⟨t + 1, by omega, .inl (by omega), by go_num, by rw [HSN.out, ← Bool.and_assoc, ← HCUR.out]; rfl⟩
        case measure => simp [intOf]; omega
    · have hzt : zto xs t = zerosB (xs.drop 128) := zto_end (by have := HL.out; omega)
      rw [hzt]
      clear hzt
      obtain ⟨z, hz⟩ : ∃ z, z = zerosB (xs.drop 128) := ⟨_, rfl⟩
      rw [← hz]
      have HZ := Lib.hid hz
      clear hz
      have HQ8 := Lib.hid (q8_rest xs)
      cases bd with
      | true =>
        have hst := HBZ.out.store 52 Try.zeroCells52 (by rw [z58]; exact info58) rfl (by rw [zero_cells]; exact enc_one _)
        have HBF := Lib.hid (HBZ.out.set Try.zeroCells52)
        have HWF := Lib.hid (below_setRow HBW.out (Nat.le_refl _) Try.zeroCells52)
        have HNO := Lib.hid (show readB xs = false by rw [readB, ← HBD.out]; rfl)
        go_wp2_with fail
        exact bodyPost_ret (v := .tuple #[.agg Try.zeroCells52, .int .i64 6]) (results_ct Try.results24 _ _ _ _ _ (0, 0) _ rfl HBF.out.heap Try.underlying52 rfl (by rw [z58]; exact info58)) rfl ⟨by rw [readM, readE, HNO.out, zero_cells]; rfl, HWF.out⟩
      | false =>
        cases z with
        | false =>
          have hst := HBZ.out.store 52 Try.zeroCells52 (by rw [z58]; exact info58) rfl (by rw [zero_cells]; exact enc_one _)
          have HBF := Lib.hid (HBZ.out.set Try.zeroCells52)
          have HWF := Lib.hid (below_setRow HBW.out (Nat.le_refl _) Try.zeroCells52)
          have HNO := Lib.hid (show readB xs = false by rw [readB, ← HBD.out, HQ8.out HBD.out.symm, ← HZ.out]; rfl)
          go_wp2_with fail
          exact bodyPost_ret (v := .tuple #[.agg Try.zeroCells52, .int .i64 6]) (results_ct Try.results24 _ _ _ _ _ (0, 0) _ rfl HBF.out.heap Try.underlying52 rfl (by rw [z58]; exact info58)) rfl ⟨by rw [readM, readE, HNO.out, zero_cells]; rfl, HWF.out⟩
        | true =>
          have hrow0 := HBM.out.row
          go_wp2_with fail
          have hrt := HRT.out
          rw [← HCS.out, ← HRTE.out] at hrt
          refine (hrt _).mono ?_
          rintro e v12 ⟨rfl, hb⟩
          have HBM := Lib.hid (HBM.out.below hb)
          have HBZ := Lib.hid (HBZ.out.below hb)
          have HBW := Lib.hid (HBW.out.trans (hb.mono HBW.out.size))
          clear hb hrow0
          cases rt with
          | false =>
            have hst := HBZ.out.store 52 Try.zeroCells52 (by rw [z58]; exact info58) rfl (by rw [zero_cells]; exact enc_one _)
            have HBF := Lib.hid (HBZ.out.set Try.zeroCells52)
            have HWF := Lib.hid (below_setRow HBW.out (Nat.le_refl _) Try.zeroCells52)
            have HNO := Lib.hid (show readB xs = false by rw [readB, ← HBD.out, HQ8.out HBD.out.symm, ← HZ.out, ← HRTE.out]; rfl)
            go_wp2_with fail
            exact bodyPost_ret (v := .tuple #[.agg Try.zeroCells52, .int .i64 6]) (results_ct Try.results24 _ _ _ _ _ (0, 0) _ rfl HBF.out.heap Try.underlying52 rfl (by rw [z58]; exact info58)) rfl ⟨by rw [readM, readE, HNO.out, zero_cells]; rfl, HWF.out⟩
          | true =>
            have hrow := HBM.out.row
            have hst := HBZ.out.store 52 cs (by rw [HSZ.out]; exact info58) (by rw [HSZ.out]; exact z58) (by rw [HCS.out]; exact enc_one _)
            have HBF := Lib.hid (HBZ.out.set cs)
            have HWF := Lib.hid (below_setRow HBW.out (Nat.le_refl _) cs)
            have HYES := Lib.hid (show readB xs = true by rw [readB, ← HBD.out, HQ8.out HBD.out.symm, ← HZ.out, ← HRTE.out]; rfl)
            go_wp2_with fail
            exact bodyPost_ret (v := .tuple #[.agg cs, .int .i64 0]) (results_ct Try.results24 _ _ _ _ _ (0, 0) _ rfl HBF.out.heap Try.underlying52 rfl (by rw [HSZ.out]; exact info58)) rfl ⟨by rw [readM, readE, HYES.out, HCS.out]; rfl, HWF.out⟩
end Go.Proofs.Ytehlcljachkgdaa.Boot
