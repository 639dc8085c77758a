/- A Meta's cells: how they are keyed, what is equal, and how an argument is laid open. -/
import Derived.Test.YtehlcljachkgdaaBootWalk
import Derived.DeepKeys
import Derived.OpenShut
namespace Go.Proofs.Ytehlcljachkgdaa.Boot
open Go.RowKit Go.Proofs.YtehlcljachkgdaaW.PrintWords Go.Proofs.YtehlcljachkgdaaW.PrintLast Go.Proofs.Ytehlcljachkgdaa.Kit

/-- an image: version, size, digest -/
structure Img where
  v : Int
  s : Int
  d : List Int
deriving DecidableEq
structure Met where
  a : Int
  i0 : Img
  i1 : Img
  mn : Int
  ph : Int
  co : Img
  got : Int
  tr : Int
deriving DecidableEq
structure Img.Ok (i : Img) : Prop where
  len : i.d.length = 32
  by_ : ∀ x ∈ i.d, (Lit.int .u8 x).wf = true
  wv : (Lit.int .i64 i.v).wf = true
  ws : (Lit.int .i64 i.s).wf = true
structure Met.Ok (m : Met) : Prop where
  i0 : m.i0.Ok
  i1 : m.i1.Ok
  co : m.co.Ok
  wa : (Lit.int .i64 m.a).wf = true
  wmn : (Lit.int .i64 m.mn).wf = true
  wph : (Lit.int .i64 m.ph).wf = true
  wgot : (Lit.int .i64 m.got).wf = true
  wtr : (Lit.int .i64 m.tr).wf = true
def Img.enc (i : Img) : List Value := .int .i64 i.v :: .int .i64 i.s :: nums .u8 i.d
def Img.lits (i : Img) : List Lit := .int .i64 i.v :: .int .i64 i.s :: i.d.map (Lit.int .u8)
def Met.enc (m : Met) : List Value := .int .i64 m.a :: (m.i0.enc ++ (m.i1.enc ++ (.int .i64 m.mn :: .int .i64 m.ph :: (m.co.enc ++ [.int .i64 m.got, .int .i64 m.tr]))))
def Met.lits (m : Met) : List Lit := .int .i64 m.a :: (m.i0.lits ++ (m.i1.lits ++ (.int .i64 m.mn :: .int .i64 m.ph :: (m.co.lits ++ [.int .i64 m.got, .int .i64 m.tr]))))
def Img.zero : Img := ⟨0, 0, List.replicate 32 0⟩
def Met.zero : Met := ⟨0, .zero, .zero, 0, 0, .zero, 0, 0⟩
theorem Img.zero_ok : Img.zero.Ok := ⟨by simp [Img.zero], fun x hx => by rw [List.eq_of_mem_replicate hx]; rfl, rfl, rfl⟩
theorem Met.zero_ok : Met.zero.Ok := ⟨Img.zero_ok, Img.zero_ok, Img.zero_ok, rfl, rfl, rfl, rfl, rfl⟩
theorem Img.enc_length {i : Img} (h : i.Ok) : i.enc.length = 34 := by simp [Img.enc, nums_length, h.len]
theorem Met.enc_length {m : Met} (h : m.Ok) : m.enc.length = 107 := by simp [Met.enc, Img.enc_length h.i0, Img.enc_length h.i1, Img.enc_length h.co]

theorem mapM_all {α β : Type} (f : α → Option β) (g : α → β) : ∀ l : List α, (∀ x ∈ l, f x = some (g x)) → l.mapM f = some (l.map g)
  | [], _ => by simp
  | a :: l, h => by
    rw [List.mapM_cons, h a (by simp), mapM_all f g l (fun x hx => h x (by simp [hx]))]
    simp
theorem flat_one {α β : Type} (g : α → β) (l : List α) : (l.map fun i => [g i]).flatten = l.map g := by
  induction l with
  | nil => rfl
  | cons a l ih => simp [ih]
theorem key_int (D : Nat) (n : Int) (h : (Lit.int .i64 n).wf = true) : Try.prog.keyLits (D + 1) 3 [.int .i64 n] = some [.int .i64 n] := by
  unfold Program.keyLits
  rw [Try.underlying3]
  simp [h]
theorem key_u8 (D : Nat) (n : Int) (h : (Lit.int .u8 n).wf = true) : Try.prog.keyLits (D + 1) 5 [.int .u8 n] = some [.int .u8 n] := by
  unfold Program.keyLits
  rw [Try.underlying5]
  simp [h]
theorem cells_u8 : Try.prog.cellsOf 5 = 1 := by kernel_rfl
theorem cells_dig : Try.prog.cellsOf 47 = 32 := by kernel_rfl
theorem cells_int : Try.prog.cellsOf 3 = 1 := by kernel_rfl
theorem cells_img : Try.prog.cellsOf 49 = 34 := by kernel_rfl
theorem cells_two : Try.prog.cellsOf 50 = 68 := by kernel_rfl
theorem cells_met : Try.prog.cellsOf 52 = 107 := by kernel_rfl
theorem drop_one (d : List Int) (i : Nat) (hi : i < d.length) : ((nums .u8 d).drop (i * 1)).take 1 = [.int .u8 (d[i])] := by
  rw [Nat.mul_one, List.drop_eq_getElem_cons (by rw [nums_length]; exact hi)]
  simp [nums]
theorem key_dig (D : Nat) (d : List Int) (hl : d.length = 32) (h : ∀ x ∈ d, (Lit.int .u8 x).wf = true) : Try.prog.keyLits (D + 2) 47 (nums .u8 d) = some (d.map (Lit.int .u8)) := by
  unfold Program.keyLits
  rw [Try.underlying47]
  simp only [cells_u8, cells_dig]
  rw [if_pos (by rw [nums_length, hl])]
  rw [mapM_all _ (fun i => [Lit.int .u8 (d.getD i 0)]) _ (fun i hi => by
    have hi : i < d.length := by rw [hl]; simpa using hi
    rw [drop_one d i hi, key_u8 D _ (h _ (List.getElem_mem hi))]
    simp [List.getD_eq_getElem?_getD, hi])]
  simp only [Option.map_some, Option.some.injEq]
  rw [flat_one]
  refine List.ext_getElem (by simp [hl]) fun i h1 h2 => ?_
  simp only [List.getElem_map, List.getElem_range]
  have : i < d.length := by simpa using h2
  simp [List.getD_eq_getElem?_getD, this]
/-- a struct's key, field by field -/
theorem key_struct {P : Program} {t : TypeId} {fs : Array Field} (D : Nat) (cs : List Value) (hu : P.underlying t = some (.struct fs)) (hl : cs.length = P.cellsOf t) (hn : fs.all (·.name != "_") = true) (g : Field → List Lit)
    (h : ∀ f ∈ fs.toList, P.keyLits D f.type ((cs.drop f.offset).take (P.cellsOf f.type)) = some (g f)) : P.keyLits (D + 1) t cs = some ((fs.toList.map g).flatten) := by
  unfold Program.keyLits
  rw [hu]
  simp only []
  rw [if_pos ⟨hl, hn⟩, mapM_all _ g _ h]
  rfl
theorem Img.key (D : Nat) {i : Img} (h : i.Ok) : Try.prog.keyLits (D + 3) 49 i.enc = some i.lits := by
  rw [key_struct (D + 2) i.enc Try.underlying49 (by rw [Img.enc_length h, cells_img]) (by decide +kernel) (fun f => if f.offset = 0 then [.int .i64 i.v] else if f.offset = 1 then [.int .i64 i.s] else i.d.map (Lit.int .u8)) ?_]
  · simp [Img.lits]
  · intro f hf
    simp only [List.mem_cons, List.not_mem_nil, or_false] at hf
    rcases hf with rfl | rfl | rfl
    · simp only [cells_int]
      exact key_int (D + 1) i.v h.wv
    · simp only [cells_int]
      exact key_int (D + 1) i.s h.ws
    · simp only [cells_dig]
      have e : ((i.enc).drop 2).take 32 = nums .u8 i.d := by
        show (nums .u8 i.d).take 32 = _
        rw [List.take_of_length_le (by rw [nums_length, h.len]; exact Nat.le_refl _)]
      rw [e]
      exact key_dig D i.d h.len h.by_
theorem key_two (D : Nat) {i j : Img} (hi : i.Ok) (hj : j.Ok) : Try.prog.keyLits (D + 4) 50 (i.enc ++ j.enc) = some (i.lits ++ j.lits) := by
  unfold Program.keyLits
  rw [Try.underlying50]
  simp only [cells_img, cells_two]
  rw [if_pos (by rw [List.length_append, Img.enc_length hi, Img.enc_length hj])]
  have l1 := Img.enc_length hi
  have l2 := Img.enc_length hj
  rw [mapM_all _ (fun k => if k = 0 then i.lits else j.lits) _ (fun k hk => by
    have hk : k < 2 := by simpa using hk
    rcases (by omega : k = 0 ∨ k = 1) with rfl | rfl
    · rw [show ((i.enc ++ j.enc).drop (0 * 34)).take 34 = i.enc by rw [Nat.zero_mul, List.drop_zero, List.take_append_of_le_length (by omega), List.take_of_length_le (by omega)]]
      simpa using Img.key D hi
    · rw [show ((i.enc ++ j.enc).drop (1 * 34)).take 34 = j.enc by rw [Nat.one_mul, ← l1, List.drop_left, List.take_of_length_le (by omega)]]
      simpa using Img.key D hj)]
  simp [List.range_succ]
theorem Met.key (D : Nat) {m : Met} (h : m.Ok) : Try.prog.keyLits (D + 5) 52 m.enc = some m.lits := by
  have l0 := Img.enc_length h.i0
  have l1 := Img.enc_length h.i1
  have lC := Img.enc_length h.co
  rw [key_struct (D + 4) m.enc Try.underlying52 (by rw [Met.enc_length h, cells_met]) (by decide +kernel) (fun f => if f.offset = 0 then [.int .i64 m.a] else if f.offset = 1 then m.i0.lits ++ m.i1.lits else if f.offset = 69 then [.int .i64 m.mn] else if f.offset = 70 then [.int .i64 m.ph] else if f.offset = 71 then m.co.lits else if f.offset = 105 then [.int .i64 m.got] else [.int .i64 m.tr]) ?_]
  · simp [Met.lits]
  · have d1 : m.enc.drop 1 = (m.i0.enc ++ m.i1.enc) ++ (.int .i64 m.mn :: .int .i64 m.ph :: (m.co.enc ++ [.int .i64 m.got, .int .i64 m.tr])) := by simp [Met.enc]
    have d69 : m.enc.drop 69 = .int .i64 m.mn :: .int .i64 m.ph :: (m.co.enc ++ [.int .i64 m.got, .int .i64 m.tr]) := by
      rw [show (69 : Nat) = 1 + 68 from rfl, ← List.drop_drop, d1, show (68 : Nat) = (m.i0.enc ++ m.i1.enc).length by rw [List.length_append, l0, l1], List.drop_left]
    have d71 : m.enc.drop 71 = m.co.enc ++ [.int .i64 m.got, .int .i64 m.tr] := by
      rw [show (71 : Nat) = 69 + 2 from rfl, ← List.drop_drop, d69]; rfl
    have d105 : m.enc.drop 105 = [.int .i64 m.got, .int .i64 m.tr] := by
      rw [show (105 : Nat) = 71 + 34 from rfl, ← List.drop_drop, d71, ← lC, List.drop_left]
    have d70 : m.enc.drop 70 = .int .i64 m.ph :: (m.co.enc ++ [.int .i64 m.got, .int .i64 m.tr]) := by
      rw [show (70 : Nat) = 69 + 1 from rfl, ← List.drop_drop, d69]; rfl
    have d106 : m.enc.drop 106 = [.int .i64 m.tr] := by
      rw [show (106 : Nat) = 105 + 1 from rfl, ← List.drop_drop, d105]; rfl
    intro f hf
    simp only [List.mem_cons, List.not_mem_nil, or_false] at hf
    rcases hf with rfl | rfl | rfl | rfl | rfl | rfl | rfl
    · simp only [cells_int]; exact key_int (D + 3) m.a h.wa
    · simp only [cells_two]
      rw [d1, show (68 : Nat) = (m.i0.enc ++ m.i1.enc).length by rw [List.length_append, l0, l1], List.take_left]
      exact key_two D h.i0 h.i1
    · simp only [cells_int]; rw [d69]; exact key_int (D + 3) m.mn h.wmn
    · simp only [cells_int]; rw [d70]; exact key_int (D + 3) m.ph h.wph
    · simp only [cells_img]
      rw [d71, ← lC, List.take_left]
      exact Img.key (D + 1) h.co
    · simp only [cells_int]; rw [d105]; exact key_int (D + 3) m.got h.wgot
    · simp only [cells_int]; rw [d106]; exact key_int (D + 3) m.tr h.wtr
theorem lit_inj : ∀ {d e : List Int}, d.map (Lit.int .u8) = e.map (Lit.int .u8) → d = e
  | [], [], _ => rfl
  | [], _ :: _, h => by simp at h
  | _ :: _, [], h => by simp at h
  | a :: d, b :: e, h => by
    simp only [List.map_cons, List.cons.injEq, Lit.int.injEq, true_and] at h
    rw [h.1, lit_inj h.2]
theorem Img.lits_length {i : Img} (h : i.Ok) : i.lits.length = 34 := by simp [Img.lits, h.len]
theorem Img.lits_inj {i j : Img} (h : i.lits = j.lits) : i = j := by
  cases i; cases j
  simp only [Img.lits, List.cons.injEq, Lit.int.injEq, true_and] at h
  obtain ⟨h1, h2, h3⟩ := h
  rw [h1, h2, lit_inj h3]
theorem Met.lits_inj {m n : Met} (hm : m.Ok) (hn : n.Ok) (h : m.lits = n.lits) : m = n := by
  have l0 := Img.lits_length hm.i0
  have l1 := Img.lits_length hm.i1
  have lC := Img.lits_length hm.co
  have k0 := Img.lits_length hn.i0
  have k1 := Img.lits_length hn.i1
  have kC := Img.lits_length hn.co
  cases m; cases n
  simp only [Met.lits, List.cons.injEq, Lit.int.injEq, true_and] at h l0 l1 lC k0 k1 kC
  obtain ⟨ha, h⟩ := h
  obtain ⟨h0, h⟩ := List.append_inj h (by rw [l0, k0])
  obtain ⟨h1, h⟩ := List.append_inj h (by rw [l1, k1])
  simp only [List.cons.injEq, Lit.int.injEq, true_and] at h
  obtain ⟨hmn, hph, h⟩ := h
  obtain ⟨hC, h⟩ := List.append_inj h (by rw [lC, kC])
  simp only [List.cons.injEq, Lit.int.injEq, true_and, and_true] at h
  rw [ha, Img.lits_inj h0, Img.lits_inj h1, hmn, hph, Img.lits_inj hC, h.1, h.2]
/-- == of two structs, by their keys -/
theorem eql_keys {t : TypeId} {m : Nat} (hm : m ≤ 10000) (hk : Try.prog.keyTypeAt m t = true) {fs : Array Field} (hu : Try.prog.underlying t = some (.struct fs)) (xs ys : List Value) {la lb : List Lit} {D D' : Nat} (hx : Try.prog.keyLits D t xs = some la) (hy : Try.prog.keyLits D' t ys = some lb)
    (hlx : xs.length = Try.prog.cellsOf t) (hly : ys.length = Try.prog.cellsOf t) (b : Bool) (hb : b = true ↔ la = lb) (W : World) : (Go.binOp .eql t (.agg xs.toArray) (.agg ys.toArray)).run Try.prog W = .ok (.bool b) W := by
  have f1 : (Value.agg xs.toArray).formed Try.prog t = true := by simp [Value.formed, hu, hlx]
  have f2 : (Value.agg ys.toArray).formed Try.prog t = true := by simp [Value.formed, hu, hly]
  obtain ⟨r, hr, hi⟩ := run_equalIn_deep (P := Try.prog) (10000 - m) m t hk W D D' (.agg xs.toArray) (.agg ys.toArray) la lb f1 f2 (by simpa [Value.cells] using hx) (by simpa [Value.cells] using hy)
  rw [show 10000 - m + m = 10000 by omega] at hr
  have hrb : r = b := by
    rw [Bool.eq_iff_iff, hi, hb]
  subst hrb
  rw [run_eql_struct]
  rw [hr]
  rfl
theorem Img.eql {i j : Img} (hi : i.Ok) (hj : j.Ok) (W : World) : (Go.binOp .eql 49 (.agg i.enc.toArray) (.agg j.enc.toArray)).run Try.prog W = .ok (.bool (decide (i = j))) W :=
  eql_keys (m := 5) (by decide) (by kernel_rfl) Try.underlying49 i.enc j.enc (Img.key 0 hi) (Img.key 0 hj) (by rw [Img.enc_length hi, cells_img]) (by rw [Img.enc_length hj, cells_img]) _ (by rw [decide_eq_true_eq]; exact ⟨fun e => by rw [e], Img.lits_inj⟩) W
theorem Met.eql {m n : Met} (hm : m.Ok) (hn : n.Ok) (W : World) : (Go.binOp .eql 52 (.agg m.enc.toArray) (.agg n.enc.toArray)).run Try.prog W = .ok (.bool (decide (m = n))) W :=
  eql_keys (m := 7) (by decide) (by kernel_rfl) Try.underlying52 m.enc n.enc (Met.key 0 hm) (Met.key 0 hn) (by rw [Met.enc_length hm, cells_met]) (by rw [Met.enc_length hn, cells_met]) _ (by rw [decide_eq_true_eq]; exact ⟨fun e => by rw [e], Met.lits_inj hm hn⟩) W
def Img.none (i : Img) : Bool := decide (i = .zero)
theorem Img.is {i : Img} (h : i.Ok) : ImgIs i.enc.toArray i.v i.s i.none := by
  refine ⟨by simp [Img.enc_length h], by simp [Img.enc], by simp [Img.enc], fun W => ?_⟩
  exact Img.eql h Img.zero_ok W
/-- where each part of a Meta lies -/
structure Met.Parts (m : Met) : Prop where
  d1 : m.enc.drop 1 = (m.i0.enc ++ m.i1.enc) ++ (.int .i64 m.mn :: .int .i64 m.ph :: (m.co.enc ++ [.int .i64 m.got, .int .i64 m.tr]))
  d35 : m.enc.drop 35 = m.i1.enc ++ (.int .i64 m.mn :: .int .i64 m.ph :: (m.co.enc ++ [.int .i64 m.got, .int .i64 m.tr]))
  d69 : m.enc.drop 69 = .int .i64 m.mn :: .int .i64 m.ph :: (m.co.enc ++ [.int .i64 m.got, .int .i64 m.tr])
  d71 : m.enc.drop 71 = m.co.enc ++ [.int .i64 m.got, .int .i64 m.tr]
  d105 : m.enc.drop 105 = [.int .i64 m.got, .int .i64 m.tr]
theorem Met.parts {m : Met} (h : m.Ok) : m.Parts := by
  have l0 := Img.enc_length h.i0
  have l1 := Img.enc_length h.i1
  have lC := Img.enc_length h.co
  have d1 : m.enc.drop 1 = (m.i0.enc ++ m.i1.enc) ++ (.int .i64 m.mn :: .int .i64 m.ph :: (m.co.enc ++ [.int .i64 m.got, .int .i64 m.tr])) := by simp [Met.enc]
  have d35 : m.enc.drop 35 = m.i1.enc ++ (.int .i64 m.mn :: .int .i64 m.ph :: (m.co.enc ++ [.int .i64 m.got, .int .i64 m.tr])) := by
    rw [show (35 : Nat) = 1 + 34 from rfl, ← List.drop_drop, d1, List.append_assoc, ← l0, List.drop_left]
  have d69 : m.enc.drop 69 = .int .i64 m.mn :: .int .i64 m.ph :: (m.co.enc ++ [.int .i64 m.got, .int .i64 m.tr]) := by
    rw [show (69 : Nat) = 35 + 34 from rfl, ← List.drop_drop, d35, ← l1, List.drop_left]
  have d71 : m.enc.drop 71 = m.co.enc ++ [.int .i64 m.got, .int .i64 m.tr] := by
    rw [show (71 : Nat) = 69 + 2 from rfl, ← List.drop_drop, d69]; rfl
  have d105 : m.enc.drop 105 = [.int .i64 m.got, .int .i64 m.tr] := by
    rw [show (105 : Nat) = 71 + 34 from rfl, ← List.drop_drop, d71, ← lC, List.drop_left]
  exact ⟨d1, d35, d69, d71, d105⟩
theorem at_drop {l : List Value} {n : Nat} {r : List Value} (h : l.drop n = r) (i : Nat) : l.toArray[n + i]? = r[i]? := by
  rw [← h]; simp
theorem Met.is {m : Met} (h : m.Ok) : MetIs m.enc.toArray m.a m.mn m.ph m.got m.tr m.i0.enc.toArray m.i1.enc.toArray m.co.enc.toArray := by
  have l0 := Img.enc_length h.i0
  have l1 := Img.enc_length h.i1
  have lC := Img.enc_length h.co
  have p := Met.parts h
  refine ⟨by simp [Met.enc_length h], by simp [Met.enc], (at_drop p.d69 0).trans rfl, (at_drop p.d69 1).trans rfl, (at_drop p.d105 0).trans rfl, (at_drop p.d105 1).trans rfl, ?_, ?_, ?_⟩
  · rw [List.extract_toArray, List.extract_eq_take_drop, p.d1, List.append_assoc, List.take_append_of_le_length (by omega), List.take_of_length_le (by omega)]
  · rw [List.extract_toArray, List.extract_eq_take_drop, p.d35, List.take_append_of_le_length (by omega), List.take_of_length_le (by omega)]
  · rw [List.extract_toArray, List.extract_eq_take_drop, p.d71, List.take_append_of_le_length (by omega), List.take_of_length_le (by omega)]
end Go.Proofs.Ytehlcljachkgdaa.Boot
