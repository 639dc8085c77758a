/- Walk: MetaTells. -/
import Derived.Test.YtehlcljachkgdaaMetaShort
import Derived.Test.YtehlcljachkgdaaWZeros
import Derived.OrdersHeld
import Derived.Deep.RegionHeld
namespace Go.Proofs.Ytehlcljachkgdaa.Boot
open Go.ChangeShapes Go.WideShapes Go.RowKit Go.Proofs.YtehlcljachkgdaaW.PrintWords Go.Proofs.YtehlcljachkgdaaW.PrintLast Go.Proofs.Ytehlcljachkgdaa.Kit Go.Proofs.Ytehlcljachkgdaa.Field
attribute [local go_sem ↓] ldI ldM stI stM
attribute [local go_sem] ldI_run ldM_run
set_option linter.unusedSimpArgs false
set_option linter.unusedVariables false
theorem neq_keys {t : TypeId} {m : Nat} (hm : m ≤ 10000) (hk : Try.prog.keyTypeAt m t = true) {fs : Array Go.Field} (hu : Try.prog.underlying t = some (.struct fs)) (xs ys : List Value) {la lb : List Lit} {D D' : Nat} (hx : Try.prog.keyLits D t xs = some la) (hy : Try.prog.keyLits D' t ys = some lb)
    (hlx : xs.length = Try.prog.cellsOf t) (hly : ys.length = Try.prog.cellsOf t) (b : Bool) (hb : b = true ↔ la = lb) (W : World) : (Go.binOp .neq t (.agg xs.toArray) (.agg ys.toArray)).run Try.prog W = .ok (.bool (!b)) W := by
  have f1 : (Value.agg xs.toArray).formed Try.prog t = true := by simp [Value.formed, hu, hlx]
  have f2 : (Value.agg ys.toArray).formed Try.prog t = true := by simp [Value.formed, hu, hly]
  obtain ⟨r, hr, hi⟩ := run_equalIn_deep (P := Try.prog) (10000 - m) m t hk W D D' (.agg xs.toArray) (.agg ys.toArray) la lb f1 f2 (by simpa [Value.cells] using hx) (by simpa [Value.cells] using hy)
  rw [show 10000 - m + m = 10000 by omega] at hr
  have hrb : r = b := by
    rw [Bool.eq_iff_iff, hi, hb]
  subst hrb
  rw [run_neq_struct]
  rw [hr]
  rfl
theorem Met.neq {m n : Met} (hm : m.Ok) (hn : n.Ok) (W : World) : (Go.binOp .neq 52 (.agg m.enc.toArray) (.agg n.enc.toArray)).run Try.prog W = .ok (.bool (!decide (m = n))) W :=
  neq_keys (m := 7) (by decide) (by kernel_rfl) Try.underlying52 m.enc n.enc (Met.key 0 hm) (Met.key 0 hn) (by rw [Met.enc_length hm, cells_met]) (by rw [Met.enc_length hn, cells_met]) _ (by rw [decide_eq_true_eq]; exact ⟨fun e => by rw [e], Met.lits_inj hm hn⟩) W
theorem zero_nums (n : Nat) : (Builtin.zeroCells (Value.int .u8 0).cells n).toList = nums .u8 (List.replicate n 0) := by
  have h : Builtin.zeroCells (Value.int .u8 0).cells n = madeCells #[Value.int .u8 0] n := by
    unfold Builtin.zeroCells madeCells
    simp [Value.cells]
  rw [h, made_nums]
section
variable {P : Program} {ops : Array Oper} {rest : List Oper} {o : Oper} {a : Act} {Q : Exit → Act → World → Prop}
/-- append(v, make([]byte, n)...) -/
theorem append_zeros_row {w0 W : World} (base : Nat) (hgd : o.guard = none) (s x : Operand) (t ti e : TypeId) (bytes : Nat)
    (ho : o.op = .call { callee := .builtin .append, args := #[s, x], argTypes := #[t, ti] })
    (ht : P.underlying t = some (.slice e)) {k : IntKind} (hti : P.underlying ti = some (.int k)) (hinfo : (P.info? e).map (fun i => (i.zero, i.size, i.bytes)) = some (some (.int .u8 0), 1, bytes)) (hb0 : 0 < bytes)
    (v : Value) (xs : List Int) {kx : IntKind} (n : Nat) (hs : a.eval s = v) (hx : a.eval x = .int kx n)
    (HO : W.ownsRow base e 1 v xs.length (nums .u8 xs)) (HB : Below base w0 W) (hbase : base ≤ W.heap.size) (hl : (xs.length + n) * bytes ≤ 140737488355328)
    (h : ∀ v1 w1, w1.ownsRow base e 1 v1 (xs ++ List.replicate n 0).length (nums .u8 (xs ++ List.replicate n 0)) → Below base w0 w1 → wpList P ops Q rest (a.put o.dst v1) w1) :
    wpList P ops Q (o :: rest) a W := by
  obtain ⟨i0, hi, hzz⟩ := Option.map_eq_some_iff.1 hinfo
  simp only [Prod.mk.injEq] at hzz
  obtain ⟨hz0, hz1, hz2⟩ := hzz
  obtain ⟨v1, w1, hr1, hown, hg, hat⟩ := run_append_zeros (P := P) W base t ti o.type e i0 (.int .u8 0) 1 bytes ht hti hi hz0 hz1 hz2 rfl (by omega) hb0 v xs.length (nums .u8 xs) HO kx n (by rw [zero_nums]; intro u hu; simp only [nums, List.mem_map] at hu; obtain ⟨q, _, rfl⟩ := hu; rfl) hl hbase
  rw [zero_nums] at hown
  refine wpList_plain hgd fun K hK => ?_
  unfold Oper.wp execOp
  simp only [ho, resolve, invoke, builtin, Sem.run_bind, Sem.run_pure, Result.andThen_ok, List.map_toArray, List.map_cons, List.map_nil, hs, hx, hr1]
  exact hK _ _ (h v1 w1 (by simpa [nums] using hown) (HB.grown hg hbase (own_base HO)))
end

set_option maxHeartbeats 8000000 in
set_option maxRecDepth 100000 in
theorem tells_out (m : Met) (hm : m.Ok) (A : Option Addr) (L c : Nat) (h : 400 < L) (w : World) :
    Calls Try.prog 6 #[.agg m.enc.toArray, .slice A L c] w fun e w' => e = .returned (.bool true) ∧ Below w.heap.size w w' := by
  obtain ⟨cs, hcs⟩ : ∃ cs, cs = m.enc.toArray := ⟨_, rfl⟩
  rw [← hcs]
  clear hcs
  go_enter Try.func6, Try.ntmps6
  go_wp2_with fail
  refine (live13 _).mono ?_
  rintro e w1 ⟨rfl, hb⟩
  have HB := Lib.hid ((below_alloc1 w _).trans (hb.mono (below_alloc1 w _).size))
  clear hb
  go_wp2_with fail
  go_ret
  exact ⟨rfl, HB.out⟩

set_option maxHeartbeats 20000000 in
set_option maxRecDepth 100000 in
theorem tells_in (m : Met) (hm : m.Ok) (A : Option Addr) (L c : Nat) (l : List Int) (w : World) (hr : ReadsInt w .u8 A L l) (hs : Small l) (hl : L ≤ 400) (hc : L ≤ c) :
    Calls Try.prog 6 #[.agg m.enc.toArray, .slice A L c] w fun e w' => e = .returned (.bool true) ∧ Below w.heap.size w w' := by
  have hR := fun w : World => refright_m m hm w
  have hQ := fun w : World => right_m m hm w
  have hby := fun w : World => bytes_m m hm w
  have hbr := fun w : World => bytes_ref m hm w
  have heq := fun W : World => Met.eql hm hm W
  simp only [decide_true] at heq
  have hsz : m.enc.toArray.size = 107 := by simp [Met.enc_length hm]
  have hone : m.enc.toArray.toList.all (·.oneCell') = true := enc_one _
  obtain ⟨cs, hcs⟩ : ∃ cs, cs = m.enc.toArray := ⟨_, rfl⟩
  rw [← hcs] at hR hQ hby hbr heq hsz hone ⊢
  have le0 : 0 + 107 ≤ cs.size := by omega
  have e107 : cs.extract 0 107 = cs := by rw [← hsz]; exact Array.extract_size
  obtain ⟨r, hr'⟩ : ∃ r, r = m.right := ⟨_, rfl⟩
  obtain ⟨bs, hbs⟩ : ∃ bs, bs = bytesM m := ⟨_, rfl⟩
  obtain ⟨K, hK⟩ : ∃ K, K = bs.length := ⟨_, rfl⟩
  have hKr : K = if r then 128 else 0 := by rw [hK, hbs, bytesM_length, hr']
  have hK1 : K ≤ 156 := by rw [hKr]; split <;> omega
  have hsb : Small bs := by rw [hbs]; exact bytesM_small hm
  have hrt : r = true → readM (bs ++ List.replicate 28 0) = m ∧ readE (bs ++ List.replicate 28 0) = 0 := by
    intro e
    rw [hbs, bytesM_yes (by rw [← hr']; exact e)]
    exact read_yes hm (by rw [← hr']; exact e) (by rfl)
  rw [← hr'] at hR hQ
  rw [← hbs] at hby hbr
  obtain ⟨mm, hmm⟩ : ∃ mm, mm = readM l := ⟨_, rfl⟩
  have hok : mm.Ok := by rw [hmm]; exact readM_ok hs
  obtain ⟨E, hE⟩ : ∃ E, E = readE l := ⟨_, rfl⟩
  have hneq := fun W : World => Met.neq hok hok W
  simp only [decide_true, Bool.not_true] at hneq
  have hs8 : mm.enc.toArray.size = 107 := by simp [Met.enc_length hok]
  have ho8 : mm.enc.toArray.toList.all (·.oneCell') = true := enc_one _
  obtain ⟨c8, hc8⟩ : ∃ c, c = mm.enc.toArray := ⟨_, rfl⟩
  rw [← hc8] at hneq hs8 ho8
  have HRM := Lib.hid (show readM l = mm ∧ readE l = E ∧ mm.enc.toArray = c8 from ⟨hmm.symm, hE.symm, hc8.symm⟩)
  have le8 : 0 + 107 ≤ c8.size := by omega
  have e8 : c8.extract 0 107 = c8 := by rw [← hs8]; exact Array.extract_size
  have hrr : (r != r) = false := by simp
  have HR := Lib.hid hR
  have HQ := Lib.hid hQ
  have HBY := Lib.hid hby
  have HBR := Lib.hid hbr
  have HEQ := Lib.hid heq
  have HNEQ := Lib.hid hneq
  have HSZ := Lib.hid hsz
  have HO := Lib.hid hone
  have HS8 := Lib.hid hs8
  have HO8 := Lib.hid ho8
  have HKR := Lib.hid hKr
  have HK := Lib.hid hK
  have HSB := Lib.hid hsb
  have HRT := Lib.hid hrt
  have HCS := Lib.hid hcs
  have HS := Lib.hid hs
  have HRA := Lib.hid hr
  clear hR hQ hby hbr heq hneq hsz hone hs8 ho8 hKr hK hsb hrt hcs hs hr hr' hbs hmm hE hc8 hm hok
  go_enter Try.func6, Try.ntmps6
  go_wp2_with fail
  refine (live13 _).mono ?_
  rintro e w1 ⟨rfl, hb⟩
  have hba := below_alloc1 w (.cells cs 52)
  have hB := (Blk.new w 52 cs _ rfl).below hb
  have r0 := hB.row
  have HM := Lib.hid hB
  have HRA := Lib.hid ((HRA.out.below hba).below hb)
  have HB := Lib.hid (hba.trans (hb.mono hba.size))
  clear hB hb hba
  go_wp2_with fail
  refine (HR.out _).mono ?_
  rintro e w2 ⟨rfl, hb⟩
  have HM := Lib.hid (HM.out.below hb)
  have HRA := Lib.hid (HRA.out.below hb)
  have HB := Lib.hid (HB.out.trans (hb.mono HB.out.size))
  clear r0 hb
  have r1 := HM.out.row
  go_wp2_with fail
  refine (HBY.out _).mono ?_
  rintro e w5 ⟨v, rfl, hg⟩
  have ho := hg.1
  rw [← HK.out] at ho
  obtain ⟨X, cx, rfl, hrd⟩ := own_reads ho
  have hcx := own_cap ho
  have HRX := Lib.hid hrd
  have HM := Lib.hid (HM.out.below hg.2)
  have HRA := Lib.hid (HRA.out.below hg.2)
  have HB := Lib.hid (HB.out.trans (hg.2.mono HB.out.size))
  clear hg hrd ho r1
  go_wp2_with (first
    | (at_builtin
       refine print_append_row (o := ⟨some 29, _, _, _, _, _⟩) (w0 := w5) w5.heap.size rfl (.const (.slice none 0 0)) (.tmp 28) 23 5 .u8 1 rfl Try.underlying23 info5 (by decide) _ [] l A L c rfl rfl (own_nil _ _ _ _) HRA.out (Below.refl _ _) (Nat.le_refl _) (by simp; omega) ?_
       intro v6 w6 own6 hb6 hg6 hat6
       rw [List.nil_append, HRA.out.1] at own6
       obtain ⟨A6, c6, rfl, hr6⟩ := own_reads own6
       have HR6 := Lib.hid hr6
       have HB6 := Lib.hid hb6
       clear own6 hb6 hg6 hat6 hr6)
    | fail)
  refine (read_m A6 L c6 l _ HR6.out HS.out (by omega)).mono ?_
  rintro e w7 ⟨rfl, hb7⟩
  rw [HRM.out.1, HRM.out.2.1, HRM.out.2.2]
  have hst := (Blk.new w7 52 Try.zeroCells52 _ rfl).store 52 c8 (by rw [HS8.out]; exact info58) (by rw [HS8.out]; exact z58) HO8.out
  have hbx : Below w7.heap.size w7 ((w7.alloc (.cells Try.zeroCells52 52)).setRow w7.heap.size c8) := below_setRow (below_alloc1 w7 (.cells Try.zeroCells52 52)) (Nat.le_refl _) c8
  have hb67 := HB6.out.trans (hb7.mono HB6.out.size)
  have hbb := hb67.trans (hbx.mono hb67.size)
  have H8 := Lib.hid ((Blk.new w7 52 Try.zeroCells52 _ rfl).set c8)
  have HM := Lib.hid (HM.out.below hbb)
  have HRA := Lib.hid (HRA.out.below hbb)
  have HRX := Lib.hid (HRX.out.below hbb)
  have HB := Lib.hid (HB.out.trans (hbb.mono HB.out.size))
  clear hb7 hbx hb67 hbb HB6 HR6
  go_upto_region 7 with fail
  generalize (w7.alloc (.cells Try.zeroCells52 52)).setRow w7.heap.size c8 = W8 at HB HRX HRA HM H8 ⊢
  clear hst
  go_wp2_with fail
  refine (read_ref A L c l _ HRA.out HS.out (by omega) (by omega)).mono ?_
  rintro e w9 ⟨rfl, hb7⟩
  rw [HRM.out.1, HRM.out.2.1, HRM.out.2.2]
  have hst := (Blk.new w9 52 Try.zeroCells52 _ rfl).store 52 c8 (by rw [HS8.out]; exact info58) (by rw [HS8.out]; exact z58) HO8.out
  have hbx : Below w9.heap.size w9 ((w9.alloc (.cells Try.zeroCells52 52)).setRow w9.heap.size c8) := below_setRow (below_alloc1 w9 (.cells Try.zeroCells52 52)) (Nat.le_refl _) c8
  have hbb := hb7.trans (hbx.mono hb7.size)
  have H9 := Lib.hid ((Blk.new w9 52 Try.zeroCells52 _ rfl).set c8)
  have H8 := Lib.hid (H8.out.below hbb)
  have HM := Lib.hid (HM.out.below hbb)
  have HRX := Lib.hid (HRX.out.below hbb)
  have HB := Lib.hid (HB.out.trans (hbb.mono HB.out.size))
  clear hb7 hbx hbb HRA
  go_upto_region 8 with fail
  generalize (w9.alloc (.cells Try.zeroCells52 52)).setRow w9.heap.size c8 = W9 at HB HRX HM H8 H9 ⊢
  clear hst
  have hneq := HNEQ.out
  refine wp_region_noPanic ?_
  refine wp_region_held_drew (S := fun W => Blk W 52 w.heap.size cs ∧ Blk W 52 w7.heap.size c8 ∧ Blk W 52 w9.heap.size c8 ∧ ReadsInt W .u8 X K bs) (by kernel_rfl) (⟨HM.out.drew, H8.out.drew, H9.out.drew, HRX.out.below (Below.refl _ W9).drew⟩) (fun hHeld => ?_)
  have hBW := HB.out.drew
  refine wpAnyH_take (i := 0) (v := ?v0p) rfl (by kernel_rfl) (by kernel_rfl) (by kernel_rfl) (fun _ _ _ h => h) (Or.inl ⟨by rfl, ?y0p⟩) (by assumption) ?n0p
  case y0p => (intro W hSw; have q0 := hSw.1.row; go_simp; try with_reducible rfl)
  try simp only [Act.put, List.getElem_toArray, List.getElem_cons_succ, List.getElem_cons_zero, List.setIfInBounds_toArray, List.set_cons_zero, List.set_cons_succ]
  refine wpAnyH_take (i := 2) (v := ?v2p) rfl (by kernel_rfl) (by kernel_rfl) (by kernel_rfl) (fun _ _ _ h => h) (Or.inl ⟨by rfl, ?y2p⟩) (by assumption) ?n2p
  case y2p => (intro W hSw; go_simp; try with_reducible rfl)
  try simp only [Act.put, List.getElem_toArray, List.getElem_cons_succ, List.getElem_cons_zero, List.setIfInBounds_toArray, List.set_cons_zero, List.set_cons_succ]
  refine wpAnyH_ready (rs := [1]) (by kernel_rfl) (by simp) ?_
  refine AllReadyH.cons rfl (fun KK hK => ?_) AllReadyH.nil
  rw [if_pos (by rfl)]
  go_simp
  refine (HQ.out _).mono ?_
  rintro e w10 ⟨rfl, hb⟩
  have hBW := hBW.trans (hb.mono hBW.size)
  try dsimp only
  refine hK.out _ _ (⟨hHeld.1.below hb, hHeld.2.1.below hb, hHeld.2.2.1.below hb, hHeld.2.2.2.below hb⟩) (fun hHeld => ?_)
  clear hK KK
  try simp only [Act.put, List.getElem_toArray, List.getElem_cons_succ, List.getElem_cons_zero, List.setIfInBounds_toArray, List.set_cons_zero, List.set_cons_succ]
  refine wpAnyH_take (i := 3) (v := ?v3p) rfl (by kernel_rfl) (by kernel_rfl) (by kernel_rfl) (fun _ _ _ h => h) (Or.inl ⟨by rfl, ?y3p⟩) (by assumption) ?n3p
  case y3p => (intro W hSw; go_simp; try with_reducible rfl)
  try simp only [Act.put, List.getElem_toArray, List.getElem_cons_succ, List.getElem_cons_zero, List.setIfInBounds_toArray, List.set_cons_zero, List.set_cons_succ]
  refine wpAnyH_take (i := 4) (v := ?v4p) rfl (by kernel_rfl) (by kernel_rfl) (by kernel_rfl) (fun _ _ _ h => h) (Or.inl ⟨by rfl, ?y4p⟩) (by assumption) ?n4p
  case y4p => (intro W hSw; go_simp; try with_reducible rfl)
  try simp only [Act.put, List.getElem_toArray, List.getElem_cons_succ, List.getElem_cons_zero, List.setIfInBounds_toArray, List.set_cons_zero, List.set_cons_succ]
  refine wpAnyH_take (i := 5) (v := ?v5p) rfl (by kernel_rfl) (by kernel_rfl) (by kernel_rfl) (fun _ _ _ h => h) (Or.inl ⟨by rfl, ?y5p⟩) (by assumption) ?n5p
  case y5p => (intro W hSw; go_simp; try with_reducible rfl)
  try simp only [Act.put, List.getElem_toArray, List.getElem_cons_succ, List.getElem_cons_zero, List.setIfInBounds_toArray, List.set_cons_zero, List.set_cons_succ]
  refine wpAnyH_take (i := 6) (v := ?v6p) rfl (by kernel_rfl) (by kernel_rfl) (by kernel_rfl) (fun _ _ _ h => h) (Or.inl ⟨by rfl, ?y6p⟩) (by assumption) ?n6p
  case y6p => (intro W hSw; have q0 := conv_reads cx hSw.2.2.2; go_simp; try with_reducible rfl)
  try simp only [Act.put, List.getElem_toArray, List.getElem_cons_succ, List.getElem_cons_zero, List.setIfInBounds_toArray, List.set_cons_zero, List.set_cons_succ]
  refine wpAnyH_take (i := 7) (v := ?v7p) rfl (by kernel_rfl) (by kernel_rfl) (by kernel_rfl) (fun _ _ _ h => h) (Or.inl ⟨by rfl, ?y7p⟩) (by assumption) ?n7p
  case y7p => (intro W hSw; have q0 := hSw.1.row; go_simp; try with_reducible rfl)
  try simp only [Act.put, List.getElem_toArray, List.getElem_cons_succ, List.getElem_cons_zero, List.setIfInBounds_toArray, List.set_cons_zero, List.set_cons_succ]
  refine wpAnyH_ready (rs := [8]) (by kernel_rfl) (by simp) ?_
  refine AllReadyH.cons rfl (fun KK hK => ?_) AllReadyH.nil
  rw [if_pos (by rfl)]
  go_simp
  refine (HBR.out _).mono ?_
  rintro e w14 ⟨v14, rfl, hg⟩
  have ho := hg.1
  rw [← HK.out] at ho
  obtain ⟨Y, cy, rfl, hry⟩ := own_reads ho
  have hb := hg.2
  have hBW := hBW.trans (hb.mono hBW.size)
  dsimp only
  refine hK.out _ _ (⟨hHeld.1.below hb, hHeld.2.1.below hb, hHeld.2.2.1.below hb, hHeld.2.2.2.below hb⟩) (fun hHeld2 => ?_)
  clear hK KK hHeld
  refine wpAnyH_more (S2 := fun W => (Blk W 52 w.heap.size cs ∧ Blk W 52 w7.heap.size c8 ∧ Blk W 52 w9.heap.size c8 ∧ ReadsInt W .u8 X K bs) ∧ ReadsInt W .u8 Y K bs) (fun _ h => h.1) _ _ _ _ ?_
  have hHeld := And.intro hHeld2 hry
  clear hHeld2 hry ho hg
  try simp only [Act.put, List.getElem_toArray, List.getElem_cons_succ, List.getElem_cons_zero, List.setIfInBounds_toArray, List.set_cons_zero, List.set_cons_succ]
  refine wpAnyH_take (i := 9) (v := ?v9p) rfl (by kernel_rfl) (by kernel_rfl) (by kernel_rfl) (fun _ _ _ h => h) (Or.inl ⟨by rfl, ?y9p⟩) (by assumption) ?n9p
  case y9p => (intro W hSw; have q0 := conv_reads cy hSw.2; go_simp; try with_reducible rfl)
  try simp only [Act.put, List.getElem_toArray, List.getElem_cons_succ, List.getElem_cons_zero, List.setIfInBounds_toArray, List.set_cons_zero, List.set_cons_succ]
  refine wpAnyH_take (i := 10) (v := ?v10p) rfl (by kernel_rfl) (by kernel_rfl) (by kernel_rfl) (fun _ _ _ h => h) (Or.inl ⟨by rfl, ?y10p⟩) (by assumption) ?n10p
  case y10p => (intro W hSw; go_simp; try with_reducible rfl)
  try simp only [Act.put, List.getElem_toArray, List.getElem_cons_succ, List.getElem_cons_zero, List.setIfInBounds_toArray, List.set_cons_zero, List.set_cons_succ]
  refine wpAnyH_take (i := 11) (v := ?v11p) rfl (by kernel_rfl) (by kernel_rfl) (by kernel_rfl) (fun _ _ _ h => h) (Or.inl ⟨by rfl, ?y11p⟩) (by assumption) ?n11p
  case y11p => (intro W hSw; go_simp; try with_reducible rfl)
  try simp only [Act.put, List.getElem_toArray, List.getElem_cons_succ, List.getElem_cons_zero, List.setIfInBounds_toArray, List.set_cons_zero, List.set_cons_succ]
  refine wpAnyH_take (i := 12) (v := ?v12p) rfl (by kernel_rfl) (by kernel_rfl) (by kernel_rfl) (fun _ _ _ h => h) (Or.inl ⟨by rfl, ?y12p⟩) (by assumption) ?n12p
  case y12p => (intro W hSw; go_simp; try with_reducible rfl)
  try simp only [Act.put, List.getElem_toArray, List.getElem_cons_succ, List.getElem_cons_zero, List.setIfInBounds_toArray, List.set_cons_zero, List.set_cons_succ]
  refine wpAnyH_take (i := 13) (v := ?v13p) rfl (by kernel_rfl) (by kernel_rfl) (by kernel_rfl) (fun _ _ _ h => h) (Or.inl ⟨by rfl, ?y13p⟩) (by assumption) ?n13p
  case y13p => (intro W hSw; have q0 := hSw.1.2.1.row; go_simp; try with_reducible rfl)
  try simp only [Act.put, List.getElem_toArray, List.getElem_cons_succ, List.getElem_cons_zero, List.setIfInBounds_toArray, List.set_cons_zero, List.set_cons_succ]
  refine wpAnyH_take (i := 14) (v := ?v14p) rfl (by kernel_rfl) (by kernel_rfl) (by kernel_rfl) (fun _ _ _ h => h) (Or.inl ⟨by rfl, ?y14p⟩) (by assumption) ?n14p
  case y14p => (intro W hSw; have q0 := hSw.1.2.2.1.row; go_simp; try with_reducible rfl)
  try simp only [Act.put, List.getElem_toArray, List.getElem_cons_succ, List.getElem_cons_zero, List.setIfInBounds_toArray, List.set_cons_zero, List.set_cons_succ]
  refine wpAnyH_take (i := 15) (v := ?v15p) rfl (by kernel_rfl) (by kernel_rfl) (by kernel_rfl) (fun _ _ _ h => h) (Or.inl ⟨by rfl, ?y15p⟩) (by assumption) ?n15p
  case y15p => (intro W hSw; go_simp; try with_reducible rfl)
  try simp only [Act.put, List.getElem_toArray, List.getElem_cons_succ, List.getElem_cons_zero, List.setIfInBounds_toArray, List.set_cons_zero, List.set_cons_succ]
  refine wpAnyH_take (i := 16) (v := ?v16p) rfl (by kernel_rfl) (by kernel_rfl) (by kernel_rfl) (fun _ _ _ h => h) (Or.inl ⟨by rfl, ?y16p⟩) (by assumption) ?n16p
  case y16p => (intro W hSw; go_simp; try with_reducible rfl)
  try simp only [Act.put, List.getElem_toArray, List.getElem_cons_succ, List.getElem_cons_zero, List.setIfInBounds_toArray, List.set_cons_zero, List.set_cons_succ]
  refine wpAnyH_take (i := 17) (v := ?v17p) rfl (by kernel_rfl) (by kernel_rfl) (by kernel_rfl) (fun _ _ _ h => h) (Or.inl ⟨by rfl, ?y17p⟩) (by assumption) ?n17p
  case y17p => (intro W hSw; go_simp; try with_reducible rfl)
  try simp only [Act.put, List.getElem_toArray, List.getElem_cons_succ, List.getElem_cons_zero, List.setIfInBounds_toArray, List.set_cons_zero, List.set_cons_succ]
  refine wpAnyH_take (i := 18) (v := ?v18p) rfl (by kernel_rfl) (by kernel_rfl) (by kernel_rfl) (fun _ _ _ h => h) (Or.inl ⟨by rfl, ?y18p⟩) (by assumption) ?n18p
  case y18p => (intro W hSw; go_simp; try with_reducible rfl)
  try simp only [Act.put, List.getElem_toArray, List.getElem_cons_succ, List.getElem_cons_zero, List.setIfInBounds_toArray, List.set_cons_zero, List.set_cons_succ]
  refine wpAnyH_take (i := 20) (v := ?v20p) rfl (by kernel_rfl) (by kernel_rfl) (by kernel_rfl) (fun _ _ _ h => h) (Or.inl ⟨by rfl, ?y20p⟩) (by assumption) ?n20p
  case y20p => (intro W hSw; go_simp; try with_reducible rfl)
  try simp only [Act.put, List.getElem_toArray, List.getElem_cons_succ, List.getElem_cons_zero, List.setIfInBounds_toArray, List.set_cons_zero, List.set_cons_succ]
  refine wpAnyH_ready (rs := [19]) (by kernel_rfl) (by simp) ?_
  refine AllReadyH.cons rfl (fun KK hK => ?_) AllReadyH.nil
  rw [if_pos (by rfl)]
  go_simp
  refine (num13 _ _).mono ?_
  rintro e w' ⟨rfl, rfl⟩
  dsimp only
  refine hK.out _ _ hHeld (fun hHeld2 => ?_)
  clear hK KK hHeld
  have hHeld := hHeld2
  clear hHeld2
  try simp only [Act.put, List.getElem_toArray, List.getElem_cons_succ, List.getElem_cons_zero, List.setIfInBounds_toArray, List.set_cons_zero, List.set_cons_succ]
  refine wpAnyH_take (i := 21) (v := ?v21p) rfl (by kernel_rfl) (by kernel_rfl) (by kernel_rfl) (fun _ _ _ h => h) (Or.inl ⟨by rfl, ?y21p⟩) (by assumption) ?n21p
  case y21p => (intro W hSw; go_simp; try with_reducible rfl)
  try simp only [Act.put, List.getElem_toArray, List.getElem_cons_succ, List.getElem_cons_zero, List.setIfInBounds_toArray, List.set_cons_zero, List.set_cons_succ]
  refine wpAnyH_take (i := 22) (v := ?v22p) rfl (by kernel_rfl) (by kernel_rfl) (by kernel_rfl) (fun _ _ _ h => h) (Or.inl ⟨by rfl, ?y22p⟩) (by assumption) ?n22p
  case y22p => (intro W hSw; go_simp; try with_reducible rfl)
  try simp only [Act.put, List.getElem_toArray, List.getElem_cons_succ, List.getElem_cons_zero, List.setIfInBounds_toArray, List.set_cons_zero, List.set_cons_succ]
  refine wpAnyH_take (i := 23) (v := ?v23p) rfl (by kernel_rfl) (by kernel_rfl) (by kernel_rfl) (fun _ _ _ h => h) (Or.inl ⟨by rfl, ?y23p⟩) (by assumption) ?n23p
  case y23p => (intro W hSw; go_simp; try with_reducible rfl)
  try simp only [Act.put, List.getElem_toArray, List.getElem_cons_succ, List.getElem_cons_zero, List.setIfInBounds_toArray, List.set_cons_zero, List.set_cons_succ]
  refine wpAnyH_take (i := 24) (v := ?v24p) rfl (by kernel_rfl) (by kernel_rfl) (by kernel_rfl) (fun _ _ _ h => h) (Or.inl ⟨by rfl, ?y24p⟩) (by assumption) ?n24p
  case y24p => (intro W hSw; go_simp; try with_reducible rfl)
  try simp only [Act.put, List.getElem_toArray, List.getElem_cons_succ, List.getElem_cons_zero, List.setIfInBounds_toArray, List.set_cons_zero, List.set_cons_succ]
  refine wpAnyH_take (i := 25) (v := ?v25p) rfl (by kernel_rfl) (by kernel_rfl) (by kernel_rfl) (fun _ _ _ h => h) (Or.inl ⟨by rfl, ?y25p⟩) (by assumption) ?n25p
  case y25p => (intro W hSw; go_simp; try with_reducible rfl)
  try simp only [Act.put, List.getElem_toArray, List.getElem_cons_succ, List.getElem_cons_zero, List.setIfInBounds_toArray, List.set_cons_zero, List.set_cons_succ]
  refine wpAnyH_take (i := 26) (v := ?v26p) rfl (by kernel_rfl) (by kernel_rfl) (by kernel_rfl) (fun _ _ _ h => h) (Or.inl ⟨by rfl, ?y26p⟩) (by assumption) ?n26p
  case y26p => (intro W hSw; go_simp; try with_reducible rfl)
  try simp only [Act.put, List.getElem_toArray, List.getElem_cons_succ, List.getElem_cons_zero, List.setIfInBounds_toArray, List.set_cons_zero, List.set_cons_succ]
  refine wpAnyH_take (i := 27) (v := ?v27p) rfl (by kernel_rfl) (by kernel_rfl) (by kernel_rfl) (fun _ _ _ h => h) (Or.inl ⟨by rfl, ?y27p⟩) (by assumption) ?n27p
  case y27p => (intro W hSw; go_simp; try with_reducible rfl)
  try simp only [Act.put, List.getElem_toArray, List.getElem_cons_succ, List.getElem_cons_zero, List.setIfInBounds_toArray, List.set_cons_zero, List.set_cons_succ]
  refine wpAnyH_done (by kernel_rfl) ?_ _
  refine NoPanic.normal ?_
  obtain ⟨⟨kM, k8, k9, kX⟩, kR⟩ := hHeld
  have HM := Lib.hid kM
  have HRX := Lib.hid kX
  have HB := Lib.hid hBW
  clear kM k8 k9 kX kR hBW
  cases r with
  | false =>
    obtain rfl : K = 0 := HKR.out
    go_wp2_with fail
    go_ret
    exact ⟨rfl, HB.out⟩
  | true =>
    obtain rfl : K = 128 := HKR.out
    have hL2 : (bs ++ List.replicate 28 0).length = 156 := by rw [List.length_append, ← HK.out]; rfl
    have HL2 := Lib.hid hL2
    have HR1 := Lib.hid (HRT.out rfl).1
    have HR2 := Lib.hid (HRT.out rfl).2
    clear hL2
    go_wp2_with (first
      | (at_builtin
         refine print_append_row (o := ⟨some 73, _, _, _, _, _⟩) (w0 := w14) w14.heap.size rfl (.const (.slice none 0 0)) (.tmp 72) 23 5 .u8 1 rfl Try.underlying23 info5 (by decide) _ [] bs X 128 cx rfl rfl (own_nil _ _ _ _) HRX.out (Below.refl _ _) (Nat.le_refl _) (by simp) ?_
         intro v6 w6 own6 hb6 hg6 hat6
         rw [List.nil_append] at own6
         have HO6 := Lib.hid own6
         have HB6 := Lib.hid hb6
         clear own6 hb6 hg6 hat6)
      | (at_builtin
         refine append_zeros_row (o := ⟨some 77, _, _, _, _, _⟩) (w0 := w14) w14.heap.size rfl (.tmp 73) (.tmp 76) 23 3 5 1 rfl Try.underlying23 Try.underlying3 info5 (by decide) _ bs 28 rfl rfl HO6.out HB6.out HB6.out.size (by rw [← HK.out]; omega) ?_
         intro v7 w7 own7 hb7
         rw [HL2.out] at own7
         obtain ⟨A7, c7, rfl, hr7⟩ := own_reads own7
         have HR7 := Lib.hid hr7
         have HB7 := Lib.hid hb7
         clear own7 hb7 hr7)
      | fail)
    refine (read_m A7 156 c7 _ _ HR7.out (small_append HSB.out (small_rep 28)) (by omega)).mono ?_
    rintro e w15 ⟨rfl, hb15⟩
    rw [HR1.out, HR2.out, ← HCS.out]
    have hst := (Blk.new w15 52 Try.zeroCells52 _ rfl).store 52 cs (by rw [HSZ.out]; exact info58) (by rw [HSZ.out]; exact z58) HO.out
    have hbx : Below w15.heap.size w15 ((w15.alloc (.cells Try.zeroCells52 52)).setRow w15.heap.size cs) := below_setRow (below_alloc1 w15 (.cells Try.zeroCells52 52)) (Nat.le_refl _) cs
    have hb67 := HB7.out.trans (hb15.mono HB7.out.size)
    have hbb := hb67.trans (hbx.mono hb67.size)
    have HX := Lib.hid ((Blk.new w15 52 Try.zeroCells52 _ rfl).set cs)
    have HM := Lib.hid (HM.out.below hbb)
    have HB := Lib.hid (HB.out.trans (hbb.mono HB.out.size))
    clear hb15 hbx hb67 hbb HB6 HO6 HB7 HR7
    go_upto_region 13 with fail
    generalize (w15.alloc (.cells Try.zeroCells52 52)).setRow w15.heap.size cs = W16 at HB HM HX ⊢
    clear hst
    have rA := HM.out.row
    have rB := HX.out.row
    have heq := HEQ.out
    go_wp2_with fail
    refine (num13 _ _).mono ?_
    rintro e w8 ⟨rfl, rfl⟩
    go_wp2_with fail
    go_ret
    exact ⟨rfl, HB.out⟩
theorem tells_any {H : Type} {enc : TypeId × Value → H} {base b0 : Nat} {spare : Nat → Bool} {held : Bool} {d : DataW H} {p : List MemPlace} (v : Value) (A : Option Addr) (n c : Nat) (zs : List Int) (W : World) (hv : Value.okWide Try.prog W .any b0 52 v) (h : DataW.Trod enc Try.prog W base spare held 52 v d p) (hz : IsBytes W A n c zs) :
    Calls Try.prog 6 #[v, .slice A n c] W fun e W' => e = .returned (.bool true) ∧ Below W.heap.size W W' := by
  obtain ⟨m, hm, rfl⟩ := open_met hv h
  obtain ⟨l, rfl, hr, _, hw, hc⟩ := ReadsInt.ofRowC hz
  by_cases hl : 400 < l.length
  · exact tells_out m hm A _ c hl W
  · exact tells_in m hm A _ c l W hr (small_of hw) (by omega) hc
end Go.Proofs.Ytehlcljachkgdaa.Boot
