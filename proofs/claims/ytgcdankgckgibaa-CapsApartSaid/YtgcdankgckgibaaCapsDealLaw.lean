/- Walk: CapsDeal. -/
import Derived.Test.YtgcdankgckgibaaCapsMay
import Derived.Test.YtgcdankgckgibaaCapsNames
namespace Go.Proofs.Ytgcdankgckgibaa.Caps
open Go.RowKit Go.Proofs.YtgcdankgckgibaaW.PrintWords Go.Proofs.YtgcdankgckgibaaW.PrintLast Go.Proofs.Ytgcdankgckgibaa.Kit Go.Proofs.Ytgcdankgckgibaa.Runes
attribute [local go_sem ↓] ldC
set_option linter.unusedSimpArgs false
set_option linter.unusedVariables false

theorem flat_get : ∀ (l : List Cfg) (j : Nat) (u : Value), (flat l)[j]? = some u → ∃ h : j / 7 < l.length, l[j / 7].cells[j % 7]? = some u
  | [], j, u, h => by simp [flat] at h
  | c :: l, j, u, h => by
    rcases Nat.lt_or_ge j 7 with hj | hj
    · rw [flat, List.flatMap_cons, List.getElem?_append_left (by rw [cells_length]; exact hj)] at h
      have e0 : j / 7 = 0 := by omega
      have e1 : j % 7 = j := by omega
      refine ⟨by simp [e0], ?_⟩
      simp only [e0, e1]
      exact h
    · rw [flat, List.flatMap_cons, List.getElem?_append_right (by rw [cells_length]; exact hj), cells_length] at h
      obtain ⟨h1, h2⟩ := flat_get l (j - 7) u h
      have e0 : j / 7 = (j - 7) / 7 + 1 := by omega
      have e1 : j % 7 = (j - 7) % 7 := by omega
      refine ⟨by simp only [List.length_cons]; omega, ?_⟩
      simp only [e0, e1, List.getElem_cons_succ]
      exact h2
theorem flat_cells {W : World} {a : Addr} {l : List Cfg} (h : CfgRow W (some a) l) : ∀ j u, (flat l)[j]? = some u → W.cell? (a.add j) = some u := fun j u hu => by
  obtain ⟨h1, h2⟩ := flat_get l j u hu
  obtain ⟨a', e, hc⟩ := h (j / 7) h1
  injection e with e
  subst e
  have := hc _ _ h2
  rw [Addr.add_add, show j / 7 * 7 + j % 7 = j by omega] at this
  exact this
theorem flat_one (l : List Cfg) : ∀ u ∈ flat l, u.oneCell' = true := fun u hu => by
  simp only [flat, List.mem_flatMap] at hu
  obtain ⟨c, _, hc⟩ := hu
  simp [Cfg.cells] at hc
  rcases hc with rfl | rfl | rfl | rfl | rfl | rfl | rfl <;> rfl
/-- append of nothing onto nothing -/
theorem list_nil {P : Program} {ops : Array Oper} {rest : List Oper} {o : Oper} {a : Act} {Q : Exit → Act → World → Prop} {W : World} (hgd : o.guard = none) (s x : Operand) (t e : TypeId)
    (ho : o.op = .call { callee := .builtin .append, args := #[s, x], argTypes := #[t, t] }) (ht : P.underlying t = some (.slice e)) (hi : (P.info? e).isSome = true)
    (T : Option Addr) (c : Nat) (hs : a.eval s = .slice none 0 0) (hx : a.eval x = .slice T 0 c) (h : wpList P ops Q rest (a.put o.dst (.slice none 0 0)) W) : wpList P ops Q (o :: rest) a W := by
  obtain ⟨i, hi⟩ := Option.isSome_iff_exists.1 hi
  refine wpList_plain hgd fun K hK => ?_
  unfold Oper.wp execOp
  have hr : (Builtin.append_ #[t, t] o.type #[.slice none 0 0, .slice T 0 c]).run P W = .ok (.slice none 0 0) W := by
    cases T <;> simp [Builtin.append_, run_underlying ht, sizeOf, typeInfo, hi, Builtin.lenOf, Builtin.firstCells, loadCells, loadCellsFrom]
  simp only [ho, resolve, invoke, builtin, Sem.run_bind, Sem.run_pure, Result.andThen_ok, List.map_toArray, List.map_cons, List.map_nil, hs, hx, hr]
  exact hK _ _ h

/-- how many caps there are -/
def mOf (l : List Cfg) : Nat := if dealE l = 0 then l.length else 0
def XRow (W : World) (A : Option Addr) (m : Nat) (l : List Cfg) : Prop := ∀ i, i < m → ∃ (g : Nat) (h : i < l.length), A = some ⟨g, 0, none⟩ ∧ W.cell? ⟨g, i * 3, none⟩ = some (.int .i64 l[i].rig) ∧ W.cell? ⟨g, i * 3 + 1, none⟩ = some (.int .i64 (atOf l i)) ∧ W.cell? ⟨g, i * 3 + 2, none⟩ = some (.int .i64 l[i].need)
theorem XRow.below {W W' : World} {A : Option Addr} {m : Nat} {l : List Cfg} (h : XRow W A m l) (k : Below W.heap.size W W') : XRow W' A m l := fun i hi => by
  obtain ⟨g, h1, e, q0, q1, q2⟩ := h i hi
  exact ⟨g, h1, e, pw_cell_below k q0, pw_cell_below k q1, pw_cell_below k q2⟩
theorem DealPost.open_ {w w' : World} {l : List Cfg} {e : Ending} (h : DealPost w l e w') : Below w.heap.size w w' ∧ ∃ A c, e = .returned (.tuple #[.slice A (mOf l) c, .int .i64 (dealE l)]) ∧ XRow w' A (mOf l) l := by
  obtain ⟨hb, v, rfl, h0, h1⟩ := h
  refine ⟨hb, ?_⟩
  unfold mOf
  by_cases hE : dealE l = 0
  · have hl : 0 < l.length := by
      rcases Nat.eq_zero_or_pos l.length with h | h
      · have := dealE_len (l := l) (by omega); omega
      · exact h
    obtain ⟨g, cap, rfl, _, _, _, hc⟩ := own_open (h0 hE) hl
    rw [if_pos hE]
    refine ⟨_, cap, rfl, fun i hi => ⟨g, hi, rfl, ?_, ?_, ?_⟩⟩
    · exact hc _ _ ((capsTo_at l i 0 (by omega) l.length hi (Nat.le_refl _)).trans (by rw [capOf_at hi]; rfl))
    · exact hc _ _ ((capsTo_at l i 1 (by omega) l.length hi (Nat.le_refl _)).trans (by rw [capOf_at hi]; rfl))
    · exact hc _ _ ((capsTo_at l i 2 (by omega) l.length hi (Nat.le_refl _)).trans (by rw [capOf_at hi]; rfl))
  · rw [if_neg hE]
    rw [h1 hE]
    exact ⟨none, 0, rfl, fun i hi => by omega⟩
/-- all that the law reads -/
structure St (w W : World) (T A1 A2 : Option Addr) (m : Nat) (l : List Cfg) (r f n : Int) : Prop where
  b0 : W.cell? ⟨w.heap.size, 0, none⟩ = some (.int .i64 r)
  b1 : W.cell? ⟨w.heap.size, 1, none⟩ = some (.int .i64 f)
  b2 : W.cell? ⟨w.heap.size, 2, none⟩ = some (.int .i64 n)
  row : CfgRow W T l
  x : XRow W A1 m l
  y : XRow W A2 m l
  below : Below w.heap.size w W
theorem St.step {w W W' : World} {T A1 A2 : Option Addr} {m : Nat} {l : List Cfg} {r f n : Int} (h : St w W T A1 A2 m l r f n) (k : Below W.heap.size W W') : St w W' T A1 A2 m l r f n :=
  ⟨pw_cell_below k h.b0, pw_cell_below k h.b1, pw_cell_below k h.b2, h.row.below k, h.x.below k, h.y.below k, h.below.trans (k.mono h.below.size)⟩
theorem St.row_load {w W : World} {a : Addr} {A1 A2 : Option Addr} {m : Nat} {l : List Cfg} {r f n : Int} (h : St w W (some a) A1 A2 m l r f n) (k : Nat) (hk : k < l.length) : (ld 35 (a.add (k * 7))).run Try.prog W = .ok (.agg #[.string l[k].nm, .slice l[k].ka l[k].nk l[k].kc, .int .i64 l[k].slot, .int .i64 l[k].bud, .int .i64 l[k].quo, .int .i64 l[k].rig, .slice l[k].fa l[k].nf l[k].fc]) W := by
  obtain ⟨a', e, hc⟩ := h.row k hk
  injection e with e
  subst e
  exact hc.load
theorem St.drew {w W : World} {T A1 A2 : Option Addr} {m : Nat} {l : List Cfg} {r f n : Int} (h : St w W T A1 A2 m l r f n) : St w W.drew T A1 A2 m l r f n := h.step (Below.refl _ _).drew
theorem neq_cap (W : World) (a b c : Int) : (Go.binOp .neq 31 (.agg #[.int .i64 a, .int .i64 b, .int .i64 c]) (.agg #[.int .i64 a, .int .i64 b, .int .i64 c])).run Try.prog W = .ok (.bool false) W := by
  simp [go_sem]

set_option maxHeartbeats 8000000 in
set_option maxRecDepth 100000 in
theorem capdeal_out (T : Option Addr) (len cap : Nat) (l : List Cfg) (r f n kind : Int) (w : World) (hl : l.length = len) (hT : CfgRow w T l) (hn : ∀ i (h : i < l.length), l[i].nm.size ≤ 9223372036854775807) (hm : len ≤ 9223372036854775807) (hf : fewB l = false) :
    Calls Try.prog 8 #[.slice T len cap, .agg #[.int .i64 r, .int .i64 f, .int .i64 n], .int .i64 kind] w fun e w' => e = .returned (.bool true) ∧ Below w.heap.size w w' := by
  have HF := Lib.hid hf
  have HT := Lib.hid hT
  have HN := Lib.hid hn
  have HL := Lib.hid hl
  clear hf hT hn hl
  go_enter Try.func8, Try.ntmps8
  go_wp2_with fail
  refine (live15 _).mono ?_
  rintro e w1 ⟨rfl, hb⟩
  have HB := Lib.hid ((below_alloc1 w _).trans (hb.mono (below_alloc1 w _).size))
  clear hb
  go_wp2_with fail
  refine (few_calls T len cap l _ HL.out (HT.out.below HB.out) HN.out hm).mono ?_
  rintro e w2 ⟨rfl, rfl⟩
  rw [HF.out]
  go_wp2_with fail
  go_ret
  exact ⟨rfl, HB.out⟩

set_option maxHeartbeats 20000000 in
set_option maxRecDepth 100000 in
theorem capdeal_in (T : Option Addr) (len cap : Nat) (l : List Cfg) (r f n kind : Int) (w : World) (hl : l.length = len) (hT : CfgRow w T l) (hn : ∀ i (h : i < l.length), l[i].nm.size < 9223372036854775807) (hm : len ≤ 10) (hf : fewB l = true) :
    Calls Try.prog 8 #[.slice T len cap, .agg #[.int .i64 r, .int .i64 f, .int .i64 n], .int .i64 kind] w fun e w' => e = .returned (.bool true) ∧ Below w.heap.size w w' := by
  have HF := Lib.hid hf
  have HT := Lib.hid hT
  have HN := Lib.hid hn
  have HL := Lib.hid hl
  clear hf hT hn hl
  have hm2 : len ≤ 9223372036854775807 := by omega
  go_enter Try.func8, Try.ntmps8
  go_wp2_with fail
  refine (live15 _).mono ?_
  rintro e w1 ⟨rfl, hb⟩
  have bc := (bcell hb).1
  have b0 : w1.cell? ⟨w.heap.size, 0, none⟩ = some (.int .i64 r) := by rw [bc _ _ (by simp), World.cell?_alloc_new]; rfl
  have b1 : w1.cell? ⟨w.heap.size, 1, none⟩ = some (.int .i64 f) := by rw [bc _ _ (by simp), World.cell?_alloc_new]; rfl
  have b2 : w1.cell? ⟨w.heap.size, 2, none⟩ = some (.int .i64 n) := by rw [bc _ _ (by simp), World.cell?_alloc_new]; rfl
  have B0 := Lib.hid b0
  have B1 := Lib.hid b1
  have B2 := Lib.hid b2
  have HB := Lib.hid ((below_alloc1 w _).trans (hb.mono (below_alloc1 w _).size))
  clear hb bc b0 b1 b2
  go_wp2_with fail
  refine (few_calls T len cap l _ HL.out (HT.out.below HB.out) (fun i h => Nat.le_of_lt (HN.out i h)) hm2).mono ?_
  rintro e w2 ⟨rfl, rfl⟩
  rw [HF.out]
  go_upto_region 4 with fail
  go_cut [8, 9] (fun s8 s9 wx => ∃ A c, s8 = .slice A (mOf l) c ∧ s9 = .int .i64 (dealE l) ∧ XRow wx A (mOf l) l ∧ Below w1.heap.size w1 wx)
  case first =>
    rcases Nat.eq_zero_or_pos len with h0 | h0
    · have hl0 : l = [] := List.eq_nil_of_length_eq_zero (by have := HL.out; omega)
      subst h0
      go_wp2_with (first
        | (at_builtin
           refine list_nil rfl (.const (.slice none 0 0)) (.tmp 24) 22 35 rfl Try.underlying22 (by kernel_rfl) T cap rfl rfl ?_)
        | fail)
      refine (deal_calls none 0 0 l _ HL.out (fun i hi => absurd hi (by rw [hl0]; simp)) HN.out).mono ?_
      rintro e w3 hD
      obtain ⟨hb3, A, c, rfl, hX⟩ := hD.open_
      have HX := Lib.hid hX
      have HB3 := Lib.hid hb3
      clear hD hX hb3 hl0
      go_wp2_with fail
      go_meet
      exact ⟨A, c, rfl, rfl, HX.out, HB3.out⟩
    · obtain ⟨a, rfl, -⟩ := HT.out 0 (by have := HL.out; omega)
      have hfc := Lib.hid (flat_cells (HT.out.below HB.out))
      go_wp2_with (first
        | (at_builtin
           refine list_own w1.heap.size 7 96 rfl (.const (.slice none 0 0)) (.tmp 24) 22 35 rfl Try.underlying22 infoCfg (by decide) _ 0 [] a len cap (flat l) rfl rfl (World.ownsRow_nil _ _ _ _) (by rw [flat_length, HL.out]) hfc.out (flat_one l) (by unfold maxLen; omega) (by omega) (Nat.le_refl _) ?_
           intro v1 w2 own1 hg1 _
           have HO1 := Lib.hid own1
           have HG1 := Lib.hid hg1
           clear own1 hg1)
        | fail)
      obtain ⟨g, cp, rfl, hge, hlt, hcap, hcell⟩ := own_open HO1.out (by omega)
      rw [Nat.zero_add] at *
      refine (deal_calls _ len cp l _ HL.out (row_of (by simpa using hcell)) HN.out).mono ?_
      rintro e w3 hD
      obtain ⟨hb3, A, c, rfl, hX⟩ := hD.open_
      have HX := Lib.hid hX
      have HB3 := Lib.hid ((below_grown (Below.refl _ _) HG1.out (fun b e => by cases e) (Nat.le_refl _)).trans (hb3.mono HG1.out.size))
      clear hD hX hb3 hcell
      go_wp2_with fail
      go_meet
      exact ⟨A, c, rfl, rfl, HX.out, HB3.out⟩
  case rest =>
    obtain ⟨A, c, rfl, rfl, hX, hbx⟩ := hcut
    have HX := Lib.hid hX
    have HBX := Lib.hid (HB.out.trans (hbx.mono HB.out.size))
    have B0 := Lib.hid (pw_cell_below hbx B0.out)
    have B1 := Lib.hid (pw_cell_below hbx B1.out)
    have B2 := Lib.hid (pw_cell_below hbx B2.out)
    clear hX hbx
    go_wp2_with fail
    refine (dealref_calls T len cap l _ HL.out (HT.out.below HBX.out) HN.out).mono ?_
    rintro e w3 hD
    obtain ⟨hb3, A2, c2, rfl, hX2⟩ := hD.open_
    have hst : St w w3 T A A2 (mOf l) l r f n := ⟨pw_cell_below hb3 B0.out, pw_cell_below hb3 B1.out, pw_cell_below hb3 B2.out, HT.out.below (HBX.out.trans (hb3.mono HBX.out.size)), HX.out.below hb3, hX2, HBX.out.trans (hb3.mono HBX.out.size)⟩
    have HST := Lib.hid hst
    clear hD hb3 hX2 hst HX HBX B0 B1 B2
    obtain ⟨m, hm0⟩ : ∃ m, m = mOf l := ⟨_, rfl⟩
    rw [← hm0] at HST ⊢
    have hmm : m ≤ 10 := by rw [hm0]; unfold mOf; have := HL.out; split <;> omega
    have HM0 := Lib.hid hm0
    clear hm0
    obtain ⟨E, hE⟩ : ∃ E, E = dealE l := ⟨_, rfl⟩
    rw [← hE]
    clear hE
    go_wp2_with fail
    refine wp_region_noPanic ?_
    refine wp_region_held_drew (S := fun W => St w W T A A2 m l r f n) (by kernel_rfl) (HST.out.drew) (fun hHeld => ?_)
    refine wpAnyH_take (i := 0) (v := ?v0p) rfl (by kernel_rfl) (by kernel_rfl) (by kernel_rfl) (fun _ _ _ h => h) (Or.inl ⟨by rfl, ?y0p⟩) (by assumption) ?n0p
    case y0p => (intro W hSw; go_simp; try with_reducible rfl)
    try simp only [Act.put, List.getElem_toArray, List.getElem_cons_succ, List.getElem_cons_zero, List.setIfInBounds_toArray, List.set_cons_zero, List.set_cons_succ]
    refine wpAnyH_take (i := 2) (v := ?v2p) rfl (by kernel_rfl) (by kernel_rfl) (by kernel_rfl) (fun _ _ _ h => h) (Or.inl ⟨by rfl, ?y2p⟩) (by assumption) ?n2p
    case y2p => (intro W hSw; go_simp; try with_reducible rfl)
    try simp only [Act.put, List.getElem_toArray, List.getElem_cons_succ, List.getElem_cons_zero, List.setIfInBounds_toArray, List.set_cons_zero, List.set_cons_succ]
    refine wpAnyH_ready (rs := [1]) (by kernel_rfl) (by simp) ?_
    refine AllReadyH.cons rfl (fun KK hK => ?_) AllReadyH.nil
    rw [if_pos (by rfl)]
    go_simp
    refine (num_calls _ _).mono ?_
    rintro e w4 ⟨rfl, rfl⟩
    try dsimp only
    refine hK.out _ _ (hHeld) (fun hHeld => ?_)
    clear hK KK
    try simp only [Act.put, List.getElem_toArray, List.getElem_cons_succ, List.getElem_cons_zero, List.setIfInBounds_toArray, List.set_cons_zero, List.set_cons_succ]
    refine wpAnyH_take (i := 3) (v := ?v3p) rfl (by kernel_rfl) (by kernel_rfl) (by kernel_rfl) (fun _ _ _ h => h) (Or.inl ⟨by rfl, ?y3p⟩) (by assumption) ?n3p
    case y3p => (intro W hSw; go_simp; try with_reducible rfl)
    try simp only [Act.put, List.getElem_toArray, List.getElem_cons_succ, List.getElem_cons_zero, List.setIfInBounds_toArray, List.set_cons_zero, List.set_cons_succ]
    refine wpAnyH_take (i := 4) (v := ?v4p) rfl (by kernel_rfl) (by kernel_rfl) (by kernel_rfl) (fun _ _ _ h => h) (Or.inl ⟨by rfl, ?y4p⟩) (by assumption) ?n4p
    case y4p => (intro W hSw; go_simp; try with_reducible rfl)
    try simp only [Act.put, List.getElem_toArray, List.getElem_cons_succ, List.getElem_cons_zero, List.setIfInBounds_toArray, List.set_cons_zero, List.set_cons_succ]
    refine wpAnyH_take (i := 5) (v := ?v5p) rfl (by kernel_rfl) (by kernel_rfl) (by kernel_rfl) (fun _ _ _ h => h) (Or.inl ⟨by rfl, ?y5p⟩) (by assumption) ?n5p
    case y5p => (intro W hSw; go_simp; try with_reducible rfl)
    try simp only [Act.put, List.getElem_toArray, List.getElem_cons_succ, List.getElem_cons_zero, List.setIfInBounds_toArray, List.set_cons_zero, List.set_cons_succ]
    refine wpAnyH_take (i := 6) (v := ?v6p) rfl (by kernel_rfl) (by kernel_rfl) (by kernel_rfl) (fun _ _ _ h => h) (Or.inl ⟨by rfl, ?y6p⟩) (by assumption) ?n6p
    case y6p => (intro W hSw; go_simp; try with_reducible rfl)
    try simp only [Act.put, List.getElem_toArray, List.getElem_cons_succ, List.getElem_cons_zero, List.setIfInBounds_toArray, List.set_cons_zero, List.set_cons_succ]
    refine wpAnyH_take (i := 7) (v := ?v7p) rfl (by kernel_rfl) (by kernel_rfl) (by kernel_rfl) (fun _ _ _ h => h) (Or.inl ⟨by rfl, ?y7p⟩) (by assumption) ?n7p
    case y7p => (intro W hSw; go_simp; try with_reducible rfl)
    try simp only [Act.put, List.getElem_toArray, List.getElem_cons_succ, List.getElem_cons_zero, List.setIfInBounds_toArray, List.set_cons_zero, List.set_cons_succ]
    refine wpAnyH_take (i := 8) (v := ?v8p) rfl (by kernel_rfl) (by kernel_rfl) (by kernel_rfl) (fun _ _ _ h => h) (Or.inl ⟨by rfl, ?y8p⟩) (by assumption) ?n8p
    case y8p => (intro W hSw; go_simp; try with_reducible rfl)
    try simp only [Act.put, List.getElem_toArray, List.getElem_cons_succ, List.getElem_cons_zero, List.setIfInBounds_toArray, List.set_cons_zero, List.set_cons_succ]
    refine wpAnyH_take (i := 9) (v := ?v9p) rfl (by kernel_rfl) (by kernel_rfl) (by kernel_rfl) (fun _ _ _ h => h) (Or.inl ⟨by rfl, ?y9p⟩) (by assumption) ?n9p
    case y9p => (intro W hSw; go_simp; try with_reducible rfl)
    try simp only [Act.put, List.getElem_toArray, List.getElem_cons_succ, List.getElem_cons_zero, List.setIfInBounds_toArray, List.set_cons_zero, List.set_cons_succ]
    refine wpAnyH_take (i := 10) (v := ?v10p) rfl (by kernel_rfl) (by kernel_rfl) (by kernel_rfl) (fun _ _ _ h => h) (Or.inl ⟨by rfl, ?y10p⟩) (by assumption) ?n10p
    case y10p => (intro W hSw; go_simp; try with_reducible rfl)
    try simp only [Act.put, List.getElem_toArray, List.getElem_cons_succ, List.getElem_cons_zero, List.setIfInBounds_toArray, List.set_cons_zero, List.set_cons_succ]
    refine wpAnyH_take (i := 11) (v := ?v11p) rfl (by kernel_rfl) (by kernel_rfl) (by kernel_rfl) (fun _ _ _ h => h) (Or.inl ⟨by rfl, ?y11p⟩) (by assumption) ?n11p
    case y11p => (intro W hSw; go_simp; try with_reducible rfl)
    try simp only [Act.put, List.getElem_toArray, List.getElem_cons_succ, List.getElem_cons_zero, List.setIfInBounds_toArray, List.set_cons_zero, List.set_cons_succ]
    refine wpAnyH_take (i := 12) (v := ?v12p) rfl (by kernel_rfl) (by kernel_rfl) (by kernel_rfl) (fun _ _ _ h => h) (Or.inl ⟨by rfl, ?y12p⟩) (by assumption) ?n12p
    case y12p => (intro W hSw; have q0 := hSw.b0; have q1 := hSw.b1; have q2 := hSw.b2; go_simp; try with_reducible rfl)
    try simp only [Act.put, List.getElem_toArray, List.getElem_cons_succ, List.getElem_cons_zero, List.setIfInBounds_toArray, List.set_cons_zero, List.set_cons_succ]
    refine wpAnyH_take (i := 13) (v := ?v13p) rfl (by kernel_rfl) (by kernel_rfl) (by kernel_rfl) (fun _ _ _ h => h) (Or.inl ⟨by rfl, ?y13p⟩) (by assumption) ?n13p
    case y13p => (intro W hSw; go_simp; try with_reducible rfl)
    try simp only [Act.put, List.getElem_toArray, List.getElem_cons_succ, List.getElem_cons_zero, List.setIfInBounds_toArray, List.set_cons_zero, List.set_cons_succ]
    refine wpAnyH_take (i := 15) (v := ?v15p) rfl (by kernel_rfl) (by kernel_rfl) (by kernel_rfl) (fun _ _ _ h => h) (Or.inl ⟨by rfl, ?y15p⟩) (by assumption) ?n15p
    case y15p => (intro W hSw; have q0 := hSw.b0; have q1 := hSw.b1; have q2 := hSw.b2; go_simp; try with_reducible rfl)
    try simp only [Act.put, List.getElem_toArray, List.getElem_cons_succ, List.getElem_cons_zero, List.setIfInBounds_toArray, List.set_cons_zero, List.set_cons_succ]
    refine wpAnyH_take (i := 16) (v := ?v16p) rfl (by kernel_rfl) (by kernel_rfl) (by kernel_rfl) (fun _ _ _ h => h) (Or.inl ⟨by rfl, ?y16p⟩) (by assumption) ?n16p
    case y16p => (intro W hSw; go_simp; try with_reducible rfl)
    try simp only [Act.put, List.getElem_toArray, List.getElem_cons_succ, List.getElem_cons_zero, List.setIfInBounds_toArray, List.set_cons_zero, List.set_cons_succ]
    refine wpAnyH_ready (rs := [14]) (by kernel_rfl) (by simp) ?_
    refine AllReadyH.cons rfl (fun KK hK => ?_) AllReadyH.nil
    rw [if_pos (by rfl)]
    go_simp
    refine (may_calls r f n kind _).mono ?_
    rintro e w5 ⟨rfl, hb5⟩
    try dsimp only
    refine hK.out _ _ (hHeld.step hb5) (fun hHeld => ?_)
    clear hK KK
    try simp only [Act.put, List.getElem_toArray, List.getElem_cons_succ, List.getElem_cons_zero, List.setIfInBounds_toArray, List.set_cons_zero, List.set_cons_succ]
    refine wpAnyH_ready (rs := [17]) (by kernel_rfl) (by simp) ?_
    refine AllReadyH.cons rfl (fun KK hK => ?_) AllReadyH.nil
    rw [if_pos (by rfl)]
    go_simp
    refine (may_ref r f n kind _).mono ?_
    rintro e w6 ⟨rfl, hb6⟩
    try dsimp only
    refine hK.out _ _ (hHeld.step hb6) (fun hHeld => ?_)
    clear hK KK
    try simp only [Act.put, List.getElem_toArray, List.getElem_cons_succ, List.getElem_cons_zero, List.setIfInBounds_toArray, List.set_cons_zero, List.set_cons_succ]
    refine wpAnyH_take (i := 18) (v := ?v18p) rfl (by kernel_rfl) (by kernel_rfl) (by kernel_rfl) (fun _ _ _ h => h) (Or.inl ⟨by rfl, ?y18p⟩) (by assumption) ?n18p
    case y18p => (intro W hSw; go_simp; try with_reducible rfl)
    try simp only [Act.put, List.getElem_toArray, List.getElem_cons_succ, List.getElem_cons_zero, List.setIfInBounds_toArray, List.set_cons_zero, List.set_cons_succ]
    refine wpAnyH_take (i := 19) (v := ?v19p) rfl (by kernel_rfl) (by kernel_rfl) (by kernel_rfl) (fun _ _ _ h => h) (Or.inl ⟨by rfl, ?y19p⟩) (by assumption) ?n19p
    case y19p => (intro W hSw; go_simp; try with_reducible rfl)
    try simp only [Act.put, List.getElem_toArray, List.getElem_cons_succ, List.getElem_cons_zero, List.setIfInBounds_toArray, List.set_cons_zero, List.set_cons_succ]
    refine wpAnyH_done (by kernel_rfl) ?_ _
    refine NoPanic.normal ?_
    have HST := Lib.hid hHeld
    clear hHeld
    have hq : ∀ b : Bool, (b != b) = false := fun b => by cases b <;> rfl
    go_wp2_with fail
    go_loopw [12] (fun i wr => ∃ k : Nat, k ≤ m ∧ i = .int .i64 k ∧ St w wr T A A2 m l r f n) (fun i _ => m - (intOf i).toNat)
    case atStart => exact ⟨0, Nat.zero_le _, rfl, HST.out⟩
    case round =>
      obtain ⟨k, hk, rfl, hst⟩ := hrel
      have HST := Lib.hid hst
      clear hst
      by_cases hlt : k < m
      · obtain ⟨g1, hkl, rfl, -⟩ := HST.out.x k hlt
        obtain ⟨g2, -, rfl, -⟩ := HST.out.y k hlt
        obtain ⟨c, hcc⟩ : ∃ c, c = l[k] := ⟨_, rfl⟩
        obtain ⟨at_, hat⟩ : ∃ z, z = atOf l k := ⟨_, rfl⟩
        have HC := Lib.hid hcc
        have HAT := Lib.hid hat
        clear hcc hat
        go_wp2_with fail
        refine wp_region_noPanic ?_
        refine wp_region_held_drew (S := fun W => St w W T (some ⟨g1, 0, none⟩) (some ⟨g2, 0, none⟩) m l r f n) (by kernel_rfl) (HST.out.drew) (fun hHeld => ?_)
        refine wpAnyH_take (i := 0) (v := ?v0q) rfl (by kernel_rfl) (by kernel_rfl) (by kernel_rfl) (fun _ _ _ h => h) (Or.inl ⟨by rfl, ?y0q⟩) (by assumption) ?n0q
        case y0q => (intro W hSw; go_simp; try with_reducible rfl)
        try simp only [Act.put, List.getElem_toArray, List.getElem_cons_succ, List.getElem_cons_zero, List.setIfInBounds_toArray, List.set_cons_zero, List.set_cons_succ]
        refine wpAnyH_take (i := 1) (v := ?v1q) rfl (by kernel_rfl) (by kernel_rfl) (by kernel_rfl) (fun _ _ _ h => h) (Or.inl ⟨by rfl, ?y1q⟩) (by assumption) ?n1q
        case y1q => (intro W hSw; go_simp; try with_reducible rfl)
        try simp only [Act.put, List.getElem_toArray, List.getElem_cons_succ, List.getElem_cons_zero, List.setIfInBounds_toArray, List.set_cons_zero, List.set_cons_succ]
        refine wpAnyH_take (i := 2) (v := ?v2q) rfl (by kernel_rfl) (by kernel_rfl) (by kernel_rfl) (fun _ _ _ h => h) (Or.inl ⟨by rfl, ?y2q⟩) (by assumption) ?n2q
        case y2q => (intro W hSw; go_simp; try with_reducible rfl)
        try simp only [Act.put, List.getElem_toArray, List.getElem_cons_succ, List.getElem_cons_zero, List.setIfInBounds_toArray, List.set_cons_zero, List.set_cons_succ]
        refine wpAnyH_take (i := 3) (v := ?v3q) rfl (by kernel_rfl) (by kernel_rfl) (by kernel_rfl) (fun _ _ _ h => h) (Or.inl ⟨by rfl, ?y3q⟩) (by assumption) ?n3q
        case y3q => (intro W hSw; obtain ⟨gx, hgl, eg, q0, q1, q2⟩ := hSw.x k hlt; injection eg with eg; injection eg with eg; subst eg; rw [← HC.out] at q0 q2; rw [← HAT.out] at q1; clear hSw; go_simp; try with_reducible rfl)
        try simp only [Act.put, List.getElem_toArray, List.getElem_cons_succ, List.getElem_cons_zero, List.setIfInBounds_toArray, List.set_cons_zero, List.set_cons_succ]
        refine wpAnyH_take (i := 4) (v := ?v4q) rfl (by kernel_rfl) (by kernel_rfl) (by kernel_rfl) (fun _ _ _ h => h) (Or.inl ⟨by rfl, ?y4q⟩) (by assumption) ?n4q
        case y4q => (intro W hSw; go_simp; try with_reducible rfl)
        try simp only [Act.put, List.getElem_toArray, List.getElem_cons_succ, List.getElem_cons_zero, List.setIfInBounds_toArray, List.set_cons_zero, List.set_cons_succ]
        refine wpAnyH_take (i := 5) (v := ?v5q) rfl (by kernel_rfl) (by kernel_rfl) (by kernel_rfl) (fun _ _ _ h => h) (Or.inl ⟨by rfl, ?y5q⟩) (by assumption) ?n5q
        case y5q => (intro W hSw; go_simp; try with_reducible rfl)
        try simp only [Act.put, List.getElem_toArray, List.getElem_cons_succ, List.getElem_cons_zero, List.setIfInBounds_toArray, List.set_cons_zero, List.set_cons_succ]
        refine wpAnyH_take (i := 6) (v := ?v6q) rfl (by kernel_rfl) (by kernel_rfl) (by kernel_rfl) (fun _ _ _ h => h) (Or.inl ⟨by rfl, ?y6q⟩) (by assumption) ?n6q
        case y6q => (intro W hSw; go_simp; try with_reducible rfl)
        try simp only [Act.put, List.getElem_toArray, List.getElem_cons_succ, List.getElem_cons_zero, List.setIfInBounds_toArray, List.set_cons_zero, List.set_cons_succ]
        refine wpAnyH_take (i := 7) (v := ?v7q) rfl (by kernel_rfl) (by kernel_rfl) (by kernel_rfl) (fun _ _ _ h => h) (Or.inl ⟨by rfl, ?y7q⟩) (by assumption) ?n7q
        case y7q => (intro W hSw; obtain ⟨gx, hgl, eg, q0, q1, q2⟩ := hSw.y k hlt; injection eg with eg; injection eg with eg; subst eg; rw [← HC.out] at q0 q2; rw [← HAT.out] at q1; clear hSw; go_simp; try with_reducible rfl)
        try simp only [Act.put, List.getElem_toArray, List.getElem_cons_succ, List.getElem_cons_zero, List.setIfInBounds_toArray, List.set_cons_zero, List.set_cons_succ]
        refine wpAnyH_take (i := 8) (v := ?v8q) rfl (by kernel_rfl) (by kernel_rfl) (by kernel_rfl) (fun _ _ _ h => h) (Or.inl ⟨by rfl, ?y8q⟩) (by assumption) ?n8q
        case y8q => (intro W hSw; have q0 := neq_cap W c.rig at_ c.need; go_simp; try with_reducible rfl)
        try simp only [Act.put, List.getElem_toArray, List.getElem_cons_succ, List.getElem_cons_zero, List.setIfInBounds_toArray, List.set_cons_zero, List.set_cons_succ]
        refine wpAnyH_done (by kernel_rfl) ?_ _
        refine NoPanic.normal ?_
        have HST := Lib.hid hHeld
        clear hHeld
        go_wp2_with fail
        go_roundw
        case rel => exact ⟨k + 1, by omega, by go_num, HST.out⟩
        case measure => simp [intOf]; omega
      · obtain rfl : m = k := by omega
        clear hlt hk
        go_wp2_with fail
        go_loopw [13] (fun i wr => ∃ k : Nat, k ≤ len ∧ i = .int .i64 k ∧ St w wr T A A2 m l r f n) (fun i _ => len - (intOf i).toNat)
        case atStart => exact ⟨0, Nat.zero_le _, rfl, HST.out⟩
        case round =>
          obtain ⟨k, hk, rfl, hst⟩ := hrel
          have HST := Lib.hid hst
          clear hst
          by_cases hlt : k < len
          · have hlk : k < l.length := by rw [HL.out]; exact hlt
            obtain ⟨a, rfl, -⟩ := HT.out k hlk
            obtain ⟨c, hcc⟩ : ∃ c, c = l[k] := ⟨_, rfl⟩
            have hz := HN.out k hlk
            rw [← hcc] at hz
            have HC := Lib.hid hcc
            clear hcc
            go_wp2_with fail
            refine wp_region_noPanic ?_
            refine wp_region_held_drew (S := fun W => St w W (some a) A A2 m l r f n) (by kernel_rfl) (HST.out.drew) (fun hHeld => ?_)
            refine wpAnyH_take (i := 0) (v := ?v0t) rfl (by kernel_rfl) (by kernel_rfl) (by kernel_rfl) (fun _ _ _ h => h) (Or.inl ⟨by rfl, ?y0t⟩) (by assumption) ?n0t
            case y0t => (intro W hSw; go_simp; try with_reducible rfl)
            try simp only [Act.put, List.getElem_toArray, List.getElem_cons_succ, List.getElem_cons_zero, List.setIfInBounds_toArray, List.set_cons_zero, List.set_cons_succ]
            refine wpAnyH_take (i := 1) (v := ?v1t) rfl (by kernel_rfl) (by kernel_rfl) (by kernel_rfl) (fun _ _ _ h => h) (Or.inl ⟨by rfl, ?y1t⟩) (by assumption) ?n1t
            case y1t => (intro W hSw; go_simp; try with_reducible rfl)
            try simp only [Act.put, List.getElem_toArray, List.getElem_cons_succ, List.getElem_cons_zero, List.setIfInBounds_toArray, List.set_cons_zero, List.set_cons_succ]
            refine wpAnyH_take (i := 2) (v := ?v2t) rfl (by kernel_rfl) (by kernel_rfl) (by kernel_rfl) (fun _ _ _ h => h) (Or.inl ⟨by rfl, ?y2t⟩) (by assumption) ?n2t
            case y2t => (intro W hSw; go_simp; try with_reducible rfl)
            try simp only [Act.put, List.getElem_toArray, List.getElem_cons_succ, List.getElem_cons_zero, List.setIfInBounds_toArray, List.set_cons_zero, List.set_cons_succ]
            refine wpAnyH_take (i := 3) (v := ?v3t) rfl (by kernel_rfl) (by kernel_rfl) (by kernel_rfl) (fun _ _ _ h => h) (Or.inl ⟨by rfl, ?y3t⟩) (by assumption) ?n3t
            case y3t => (intro W hSw; have q0 := (hSw.row_load k hlk); rw [← HC.out] at q0; go_simp; try with_reducible rfl)
            try simp only [Act.put, List.getElem_toArray, List.getElem_cons_succ, List.getElem_cons_zero, List.setIfInBounds_toArray, List.set_cons_zero, List.set_cons_succ]
            refine wpAnyH_take (i := 5) (v := ?v5t) rfl (by kernel_rfl) (by kernel_rfl) (by kernel_rfl) (fun _ _ _ h => h) (Or.inl ⟨by rfl, ?y5t⟩) (by assumption) ?n5t
            case y5t => (intro W hSw; go_simp; try with_reducible rfl)
            try simp only [Act.put, List.getElem_toArray, List.getElem_cons_succ, List.getElem_cons_zero, List.setIfInBounds_toArray, List.set_cons_zero, List.set_cons_succ]
            refine wpAnyH_take (i := 6) (v := ?v6t) rfl (by kernel_rfl) (by kernel_rfl) (by kernel_rfl) (fun _ _ _ h => h) (Or.inl ⟨by rfl, ?y6t⟩) (by assumption) ?n6t
            case y6t => (intro W hSw; go_simp; try with_reducible rfl)
            try simp only [Act.put, List.getElem_toArray, List.getElem_cons_succ, List.getElem_cons_zero, List.setIfInBounds_toArray, List.set_cons_zero, List.set_cons_succ]
            refine wpAnyH_take (i := 7) (v := ?v7t) rfl (by kernel_rfl) (by kernel_rfl) (by kernel_rfl) (fun _ _ _ h => h) (Or.inl ⟨by rfl, ?y7t⟩) (by assumption) ?n7t
            case y7t => (intro W hSw; go_simp; try with_reducible rfl)
            try simp only [Act.put, List.getElem_toArray, List.getElem_cons_succ, List.getElem_cons_zero, List.setIfInBounds_toArray, List.set_cons_zero, List.set_cons_succ]
            refine wpAnyH_take (i := 8) (v := ?v8t) rfl (by kernel_rfl) (by kernel_rfl) (by kernel_rfl) (fun _ _ _ h => h) (Or.inl ⟨by rfl, ?y8t⟩) (by assumption) ?n8t
            case y8t => (intro W hSw; have q0 := (hSw.row_load k hlk); rw [← HC.out] at q0; go_simp; try with_reducible rfl)
            try simp only [Act.put, List.getElem_toArray, List.getElem_cons_succ, List.getElem_cons_zero, List.setIfInBounds_toArray, List.set_cons_zero, List.set_cons_succ]
            refine wpAnyH_ready (rs := [4]) (by kernel_rfl) (by simp) ?_
            refine AllReadyH.cons rfl (fun KK hK => ?_) AllReadyH.nil
            rw [if_pos (by rfl)]
            go_simp
            refine (right_calls c _ hz).mono ?_
            rintro e w7 ⟨rfl, hb7⟩
            try dsimp only
            refine hK.out _ _ (hHeld.step hb7) (fun hHeld => ?_)
            clear hK KK
            try simp only [Act.put, List.getElem_toArray, List.getElem_cons_succ, List.getElem_cons_zero, List.setIfInBounds_toArray, List.set_cons_zero, List.set_cons_succ]
            refine wpAnyH_ready (rs := [9]) (by kernel_rfl) (by simp) ?_
            refine AllReadyH.cons rfl (fun KK hK => ?_) AllReadyH.nil
            rw [if_pos (by rfl)]
            go_simp
            refine (right_ref c _ hz).mono ?_
            rintro e w8 ⟨rfl, hb8⟩
            try dsimp only
            refine hK.out _ _ (hHeld.step hb8) (fun hHeld => ?_)
            clear hK KK
            try simp only [Act.put, List.getElem_toArray, List.getElem_cons_succ, List.getElem_cons_zero, List.setIfInBounds_toArray, List.set_cons_zero, List.set_cons_succ]
            refine wpAnyH_take (i := 10) (v := ?v10t) rfl (by kernel_rfl) (by kernel_rfl) (by kernel_rfl) (fun _ _ _ h => h) (Or.inl ⟨by rfl, ?y10t⟩) (by assumption) ?n10t
            case y10t => (intro W hSw; go_simp; try with_reducible rfl)
            try simp only [Act.put, List.getElem_toArray, List.getElem_cons_succ, List.getElem_cons_zero, List.setIfInBounds_toArray, List.set_cons_zero, List.set_cons_succ]
            refine wpAnyH_take (i := 11) (v := ?v11t) rfl (by kernel_rfl) (by kernel_rfl) (by kernel_rfl) (fun _ _ _ h => h) (Or.inl ⟨by rfl, ?y11t⟩) (by assumption) ?n11t
            case y11t => (intro W hSw; go_simp; try with_reducible rfl)
            try simp only [Act.put, List.getElem_toArray, List.getElem_cons_succ, List.getElem_cons_zero, List.setIfInBounds_toArray, List.set_cons_zero, List.set_cons_succ]
            refine wpAnyH_take (i := 12) (v := ?v12t) rfl (by kernel_rfl) (by kernel_rfl) (by kernel_rfl) (fun _ _ _ h => h) (Or.inl ⟨by rfl, ?y12t⟩) (by assumption) ?n12t
            case y12t => (intro W hSw; go_simp; try with_reducible rfl)
            try simp only [Act.put, List.getElem_toArray, List.getElem_cons_succ, List.getElem_cons_zero, List.setIfInBounds_toArray, List.set_cons_zero, List.set_cons_succ]
            refine wpAnyH_take (i := 13) (v := ?v13t) rfl (by kernel_rfl) (by kernel_rfl) (by kernel_rfl) (fun _ _ _ h => h) (Or.inl ⟨by rfl, ?y13t⟩) (by assumption) ?n13t
            case y13t => (intro W hSw; go_simp; try with_reducible rfl)
            try simp only [Act.put, List.getElem_toArray, List.getElem_cons_succ, List.getElem_cons_zero, List.setIfInBounds_toArray, List.set_cons_zero, List.set_cons_succ]
            refine wpAnyH_take (i := 14) (v := ?v14t) rfl (by kernel_rfl) (by kernel_rfl) (by kernel_rfl) (fun _ _ _ h => h) (Or.inl ⟨by rfl, ?y14t⟩) (by assumption) ?n14t
            case y14t => (intro W hSw; go_simp; try with_reducible rfl)
            try simp only [Act.put, List.getElem_toArray, List.getElem_cons_succ, List.getElem_cons_zero, List.setIfInBounds_toArray, List.set_cons_zero, List.set_cons_succ]
            refine wpAnyH_take (i := 15) (v := ?v15t) rfl (by kernel_rfl) (by kernel_rfl) (by kernel_rfl) (fun _ _ _ h => h) (Or.inl ⟨by rfl, ?y15t⟩) (by assumption) ?n15t
            case y15t => (intro W hSw; have q0 := (hSw.row_load k hlk); rw [← HC.out] at q0; go_simp; try with_reducible rfl)
            try simp only [Act.put, List.getElem_toArray, List.getElem_cons_succ, List.getElem_cons_zero, List.setIfInBounds_toArray, List.set_cons_zero, List.set_cons_succ]
            refine wpAnyH_take (i := 17) (v := ?v17t) rfl (by kernel_rfl) (by kernel_rfl) (by kernel_rfl) (fun _ _ _ h => h) (Or.inl ⟨by rfl, ?y17t⟩) (by assumption) ?n17t
            case y17t => (intro W hSw; go_simp; try with_reducible rfl)
            try simp only [Act.put, List.getElem_toArray, List.getElem_cons_succ, List.getElem_cons_zero, List.setIfInBounds_toArray, List.set_cons_zero, List.set_cons_succ]
            refine wpAnyH_take (i := 18) (v := ?v18t) rfl (by kernel_rfl) (by kernel_rfl) (by kernel_rfl) (fun _ _ _ h => h) (Or.inl ⟨by rfl, ?y18t⟩) (by assumption) ?n18t
            case y18t => (intro W hSw; go_simp; try with_reducible rfl)
            try simp only [Act.put, List.getElem_toArray, List.getElem_cons_succ, List.getElem_cons_zero, List.setIfInBounds_toArray, List.set_cons_zero, List.set_cons_succ]
            refine wpAnyH_take (i := 19) (v := ?v19t) rfl (by kernel_rfl) (by kernel_rfl) (by kernel_rfl) (fun _ _ _ h => h) (Or.inl ⟨by rfl, ?y19t⟩) (by assumption) ?n19t
            case y19t => (intro W hSw; go_simp; try with_reducible rfl)
            try simp only [Act.put, List.getElem_toArray, List.getElem_cons_succ, List.getElem_cons_zero, List.setIfInBounds_toArray, List.set_cons_zero, List.set_cons_succ]
            refine wpAnyH_take (i := 20) (v := ?v20t) rfl (by kernel_rfl) (by kernel_rfl) (by kernel_rfl) (fun _ _ _ h => h) (Or.inl ⟨by rfl, ?y20t⟩) (by assumption) ?n20t
            case y20t => (intro W hSw; have q0 := (hSw.row_load k hlk); rw [← HC.out] at q0; go_simp; try with_reducible rfl)
            try simp only [Act.put, List.getElem_toArray, List.getElem_cons_succ, List.getElem_cons_zero, List.setIfInBounds_toArray, List.set_cons_zero, List.set_cons_succ]
            refine wpAnyH_ready (rs := [16]) (by kernel_rfl) (by simp) ?_
            refine AllReadyH.cons rfl (fun KK hK => ?_) AllReadyH.nil
            rw [if_pos (by rfl)]
            go_simp
            refine (need_calls c _).mono ?_
            rintro e w9 ⟨rfl, hb9⟩
            try dsimp only
            refine hK.out _ _ (hHeld.step hb9) (fun hHeld => ?_)
            clear hK KK
            try simp only [Act.put, List.getElem_toArray, List.getElem_cons_succ, List.getElem_cons_zero, List.setIfInBounds_toArray, List.set_cons_zero, List.set_cons_succ]
            refine wpAnyH_ready (rs := [21]) (by kernel_rfl) (by simp) ?_
            refine AllReadyH.cons rfl (fun KK hK => ?_) AllReadyH.nil
            rw [if_pos (by rfl)]
            go_simp
            refine (need_ref c _).mono ?_
            rintro e w10 ⟨rfl, hb10⟩
            try dsimp only
            refine hK.out _ _ (hHeld.step hb10) (fun hHeld => ?_)
            clear hK KK
            try simp only [Act.put, List.getElem_toArray, List.getElem_cons_succ, List.getElem_cons_zero, List.setIfInBounds_toArray, List.set_cons_zero, List.set_cons_succ]
            refine wpAnyH_take (i := 22) (v := ?v22t) rfl (by kernel_rfl) (by kernel_rfl) (by kernel_rfl) (fun _ _ _ h => h) (Or.inl ⟨by rfl, ?y22t⟩) (by assumption) ?n22t
            case y22t => (intro W hSw; go_simp; try with_reducible rfl)
            try simp only [Act.put, List.getElem_toArray, List.getElem_cons_succ, List.getElem_cons_zero, List.setIfInBounds_toArray, List.set_cons_zero, List.set_cons_succ]
            refine wpAnyH_take (i := 23) (v := ?v23t) rfl (by kernel_rfl) (by kernel_rfl) (by kernel_rfl) (fun _ _ _ h => h) (Or.inl ⟨by rfl, ?y23t⟩) (by assumption) ?n23t
            case y23t => (intro W hSw; go_simp; try with_reducible rfl)
            try simp only [Act.put, List.getElem_toArray, List.getElem_cons_succ, List.getElem_cons_zero, List.setIfInBounds_toArray, List.set_cons_zero, List.set_cons_succ]
            refine wpAnyH_done (by kernel_rfl) ?_ _
            refine NoPanic.normal ?_
            have HST := Lib.hid hHeld
            clear hHeld
            go_wp2_with fail
            go_roundw
            case rel => exact ⟨k + 1, by omega, by go_num, HST.out⟩
            case measure => simp [intOf]; omega
          · obtain rfl : len = k := by omega
            have HBF := Lib.hid HST.out.below
            clear hlt hk
            go_wp2_with fail
            go_ret
            exact ⟨rfl, HBF.out⟩
end Go.Proofs.Ytgcdankgckgibaa.Caps
