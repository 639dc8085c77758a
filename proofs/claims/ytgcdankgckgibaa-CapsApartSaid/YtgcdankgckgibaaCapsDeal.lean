/- Walk: caps.Deal. -/
import Derived.Test.YtgcdankgckgibaaCapsWalk
import Derived.OrdersHeld
import Derived.Deep.RegionHeld
namespace Go.Proofs.Ytgcdankgckgibaa.Caps
set_option linter.unusedSimpArgs false
open Go.RowKit Go.Proofs.YtgcdankgckgibaaW.PrintWords Go.Proofs.YtgcdankgckgibaaW.PrintLast Go.Proofs.Ytgcdankgckgibaa.Kit Go.Proofs.Ytgcdankgckgibaa.Runes
attribute [local go_sem ↓] ldC

/-- what Deal gives -/
def DealPost (w : World) (l : List Cfg) (e : Ending) (w' : World) : Prop :=
  Below w.heap.size w w' ∧ ∃ v, e = .returned (.tuple #[v, .int .i64 (dealE l)]) ∧ (dealE l = 0 → w'.ownsRow w.heap.size 31 3 v l.length (capsTo l l.length)) ∧ (dealE l ≠ 0 → v = .slice none 0 0)
theorem DealPost.bad {w w' : World} {l : List Cfg} {n : Int} (hb : Below w.heap.size w w') (h : dealE l = n) (hn : n ≠ 0) : DealPost w l (.returned (.tuple #[.slice none 0 0, .int .i64 n])) w' :=
  ⟨hb, _, by rw [h], fun e => absurd (h.symm.trans e) hn, fun _ => rfl⟩
theorem DealPost.good {w w' : World} {l : List Cfg} {v : Value} (hb : Below w.heap.size w w') (h : dealE l = 0) (ho : w'.ownsRow w.heap.size 31 3 v l.length (capsTo l l.length)) : DealPost w l (.returned (.tuple #[v, .int .i64 0])) w' :=
  ⟨hb, _, by rw [h], fun _ => ho, fun e => absurd h e⟩
/-- the three cells that are built, as the append reads them -/
theorem built3 (W : World) (a b c : Value) (t : TypeId) : ∀ j u, [a, b, c][j]? = some u → (W.alloc (.cells #[a, b, c] t)).cell? ((⟨W.heap.size, 0, none⟩ : Addr).add j) = some u := by
  intro j u h
  rw [show (⟨W.heap.size, 0, none⟩ : Addr).add j = ⟨W.heap.size, j, none⟩ by unfold Addr.add; split <;> simp_all, World.cell?_alloc_new]
  simpa using h

set_option maxHeartbeats 2000000 in
set_option maxRecDepth 100000 in
theorem deal_len (T : Option Addr) (len cap : Nat) (l : List Cfg) (w : World) (hl : l.length = len) (h : len < 1 ∨ 8 < len) :
    Calls Try.prog 16 #[.slice T len cap] w fun e w' => DealPost w l e w' := by
  have hd : dealE l = 1 := dealE_len (by omega)
  have HD := Lib.hid hd
  have HL := Lib.hid hl
  clear hd hl
  rcases h with h | h
  · go_enter Try.func16, Try.ntmps16
    go_wp2_with fail
    go_ret2
    exact DealPost.bad (Below.refl _ _) HD.out (by decide)
  · have h0 : ¬ len < 1 := by omega
    go_enter Try.func16, Try.ntmps16
    go_wp2_with fail
    go_ret2
    exact DealPost.bad (Below.refl _ _) HD.out (by decide)

/-- what the second loop keeps -/
structure Dealt (w wr : World) (b k : Nat) (l : List Cfg) (v : Value) : Prop where
  own : wr.ownsRow (b + 1) 31 3 v k (capsTo l k)
  seen : Seen wr b k ((namesOf l).take k)
  below : Below w.heap.size w wr
  nodup : ((namesOf l).take k).Nodup
  le : w.heap.size ≤ b
  lt : b < wr.heap.size
theorem Dealt.own3 {w wr w1 w2 : World} {b k : Nat} {l : List Cfg} {v : Value} {o1 o2 : Obj} (h : Dealt w wr b k l v) (hg : (wr.alloc o1).grownBy w1 (some b)) (hb : Below w1.heap.size w1.drew w2) : (w2.alloc o2).ownsRow (b + 1) 31 3 v k (capsTo l k) := by
  have h1 := own_below' h.own (below_alloc1 wr o1)
  have hb' : Below w1.heap.size w1 w2 := ⟨hb.os, hb.tape, hb.output, hb.size, hb.block⟩
  have h2 : w1.ownsRow (b + 1) 31 3 v k (capsTo l k) := h1.kept hg (.inr (fun e => by have := (own_ge h.own e).1; omega))
  exact own_below' (own_below' h2 hb') (below_alloc1 _ _)
theorem Dealt.next {w wr w1 w2 w3 : World} {b k : Nat} {l : List Cfg} {v v3 : Value} {o1 o2 : Obj} (h : Dealt w wr b k l v) (hk : k < l.length) (hs : Seen w1 b (k + 1) ((namesOf l).take k ++ [l[k].nm.data.toList])) (hg : (wr.alloc o1).grownBy w1 (some b)) (hf : ((namesOf l).take k).contains l[k].nm.data.toList = false)
    (hbd : Below w1.heap.size w1.drew w2) (ho : w3.ownsRow (b + 1) 31 3 v3 (k + 1) (capsTo l k ++ [.int .i64 l[k].rig, .int .i64 (atOf l k), .int .i64 l[k].need])) (hg3 : (w2.alloc o2).grownBy w3 v.ownBlock) : Dealt w w3 b (k + 1) l v3 := by
  have hb : Below w1.heap.size w1 w2 := ⟨hbd.os, hbd.tape, hbd.output, hbd.size, hbd.block⟩
  have s1 : wr.heap.size + 1 ≤ w1.heap.size := by have := hg.size; simp at this; omega
  have s2 := hb.size
  have s3 : w2.heap.size + 1 ≤ w3.heap.size := by have := hg3.size; simp at this; omega
  have s0 := h.below.size
  have hlt := h.lt
  have hle := h.le
  have hv : ∀ c, v.ownBlock = some c → b + 1 ≤ c := fun c e => (own_ge h.own e).1
  refine ⟨?_, ?_, ?_, nodup_snoc hk h.nodup hf, h.le, by omega⟩
  · rw [capsTo, capOf_at hk]; exact ho
  · rw [take_snoc hk]
    exact ((hs.below hb).below (below_alloc1 _ _)).grown hg3 (fun e => by have := hv b e.symm; omega)
  · have b1 := below_grown (h.below.trans ((below_alloc1 wr o1).mono s0)) hg (fun c e => by injection e with e; omega) (by simp; omega)
    have b2 := (b1.trans (hb.mono (by omega))).trans ((below_alloc1 w2 o2).mono (by omega))
    exact below_grown b2 hg3 (fun c e => by have := hv c e; omega) (by simp; omega)
theorem Dealt.step {w wr w1 : World} {b k : Nat} {l : List Cfg} {v : Value} (h : Dealt w wr b k l v) (hb : Below wr.heap.size wr w1) : Dealt w w1 b k l v :=
  ⟨own_below' h.own hb, h.seen.below hb, h.below.trans (hb.mono h.below.size), h.nodup, h.le, Nat.lt_of_lt_of_le h.lt hb.size⟩

set_option maxHeartbeats 4000000 in
set_option maxRecDepth 100000 in
theorem deal_in (T : Option Addr) (len cap : Nat) (l : List Cfg) (w : World) (hl : l.length = len) (h1 : 1 ≤ len) (h8 : len ≤ 8) (hT : CfgRow w T l) (hn : ∀ i (h : i < l.length), l[i].nm.size < 9223372036854775807) :
    Calls Try.prog 16 #[.slice T len cap] w fun e w' => DealPost w l e w' := by
  have HL := Lib.hid hl
  have HT := Lib.hid hT
  have HN := Lib.hid hn
  clear hl hT hn
  have h0 : ¬ len < 1 := by omega
  have h00 : ¬ 8 < len := by omega
  have hmm := @run_makeMap Try.prog
  go_enter Try.func16, Try.ntmps16
  go_wp2_with fail
  go_loopw [21] (fun i wr => ∃ k : Nat, k ≤ len ∧ i = .int .i64 k ∧ Below w.heap.size w wr ∧ ∀ j (h : j < l.length), j < k → l[j].right = true) (fun i _ => len - (intOf i).toNat)
  case atStart => exact ⟨0, Nat.zero_le _, rfl, Below.refl _ _, fun j h hk => by omega⟩
  case round =>
    obtain ⟨k, hk, rfl, hb, hR⟩ := hrel
    have HB := Lib.hid hb
    have HR := Lib.hid hR
    clear hb hR
    by_cases hlt : k < len
    · have hlk : k < l.length := by rw [HL.out]; exact hlt
      obtain ⟨a, rfl, hc⟩ := HT.out k hlk
      have hc1 := (hc.below HB.out).load
      have hz := HN.out k hlk
      obtain ⟨c, hcc⟩ : ∃ c, c = l[k] := ⟨_, rfl⟩
      rw [← hcc] at hc1 hz
      have HC := Lib.hid hcc
      clear hc hcc
      have hb2 := (box_at wr c).load
      go_wp2_with fail
      refine (right_calls c _ hz).mono ?_
      rintro e w2 ⟨rfl, hbw⟩
      have HB2 := Lib.hid ((HB.out.trans ((below_alloc1 wr _).mono HB.out.size)).trans (hbw.mono (Nat.le_trans HB.out.size (below_alloc1 wr _).size)))
      clear hbw hc1 hb2
      cases hr : c.right with
      | false =>
        have HE := Lib.hid (dealE_not k hlk (by rw [← HC.out]; exact hr))
        clear hr
        go_wp2_with fail
        go_ret2
        exact DealPost.bad HB2.out HE.out (by decide)
      | true =>
        have HE := Lib.hid hr
        clear hr
        go_wp2_with fail
        go_roundw
        case rel => exact ⟨k + 1, by omega, by go_num, HB2.out, fun j h hj => by
          rcases Nat.lt_or_ge j k with h1 | h1
          · exact HR.out j h h1
          · obtain rfl : j = k := by omega
            rw [← HC.out]; exact HE.out⟩
        case measure => simp [intOf]; omega
    · have ha := all_of (l := l) (fun i hi => HR.out i hi (by have := HL.out; omega))
      have HA := Lib.hid ha
      clear ha HR
      obtain rfl : len = k := by omega
      clear hk hlt
      obtain ⟨W1, rfl⟩ : ∃ W1, W1 = wr := ⟨_, rfl⟩
      go_wp2_with fail
      go_loopw [6, 8, 32] (fun v at_ i wr2 => ∃ k2 : Nat, k2 ≤ len ∧ i = .int .i64 k2 ∧ at_ = .int .i64 (atOf l k2) ∧ Dealt w wr2 W1.heap.size k2 l v) (fun _ _ i _ => len - (intOf i).toNat)
      case atStart => exact ⟨0, Nat.zero_le _, rfl, rfl, World.ownsRow_nil _ _ _ _, Seen.new W1, HB.out.trans ((below_alloc1 W1 _).mono HB.out.size), List.nodup_nil, HB.out.size, by simp⟩
      case round =>
        obtain ⟨k2, hk2, rfl, rfl, hd⟩ := hrel
        have HD := Lib.hid hd
        clear hd
        by_cases hlt : k2 < len
        · have hlk : k2 < l.length := by rw [HL.out]; exact hlt
          obtain ⟨a, rfl, hc⟩ := HT.out k2 hlk
          have hc1 := (hc.below HD.out.below).load
          have hz := HN.out k2 hlk
          obtain ⟨c, hcc⟩ : ∃ c, c = l[k2] := ⟨_, rfl⟩
          rw [← hcc] at hc1 hz
          have HC := Lib.hid hcc
          clear hc hcc
          have hb2 := (box_at wr c).load
          have hA2 := box_at wr c
          obtain ⟨W2, hW2⟩ : ∃ W2, W2 = wr.alloc (.cells #[.string c.nm, .slice c.ka c.nk c.kc, .int .i64 c.slot, .int .i64 c.bud, .int .i64 c.quo, .int .i64 c.rig, .slice c.fa c.nf c.fc] 35) := ⟨_, rfl⟩
          rw [← hW2] at hA2
          have hsn : Seen W2 W1.heap.size k2 ((namesOf l).take k2) := by rw [hW2]; exact HD.out.seen.below (below_alloc1 _ _)
          have hlook := hsn.look c.nm (by unfold maxLen; omega)
          obtain ⟨w1, hput, hsw, hgw⟩ := hsn.put (by unfold maxLen; omega) c.nm (by unfold maxLen; omega)
          have hA3 := hA2.grown hgw (by have := HD.out.lt; simp; omega)
          rw [hW2] at hlook hput hgw
          have HSW := Lib.hid hsw
          have HGW := Lib.hid hgw
          have HA3 := Lib.hid hA3
          clear hW2 hsn hsw hgw hA2 hA3
          obtain ⟨x, hx⟩ : ∃ x, x = ((namesOf l).take k2).contains c.nm.data.toList := ⟨_, rfl⟩
          rw [← hx] at hlook
          cases x with
          | true =>
            have HE := Lib.hid (dealE_same (by have := HL.out; omega) (by have := HL.out; omega) HA.out (not_nodup hlk (by rw [← HC.out]; exact hx.symm)))
            clear hput hx
            go_wp2_with fail
            go_ret2
            exact DealPost.bad (HD.out.below.trans ((below_alloc1 wr _).mono HD.out.below.size)) HE.out (by decide)
          | false =>
            have HX := Lib.hid hx
            clear hx
            go_wp2_with fail
            refine wp_region_noPanic ?_
            refine wp_region_held_drew (S := fun W => CfgAt W ⟨wr.heap.size, 0, none⟩ c) (by kernel_rfl) (HA3.out) (fun hHeld => ?_)
            refine wpAnyH_take (i := 0) (v := ?v0) rfl (by kernel_rfl) (by kernel_rfl) (by kernel_rfl) (fun _ _ _ h => h) (Or.inl ⟨by rfl, ?y0⟩) (by assumption) ?n0
            case y0 => (intro W hSw; go_simp; try with_reducible rfl)
            try simp only [Act.put, List.getElem_toArray, List.getElem_cons_succ, List.getElem_cons_zero, List.setIfInBounds_toArray, List.set_cons_zero, List.set_cons_succ]
            refine wpAnyH_take (i := 1) (v := ?v1) rfl (by kernel_rfl) (by kernel_rfl) (by kernel_rfl) (fun _ _ _ h => h) (Or.inl ⟨by rfl, ?y1⟩) (by assumption) ?n1
            case y1 => (intro W hSw; go_simp; try with_reducible rfl)
            try simp only [Act.put, List.getElem_toArray, List.getElem_cons_succ, List.getElem_cons_zero, List.setIfInBounds_toArray, List.set_cons_zero, List.set_cons_succ]
            refine wpAnyH_take (i := 2) (v := ?v2) rfl (by kernel_rfl) (by kernel_rfl) (by kernel_rfl) (fun _ _ _ h => h) (Or.inl ⟨by rfl, ?y2⟩) (by assumption) ?n2
            case y2 => (intro W hSw; have q0 := hSw.f5; go_simp; try with_reducible rfl)
            try simp only [Act.put, List.getElem_toArray, List.getElem_cons_succ, List.getElem_cons_zero, List.setIfInBounds_toArray, List.set_cons_zero, List.set_cons_succ]
            refine wpAnyH_take (i := 3) (v := ?v3) rfl (by kernel_rfl) (by kernel_rfl) (by kernel_rfl) (fun _ _ _ h => h) (Or.inl ⟨by rfl, ?y3⟩) (by assumption) ?n3
            case y3 => (intro W hSw; go_simp; try with_reducible rfl)
            try simp only [Act.put, List.getElem_toArray, List.getElem_cons_succ, List.getElem_cons_zero, List.setIfInBounds_toArray, List.set_cons_zero, List.set_cons_succ]
            refine wpAnyH_take (i := 4) (v := ?v4) rfl (by kernel_rfl) (by kernel_rfl) (by kernel_rfl) (fun _ _ _ h => h) (Or.inl ⟨by rfl, ?y4⟩) (by assumption) ?n4
            case y4 => (intro W hSw; have q0 := hSw.load; go_simp; try with_reducible rfl)
            try simp only [Act.put, List.getElem_toArray, List.getElem_cons_succ, List.getElem_cons_zero, List.setIfInBounds_toArray, List.set_cons_zero, List.set_cons_succ]
            refine wpAnyH_ready (rs := [5]) (by kernel_rfl) (by simp) ?_
            refine AllReadyH.cons rfl (fun KK hK => ?_) AllReadyH.nil
            rw [if_pos (by rfl)]
            go_simp
            refine (need_calls c _).mono ?_
            rintro e w2 ⟨rfl, hbw⟩
            try dsimp only
            refine hK.out _ _ (hHeld.below hbw) (fun hHeld => ?_)
            clear hK KK
            try simp only [Act.put, List.getElem_toArray, List.getElem_cons_succ, List.getElem_cons_zero, List.setIfInBounds_toArray, List.set_cons_zero, List.set_cons_succ]
            refine wpAnyH_take (i := 6) (v := ?v6) rfl (by kernel_rfl) (by kernel_rfl) (by kernel_rfl) (fun _ _ _ h => h) (Or.inl ⟨by rfl, ?y6⟩) (by assumption) ?n6
            case y6 => (intro W hSw; go_simp; try with_reducible rfl)
            try simp only [Act.put, List.getElem_toArray, List.getElem_cons_succ, List.getElem_cons_zero, List.setIfInBounds_toArray, List.set_cons_zero, List.set_cons_succ]
            refine wpAnyH_ready (rs := [7]) (by kernel_rfl) (by simp) ?_
            refine AllReadyH.cons rfl (fun KK hK => ?_) AllReadyH.nil
            rw [if_pos (by rfl)]
            go_simp
            try dsimp only
            refine hK.out _ _ (hHeld.below (below_alloc1 _ _)) (fun hHeld => ?_)
            clear hK KK
            try simp only [Act.put, List.getElem_toArray, List.getElem_cons_succ, List.getElem_cons_zero, List.setIfInBounds_toArray, List.set_cons_zero, List.set_cons_succ]
            refine wpAnyH_ready (rs := [8]) (by kernel_rfl) (by simp) ?_
            refine AllReadyH.cons rfl (fun KK hK => ?_) AllReadyH.nil
            refine step_own (W1.heap.size + 1) 3 24 (by rfl) (.tmp 43) (.tmp 50) 25 31 (by rfl) Try.underlying25 infoCap (by decide) _ k2 (capsTo l k2) ⟨w2.heap.size, 0, none⟩ 1 1 [.int .i64 c.rig, .int .i64 (atOf l k2), .int .i64 c.need] (by rfl) (by rfl) (HD.out.own3 HGW.out hbw) (by rfl) (built3 _ _ _ _ _) (by intro u hu; simp at hu; rcases hu with rfl | rfl | rfl <;> rfl) (by unfold maxLen; omega) (by omega) (by have := HD.out.lt; have := HGW.out.size; have := hbw.size; simp at *; omega) ?_
            intro v3 w3 ho3 hg3 _
            try dsimp only
            refine hK.out _ _ (hHeld.grown hg3 (fun e => absurd (own_ge HD.out.own e).2 (Nat.lt_irrefl _))) (fun hHeld => ?_)
            clear hK KK
            try simp only [Act.put, List.getElem_toArray, List.getElem_cons_succ, List.getElem_cons_zero, List.setIfInBounds_toArray, List.set_cons_zero, List.set_cons_succ]
            refine wpAnyH_take (i := 9) (v := ?v9) rfl (by kernel_rfl) (by kernel_rfl) (by kernel_rfl) (fun _ _ _ h => h) (Or.inl ⟨by rfl, ?y9⟩) (by assumption) ?n9
            case y9 => (intro W hSw; go_simp; try with_reducible rfl)
            try simp only [Act.put, List.getElem_toArray, List.getElem_cons_succ, List.getElem_cons_zero, List.setIfInBounds_toArray, List.set_cons_zero, List.set_cons_succ]
            refine wpAnyH_done (by kernel_rfl) ?_ _
            refine NoPanic.normal ?_
            have hd3 := HD.out.next hlk (by rw [← HC.out]; exact HSW.out) HGW.out (by rw [← HC.out]; exact HX.out.symm) hbw (by rw [← HC.out]; exact ho3) hg3
            have HD3 := Lib.hid hd3
            have hld := hHeld.load
            have hat := atOf_bounds l k2
            have hnb := c.need_bounds
            have hsc := atOf_succ hlk
            rw [← HC.out] at hsc
            have HSC := Lib.hid hsc
            clear hd3 hHeld ho3 hg3 hbw hsc hlook hput hb2 hc1
            go_wp2_with fail
            refine (need_calls c _).mono ?_
            rintro e w4 ⟨rfl, hb4⟩
            go_wp2_with fail
            go_roundw
            case rel => exact ⟨k2 + 1, by omega, by go_num, by rw [HSC.out], HD3.out.step hb4⟩
            case measure => simp [intOf]; omega
        · obtain rfl : len = k2 := by omega
          have hnd := HD.out.nodup
          rw [List.take_of_length_le (by rw [namesOf_length, HL.out]; exact Nat.le_refl _)] at hnd
          have hE := dealE_yes (by have := HL.out; omega) (by have := HL.out; omega) HA.out hnd
          have HE := Lib.hid hE
          have hat := atOf_bounds l len
          have HO := Lib.hid (own_less HD.out.own (Nat.le_succ_of_le HD.out.le))
          have HBW := Lib.hid HD.out.below
          clear hE hnd HD hk2 hlt
          go_wp2_with fail
          go_ret2
          exact DealPost.good HBW.out HE.out (by rw [HL.out]; exact HO.out)
end Go.Proofs.Ytgcdankgckgibaa.Caps
