/- Walk: the reference's Deal; both Deals, whatever comes. -/
import Derived.Test.YtgcdankgckgibaaCapsDeal
import Derived.BigQuiet
namespace Go.Proofs.Ytgcdankgckgibaa.Caps
set_option linter.unusedSimpArgs false
open Go.RowKit Go.Proofs.YtgcdankgckgibaaW.PrintWords Go.Proofs.YtgcdankgckgibaaW.PrintLast Go.Proofs.Ytgcdankgckgibaa.Kit Go.Proofs.Ytgcdankgckgibaa.Runes
attribute [local go_sem ↓] ldC

set_option maxHeartbeats 2000000 in
set_option maxRecDepth 100000 in
theorem dealref_len (T : Option Addr) (len cap : Nat) (l : List Cfg) (w : World) (hl : l.length = len) (h : len < 1 ∨ 8 < len) :
    Calls Try.prog 24 #[.slice T len cap] w fun e w' => DealPost w l e w' := by
  have hd : dealE l = 1 := dealE_len (by omega)
  have HD := Lib.hid hd
  have HL := Lib.hid hl
  clear hd hl
  rcases h with h | h
  · go_enter Try.func24, Try.ntmps24
    go_wp2_with fail
    go_ret2
    exact DealPost.bad (Below.refl _ _) HD.out (by decide)
  · have h0 : ¬ len < 1 := by omega
    go_enter Try.func24, Try.ntmps24
    go_wp2_with fail
    go_ret2
    exact DealPost.bad (Below.refl _ _) HD.out (by decide)

/-- what the reference's second loop keeps -/
structure DealtR (w wr : World) (k : Nat) (l : List Cfg) (v : Value) : Prop where
  own : wr.ownsRow w.heap.size 31 3 v k (capsTo l k)
  below : Below w.heap.size w wr
  nodup : ((namesOf l).take k).Nodup
theorem DealtR.step {w wr w1 : World} {k : Nat} {l : List Cfg} {v : Value} (h : DealtR w wr k l v) (hb : Below wr.heap.size wr w1) : DealtR w w1 k l v :=
  ⟨own_below' h.own hb, h.below.trans (hb.mono h.below.size), h.nodup⟩
theorem DealtR.next {w wr w2 w3 : World} {k : Nat} {l : List Cfg} {v v3 : Value} {o2 : Obj} (h : DealtR w wr k l v) (hk : k < l.length) (hf : ((namesOf l).take k).contains l[k].nm.data.toList = false)
    (hbd : Below wr.heap.size wr.drew w2) (ho : w3.ownsRow w.heap.size 31 3 v3 (k + 1) (capsTo l k ++ [.int .i64 l[k].rig, .int .i64 (atOf l k), .int .i64 l[k].need])) (hg3 : (w2.alloc o2).grownBy w3 v.ownBlock) : DealtR w w3 (k + 1) l v3 := by
  have hb : Below wr.heap.size wr w2 := ⟨hbd.os, hbd.tape, hbd.output, hbd.size, hbd.block⟩
  have s0 := h.below.size
  have s2 := hb.size
  refine ⟨?_, ?_, nodup_snoc hk h.nodup hf⟩
  · rw [capsTo, capOf_at hk]; exact ho
  · have b2 := (h.below.trans (hb.mono s0)).trans ((below_alloc1 w2 o2).mono (by omega))
    exact below_grown b2 hg3 (fun c e => (own_ge h.own e).1) (by simp; omega)
theorem DealtR.own3 {w wr w2 : World} {k : Nat} {l : List Cfg} {v : Value} {o2 : Obj} (h : DealtR w wr k l v) (hbd : Below wr.heap.size wr.drew w2) : (w2.alloc o2).ownsRow w.heap.size 31 3 v k (capsTo l k) :=
  own_below' (own_below' h.own ⟨hbd.os, hbd.tape, hbd.output, hbd.size, hbd.block⟩) (below_alloc1 _ _)
theorem not_in {l : List Cfg} {k : Nat} (hk : k < l.length) (h : ∀ j (hj : j < l.length), j < k → (l[j].nm.data.toList == l[k].nm.data.toList) = false) : ((namesOf l).take k).contains l[k].nm.data.toList = false := by
  rw [Bool.eq_false_iff]
  intro hc
  rw [List.contains_iff_mem] at hc
  obtain ⟨j, hj, e⟩ := List.getElem_of_mem hc
  rw [List.length_take, namesOf_length] at hj
  have hjl : j < l.length := by omega
  rw [List.getElem_take] at e
  have e2 : l[j].nm.data.toList = l[k].nm.data.toList := by simpa [namesOf] using e
  have := h j hjl (by omega)
  rw [e2] at this
  simp at this
theorem is_in {l : List Cfg} {j k : Nat} (hk : k < l.length) (hj : j < k) (h : (l[j].nm.data.toList == l[k].nm.data.toList) = true) : ((namesOf l).take k).contains l[k].nm.data.toList = true := by
  rw [List.contains_iff_mem]
  have e : l[j].nm.data.toList = l[k].nm.data.toList := by simpa using h
  rw [← e]
  refine List.mem_iff_getElem.2 ⟨j, by rw [List.length_take, namesOf_length]; omega, ?_⟩
  rw [List.getElem_take]
  simp [namesOf]

set_option maxHeartbeats 4000000 in
set_option maxRecDepth 100000 in
theorem dealref_in (T : Option Addr) (len cap : Nat) (l : List Cfg) (w : World) (hl : l.length = len) (h1 : 1 ≤ len) (h8 : len ≤ 8) (hT : CfgRow w T l) (hn : ∀ i (h : i < l.length), l[i].nm.size < 9223372036854775807) :
    Calls Try.prog 24 #[.slice T len cap] w fun e w' => DealPost w l e w' := by
  have HL := Lib.hid hl
  have HT := Lib.hid hT
  have HN := Lib.hid hn
  clear hl hT hn
  have h0 : ¬ len < 1 := by omega
  have h00 : ¬ 8 < len := by omega
  go_enter Try.func24, Try.ntmps24
  go_wp2_with fail
  go_loopw [4] (fun i wr => ∃ k : Nat, k ≤ len ∧ i = .int .i64 k ∧ Below w.heap.size w wr ∧ ∀ j (h : j < l.length), j < k → l[j].right = true) (fun i _ => len - (intOf i).toNat)
  case atStart => exact ⟨0, Nat.zero_le _, rfl, Below.refl _ _, fun j h hk => by omega⟩
  case round =>
    obtain ⟨k, hk, rfl, hb, hR⟩ := hrel
    have HB := Lib.hid hb
    have HR := Lib.hid hR
    clear hb hR
    by_cases hlt : k < len
    · have hlk : k < l.length := by rw [HL.out]; exact hlt
      obtain ⟨a, rfl, hc⟩ := HT.out k hlk
      have hc1 := (hc.below HB.out).load
      have hz := HN.out k hlk
      obtain ⟨c, hcc⟩ : ∃ c, c = l[k] := ⟨_, rfl⟩
      rw [← hcc] at hc1 hz
      have HC := Lib.hid hcc
      clear hc hcc
      go_wp2_with fail
      refine (right_ref c _ hz).mono ?_
      rintro e w2 ⟨rfl, hbw⟩
      have HB2 := Lib.hid (HB.out.trans (hbw.mono HB.out.size))
      clear hbw hc1
      cases hr : c.right with
      | false =>
        have HE := Lib.hid (dealE_not k hlk (by rw [← HC.out]; exact hr))
        clear hr
        go_wp2_with fail
        go_ret2
        exact DealPost.bad HB2.out HE.out (by decide)
      | true =>
        have HE := Lib.hid hr
        clear hr
        go_wp2_with fail
        go_roundw
        case rel => exact ⟨k + 1, by omega, by go_num, HB2.out, fun j h hj => by
          rcases Nat.lt_or_ge j k with h1 | h1
          · exact HR.out j h h1
          · obtain rfl : j = k := by omega
            rw [← HC.out]; exact HE.out⟩
        case measure => simp [intOf]; omega
    · have ha := all_of (l := l) (fun i hi => HR.out i hi (by have := HL.out; omega))
      have HA := Lib.hid ha
      clear ha HR
      obtain rfl : len = k := by omega
      clear hk hlt
      obtain ⟨W1, rfl⟩ : ∃ W1, W1 = wr := ⟨_, rfl⟩
      go_wp2_with fail
      go_loopw [5, 6, 7] (fun v at_ i wr2 => ∃ k2 : Nat, k2 ≤ len ∧ i = .int .i64 k2 ∧ at_ = .int .i64 (atOf l k2) ∧ DealtR w wr2 k2 l v) (fun _ _ i _ => len - (intOf i).toNat)
      case atStart => exact ⟨0, Nat.zero_le _, rfl, rfl, World.ownsRow_nil _ _ _ _, HB.out, List.nodup_nil⟩
      case round =>
        obtain ⟨k2, hk2, rfl, rfl, hd⟩ := hrel
        have HD := Lib.hid hd
        clear hd
        by_cases hlt : k2 < len
        · have hlk : k2 < l.length := by rw [HL.out]; exact hlt
          obtain ⟨a, rfl, hc⟩ := HT.out k2 hlk
          have hz := HN.out k2 hlk
          obtain ⟨c, hcc⟩ : ∃ c, c = l[k2] := ⟨_, rfl⟩
          rw [← hcc] at hc hz
          have HC := Lib.hid hcc
          have HK := Lib.hid hc
          clear hc hcc
          obtain ⟨W2, rfl⟩ : ∃ W2, W2 = wr := ⟨_, rfl⟩
          go_wp2_with fail
          go_loopw [8] (fun i wr3 => ∃ j : Nat, j ≤ k2 ∧ i = .int .i64 j ∧ DealtR w wr3 k2 l u5 ∧ ∀ q (h : q < l.length), q < j → (l[q].nm.data.toList == c.nm.data.toList) = false) (fun i _ => k2 - (intOf i).toNat)
          case atStart => exact ⟨0, Nat.zero_le _, rfl, HD.out, fun q h hq => by omega⟩
          case round =>
            obtain ⟨j, hj, rfl, hd, hQ⟩ := hrel
            have HD3 := Lib.hid hd
            have HQ := Lib.hid hQ
            clear hd hQ
            by_cases hjl : j < k2
            · have hjl2 : j < l.length := by omega
              obtain ⟨a', e', hcj⟩ := HT.out j hjl2
              obtain rfl := Option.some.inj e'
              obtain ⟨d, hdd⟩ : ∃ d, d = l[j] := ⟨_, rfl⟩
              rw [← hdd] at hcj
              have HDD := Lib.hid hdd
              have q1 := (hcj.below HD3.out.below).f0
              have q2 := (HK.out.below HD3.out.below).f0
              clear hcj hdd e'
              have hxl : (d.nm.toList == c.nm.toList) = (d.nm.data.toList == c.nm.data.toList) := by rw [ByteArray.toList_eq, ByteArray.toList_eq]
              have HXL := Lib.hid hxl
              clear hxl
              cases hx : (d.nm.data.toList == c.nm.data.toList) with
              | true =>
                have HX := Lib.hid hx
                have hx2 := HXL.out.trans hx
                clear hx
                go_wp2_with fail
                go_quiet (fail)
                have HBQ := Lib.hid (drewN_below HD3.out.below nq)
                go_wp2_with fail
                have HE := Lib.hid (dealE_same (by have := HL.out; omega) (by have := HL.out; omega) HA.out (not_nodup hlk (is_in hlk hjl (by rw [← HC.out, ← HDD.out]; exact HX.out))))
                go_ret2
                exact DealPost.bad HBQ.out HE.out (by decide)
              | false =>
                have HX := Lib.hid hx
                have hx2 := HXL.out.trans hx
                clear hx
                go_wp2_with fail
                go_quiet (fail)
                have HDQ := Lib.hid (HD3.out.step (drewN_below (Below.refl _ wr) nq))
                go_wp2_with fail
                go_roundw
                case rel => exact ⟨j + 1, by omega, by go_num, HDQ.out, fun q h hq => by
                  rcases Nat.lt_or_ge q j with h1 | h1
                  · exact HQ.out q h h1
                  · obtain rfl : q = j := by omega
                    rw [← HDD.out]; exact HX.out⟩
                case measure => simp [intOf]; omega
            · obtain rfl : k2 = j := by omega
              have HNI := Lib.hid (not_in hlk (by rw [← HC.out]; exact HQ.out))
              have HOLD := Lib.hid (HK.out.old)
              have HA3 := Lib.hid (HK.out.below HD3.out.below)
              clear HQ hj hjl
              go_wp2_with fail
              refine wp_region_noPanic ?_
              refine wp_region_held_drew (S := fun W => CfgAt W (a.add (k2 * 7)) c) (by kernel_rfl) (HA3.out) (fun hHeld => ?_)
              refine wpAnyH_take (i := 0) (v := ?v0) rfl (by kernel_rfl) (by kernel_rfl) (by kernel_rfl) (fun _ _ _ h => h) (Or.inl ⟨by rfl, ?y0⟩) (by assumption) ?n0
              case y0 => (intro W hSw; go_simp; try with_reducible rfl)
              try simp only [Act.put, List.getElem_toArray, List.getElem_cons_succ, List.getElem_cons_zero, List.setIfInBounds_toArray, List.set_cons_zero, List.set_cons_succ]
              refine wpAnyH_take (i := 1) (v := ?v1) rfl (by kernel_rfl) (by kernel_rfl) (by kernel_rfl) (fun _ _ _ h => h) (Or.inl ⟨by rfl, ?y1⟩) (by assumption) ?n1
              case y1 => (intro W hSw; go_simp; try with_reducible rfl)
              try simp only [Act.put, List.getElem_toArray, List.getElem_cons_succ, List.getElem_cons_zero, List.setIfInBounds_toArray, List.set_cons_zero, List.set_cons_succ]
              refine wpAnyH_take (i := 2) (v := ?v2) rfl (by kernel_rfl) (by kernel_rfl) (by kernel_rfl) (fun _ _ _ h => h) (Or.inl ⟨by rfl, ?y2⟩) (by assumption) ?n2
              case y2 => (intro W hSw; go_simp; try with_reducible rfl)
              try simp only [Act.put, List.getElem_toArray, List.getElem_cons_succ, List.getElem_cons_zero, List.setIfInBounds_toArray, List.set_cons_zero, List.set_cons_succ]
              refine wpAnyH_take (i := 3) (v := ?v3) rfl (by kernel_rfl) (by kernel_rfl) (by kernel_rfl) (fun _ _ _ h => h) (Or.inl ⟨by rfl, ?y3⟩) (by assumption) ?n3
              case y3 => (intro W hSw; go_simp; try with_reducible rfl)
              try simp only [Act.put, List.getElem_toArray, List.getElem_cons_succ, List.getElem_cons_zero, List.setIfInBounds_toArray, List.set_cons_zero, List.set_cons_succ]
              refine wpAnyH_take (i := 4) (v := ?v4) rfl (by kernel_rfl) (by kernel_rfl) (by kernel_rfl) (fun _ _ _ h => h) (Or.inl ⟨by rfl, ?y4⟩) (by assumption) ?n4
              case y4 => (intro W hSw; go_simp; try with_reducible rfl)
              try simp only [Act.put, List.getElem_toArray, List.getElem_cons_succ, List.getElem_cons_zero, List.setIfInBounds_toArray, List.set_cons_zero, List.set_cons_succ]
              refine wpAnyH_take (i := 5) (v := ?v5) rfl (by kernel_rfl) (by kernel_rfl) (by kernel_rfl) (fun _ _ _ h => h) (Or.inl ⟨by rfl, ?y5⟩) (by assumption) ?n5
              case y5 => (intro W hSw; have q0 := hSw.f5; go_simp; try with_reducible rfl)
              try simp only [Act.put, List.getElem_toArray, List.getElem_cons_succ, List.getElem_cons_zero, List.setIfInBounds_toArray, List.set_cons_zero, List.set_cons_succ]
              refine wpAnyH_take (i := 6) (v := ?v6) rfl (by kernel_rfl) (by kernel_rfl) (by kernel_rfl) (fun _ _ _ h => h) (Or.inl ⟨by rfl, ?y6⟩) (by assumption) ?n6
              case y6 => (intro W hSw; go_simp; try with_reducible rfl)
              try simp only [Act.put, List.getElem_toArray, List.getElem_cons_succ, List.getElem_cons_zero, List.setIfInBounds_toArray, List.set_cons_zero, List.set_cons_succ]
              refine wpAnyH_take (i := 7) (v := ?v7) rfl (by kernel_rfl) (by kernel_rfl) (by kernel_rfl) (fun _ _ _ h => h) (Or.inl ⟨by rfl, ?y7⟩) (by assumption) ?n7
              case y7 => (intro W hSw; go_simp; try with_reducible rfl)
              try simp only [Act.put, List.getElem_toArray, List.getElem_cons_succ, List.getElem_cons_zero, List.setIfInBounds_toArray, List.set_cons_zero, List.set_cons_succ]
              refine wpAnyH_take (i := 8) (v := ?v8) rfl (by kernel_rfl) (by kernel_rfl) (by kernel_rfl) (fun _ _ _ h => h) (Or.inl ⟨by rfl, ?y8⟩) (by assumption) ?n8
              case y8 => (intro W hSw; go_simp; try with_reducible rfl)
              try simp only [Act.put, List.getElem_toArray, List.getElem_cons_succ, List.getElem_cons_zero, List.setIfInBounds_toArray, List.set_cons_zero, List.set_cons_succ]
              refine wpAnyH_take (i := 9) (v := ?v9) rfl (by kernel_rfl) (by kernel_rfl) (by kernel_rfl) (fun _ _ _ h => h) (Or.inl ⟨by rfl, ?y9⟩) (by assumption) ?n9
              case y9 => (intro W hSw; go_simp; try with_reducible rfl)
              try simp only [Act.put, List.getElem_toArray, List.getElem_cons_succ, List.getElem_cons_zero, List.setIfInBounds_toArray, List.set_cons_zero, List.set_cons_succ]
              refine wpAnyH_take (i := 10) (v := ?v10) rfl (by kernel_rfl) (by kernel_rfl) (by kernel_rfl) (fun _ _ _ h => h) (Or.inl ⟨by rfl, ?y10⟩) (by assumption) ?n10
              case y10 => (intro W hSw; have q0 := hSw.load; go_simp; try with_reducible rfl)
              try simp only [Act.put, List.getElem_toArray, List.getElem_cons_succ, List.getElem_cons_zero, List.setIfInBounds_toArray, List.set_cons_zero, List.set_cons_succ]
              refine wpAnyH_ready (rs := [11]) (by kernel_rfl) (by simp) ?_
              refine AllReadyH.cons rfl (fun KK hK => ?_) AllReadyH.nil
              rw [if_pos (by rfl)]
              go_simp
              refine (need_ref c _).mono ?_
              rintro e w2 ⟨rfl, hbw⟩
              try dsimp only
              refine hK.out _ _ (hHeld.below hbw) (fun hHeld => ?_)
              clear hK KK
              try simp only [Act.put, List.getElem_toArray, List.getElem_cons_succ, List.getElem_cons_zero, List.setIfInBounds_toArray, List.set_cons_zero, List.set_cons_succ]
              refine wpAnyH_take (i := 12) (v := ?v12) rfl (by kernel_rfl) (by kernel_rfl) (by kernel_rfl) (fun _ _ _ h => h) (Or.inl ⟨by rfl, ?y12⟩) (by assumption) ?n12
              case y12 => (intro W hSw; go_simp; try with_reducible rfl)
              try simp only [Act.put, List.getElem_toArray, List.getElem_cons_succ, List.getElem_cons_zero, List.setIfInBounds_toArray, List.set_cons_zero, List.set_cons_succ]
              refine wpAnyH_ready (rs := [13]) (by kernel_rfl) (by simp) ?_
              refine AllReadyH.cons rfl (fun KK hK => ?_) AllReadyH.nil
              rw [if_pos (by rfl)]
              go_simp
              try dsimp only
              refine hK.out _ _ (hHeld.below (below_alloc1 _ _)) (fun hHeld => ?_)
              clear hK KK
              try simp only [Act.put, List.getElem_toArray, List.getElem_cons_succ, List.getElem_cons_zero, List.setIfInBounds_toArray, List.set_cons_zero, List.set_cons_succ]
              refine wpAnyH_ready (rs := [14]) (by kernel_rfl) (by simp) ?_
              refine AllReadyH.cons rfl (fun KK hK => ?_) AllReadyH.nil
              refine step_own w.heap.size 3 24 (by rfl) (.tmp 51) (.tmp 64) 25 31 (by rfl) Try.underlying25 infoCap (by decide) _ k2 (capsTo l k2) ⟨w2.heap.size, 0, none⟩ 1 1 [.int .i64 c.rig, .int .i64 (atOf l k2), .int .i64 c.need] (by rfl) (by rfl) (HD3.out.own3 hbw) (by rfl) (built3 _ _ _ _ _) (by intro u hu; simp at hu; rcases hu with rfl | rfl | rfl <;> rfl) (by unfold maxLen; omega) (by omega) (by have := HD3.out.below.size; have := hbw.size; simp at *; omega) ?_
              intro v3 w3 ho3 hg3 _
              try dsimp only
              refine hK.out _ _ (hHeld.grown hg3 (fun e => HOLD.out (own_ge HD3.out.own e).1)) (fun hHeld => ?_)
              clear hK KK
              try simp only [Act.put, List.getElem_toArray, List.getElem_cons_succ, List.getElem_cons_zero, List.setIfInBounds_toArray, List.set_cons_zero, List.set_cons_succ]
              refine wpAnyH_take (i := 15) (v := ?v15) rfl (by kernel_rfl) (by kernel_rfl) (by kernel_rfl) (fun _ _ _ h => h) (Or.inl ⟨by rfl, ?y15⟩) (by assumption) ?n15
              case y15 => (intro W hSw; go_simp; try with_reducible rfl)
              try simp only [Act.put, List.getElem_toArray, List.getElem_cons_succ, List.getElem_cons_zero, List.setIfInBounds_toArray, List.set_cons_zero, List.set_cons_succ]
              refine wpAnyH_done (by kernel_rfl) ?_ _
              refine NoPanic.normal ?_
              have hd3 := HD3.out.next hlk HNI.out hbw (by rw [← HC.out]; exact ho3) hg3
              have HD4 := Lib.hid hd3
              have hld := hHeld.load
              have hat := atOf_bounds l k2
              have hnb := c.need_bounds
              have hsc := atOf_succ hlk
              rw [← HC.out] at hsc
              have HSC := Lib.hid hsc
              clear hd3 hHeld ho3 hg3 hbw hsc
              go_wp2_with fail
              refine (need_ref c _).mono ?_
              rintro e w4 ⟨rfl, hb4⟩
              go_wp2_with fail
              go_roundw
              case rel => exact ⟨k2 + 1, by omega, by go_num, by rw [HSC.out], HD4.out.step hb4⟩
              case measure => simp [intOf]; omega
        · obtain rfl : len = k2 := by omega
          have hnd := HD.out.nodup
          rw [List.take_of_length_le (by rw [namesOf_length, HL.out]; exact Nat.le_refl _)] at hnd
          have hE := dealE_yes (by have := HL.out; omega) (by have := HL.out; omega) HA.out hnd
          have HE := Lib.hid hE
          have hat := atOf_bounds l len
          have HO := Lib.hid HD.out.own
          have HBW := Lib.hid HD.out.below
          clear hE hnd HD hk2 hlt
          go_wp2_with fail
          go_ret2
          exact DealPost.good HBW.out HE.out (by rw [HL.out]; exact HO.out)

theorem deal_calls (T : Option Addr) (len cap : Nat) (l : List Cfg) (w : World) (hl : l.length = len) (hT : CfgRow w T l) (hn : ∀ i (h : i < l.length), l[i].nm.size < 9223372036854775807) :
    Calls Try.prog 16 #[.slice T len cap] w fun e w' => DealPost w l e w' := by
  by_cases h : len < 1 ∨ 8 < len
  · exact deal_len T len cap l w hl h
  · exact deal_in T len cap l w hl (by omega) (by omega) hT hn
theorem dealref_calls (T : Option Addr) (len cap : Nat) (l : List Cfg) (w : World) (hl : l.length = len) (hT : CfgRow w T l) (hn : ∀ i (h : i < l.length), l[i].nm.size < 9223372036854775807) :
    Calls Try.prog 24 #[.slice T len cap] w fun e w' => DealPost w l e w' := by
  by_cases h : len < 1 ∨ 8 < len
  · exact dealref_len T len cap l w hl h
  · exact dealref_in T len cap l w hl (by omega) (by omega) hT hn
end Go.Proofs.Ytgcdankgckgibaa.Caps
