/- Walks: Few; caps.May and the reference's. -/
import Derived.Test.YtgcdankgckgibaaCapsLive
namespace Go.Proofs.Ytgcdankgckgibaa.Caps
open Go.RowKit Go.Proofs.YtgcdankgckgibaaW.PrintWords Go.Proofs.YtgcdankgckgibaaW.PrintLast Go.Proofs.Ytgcdankgckgibaa.Kit Go.Proofs.Ytgcdankgckgibaa.Runes
attribute [local go_sem ↓] ldC
set_option linter.unusedSimpArgs false
set_option linter.unusedVariables false

def smallB (c : Cfg) : Bool := decide (c.nm.size ≤ 100 ∧ c.nk ≤ 200 ∧ c.nf ≤ 3000)
def fewB (l : List Cfg) : Bool := l.all smallB && decide (l.length ≤ 10)
def FewPost (w : World) (l : List Cfg) (e : Ending) (w' : World) : Prop := e = .returned (.bool (fewB l)) ∧ w = w'
set_option maxHeartbeats 4000000 in
set_option maxRecDepth 100000 in
theorem few_calls (T : Option Addr) (len cap : Nat) (l : List Cfg) (w : World) (hl : l.length = len) (hT : CfgRow w T l) (hn : ∀ i (h : i < l.length), l[i].nm.size ≤ 9223372036854775807) (hm : len ≤ 9223372036854775807) :
    Calls Try.prog 15 #[.slice T len cap] w fun e w' => FewPost w l e w' := by
  have HL := Lib.hid hl
  have HT := Lib.hid hT
  have HN := Lib.hid hn
  clear hl hT hn
  go_enter Try.func15, Try.ntmps15
  go_wp2_with fail
  go_loop [3] (fun i => ∃ k : Nat, k ≤ len ∧ i = .int .i64 k ∧ ∀ j (h : j < l.length), j < k → smallB l[j] = true) (fun i => len - (intOf i).toNat)
  case atStart => exact ⟨0, Nat.zero_le _, rfl, fun j h hk => by omega⟩
  case round =>
    obtain ⟨k, hk, rfl, hS⟩ := hrel
    have HS := Lib.hid hS
    clear hS
    by_cases hlt : k < len
    · have hlk : k < l.length := by rw [HL.out]; exact hlt
      obtain ⟨a, rfl, hc⟩ := HT.out k hlk
      obtain ⟨c, hcc⟩ : ∃ c, c = l[k] := ⟨_, rfl⟩
      have hz := HN.out k hlk
      rw [← hcc] at hc hz
      have HC := Lib.hid hcc
      have q0 := hc.f0
      have q1 := hc.f1
      have q6 := hc.f6
      clear hcc hc
      by_cases hs : c.nm.size ≤ 100 ∧ c.nk ≤ 200 ∧ c.nf ≤ 3000
      · have HSC := Lib.hid (show smallB c = true from decide_eq_true hs)
        obtain ⟨s1, s2, s3⟩ := hs
        go_wp2_with fail
        go_round
        case rel => exact ⟨k + 1, by omega, by go_num, fun j h hj => by
          rcases Nat.lt_or_ge j k with h1 | h1
          · exact HS.out j h h1
          · obtain rfl : j = k := by omega
            rw [← HC.out]; exact HSC.out⟩
        case measure => simp [intOf]; omega
      · have hf : fewB l = false := by
          unfold fewB
          rw [show l.all smallB = false from by
            rw [Bool.eq_false_iff]
            intro ha
            rw [List.all_eq_true] at ha
            have := ha _ (List.getElem_mem hlk)
            rw [← HC.out] at this
            exact hs (of_decide_eq_true this)]
          rfl
        have HF := Lib.hid hf
        have HNS := Lib.hid hs
        clear hf hs
        go_wp2_with fail
        all_goals first
          | (exfalso; have := HNS.out; omega)
          | (go_ret; exact ⟨by rw [HF.out]; rfl, rfl⟩)
    · have ha : l.all smallB = true := by
        rw [List.all_eq_true]
        intro x hx
        obtain ⟨i, hi, rfl⟩ := List.getElem_of_mem hx
        exact HS.out i hi (by have := HL.out; omega)
      have hf : fewB l = decide (len ≤ 10) := by
        unfold fewB
        rw [ha, HL.out]
        rfl
      have HF := Lib.hid hf
      clear ha hf HS
      go_wp2_with fail
      go_ret
      exact ⟨by rw [HF.out]; exact congrArg (fun b => Ending.returned (Value.bool b)) (decide_eq_decide.2 ⟨fun _ => by omega, fun _ => by omega⟩), rfl⟩

def mayV (r kind : Int) : Bool := if 1 ≤ kind ∧ kind ≤ 9 then (bits BinOp.and IntKind.i64 (r / 2 ^ kind.toNat) 1 == 1) else false
set_option maxHeartbeats 4000000 in
theorem may_calls (r f n kind : Int) (w : World) : Calls Try.prog 25 #[.agg #[.int .i64 r, .int .i64 f, .int .i64 n], .int .i64 kind] w fun e w' => e = .returned (.bool (mayV r kind)) ∧ Below w.heap.size w w' := by
  have hb := below_alloc1 w (.cells #[.int .i64 r, .int .i64 f, .int .i64 n] 31)
  by_cases h : 1 ≤ kind ∧ kind ≤ 9
  · have HV := Lib.hid (show mayV r kind = (bits BinOp.and IntKind.i64 (r / 2 ^ kind.toNat) 1 == 1) from if_pos h)
    obtain ⟨h1, h2⟩ := h
    go_enter Try.func25, Try.ntmps25
    go_wp2_with fail
    go_ret
    exact ⟨by rw [HV.out]; rfl, hb⟩
  · have HV := Lib.hid (show mayV r kind = false from if_neg h)
    rcases (by omega : kind < 1 ∨ 9 < kind) with h1 | h1
    · clear h
      go_enter Try.func25, Try.ntmps25
      go_wp2_with fail
      go_ret
      exact ⟨by rw [HV.out]; rfl, hb⟩
    · have h2 : 1 ≤ kind := by omega
      clear h
      go_enter Try.func25, Try.ntmps25
      go_wp2_with fail
      go_ret
      exact ⟨by rw [HV.out]; rfl, hb⟩
set_option maxHeartbeats 4000000 in
theorem may_ref (r f n kind : Int) (w : World) : Calls Try.prog 26 #[.agg #[.int .i64 r, .int .i64 f, .int .i64 n], .int .i64 kind] w fun e w' => e = .returned (.bool (mayV r kind)) ∧ Below w.heap.size w w' := by
  have hb := below_alloc1 w (.cells #[.int .i64 r, .int .i64 f, .int .i64 n] 31)
  by_cases h : 1 ≤ kind ∧ kind ≤ 9
  · have HV := Lib.hid (show mayV r kind = (bits BinOp.and IntKind.i64 (r / 2 ^ kind.toNat) 1 == 1) from if_pos h)
    obtain ⟨h1, h2⟩ := h
    go_enter Try.func26, Try.ntmps26
    go_wp2_with fail
    go_ret
    exact ⟨by rw [HV.out]; rfl, hb⟩
  · have HV := Lib.hid (show mayV r kind = false from if_neg h)
    rcases (by omega : kind < 1 ∨ 9 < kind) with h1 | h1
    · clear h
      go_enter Try.func26, Try.ntmps26
      go_wp2_with fail
      go_ret
      exact ⟨by rw [HV.out]; rfl, hb⟩
    · have h2 : 1 ≤ kind := by omega
      clear h
      go_enter Try.func26, Try.ntmps26
      go_wp2_with fail
      go_ret
      exact ⟨by rw [HV.out]; rfl, hb⟩
end Go.Proofs.Ytgcdankgckgibaa.Caps
