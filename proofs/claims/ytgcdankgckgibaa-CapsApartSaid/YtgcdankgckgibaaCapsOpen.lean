/- Configs and a cap that came in, laid open; CapsDeal, whatever comes. -/
import Derived.Test.YtgcdankgckgibaaCapsDealLaw
import Derived.Lib.SmallJoins
import Derived.Deep.Slices
import Derived.Deep.Fields
import Derived.ChangeSame
import Derived.ChangeSlices
import Derived.ChangeArms
import Derived.OpenShut
import Derived.ShutString
namespace Go.Proofs.Ytgcdankgckgibaa.Caps
open Go.Joins Go.ChangeShapes Go.WideShapes Go.Deep Go.RowKit Go.Proofs.YtgcdankgckgibaaW.PrintWords Go.Proofs.YtgcdankgckgibaaW.PrintLast Go.Proofs.Ytgcdankgckgibaa.Kit Go.Proofs.Ytgcdankgckgibaa.Runes
section
variable {H : Type} {enc : TypeId × Value → H} {W : World} {base b0 n : Nat} {held : Bool} {v : Value}
theorem open_whole {y : DataW H × List MemPlace} (h : DataW.trod enc Try.prog W base (fun _ => true) held n 3 [v] = some y) : ∃ k : Int, v = .int .i64 k := by
  obtain ⟨k, hk, _, hw⟩ := DataW.trod_int Try.underlying3 h
  exact ⟨k, by simpa using hk⟩
theorem open_text {y : DataW H × List MemPlace} (h : DataW.trod enc Try.prog W base (fun _ => true) held n 9 [v] = some y) : ∃ s : ByteArray, v = .string s ∧ s.size ≤ maxLen := by
  obtain ⟨s, hs, _, hm⟩ := DataW.trod_string Try.underlying9 h
  exact ⟨s, by simpa using hs, hm⟩
theorem open_row {y : DataW H × List MemPlace} (h : DataW.trod enc Try.prog W base (fun _ => true) held n 33 [v] = some y) : ∃ (A : Option Addr) (m c : Nat), v = .slice A m c ∧ m ≤ maxLen := by
  rcases open_slice Try.underlying33 h with ⟨hcs, _⟩ | ⟨x, l, c, m, n', D, Pl, hcs, _, hl, hm, _, _, _⟩
  · simp at hcs
    exact ⟨none, 0, 0, hcs, by unfold maxLen; omega⟩
  · simp at hcs
    exact ⟨_, l, c, hcs, by omega⟩
/-- the fields of one struct in a row -/
theorem open_slice_fields {P : Program} {w : World} {spare : Nat → Bool} {t e : TypeId} {fs : Array Field} {fuel : Nat} {cs : List Value} {x : DataW H × List MemPlace} (ht : P.underlying t = some (.slice e)) (he : P.underlying e = some (.struct fs))
    (hone : oneCellFields P fs = true) (hC : P.cellsOf e = fs.size) (h : DataW.trod enc P w base spare held fuel t cs = some x) :
    (cs = [.slice none 0 0]) ∨
    ∃ (a : Addr) (len cap : Nat), cs = [.slice (some a) len cap] ∧ len ≤ cap ∧ cap ≤ maxLen ∧
      ∀ i, i < len → ∃ (n : Nat), ∀ (j : Nat) (f : Field), fs[j]? = some f → ∃ (v : Value) (y : DataW H × List MemPlace), w.cell? (a.add (i * fs.size + j)) = some v ∧ DataW.trod enc P w base spare held n f.type [v] = some y := by
  rcases open_slice ht h with h0 | ⟨a, len, cap, m, n, D, Pl, hcs, hb, hl, hm, hmm, hx, hi⟩
  · exact .inl h0.1
  · refine .inr ⟨a, len, cap, hcs, hl, hm, fun i him => ?_⟩
    obtain ⟨cs', hc, ht'⟩ := hi i (by rw [hmm]; split <;> omega)
    rw [hC] at hc
    obtain ⟨ys, n', hn', hy, hlen, hyl, hf⟩ := DataW.trod_struct he ht'
    obtain ⟨_, hcl, hat⟩ := World.cells?_some hc
    refine ⟨n', fun j f hj => ?_⟩
    obtain ⟨ho, hk⟩ := hone_of hone j f hj
    have hjl : j < fs.size := (Array.getElem?_eq_some_iff.1 hj).1
    have hcell := hat j hjl
    have hv : cs'[j]? = some (cs'[j]'(by omega)) := List.getElem?_eq_getElem (by omega)
    have h1 := hf j f hj
    rw [ho, hk] at h1
    have hone' : (cs'.drop j).take 1 = [cs'[j]'(by omega)] := by
      rw [List.drop_eq_getElem_cons (by omega)]
      rfl
    rw [hone'] at h1
    have hys : ys[j]? = some (ys[j]'(by omega)) := List.getElem?_eq_getElem (by omega)
    refine ⟨_, _, ?_, h1.trans hys⟩
    rw [← Go.Deep.add_add, hcell, hv]
theorem list_of {α : Type} (n : Nat) (P : Nat → α → Prop) (h : ∀ i, i < n → ∃ x, P i x) : ∃ l : List α, l.length = n ∧ ∀ i (hi : i < l.length), P i l[i] := by
  induction n with
  | zero => exact ⟨[], rfl, fun i hi => absurd hi (by simp)⟩
  | succ n ih =>
    obtain ⟨l, hl, hP⟩ := ih (fun i hi => h i (by omega))
    obtain ⟨x, hx⟩ := h n (by omega)
    refine ⟨l ++ [x], by simp [hl], fun i hi => ?_⟩
    rcases Nat.lt_or_ge i l.length with h1 | h1
    · rw [List.getElem_append_left h1]; exact hP i h1
    · rw [List.getElem_append_right h1]
      obtain rfl : i = n := by simp at hi; omega
      simpa [hl] using hx
theorem open_cfgs {y : DataW H × List MemPlace} (h : DataW.trod enc Try.prog W base (fun _ => true) held n 22 [v] = some y) :
    ∃ (T : Option Addr) (len cap : Nat) (l : List Cfg), v = .slice T len cap ∧ l.length = len ∧ len ≤ maxLen ∧ CfgRow W T l ∧ ∀ i (h : i < l.length), l[i].nm.size ≤ maxLen ∧ l[i].nk ≤ maxLen ∧ l[i].nf ≤ maxLen := by
  rcases open_slice_fields Try.underlying22 Try.underlying35 (by kernel_rfl) (by kernel_rfl) h with hcs | ⟨a, len, cap, hcs, hl, hm, hi⟩
  · simp at hcs
    exact ⟨none, 0, 0, [], hcs, rfl, by unfold maxLen; omega, fun i hi => absurd hi (by simp), fun i hi => absurd hi (by simp)⟩
  · simp at hcs
    obtain ⟨l, hll, hP⟩ := list_of len (fun i (c : Cfg) => CfgAt W (a.add (i * 7)) c ∧ c.nm.size ≤ maxLen ∧ c.nk ≤ maxLen ∧ c.nf ≤ maxLen) (fun i hlt => by
      obtain ⟨n', hf⟩ := hi i hlt
      obtain ⟨v0, y0, c0, t0⟩ := hf 0 _ rfl
      obtain ⟨v1, y1, c1, t1⟩ := hf 1 _ rfl
      obtain ⟨v2, y2, c2, t2⟩ := hf 2 _ rfl
      obtain ⟨v3, y3, c3, t3⟩ := hf 3 _ rfl
      obtain ⟨v4, y4, c4, t4⟩ := hf 4 _ rfl
      obtain ⟨v5, y5, c5, t5⟩ := hf 5 _ rfl
      obtain ⟨v6, y6, c6, t6⟩ := hf 6 _ rfl
      obtain ⟨s, rfl, hs⟩ := open_text t0
      obtain ⟨A1, m1, k1, rfl, hm1⟩ := open_row t1
      obtain ⟨i2, rfl⟩ := open_whole t2
      obtain ⟨i3, rfl⟩ := open_whole t3
      obtain ⟨i4, rfl⟩ := open_whole t4
      obtain ⟨i5, rfl⟩ := open_whole t5
      obtain ⟨A6, m6, k6, rfl, hm6⟩ := open_row t6
      refine ⟨⟨s, A1, m1, k1, i2, i3, i4, i5, A6, m6, k6⟩, fun j u hu => ?_, hs, hm1, hm6⟩
      rw [Addr.add_add]
      have hj : j < 7 := by
        have := (List.getElem?_eq_some_iff.1 hu).1
        simpa [cells_length] using this
      rcases (by omega : j = 0 ∨ j = 1 ∨ j = 2 ∨ j = 3 ∨ j = 4 ∨ j = 5 ∨ j = 6) with rfl | rfl | rfl | rfl | rfl | rfl | rfl
      · exact c0.trans hu
      · exact c1.trans hu
      · exact c2.trans hu
      · exact c3.trans hu
      · exact c4.trans hu
      · exact c5.trans hu
      · exact c6.trans hu)
    exact ⟨some a, len, cap, l, hcs, hll, by omega, fun i hi => ⟨a, rfl, (hP i hi).1⟩, fun i hi => (hP i hi).2⟩
end
theorem few_small {l : List Cfg} (h : fewB l = true) : l.length ≤ 10 ∧ ∀ i (h : i < l.length), l[i].nm.size < 9223372036854775807 := by
  unfold fewB at h
  rw [Bool.and_eq_true, List.all_eq_true, decide_eq_true_eq] at h
  refine ⟨h.2, fun i hi => ?_⟩
  have := of_decide_eq_true (h.1 _ (List.getElem_mem hi))
  omega
theorem capdeal_any {H : Type} {enc : TypeId × Value → H} {base b0 b1 : Nat} {held : Bool} {d0 d1 : DataW H} {p0 p1 : List MemPlace} (v0 v1 : Value) (kind : Int) (W : World)
    (hv0 : Value.okWide Try.prog W .any b0 22 v0) (h0 : DataW.Trod enc Try.prog W base (fun _ => true) held 22 v0 d0 p0)
    (hv1 : Value.okWide Try.prog W .any b1 31 v1) (h1 : DataW.Trod enc Try.prog W base (fun _ => true) held 31 v1 d1 p1) :
    Calls Try.prog 8 #[v0, v1, .int .i64 kind] W fun e W' => e = .returned (.bool true) ∧ Below W.heap.size W W' := by
  obtain ⟨T0, len0, cap0, rfl⟩ := okWide_slice Try.underlying22 hv0
  obtain ⟨fuel, hf⟩ := h0
  have hf : DataW.trod enc Try.prog W base (fun _ => true) held fuel 22 [.slice T0 len0 cap0] = some (d0, p0) := hf
  obtain ⟨T, len, cap, l, e, hl, hm, hT, hn⟩ := open_cfgs hf
  injection e with e1 e2 e3
  subst e1 e2 e3
  obtain ⟨c0, c1, c2, y0, y1, y2, n, rfl, -, -, t0, t1, t2⟩ := open_agg3 Try.underlying31 (by kernel_rfl) (by kernel_rfl) hv1 h1
  obtain ⟨r, rfl⟩ := open_whole t0
  obtain ⟨f, rfl⟩ := open_whole t1
  obtain ⟨k, rfl⟩ := open_whole t2
  unfold maxLen at hm hn
  cases hw : fewB l with
  | true => exact capdeal_in _ _ _ l r f k kind W hl hT (few_small hw).2 (by have := (few_small hw).1; omega) hw
  | false => exact capdeal_out _ _ _ l r f k kind W hl hT (fun i h => (hn i h).1) hm hw
end Go.Proofs.Ytgcdankgckgibaa.Caps
