/- A copy of bytes that is written over: it lies away from all that QueuePlays keeps. -/
import Derived.Test.YtajflegjpnmloaaQueueCalls
namespace Go.Proofs.Ytajflegjpnmloaa.Queue
open Go.RowKit Go.Proofs.YtajflegjpnmloaaW.PrintWords Go.Proofs.YtajflegjpnmloaaW.PrintLast Go.Proofs.Ytajflegjpnmloaa.Kit Go.Proofs.Ytajflegjpnmloaa.Field
set_option linter.unusedSimpArgs false
set_option linter.unusedVariables false
/-- block b is none of those that are kept -/
structure Away (b gq go : Nat) (vq vo vn : Value) (lq : List Rq) : Prop where
  pf : ¬ pF gq go vq vo vn b
  row : ∀ a ∈ lq, ∀ ad, a.A = some ad → ad.block ≠ b
/-- the block of a row -/
def Bx (A : Option Addr) : Nat → Prop := fun i => ∃ ad, A = some ad ∧ ad.block = i
/-- a row of bytes that may be written -/
def Rw (W : World) (A : Option Addr) (m : Nat) : Prop := 0 < m → ∃ (b : Nat) (cur : Array Value), A = some ⟨b, 0, none⟩ ∧ m ≤ cur.size ∧ W.heap[b]? = some (.cells cur 5 (0, 0))
section
variable {d : Nat} {w W W' : World} {b gq go : Nat} {vq vo vn v' : Value} {lq lo ln : List Rq}
theorem Play.away (h : Play d w W gq go vq vo vn lq lo ln) (hb : W.heap.size ≤ b) : Away b gq go vq vo vn lq := by
  refine ⟨fun f => ?_, fun a ha ad e e2 => ?_⟩
  · rcases f with f | f | f | f | f
    · have := h.q.lt; omega
    · have := h.o.lt; omega
    · have := (own_ge h.q.own f).2; omega
    · have := (own_ge h.o.own f).2; omega
    · have := (own_ge h.n f).2; omega
  · have := (h.sep a ha ad e).2.1; omega
theorem Away.addQ {a : Rq} (h : Away b gq go vq vo vn lq) (hr : rowNext W vq v') (hb : b < W.heap.size) (hA : ∀ ad, a.A = some ad → W.heap.size ≤ ad.block) : Away b gq go v' vo vn (lq ++ [a]) := by
  refine ⟨fun f => ?_, fun x hx ad e e2 => ?_⟩
  · rcases f with f | f | f | f | f
    · exact h.pf (.inl f)
    · exact h.pf (.inr (.inl f))
    · exact next_not hr hb (fun e => h.pf (.inr (.inr (.inl e)))) f
    · exact h.pf (.inr (.inr (.inr (.inl f))))
    · exact h.pf (.inr (.inr (.inr (.inr f))))
  · rcases List.mem_append.1 hx with hx | hx
    · exact h.row x hx ad e e2
    · rw [List.mem_singleton.1 hx] at e
      have := hA ad e; omega
theorem Away.addN (h : Away b gq go vq vo vn lq) (hr : rowNext W vn v') (hb : b < W.heap.size) : Away b gq go vq vo v' lq := by
  refine ⟨fun f => ?_, h.row⟩
  rcases f with f | f | f | f | f
  · exact h.pf (.inl f)
  · exact h.pf (.inr (.inl f))
  · exact h.pf (.inr (.inr (.inl f)))
  · exact h.pf (.inr (.inr (.inr (.inl f))))
  · exact next_not hr hb (fun e => h.pf (.inr (.inr (.inr (.inr e))))) f
theorem Play.writes {A : Option Addr} (h : Play d w W gq go vq vo vn lq lo ln) (hA : ∀ ad, A = some ad → w.heap.size ≤ ad.block ∧ Away ad.block gq go vq vo vn lq) (k : Fr (Bx A) W W') : Play d w W' gq go vq vo vn lq lo ln := by
  refine h.fr k (fun i hi f => ?_) (fun i hi f => ?_) (fun a ha ad e f => ?_)
  · obtain ⟨ad, e, rfl⟩ := f
    exact (hA ad e).2.pf hi
  · obtain ⟨ad, e, rfl⟩ := f
    have := (hA ad e).1; omega
  · obtain ⟨ad2, e2, e3⟩ := f
    exact (hA ad2 e2).2.row a ha ad e e3.symm
theorem own_rw {B n c : Nat} {A : Option Addr} {xs : List Value} (h : W.ownsRow B 5 1 (.slice A n c) n xs) : Rw W A n := by
  intro hn
  rcases h.2 with ⟨e, h0⟩ | ⟨g, cap, cur, e, hg, hh, h1, h2, h3, _⟩
  · omega
  · injection e with e1
    refine ⟨g, cur, e1, ?_, hh⟩
    omega
theorem Rw.keep {A : Option Addr} {m : Nat} {F : Nat → Prop} (h : Rw W A m) (k : Fr F W W') (hA : ∀ ad, A = some ad → ¬ F ad.block) : Rw W' A m := by
  intro hm
  obtain ⟨b, cur, e, h1, hh⟩ := h hm
  exact ⟨b, cur, e, h1, (k.block b (heap_lt hh) (hA _ e)).trans hh⟩
theorem Rw.step {A : Option Addr} {m : Nat} (h : Rw W A m) (k : Below W.heap.size W W') : Rw W' A m := h.keep (Fr.of_below k (fun _ => False)) (fun _ _ => id)
/-- one byte of it is written -/
theorem Rw.at {A : Option Addr} {m j : Nat} (h : Rw W A m) (hj : j < m) : ∃ b, A = some ⟨b, 0, none⟩ ∧ (∃ u, W.cell? ⟨b, j, none⟩ = some u) ∧ W.frozen? ⟨b, j, none⟩ = false ∧ ∀ x, Rw (W.setCell ⟨b, j, none⟩ x) A m ∧ Fr (Bx A) W (W.setCell ⟨b, j, none⟩ x) := by
  obtain ⟨b, cur, rfl, h1, hh⟩ := h (by omega)
  refine ⟨b, rfl, ⟨cur[j], ?_⟩, ?_, fun x => ⟨fun _ => ⟨b, cur.setIfInBounds j x, rfl, by simpa using h1, ?_⟩, (Fr.refl _ W).setCell (.inl ⟨_, rfl, rfl⟩) x⟩⟩
  · rw [cell_of_row W b j cur 5 (0, 0) hh]
    exact Array.getElem?_eq_getElem (by omega)
  · simp [World.frozen?, hh]
  · simp [World.setCell, Array.getElem?_modify, hh]
end
end Go.Proofs.Ytajflegjpnmloaa.Queue
