/-
  A call that writes nothing that was there leaves the old world with new blocks behind it: 'World.ext'; and how the walk reads and writes through it.
-/
import Derived.WalkKit
import Derived.ProofKit
import Derived.Below
import Derived.Carry
namespace Go.Proofs.Ytjbpnmbmgkibdaa
open Go.RowKit

/-- The world with new blocks (and some draws more). -/
def WExt (w : World) (g : Array Obj) (n : Nat) : World := { w with heap := w.heap ++ g, drawn := n }

variable {w : World} {g : Array Obj} {n : Nat}
theorem below_ext {w1 : World} (h : Below w.heap.size w w1) : ∃ g n, w1 = WExt w g n := by
  refine ⟨w1.heap.extract w.heap.size w1.heap.size, w1.drawn, ?_⟩
  obtain ⟨h1, h2, h3, h4, h5⟩ := h
  obtain ⟨heap, tape, drawn, os, output⟩ := w1
  simp only at h1 h2 h3 h4 h5
  subst h1; subst h2; subst h3
  unfold WExt
  congr 1
  apply Array.ext_getElem?
  intro i
  by_cases hi : i < w.heap.size
  · rw [h5 i hi, Array.getElem?_append_left hi]
  · rw [Array.getElem?_append_right (by omega), Array.getElem?_extract]
    dsimp only at h4 ⊢
    by_cases hj : i < heap.size
    · rw [if_pos (by omega)]
      congr 1
      omega
    · rw [if_neg (by omega), Array.getElem?_eq_none (by omega)]
@[go_sem] theorem size_ext : (WExt w g n).heap.size = w.heap.size + g.size := by simp [WExt]
theorem heap_ext_old {i : Nat} (h : i < w.heap.size) : (WExt w g n).heap[i]? = w.heap[i]? := by
  simp [WExt, Array.getElem?_append_left h]
@[go_sem] theorem cell?_ext {b o : Nat} (h : b < w.heap.size) : (WExt w g n).cell? ⟨b, o, none⟩ = w.cell? ⟨b, o, none⟩ := by
  simp only [World.cell?, heap_ext_old h]
@[go_sem] theorem frozen?_ext {b o : Nat} (h : b < w.heap.size) : (WExt w g n).frozen? ⟨b, o, none⟩ = w.frozen? ⟨b, o, none⟩ := by
  simp only [World.frozen?, heap_ext_old h]
@[go_sem] theorem setCell_ext {b o : Nat} {v : Value} (h : b < w.heap.size) : (WExt w g n).setCell ⟨b, o, none⟩ v = WExt (w.setCell ⟨b, o, none⟩ v) g n := by
  unfold World.setCell WExt
  congr 1
  apply Array.ext_getElem?
  intro k
  simp only [Array.getElem?_modify, Array.getElem?_append, Array.size_modify]
  by_cases hk : b = k
  · subst hk; simp [h]
  · simp [hk]
@[go_sem] theorem ext_drew : (WExt w g n).drew = WExt w g (n + 1) := rfl
theorem lt_more {p s x : Nat} (h : p < s) : p < s + x := by omega
attribute [go_sem] lt_more
theorem below_of_ext : Below w.heap.size w (WExt w g n) :=
  ⟨rfl, rfl, rfl, by simp [WExt], fun k hk => heap_ext_old hk⟩
theorem Below.ext {B : Nat} {a : World} (h : Below B a w) (hB : B ≤ w.heap.size) (g : Array Obj) (n : Nat) : Below B a (WExt w g n) :=
  h.trans ((below_of_ext (w := w)).mono hB)
end Go.Proofs.Ytjbpnmbmgkibdaa
