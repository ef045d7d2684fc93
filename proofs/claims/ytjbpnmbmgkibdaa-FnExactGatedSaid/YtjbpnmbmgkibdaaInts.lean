/-
  toIntS, eqIntS: the laws' copies and comparisons of slices of ints.
-/
import Derived.Test.YtjbpnmbmgkibdaaOwn
import Derived.CellFam
namespace Go.Proofs.Ytjbpnmbmgkibdaa
open Go.ChangeShapes Go.WideShapes Go.ChangeAt Go.RowKit
set_option linter.unusedVariables false
set_option linter.unusedSimpArgs false

theorem intRow : (Try.prog.info? 3).map (fun i => (i.zero, i.size, i.bytes)) = some (some (.int .i64 0), 1, 8) := by kernel_rfl

theorem toIntS_any (s : Sl Int) (w : World) (h : SlAt w w.heap.size intCells 1 s) (hn : s.l.length ≤ 1048576) :
    Calls Try.prog 9 #[.slice s.a s.l.length s.c] w (RetSl w 3 intCells 1 s.l) := by
  obtain ⟨A, c, xs⟩ := s
  obtain ⟨h1, h2, h3⟩ := h
  dsimp only at h1 h2 h3 hn ⊢
  have hmk := make_rule (P := Try.prog) (t := 22) (e := 3) Try.underlying22 intRow xs.length (by omega) (by unfold maxLen; omega)
  go_enter Try.func9, Try.ntmps9
  go_wp2
  go_loopw [4] (fun i wr => ∃ k : Nat, k ≤ xs.length ∧ i = .int .i64 k ∧ Below w.heap.size w wr ∧ ∃ cs, wr.heap[w.heap.size]? = some (.cells cs 3 (0, 0)) ∧ Filled intCells 1 xs k cs) (fun i _ => xs.length - (intOf i).toNat)
  case atStart => exact ⟨0, Nat.zero_le _, rfl, by repeat' (first | (with_reducible exact Below.refl _ _) | (with_reducible assumption) | (with_reducible refine Below.alloc ?_ ?_ _) | (with_reducible refine Below.ext ?_ ?_ _ _) | (with_reducible refine Below.drew ?_) | (with_reducible refine Below.setCell ?_ ?_ _) | (with_reducible refine below_setRow ?_ ?_ _) | omega | (have hsz_ := hb.size; omega) | (simp only [World.size_alloc, World.size_setCell, size_ext, size_setRow, size_drew]; first | omega | (have hsz_ := hb.size; omega))), _, heap_at rfl, by rw [← Nat.mul_one xs.length]; exact Filled.zero⟩
  case round =>
    obtain ⟨k, hk, rfl, hb, cs, hN, hF⟩ := hrel
    by_cases hlt : k < xs.length
    · obtain ⟨b, off, rfl, hbl, hc⟩ := h3.round hlt
      have hck := hc 0 _ rfl
      clear hc
      rw [← hb.cell (by exact hbl)] at hck
      simp only [Nat.mul_one, Nat.add_zero] at hck
      generalize hx : xs[k] = x at hck
      have HN := Lib.hid hN
      have hcs : k < cs.size := by rw [hF.1]; omega
      have h4 := cell_of_row wr w.heap.size k cs _ (0, 0) hN
      rw [Array.getElem?_eq_getElem hcs] at h4
      have h5 := frozen_of_row wr w.heap.size k cs _ hN
      clear hN
      generalize cs[k] = old at h4
      have HF := Lib.hid hF; clear hF
      have Hx := Lib.hid hx; clear hx
      go_wp2
      go_roundw
      case rel =>
        refine ⟨k + 1, by omega, by go_num, by repeat' (first | (with_reducible exact Below.refl _ _) | (with_reducible assumption) | (with_reducible refine Below.alloc ?_ ?_ _) | (with_reducible refine Below.ext ?_ ?_ _ _) | (with_reducible refine Below.drew ?_) | (with_reducible refine Below.setCell ?_ ?_ _) | (with_reducible refine below_setRow ?_ ?_ _) | omega | (have hsz_ := hb.size; omega) | (simp only [World.size_alloc, World.size_setCell, size_ext, size_setRow, size_drew]; first | omega | (have hsz_ := hb.size; omega))), cs.setIfInBounds k (.int .i64 x), heap_setCell_same _ _ _ _ _ _ HN.out, ?_⟩
        exact Filled.step1 (g := .int .i64) HF.out (by rw [List.getElem?_eq_getElem hlt, Hx.out])
      case measure => simp [intOf]; omega
    · have HN := Lib.hid hN; clear hN
      go_wp2
      go_ret
      exact ⟨some ⟨w.heap.size, 0, none⟩, xs.length, rfl, Filled.own intCells_len hF (by omega) HN.out (Nat.le_refl _) (by unfold maxLen; omega), hb⟩

theorem eqIntS_any (s t : Sl Int) (w : World) (h : SlAt w w.heap.size intCells 1 s) (h' : SlAt w w.heap.size intCells 1 t) (e : s.l = t.l) :
    Calls Try.prog 11 #[.slice s.a s.l.length s.c, .slice t.a t.l.length t.c] w fun e w' => e = .returned (.bool true) ∧ Below w.heap.size w w' := by
  obtain ⟨A, c, xs⟩ := s
  obtain ⟨A', c', ys⟩ := t
  obtain ⟨h1, h2, h3⟩ := h
  obtain ⟨h1', h2', h3'⟩ := h'
  dsimp only at h1 h2 h3 h1' h2' h3' e ⊢
  subst e
  unfold maxLen at h2
  have hne : ((xs.length : Int) != (xs.length : Int)) = false := by simp
  go_enter Try.func11, Try.ntmps11
  go_wp2
  go_loopw [5] (fun i wr => ∃ k : Nat, k ≤ xs.length ∧ i = .int .i64 k ∧ Below w.heap.size w wr) (fun i _ => xs.length - (intOf i).toNat)
  case atStart => exact ⟨0, Nat.zero_le _, rfl, Below.refl _ _⟩
  case round =>
    obtain ⟨k, hk, rfl, hb⟩ := hrel
    by_cases hlt : k < xs.length
    · obtain ⟨b, off, rfl, hbl, hc⟩ := h3.round hlt
      obtain ⟨b', off', rfl, hbl', hc'⟩ := h3'.round hlt
      have hck := hc 0 _ rfl
      have hck' := hc' 0 _ rfl
      clear hc hc'
      rw [← hb.cell (by exact hbl)] at hck
      rw [← hb.cell (by exact hbl')] at hck'
      simp only [Nat.mul_one, Nat.add_zero] at hck hck'
      generalize xs[k] = x at hck hck'
      have hI : ((k : Int)) < (xs.length : Int) := by omega
      have hI0 : (0 : Int) ≤ (k : Int) := by omega
      have hxx : (x != x) = false := by simp
      go_wp2
      go_quiet (fail)
      go_wp2
      go_roundw
      case rel => exact ⟨k + 1, by omega, by go_num, below_drewN hb _⟩
      case measure => simp [intOf]; omega
    · go_wp2
      go_ret
      exact ⟨rfl, hb⟩
end Go.Proofs.Ytjbpnmbmgkibdaa
