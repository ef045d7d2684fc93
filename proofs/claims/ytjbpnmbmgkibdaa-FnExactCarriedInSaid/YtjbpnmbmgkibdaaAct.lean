/-
  isNumber, ActOk of the program and of the reference, szLetter, szAct, and the law's walk.
-/
import Derived.Test.YtjbpnmbmgkibdaaTo
import Derived.Test.YtjbpnmbmgkibdaaApp
namespace Go.Proofs.Ytjbpnmbmgkibdaa
open Go.ChangeShapes Go.WideShapes Go.ChangeAt Go.RowKit
set_option linter.unusedVariables false
set_option linter.unusedSimpArgs false
set_option maxRecDepth 20000

theorem isNumber_any (A : Option Addr) (c : Nat) (xs : List Int) (w : World) (bd : Nat) (h : Arr w bd intCells 1 A xs) (hl : xs.length ≤ 100) :
    Calls Try.prog 62 #[.slice A xs.length c] w fun e w' => e = .returned (.bool (xs.all isNum)) ∧ w = w' := by
  go_enter Try.func62, Try.ntmps62
  go_wp2_with fail
  go_loop [7] (fun i => ∃ k : Nat, k ≤ xs.length ∧ i = .int .i64 k ∧ (xs.take k).all isNum = true) (fun i => xs.length - (intOf i).toNat)
  case atStart => exact ⟨0, Nat.zero_le _, rfl, rfl⟩
  case round =>
    obtain ⟨k, hk, rfl, ht⟩ := hrel
    by_cases hlt : k < xs.length
    · obtain ⟨b, off, rfl, hb, hc⟩ := h.round hlt
      have hck := hc 0 _ rfl
      clear hc
      simp only [Nat.mul_one, Nat.add_zero] at hck
      have hnext : (xs.take (k + 1)).all isNum = ((xs.take k).all isNum && isNum xs[k]) := by
        rw [List.take_succ_eq_append_getElem hlt, List.all_append]; simp
      have hall : isNum xs[k] = false → xs.all isNum = false := by
        intro hf
        rw [List.all_eq_false]
        exact ⟨xs[k], List.getElem_mem _, by simp [hf]⟩
      generalize xs[k] = x at hck hnext hall
      rw [ht] at hnext
      have Hnext := Lib.hid hnext; clear hnext
      have Hall := Lib.hid hall; clear hall
      have Ht := Lib.hid ht; clear ht
      by_cases hx : isNum x = true
      · have hx' : inB x 0 1000000000 = true := hx
        have Hx := Lib.hid hx; clear hx
        go_wp2_with (go_at_call 30; refine (within_any _ _ _ _).mono ?_; rintro e w' ⟨rfl, rfl⟩; dsimp only)
        go_round
        case rel => exact ⟨k + 1, by omega, by go_num, by rw [Hnext.out, Hx.out]; rfl⟩
        case measure => simp [intOf]; omega
      · have hx' : inB x 0 1000000000 = false := by simpa [isNum] using hx
        have Hx := Lib.hid hx; clear hx
        go_wp2_with (go_at_call 30; refine (within_any _ _ _ _).mono ?_; rintro e w' ⟨rfl, rfl⟩; dsimp only)
        go_ret
        exact ⟨ret_bool (by rw [Hall.out (by simpa using Hx.out)]), rfl⟩
    · rw [List.take_of_length_le (by omega)] at ht
      have Ht := Lib.hid ht; clear ht
      go_wp2_with fail
      go_ret
      exact ⟨ret_bool (by rw [Ht.out]), rfl⟩

def actOk (a : ActD) : Bool := inB a.kind 1 12 && inB a.side 1 2 && (isNum a.pos && isNum a.many) && decide (a.text.size ≤ 120)

/-- A size that is told: at least 0 only where the whole fits. -/
def SzRet (left n : Int) (w : World) (e : Ending) (w' : World) : Prop := ∃ r : Int, e = .returned (.int .i64 r) ∧ (r < 0 ∨ r = left - n) ∧ -1 ≤ r ∧ Below w.heap.size w w'

theorem szLetter_any (x : LetterD) (left : Int) (w : World) (hx : x.wf) (h0 : 0 ≤ left) (h1 : left ≤ 1048576) :
    Calls Try.prog 17 #[x.val, .int .i64 left] w (SzRet left x.text.size w) := by
  have ht : x.text.size ≤ maxLen := by unfold LetterD.wf at hx; simp_all
  unfold maxLen at ht
  unfold LetterD.val
  by_cases hn : left - (x.text.size : Int) < 0
  · go_enter Try.func17, Try.ntmps17
    go_wp2_with fail
    go_ret
    exact ⟨-1, rfl, .inl (by omega), by omega, by repeat' (first | (with_reducible exact Below.refl _ _) | (with_reducible assumption) | (with_reducible refine Below.alloc ?_ ?_ _) | (with_reducible refine Below.ext ?_ ?_ _ _) | (with_reducible refine Below.drew ?_) | (with_reducible refine Below.setCell ?_ ?_ _) | (with_reducible refine below_setRow ?_ ?_ _) | omega | (have hsz_ := hb.size; omega) | (simp only [World.size_alloc, World.size_setCell, size_ext, size_setRow, size_drew]; first | omega | (have hsz_ := hb.size; omega)))⟩
  · go_enter Try.func17, Try.ntmps17
    go_wp2_with fail
    go_ret
    exact ⟨_, rfl, .inr rfl, by omega, by repeat' (first | (with_reducible exact Below.refl _ _) | (with_reducible assumption) | (with_reducible refine Below.alloc ?_ ?_ _) | (with_reducible refine Below.ext ?_ ?_ _ _) | (with_reducible refine Below.drew ?_) | (with_reducible refine Below.setCell ?_ ?_ _) | (with_reducible refine below_setRow ?_ ?_ _) | omega | (have hsz_ := hb.size; omega) | (simp only [World.size_alloc, World.size_setCell, size_ext, size_setRow, size_drew]; first | omega | (have hsz_ := hb.size; omega)))⟩


end Go.Proofs.Ytjbpnmbmgkibdaa
