/-
  MostWithin of the program and of the reference, and the law's walk.
-/
import Derived.Test.YtjbpnmbmgkibdaaInts
namespace Go.Proofs.Ytjbpnmbmgkibdaa
open Go.ChangeShapes Go.WideShapes Go.ChangeAt Go.RowKit
set_option linter.unusedVariables false
set_option linter.unusedSimpArgs false

theorem Arr.row {w : World} {B : Nat} {A : Option Addr} {xs : List Int} (h : Arr w B intCells 1 A xs) (hne : xs ≠ []) :
    ∃ b off, A = some ⟨b, off, none⟩ ∧ b < B ∧ ∀ j, j < xs.length → w.cell? ⟨b, off + j, none⟩ = some (.int .i64 (xs.getD j 0)) := by
  rcases h with h | ⟨b, off, e, hlt, hc⟩
  · exact absurd h hne
  · refine ⟨b, off, e, hlt, fun j hj => ?_⟩
    have := hc j xs[j] (List.getElem?_eq_getElem hj) 0 _ rfl
    simpa [List.getD, hj] using this

theorem u64_diff (x f t : Int) (hx : I64 x) (hf : I64 f) (h : f ≤ x) (ht1 : 1 ≤ t) (ht2 : t ≤ 1000) :
    IntKind.u64.wrap (IntKind.u64.wrap x - IntKind.u64.wrap f) = x - f := by
  obtain ⟨a, b⟩ := hx; obtain ⟨c, d⟩ := hf
  simp only [IntKind.wrap_u64]
  omega

def cnt (l : List Int) (f t : Int) : Int := ((l.filter (fun x => decide (f ≤ x) && decide (x - f < t))).length : Int)
def most (l : List Int) (t : Int) : Int → List Int → Int
  | m, [] => m
  | m, f :: r => most l t (if m < cnt l f t then cnt l f t else m) r
def mostWithin (l : List Int) (t : Int) : Int := if inB t 1 1000 = false ∨ 300 < l.length then 0 else most l t 0 l

theorem most_snoc (l : List Int) (t m : Int) (a : List Int) (f : Int) : most l t m (a ++ [f]) = if most l t m a < cnt l f t then cnt l f t else most l t m a := by
  induction a generalizing m with
  | nil => rfl
  | cons x r ih => exact ih _
theorem cnt_nonneg (l : List Int) (f t : Int) : 0 ≤ cnt l f t ∧ cnt l f t ≤ l.length := by
  unfold cnt; exact ⟨by omega, by have := List.length_filter_le (fun x => decide (f ≤ x) && decide (x - f < t)) l; omega⟩
theorem cnt_snoc (l : List Int) (x f t : Int) : cnt (l ++ [x]) f t = cnt l f t + if f ≤ x ∧ x - f < t then 1 else 0 := by
  unfold cnt; simp [List.filter_append, List.filter_cons]; split <;> simp_all
theorem take_snoc_getD (xs : List Int) (k : Nat) (h : k < xs.length) : xs.take (k + 1) = xs.take k ++ [xs.getD k 0] := by
  rw [List.take_succ_eq_append_getElem h]; simp [List.getD, h]
theorem cnt_take (xs : List Int) (q : Nat) (f t : Int) (h : q < xs.length) : cnt (xs.take (q + 1)) f t = cnt (xs.take q) f t + if f ≤ xs[q] ∧ xs[q] - f < t then 1 else 0 := by
  rw [List.take_succ_eq_append_getElem h, cnt_snoc]
theorem most_take (xs : List Int) (k : Nat) (t f : Int) (h : k < xs.length) (hf : xs.getD k 0 = f) :
    most xs t 0 (xs.take (k + 1)) = if most xs t 0 (xs.take k) < cnt xs f t then cnt xs f t else most xs t 0 (xs.take k) := by
  rw [take_snoc_getD _ _ h, most_snoc, hf]

theorem impl_most (A : Option Addr) (c : Nat) (xs : List Int) (t : Int) (w : World) (h : Arr w w.heap.size intCells 1 A xs) (hwf : ∀ x ∈ xs, I64 x) (hl : xs.length ≤ maxLen) :
    Calls Try.prog 32 #[.slice A xs.length c, .int .i64 t] w fun e w' => e = .returned (.int .i64 (mostWithin xs t)) ∧ w = w' := by
  unfold maxLen at hl
  go_enter Try.func32, Try.ntmps32
  go_wp2_with (go_at_call 30; refine (within_any _ _ _ _).mono ?_; rintro e w' ⟨rfl, rfl⟩)
  · go_ret
    refine ⟨ret_int ?_, rfl⟩
    rw [mostWithin, if_pos (.inr (by omega))]
  · have hin : inB t 1 1000 = true := by assumption
    have hlen : xs.length ≤ 300 := by omega
    have hfin : mostWithin xs t = most xs t 0 xs := by rw [mostWithin, if_neg (by simp [hin]; omega)]
    have hin' := hin
    unfold inB at hin'
    simp only [Bool.and_eq_true, decide_eq_true_eq] at hin'
    obtain ⟨ht1, ht2⟩ := hin'
    have Hfin := Lib.hid hfin; clear hfin
    have Hin := Lib.hid hin; clear hin
    have Hwf := Lib.hid hwf; clear hwf
    go_loop [5, 21] (fun m i => ∃ k : Nat, k ≤ xs.length ∧ i = .int .i64 k ∧ m = .int .i64 (most xs t 0 (xs.take k))) (fun _ i => xs.length - (intOf i).toNat)
    case atStart => exact ⟨0, Nat.zero_le _, rfl, by simp [most]⟩
    case round =>
      obtain ⟨k, hk, rfl, rfl⟩ := hrel
      by_cases hlt : k < xs.length
      · obtain ⟨b, off, rfl, hb, hc⟩ := h.row (by intro e; simp [e] at hlt)
        have hck := hc k hlt
        have Hc := Lib.hid hc; clear hc
        generalize hf : xs.getD k 0 = f at hck
        have Hf := Lib.hid hf; clear hf
        go_wp2
        go_loop [8, 27] (fun m i => ∃ q : Nat, q ≤ xs.length ∧ i = .int .i64 q ∧ m = .int .i64 (cnt (xs.take q) f t)) (fun _ i => xs.length - (intOf i).toNat)
        case atStart => exact ⟨0, Nat.zero_le _, rfl, by simp [cnt]⟩
        case round =>
          obtain ⟨q, hq, rfl, rfl⟩ := hrel
          by_cases hqt : q < xs.length
          · have hcq := Hc.out q hqt
            obtain ⟨hb0, hb1⟩ := cnt_nonneg (xs.take q) f t
            have hb2 : cnt (xs.take q) f t < 1000 := by simp at hb1; omega
            clear hb1
            generalize hcn : cnt (xs.take q) f t = n at hb0 hb2
            have Hcn := Lib.hid hcn; clear hcn
            go_wp2
            all_goals
              have hX := u64_diff xs[q] f t (Hwf.out _ (List.getElem_mem _)) (by rw [← Hf.out]; simp only [List.getD, List.getElem?_eq_getElem hlt, Option.getD_some]; exact Hwf.out _ (List.getElem_mem _))
              have hT := cnt_take xs q f t hqt
              refine ⟨⟨q + 1, by omega, by go_num, ?_⟩, by simp [intOf]; omega⟩
              rw [hT, Hcn.out]
            · rw [if_pos ⟨by assumption, by rw [← hX (by assumption) ht1 ht2]; assumption⟩]
            · rw [if_neg (by rintro ⟨h1, h2⟩; rw [← hX h1 ht1 ht2] at h2; omega)]; go_num
            · rw [if_neg (by rintro ⟨h1, h2⟩; omega)]; go_num
          · go_wp2
            refine ⟨⟨k + 1, by omega, by go_num, ?_⟩, by simp [intOf]; omega⟩
            rw [List.take_of_length_le (l := xs) (i := q) (by omega), most_take xs k t f hlt Hf.out]
      · go_wp2
        go_ret
        refine ⟨ret_int ?_, rfl⟩
        rw [List.take_of_length_le (by omega), Hfin.out]
  · go_ret
    refine ⟨ret_int ?_, rfl⟩
    rw [mostWithin, if_pos (.inl (by simp_all))]

theorem spec_most (A : Option Addr) (c : Nat) (xs : List Int) (t : Int) (w : World) (h : Arr w w.heap.size intCells 1 A xs) (hwf : ∀ x ∈ xs, I64 x) (hl : xs.length ≤ maxLen) :
    Calls Try.prog 28 #[.slice A xs.length c, .int .i64 t] w fun e w' => e = .returned (.int .i64 (mostWithin xs t)) ∧ Below w.heap.size w w' := by
  unfold maxLen at hl
  go_enter Try.func28, Try.ntmps28
  go_wp2_with (go_at_call 27; refine (l01In_any _ _ _ _).mono ?_; rintro e w' ⟨rfl, rfl⟩)
  · go_ret
    refine ⟨ret_int ?_, Below.refl _ _⟩
    rw [mostWithin, if_pos (.inr (by omega))]
  · have hin : inB t 1 1000 = true := by assumption
    have hlen : xs.length ≤ 300 := by omega
    have hfin : mostWithin xs t = most xs t 0 xs := by rw [mostWithin, if_neg (by simp [hin]; omega)]
    have hin' := hin
    unfold inB at hin'
    simp only [Bool.and_eq_true, decide_eq_true_eq] at hin'
    obtain ⟨ht1, ht2⟩ := hin'
    have Hfin := Lib.hid hfin; clear hfin
    have Hin := Lib.hid hin; clear hin
    have Hwf := Lib.hid hwf; clear hwf
    have hw64 : IntKind.u64.wrap t = t := by rw [IntKind.wrap_u64]; omega
    go_loopw [5, 6] (fun m i wr => ∃ k : Nat, k ≤ xs.length ∧ i = .int .i64 k ∧ m = .int .i64 (most xs t 0 (xs.take k)) ∧ Below w.heap.size w wr) (fun _ i _ => xs.length - (intOf i).toNat)
    case atStart => exact ⟨0, Nat.zero_le _, rfl, by simp [most], Below.refl _ _⟩
    case round =>
      obtain ⟨k, hk, rfl, rfl, hbw⟩ := hrel
      by_cases hlt : k < xs.length
      · obtain ⟨b, off, rfl, hb, hc⟩ := h.row (by intro e; simp [e] at hlt)
        have Hc := Lib.hid hc; clear hc
        obtain ⟨wo, rfl⟩ : ∃ wo : World, wo = wr := ⟨_, rfl⟩
        generalize hM : most xs t 0 (xs.take k) = M
        have HM := Lib.hid hM; clear hM
        go_wp2
        go_loopw [7, 8] (fun m i wr => ∃ q : Nat, q ≤ xs.length ∧ i = .int .i64 q ∧ m = .int .i64 (cnt (xs.take q) (xs.getD k 0) t) ∧ Below w.heap.size w wr) (fun _ i _ => xs.length - (intOf i).toNat)
        case atStart => exact ⟨0, Nat.zero_le _, rfl, by simp [cnt], hbw⟩
        case round =>
          obtain ⟨q, hq, rfl, rfl, hbr⟩ := hrel
          by_cases hqt : q < xs.length
          · have hcq := Hc.out q hqt
            have hck := Hc.out k hlt
            rw [← hbr.cell (by exact hb)] at hcq hck
            have hfI : I64 (xs.getD k 0) := by simp only [List.getD, List.getElem?_eq_getElem hlt, Option.getD_some]; exact Hwf.out _ (List.getElem_mem _)
            have hxI : I64 (xs.getD q 0) := by simp only [List.getD, List.getElem?_eq_getElem hqt, Option.getD_some]; exact Hwf.out _ (List.getElem_mem _)
            have hxg : xs.getD q 0 = xs[q] := by simp [List.getD, hqt]
            have hT := cnt_take xs q (xs.getD k 0) t hqt
            rw [← hxg] at hT
            clear hxg
            obtain ⟨hb0, hb1⟩ := cnt_nonneg (xs.take q) (xs.getD k 0) t
            have hb2 : cnt (xs.take q) (xs.getD k 0) t < 1000 := by have := List.length_take_le q xs; omega
            clear hb1
            have HT := Lib.hid hT; clear hT
            generalize hcn : cnt (xs.take q) (xs.getD k 0) t = n at hb0 hb2
            have Hcn := Lib.hid hcn; clear hcn
            have hX := u64_diff (xs.getD q 0) (xs.getD k 0) t hxI hfI
            generalize hgf : xs.getD k 0 = f at hck hX hfI
            generalize hgx : xs.getD q 0 = x at hcq hX hxI
            have Hgf := Lib.hid hgf; clear hgf
            have Hgx := Lib.hid hgx; clear hgx
            have h1 : (k : Int) < (xs.length : Int) := by omega
            have h2 : (q : Int) < (xs.length : Int) := by omega
            have h3 : (0 : Int) ≤ (k : Int) := by omega
            have h4 : (0 : Int) ≤ (q : Int) := by omega
            by_cases hg : f ≤ x
            · have hX' := hX hg ht1 ht2
              clear hX
              have hdd : 0 ≤ x - f := by omega
              by_cases hd : x - f < t
              · have HX := Lib.hid hX'
                go_wp2
                go_quiet (fail)
                go_wp2
                go_roundw
                case rel => exact ⟨q + 1, by omega, by go_num, by rw [← Hgf.out, HT.out, Hcn.out, Hgf.out, Hgx.out, if_pos ⟨hg, hd⟩], below_drewN hbr _⟩
                case measure => simp [intOf]; omega
              · have hd' : t ≤ x - f := by omega
                go_wp2
                go_quiet (fail)
                go_wp2
                go_roundw
                case rel => exact ⟨q + 1, by omega, by go_num, by rw [← Hgf.out, HT.out, Hcn.out, Hgf.out, Hgx.out, if_neg (by omega)]; go_num, below_drewN hbr _⟩
                case measure => simp [intOf]; omega
            · clear hX
              have hg' : decide (f ≤ x) = false := by simpa using hg
              go_wp2
              go_quiet (fail)
              go_wp2
              go_roundw
              case rel => exact ⟨q + 1, by omega, by go_num, by rw [← Hgf.out, HT.out, Hcn.out, Hgf.out, Hgx.out, if_neg (by omega)]; go_num, below_drewN hbr _⟩
              case measure => simp [intOf]; omega
          · have he := most_take xs k t (xs.getD k 0) hlt rfl
            have e2 : xs.take q = xs := List.take_of_length_le (by omega)
            rw [e2]
            rw [HM.out] at he
            have He := Lib.hid he; clear he
            generalize cnt xs (xs.getD k 0) t = n at *
            go_wp2
            all_goals
              go_roundw
              case rel => exact ⟨k + 1, by omega, by go_num, by rw [He.out]; first | rw [if_pos (by omega)] | rw [if_neg (by omega)], hbr⟩
              case measure => simp [intOf]; omega
      · go_wp2
        go_ret
        refine ⟨ret_int ?_, hbw⟩
        rw [List.take_of_length_le (by omega), Hfin.out]
  · go_ret
    refine ⟨ret_int ?_, Below.refl _ _⟩
    rw [mostWithin, if_pos (.inl (by simp_all))]


end Go.Proofs.Ytjbpnmbmgkibdaa
