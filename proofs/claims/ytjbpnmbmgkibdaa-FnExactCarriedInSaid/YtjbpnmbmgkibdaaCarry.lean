/-
  szLetterS, CarriedIn of the program and of the reference, and the law's walk.
-/
import Derived.Test.YtjbpnmbmgkibdaaSl
import Derived.Test.YtjbpnmbmgkibdaaAct
namespace Go.Proofs.Ytjbpnmbmgkibdaa
open Go.ChangeShapes Go.WideShapes Go.ChangeAt Go.RowKit
set_option linter.unusedVariables false
set_option linter.unusedSimpArgs false
set_option maxRecDepth 20000

def sumText : List LetterD → Nat
  | [] => 0
  | x :: r => x.text.size + sumText r
def carried : List LetterD → Int
  | [] => 0
  | x :: r => (if x.kind = 11 then (x.text.size : Int) else 0) + carried r
theorem sumText_append (a b : List LetterD) : sumText (a ++ b) = sumText a + sumText b := by
  induction a with
  | nil => simp [sumText]
  | cons x r ih => simp [sumText, ih, Nat.add_assoc]
theorem carried_append (a b : List LetterD) : carried (a ++ b) = carried a + carried b := by
  induction a with
  | nil => simp [carried]
  | cons x r ih => simp [carried, ih, Int.add_assoc]
theorem sumText_take (xs : List LetterD) (k : Nat) (h : k < xs.length) : sumText (xs.take (k + 1)) = sumText (xs.take k) + xs[k].text.size := by
  rw [List.take_succ_eq_append_getElem h, sumText_append]; simp [sumText]
theorem carried_take (xs : List LetterD) (k : Nat) (h : k < xs.length) : carried (xs.take (k + 1)) = carried (xs.take k) + if xs[k].kind = 11 then (xs[k].text.size : Int) else 0 := by
  rw [List.take_succ_eq_append_getElem h, carried_append]; simp [carried]
theorem carried_bd (xs : List LetterD) : 0 ≤ carried xs ∧ carried xs ≤ sumText xs := by
  induction xs with
  | nil => simp [carried, sumText]
  | cons x r ih => simp only [carried, sumText]; split <;> omega
theorem sumText_le (xs : List LetterD) (k : Nat) : sumText (xs.take k) ≤ sumText xs := by
  have := sumText_append (xs.take k) (xs.drop k)
  rw [List.take_append_drop] at this
  omega

theorem szLetterS_any (s : Sl LetterD) (left : Int) (w : World) (h : SlAt w w.heap.size LetterD.cells 19 s) (hw : ∀ y ∈ s.l, y.wf) (h0 : 0 ≤ left) (h1 : left ≤ 1048576) :
    Calls Try.prog 12 #[.slice s.a s.l.length s.c, .int .i64 left] w (SzRet left (s.l.length + sumText s.l) w) := by
  obtain ⟨A, c, xs⟩ := s
  obtain ⟨hc1, hc2, h3⟩ := h
  dsimp only at hc1 hc2 h3 hw ⊢
  unfold maxLen at hc2
  by_cases hn : left - (xs.length : Int) < 0
  · go_enter Try.func12, Try.ntmps12
    go_wp2_with fail
    go_ret
    exact ⟨-1, rfl, .inl (by omega), by omega, Below.refl _ _⟩
  · go_enter Try.func12, Try.ntmps12
    go_wp2_with fail
    have Hw := Lib.hid hw; clear hw
    go_loopw [1, 5] (fun l i wr => ∃ k : Nat, k ≤ xs.length ∧ i = .int .i64 k ∧ (∃ r : Int, l = .int .i64 r ∧ 0 ≤ r ∧ r = left - xs.length - sumText (xs.take k)) ∧ Below w.heap.size w wr) (fun _ i _ => xs.length - (intOf i).toNat)
    case atStart => exact ⟨0, Nat.zero_le _, rfl, ⟨_, rfl, by omega, by simp [sumText]⟩, Below.refl _ _⟩
    case round =>
      obtain ⟨k, hk, rfl, ⟨r, rfl, hr0, hr⟩, hb⟩ := hrel
      by_cases hlt : k < xs.length
      · obtain ⟨b, off, rfl, hbl, hc⟩ := h3.round hlt
        have hck : ∀ j v, (LetterD.cells xs[k])[j]? = some v → wr.cell? ⟨b, off + k * 19 + j, none⟩ = some v := fun j v hv => by rw [hb.cell (by exact hbl)]; exact hc j v hv
        clear hc
        have Hck := Lib.hid hck; clear hck
        have hst := sumText_take xs k hlt
        have Hst := Lib.hid hst; clear hst
        have hrl : r ≤ 1048576 := by omega
        have Hr := Lib.hid hr; clear hr
        go_wp2_with ((with_reducible refine at_load 36 ?_); refine wpl_load sz_laws_Letter (by rfl) (LetterD.cells xs[k]) rfl Hck.out ?_)
        refine (szLetter_any xs[k] _ _ (Hw.out _ (List.getElem_mem _)) hr0 hrl).mono ?_
        rintro e w1 ⟨r', rfl, hr', hr1', hb1⟩
        dsimp only
        have Hr' := Lib.hid hr'; clear hr'
        have hb2 := hb.trans (hb1.mono hb.size)
        by_cases hneg : r' < 0
        · go_wp2_with fail
          go_ret
          exact ⟨-1, rfl, .inl (by omega), by omega, hb2⟩
        · go_wp2_with fail
          go_roundw
          case rel => exact ⟨k + 1, by omega, by go_num, ⟨r', rfl, by omega, by have := Hr'.out; have := Hr.out; have := Hst.out; omega⟩, hb2⟩
          case measure => simp [intOf]; omega
      · rw [List.take_of_length_le (by omega)] at hr
        have Hr := Lib.hid hr; clear hr
        go_wp2_with fail
        go_ret
        exact ⟨r, rfl, .inr (by have := Hr.out; omega), by omega, hb⟩

theorem spec_carried (s : Sl LetterD) (w : World) (h : SlAt w w.heap.size LetterD.cells 19 s) (hs : sumText s.l ≤ 1048576) :
    Calls Try.prog 13 #[.slice s.a s.l.length s.c] w fun e w' => e = .returned (.int .i64 (carried s.l)) ∧ w = w' := by
  obtain ⟨A, c, xs⟩ := s
  obtain ⟨hc1, hc2, h3⟩ := h
  dsimp only at hc1 hc2 h3 hs ⊢
  unfold maxLen at hc2
  go_enter Try.func13, Try.ntmps13
  go_wp2_with fail
  go_loop [3, 4] (fun n i => ∃ k : Nat, k ≤ xs.length ∧ i = .int .i64 k ∧ n = .int .i64 (carried (xs.take k))) (fun _ i => xs.length - (intOf i).toNat)
  case atStart => exact ⟨0, Nat.zero_le _, rfl, by simp [carried]⟩
  case round =>
    obtain ⟨k, hk, rfl, rfl⟩ := hrel
    by_cases hlt : k < xs.length
    · obtain ⟨b, off, rfl, hbl, hc⟩ := h3.round hlt
      have hk0 := hc 0 _ rfl
      have hk18 := hc 18 _ rfl
      clear hc
      simp only [Nat.add_zero] at hk0
      have ht := carried_take xs k hlt
      have hb1 := carried_bd (xs.take k)
      have hb2 := sumText_le xs k
      have hb3 := sumText_le xs (k + 1)
      rw [sumText_take xs k hlt] at hb3
      have hb4 : 0 ≤ carried (xs.take k) ∧ carried (xs.take k) ≤ 1048576 := by omega
      have hb5 : xs[k].text.size ≤ 1048576 := by omega
      clear hb1 hb2 hb3
      have Ht := Lib.hid ht; clear ht
      generalize hcc : carried (xs.take k) = cc at hb4
      have Hcc := Lib.hid hcc; clear hcc
      generalize hxk : xs[k] = x at hk0 hk18 hb5
      have Hxk := Lib.hid hxk; clear hxk
      obtain ⟨hb6, hb7⟩ := hb4
      by_cases hkind : x.kind = 11
      · have hkk : (x.kind == 11) = true := by simpa using hkind
        have Hk := Lib.hid hkind; clear hkind
        go_wp2_with fail
        go_round
        case rel => exact ⟨k + 1, by omega, by go_num, by rw [Ht.out, Hxk.out, Hcc.out, if_pos Hk.out]⟩
        case measure => simp [intOf]; omega
      · have hkk : (x.kind == 11) = false := by simpa using hkind
        have Hk := Lib.hid hkind; clear hkind
        go_wp2_with fail
        go_round
        case rel => exact ⟨k + 1, by omega, by go_num, by rw [Ht.out, Hxk.out, Hcc.out, if_neg Hk.out]; go_num⟩
        case measure => simp [intOf]; omega
    · go_wp2_with fail
      go_ret
      refine ⟨ret_int ?_, rfl⟩
      rw [List.take_of_length_le (by omega)]

theorem impl_carried (s : Sl LetterD) (w : World) (h : SlAt w w.heap.size LetterD.cells 19 s) (hs : sumText s.l ≤ 1048576) :
    Calls Try.prog 15 #[.slice s.a s.l.length s.c] w fun e w' => e = .returned (.int .i64 (carried s.l)) ∧ Below w.heap.size w w' := by
  obtain ⟨A, c, xs⟩ := s
  obtain ⟨hc1, hc2, h3⟩ := h
  dsimp only at hc1 hc2 h3 hs ⊢
  unfold maxLen at hc2
  go_enter Try.func15, Try.ntmps15
  go_wp2_with fail
  go_loopw [3, 8] (fun n i wr => ∃ k : Nat, k ≤ xs.length ∧ i = .int .i64 k ∧ n = .int .i64 (carried (xs.take k)) ∧ Below w.heap.size w wr) (fun _ i _ => xs.length - (intOf i).toNat)
  case atStart => exact ⟨0, Nat.zero_le _, rfl, by simp [carried], Below.refl _ _⟩
  case round =>
    obtain ⟨k, hk, rfl, rfl, hb⟩ := hrel
    by_cases hlt : k < xs.length
    · obtain ⟨b, off, rfl, hbl, hc⟩ := h3.round hlt
      have hck : ∀ j v, (LetterD.cells xs[k])[j]? = some v → wr.cell? ⟨b, off + k * 19 + j, none⟩ = some v := fun j v hv => by rw [hb.cell (by exact hbl)]; exact hc j v hv
      clear hc
      have ht := carried_take xs k hlt
      have hb1 := carried_bd (xs.take k)
      have hb2 := sumText_le xs k
      have hb3 := sumText_le xs (k + 1)
      rw [sumText_take xs k hlt] at hb3
      have hb4 : 0 ≤ carried (xs.take k) ∧ carried (xs.take k) ≤ 1048576 := by omega
      have hb5 : xs[k].text.size ≤ 1048576 := by omega
      clear hb1 hb2 hb3
      have Ht := Lib.hid ht; clear ht
      generalize hcc : carried (xs.take k) = cc at hb4
      have Hcc := Lib.hid hcc; clear hcc
      generalize hxk : xs[k] = x at hck hb5
      have Hxk := Lib.hid hxk; clear hxk
      have Hck := Lib.hid hck; clear hck
      obtain ⟨hb6, hb7⟩ := hb4
      by_cases hkind : x.kind = 11
      · have hkk : (x.kind == 11) = true := by simpa using hkind
        have Hk := Lib.hid hkind; clear hkind
        go_wp2_with (first | ((with_reducible refine at_load 41 ?_); refine wpl_load sz_impl_Letter (by rfl) (LetterD.cells x) rfl Hck.out ?_; dsimp only [LetterD.cells]) | ((with_reducible refine at_load 36 ?_); refine wpl_load_blk sz_laws_Letter (by rfl) (by simp (disch := ((try simp only [World.size_alloc, World.size_setCell, size_ext, size_setRow, size_drew]); first | done | omega)) only [heap_at, heap_past, heap_ext, heap_ext_drew]; rfl) (by rfl) ?_) | ((with_reducible refine at_store 36 ?_); refine wpl_store_blk sz_laws_Letter (by rfl) (by rfl) (by simp (disch := ((try simp only [World.size_alloc, World.size_setCell, size_ext, size_setRow, size_drew]); first | done | omega)) only [heap_at, heap_past, heap_ext, heap_ext_drew]; rfl) (by rfl) (by rfl) (by rfl) ?_; simp (disch := ((try simp only [World.size_alloc, World.size_setCell, size_ext, size_setRow, size_drew]); first | done | omega)) only [setRow_at, setRow_past, setRow_ext, setRow_drew]) | ((with_reducible refine at_load 36 ?_); refine wpl_load_part sz_laws_Letter (by rfl) (by simp (disch := ((try simp only [World.size_alloc, World.size_setCell, size_ext, size_setRow, size_drew]); first | done | omega)) only [heap_at, heap_past, heap_ext, heap_ext_drew]; rfl) (by simp only [List.toList_toArray, List.take_succ_cons, List.take_zero, List.take_nil, List.drop_succ_cons, List.drop_zero, List.drop_nil, List.cons_append, List.nil_append, List.append_nil, Nat.reduceAdd]; rfl) (by rfl) ?_) | ((with_reducible refine at_store 36 ?_); refine wpl_store_part sz_laws_Letter (by rfl) (by rfl) (by simp (disch := ((try simp only [World.size_alloc, World.size_setCell, size_ext, size_setRow, size_drew]); first | done | omega)) only [heap_at, heap_past, heap_ext, heap_ext_drew]; rfl) (by simp) (by rfl) (by rfl) (by simp only [List.toList_toArray, List.take_succ_cons, List.take_zero, List.take_nil, List.drop_succ_cons, List.drop_zero, List.drop_nil, List.cons_append, List.nil_append, List.append_nil, Nat.reduceAdd]; rfl) ?_; simp (disch := ((try simp only [World.size_alloc, World.size_setCell, size_ext, size_setRow, size_drew]); first | done | omega)) only [setRow_at, setRow_past, setRow_ext, setRow_drew]) | ((with_reducible refine at_load 41 ?_); refine wpl_load_blk sz_impl_Letter (by rfl) (by simp (disch := ((try simp only [World.size_alloc, World.size_setCell, size_ext, size_setRow, size_drew]); first | done | omega)) only [heap_at, heap_past, heap_ext, heap_ext_drew]; rfl) (by rfl) ?_) | ((with_reducible refine at_store 41 ?_); refine wpl_store_blk sz_impl_Letter (by rfl) (by rfl) (by simp (disch := ((try simp only [World.size_alloc, World.size_setCell, size_ext, size_setRow, size_drew]); first | done | omega)) only [heap_at, heap_past, heap_ext, heap_ext_drew]; rfl) (by rfl) (by rfl) (by rfl) ?_; simp (disch := ((try simp only [World.size_alloc, World.size_setCell, size_ext, size_setRow, size_drew]); first | done | omega)) only [setRow_at, setRow_past, setRow_ext, setRow_drew]) | ((with_reducible refine at_load 41 ?_); refine wpl_load_part sz_impl_Letter (by rfl) (by simp (disch := ((try simp only [World.size_alloc, World.size_setCell, size_ext, size_setRow, size_drew]); first | done | omega)) only [heap_at, heap_past, heap_ext, heap_ext_drew]; rfl) (by simp only [List.toList_toArray, List.take_succ_cons, List.take_zero, List.take_nil, List.drop_succ_cons, List.drop_zero, List.drop_nil, List.cons_append, List.nil_append, List.append_nil, Nat.reduceAdd]; rfl) (by rfl) ?_) | ((with_reducible refine at_store 41 ?_); refine wpl_store_part sz_impl_Letter (by rfl) (by rfl) (by simp (disch := ((try simp only [World.size_alloc, World.size_setCell, size_ext, size_setRow, size_drew]); first | done | omega)) only [heap_at, heap_past, heap_ext, heap_ext_drew]; rfl) (by simp) (by rfl) (by rfl) (by simp only [List.toList_toArray, List.take_succ_cons, List.take_zero, List.take_nil, List.drop_succ_cons, List.drop_zero, List.drop_nil, List.cons_append, List.nil_append, List.append_nil, Nat.reduceAdd]; rfl) ?_; simp (disch := ((try simp only [World.size_alloc, World.size_setCell, size_ext, size_setRow, size_drew]); first | done | omega)) only [setRow_at, setRow_past, setRow_ext, setRow_drew]))
        go_roundw
        case rel => exact ⟨k + 1, by omega, by go_num, by rw [Ht.out, Hxk.out, Hcc.out, if_pos Hk.out], by repeat' (first | (with_reducible exact Below.refl _ _) | (with_reducible assumption) | (with_reducible refine Below.alloc ?_ ?_ _) | (with_reducible refine Below.ext ?_ ?_ _ _) | (with_reducible refine Below.drew ?_) | (with_reducible refine Below.setCell ?_ ?_ _) | (with_reducible refine below_setRow ?_ ?_ _) | omega | (have hsz_ := hb.size; omega) | (simp only [World.size_alloc, World.size_setCell, size_ext, size_setRow, size_drew]; first | omega | (have hsz_ := hb.size; omega)))⟩
        case measure => simp [intOf]; omega
      · have hkk : (x.kind == 11) = false := by simpa using hkind
        have Hk := Lib.hid hkind; clear hkind
        go_wp2_with (first | ((with_reducible refine at_load 41 ?_); refine wpl_load sz_impl_Letter (by rfl) (LetterD.cells x) rfl Hck.out ?_; dsimp only [LetterD.cells]) | ((with_reducible refine at_load 36 ?_); refine wpl_load_blk sz_laws_Letter (by rfl) (by simp (disch := ((try simp only [World.size_alloc, World.size_setCell, size_ext, size_setRow, size_drew]); first | done | omega)) only [heap_at, heap_past, heap_ext, heap_ext_drew]; rfl) (by rfl) ?_) | ((with_reducible refine at_store 36 ?_); refine wpl_store_blk sz_laws_Letter (by rfl) (by rfl) (by simp (disch := ((try simp only [World.size_alloc, World.size_setCell, size_ext, size_setRow, size_drew]); first | done | omega)) only [heap_at, heap_past, heap_ext, heap_ext_drew]; rfl) (by rfl) (by rfl) (by rfl) ?_; simp (disch := ((try simp only [World.size_alloc, World.size_setCell, size_ext, size_setRow, size_drew]); first | done | omega)) only [setRow_at, setRow_past, setRow_ext, setRow_drew]) | ((with_reducible refine at_load 36 ?_); refine wpl_load_part sz_laws_Letter (by rfl) (by simp (disch := ((try simp only [World.size_alloc, World.size_setCell, size_ext, size_setRow, size_drew]); first | done | omega)) only [heap_at, heap_past, heap_ext, heap_ext_drew]; rfl) (by simp only [List.toList_toArray, List.take_succ_cons, List.take_zero, List.take_nil, List.drop_succ_cons, List.drop_zero, List.drop_nil, List.cons_append, List.nil_append, List.append_nil, Nat.reduceAdd]; rfl) (by rfl) ?_) | ((with_reducible refine at_store 36 ?_); refine wpl_store_part sz_laws_Letter (by rfl) (by rfl) (by simp (disch := ((try simp only [World.size_alloc, World.size_setCell, size_ext, size_setRow, size_drew]); first | done | omega)) only [heap_at, heap_past, heap_ext, heap_ext_drew]; rfl) (by simp) (by rfl) (by rfl) (by simp only [List.toList_toArray, List.take_succ_cons, List.take_zero, List.take_nil, List.drop_succ_cons, List.drop_zero, List.drop_nil, List.cons_append, List.nil_append, List.append_nil, Nat.reduceAdd]; rfl) ?_; simp (disch := ((try simp only [World.size_alloc, World.size_setCell, size_ext, size_setRow, size_drew]); first | done | omega)) only [setRow_at, setRow_past, setRow_ext, setRow_drew]) | ((with_reducible refine at_load 41 ?_); refine wpl_load_blk sz_impl_Letter (by rfl) (by simp (disch := ((try simp only [World.size_alloc, World.size_setCell, size_ext, size_setRow, size_drew]); first | done | omega)) only [heap_at, heap_past, heap_ext, heap_ext_drew]; rfl) (by rfl) ?_) | ((with_reducible refine at_store 41 ?_); refine wpl_store_blk sz_impl_Letter (by rfl) (by rfl) (by simp (disch := ((try simp only [World.size_alloc, World.size_setCell, size_ext, size_setRow, size_drew]); first | done | omega)) only [heap_at, heap_past, heap_ext, heap_ext_drew]; rfl) (by rfl) (by rfl) (by rfl) ?_; simp (disch := ((try simp only [World.size_alloc, World.size_setCell, size_ext, size_setRow, size_drew]); first | done | omega)) only [setRow_at, setRow_past, setRow_ext, setRow_drew]) | ((with_reducible refine at_load 41 ?_); refine wpl_load_part sz_impl_Letter (by rfl) (by simp (disch := ((try simp only [World.size_alloc, World.size_setCell, size_ext, size_setRow, size_drew]); first | done | omega)) only [heap_at, heap_past, heap_ext, heap_ext_drew]; rfl) (by simp only [List.toList_toArray, List.take_succ_cons, List.take_zero, List.take_nil, List.drop_succ_cons, List.drop_zero, List.drop_nil, List.cons_append, List.nil_append, List.append_nil, Nat.reduceAdd]; rfl) (by rfl) ?_) | ((with_reducible refine at_store 41 ?_); refine wpl_store_part sz_impl_Letter (by rfl) (by rfl) (by simp (disch := ((try simp only [World.size_alloc, World.size_setCell, size_ext, size_setRow, size_drew]); first | done | omega)) only [heap_at, heap_past, heap_ext, heap_ext_drew]; rfl) (by simp) (by rfl) (by rfl) (by simp only [List.toList_toArray, List.take_succ_cons, List.take_zero, List.take_nil, List.drop_succ_cons, List.drop_zero, List.drop_nil, List.cons_append, List.nil_append, List.append_nil, Nat.reduceAdd]; rfl) ?_; simp (disch := ((try simp only [World.size_alloc, World.size_setCell, size_ext, size_setRow, size_drew]); first | done | omega)) only [setRow_at, setRow_past, setRow_ext, setRow_drew]))
        go_roundw
        case rel => exact ⟨k + 1, by omega, by go_num, by rw [Ht.out, Hxk.out, Hcc.out, if_neg Hk.out]; go_num, by repeat' (first | (with_reducible exact Below.refl _ _) | (with_reducible assumption) | (with_reducible refine Below.alloc ?_ ?_ _) | (with_reducible refine Below.ext ?_ ?_ _ _) | (with_reducible refine Below.drew ?_) | (with_reducible refine Below.setCell ?_ ?_ _) | (with_reducible refine below_setRow ?_ ?_ _) | omega | (have hsz_ := hb.size; omega) | (simp only [World.size_alloc, World.size_setCell, size_ext, size_setRow, size_drew]; first | omega | (have hsz_ := hb.size; omega)))⟩
        case measure => simp [intOf]; omega
    · go_wp2_with fail
      go_ret
      refine ⟨ret_int ?_, hb⟩
      rw [List.take_of_length_le (by omega)]

theorem fnExactCarriedIn_walk (w : World) (s : Sl LetterD) (h : SlAt w w.heap.size LetterD.cells 19 s) (hw : ∀ y ∈ s.l, y.wf) :
    Calls Try.prog 4 #[.slice s.a s.l.length s.c] w fun e w' => e = .returned (.bool true) ∧ Below w.heap.size w w' := by
  go_enter Try.func4, Try.ntmps4
  go_wp2_with fail
  refine (szLetterS_any s _ _ h hw (by omega) (by omega)).mono ?_
  rintro e w1 ⟨r, rfl, hr, hr1, hb1⟩
  dsimp only
  by_cases hneg : r < 0
  · clear hr
    go_wp2_with fail
    go_ret
    exact ⟨rfl, hb1⟩
  · have hn : s.l.length ≤ 1048576 := by omega
    have hs : sumText s.l ≤ 1048576 := by omega
    clear hr
    go_wp2_with fail
    refine (toLetterS_any s _ ((h.keep hb1).more hb1.size) hn).mono ?_
    rintro e w2 ⟨a2, c2, rfl, ho2, hb2⟩
    dsimp only
    have hB2 := hb1.trans (hb2.mono hb1.size)
    go_wp2_with fail
    refine (spec_carried ⟨a2, c2, s.l⟩ _ (ho2.slAt cellsLetter_len) hs).mono ?_
    rintro e w3 ⟨rfl, rfl⟩
    dsimp only
    go_wp2_with fail
    refine (toLetterS_any s _ ((h.keep hB2).more hB2.size) hn).mono ?_
    rintro e w3 ⟨a3, c3, rfl, ho3, hb3⟩
    dsimp only
    have hB3 := hB2.trans (hb3.mono hB2.size)
    go_wp2_with fail
    refine (impl_carried ⟨a3, c3, s.l⟩ _ (ho3.slAt cellsLetter_len) hs).mono ?_
    rintro e w4 ⟨rfl, hb4⟩
    dsimp only
    have hB4 := hB3.trans (hb4.mono hB3.size)
    go_wp2_with fail
    refine (toLetterS_any s _ ((h.keep hB4).more hB4.size) hn).mono ?_
    rintro e w5 ⟨a5, c5, rfl, ho5, hb5⟩
    dsimp only
    have hB5 := hB4.trans (hb5.mono hB4.size)
    go_wp2_with fail
    refine (eqLetterS_any ⟨a3, c3, s.l⟩ ⟨a5, c5, s.l⟩ _ (((((ho3.slAt cellsLetter_len).keep hb4).more hb4.size).keep hb5).more hb5.size) (ho5.slAt cellsLetter_len) rfl).mono ?_
    rintro e w6 ⟨rfl, hb6⟩
    dsimp only
    go_wp2_with fail
    go_ret
    exact ⟨rfl, hB5.trans (hb6.mono hB5.size)⟩
end Go.Proofs.Ytjbpnmbmgkibdaa
