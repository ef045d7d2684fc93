/-
  Slices of the call's own: made, filled, appended to; what they read as.
-/
import Derived.Test.YtjbpnmbmgkibdaaLib
import Derived.Test.YtjbpnmbmgkibdaaLaws
import Derived.Laws.OwnMore
import Derived.Laws.MakeOwn
namespace Go.Proofs.Ytjbpnmbmgkibdaa
open Go.ChangeShapes Go.WideShapes Go.ChangeAt Go.RowKit
set_option linter.unusedVariables false

/-- A slice of the call's own: its row lies in a block from base on, with nobody else's cells. -/
def OwnSl {α : Type} (w : World) (base : Nat) (E : TypeId) (f : α → List Value) (sz : Nat) (s : Sl α) : Prop :=
  w.ownsRow base E sz (.slice s.a s.l.length s.c) s.l.length (s.l.flatMap f)
/-- A function that hands back a slice of its own that reads xs. -/
def RetSl {α : Type} (w : World) (E : TypeId) (f : α → List Value) (sz : Nat) (xs : List α) (e : Ending) (w' : World) : Prop :=
  ∃ a c, e = .returned (.slice a xs.length c) ∧ OwnSl w' w.heap.size E f sz ⟨a, c, xs⟩ ∧ Below w.heap.size w w'

section
variable {α : Type} {f : α → List Value} {sz : Nat}
theorem flatMap_len (hf : ∀ x, (f x).length = sz) (xs : List α) : (xs.flatMap f).length = xs.length * sz := by
  induction xs with
  | nil => simp
  | cons x r ih => simp [ih, hf, Nat.add_mul, Nat.add_comm]
theorem flatMap_at (hf : ∀ x, (f x).length = sz) : ∀ (xs : List α) (i : Nat) (x : α), xs[i]? = some x → ∀ j v, (f x)[j]? = some v → (xs.flatMap f)[i * sz + j]? = some v
  | [], _, _, h, _, _, _ => by simp at h
  | y :: r, 0, x, h, j, v, hv => by
    simp only [List.getElem?_cons_zero, Option.some.injEq] at h
    subst h
    have hj : j < (f y).length := (List.getElem?_eq_some_iff.1 hv).1
    simp only [List.flatMap_cons, Nat.zero_mul, Nat.zero_add]
    rw [List.getElem?_append_left hj, hv]
  | y :: r, i + 1, x, h, j, v, hv => by
    simp only [List.getElem?_cons_succ] at h
    have ih := flatMap_at hf r i x h j v hv
    have e : (i + 1) * sz + j = (f y).length + (i * sz + j) := by rw [hf, Nat.add_mul]; omega
    rw [List.flatMap_cons, e, List.getElem?_append_right (by omega), Nat.add_sub_cancel_left, ih]
theorem take_flatMap (hf : ∀ x, (f x).length = sz) (xs : List α) (k : Nat) (x : α) (h : xs[k]? = some x) : (xs.take (k + 1)).flatMap f = (xs.take k).flatMap f ++ f x := by
  have hk := (List.getElem?_eq_some_iff.1 h)
  obtain ⟨hk, rfl⟩ := hk
  rw [List.take_succ_eq_append_getElem hk, List.flatMap_append, List.flatMap_cons, List.flatMap_nil, List.append_nil]

theorem OwnSl.at_ {w : World} {base : Nat} {E : TypeId} {s : Sl α} (hf : ∀ x, (f x).length = sz) (h : OwnSl w base E f sz s) : s.l.length = 0 ∨ SlAt w w.heap.size f sz s := by
  obtain ⟨hl, h | ⟨g, cap, cur, h1, h2, h3, h4, h5, h6, h7⟩⟩ := h
  · exact .inl h.2
  · simp only [Value.slice.injEq] at h1
    obtain ⟨ha, _, hc⟩ := h1
    right
    refine ⟨by omega, by omega, .inr ⟨g, 0, ha, (Array.getElem?_eq_some_iff.1 h3).1, fun i x hx j v hv => ?_⟩⟩
    rw [cell_of_row w g _ cur E (0, 0) h3]
    have e := flatMap_at hf s.l i x hx j v hv
    rw [← h7, List.getElem?_take] at e
    split at e
    · simpa using e
    · cases e
theorem OwnSl.slAt {w : World} {base : Nat} {E : TypeId} {s : Sl α} (hf : ∀ x, (f x).length = sz) (h : OwnSl w base E f sz s) : SlAt w w.heap.size f sz s := by
  rcases OwnSl.at_ hf h with h0 | h1
  · obtain ⟨hl, h | ⟨g, cap, cur, h1, h2, h3, h4, h5, h6, h7⟩⟩ := h
    · have h1 := h.1
      simp only [Value.slice.injEq] at h1
      refine ⟨by omega, by rw [h1.2.2]; unfold maxLen; omega, .inl (List.eq_nil_of_length_eq_zero h0)⟩
    · simp only [Value.slice.injEq] at h1
      exact ⟨by omega, by omega, .inl (List.eq_nil_of_length_eq_zero h0)⟩
  · exact h1
theorem OwnSl.more {w : World} {base base' : Nat} {E : TypeId} {s : Sl α} (h : OwnSl w base E f sz s) (hb : base' ≤ base) : OwnSl w base' E f sz s := by
  obtain ⟨hl, h | ⟨g, cap, cur, h1, h2, h3, h4⟩⟩ := h
  · exact ⟨hl, .inl h⟩
  · exact ⟨hl, .inr ⟨g, cap, cur, h1, by omega, h3, h4⟩⟩
/-- An own slice whose block stays as it is stays an own slice. -/
theorem OwnSl.keep {w w' : World} {base : Nat} {E : TypeId} {s : Sl α} (h : OwnSl w base E f sz s) (hb : ∀ b o, base ≤ b → s.a = some ⟨b, 0, none⟩ → w.heap[b]? = some o → w'.heap[b]? = some o) : OwnSl w' base E f sz s := by
  obtain ⟨hl, h | ⟨g, cap, cur, h1, h2, h3, h4⟩⟩ := h
  · exact ⟨hl, .inl h⟩
  · refine ⟨hl, .inr ⟨g, cap, cur, h1, h2, hb g _ h2 ?_ h3, h4⟩⟩
    simp only [Value.slice.injEq] at h1
    exact h1.1
theorem OwnSl.below {w w' : World} {base B : Nat} {E : TypeId} {s : Sl α} (h : OwnSl w base E f sz s) (hb : Below B w w') (hB : w.heap.size ≤ B) : OwnSl w' base E f sz s :=
  h.keep fun b o _ _ ho => by rw [hb.block b (by have := (Array.getElem?_eq_some_iff.1 ho).1; omega)]; exact ho

theorem OwnSl.alloc_ {w : World} {base : Nat} {E : TypeId} {s : Sl α} (h : OwnSl w base E f sz s) (o : Obj) : OwnSl (w.alloc o) base E f sz s :=
  h.keep fun b o' _ _ ho => (Below.heap_alloc w o b (Array.getElem?_eq_some_iff.1 ho).1).trans ho
theorem OwnSl.drew_ {w : World} {base : Nat} {E : TypeId} {s : Sl α} (h : OwnSl w base E f sz s) : OwnSl w.drew base E f sz s := h
theorem OwnSl.ext_ {w : World} {base : Nat} {E : TypeId} {s : Sl α} (h : OwnSl w base E f sz s) (g : Array Obj) (n : Nat) : OwnSl (WExt w g n) base E f sz s :=
  h.keep fun b o' _ _ ho => (heap_ext_old (Array.getElem?_eq_some_iff.1 ho).1).trans ho
/-- make([]T, n): one row of the call's own, zeros. -/
theorem make_rule {P : Program} {t e : TypeId} {z : Value} {size bytes : Nat} (ht : P.underlying t = some (.slice e)) (hrow : (P.info? e).map (fun i => (i.zero, i.size, i.bytes)) = some (some z, size, bytes))
    (n : Nat) (hn : bytes * n ≤ 281474976710656) (h63 : n ≤ maxLen) :
    ∀ W : World, (Instr.makeSlice t (.int .i64 (n : Int)) (.int .i64 (n : Int))).run P W = .ok (.slice (some ⟨W.heap.size, 0, none⟩) n n) (W.alloc (.cells (madeCells z.cells (n * size)) e)) := by
  intro W
  cases hq : P.info? e with
  | none => simp [hq] at hrow
  | some i =>
    simp only [hq, Option.map_some, Option.some.injEq, Prod.mk.injEq] at hrow
    obtain ⟨hz, hs, hby⟩ := hrow
    have h63' : (n : Int) ≤ 9223372036854775807 := by
      have h := h63
      simp [maxLen] at h
      omega
    have hb' : (i.bytes : Int) * (n : Int) ≤ 281474976710656 := by
      have h : ((i.bytes * n : Nat) : Int) ≤ 281474976710656 := by rw [hby]; omega
      rwa [Int.natCast_mul] at h
    have hr := run_make (P := P) W t e i z ht hq hz .i64 .i64 n n (by omega) (Int.le_refl _) hb' h63'
    simp only [Int.toNat_natCast] at hr
    rw [hr, hs]

/-- The row while it is being filled: the first k elements are laid. -/
def Filled (f : α → List Value) (sz : Nat) (xs : List α) (k : Nat) (cs : Array Value) : Prop := cs.size = xs.length * sz ∧ cs.toList.take (k * sz) = (xs.take k).flatMap f
theorem Filled.zero {z : Array Value} {xs : List α} : Filled f sz xs 0 (madeCells z (xs.length * sz)) := ⟨size_madeCells _ _, by simp⟩
theorem Filled.step (hf : ∀ x, (f x).length = sz) {xs : List α} {k : Nat} {cs : Array Value} {x : α} (h : Filled f sz xs k cs) (hx : xs[k]? = some x) :
    Filled f sz xs (k + 1) (cs.toList.take (k * sz) ++ f x ++ cs.toList.drop (k * sz + sz)).toArray := by
  have hk := (List.getElem?_eq_some_iff.1 hx).1
  have hle : (k + 1) * sz ≤ xs.length * sz := Nat.mul_le_mul_right _ hk
  rw [Nat.add_mul, Nat.one_mul] at hle
  obtain ⟨h1, h2⟩ := h
  have hl : (cs.toList.take (k * sz) ++ f x).length = (k + 1) * sz := by
    rw [List.length_append, List.length_take, hf, Array.length_toList, h1, Nat.min_eq_left (by omega), Nat.add_mul, Nat.one_mul]
  refine ⟨?_, ?_⟩
  · simp only [List.size_toArray, List.length_append] at hl ⊢
    rw [hl, List.length_drop, Array.length_toList, h1, Nat.add_mul, Nat.one_mul]
    omega
  · rw [List.take_append_of_le_length (by omega), List.take_of_length_le (by omega), take_flatMap hf xs k x hx, h2]
theorem Filled.step1 {g : α → Value} {xs : List α} {k : Nat} {cs : Array Value} {x : α} (h : Filled (fun x => [g x]) 1 xs k cs) (hx : xs[k]? = some x) :
    Filled (fun x => [g x]) 1 xs (k + 1) (cs.setIfInBounds k (g x)) := by
  have := Filled.step (f := fun x => [g x]) (fun _ => rfl) h hx
  have hk := (List.getElem?_eq_some_iff.1 hx).1
  have e : cs.setIfInBounds k (g x) = (cs.toList.take (k * 1) ++ [g x] ++ cs.toList.drop (k * 1 + 1)).toArray := by
    have hc : k < cs.size := by rw [h.1]; omega
    apply Array.toList_inj.1
    rw [Array.toList_setIfInBounds, List.toList_toArray, Nat.mul_one, List.set_eq_take_append_cons_drop, if_pos (by simpa using hc)]
    simp
  rw [e]
  exact this
theorem Filled.own {w : World} {base N : Nat} {E : TypeId} {xs : List α} {k : Nat} {cs : Array Value} (hf : ∀ x, (f x).length = sz) (h : Filled f sz xs k cs) (hk : k = xs.length) (hN : w.heap[N]? = some (.cells cs E (0, 0))) (hb : base ≤ N) (hm : xs.length ≤ maxLen) :
    OwnSl w base E f sz ⟨some ⟨N, 0, none⟩, xs.length, xs⟩ := by
  subst hk
  refine ⟨flatMap_len hf xs, .inr ⟨N, xs.length, cs, rfl, hb, hN, Nat.le_refl _, hm, h.1, ?_⟩⟩
  have := h.2
  rw [List.take_of_length_le (Nat.le_refl xs.length)] at this
  exact this
end
theorem intCells_len (n : Int) : (intCells n).length = 1 := rfl
end Go.Proofs.Ytjbpnmbmgkibdaa
