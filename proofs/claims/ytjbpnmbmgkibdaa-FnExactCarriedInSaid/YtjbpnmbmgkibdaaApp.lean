/-
  append onto a slice of the call's own, whatever the source; the text of a slice of bytes.
-/
import Derived.Test.YtjbpnmbmgkibdaaOwn
import Derived.Maps.AppendAt
import Derived.OwnWalk
import Derived.Laws.BytesString
namespace Go.Proofs.Ytjbpnmbmgkibdaa
open Go.ChangeShapes Go.WideShapes Go.ChangeAt Go.RowKit
set_option linter.unusedVariables false
set_option linter.unusedSimpArgs false

def B (l : List UInt8) : ByteArray := ⟨l.toArray⟩
theorem B_append (a b : List UInt8) : B a ++ B b = B (a ++ b) := by
  apply ByteArray.ext; simp [B]
theorem B_size (l : List UInt8) : (B l).size = l.length := by show l.toArray.size = _; simp
theorem B_toList (l : List UInt8) : (B l).toList = l := by
  rw [ByteArray.toList_eq]; simp [B]
theorem B_data (s : ByteArray) : B s.data.toList = s := by apply ByteArray.ext; simp [B]
def byteCell (c : UInt8) : List Value := [.int .u8 (c.toNat : Int)]
theorem byteCell_len (c : UInt8) : (byteCell c).length = 1 := rfl

section
variable {P : Program} {α : Type} {f : α → List Value} {sz : Nat}
theorem slice_block (a : Option Addr) (n c : Nat) : (Value.slice a n c).ownBlock = a.map (·.block) := by cases a <;> rfl

theorem run_append_arr (w : World) (base : Nat) (t ty e : TypeId) (z : Value) (bytes : Nat) (ht : P.underlying t = some (.slice e))
    (hrow : (P.info? e).map (fun i => (i.zero, i.size, i.bytes)) = some (some z, sz, bytes)) (hzs : z.cells.size = sz) (hsz : 0 < sz) (hf : ∀ x, (f x).length = sz) (h1 : ∀ x, ∀ u ∈ f x, u.oneCell' = true)
    (a1 : Option Addr) (c1 : Nat) (xs : List α) (hown : OwnSl w base e f sz ⟨a1, c1, xs⟩) (a2 : Option Addr) (c2 bd : Nat) (ys : List α) (hr : Arr w bd f sz a2 ys)
    (h63 : xs.length + ys.length ≤ maxLen) (hbytes : (xs.length + ys.length) * bytes ≤ 140737488355328) (hbase : base ≤ w.heap.size) :
    ∃ a' c' w', (Builtin.append_ #[t, t] ty #[.slice a1 xs.length c1, .slice a2 ys.length c2]).run P w = .ok (.slice a' (xs ++ ys).length c') w' ∧ OwnSl w' base e f sz ⟨a', c', xs ++ ys⟩ ∧
      w.grownBy w' (a1.map (·.block)) ∧ (a'.map (·.block) = a1.map (·.block) ∨ a'.map (·.block) = some w.heap.size) := by
  obtain ⟨i, hi, hz, hs, hby⟩ := info_parts hrow
  by_cases hy : ys = []
  · subst hy
    have hlen : (Builtin.append_ #[t, t] ty #[.slice a1 xs.length c1, .slice a2 ([] : List α).length c2]).run P w = .ok (.slice a1 xs.length c1) w := by
      rcases a2 with _ | ad
      · rcases hown.2 with ⟨h, h0⟩ | ⟨g, cap, cur, h, _, _, hnc, _⟩
        · rw [h]; simp [Builtin.append_, run_underlying ht, sizeOf, typeInfo, hi, Builtin.lenOf, Builtin.firstCells]
        · simp only [Value.slice.injEq] at h
          obtain ⟨rfl, _, rfl⟩ := h
          simp [Builtin.append_, run_underlying ht, sizeOf, typeInfo, hi, Builtin.lenOf, Builtin.firstCells, hnc, storeCells]
      · rcases hown.2 with ⟨h, h0⟩ | ⟨g, cap, cur, h, _, _, hnc, _⟩
        · rw [h]; simp [Builtin.append_, run_underlying ht, sizeOf, typeInfo, hi, Builtin.lenOf, Builtin.firstCells, loadCells, loadCellsFrom]
        · simp only [Value.slice.injEq] at h
          obtain ⟨rfl, _, rfl⟩ := h
          simp [Builtin.append_, run_underlying ht, sizeOf, typeInfo, hi, Builtin.lenOf, Builtin.firstCells, hnc, storeCells, loadCells, loadCellsFrom]
    exact ⟨a1, c1, w, by rw [hlen, List.append_nil], by simpa using hown, World.grownBy.refl w _, .inl rfl⟩
  · rcases hr with h | ⟨b, off, rfl, hb, hc⟩
    · exact absurd h hy
    · have hnews : ∀ j u, (ys.flatMap f)[j]? = some u → w.cell? ((⟨b, off, none⟩ : Addr).add j) = some u := by
        intro j u hj
        have hlt : j < ys.length * sz := by rw [← flatMap_len hf ys]; exact (List.getElem?_eq_some_iff.1 hj).1
        have hdiv : j / sz < ys.length := Nat.div_lt_of_lt_mul (by rw [Nat.mul_comm]; exact hlt)
        have hmod : j % sz < sz := Nat.mod_lt _ hsz
        have hjj : j / sz * sz + j % sz = j := by rw [Nat.mul_comm]; exact Nat.div_add_mod j sz
        have hfl : j % sz < (f ys[j / sz]).length := by rw [hf]; exact hmod
        have e1 := flatMap_at hf ys (j / sz) ys[j / sz] (List.getElem?_eq_getElem hdiv) (j % sz) _ (List.getElem?_eq_getElem hfl)
        rw [hjj, hj] at e1
        have e2 := hc (j / sz) ys[j / sz] (List.getElem?_eq_getElem hdiv) (j % sz) _ (List.getElem?_eq_getElem hfl)
        rw [Nat.add_assoc, hjj] at e2
        rw [add_plain, e2, e1]
      obtain ⟨v', w', hrun, h2, h3, h4, h5⟩ := run_append_own_at (P := P) w base t ty e i z sz bytes ht hi hz hs hby hzs hsz _ _ _ hown ⟨b, off, none⟩ ys.length c2 (ys.flatMap f) (flatMap_len hf ys) hnews
        (by intro u hu; obtain ⟨x, _, hx⟩ := List.mem_flatMap.1 hu; exact h1 x u hx) h63 hbytes hbase
      have hform : ∃ a' c', v' = .slice a' (xs.length + ys.length) c' := by
        rcases h2.2 with ⟨h, h0⟩ | ⟨g, cap, cur, h, _⟩
        · exact ⟨none, 0, by rw [h, h0]⟩
        · exact ⟨_, _, h⟩
      obtain ⟨a', c', rfl⟩ := hform
      refine ⟨a', c', w', by rw [List.length_append]; exact hrun, ?_, by rw [slice_block] at h3; exact h3, by rw [slice_block, slice_block] at h5; exact h5⟩
      unfold OwnSl
      dsimp only
      rw [List.length_append, List.flatMap_append]
      exact h2

variable {ops : Array Oper} {rest : List Oper} {a : Act} {w : World} {Q : Exit → Act → World → Prop} {dst : Option Tmp} {ty' : TypeId} {pos : String} {aft : Array Edge}
/-- Guard: the next operation appends at slices of type t. -/
theorem at_append (t : TypeId) {s x : Operand} (h : wpList P ops Q (⟨dst, .call { callee := .builtin .append, args := #[s, x], argTypes := #[t, t] }, ty', pos, aft, none⟩ :: rest) a w) :
    wpList P ops Q (⟨dst, .call { callee := .builtin .append, args := #[s, x], argTypes := #[t, t] }, ty', pos, aft, none⟩ :: rest) a w := h
theorem wpl_append {s x : Operand} (base : Nat) {t e : TypeId} {z : Value} {bytes : Nat} (ht : P.underlying t = some (.slice e))
    (hrow : (P.info? e).map (fun i => (i.zero, i.size, i.bytes)) = some (some z, sz, bytes)) (hzs : z.cells.size = sz) (hsz : 0 < sz) (hf : ∀ x, (f x).length = sz) (h1 : ∀ x, ∀ u ∈ f x, u.oneCell' = true)
    {a1 : Option Addr} {c1 n1 : Nat} (hs : a.eval s = .slice a1 n1 c1) (xs : List α) (hn1 : n1 = xs.length) (hown : OwnSl w base e f sz ⟨a1, c1, xs⟩)
    {a2 : Option Addr} {c2 n2 : Nat} (hx : a.eval x = .slice a2 n2 c2) (ys : List α) (hn2 : n2 = ys.length) {bd : Nat} (hr : Arr w bd f sz a2 ys)
    (h63 : xs.length + ys.length ≤ maxLen) (hbytes : (xs.length + ys.length) * bytes ≤ 140737488355328) (hbase : base ≤ w.heap.size)
    (h : ∀ a' c' w', OwnSl w' base e f sz ⟨a', c', xs ++ ys⟩ → w.grownBy w' (a1.map (·.block)) → (a'.map (·.block) = a1.map (·.block) ∨ a'.map (·.block) = some w.heap.size) →
      wpList P ops Q rest (a.put dst (.slice a' (xs ++ ys).length c')) w') :
    wpList P ops Q (⟨dst, .call { callee := .builtin .append, args := #[s, x], argTypes := #[t, t] }, ty', pos, aft, none⟩ :: rest) a w := by
  subst hn1; subst hn2
  obtain ⟨a', c', w', hrun, h2, h3, h4⟩ := run_append_arr (P := P) w base t ty' e z bytes ht hrow hzs hsz hf h1 a1 c1 xs hown a2 c2 bd ys hr h63 hbytes hbase
  refine wpList_plain rfl fun K hK => ?_
  unfold Oper.wp execOp
  simp only [resolve, invoke, builtin, Sem.run_bind, Sem.run_pure, Result.andThen_ok, List.map_toArray, List.map_cons, List.map_nil, hs, hx, hrun]
  exact hK _ _ (h a' c' w' h2 h3 h4)
theorem grown_below {B : Nat} {w0 w w' : World} {a : Option Addr} (hb : Below B w0 w) (hg : w.grownBy w' (a.map (·.block))) (hB : B ≤ w.heap.size) {base : Nat} {E : TypeId} {s : Sl α} (ho : OwnSl w base E f sz s) (ha : s.a = a) (hbase : B ≤ base) : Below B w0 w' := by
  refine hb.grown hg hB fun k hk => ?_
  rcases ho.2 with ⟨h, _⟩ | ⟨g, cap, cur, h, hg', _⟩
  · simp only [Value.slice.injEq] at h
    rw [← ha, h.1] at hk; simp at hk
  · simp only [Value.slice.injEq] at h
    rw [← ha, h.1] at hk
    simp at hk; omega

theorem at_conv (src dst' : TypeId) {x : Operand} (h : wpList P ops Q (⟨dst, .convert src dst' x, ty', pos, aft, none⟩ :: rest) a w) : wpList P ops Q (⟨dst, .convert src dst' x, ty', pos, aft, none⟩ :: rest) a w := h
/-- string(b) of bytes that are known. -/
theorem wpl_str {src dst' e : TypeId} {x : Operand} (hs : P.underlying src = some (.slice e)) (he : P.underlying e = some (.int .u8)) (hd : P.underlying dst' = some .string)
    {A : Option Addr} {n c : Nat} (hx : a.eval x = .slice A n c) (l : List UInt8) (hn : n = l.length) {bd : Nat} (hr : Arr w bd byteCell 1 A l)
    (h : wpList P ops Q rest (a.put dst (.string (B l))) w) : wpList P ops Q (⟨dst, .convert src dst' x, ty', pos, aft, none⟩ :: rest) a w := by
  subst hn
  have hrun : (convert src dst' (.slice A l.length c)).run P w = .ok (.string (B l)) w := by
    rw [run_convert_bytes_string w src dst' e A l.length c hs he hd]
    rcases A with _ | ad
    · have hl : l = [] := by
        rcases hr with h | ⟨b, off, h, _⟩
        · exact h
        · cases h
      subst hl
      simp only [Conv.bytesToString, Sem.run_pure]
      rfl
    · have hns : ∀ (ns : List UInt8) (r : ByteArray), (ns.map (fun c : UInt8 => (c.toNat : Int))).foldl (fun r n => r.push (UInt8.ofNat n.toNat)) r = r ++ B ns := by
        intro ns
        induction ns with
        | nil => intro r; apply ByteArray.ext; simp [B]
        | cons c t ih => intro r; simp only [List.map_cons, List.foldl_cons]; rw [ih]; apply ByteArray.ext; simp [B]
      have hload : (loadCells ad l.length).run P w = .ok ((l.map (fun c : UInt8 => (c.toNat : Int))).map (Value.int .u8)).toArray w := by
        have := run_loadCells_list (P := P) w ad ((l.map (fun c : UInt8 => (c.toNat : Int))).map (Value.int .u8)) (fun j v hv => by
          rcases hr with rfl | ⟨b, off, h, hb, hc⟩
          · simp at hv
          · simp only [Option.some.injEq] at h
            subst h
            rw [List.getElem?_map, List.getElem?_map] at hv
            cases hl : l[j]? with
            | none => rw [hl] at hv; simp at hv
            | some u =>
              rw [hl] at hv
              simp at hv
              have := hc j u hl 0 _ rfl
              rw [add_plain]
              simpa [hv] using this)
        simpa using this
      have := run_bytesToString (P := P) w ad l.length c _ hload
      rw [this, hns]
      congr 2
  refine wpList_plain rfl fun K hK => ?_
  unfold Oper.wp execOp
  simp only [hx, Sem.run_bind, Sem.run_pure, Result.andThen_ok, hrun]
  exact hK _ _ h
/-- A slice literal's row, just built. -/
theorem Arr.built {w : World} {cs : Array Value} {E : TypeId} {xs : List α} (h : cs.toList = xs.flatMap f) (hf : ∀ x, (f x).length = sz) : Arr (w.alloc (.cells cs E)) (w.heap.size + 1) f sz (some ⟨w.heap.size, 0, none⟩) xs := by
  refine .inr ⟨w.heap.size, 0, rfl, by omega, fun i x hx j v hv => ?_⟩
  rw [Nat.zero_add, World.cell?_alloc_at _ _ _ _ rfl]
  have := flatMap_at hf xs i x hx j v hv
  rw [← h] at this
  simpa using this
theorem Arr.built_at {w : World} {N : Nat} {cs : Array Value} {E : TypeId} {xs : List α} (hN : N = w.heap.size) (h : cs.toList = xs.flatMap f) (hf : ∀ x, (f x).length = sz) : Arr (w.alloc (.cells cs E)) (N + 1) f sz (some ⟨N, 0, none⟩) xs := by
  subst hN; exact Arr.built h hf
theorem OwnSl.built {w : World} {base : Nat} {cs : Array Value} {E : TypeId} {xs : List α} (h : cs.toList = xs.flatMap f) (hf : ∀ x, (f x).length = sz) (hb : base ≤ w.heap.size) (hm : xs.length ≤ maxLen) :
    OwnSl (w.alloc (.cells cs E)) base E f sz ⟨some ⟨w.heap.size, 0, none⟩, xs.length, xs⟩ := by
  have hl : cs.size = xs.length * sz := by rw [← flatMap_len hf xs, ← h]; simp
  refine ⟨flatMap_len hf xs, .inr ⟨w.heap.size, xs.length, cs, rfl, hb, heap_at rfl, Nat.le_refl _, hm, hl, ?_⟩⟩
  rw [List.take_of_length_le (by simp; omega), h]
theorem OwnSl.built_at {w : World} {base N : Nat} {cs : Array Value} {E : TypeId} {xs : List α} {n c : Nat} (hN : N = w.heap.size) (h : cs.toList = xs.flatMap f) (hf : ∀ x, (f x).length = sz) (hb : base ≤ N) (hm : xs.length ≤ maxLen) (hc : c = xs.length) :
    OwnSl (w.alloc (.cells cs E)) base E f sz ⟨some ⟨N, 0, none⟩, c, xs⟩ := by
  subst hN; subst hc; exact OwnSl.built h hf hb hm
theorem OwnSl.nil {w : World} {base : Nat} {E : TypeId} : OwnSl (α := α) w base E f sz ⟨none, 0, []⟩ := ⟨by simp, .inl ⟨rfl, rfl⟩⟩
end
end Go.Proofs.Ytjbpnmbmgkibdaa
