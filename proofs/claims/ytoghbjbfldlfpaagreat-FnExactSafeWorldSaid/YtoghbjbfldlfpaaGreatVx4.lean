/-
  VX, part 4: the operations that make memory and values, read and write.
-/
import Derived.Test.YtoghbjbfldlfpaaGreatVx3
namespace Go.Proofs.YtoghbjbfldlfpaaGreat
open Go.RowKit
set_option linter.unusedVariables false
set_option linter.unusedSimpArgs false

section
variable {P : Program} {β : Be} {s : S} {a : Act} {w : World} {o : Oper} {r : OpR} {ty : TypeId}

theorem op_move (hs : HSim β s.hp w) (hsl : SlotsR β s.sl a.tmps) (x : Operand) (ho : o.op = .move x ∨ o.op = .assign x) (h : aop P s ty (.move x) = some r) : Good β s r w ((execOp a.eval o).run P w) := by
  simp only [aop] at h
  split at h
  · rename_i v hv
    simp only [Option.some.injEq] at h
    subst h
    refine good_val hs (v := a.eval x) ?_ (ev_R hsl hv)
    unfold execOp
    rcases ho with ho | ho <;> rw [ho] <;> rfl
  · cases h
theorem op_pick (hs : HSim β s.hp w) (hsl : SlotsR β s.sl a.tmps) (c x y : Operand) (ho : o.op = .pick c x y) (h : aop P s ty (.pick c x y) = some r) : Good β s r w ((execOp a.eval o).run P w) := by
  simp only [aop] at h
  split at h
  · rename_i hc
    have hb : a.eval c = .bool true := ev_R hsl hc
    split at h
    · rename_i v hv
      simp only [Option.some.injEq] at h
      subst h
      refine good_val hs (v := a.eval x) ?_ (ev_R hsl hv)
      unfold execOp
      rw [ho]
      simp [hb, asBool]
    · cases h
  · rename_i hc
    have hb : a.eval c = .bool false := ev_R hsl hc
    split at h
    · rename_i v hv
      simp only [Option.some.injEq] at h
      subst h
      refine good_val hs (v := a.eval y) ?_ (ev_R hsl hv)
      unfold execOp
      rw [ho]
      simp [hb, asBool]
    · cases h
  · cases h
theorem op_alloc (hs : HSim β s.hp w) (e : TypeId) (ho : o.op = .alloc e) (h : aop P s ty (.alloc e) = some r) : Good β s r w ((execOp a.eval o).run P w) := by
  simp only [aop] at h
  split at h
  · rename_i z hz
    simp only [Option.some.injEq] at h
    subst h
    obtain ⟨hz, hl, _⟩ := tz_facts hz
    obtain ⟨i, v, vs, hi, hzv, hvc, hsc⟩ := tzero_info hz
    have hr := scs_R β hsc
    refine good_new hs (arr := vs.toArray) (v := .pointer (some ⟨w.heap.size, 0, none⟩)) ?_ (cellsR_one hr) (fun h => by cases h) (pt_new hs _ _)
    unfold execOp
    rw [ho]
    simp [Instr.alloc, zeroValue, typeInfo, hi, hzv, newVar, newRow, hvc]
  · cases h
theorem op_box (hs : HSim β s.hp w) (hsl : SlotsR β s.sl a.tmps) (e : TypeId) (x : Operand) (ho : o.op = .box e x) (h : aop P s ty (.box e x) = some r) : Good β s r w ((execOp a.eval o).run P w) := by
  simp only [aop] at h
  split at h
  · rename_i v hv
    split at h
    · rename_i cs hcs
      simp only [Option.some.injEq] at h
      subst h
      obtain ⟨vs, hvs, hr⟩ := AVR.cells hcs (ev_R hsl hv)
      refine good_new hs (arr := vs.toArray) (v := .pointer (some ⟨w.heap.size, 0, none⟩)) ?_ (cellsR_one hr) (fun h => by cases h) (pt_new hs _ _)
      unfold execOp
      rw [ho]
      simp [Instr.box, newVar, newRow, hvs]
    · cases h
  · cases h

/-! ### Filling -/
theorem zipIdx_fold (off : Nat) : ∀ (vs : List Value) (n : Nat) (cells : Array Value),
    ((vs.zipIdx n).foldl (fun cs (x : Value × Nat) => cs.setIfInBounds (off + x.2) x.1) cells).size = cells.size ∧
    ∀ m, off + n + vs.length ≤ cells.size → ((vs.zipIdx n).foldl (fun cs (x : Value × Nat) => cs.setIfInBounds (off + x.2) x.1) cells)[m]? = if off + n ≤ m ∧ m < off + n + vs.length then vs[m - (off + n)]? else cells[m]?
  | [], n, cells => ⟨by simp, fun m hm => by
      simp only [List.zipIdx_nil, List.foldl_nil, List.length_nil, Nat.add_zero]
      rw [if_neg (by omega)]⟩
  | v :: vs, n, cells => by
    obtain ⟨h1, h2⟩ := zipIdx_fold off vs (n + 1) (cells.setIfInBounds (off + n) v)
    refine ⟨by simpa [List.zipIdx_cons] using h1, fun m hm => ?_⟩
    simp only [List.zipIdx_cons, List.foldl_cons]
    rw [h2 m (by simp at hm ⊢; omega)]
    by_cases he : m = off + n
    · subst he
      rw [if_neg (by omega), if_pos (by simp)]
      simp at hm
      simp [Array.getElem?_setIfInBounds]
      omega
    · by_cases hin : off + (n + 1) ≤ m ∧ m < off + (n + 1) + vs.length
      · rw [if_pos hin, if_pos (by simp; omega)]
        have : m - (off + n) = (m - (off + (n + 1))) + 1 := by omega
        rw [this, List.getElem?_cons_succ]
      · rw [if_neg hin, if_neg (by simp; omega)]
        rw [Array.getElem?_setIfInBounds_ne (Ne.symm he)]
theorem fold_toArray (off : Nat) (vs : List Value) (cells : Array Value) :
    (vs.toArray.zipIdx.foldl (fun cs (x : Value × Nat) => cs.setIfInBounds (off + x.2) x.1) cells) = ((vs.zipIdx 0).foldl (fun cs (x : Value × Nat) => cs.setIfInBounds (off + x.2) x.1) cells) := by
  simp [← Array.foldl_toList]
theorem splice_get (c : List Sc) (j : Nat) (l : List Sc) (h : j + l.length ≤ c.length) (m : Nat) : (splice c j l)[m]? = if j ≤ m ∧ m < j + l.length then l[m - j]? else c[m]? := by
  unfold splice
  by_cases h1 : m < j
  · rw [List.getElem?_append_left (by simp; omega), List.getElem?_take_of_lt h1, if_neg (by omega)]
  · rw [List.getElem?_append_right (by simp; omega)]
    have hl : (c.take j).length = j := by simp; omega
    rw [hl]
    by_cases h2 : m < j + l.length
    · rw [List.getElem?_append_left (by omega), if_pos (by omega)]
    · rw [List.getElem?_append_right (by omega), if_neg (by omega), List.getElem?_drop]
      congr 1
      omega
theorem splice_length (c : List Sc) (j : Nat) (l : List Sc) (h : j + l.length ≤ c.length) : (splice c j l).length = c.length := by
  unfold splice
  simp
  omega
theorem over_eq : ∀ (c l : List Sc), l.length ≤ c.length → over c l = l ++ c.drop l.length
  | c, [], _ => by cases c <;> simp [over]
  | _ :: c, b :: l, h => by simp [over, over_eq c l (by simpa using h)]
  | [], _ :: _, h => by simp at h
theorem spl_eq : ∀ (c : List Sc) (j : Nat) (l : List Sc), j + l.length ≤ c.length → spl c j l = splice c j l
  | c, 0, l, h => by
    have h1 : spl c 0 l = over c l := by cases c <;> rfl
    rw [h1, over_eq c l (by omega)]
    simp [splice]
  | a :: c, j + 1, l, h => by
    have := spl_eq c j l (by simp at h; omega)
    simp only [spl, this]
    unfold splice
    rw [show j + 1 + l.length = (j + l.length) + 1 from by omega]
    simp
  | [], j + 1, l, h => by simp at h
theorem fillA_R {P : Program} {t : TypeId} {pl : Nat → Option (Nat × Nat)} : ∀ {l : List (Nat × List Sc)} {ps : List (Nat × Value)} {c c' : List Sc} {arr : Array Value},
    fillA pl c l = some c' → L2 (ScR β) c arr.toList →
    L2 (fun (x : Nat × List Sc) (y : Nat × Value) => x.1 = y.1 ∧ ∃ vs : List Value, y.2.cells = vs.toArray ∧ L2 (ScR β) x.2 vs) l ps →
    ∃ arr' : Array Value, Instr.fill pl arr ps = some arr' ∧ L2 (ScR β) c' arr'.toList
  | [], [], c, c', arr, h, hc, _ => by
    simp only [fillA, Option.some.injEq] at h
    subst h
    exact ⟨arr, rfl, hc⟩
  | (i, v) :: l, (i', u) :: ps, c, c', arr, h, hc, hl => by
    obtain ⟨⟨hi, vs, hvs, hr⟩, hl⟩ := hl
    dsimp only at hi hvs hr
    subst hi
    simp only [fillA] at h
    split at h
    · cases h
    · rename_i off size hpl
      split at h
      · rename_i hsz0
        simp only [Bool.and_eq_true] at hsz0
        have hsz : v.length = size ∧ off + size ≤ c.length := ⟨lenIs_eq hsz0.1, fits_le hsz0.2⟩
        rw [spl_eq c off v (by omega)] at h
        have hlen := hc.length
        have hvl := hr.length
        have hbd : off + vs.length ≤ arr.size := by rw [← hvl]; simp at hlen; omega
        obtain ⟨h1, h2⟩ := zipIdx_fold off vs 0 arr
        have hnew : L2 (ScR β) (splice c off v) ((vs.toArray.zipIdx.foldl (fun cs (x : Value × Nat) => cs.setIfInBounds (off + x.2) x.1) arr)).toList := by
          rw [fold_toArray]
          refine L2.of_get (by rw [splice_length c off v (by omega), hlen]; simp only [Array.length_toList]; exact h1.symm) fun m x y hx hy => ?_
          rw [splice_get c off v (by omega)] at hx
          rw [Array.getElem?_toList, h2 m (by simpa using hbd)] at hy
          simp only [Nat.add_zero] at hy
          by_cases hin : off ≤ m ∧ m < off + v.length
          · rw [if_pos hin] at hx
            rw [if_pos (by omega)] at hy
            obtain ⟨y', hy', hr'⟩ := hr.get hx
            rw [hy] at hy'
            cases hy'
            exact hr'
          · rw [if_neg hin] at hx
            rw [if_neg (by omega)] at hy
            obtain ⟨y', hy', hr'⟩ := hc.get hx
            rw [Array.getElem?_toList, hy] at hy'
            cases hy'
            exact hr'
        obtain ⟨arr', hf, hr'⟩ := fillA_R (P := P) (t := t) h hnew hl
        refine ⟨arr', ?_, hr'⟩
        simp only [Instr.fill, hpl]
        rw [if_neg]
        · rw [hvs]; exact hf
        · rw [hvs]
          simp
          omega
      · cases h
  | [], _ :: _, _, _, _, _, _, hl => hl.elim
  | _ :: _, [], _, _, _, _, _, hl => hl.elim
end
end Go.Proofs.YtoghbjbfldlfpaaGreat
