/-
  Laws for loading and storing whole structs in blocks that are known.
-/
import Derived.Test.YtjbpnmbmgkibdaaExt
import Derived.Test.YtjbpnmbmgkibdaaChecked
import Derived.Laws.CopyRow
import Derived.Laws.CopyOwn
import Derived.KernelRfl
set_option linter.unusedSimpArgs false
namespace Go.Proofs.Ytjbpnmbmgkibdaa
open Go.RowKit

def aggSize (P : Program) (ty : TypeId) : Option Nat :=
  match P.underlying ty with
  | some (.struct _) => (P.info? ty).map (·.size)
  | _ => none

theorem aggSize_info {P : Program} {ty : TypeId} {n : Nat} (h : aggSize P ty = some n) : (∃ fs, P.underlying ty = some (.struct fs)) ∧ (P.info? ty).map (·.size) = some n := by
  unfold aggSize at h
  split at h
  · rename_i fs hu
    exact ⟨⟨fs, hu⟩, h⟩
  · cases h

section
variable {P : Program} {w : World} {g : Array Obj} {n : Nat}
theorem heap_at {o : Obj} {i : Nat} (h : i = w.heap.size) : (w.alloc o).heap[i]? = some o := by subst h; exact heap_alloc_new w o
theorem heap_past {o : Obj} {i : Nat} (h : i < w.heap.size) : (w.alloc o).heap[i]? = w.heap[i]? := Below.heap_alloc w o i h
theorem heap_ext {i : Nat} (h : i < w.heap.size) : (WExt w g n).heap[i]? = w.heap[i]? := heap_ext_old h
theorem size_drew : w.drew.heap.size = w.heap.size := rfl
theorem heap_ext_drew {i : Nat} : (w.drew).heap[i]? = w.heap[i]? := rfl
@[go_sem] theorem size_setRow {k : Nat} {cs : Array Value} : (w.setRow k cs).heap.size = w.heap.size := by simp [World.setRow]
@[go_sem] theorem setRow_at {c cs : Array Value} {t : TypeId} {k : Nat} (h : k = w.heap.size) : (w.alloc (.cells c t)).setRow k cs = w.alloc (.cells cs t) := by
  subst h
  unfold World.setRow World.alloc
  congr 1
  apply Array.ext_getElem?
  intro i
  simp only [Array.getElem?_modify, Array.getElem?_push]
  by_cases hk : w.heap.size = i
  · simp [hk]
  · simp [hk, Ne.symm hk]
@[go_sem] theorem setRow_past {o : Obj} {cs : Array Value} {k : Nat} (h : k < w.heap.size) : (w.alloc o).setRow k cs = (w.setRow k cs).alloc o := by
  unfold World.setRow World.alloc
  congr 1
  apply Array.ext_getElem?
  intro i
  simp only [Array.getElem?_modify, Array.getElem?_push, Array.size_modify]
  by_cases hk : i = w.heap.size
  · subst hk; simp [Nat.ne_of_lt h]
  · simp [hk]
@[go_sem] theorem setRow_ext {cs : Array Value} {k : Nat} (h : k < w.heap.size) : (WExt w g n).setRow k cs = WExt (w.setRow k cs) g n := by
  unfold World.setRow WExt
  congr 1
  apply Array.ext_getElem?
  intro i
  simp only [Array.getElem?_modify, Array.getElem?_append, Array.size_modify]
  by_cases hk : k = i
  · subst hk; simp [h]
  · simp [hk]
@[go_sem] theorem setRow_drew {cs : Array Value} {k : Nat} : w.drew.setRow k cs = (w.setRow k cs).drew := rfl

variable {ops : Array Oper} {rest : List Oper} {a : Act} {Q : Exit → Act → World → Prop} {dst : Option Tmp} {ty ty' : TypeId} {x : Operand} {pos : String} {aft : Array Edge}
/-- Guards: the next operation loads, stores at this type. -/
theorem at_load (ty : TypeId) (h : wpList P ops Q (⟨dst, .load ty x, ty', pos, aft, none⟩ :: rest) a w) : wpList P ops Q (⟨dst, .load ty x, ty', pos, aft, none⟩ :: rest) a w := h
theorem at_store (ty : TypeId) {y : Operand} (h : wpList P ops Q (⟨dst, .store ty x y, ty', pos, aft, none⟩ :: rest) a w) : wpList P ops Q (⟨dst, .store ty x y, ty', pos, aft, none⟩ :: rest) a w := h
theorem run_load_cells {k : Nat} (hs : aggSize P ty = some k) {b off : Nat} {cs : List Value} (hn : cs.length = k)
    (hc : ∀ j v, cs[j]? = some v → w.cell? ⟨b, off + j, none⟩ = some v) : (loadVar ty ⟨b, off, none⟩).run P w = .ok (.agg cs.toArray) w := by
  obtain ⟨⟨fs, hu⟩, hi⟩ := aggSize_info hs
  have hl : (loadCells ⟨b, off, none⟩ cs.length).run P w = .ok cs.toArray w :=
    run_loadCells_list (P := P) w ⟨b, off, none⟩ cs (fun j v hv => by
      have hadd : (⟨b, off, none⟩ : Addr).add j = ⟨b, off + j, none⟩ := by unfold Addr.add; split <;> simp_all
      rw [hadd]; exact hc j v hv)
  have hagg : (isAgg ty).run P w = .ok true w := by
    unfold isAgg
    rw [Sem.run_bind, run_underlying hu w]
    simp
  cases hq : P.info? ty with
  | none => simp [hq] at hi
  | some i =>
    have hsz : i.size = cs.length := by simp [hq] at hi; omega
    simp [loadVar, Sem.run_bind, hagg, sizeOf, typeInfo, hq, hsz, hl]
/-- A struct out of cells that are known. -/
theorem wpl_load {k : Nat} (hs : aggSize P ty = some k) {b off : Nat} (hx : a.eval x = .pointer (some ⟨b, off, none⟩)) (cs : List Value) (hn : cs.length = k)
    (hc : ∀ j v, cs[j]? = some v → w.cell? ⟨b, off + j, none⟩ = some v)
    (h : wpList P ops Q rest (a.put dst (.agg cs.toArray)) w) : wpList P ops Q (⟨dst, .load ty x, ty', pos, aft, none⟩ :: rest) a w := by
  obtain ⟨⟨fs, hu⟩, hi⟩ := aggSize_info hs
  refine wpList_plain rfl fun K hK => ?_
  have hl : (loadCells ⟨b, off, none⟩ cs.length).run P w = .ok cs.toArray w :=
    run_loadCells_list (P := P) w ⟨b, off, none⟩ cs (fun j v hv => by
      have hadd : (⟨b, off, none⟩ : Addr).add j = ⟨b, off + j, none⟩ := by unfold Addr.add; split <;> simp_all
      rw [hadd]; exact hc j v hv)
  have hagg : (isAgg ty).run P w = .ok true w := by
    unfold isAgg
    rw [Sem.run_bind, run_underlying hu w]
    simp
  cases hq : P.info? ty with
  | none => simp [hq] at hi
  | some i =>
    have hsz : i.size = cs.length := by simp [hq] at hi; omega
    have hlv : (loadVar ty ⟨b, off, none⟩).run P w = .ok (.agg cs.toArray) w := by
      simp [loadVar, Sem.run_bind, hagg, sizeOf, typeInfo, hq, hsz, hl]
    unfold Oper.wp execOp
    simp only [hx, Instr.loadAt, Instr.sureAddr, Sem.run_bind, Sem.run_pure, Result.andThen_ok, hlv]
    exact hK _ _ h
/-- A whole struct out of its block. -/
theorem wpl_load_blk {k : Nat} (hs : aggSize P ty = some k) {b : Nat} (hx : a.eval x = .pointer (some ⟨b, 0, none⟩)) {ca : Array Value} {t : TypeId} {fr : Nat × Nat}
    (hg : w.heap[b]? = some (.cells ca t fr)) (hn : ca.size = k)
    (h : wpList P ops Q rest (a.put dst (.agg ca)) w) : wpList P ops Q (⟨dst, .load ty x, ty', pos, aft, none⟩ :: rest) a w := by
  refine wpl_load hs hx ca.toList (by simpa using hn) (fun j v hv => ?_) (by simpa using h)
  rw [Nat.zero_add, cell_of_row w b j ca t fr hg]
  simpa using hv
/-- A whole struct into its block. -/
theorem wpl_store_blk {k : Nat} (hs : aggSize P ty = some k) {y : Operand} {b : Nat} (hx : a.eval x = .pointer (some ⟨b, 0, none⟩)) {vs : Array Value} (hy : a.eval y = .agg vs) {ca : Array Value} {t : TypeId}
    (hg : w.heap[b]? = some (.cells ca t (0, 0))) (hn : ca.size = k) (hv : vs.size = k) (h1 : vs.toList.all (·.oneCell') = true)
    (h : wpList P ops Q rest (a.put dst undef) (w.setRow b vs)) : wpList P ops Q (⟨dst, .store ty x y, ty', pos, aft, none⟩ :: rest) a w := by
  obtain ⟨⟨fs, hu⟩, hi⟩ := aggSize_info hs
  refine wpList_plain rfl fun K hK => ?_
  have h1' : ∀ v ∈ vs.toList, v.oneCell' = true := by
    intro v hv; exact List.all_eq_true.1 h1 v hv
  have hst := run_storeCells_at (P := P) b 0 t vs.toList 0 ca w hg (by simp; omega) h1'
  have e : (ca.toList.take (0 + 0) ++ vs.toList ++ ca.toList.drop (0 + 0 + vs.toList.length)).toArray = vs := by
    rw [List.drop_eq_nil_of_le (by simp; omega)]
    simp
  rw [e] at hst
  cases hq : P.info? ty with
  | none => simp [hq] at hi
  | some i =>
    have hsz : i.size = vs.size := by simp [hq] at hi; omega
    have hlv : (storeVar ty ⟨b, 0, none⟩ (.agg vs)).run P w = .ok () (w.setRow b vs) := by
      simp [storeVar, Sem.run_bind, sizeOf, typeInfo, hq, hsz, Value.cells, hst]
    unfold Oper.wp execOp
    simp only [hx, hy, Instr.storeAt, Instr.sureAddr, Sem.run_bind, Sem.run_pure, Result.andThen_ok, hlv]
    exact hK _ _ h
/-- A struct out of a block that holds more. -/
theorem wpl_load_part {k : Nat} (hs : aggSize P ty = some k) {b off : Nat} (hx : a.eval x = .pointer (some ⟨b, off, none⟩)) {ca : Array Value} {t : TypeId} {fr : Nat × Nat}
    (hg : w.heap[b]? = some (.cells ca t fr)) {vs : List Value} (hv : (ca.toList.drop off).take k = vs) (hn : vs.length = k)
    (h : wpList P ops Q rest (a.put dst (.agg vs.toArray)) w) : wpList P ops Q (⟨dst, .load ty x, ty', pos, aft, none⟩ :: rest) a w := by
  refine wpl_load hs hx vs hn (fun j v hjv => ?_) h
  rw [cell_of_row w b (off + j) ca t fr hg]
  subst hv
  have hj : j < k := by rw [← hn]; exact (List.getElem?_eq_some_iff.1 hjv).1
  rw [List.getElem?_take, if_pos hj, List.getElem?_drop] at hjv
  simpa using hjv
/-- A struct into a block that holds more. -/
theorem wpl_store_part {k : Nat} (hs : aggSize P ty = some k) {y : Operand} {b off : Nat} (hx : a.eval x = .pointer (some ⟨b, off, none⟩)) {vs : Array Value} (hy : a.eval y = .agg vs) {ca : Array Value} {t : TypeId}
    (hg : w.heap[b]? = some (.cells ca t (0, 0))) (hn : off + k ≤ ca.size) (hv : vs.size = k) (h1 : vs.toList.all (·.oneCell') = true)
    {r : List Value} (hr : ca.toList.take off ++ vs.toList ++ ca.toList.drop (off + k) = r)
    (h : wpList P ops Q rest (a.put dst undef) (w.setRow b r.toArray)) : wpList P ops Q (⟨dst, .store ty x y, ty', pos, aft, none⟩ :: rest) a w := by
  obtain ⟨⟨fs, hu⟩, hi⟩ := aggSize_info hs
  refine wpList_plain rfl fun K hK => ?_
  have h1' : ∀ v ∈ vs.toList, v.oneCell' = true := by intro v hv; exact List.all_eq_true.1 h1 v hv
  have hst := run_storeCells_at (P := P) b off t vs.toList 0 ca w hg (by simp; omega) h1'
  simp only [Nat.add_zero, Array.length_toList, hv, hr] at hst
  cases hq : P.info? ty with
  | none => simp [hq] at hi
  | some i =>
    have hsz : i.size = vs.size := by simp [hq] at hi; omega
    have hlv : (storeVar ty ⟨b, off, none⟩ (.agg vs)).run P w = .ok () (w.setRow b r.toArray) := by
      simp [storeVar, Sem.run_bind, sizeOf, typeInfo, hq, hsz, Value.cells, hst]
    unfold Oper.wp execOp
    simp only [hx, hy, Instr.storeAt, Instr.sureAddr, Sem.run_bind, Sem.run_pure, Result.andThen_ok, hlv]
    exact hK _ _ h
theorem run_load_cell {k b : Nat} (hs : aggSize P ty = some k) {ca : Array Value} {t : TypeId} {fr : Nat × Nat} (hg : w.heap[b]? = some (.cells ca t fr)) (hn : ca.size = k) :
    (loadVar ty ⟨b, 0, none⟩).run P w = .ok (.agg ca) w := by
  obtain ⟨⟨fs, hu⟩, hi⟩ := aggSize_info hs
  exact run_loadVar_row w b t ty ca fr _ hg hu rfl (by rw [hi, hn])
def rvSem (tmps : Array Value) : ResultVar → Sem Value
  | .tmp t => pure (tmps.getD t undef)
  | .cell a t => do loadVar t (← asAddr (tmps.getD a undef))
/-- What a result variable holds at the return. -/
def RV (P : Program) (tmps : Array Value) (w : World) (r : ResultVar) (v : Value) : Prop := (rvSem tmps r).run P w = .ok v w
theorem rv_tmp {tmps : Array Value} {t : Tmp} {v : Value} (h : tmps.getD t undef = v) : RV P tmps w (.tmp t) v := by
  subst h; rfl
theorem rv_cell {k : Nat} (hs : aggSize P ty = some k) {tmps : Array Value} {t : Tmp} {b : Nat} (hp : tmps.getD t undef = .pointer (some ⟨b, 0, none⟩)) {ca : Array Value} {tt : TypeId} {fr : Nat × Nat}
    (hg : w.heap[b]? = some (.cells ca tt fr)) (hn : ca.size = k) : RV P tmps w (.cell t ty) (.agg ca) := by
  unfold RV rvSem
  simp only [hp, asAddr, Sem.run_bind, Sem.run_pure, Result.andThen_ok, run_load_cell hs hg hn]
theorem post_1 {fn : Func} {R : Ending → World → Prop} {r : ResultVar} {v : Value} (h : fn.results = #[r]) (h1 : RV P a.tmps w r v) (hd : a.defers = []) (hR : R (.returned v) w) : bodyPost P fn R .ret a w := by
  refine bodyPost_ret ?_ hd hR
  have e : results fn a.tmps = (do let v ← rvSem a.tmps r; pure v) := by
    unfold results rvSem
    rw [h]
    cases r <;> simp
  rw [e]
  unfold RV at h1
  simp only [Sem.run_bind, h1, Result.andThen_ok, Sem.run_pure]
theorem post_2 {fn : Func} {R : Ending → World → Prop} {r1 r2 : ResultVar} {v1 v2 : Value} (h : fn.results = #[r1, r2]) (h1 : RV P a.tmps w r1 v1) (h2 : RV P a.tmps w r2 v2) (hd : a.defers = []) (hR : R (.returned (.tuple #[v1, v2])) w) : bodyPost P fn R .ret a w := by
  refine bodyPost_ret ?_ hd hR
  have e : results fn a.tmps = (do let v1 ← rvSem a.tmps r1; let v2 ← rvSem a.tmps r2; pure (.tuple #[v1, v2])) := by
    unfold results rvSem
    rw [h]
    cases r1 <;> cases r2 <;> simp
  rw [e]
  unfold RV at h1 h2
  simp only [Sem.run_bind, h1, h2, Result.andThen_ok, Sem.run_pure]
theorem post_3 {fn : Func} {R : Ending → World → Prop} {r1 r2 r3 : ResultVar} {v1 v2 v3 : Value} (h : fn.results = #[r1, r2, r3]) (h1 : RV P a.tmps w r1 v1) (h2 : RV P a.tmps w r2 v2) (h3 : RV P a.tmps w r3 v3) (hd : a.defers = []) (hR : R (.returned (.tuple #[v1, v2, v3])) w) : bodyPost P fn R .ret a w := by
  refine bodyPost_ret ?_ hd hR
  have e : results fn a.tmps = (do let v1 ← rvSem a.tmps r1; let v2 ← rvSem a.tmps r2; let v3 ← rvSem a.tmps r3; pure (.tuple #[v1, v2, v3])) := by
    unfold results rvSem
    rw [h]
    cases r1 <;> cases r2 <;> cases r3 <;> simp
  rw [e]
  unfold RV at h1 h2 h3
  simp only [Sem.run_bind, h1, h2, h3, Result.andThen_ok, Sem.run_pure]
end

theorem sz_laws_Tag : aggSize Try.prog 34 = some 5 := by kernel_rfl
theorem sz_laws_Letter : aggSize Try.prog 36 = some 19 := by kernel_rfl
theorem sz_impl_Policy : aggSize Try.prog 45 = some 2 := by kernel_rfl
theorem sz_impl_Bucket : aggSize Try.prog 57 = some 3 := by kernel_rfl
theorem sz_impl_Tag : aggSize Try.prog 39 = some 5 := by kernel_rfl
theorem sz_impl_Letter : aggSize Try.prog 41 = some 19 := by kernel_rfl
end Go.Proofs.Ytjbpnmbmgkibdaa
