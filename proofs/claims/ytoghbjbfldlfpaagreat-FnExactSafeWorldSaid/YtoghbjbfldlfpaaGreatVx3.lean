/-
  VX, part 3: each operation of the model does what 'aop' says.
-/
import Derived.Test.YtoghbjbfldlfpaaGreatVx2
import Derived.Laws.MakeOwn
import Derived.Laws.BytesString
import Derived.Laws.BytesArg
import Derived.Laws.Build
namespace Go.Proofs.YtoghbjbfldlfpaaGreat
open Go.RowKit
set_option linter.unusedVariables false
set_option linter.unusedSimpArgs false

/-! ### Reading operands -/
theorem ofV_R {v : Value} {s : Sc} (h : Sc.ofV v = some s) (β : Be) : ScR β s v := by
  unfold Sc.ofV at h
  split at h
  all_goals first
    | (simp only [Option.some.injEq] at h; subst h; first | rfl | exact ⟨_, rfl⟩)
    | cases h
theorem scs_R (β : Be) : ∀ {vs : List Value} {l : List Sc}, scs vs = some l → L2 (ScR β) l vs
  | [], l, h => by simp only [scs, Option.some.injEq] at h; subst h; trivial
  | v :: r, l, h => by
    simp only [scs] at h
    split at h
    · rename_i s m h1 h2
      simp only [Option.some.injEq] at h
      subst h
      exact ⟨ofV_R h1 β, scs_R β h2⟩
    · cases h
theorem avOfV_R {v : Value} {x : AV} (h : AV.ofV v = some x) (β : Be) : AVR β x v := by
  unfold AV.ofV at h
  split at h
  · rename_i cs
    simp only [Option.map_eq_some_iff] at h
    obtain ⟨l, h1, rfl⟩ := h
    exact ⟨cs.toList, by simp, scs_R β h1⟩
  · rename_i f a b
    split at h
    · rename_i h0
      simp only [Option.some.injEq] at h
      subst h
      obtain ⟨ha, hb⟩ := h0
      have ha' : a = #[] := Array.eq_empty_of_size_eq_zero ha
      have hb' : b = #[] := Array.eq_empty_of_size_eq_zero hb
      subst ha'; subst hb'
      exact ⟨[], rfl, trivial⟩
    · cases h
  · simp only [Option.map_eq_some_iff] at h
    obtain ⟨l, h1, rfl⟩ := h
    exact ofV_R h1 β
theorem ev_R {β : Be} {s : S} {a : Act} (hs : SlotsR β s.sl a.tmps) {x : Operand} {v : AV} (h : s.ev x = some v) : AVR β v (a.eval x) := by
  cases x with
  | tmp t =>
    obtain ⟨u, hu, hr⟩ := hs.2 t v h
    have : a.eval (.tmp t) = u := by simp [Act.eval, Array.getD_eq_getD_getElem?, hu]
    rw [this]; exact hr
  | const c => exact avOfV_R h β
  | global g => cases h
  | func f =>
    simp only [S.ev, Option.some.injEq] at h
    subst h
    exact ⟨[], rfl, trivial⟩
theorem obj_get {s : S} {o : Nat} {ob : AObj} (h : s.obj o = some ob) : s.hp[o]? = some (some ob) := by
  unfold S.obj at h
  rw [List.getD_eq_getElem?_getD] at h
  cases hx : s.hp[o]? with
  | none => rw [hx] at h; cases h
  | some y => rw [hx] at h; simp only [Option.getD_some] at h; rw [h]
theorem parts_R {β : Be} {s : S} {a : Act} (hs : SlotsR β s.sl a.tmps) : ∀ {ps : List (Nat × Operand)} {l : List (Nat × List Sc)}, s.parts ps = some l →
    L2 (fun (x : Nat × List Sc) (y : Nat × Value) => x.1 = y.1 ∧ ∃ vs : List Value, y.2.cells = vs.toArray ∧ L2 (ScR β) x.2 vs) l (ps.map fun (i, x) => (i, a.eval x))
  | [], l, h => by simp only [S.parts, Option.some.injEq] at h; subst h; trivial
  | (i, x) :: rest, l, h => by
    simp only [S.parts] at h
    split at h
    · rename_i v hv
      split at h
      · rename_i cs hcs
        split at h
        · rename_i m hm
          simp only [Option.some.injEq] at h
          subst h
          exact ⟨⟨rfl, AVR.cells hcs (ev_R hs hv)⟩, parts_R hs hm⟩
        · cases h
      · cases h
    · cases h
theorem scals_R {β : Be} {s : S} {a : Act} (hs : SlotsR β s.sl a.tmps) : ∀ {ps : List Operand} {l : List Sc}, s.scals ps = some l → L2 (ScR β) l (ps.map a.eval)
  | [], l, h => by simp only [S.scals, Option.some.injEq] at h; subst h; trivial
  | x :: rest, l, h => by
    simp only [S.scals] at h
    split at h
    · rename_i c hc
      split at h
      · rename_i m hm
        simp only [Option.some.injEq] at h
        subst h
        exact ⟨ev_R hs hc, scals_R hs hm⟩
      · cases h
    · cases h

/-! ### Types -/
theorem run_sizeOf' {P : Program} {t : TypeId} (w : World) (h : (P.info? t).isSome = true) : (sizeOf t).run P w = .ok (tsz P t) w := by
  obtain ⟨i, hi⟩ := Option.isSome_iff_exists.1 h
  simp [sizeOf, typeInfo, hi, tsz]
theorem tknown_und {P : Program} {t : TypeId} (h : tknown P t = true) : ∃ d, P.underlying t = some d := by
  unfold tknown at h
  simp only [Bool.and_eq_true] at h
  exact Option.isSome_iff_exists.1 h.1
theorem tknown_info {P : Program} {t : TypeId} (h : tknown P t = true) : (P.info? t).isSome = true := by
  unfold tknown at h
  simp only [Bool.and_eq_true] at h
  exact h.2
theorem run_isAgg' {P : Program} {t : TypeId} (w : World) {d : TypeDesc} (h : P.underlying t = some d) : (isAgg t).run P w = .ok (tagg P t) w := by
  simp only [isAgg, Sem.run_bind, run_underlying h, Result.andThen_ok, tagg, h]
  cases d <;> rfl
theorem tagg_und {P : Program} {t : TypeId} (h : tagg P t = true) : ∃ d, P.underlying t = some d := by
  unfold tagg at h
  cases hu : P.underlying t with
  | none => rw [hu] at h; cases h
  | some d => exact ⟨d, rfl⟩
theorem tel_und {P : Program} {t e : TypeId} (h : tel P t = some e) : P.underlying t = some (.slice e) := by
  unfold tel at h
  split at h
  · rename_i e' hu; simp only [Option.some.injEq] at h; subst h; exact hu
  · cases h
theorem tik_und {P : Program} {t : TypeId} {k : IntKind} (h : tik P t = some k) : P.underlying t = some (.int k) := by
  unfold tik at h
  split at h
  · rename_i e' hu; simp only [Option.some.injEq] at h; subst h; exact hu
  · cases h
theorem tstr_und {P : Program} {t : TypeId} (h : tstr P t = true) : P.underlying t = some .string := by
  unfold tstr at h
  split at h
  · assumption
  · cases h
theorem tbool_und {P : Program} {t : TypeId} (h : tbool P t = true) : P.underlying t = some .bool := by
  unfold tbool at h
  split at h
  · assumption
  · cases h
theorem tsz_info {P : Program} {t : TypeId} {i : TypeInfo} (h : P.info? t = some i) : tsz P t = i.size := by simp [tsz, h]
theorem tzero_info {P : Program} {t : TypeId} {z : List Sc} (h : tzero P t = some z) : ∃ i v vs, P.info? t = some i ∧ i.zero = some v ∧ v.cells = List.toArray vs ∧ scs vs = some z := by
  unfold tzero at h
  rw [Option.bind_eq_some_iff] at h
  obtain ⟨i, hi, h⟩ := h
  rw [Option.bind_eq_some_iff] at h
  obtain ⟨v, hv, h⟩ := h
  exact ⟨i, v, v.cells.toList, hi, hv, by simp, h⟩
theorem tzero_some {P : Program} {t : TypeId} {z : List Sc} (h : tzero P t = some z) : (P.info? t).isSome = true := by
  obtain ⟨i, v, vs, hi, _⟩ := tzero_info h
  simp [hi]
theorem tsz_pos {P : Program} {t : TypeId} (h : 0 < tsz P t) : (P.info? t).isSome = true := by
  unfold tsz at h
  cases hi : P.info? t with
  | none => rw [hi] at h; simp at h
  | some i => rfl

/-- What an operation comes to. -/
def Good (β : Be) (s : S) (r : OpR) (w : World) (x : Result Next) : Prop :=
  ∃ β' w', StepR β β' s.hp r.hp w w' ∧ HSim β' r.hp w' ∧ ((∃ v av, x = .ok (.value v) w' ∧ r.v = some av ∧ AVR β' av v) ∨ (x = .ok .skip w' ∧ r.v = none))

theorem good_val {β : Be} {s : S} {w : World} (hs : HSim β s.hp w) {x : Result Next} {v : Value} {av : AV} (hx : x = .ok (.value v) w) (hv : AVR β av v) : Good β s (s.val av) w x :=
  ⟨β, w, StepR.refl β s.hp w hs.len, hs, .inl ⟨v, av, hx, rfl, hv⟩⟩
theorem good_valc {β : Be} {s : S} {w : World} (hs : HSim β s.hp w) {x : Result Next} {v : Value} {av : AV} {c : Prop} (hx : x = .ok (.value v) w) (hv : AVR β av v) : Good β s (s.valc av c) w x :=
  ⟨β, w, StepR.refl β s.hp w hs.len, hs, .inl ⟨v, av, hx, rfl, hv⟩⟩

/-! ### The heap's cells -/
theorem obj_at {β : Be} {h : Hp} {w : World} (hs : HSim β h w) {o : Nat} {ob : AObj} (ho : h[o]? = some (some ob)) {p : Pl} (hp : β[o]? = some (some p)) :
    p.esz = ob.esz ∧ ∃ arr T fz, w.heap[p.blk]? = some (.cells arr T fz) ∧ CellsR β arr p.base ob.esz ob.cs ∧ (ob.own = true → T = ob.ty ∧ fz = (0, 0) ∧ p.base = 0 ∧ p.avail = arr.size) := by
  obtain ⟨q, hq, hr⟩ := hs.ob o ob ho
  rw [hp] at hq
  cases hq
  exact hr
theorem cell_at {w : World} {b off : Nat} {arr : Array Value} {T : TypeId} {fz : Nat × Nat} (h : w.heap[b]? = some (.cells arr T fz)) : w.cell? ⟨b, off, none⟩ = arr[off]? := by simp [World.cell?, h]
/-- The values in the cells of an element from j on. -/
theorem cells_part {β : Be} {arr : Array Value} {base esz : Nat} {cs : List (List Sc)} (hc : CellsR β arr base esz cs) {k : Nat} {c : List Sc} (hk : cs[k]? = some c) (j n : Nat) (hn : j + n ≤ c.length) :
    ∃ vs : List Value, vs.length = n ∧ L2 (ScR β) ((c.drop j).take n) vs ∧ ∀ i v, vs[i]? = some v → arr[base + k * esz + j + i]? = some v := by
  obtain ⟨hl, hcell⟩ := hc k c hk
  refine ⟨(List.range n).map fun i => (arr[base + k * esz + j + i]?).getD undef, by simp, ?_, ?_⟩
  · refine L2.of_get (by simp; omega) fun i x y hx hy => ?_
    have hi : i < n := by
      have := (List.getElem?_eq_some_iff.1 hx).1
      simp at this
      omega
    rw [List.getElem?_take_of_lt hi, List.getElem?_drop] at hx
    obtain ⟨v, hv, hr⟩ := hcell (j + i) x hx
    simp only [List.getElem?_map, List.getElem?_range hi, Option.map_some, Option.some.injEq] at hy
    rw [← Nat.add_assoc] at hv
    rw [hv] at hy
    simp only [Option.getD_some] at hy
    subst hy
    exact hr
  · intro i v hv
    have hi : i < n := by
      have := (List.getElem?_eq_some_iff.1 hv).1
      simpa using this
    simp only [List.getElem?_map, List.getElem?_range hi, Option.map_some, Option.some.injEq] at hv
    have hx : c[j + i]? = some (c[j + i]'(by omega)) := List.getElem?_eq_getElem (by omega)
    obtain ⟨u, hu, _⟩ := hcell (j + i) _ hx
    rw [← Nat.add_assoc] at hu
    rw [hu] at hv ⊢
    simpa using hv
theorem ptr_R {β : Be} {o k j : Nat} {v : Value} (h : ScR β (.pt o k j) v) : ∃ p, β[o]? = some (some p) ∧ v = .pointer (some ⟨p.blk, p.base + k * p.esz + j, none⟩) := h

theorem run_load_agg {P : Program} {β : Be} {s : S} {w : World} (hs : HSim β s.hp w) {o k j : Nat} {ob : AObj} {c : List Sc} {t : TypeId} {v : Value}
    (ho : s.obj o = some ob) (hk : ob.cs[k]? = some c) (ht : tagg P t = true) (hn : j + tsz P t ≤ c.length) (hv : ScR β (.pt o k j) v) :
    ∃ vs : List Value, (Instr.loadAt t v).run P w = .ok (.agg vs.toArray) w ∧ L2 (ScR β) ((c.drop j).take (tsz P t)) vs := by
  obtain ⟨p, hp, rfl⟩ := ptr_R hv
  obtain ⟨he, arr, T, fz, hh, hc, _⟩ := obj_at hs (obj_get ho) hp
  obtain ⟨vs, hl, hr, hcell⟩ := cells_part hc hk j (tsz P t) hn
  obtain ⟨d, hd⟩ := tagg_und ht
  have hinfo : (P.info? t).isSome = true := by
    unfold Program.underlying at hd
    cases hi : P.info? t with
    | none => rw [hi] at hd; simp at hd
    | some i => rfl
  refine ⟨vs, ?_, hr⟩
  have hld := run_loadCells_list (P := P) w ⟨p.blk, p.base + k * p.esz + j, none⟩ vs (fun i u hu => by
    rw [Addr.add_lit, cell_at hh, he]; exact hcell i u hu)
  rw [hl] at hld
  simp only [Instr.loadAt, Instr.sureAddr, loadVar, Sem.run_bind, Sem.run_pure, Result.andThen_ok, run_isAgg' w hd, ht, if_true, run_sizeOf' w hinfo, hld]
theorem run_load_one {P : Program} {β : Be} {s : S} {w : World} (hs : HSim β s.hp w) {o k j : Nat} {ob : AObj} {c : List Sc} {x : Sc} {t : TypeId} {v : Value}
    (ho : s.obj o = some ob) (hk : ob.cs[k]? = some c) (ht : tagg P t = false) (hu : tknown P t = true) (hx : c[j]? = some x) (hv : ScR β (.pt o k j) v) :
    ∃ u, (Instr.loadAt t v).run P w = .ok u w ∧ ScR β x u := by
  obtain ⟨p, hp, rfl⟩ := ptr_R hv
  obtain ⟨he, arr, T, fz, hh, hc, _⟩ := obj_at hs (obj_get ho) hp
  obtain ⟨u, hcell, hr⟩ := (hc k c hk).2 j x hx
  obtain ⟨d, hd⟩ := tknown_und hu
  refine ⟨u, ?_, hr⟩
  have hl : w.cell? ⟨p.blk, p.base + k * p.esz + j, none⟩ = some u := by rw [cell_at hh, he]; exact hcell
  simp [Instr.loadAt, Instr.sureAddr, loadVar, run_isAgg' w hd, ht, hl]

/-! ### A new block -/
theorem cellsR_rows {β : Be} {cs : List (List Sc)} {esz : Nat} {arr : Array Value} (hl : ∀ c ∈ cs, c.length = esz) (h : ∀ (k j : Nat) (c : List Sc) (s : Sc), cs[k]? = some c → c[j]? = some s → ∃ v, arr[k * esz + j]? = some v ∧ ScR β s v) : CellsR β arr 0 esz cs :=
  fun k c hk => ⟨hl c (List.mem_of_getElem? hk), fun j s hs => by rw [Nat.zero_add]; exact h k j c s hk hs⟩
theorem cellsR_one {β : Be} {c : List Sc} {vs : List Value} (h : L2 (ScR β) c vs) : CellsR β vs.toArray 0 c.length [c] :=
  cellsR_rows (by simp) (fun k j c' s hk hs => by
    have hk0 : k = 0 := by have := (List.getElem?_eq_some_iff.1 hk).1; simpa using this
    subst hk0
    simp only [List.getElem?_cons_zero, Option.some.injEq] at hk
    subst hk
    obtain ⟨v, hv, hr⟩ := h.get hs
    exact ⟨v, by simpa using hv, hr⟩)
theorem like_alloc (w : World) (o : Obj) : World.like w (w.alloc o) := ⟨rfl, rfl, rfl⟩
theorem old_alloc (w : World) (o : Obj) : ∀ k, k < w.heap.size → (w.alloc o).heap[k]? = w.heap[k]? := fun k hk => heap_alloc_old w o k hk
/-- A new object in a new block at the heap's end. -/
theorem good_new {β : Be} {s : S} {w : World} (hs : HSim β s.hp w) {arr : Array Value} {ob : AObj} {av : AV} {v : Value} {x : Result Next} {c : Prop}
    (hx : x = .ok (.value v) (w.alloc (.cells arr ob.ty))) (hc : CellsR β arr 0 ob.esz ob.cs) (hfl : ob.fl = true → FlatL ob.cs)
    (hv : AVR (β ++ [some ⟨w.heap.size, 0, ob.esz, arr.size⟩]) av v) : Good β s ⟨some av, s.hp ++ [some ob], c⟩ w x := by
  let p : Pl := ⟨w.heap.size, 0, ob.esz, arr.size⟩
  have hle := Be.le_append β [some p]
  refine ⟨β ++ [some p], w.alloc (.cells arr ob.ty), stepR_alloc hs.len (like_alloc w _) (by simp) (old_alloc w _) p ob (Nat.le_refl _), hsim_alloc hs (old_alloc w _) (Nat.le_refl _) ?_ hfl, .inl ⟨v, av, hx, rfl, hv⟩⟩
  exact ⟨rfl, arr, ob.ty, (0, 0), heap_alloc_new w _, hc.mono hle, fun _ => ⟨rfl, rfl, rfl, rfl⟩⟩
theorem pt_new {β : Be} {s : S} {w : World} (hs : HSim β s.hp w) (esz n : Nat) : ScR (β ++ [some ⟨w.heap.size, 0, esz, n⟩]) (.pt s.hp.length 0 0) (.pointer (some ⟨w.heap.size, 0, none⟩)) :=
  ⟨⟨w.heap.size, 0, esz, n⟩, by rw [← hs.len]; simp, by simp⟩
theorem sl_new {β : Be} {s : S} {w : World} (hs : HSim β s.hp w) (esz n len cap : Nat) (h1 : len ≤ cap) (h2 : cap ≤ maxLen) (h3 : cap * esz ≤ n) :
    ScR (β ++ [some ⟨w.heap.size, 0, esz, n⟩]) (.sl s.hp.length 0 len) (.slice (some ⟨w.heap.size, 0, none⟩) len cap) :=
  ⟨_, cap, rfl, h1, h2, .inr ⟨⟨w.heap.size, 0, esz, n⟩, by rw [← hs.len]; simp, by simp, by simpa using h3⟩⟩
end Go.Proofs.YtoghbjbfldlfpaaGreat
