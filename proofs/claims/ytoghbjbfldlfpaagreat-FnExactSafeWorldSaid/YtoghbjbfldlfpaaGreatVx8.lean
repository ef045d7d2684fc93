/-
  VX, part 8: append; and every operation at once.
-/
import Derived.Test.YtoghbjbfldlfpaaGreatVx7
namespace Go.Proofs.YtoghbjbfldlfpaaGreat
open Go.RowKit
set_option linter.unusedVariables false
set_option linter.unusedSimpArgs false

section
variable {P : Program} {β : Be} {s : S} {a : Act} {w : World} {o : Oper} {r : OpR} {ty : TypeId}

theorem run_append_zero {t e : TypeId} (ht : tel P t = some e) (hi : (P.info? e).isSome = true) (ty : TypeId) (ad ad' : Option Addr) (n c' c : Nat) (h : n ≤ c') :
    (Builtin.append_ #[t, t] ty #[.slice ad' n c', .slice ad 0 c]).run P w = .ok (.slice ad' n c') w := by
  obtain ⟨i, hi⟩ := Option.isSome_iff_exists.1 hi
  cases ad <;> cases ad' <;> simp [Builtin.append_, run_underlying (tel_und ht), sizeOf, typeInfo, hi, Builtin.lenOf, h, Builtin.firstCells, loadCells, loadCellsFrom, storeCells]
/-- The cells of a window, as values. -/
theorem window_vals {arr : Array Value} {base esz : Nat} {cs : List (List Sc)} (hc : CellsR β arr base esz cs) (off len : Nat) (hb : off + len ≤ cs.length) :
    ∃ news : List Value, news.length = len * esz ∧ (∀ j u, news[j]? = some u → arr[base + off * esz + j]? = some u) ∧ (∀ u ∈ news, u.oneCell' = true) ∧
      (∀ k c, ((cs.drop off).take len)[k]? = some c → c.length = esz ∧ ∀ j x, c[j]? = some x → ∃ v, news[k * esz + j]? = some v ∧ ScR β x v) := by
  have key : ∀ i, i < len * esz → ∃ v x, arr[base + off * esz + i]? = some v ∧ ScR β x v := by
    intro i hi
    have hpos : 0 < esz := by
      rcases Nat.eq_zero_or_pos esz with h | h
      · subst h; simp at hi
      · exact h
    have hk : i / esz < len := Nat.div_lt_of_lt_mul (by rw [Nat.mul_comm]; exact hi)
    obtain ⟨c, x, v, _, _, h3, h4⟩ := window_cell hc hb hk (Nat.mod_lt i hpos)
    refine ⟨v, x, ?_, h4⟩
    rw [← h3]
    congr 1
    have := Nat.div_add_mod i esz
    rw [Nat.add_mul]
    rw [Nat.mul_comm esz] at this
    omega
  refine ⟨(List.range (len * esz)).map fun i => (arr[base + off * esz + i]?).getD undef, by simp, ?_, ?_, ?_⟩
  · intro j u hu
    have hj : j < len * esz := by have := (List.getElem?_eq_some_iff.1 hu).1; simpa using this
    simp only [List.getElem?_map, List.getElem?_range hj, Option.map_some, Option.some.injEq] at hu
    obtain ⟨v, x, hv, _⟩ := key j hj
    rw [hv] at hu ⊢
    simpa using hu
  · intro u hu
    simp only [List.mem_map, List.mem_range] at hu
    obtain ⟨i, hi, rfl⟩ := hu
    obtain ⟨v, x, hv, hr⟩ := key i hi
    rw [hv]
    exact hr.one
  · intro k c hk
    have hkl : k < len := by have := (List.getElem?_eq_some_iff.1 hk).1; simp at this; omega
    rw [List.getElem?_take_of_lt hkl, List.getElem?_drop] at hk
    obtain ⟨hl, hcell⟩ := hc _ _ hk
    refine ⟨hl, fun j x hj => ?_⟩
    obtain ⟨v, hv, hr⟩ := hcell j x hj
    have hjl : j < esz := by have := (List.getElem?_eq_some_iff.1 hj).1; omega
    have hlt : k * esz + j < len * esz := by
      have : (k + 1) * esz ≤ len * esz := Nat.mul_le_mul_right _ hkl
      rw [Nat.add_mul] at this
      omega
    refine ⟨v, ?_, hr⟩
    simp only [List.getElem?_map, List.getElem?_range hlt, Option.map_some]
    rw [show base + off * esz + (k * esz + j) = base + (off + k) * esz + j from by rw [Nat.add_mul]; omega, hv]
    rfl
/-- Two runs of elements, one behind the other. -/
theorem cellsR_append {arr : Array Value} {esz : Nat} {cs ds : List (List Sc)} {olds news : List Value} (ho : olds.length = cs.length * esz)
    (h1 : ∀ (k : Nat) (c : List Sc), cs[k]? = some c → c.length = esz ∧ ∀ (j : Nat) (x : Sc), c[j]? = some x → ∃ v, olds[k * esz + j]? = some v ∧ ScR β x v)
    (h2 : ∀ (k : Nat) (c : List Sc), ds[k]? = some c → c.length = esz ∧ ∀ (j : Nat) (x : Sc), c[j]? = some x → ∃ v, news[k * esz + j]? = some v ∧ ScR β x v)
    (ha : ∀ (i : Nat) (v : Value), (olds ++ news)[i]? = some v → arr[i]? = some v) : CellsR β arr 0 esz (cs ++ ds) := by
  intro k c hk
  rcases Nat.lt_or_ge k cs.length with hlt | hge
  · rw [List.getElem?_append_left hlt] at hk
    obtain ⟨hl, hc⟩ := h1 k c hk
    refine ⟨hl, fun j x hj => ?_⟩
    obtain ⟨v, hv, hr⟩ := hc j x hj
    refine ⟨v, ?_, hr⟩
    rw [Nat.zero_add]
    refine ha _ _ ?_
    rw [List.getElem?_append_left (List.getElem?_eq_some_iff.1 hv).1]
    exact hv
  · rw [List.getElem?_append_right hge] at hk
    obtain ⟨hl, hc⟩ := h2 _ c hk
    refine ⟨hl, fun j x hj => ?_⟩
    obtain ⟨v, hv, hr⟩ := hc j x hj
    refine ⟨v, ?_, hr⟩
    rw [Nat.zero_add]
    refine ha _ _ ?_
    have e : k * esz + j = olds.length + ((k - cs.length) * esz + j) := by
      have : k * esz = (cs.length + (k - cs.length)) * esz := by congr 1; omega
      rw [Nat.add_mul] at this
      omega
    rw [e, List.getElem?_append_right (by omega), Nat.add_sub_cancel_left]
    exact hv
/-- A kill, then a new object in a new block. -/
theorem stepR_kill (hl : β.length = s.hp.length) (n : Nat) : StepR β β s.hp (s.hp.set n none) w w :=
  ⟨Be.le.refl _, rfl, rfl, rfl, Nat.le_refl _, fun _ _ _ => rfl, by simp, fun o ob' hlt ho => by
    rw [List.getElem?_set] at ho
    split at ho
    · split at ho <;> cases ho
    · exact ⟨ob', ho, id⟩, fun o ob p hge ho _ => by
    rw [List.getElem?_eq_none (by simpa using hge)] at ho
    cases ho⟩
/-- An object's block taken over by another object. -/
theorem reuse_get {h : Hp} {n : Nat} {new : AObj} {o : Nat} {x : AObj} (hx : (h.set n none ++ [some new])[o]? = some (some x)) : (o < h.length ∧ o ≠ n ∧ h[o]? = some (some x)) ∨ (o = h.length ∧ x = new) := by
  have hl : (h.set n none).length = h.length := by simp
  rcases Nat.lt_trichotomy o h.length with hlt | he | hgt
  · rw [List.getElem?_append_left (by omega), List.getElem?_set] at hx
    split at hx
    · split at hx <;> cases hx
    · rename_i hne
      exact .inl ⟨hlt, Ne.symm hne, hx⟩
  · subst he
    rw [List.getElem?_append_right (by omega)] at hx
    simp at hx
    exact .inr ⟨rfl, hx.symm⟩
  · rw [List.getElem?_append_right (by omega), List.getElem?_eq_none (by simp; omega)] at hx
    cases hx
theorem hsim_reuse {h : Hp} (hs : HSim β h w) {n : Nat} {ob : AObj} {p : Pl} (ho : h[n]? = some (some ob)) (hown : ob.own = true) (hp : β[n]? = some (some p)) {w' : World} {arr' : Array Value} {T : TypeId}
    (hh : w'.heap[p.blk]? = some (.cells arr' T (0, 0))) (hk : ∀ k, k ≠ p.blk → w'.heap[k]? = w.heap[k]?) (new : AObj) (he : p.esz = new.esz) (hc : CellsR (β ++ [some p]) arr' 0 new.esz new.cs) (hT : T = new.ty) (hbase : p.base = 0) (hav : p.avail = arr'.size) (hfl : new.fl = true → FlatL new.cs) :
    HSim (β ++ [some p]) (h.set n none ++ [some new]) w' := by
  have hle := Be.le_append β [some p]
  have kb : ∀ {o : Nat} {q : Option Pl}, o < h.length → (β ++ [some p])[o]? = some q → β[o]? = some q := by
    intro o q ho hq
    rwa [List.getElem?_append_left (by rw [hs.len]; exact ho)] at hq
  have kn : (β ++ [some p])[h.length]? = some (some p) := by rw [← hs.len]; simp
  refine ⟨by simp [hs.len], fun o x hx => ?_, fun o x hx hf => by rcases reuse_get hx with ⟨_, _, hx⟩ | ⟨_, rfl⟩; exact hs.flat o x hx hf; exact hfl hf, fun o o' x x' q q' hx hx' hxo hq hq' hne => ?_⟩
  · rcases reuse_get hx with ⟨hlt, hne, hx⟩ | ⟨rfl, rfl⟩
    · obtain ⟨q, hq, hr⟩ := hs.ob o x hx
      refine ⟨q, hle _ _ hq, (hr.world fun q' hq' => ?_).mono hle⟩
      subst hq'
      exact hk _ (hs.apart n o ob x p q' ho hx hown hp hq (Ne.symm hne)).symm
    · exact ⟨some p, kn, he, arr', T, (0, 0), hh, by rw [hbase]; exact hc, fun _ => ⟨hT, rfl, hbase, hav⟩⟩
  · rcases reuse_get hx with ⟨hlt, h1, h1'⟩ | ⟨rfl, rfl⟩
    · rcases reuse_get hx' with ⟨hlt', h2, h2'⟩ | ⟨rfl, rfl⟩
      · exact hs.apart o o' x x' q q' h1' h2' hxo (kb hlt hq) (kb hlt' hq') hne
      · rw [kn] at hq'
        simp only [Option.some.injEq] at hq'
        subst hq'
        exact (hs.apart n o ob x p q ho h1' hown hp (kb hlt hq) (Ne.symm h1)).symm
    · rw [kn] at hq
      simp only [Option.some.injEq] at hq
      subst hq
      rcases reuse_get hx' with ⟨hlt', h2, h2'⟩ | ⟨rfl, rfl⟩
      · exact hs.apart n o' ob x' p q' ho h2' hown hp (kb hlt' hq') (Ne.symm h2)
      · exact absurd rfl hne
theorem stepR_reuse {h : Hp} (hs : HSim β h w) {n : Nat} (hn : n < h.length) {ob : AObj} {p : Pl} (ho : h[n]? = some (some ob)) (hown : ob.own = true) (hp : β[n]? = some (some p)) {w' : World}
    (hlike : World.like w w') (hsz : w.heap.size ≤ w'.heap.size) (hk : ∀ k, k ≠ p.blk → w'.heap[k]? = w.heap[k]?) (new : AObj) : StepR β (β ++ [some p]) h (h.set n none ++ [some new]) w w' :=
  ⟨Be.le_append _ _, hlike.1, hlike.2.1, hlike.2.2, hsz, fun k _ hno => hk k (fun hb => hno ⟨n, ob, p, ho, hown, hp, hb.symm⟩), by simp, fun o ob' hlt ho' => by
    rcases reuse_get ho' with ⟨_, _, h1⟩ | ⟨rfl, _⟩
    · exact ⟨ob', h1, id⟩
    · omega, fun o ob' q hge ho' hq => by
    rcases reuse_get ho' with ⟨h1, _, _⟩ | ⟨rfl, _⟩
    · omega
    · rw [← hs.len] at hq
      simp at hq
      subst hq
      exact .inl ⟨n, ob, p, ho, hown, hp, rfl⟩⟩
theorem execOp_append (x y : Operand) (t : TypeId) (ho : o.op = .call ⟨.builtin .append, #[x, y], #[t, t]⟩) {v : Value} {w' : World} (h : (Builtin.append_ #[t, t] o.type #[a.eval x, a.eval y]).run P w = .ok v w') : (execOp a.eval o).run P w = .ok (.value v) w' := by
  unfold execOp
  rw [ho]
  simp only [resolve, invoke, builtin, Sem.run_bind, Sem.run_pure, Result.andThen_ok, List.map_toArray, List.map_cons, List.map_nil, h]

/-- The grown row in a new block. -/
theorem good_grow {h h' : Hp} (hs : HSim β h w) (hs' : HSim β h' w) (hst : StepR β β h h' w w) {t e : TypeId} {i : TypeInfo} {z : Value} (ht : tel P t = some e) (hi : P.info? e = some i) (hz : i.zero = some z) (hzs : z.cells.size = i.size)
    {ad' : Option Addr} {n cap' : Nat} {olds : List Value} (hlo : olds.length = n * i.size) (holds : (ad' = none ∧ n = 0) ∨ ∃ b, ad' = some b ∧ ∀ j v, olds[j]? = some v → w.cell? (b.add j) = some v) (hnn : ad' = none → n = 0 ∧ cap' = 0)
    {b : Addr} {m c : Nat} {news : List Value} (hl : news.length = m * i.size) (hnews : ∀ j v, news[j]? = some v → w.cell? (b.add j) = some v) (hg : cap' < n + m) (hm : 0 < m) (hsm : n + m ≤ 1073741824) (hby : i.bytes ≤ 131072)
    {cs : List (List Sc)} {fl : Bool} (hcs : CellsR β (olds ++ news).toArray 0 i.size cs) (hfl : fl = true → FlatL cs) (ty : TypeId) :
    ∃ β' w' v, (Builtin.append_ #[t, t] ty #[.slice ad' n cap', .slice (some b) m c]).run P w = .ok v w' ∧ StepR β β' h (h' ++ [some ⟨cs, i.size, e, true, fl⟩]) w w' ∧ HSim β' (h' ++ [some ⟨cs, i.size, e, true, fl⟩]) w' ∧ ScR β' (.sl h'.length 0 (n + m)) v := by
  have hbytes : (n + m) * i.bytes ≤ 140737488355328 := by
    have : (n + m) * i.bytes ≤ 1073741824 * 131072 := Nat.mul_le_mul hsm hby
    omega
  have hge := grownCap_ge w (n + m) cap' e
  have hcm : grownCap w (n + m) cap' e ≤ maxLen := grownCap_le_maxLen w (n + m) cap' e (by unfold maxLen; omega)
  have hrun : (Builtin.append_ #[t, t] ty #[.slice ad' n cap', .slice (some b) m c]).run P w =
      .ok (.slice (some ⟨w.heap.size, 0, none⟩) (n + m) (grownCap w (n + m) cap' e)) (w.drew.alloc (.cells (olds.toArray ++ news.toArray ++ Builtin.zeroCells z.cells (grownCap w (n + m) cap' e - (n + m))) e)) := by
    cases ad' with
    | none =>
      obtain ⟨rfl, rfl⟩ := hnn rfl
      have ho0 : olds = [] := List.eq_nil_of_length_eq_zero (by simpa using hlo)
      subst ho0
      have := run_append_nil (P := P) w t ty e i z (tel_und ht) hi hz b m c news hl hnews hm (by omega) (by have hb := hbytes; simp only [Nat.zero_add] at hb; omega)
      simp only [Nat.zero_add, Array.empty_append] at this ⊢
      exact this
    | some b' =>
      rcases holds with ⟨h0, _⟩ | ⟨b'', hb'', hold⟩
      · cases h0
      · cases hb''
        exact run_append_grow (P := P) w t ty e i z (tel_und ht) hi hz b' n cap' olds hlo hold b m c news hl hnews hg (by omega) (growslice_fits hg hbytes)
  let arr : Array Value := olds.toArray ++ news.toArray ++ Builtin.zeroCells z.cells (grownCap w (n + m) cap' e - (n + m))
  have hsize : arr.size = grownCap w (n + m) cap' e * i.size := by
    show (olds.toArray ++ news.toArray ++ Builtin.zeroCells z.cells (grownCap w (n + m) cap' e - (n + m))).size = _
    simp only [Array.size_append, List.size_toArray, size_zeroCells, hzs, hlo, hl, ← Nat.add_mul]
    congr 1
    omega
  let p : Pl := ⟨w.heap.size, 0, i.size, arr.size⟩
  let w' : World := w.drew.alloc (.cells arr e)
  have hle := Be.le_append β [some p]
  have hlike : World.like w w' := ⟨rfl, rfl, rfl⟩
  have hold' : ∀ k, k < w.heap.size → w'.heap[k]? = w.heap[k]? := fun k hk => heap_alloc_old w.drew _ k hk
  have hca : CellsR β arr 0 i.size cs := by
    intro k c hk
    obtain ⟨h1, h2⟩ := hcs k c hk
    refine ⟨h1, fun j x hj => ?_⟩
    obtain ⟨v, hv, hr⟩ := h2 j x hj
    refine ⟨v, ?_, hr⟩
    have hv' : (olds.toArray ++ news.toArray)[0 + k * i.size + j]? = some v := by
      rw [List.append_toArray]; exact hv
    show (olds.toArray ++ news.toArray ++ Builtin.zeroCells z.cells (grownCap w (n + m) cap' e - (n + m)))[0 + k * i.size + j]? = some v
    rw [Array.getElem?_append_left (Array.getElem?_eq_some_iff.1 hv').1]
    exact hv'
  have hsz' : w.heap.size ≤ w'.heap.size := by
    show w.heap.size ≤ (w.drew.alloc _).heap.size
    simp
  refine ⟨β ++ [some p], w', _, hrun, ?_, ?_, ?_⟩
  · exact StepR.trans hs.len hs'.len hst (stepR_alloc hs'.len hlike hsz' hold' p _ (Nat.le_refl _))
  · exact hsim_alloc hs' hold' (Nat.le_refl _) ⟨rfl, arr, e, (0, 0), heap_alloc_new w.drew _, hca.mono hle, fun _ => ⟨rfl, rfl, rfl, rfl⟩⟩ hfl
  · exact ⟨_, _, rfl, hge, hcm, .inr ⟨p, by rw [← hs'.len]; simp, by simp [p], by simp [p, hsize]⟩⟩

theorem op_append (hs : HSim β s.hp w) (hsl : SlotsR β s.sl a.tmps) (args : Array Operand) (at_ : Array TypeId) (ho : o.op = .call ⟨.builtin .append, args, at_⟩) (h : aop P s ty (.call ⟨.builtin .append, args, at_⟩) = some r) (hc : r.c) : Good β s r w ((execOp a.eval o).run P w) := by
  simp only [aop] at h
  split at h
  · rename_i x y t t' ha ht
    have ha' := isEmpty_two ha
    have ht' := isEmpty_two ht
    subst ha'; subst ht'
    split at h
    · rename_i htt
      subst htt
      split at h
      · rename_i u v hx hy
        have hvx := ev_R hsl hx
        have hvy := ev_R hsl hy
        unfold aAppend at h
        split at h
        · cases h
        · rename_i e sz he0
          obtain ⟨he, _, rfl⟩ := tsl_facts he0
          split at h
          · cases h
          · rename_i z hz0
            obtain ⟨hz, hzl, hpos, _, hby, _⟩ := tz_facts hz0
            · obtain ⟨i, zv, zs, hi, hzv, hvc, hsc⟩ := tzero_info hz
              have hti := tsz_info hi
              have hinfo : (P.info? e).isSome = true := by simp [hi]
              have hzs : zv.cells.size = i.size := by
                have := (scs_R β hsc).length
                rw [hvc]; simp; omega
              have hby' : i.bytes ≤ 131072 := by
                have : tby P e = i.bytes := by simp [tby, hi]
                omega
              split at h
              · -- a slice and nil
                rename_i n off len
                simp only [Option.some.injEq] at h
                subst h
                have hv1 : ScR β (.sl n off len) (a.eval x) := hvx
                obtain ⟨ad, hye⟩ : ScR β .nil (a.eval y) := hvy
                obtain ⟨ad', cap', hxe, hlc, hrest⟩ := hv1
                exact good_val hs (execOp_append x y t ho (by rw [hxe, hye]; exact run_append_zero he hinfo _ _ _ _ _ _ hlc)) ⟨ad', cap', rfl, hlc, hrest⟩
              · simp only [Option.some.injEq] at h
                subst h
                obtain ⟨ad', hxe⟩ : ScR β .nil (a.eval x) := hvx
                obtain ⟨ad, hye⟩ : ScR β .nil (a.eval y) := hvy
                exact good_val hs (execOp_append x y t ho (by rw [hxe, hye]; exact run_append_zero he hinfo _ _ _ _ _ _ (Nat.le_refl _))) ⟨ad', rfl⟩
              · rename_i n off len
                obtain ⟨ad', hxe⟩ : ScR β .nil (a.eval x) := hvx
                obtain ⟨ad, cap, hye, hlc, hcm, hor⟩ : ScR β (.sl n off len) (a.eval y) := hvy
                split at h
                · rename_i ob hob
                  split at h
                  · rename_i hesz
                    simp only [Option.some.injEq] at h
                    subst h
                    obtain ⟨hb, hsm⟩ : off + len ≤ ob.cs.length ∧ len ≤ 1073741824 := hc
                    by_cases hl0 : len = 0
                    · subst hl0
                      refine ⟨β ++ [none], w, ?_, hsim_none hs (by simp), .inl ⟨_, _, execOp_append x y t ho (by rw [hxe, hye]; exact run_append_zero he hinfo _ _ _ _ _ _ (Nat.le_refl _)), rfl, ⟨ad', 0, rfl, Nat.le_refl _, Nat.zero_le _, .inl rfl⟩⟩⟩
                      exact ⟨Be.le_append _ _, rfl, rfl, rfl, Nat.le_refl _, fun _ _ _ => rfl, by simp, fun o ob' hlt ho => by
                        rw [List.getElem?_append_left hlt] at ho; exact ⟨ob', ho, id⟩, fun o ob' q hge ho hq => by
                        exfalso
                        have he : o = s.hp.length := by
                          rcases Nat.lt_trichotomy o s.hp.length with h1 | h1 | h1
                          · omega
                          · exact h1
                          · rw [List.getElem?_append_right (by omega), List.getElem?_eq_none (by simp; omega)] at ho; cases ho
                        subst he
                        rw [← hs.len] at hq
                        simp at hq⟩
                    · rcases hor with hcap | ⟨p, hp, rfl, hav⟩
                      · omega
                      · obtain ⟨he', arr, T, fz, hh, hcr, _⟩ := obj_at hs (obj_get hob) hp
                        obtain ⟨news, hnl, hnc, hn1, hnr⟩ := window_vals hcr off len hb
                        rw [hesz, hti] at hnl hnr hnc
                        obtain ⟨β', w', v, hrun, hst, hsim, hr⟩ := good_grow (P := P) hs hs (StepR.refl β s.hp w hs.len) he hi hzv hzs (ad' := ad') (n := 0) (cap' := 0) (olds := []) (by simp) (by
                          cases ad' with
                          | none => exact .inl ⟨rfl, rfl⟩
                          | some b => exact .inr ⟨b, rfl, by simp⟩) (fun _ => ⟨rfl, rfl⟩) (b := ⟨p.blk, p.base + off * p.esz, none⟩) (m := len) (c := cap) hnl (fun j u hu => by
                            rw [Addr.add_lit, cell_at hh, he', hesz, hti]; exact hnc j u hu) (by omega) (by omega) (by omega) hby' (cs := (ob.cs.drop off).take len) (by
                            have := cellsR_append (arr := ([] ++ news).toArray) (cs := []) (ds := (ob.cs.drop off).take len) (olds := []) (news := news) (esz := i.size) (by simp) (by simp) hnr (fun i v hv => by simpa using hv)
                            simpa using this) (fl := ob.fl) (fun hf c hm => hs.flat n ob (obj_get hob) hf c (List.mem_of_mem_drop (List.mem_of_mem_take hm))) o.type
                        rw [Nat.zero_add] at hr
                        refine ⟨β', w', ?_, ?_, .inl ⟨v, _, execOp_append x y t ho (by rw [hxe, hye]; exact hrun), rfl, hr⟩⟩
                        · rw [hti]; exact hst
                        · rw [hti]; exact hsim
                  · cases h
                · cases h
              · rename_i n' off' len' n off len
                obtain ⟨ad', cap', hxe, hlc', hcm', hor'⟩ : ScR β (.sl n' off' len') (a.eval x) := hvx
                obtain ⟨ad, cap, hye, hlc, hcm, hor⟩ : ScR β (.sl n off len) (a.eval y) := hvy
                split at h
                · rename_i ob' ob hob' hob
                  split at h
                  · rename_i hcond2
                    obtain ⟨hesz, hesz', hown, hty, hoff, hne⟩ := hcond2
                    subst hoff
                    simp only [Option.some.injEq] at h
                    subst h
                    obtain ⟨hcl, hb, hsm⟩ : ob'.cs.length = len' ∧ off + len ≤ ob.cs.length ∧ len' + len ≤ 1073741824 := hc
                    have hflat : (ob'.fl && ob.fl) = true → FlatL (ob'.cs ++ (ob.cs.drop off).take len) := fun hf c hm => by
                      simp only [Bool.and_eq_true] at hf
                      rcases List.mem_append.1 hm with hm | hm
                      · exact hs.flat n' ob' (obj_get hob') hf.1 c hm
                      · exact hs.flat n ob (obj_get hob) hf.2 c (List.mem_of_mem_drop (List.mem_of_mem_take hm))
                    have hkill := hsim_kill hs n'
                    have hstk := stepR_kill (w := w) hs.len n' (s := s)
                    have hlen' : (s.hp.set n' none).length = s.hp.length := by simp
                    have hn' : n' < s.hp.length := (List.getElem?_eq_some_iff.1 (obj_get hob')).1
                    -- where the old row lies
                    have hplace : (cap' = 0 ∧ len' = 0 ∧ ob'.cs = []) ∨ ∃ p', β[n']? = some (some p') ∧ ad' = some ⟨p'.blk, p'.base + 0 * p'.esz, none⟩ ∧ (0 + cap') * p'.esz ≤ p'.avail := by
                      rcases hor' with h0 | h0
                      · exact .inl ⟨h0, by omega, List.eq_nil_of_length_eq_zero (by omega)⟩
                      · exact .inr h0
                    by_cases hl0 : len = 0
                    · subst hl0
                      have hrun := run_append_zero (P := P) (w := w) he hinfo o.type ad ad' len' cap' cap hlc'
                      rcases hplace with ⟨hc0, hl0', hcs0⟩ | ⟨p', hp', had', hav'⟩
                      · subst hc0; subst hl0'
                        refine ⟨β ++ [none], w, ?_, hsim_none hkill (by simp [hcs0]), .inl ⟨_, _, execOp_append x y t ho (by rw [hxe, hye]; exact hrun), rfl, ⟨ad', 0, rfl, Nat.le_refl _, Nat.zero_le _, .inl rfl⟩⟩⟩
                        refine StepR.trans hs.len hkill.len hstk ⟨Be.le_append _ _, rfl, rfl, rfl, Nat.le_refl _, fun _ _ _ => rfl, by simp, fun o ob' hlt ho => by
                          rw [List.getElem?_append_left hlt] at ho; exact ⟨ob', ho, id⟩, fun o ob' q hge ho hq => by
                          exfalso
                          have he : o = (s.hp.set n' none).length := by
                            rcases Nat.lt_trichotomy o (s.hp.set n' none).length with h1 | h1 | h1
                            · omega
                            · exact h1
                            · rw [List.getElem?_append_right (by omega), List.getElem?_eq_none (by simp at h1 ⊢; omega)] at ho; cases ho
                          subst he
                          rw [← hkill.len] at hq
                          simp at hq⟩
                      · obtain ⟨he', arr, T, fz, hh, hcr, hown'⟩ := obj_at hs (obj_get hob') hp'
                        obtain ⟨hT, hf0, hbase, hav⟩ := hown' hown
                        subst hf0
                        have hcr' : CellsR β arr 0 (tsz P e) (ob'.cs ++ (ob.cs.drop off).take 0) := by
                          rw [List.take_zero, List.append_nil, ← hesz', ← hbase]; exact hcr
                        refine ⟨β ++ [some p'], w, ?_, ?_, .inl ⟨_, _, execOp_append x y t ho (by rw [hxe, hye]; exact hrun), rfl, ?_⟩⟩
                        · exact stepR_reuse hs hn' (obj_get hob') hown hp' (w' := w) ⟨rfl, rfl, rfl⟩ (Nat.le_refl _) (fun k _ => rfl) _
                        · exact hsim_reuse hs (obj_get hob') hown hp' (w' := w) (arr' := arr) (T := T) (by simpa using hh) (fun k _ => rfl) ⟨_, tsz P e, e, true, ob'.fl && ob.fl⟩ (by rw [he', hesz']) (hcr'.mono (Be.le_append _ _)) (by rw [hT, hty]) hbase hav hflat
                        · refine ⟨ad', cap', by rw [Nat.add_zero], by omega, hcm', .inr ⟨p', by rw [← hs.len]; simp, had', hav'⟩⟩
                    · rcases hor with hcap | ⟨p, hp, rfl, hav⟩
                      · omega
                      · obtain ⟨hep, arr, T, fz, hh, hcr, _⟩ := obj_at hs (obj_get hob) hp
                        obtain ⟨news, hnl, hnc, hn1, hnr⟩ := window_vals hcr off len hb
                        rw [hesz] at hnl hnr hnc
                        have hnews : ∀ j u, news[j]? = some u → w.cell? ((⟨p.blk, p.base + off * p.esz, none⟩ : Addr).add j) = some u := fun j u hu => by
                          rw [Addr.add_lit, cell_at hh, hep, hesz]; exact hnc j u hu
                        by_cases hroom : len' + len ≤ cap'
                        · rcases hplace with ⟨hc0, _, _⟩ | ⟨p', hp', had', hav'⟩
                          · omega
                          · obtain ⟨hep', arr', T', fz', hh', hcr', hown'⟩ := obj_at hs (obj_get hob') hp'
                            obtain ⟨hT, hf0, hbase, havl⟩ := hown' hown
                            subst hf0
                            have hfit : len' * i.size + news.length ≤ arr'.size := by
                              have h1 : (len' + len) * i.size ≤ cap' * i.size := Nat.mul_le_mul_right _ hroom
                              rw [Nat.add_mul] at h1
                              rw [Nat.zero_add, hep', hesz', hti] at hav'
                              rw [hnl, hti]
                              omega
                            have hrun := run_append_room (P := P) w t o.type e i (tel_und he) hi p'.blk len' cap' arr' (by rw [← hT.trans hty]; exact hh') ⟨p.blk, p.base + off * p.esz, none⟩ len cap news (by rw [hnl, hti]) hnews hn1 hroom hfit
                            let arr2 : Array Value := (arr'.toList.take (len' * i.size) ++ news ++ arr'.toList.drop (len' * i.size + news.length)).toArray
                            have hsz2 : arr2.size = arr'.size := by
                              show ((arr'.toList.take (len' * i.size) ++ news ++ arr'.toList.drop (len' * i.size + news.length)).toArray).size = _
                              simp
                              omega
                            have hcr2 : CellsR β arr2 0 (tsz P e) (ob'.cs ++ (ob.cs.drop off).take len) := by
                              refine cellsR_append (olds := arr'.toList.take (len' * i.size)) (news := news) ?_ ?_ hnr ?_
                              · simp
                                rw [hcl, hti]
                                omega
                              · intro k c hk
                                obtain ⟨h1, h2⟩ := hcr' k c hk
                                refine ⟨by rw [h1, hesz'], fun j q hj => ?_⟩
                                obtain ⟨v, hv, hr⟩ := h2 j q hj
                                refine ⟨v, ?_, hr⟩
                                rw [hbase, Nat.zero_add, hesz'] at hv
                                have hkl : k < len' := by rw [← hcl]; exact (List.getElem?_eq_some_iff.1 hk).1
                                have hjl : j < tsz P e := by have := (List.getElem?_eq_some_iff.1 hj).1; omega
                                have : k * tsz P e + j < len' * i.size := by
                                  have h3 : (k + 1) * tsz P e ≤ len' * tsz P e := Nat.mul_le_mul_right _ hkl
                                  rw [Nat.add_mul] at h3
                                  rw [← hti]
                                  omega
                                rw [List.getElem?_take_of_lt this, Array.getElem?_toList]
                                exact hv
                              · intro q v hv
                                show ((arr'.toList.take (len' * i.size) ++ news ++ arr'.toList.drop (len' * i.size + news.length)).toArray)[q]? = some v
                                rw [List.getElem?_toArray, List.getElem?_append_left (List.getElem?_eq_some_iff.1 hv).1]
                                exact hv
                            refine ⟨β ++ [some p'], w.setRow p'.blk arr2, ?_, ?_, .inl ⟨_, _, execOp_append x y t ho (by rw [hxe, hye, had', hbase, Nat.zero_mul]; exact hrun), rfl, ?_⟩⟩
                            · exact stepR_reuse hs hn' (obj_get hob') hown hp' (w' := w.setRow p'.blk arr2) ⟨rfl, rfl, rfl⟩ (by simp) (fun k hk => setRow_other w p'.blk k arr2 hk) _
                            · exact hsim_reuse hs (obj_get hob') hown hp' (w' := w.setRow p'.blk arr2) (arr' := arr2) (T := T') (setRow_heap w p'.blk arr' arr2 T' _ hh') (fun k hk => setRow_other w p'.blk k arr2 hk) ⟨_, tsz P e, e, true, ob'.fl && ob.fl⟩ (by rw [hep', hesz']) (hcr2.mono (Be.le_append _ _)) (by rw [hT, hty]) hbase (by rw [hsz2]; exact havl) hflat
                            · refine ⟨_, cap', rfl, hroom, hcm', .inr ⟨p', by rw [← hs.len]; simp, by rw [hbase]; simp, hav'⟩⟩
                        · have hold : ∃ olds : List Value, olds.length = len' * i.size ∧ ((ad' = none ∧ len' = 0) ∨ ∃ b, ad' = some b ∧ ∀ j v, olds[j]? = some v → w.cell? (b.add j) = some v) ∧ (ad' = none → len' = 0 ∧ cap' = 0) ∧
                              (∀ (k : Nat) (c : List Sc), ob'.cs[k]? = some c → c.length = i.size ∧ ∀ (j : Nat) (x : Sc), c[j]? = some x → ∃ v, olds[k * i.size + j]? = some v ∧ ScR β x v) := by
                            rcases hplace with ⟨hc0, hl0', hcs0⟩ | ⟨p', hp', had', hav'⟩
                            · refine ⟨[], by simp [hl0'], ?_, fun _ => ⟨hl0', hc0⟩, by simp [hcs0]⟩
                              cases ad' with
                              | none => exact .inl ⟨rfl, hl0'⟩
                              | some b => exact .inr ⟨b, rfl, by simp⟩
                            · obtain ⟨hep', arr', T', fz', hh', hcr', _⟩ := obj_at hs (obj_get hob') hp'
                              obtain ⟨olds, h1, h2, h3, h4⟩ := window_vals hcr' 0 len' (by omega)
                              rw [hesz', hti] at h1 h2 h4
                              refine ⟨olds, h1, .inr ⟨_, had', fun j v hv => ?_⟩, (fun hn => by rw [had'] at hn; cases hn), ?_⟩
                              · rw [Addr.add_lit, cell_at hh', hep', hesz', hti]; exact h2 j v hv
                              · rw [List.drop_zero, List.take_of_length_le (by omega)] at h4
                                exact h4
                          obtain ⟨olds, hol, holds, hnn, hor2⟩ := hold
                          rw [hti] at hnl hnr
                          obtain ⟨β', w', v, hrun, hst, hsim, hr⟩ := good_grow (P := P) hs hkill hstk he hi hzv hzs hol holds hnn hnl hnews (c := cap) (by omega) (by omega) hsm hby' (cs := ob'.cs ++ (ob.cs.drop off).take len)
                            (cellsR_append (by rw [hol, hcl]) hor2 hnr (fun q v hv => by simpa using hv)) (fl := ob'.fl && ob.fl) hflat o.type
                          rw [hlen'] at hr
                          refine ⟨β', w', ?_, ?_, .inl ⟨v, _, execOp_append x y t ho (by rw [hxe, hye]; exact hrun), rfl, hr⟩⟩
                          · rw [hti]; exact hst
                          · rw [hti]; exact hsim
                  · cases h
                · cases h
              · cases h
      · cases h
    · cases h
  · cases h
end
end Go.Proofs.YtoghbjbfldlfpaaGreat
