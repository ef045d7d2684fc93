/-
  VX, part 5: literals, loads and stores.
-/
import Derived.Test.YtoghbjbfldlfpaaGreatVx4
namespace Go.Proofs.YtoghbjbfldlfpaaGreat
open Go.RowKit
set_option linter.unusedVariables false
set_option linter.unusedSimpArgs false

section
variable {P : Program} {β : Be} {s : S} {a : Act} {w : World} {o : Oper} {r : OpR} {ty : TypeId}

theorem mapM_places (w : World) (fields : List Field) (hf : ∀ x ∈ fields, tsz P x.type ≠ 0) :
    (fields.mapM (fun f : Field => (do pure (f.offset, ← sizeOf f.type) : Sem (Nat × Nat)))).run P w = .ok (fields.map fun f => (f.offset, tsz P f.type)) w := by
  induction fields with
  | nil => rfl
  | cons f l ih =>
    have h0 := hf f (by simp)
    have hi : (P.info? f.type).isSome = true := tsz_pos (by omega)
    simp only [List.mapM_cons, Sem.run_bind, run_sizeOf' w hi, Result.andThen_ok, Sem.run_pure, ih (fun x hx => hf x (by simp [hx])), List.map_cons]
theorem op_build (hs : HSim β s.hp w) (hsl : SlotsR β s.sl a.tmps) (t : TypeId) (parts : Array (Nat × Operand)) (ho : o.op = .build t parts) (h : aop P s ty (.build t parts) = some r) : Good β s r w ((execOp a.eval o).run P w) := by
  simp only [aop] at h
  split at h
  · rename_i z hz
    split at h
    · rename_i l hl
      have hz0 := hz
      unfold tbuild at hz0
      split at hz0
      · rename_i hall
        obtain ⟨hz, hzl, _⟩ := tz_facts hz0
        split at h
        · rename_i cs hcs
          simp only [Option.some.injEq] at h
          subst h
          obtain ⟨i, v, vs, hi, hzv, hvc, hsc⟩ := tzero_info hz
          have hr := scs_R β hsc
          unfold allSized at hall
          split at hall
          · rename_i fs hfs
            have hpl : ∀ k, tfld P t k = (fs.map fun f => (f.offset, tsz P f.type))[k]? := by
              intro k
              simp only [tfld, hfs, Array.getElem?_map]
              cases hk : fs[k]? with
              | none => rfl
              | some f =>
                have hm : f ∈ fs.toList := by
                  rw [← Array.getElem?_toList] at hk
                  exact List.mem_of_getElem? hk
                have := List.all_eq_true.1 hall f hm
                simp only [bne_iff_ne] at this
                simp [this]
            obtain ⟨arr, hf, hra⟩ := fillA_R (P := P) (t := t) (β := β) (ps := parts.toList.map fun (i, x) => (i, a.eval x)) (arr := vs.toArray) hcs (by simpa using hr) (parts_R hsl hl)
            refine good_val hs (v := .agg arr) ?_ ⟨arr.toList, by simp, hra⟩
            unfold execOp
            rw [ho]
            have hm := mapM_places (P := P) w fs.toList (fun x hx => by
              have := List.all_eq_true.1 hall x hx
              simpa using this)
            have hm' : (fs.mapM (fun f : Field => (do pure (f.offset, ← sizeOf f.type) : Sem (Nat × Nat)))).run P w = .ok (fs.map fun f => (f.offset, tsz P f.type)) w := by
              rw [Array.mapM_eq_mapM_toList]
              have e : ∀ (m : Sem (List (Nat × Nat))), (List.toArray <$> m) = (do pure (List.toArray (← m))) := fun m => rfl
              rw [e, Sem.run_bind, hm]
              rw [Result.andThen_ok, Sem.run_pure]
              refine congrArg (fun x => Result.ok x w) ?_
              apply Array.ext'
              simp
            have hff : Instr.fill (fun x => (fs.map fun f => (f.offset, tsz P f.type))[x]?) vs.toArray (parts.toList.map fun (i, x) => (i, a.eval x)) = some arr := by
              have e : (fun x => (fs.map fun f => (f.offset, tsz P f.type))[x]?) = tfld P t := funext fun k => (hpl k).symm
              rw [e]; exact hf
            have hpt : (parts.map fun (i, x) => (i, a.eval x)).toList = parts.toList.map fun (i, x) => (i, a.eval x) := by simp
            simp only [Instr.build, Sem.run_bind, zeroValue, typeInfo, run_program, Result.andThen_ok, hi, hzv, Sem.run_pure, run_underlying hfs, hm', hpt]
            rw [hvc, hff]
            rfl
          · cases hall
        · cases h
      · cases hz0
    · cases h
  · cases h

theorem zeros_get (z : Array Value) (len k j : Nat) (hk : k < len) (hj : j < z.size) : ((Array.range (len * z.size)).map (z[· % z.size]!))[k * z.size + j]? = z[j]? := by
  have hlt : k * z.size + j < len * z.size := by
    have : (k + 1) * z.size ≤ len * z.size := Nat.mul_le_mul_right _ hk
    rw [Nat.add_mul] at this
    omega
  rw [Array.getElem?_map, Array.getElem?_range, if_pos hlt]
  simp only [Option.map_some]
  rw [show (k * z.size + j) % z.size = j from by rw [Nat.mul_comm, Nat.mul_add_mod, Nat.mod_eq_of_lt hj]]
  simp [hj]
theorem fillL_R {esz : Nat} (hpos : 0 < esz) (len : Nat) : ∀ {l : List (Nat × List Sc)} {ps : List (Nat × Value)} {cs cs' : List (List Sc)} {arr : Array Value},
    fillL esz cs l = some cs' → cs.length = len → arr.size = len * esz → CellsR β arr 0 esz cs →
    L2 (fun (x : Nat × List Sc) (y : Nat × Value) => x.1 = y.1 ∧ ∃ vs : List Value, y.2.cells = vs.toArray ∧ L2 (ScR β) x.2 vs) l ps →
    ∃ arr' : Array Value, Instr.fill (fun i => some (i * esz, esz)) arr ps = some arr' ∧ arr'.size = len * esz ∧ cs'.length = len ∧ CellsR β arr' 0 esz cs'
  | [], [], cs, cs', arr, h, hl, hsz, hc, _ => by
    simp only [fillL, Option.some.injEq] at h
    subst h
    exact ⟨arr, rfl, hsz, hl, hc⟩
  | (i, v) :: l, (i', u) :: ps, cs, cs', arr, h, hl, hsz, hc, hps => by
    obtain ⟨⟨hi, vs, hvs, hr⟩, hps⟩ := hps
    dsimp only at hi hvs hr
    subst hi
    simp only [fillL] at h
    split at h
    · rename_i hcond
      simp only [Bool.and_eq_true] at hcond
      have hvl := lenIs_eq hcond.1
      have hil : i < cs.length := fits_le hcond.2
      have hvl' := hr.length
      have hend : i * esz + esz ≤ len * esz := by
        have : (i + 1) * esz ≤ len * esz := Nat.mul_le_mul_right _ (by omega)
        rw [Nat.add_mul] at this
        omega
      obtain ⟨h1, h2⟩ := zipIdx_fold (i * esz) vs 0 arr
      simp only [Nat.add_zero] at h2
      have hnew : CellsR β (vs.toArray.zipIdx.foldl (fun cs (x : Value × Nat) => cs.setIfInBounds (i * esz + x.2) x.1) arr) 0 esz (cs.set i v) := by
        rw [fold_toArray]
        refine cellsR_rows (fun c hm => ?_) fun k j c x hk hj => ?_
        · rcases List.mem_or_eq_of_mem_set hm with hm | rfl
          · obtain ⟨k, hk⟩ := List.mem_iff_getElem?.1 hm
            exact (hc k c hk).1
          · exact hvl
        · rw [h2 _ (by omega)]
          have hjl : j < c.length := (List.getElem?_eq_some_iff.1 hj).1
          rw [List.getElem?_set] at hk
          by_cases he : i = k
          · subst he
            rw [if_pos rfl, if_pos hil] at hk
            simp only [Option.some.injEq] at hk
            subst hk
            rw [if_pos (by omega)]
            obtain ⟨y, hy, hry⟩ := hr.get hj
            exact ⟨y, by rw [Nat.add_sub_cancel_left]; exact hy, hry⟩
          · rw [if_neg he] at hk
            obtain ⟨hlc, hcell⟩ := hc k c hk
            obtain ⟨y, hy, hry⟩ := hcell j x hj
            refine ⟨y, ?_, hry⟩
            rw [Nat.zero_add] at hy
            rw [if_neg]
            · exact hy
            · intro ⟨ha, hb⟩
              rcases Nat.lt_or_gt_of_ne he with hlt | hgt
              · have : (i + 1) * esz ≤ k * esz := Nat.mul_le_mul_right _ hlt
                rw [Nat.add_mul] at this
                omega
              · have : (k + 1) * esz ≤ i * esz := Nat.mul_le_mul_right _ hgt
                rw [Nat.add_mul] at this
                omega
      obtain ⟨arr', hf, hsz', hl', hc'⟩ := fillL_R hpos len h (by simpa using hl) (by rw [fold_toArray, h1]; exact hsz) hnew hps
      refine ⟨arr', ?_, hsz', hl', hc'⟩
      simp only [Instr.fill]
      rw [if_neg]
      · rw [hvs]; exact hf
      · rw [hvs]
        simp
        omega
    · cases h
  | [], _ :: _, _, _, _, _, _, _, _, hl => hl.elim
  | _ :: _, [], _, _, _, _, _, _, _, hl => hl.elim
theorem op_buildSlice (hs : HSim β s.hp w) (hsl : SlotsR β s.sl a.tmps) (t : TypeId) (len : Nat) (parts : Array (Nat × Operand)) (ho : o.op = .buildSlice t len parts) (h : aop P s ty (.buildSlice t len parts) = some r) : Good β s r w ((execOp a.eval o).run P w) := by
  simp only [aop] at h
  split at h
  · rename_i e sz he0
    obtain ⟨he, hkn, rfl⟩ := tsl_facts he0
    split at h
    · rename_i z hz
      obtain ⟨hz, hzl, hpos, hsm, _⟩ := tz_facts hz
      split at h
      · rename_i l hl
        split at h
        · rename_i hleb
          have hle256 := leB_le hleb
          have hbig : len * tsz P e ≤ 16777216 := by
            have : len * tsz P e ≤ 256 * 65536 := Nat.mul_le_mul hle256 hsm
            omega
          split at h
          · rename_i cs hcs
            simp only [Option.some.injEq] at h
            subst h
            obtain ⟨i, v, vs, hi, hzv, hvc, hsc⟩ := tzero_info hz
            have hr := scs_R β hsc
            have hvl := hr.length
            have hti := tsz_info hi
            have hlm : len ≤ len * tsz P e := Nat.le_mul_of_pos_right _ hpos
            have hstart : ∃ arr0 : Array Value, ((do if len * tsz P e = 0 then pure #[] else do pure (← zeroValue e).cells) : Sem (Array Value)).run P w = .ok arr0 w ∧ ((Array.range (len * tsz P e)).map (arr0[· % arr0.size]!)).size = len * tsz P e ∧
                CellsR β ((Array.range (len * tsz P e)).map (arr0[· % arr0.size]!)) 0 (tsz P e) (List.replicate len z) := by
              by_cases h0 : len * tsz P e = 0
              · refine ⟨#[], by simp [h0], by simp, ?_⟩
                have hl0 : len = 0 := by
                  rcases Nat.mul_eq_zero.1 h0 with h | h
                  · exact h
                  · omega
                subst hl0
                intro k c hk
                simp at hk
              · refine ⟨vs.toArray, by simp [h0, zeroValue, typeInfo, hi, hzv, hvc], by simp, ?_⟩
                refine cellsR_rows (fun c hm => by rw [List.eq_of_mem_replicate hm]; exact hzl) fun k j c x hk hj => ?_
                have hkl : k < len := by have := (List.getElem?_eq_some_iff.1 hk).1; simpa using this
                rw [List.getElem?_replicate_of_lt hkl] at hk
                simp only [Option.some.injEq] at hk
                subst hk
                obtain ⟨y, hy, hry⟩ := hr.get hj
                have hjl : j < z.length := (List.getElem?_eq_some_iff.1 hj).1
                refine ⟨y, ?_, hry⟩
                have hzs : vs.toArray.size = tsz P e := by simp; omega
                have := zeros_get vs.toArray len k j hkl (by omega)
                rw [hzs] at this
                rw [hzs, this]
                simpa using hy
            obtain ⟨arr0, hrun, hsz0, hc0⟩ := hstart
            obtain ⟨arr, hf, hsz, hlen, hc⟩ := fillL_R hpos len (ps := parts.toList.map fun (i, x) => (i, a.eval x)) hcs (by simp) hsz0 hc0 (parts_R hsl hl)
            refine good_new hs (arr := arr) (v := .slice (some ⟨w.heap.size, 0, none⟩) len len) ?_ hc (fun h => flatL_iff h) (sl_new hs _ _ len len (Nat.le_refl _) (by unfold maxLen; omega) (by show len * tsz P e ≤ arr.size; omega))
            unfold execOp
            rw [ho]
            have hpt : (parts.map fun (i, x) => (i, a.eval x)).toList = parts.toList.map fun (i, x) => (i, a.eval x) := by simp
            have hb' : ¬ (2 ^ 24 < len * tsz P e) := by omega
            simp only [Instr.buildSlice, Sem.run_bind, run_underlying (tel_und he), Result.andThen_ok, run_sizeOf' w (by simp [hi] : (P.info? e).isSome = true), hb', if_false, hpt]
            by_cases h0 : len * tsz P e = 0
            · simp only [h0, if_true, Sem.run_pure, Result.ok.injEq, and_true, Result.andThen_ok] at hrun
              subst hrun
              simp only [h0, if_true, Sem.run_bind, Sem.run_pure, Result.andThen_ok]
              simp only [h0] at hf
              rw [hf]
              simp [newRow]
            · have hzr : (zeroValue e).run P w = .ok v w := by simp [zeroValue, typeInfo, hi, hzv]
              simp only [h0, if_false, Sem.run_bind, hzr, Result.andThen_ok, Sem.run_pure, Result.ok.injEq, and_true] at hrun
              simp only [h0, if_false, Sem.run_bind, Sem.run_pure, Result.andThen_ok, hzr]
              rw [hrun, hf]
              simp [newRow]
          · cases h
        · cases h
      · cases h
    · cases h
  · cases h
theorem tload_agg {t : TypeId} {n : Nat} (h : tload P t = some (some n)) : tagg P t = true ∧ n = tsz P t := by
  unfold tload at h
  split at h
  · split at h
    · rename_i ha
      simp only [Option.some.injEq] at h
      exact ⟨ha, h.symm⟩
    · cases h
  · cases h
theorem tload_one {t : TypeId} (h : tload P t = some none) : tagg P t = false ∧ tknown P t = true := by
  unfold tload at h
  split at h
  · rename_i hk
    split at h
    · cases h
    · rename_i ha
      exact ⟨by simpa using ha, hk⟩
  · cases h
theorem tst_facts {t : TypeId} {n : Nat} (h : tst P t = some n) : tknown P t = true ∧ n = tsz P t := by
  unfold tst at h
  split at h
  · rename_i hk
    simp only [Option.some.injEq] at h
    exact ⟨hk, h.symm⟩
  · cases h
theorem op_load (hs : HSim β s.hp w) (hsl : SlotsR β s.sl a.tmps) (t : TypeId) (x : Operand) (ho : o.op = .load t x) (h : aop P s ty (.load t x) = some r) : Good β s r w ((execOp a.eval o).run P w) := by
  simp only [aop] at h
  split at h
  · rename_i ob k j hx
    have hv : ScR β (.pt ob k j) (a.eval x) := ev_R hsl hx
    split at h
    · rename_i obj hob
      split at h
      · rename_i c hk
        split at h
        · rename_i n hag0
          obtain ⟨hag, rfl⟩ := tload_agg hag0
          split at h
          · rename_i hn
            simp only [Option.some.injEq] at h
            subst h
            obtain ⟨vs, hrun, hr⟩ := run_load_agg hs hob hk hag (fits_le hn) hv
            refine good_val hs (v := .agg vs.toArray) ?_ ⟨vs, rfl, hr⟩
            unfold execOp
            rw [ho]
            simp [hrun]
          · cases h
        · rename_i hag0
          obtain ⟨hag, hkn⟩ := tload_one hag0
          split at h
          · rename_i y hy
            simp only [Option.some.injEq] at h
            subst h
            obtain ⟨u, hrun, hr⟩ := run_load_one hs hob hk hag hkn hy hv
            refine good_val hs (v := u) ?_ hr
            unfold execOp
            rw [ho]
            simp [hrun]
          · cases h
        · cases h
      · cases h
    · cases h
  · cases h

theorem L2.mem {R : Sc → Value → Prop} {l : List Sc} {m : List Value} (h : L2 R l m) {i : Nat} {y : Value} (hy : m[i]? = some y) : ∃ x, l[i]? = some x ∧ R x y := by
  have hi : i < m.length := (List.getElem?_eq_some_iff.1 hy).1
  have hl := h.length
  have hx : l[i]? = some (l[i]'(by omega)) := List.getElem?_eq_getElem (by omega)
  obtain ⟨y', hy', hr⟩ := h.get hx
  rw [hy] at hy'
  cases hy'
  exact ⟨_, hx, hr⟩
/-- The heap behind a store. -/
theorem hsim_store {h : Hp} (hs : HSim β h w) {n : Nat} {ob : AObj} {p : Pl} (ho : h[n]? = some (some ob)) (hown : ob.own = true) (hp : β[n]? = some (some p))
    {arr arr' : Array Value} {T : TypeId} {fz : Nat × Nat} (hh : w.heap[p.blk]? = some (.cells arr T fz)) (hsz : arr'.size = arr.size) {cs' : List (List Sc)} {fl' : Bool} (hc : CellsR β arr' 0 ob.esz cs') (hfl : fl' = true → FlatL cs') :
    HSim β (h.set n (some { ob with cs := cs', fl := fl' })) (w.setRow p.blk arr') ∧ StepR β β h (h.set n (some { ob with cs := cs', fl := fl' })) w (w.setRow p.blk arr') := by
  obtain ⟨he, arr0, T0, fz0, hh0, hc0, hown0⟩ := obj_at hs ho hp
  obtain ⟨hT, hf0, hbase, hav⟩ := hown0 hown
  rw [hh] at hh0
  simp only [Option.some.injEq, Obj.cells.injEq] at hh0
  obtain ⟨rfl, rfl, rfl⟩ := hh0
  have hn : n < h.length := (List.getElem?_eq_some_iff.1 ho).1
  have key : ∀ {o : Nat} {x : AObj}, (h.set n (some { ob with cs := cs', fl := fl' }))[o]? = some (some x) → (o = n ∧ x = { ob with cs := cs', fl := fl' }) ∨ (o ≠ n ∧ h[o]? = some (some x)) := by
    intro o x hx
    rw [List.getElem?_set] at hx
    split at hx
    · rename_i he
      subst he
      simp only [Option.some.injEq] at hx
      exact .inl ⟨rfl, hx.symm⟩
    · rename_i he
      exact .inr ⟨Ne.symm he, hx⟩
  refine ⟨⟨by simp [hs.len], fun o x hx => ?_, fun o x hx hf => by rcases key hx with ⟨_, rfl⟩ | ⟨_, hx⟩; exact hfl hf; exact hs.flat o x hx hf, fun o o' x x' q q' hx hx' hxo hq hq' hne => ?_⟩, ?_⟩
  · rcases key hx with ⟨rfl, rfl⟩ | ⟨hne, hx⟩
    · refine ⟨some p, hp, he, arr', T, fz, setRow_heap w p.blk arr arr' T fz hh, ?_, fun _ => ⟨hT, hf0, hbase, by rw [hsz]; exact hav⟩⟩
      rw [hbase]
      exact hc
    · obtain ⟨q, hq, hr⟩ := hs.ob o x hx
      refine ⟨q, hq, hr.world fun q' hq' => ?_⟩
      subst hq'
      exact setRow_other w p.blk q'.blk arr' (fun hb => hs.apart n o ob x p q' ho hx hown hp hq (Ne.symm hne) hb.symm)
  · rcases key hx with ⟨rfl, rfl⟩ | ⟨h1, h1'⟩
    · rcases key hx' with ⟨rfl, rfl⟩ | ⟨h2, h2'⟩
      · exact absurd rfl hne
      · exact hs.apart o o' ob x' q q' ho h2' hown hq hq' hne
    · rcases key hx' with ⟨rfl, rfl⟩ | ⟨h2, h2'⟩
      · exact hs.apart o o' x ob q q' h1' ho hxo hq hq' hne
      · exact hs.apart o o' x x' q q' h1' h2' hxo hq hq' hne
  · refine ⟨Be.le.refl _, rfl, rfl, rfl, by simp, fun k hk hno => setRow_other w p.blk k arr' (fun hb => hno ⟨n, ob, p, ho, hown, hp, hb.symm⟩), by simp, fun o x hlt hx => ?_, fun o x q hge hx _ => ?_⟩
    · rcases key hx with ⟨rfl, rfl⟩ | ⟨hne, hx⟩
      · exact ⟨ob, ho, id⟩
      · exact ⟨x, hx, id⟩
    · rw [List.getElem?_eq_none (by simpa using hge)] at hx
      cases hx
theorem op_store (hs : HSim β s.hp w) (hsl : SlotsR β s.sl a.tmps) (t : TypeId) (x y : Operand) (ho : o.op = .store t x y) (h : aop P s ty (.store t x y) = some r) : Good β s r w ((execOp a.eval o).run P w) := by
  simp only [aop] at h
  split at h
  · rename_i n k j hx
    have hv : ScR β (.pt n k j) (a.eval x) := ev_R hsl hx
    split at h
    · rename_i ob hob
      split at h
      · rename_i c hk
        split at h
        · rename_i v hy
          split at h
          · rename_i vs hvs
            split at h
            rotate_left
            · cases h
            rename_i n0 hn0
            obtain ⟨hkn, rfl⟩ := tst_facts hn0
            split at h
            · rename_i hcond
              simp only [Bool.and_eq_true] at hcond
              obtain ⟨⟨hl0, hj0⟩, hown⟩ := hcond
              have hl := lenIs_eq hl0
              have hj : j + vs.length ≤ c.length := by rw [hl]; exact fits_le hj0
              simp only [Option.some.injEq] at h
              rw [spl_eq c j vs hj] at h
              subst h
              obtain ⟨us, hus, hr⟩ := AVR.cells hvs (ev_R hsl hy)
              obtain ⟨p, hp, hpe⟩ := ptr_R hv
              obtain ⟨he, arr, T, fz, hh, hc, hown'⟩ := obj_at hs (obj_get hob) hp
              obtain ⟨hT, hf0, hbase, hav⟩ := hown' hown
              subst hf0
              have hul := hr.length
              obtain ⟨hcl, hcell⟩ := hc k c hk
              have hbd : k * ob.esz + j + us.length ≤ arr.size := by
                by_cases hz : us.length = 0
                · rw [hz]
                  by_cases hc0 : c.length = 0
                  · by_cases hk0 : arr.size < k * ob.esz + j
                    · have : j = 0 := by omega
                      subst this
                      rw [← hcl, hc0] at hk0
                      omega
                    · omega
                  · have hg : c[c.length - 1]? = some (c[c.length - 1]'(by omega)) := List.getElem?_eq_getElem (by omega)
                    obtain ⟨y', hy', _⟩ := hcell _ _ hg
                    have := (Array.getElem?_eq_some_iff.1 hy').1
                    rw [hbase] at this
                    omega
                · have hg : c[j + us.length - 1]? = some (c[j + us.length - 1]'(by omega)) := List.getElem?_eq_getElem (by omega)
                  obtain ⟨y', hy', _⟩ := hcell _ _ hg
                  have := (Array.getElem?_eq_some_iff.1 hy').1
                  rw [hbase] at this
                  omega
              let arr' : Array Value := (arr.toList.take (k * ob.esz + j) ++ us ++ arr.toList.drop (k * ob.esz + j + us.length)).toArray
              have hget : ∀ m, arr'[m]? = if k * ob.esz + j ≤ m ∧ m < k * ob.esz + j + us.length then us[m - (k * ob.esz + j)]? else arr[m]? := by
                intro m
                show ((arr.toList.take (k * ob.esz + j) ++ us ++ arr.toList.drop (k * ob.esz + j + us.length)).toArray)[m]? = _
                rw [List.getElem?_toArray, List.append_assoc]
                by_cases h1 : m < k * ob.esz + j
                · rw [List.getElem?_append_left (by simp; omega), List.getElem?_take_of_lt h1, if_neg (by omega), Array.getElem?_toList]
                · have hlen : (arr.toList.take (k * ob.esz + j)).length = k * ob.esz + j := by simp; omega
                  rw [List.getElem?_append_right (by omega), hlen]
                  by_cases h2 : m < k * ob.esz + j + us.length
                  · rw [List.getElem?_append_left (by omega), if_pos (by omega)]
                  · rw [List.getElem?_append_right (by omega), if_neg (by omega), List.getElem?_drop, Array.getElem?_toList]
                    congr 1
                    omega
              have hsz : arr'.size = arr.size := by
                show ((arr.toList.take (k * ob.esz + j) ++ us ++ arr.toList.drop (k * ob.esz + j + us.length)).toArray).size = _
                simp
                omega
              have hnew : CellsR β arr' 0 ob.esz (ob.cs.set k (splice c j vs)) := by
                refine cellsR_rows (fun d hm => ?_) fun k' j' d z hk' hj' => ?_
                · rcases List.mem_or_eq_of_mem_set hm with hm | rfl
                  · obtain ⟨q, hq⟩ := List.mem_iff_getElem?.1 hm
                    exact (hc q d hq).1
                  · rw [splice_length c j vs hj]; exact hcl
                · rw [hget]
                  rw [List.getElem?_set] at hk'
                  by_cases hkk : k = k'
                  · subst hkk
                    rw [if_pos rfl, if_pos (List.getElem?_eq_some_iff.1 hk).1] at hk'
                    simp only [Option.some.injEq] at hk'
                    subst hk'
                    rw [splice_get c j vs hj] at hj'
                    by_cases hin : j ≤ j' ∧ j' < j + vs.length
                    · rw [if_pos hin] at hj'
                      rw [if_pos (by omega)]
                      obtain ⟨y', hy', hr'⟩ := hr.get hj'
                      exact ⟨y', by rw [show k * ob.esz + j' - (k * ob.esz + j) = j' - j from by omega]; exact hy', hr'⟩
                    · rw [if_neg hin] at hj'
                      rw [if_neg (by omega)]
                      obtain ⟨y', hy', hr'⟩ := hcell j' z hj'
                      rw [hbase, Nat.zero_add] at hy'
                      exact ⟨y', hy', hr'⟩
                  · rw [if_neg hkk] at hk'
                    obtain ⟨hdl, hdc⟩ := hc k' d hk'
                    obtain ⟨y', hy', hr'⟩ := hdc j' z hj'
                    rw [hbase, Nat.zero_add] at hy'
                    have hjd : j' < d.length := (List.getElem?_eq_some_iff.1 hj').1
                    refine ⟨y', ?_, hr'⟩
                    rw [if_neg]
                    · exact hy'
                    · intro ⟨ha, hb⟩
                      rcases Nat.lt_or_gt_of_ne hkk with hlt | hgt
                      · have : (k + 1) * ob.esz ≤ k' * ob.esz := Nat.mul_le_mul_right _ hlt
                        rw [Nat.add_mul] at this
                        omega
                      · have : (k' + 1) * ob.esz ≤ k * ob.esz := Nat.mul_le_mul_right _ hgt
                        rw [Nat.add_mul] at this
                        omega
              obtain ⟨hs', hst⟩ := hsim_store hs (obj_get hob) hown hp hh hsz hnew (fl' := ob.fl && flatC vs) (fun hf => by
                simp only [Bool.and_eq_true] at hf
                have h1 := hs.flat n ob (obj_get hob) hf.1
                intro d hd
                rcases List.mem_or_eq_of_mem_set hd with hd | rfl
                · exact h1 d hd
                · have h2 := flatC_mem.1 (h1 c (List.mem_of_getElem? hk))
                  unfold splice
                  exact flatC_append (flatC_mem.2 fun s hs => h2 s (List.mem_of_mem_take hs)) (flatC_append hf.2 (flatC_mem.2 fun s hs => h2 s (List.mem_of_mem_drop hs))))
              refine ⟨β, _, hst, hs', .inr ⟨?_, rfl⟩⟩
              unfold execOp
              rw [ho]
              have hrun := run_storeCells_at P p.blk (k * ob.esz + j) T us 0 arr w hh (by omega) (L2.one hr)
              simp only [Nat.add_zero] at hrun
              have husz : us.toArray.size = tsz P t := by simp; omega
              have hpe' : a.eval x = .pointer (some ⟨p.blk, k * ob.esz + j, none⟩) := by rw [hpe, hbase, he, Nat.zero_add]
              simp only [hpe', Instr.storeAt, Instr.sureAddr, Sem.run_bind, Sem.run_pure, Result.andThen_ok, storeVar, run_sizeOf' w (tknown_info hkn), husz, ne_eq, not_true, if_false, hus, List.toList_toArray, hrun]
              rfl
            · cases h
          · cases h
        · cases h
      · cases h
    · cases h
  · cases h
end
end Go.Proofs.YtoghbjbfldlfpaaGreat
