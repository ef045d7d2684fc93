/-
  VX, part 7: conversions, make, slicing, append.
-/
import Derived.Test.YtoghbjbfldlfpaaGreatVx6
import Derived.Lib.ConvBytes
namespace Go.Proofs.YtoghbjbfldlfpaaGreat
open Go.RowKit
set_option linter.unusedVariables false
set_option linter.unusedSimpArgs false

section
variable {P : Program} {β : Be} {s : S} {a : Act} {w : World} {o : Oper} {r : OpR} {ty : TypeId}

theorem execOp_convert (src dst : TypeId) (x : Operand) (ho : o.op = .convert src dst x) {v : Value} {w' : World} (h : (convert src dst (a.eval x)).run P w = .ok v w') : (execOp a.eval o).run P w = .ok (.value v) w' := by
  unfold execOp
  rw [ho]
  simp only [Sem.run_bind, h, Result.andThen_ok]
  rfl
/-- The cells of elements off .. off+len-1. -/
theorem window_cell {arr : Array Value} {base esz : Nat} {cs : List (List Sc)} (hc : CellsR β arr base esz cs) {off len : Nat} (hb : off + len ≤ cs.length) {k j : Nat} (hk : k < len) (hj : j < esz) :
    ∃ c x v, cs[off + k]? = some c ∧ c[j]? = some x ∧ arr[base + (off + k) * esz + j]? = some v ∧ ScR β x v := by
  have h1 : cs[off + k]? = some (cs[off + k]'(by omega)) := List.getElem?_eq_getElem (by omega)
  obtain ⟨hl, hcell⟩ := hc _ _ h1
  have h2 : (cs[off + k]'(by omega))[j]? = some ((cs[off + k]'(by omega))[j]'(by omega)) := List.getElem?_eq_getElem (by omega)
  obtain ⟨v, hv, hr⟩ := hcell j _ h2
  exact ⟨_, _, v, h1, h2, hv, hr⟩
theorem byte_of {c : List Sc} {x : Sc} (hb : isByte c = true) (hx : c[0]? = some x) : ∃ n, c = [.int .u8 n] ∧ x = .int .u8 n := by
  unfold isByte at hb
  split at hb
  · rename_i n
    simp at hx
    exact ⟨n, rfl, hx.symm⟩
  · cases hb
theorem tcv_int {src dst : TypeId} {k : IntKind} (h : tcv P src dst = some (.int k)) : (∃ d, P.underlying src = some d) ∧ P.underlying dst = some (.int k) := by
  unfold tcv at h
  split at h
  · rename_i h1 h2
    simp only [Option.some.injEq, Cv.int.injEq] at h
    subst h
    exact ⟨⟨_, h1⟩, h2⟩
  · cases h
  · split at h <;> cases h
  · split at h <;> cases h
  · cases h
theorem tcv_str {src dst : TypeId} (h : tcv P src dst = some .str) : P.underlying src = some .string ∧ P.underlying dst = some .string := by
  unfold tcv at h
  split at h
  · cases h
  · rename_i h1 h2; exact ⟨h1, h2⟩
  · split at h <;> cases h
  · split at h <;> cases h
  · cases h
theorem tcv_s2b {src dst e : TypeId} (h : tcv P src dst = some (.s2b e)) : P.underlying src = some .string ∧ P.underlying dst = some (.slice e) ∧ P.underlying e = some (.int .u8) := by
  unfold tcv at h
  split at h
  · cases h
  · cases h
  · rename_i h1 h2
    split at h
    · rename_i h3
      simp only [Option.some.injEq, Cv.s2b.injEq] at h
      subst h
      exact ⟨h1, h2, tik_und h3⟩
    · cases h
  · split at h <;> cases h
  · cases h
theorem tcv_b2s {src dst : TypeId} (h : tcv P src dst = some .b2s) : ∃ e, P.underlying src = some (.slice e) ∧ P.underlying dst = some .string ∧ P.underlying e = some (.int .u8) := by
  unfold tcv at h
  split at h
  · cases h
  · cases h
  · split at h <;> cases h
  · rename_i e h1 h2
    split at h
    · rename_i h3
      exact ⟨e, h1, h2, tik_und h3⟩
    · cases h
  · cases h
theorem op_convert (hs : HSim β s.hp w) (hsl : SlotsR β s.sl a.tmps) (src dst : TypeId) (x : Operand) (ho : o.op = .convert src dst x) (h : aop P s ty (.convert src dst x) = some r) (hc : r.c) : Good β s r w ((execOp a.eval o).run P w) := by
  simp only [aop] at h
  split at h
  · rename_i k' k n hcv hx
    have hv : a.eval x = .int k n := ev_R hsl hx
    obtain ⟨⟨d, hd⟩, hk'⟩ := tcv_int hcv
    simp only [Option.some.injEq] at h
    subst h
    refine good_val hs (v := .int k' (k'.wrap n)) (execOp_convert src dst x ho ?_) rfl
    rw [hv]
    simp [convert, run_underlying hd, run_underlying hk', Conv.intToInt]
  · rename_i l hcv hx
    have hv : a.eval x = .string ⟨l.toArray⟩ := ev_R hsl hx
    obtain ⟨hd, hdst⟩ := tcv_str hcv
    simp only [Option.some.injEq] at h
    subst h
    refine good_val hs (v := .string ⟨l.toArray⟩) (execOp_convert src dst x ho ?_) rfl
    rw [hv]
    simp [convert, run_underlying hd, run_underlying hdst]
  · rename_i e l hcv hx
    have hv : a.eval x = .string ⟨l.toArray⟩ := ev_R hsl hx
    obtain ⟨hd, hdst, hu8⟩ := tcv_s2b hcv
    simp only [Option.some.injEq] at h
    subst h
    have hlen : l.length ≤ 1073741824 := hc
    have hz : (ByteArray.mk l.toArray).size = l.length := rfl
    have hrun := Lib.run_convert_string_bytes (P := P) w src dst e ⟨l.toArray⟩ hd hdst hu8
    have hge := grownCap_ge w l.length 0 e
    have hle := grownCap_le_maxLen w l.length 0 e (by unfold maxLen; omega)
    have hcells : (Lib.bytesCells w e ⟨l.toArray⟩).size = grownCap w l.length 0 e := by
      simp only [Lib.bytesCells, hz, Array.size_append, Array.size_map, Array.size_replicate]
      have : (ByteArray.mk l.toArray).data.size = l.length := rfl
      rw [this]
      omega
    let p : Pl := ⟨w.heap.size, 0, 1, grownCap w l.length 0 e⟩
    have hlike : World.like w (Lib.bytesWorld w e ⟨l.toArray⟩) := ⟨rfl, rfl, rfl⟩
    refine ⟨β ++ [some p], Lib.bytesWorld w e ⟨l.toArray⟩, stepR_alloc hs.len hlike (by rw [Lib.bytesWorld_size]; omega) (fun k hk => Lib.bytesWorld_at_old w e _ k hk) p _ (Nat.le_refl _),
      hsim_alloc hs (fun k hk => Lib.bytesWorld_at_old w e _ k hk) (Nat.le_refl _) ?_ (fun _ c hm => by
        simp only [List.mem_map] at hm
        obtain ⟨b, _, rfl⟩ := hm
        rfl), .inl ⟨.slice (some ⟨w.heap.size, 0, none⟩) l.length (grownCap w l.length 0 e), _, execOp_convert src dst x ho (by rw [hv]; exact hrun), rfl, ?_⟩⟩
    · refine ⟨rfl, _, _, _, Lib.bytesWorld_at_new w e _, ?_, fun hown => by cases hown⟩
      refine cellsR_rows (fun c hm => ?_) fun k j c y hk hj => ?_
      · simp only [List.mem_map] at hm
        obtain ⟨b, _, rfl⟩ := hm
        rfl
      · simp only [List.getElem?_map, Option.map_eq_some_iff] at hk
        obtain ⟨b, hb, rfl⟩ := hk
        have hj0 : j = 0 := by have := (List.getElem?_eq_some_iff.1 hj).1; simpa [scByte] using this
        subst hj0
        simp only [scByte, List.getElem?_cons_zero, Option.some.injEq] at hj
        subst hj
        have hkl : k < l.length := (List.getElem?_eq_some_iff.1 hb).1
        refine ⟨.int .u8 b.toNat, ?_, rfl⟩
        simp only [Nat.mul_one, Nat.add_zero, Lib.bytesCells]
        rw [Array.getElem?_append_left (by simpa using hkl)]
        simp [hb]
    · exact ⟨_, _, rfl, hge, hle, .inr ⟨p, by rw [← hs.len]; simp, by simp [p], by simp [p]⟩⟩
  · rename_i n off len hcv hx
    have hvx : ScR β (.sl n off len) (a.eval x) := ev_R hsl hx
    obtain ⟨e, hsrc, hdst, hu8⟩ := tcv_b2s hcv
    split at h
    · rename_i ob hob
      split at h
      · rename_i hesz
        simp only [Option.some.injEq] at h
        subst h
        obtain ⟨hb, hall⟩ : off + len ≤ ob.cs.length ∧ ∀ c ∈ ob.cs, isByte c = true := hc
        obtain ⟨ad, cap, hxe, hlc, hcm, hor⟩ := hvx
        rcases hor with hcap | ⟨p, hp, rfl, hav⟩
        · have hl0 : len = 0 := by omega
          subst hl0
          refine good_valc hs (v := .string ⟨#[]⟩) (execOp_convert src dst x ho ?_) ?_
          · rw [hxe]
            cases ad with
            | none => exact run_convert_bytes_nil w src e hsrc hu8 0 cap dst hdst
            | some b =>
              rw [run_convert_bytes_string w src dst e _ 0 cap hsrc hu8 hdst, run_bytesToString w b 0 cap [] (by simp [loadCells, loadCellsFrom])]
              rfl
          · show Value.string _ = _
            simp
        · obtain ⟨he', arr, T, fz, hh, hcr, _⟩ := obj_at hs (obj_get hob) hp
          rw [hesz] at hcr
          let num : List Sc → Int := fun c => match c with | [.int .u8 q] => q | _ => 0
          have hw := run_convert_bytes_arg (P := P) w src e hsrc hu8 p.blk (p.base + off * p.esz) len cap (((ob.cs.drop off).take len).map num) (by simp; omega) (fun i hi => by
            obtain ⟨c, y, v, h1, h2, h3, h4⟩ := window_cell hcr hb hi (j := 0) (by omega)
            obtain ⟨q, rfl, rfl⟩ := byte_of (hall c (List.mem_of_getElem? h1)) h2
            rw [cell_at hh, he', hesz]
            have h5 : (((ob.cs.drop off).take len).map num).getD i 0 = q := by
              rw [List.getD_eq_getElem?_getD, List.getElem?_map, List.getElem?_take_of_lt hi, List.getElem?_drop, h1]
              rfl
            rw [h5]
            rw [show p.base + off * 1 + i = p.base + (off + i) * 1 + 0 from by omega, h3, h4]) dst hdst
          refine good_valc hs (v := .string (strOfNums (((ob.cs.drop off).take len).map num))) (execOp_convert src dst x ho (by rw [hxe]; exact hw)) ?_
          show Value.string _ = _
          congr 1
          unfold strOfNums
          congr 2
          rw [List.map_map]
          refine List.map_congr_left fun c hm => ?_
          have hb' := hall c (List.mem_of_mem_drop (List.mem_of_mem_take hm))
          unfold isByte at hb'
          split at hb'
          · rfl
          · cases hb'
      · cases h
    · cases h
  · rename_i hcv hx
    obtain ⟨ad, hxe⟩ : ScR β .nil (a.eval x) := ev_R hsl hx
    obtain ⟨e, hsrc, hdst, hu8⟩ := tcv_b2s hcv
    simp only [Option.some.injEq] at h
    subst h
    refine good_val hs (v := .string ⟨#[]⟩) (execOp_convert src dst x ho ?_) rfl
    rw [hxe]
    cases ad with
    | none => exact run_convert_bytes_nil w src e hsrc hu8 0 0 dst hdst
    | some b =>
      rw [run_convert_bytes_string w src dst e _ 0 0 hsrc hu8 hdst, run_bytesToString w b 0 0 [] (by simp [loadCells, loadCellsFrom])]
      rfl
  · cases h

theorem op_makeSlice (hs : HSim β s.hp w) (hsl : SlotsR β s.sl a.tmps) (t : TypeId) (x y : Operand) (ho : o.op = .makeSlice t x y) (h : aop P s ty (.makeSlice t x y) = some r) (hc : r.c) : Good β s r w ((execOp a.eval o).run P w) := by
  simp only [aop] at h
  split at h
  · rename_i e sz he0
    obtain ⟨he, _, rfl⟩ := tsl_facts he0
    split at h
    · rename_i z hz0
      obtain ⟨hz, hzl, hpos, _, hby, _⟩ := tz_facts hz0
      split at h
      · rename_i k l k' c hx hy
        have hvx : a.eval x = .int k l := ev_R hsl hx
        have hvy : a.eval y = .int k' c := ev_R hsl hy
        · simp only [Option.some.injEq] at h
          subst h
          obtain ⟨h0, h1, h2⟩ : 0 ≤ l ∧ l ≤ c ∧ c ≤ 1073741824 := hc
          obtain ⟨i, v, vs, hi, hzv, hvc, hsc⟩ := tzero_info hz
          have hr := scs_R β hsc
          have hti := tsz_info hi
          have hvl := hr.length
          have hbi : i.bytes ≤ 131072 := by
            have : tby P e = i.bytes := by simp [tby, hi]
            omega
          have hb2 : (i.bytes : Int) * c ≤ 281474976710656 := by
            obtain ⟨m, rfl⟩ := Int.eq_ofNat_of_zero_le (show 0 ≤ c by omega)
            have : i.bytes * m ≤ 131072 * m := Nat.mul_le_mul_right _ hbi
            have h3 : ((i.bytes * m : Nat) : Int) ≤ 281474976710656 := by omega
            rwa [Int.natCast_mul] at h3
          have hrun := run_make (P := P) w t e i v (tel_und he) hi hzv k k' l c h0 h1 hb2 (by omega)
          refine good_new hs (arr := madeCells v.cells (c.toNat * i.size)) (v := .slice (some ⟨w.heap.size, 0, none⟩) l.toNat c.toNat) ?_ ?_ (fun h d hm => by rw [List.eq_of_mem_replicate hm]; exact h) (sl_new hs _ _ _ _ (by omega) (by unfold maxLen; omega) ?_)
          · unfold execOp
            rw [ho]
            simp only [hvx, hvy, Sem.run_bind, hrun, Result.andThen_ok]
            rfl
          · refine cellsR_rows (fun d hm => by rw [List.eq_of_mem_replicate hm]; exact hzl) fun m j d q hk hj => ?_
            have hkl : m < l.toNat := by have := (List.getElem?_eq_some_iff.1 hk).1; simpa using this
            rw [List.getElem?_replicate_of_lt hkl] at hk
            simp only [Option.some.injEq] at hk
            subst hk
            obtain ⟨u, hu, hru⟩ := hr.get hj
            have hjl : j < z.length := (List.getElem?_eq_some_iff.1 hj).1
            refine ⟨u, ?_, hru⟩
            have hzs : vs.toArray.size = i.size := by simp; omega
            have hg := zeros_get vs.toArray c.toNat m j (by omega) (by omega)
            rw [hzs] at hg
            unfold madeCells
            rw [hvc, hzs]
            show ((Array.range (c.toNat * i.size)).map (vs.toArray[· % i.size]!))[m * tsz P e + j]? = _
            rw [hti, hg]
            simpa using hu
          · show c.toNat * tsz P e ≤ (madeCells v.cells (c.toNat * i.size)).size
            rw [size_madeCells, hti]
            exact Nat.le_refl _
      · cases h
    · cases h
  · cases h

theorem optInt_R {β : Be} {s : S} {a : Act} (hs : SlotsR β s.sl a.tmps) {x : Option Operand} {n : Option Int} (h : optInt s x = some n) : (x = none ∧ n = none) ∨ ∃ k m, n = some m ∧ x.map a.eval = some (.int k m) := by
  cases x with
  | none => simp only [optInt, Option.some.injEq] at h; exact .inl ⟨rfl, h.symm⟩
  | some x =>
    simp only [optInt] at h
    split at h
    · rename_i k m hx
      simp only [Option.some.injEq] at h
      subst h
      have hv : a.eval x = .int k m := ev_R hs hx
      exact .inr ⟨k, m, rfl, by simp [hv]⟩
    · cases h
theorem execOp_slice (t : TypeId) (x : Operand) (lo hi : Option Operand) (ho : o.op = .slice t x lo hi none) {v : Value} {w' : World} (h : (Instr.sliceAt t (a.eval x) (lo.map a.eval) (hi.map a.eval) none).run P w = .ok v w') : (execOp a.eval o).run P w = .ok (.value v) w' := by
  unfold execOp
  rw [ho]
  simp only [Option.map_none, Sem.run_bind, h, Result.andThen_ok]
  rfl
theorem run_sliceAt_str {t : TypeId} (ht : tstr P t = true) (l : List UInt8) (lo hi : Option Value) (m n : Nat) (hb : (Instr.sliceBounds false l.length l.length lo hi none).run P w = .ok (m, n, l.length) w) :
    (Instr.sliceAt t (.string ⟨l.toArray⟩) lo hi none).run P w = .ok (.string ⟨((l.take n).drop m).toArray⟩) w := by
  rw [run_sliceAt_string w t _ lo hi none (tstr_und ht)]
  have hz : (ByteArray.mk l.toArray).size = l.length := rfl
  simp only [Instr.slice, Sem.run_bind, run_underlying (tstr_und ht), Result.andThen_ok, Option.isSome_none, Bool.false_eq_true, if_false, Sem.run_pure, hz, hb]
  congr 2
  apply ByteArray.ext
  apply Array.ext'
  simp [ByteArray.data_extract, List.extract_eq_take_drop, List.take_drop]
  by_cases hmn : m ≤ n
  · rw [Nat.add_sub_cancel' hmn]
  · rw [List.drop_eq_nil_of_le (by simp; omega), List.drop_eq_nil_of_le (by simp; omega)]
theorem run_bounds_none (b : Bool) (len cap : Nat) : (Instr.sliceBounds b len cap none none none).run P w = .ok (0, len, cap) w := by simp [Instr.sliceBounds]
theorem run_bounds_lo (b : Bool) (len cap : Nat) (k : IntKind) (m : Int) (h0 : 0 ≤ m) (h1 : m ≤ len) : (Instr.sliceBounds b len cap (some (.int k m)) none none).run P w = .ok (m.toNat, len, cap) w := by
  simp [Instr.sliceBounds, run_sliceBound, h0, h1]
theorem run_bounds_hi (b : Bool) (len cap : Nat) (k : IntKind) (m : Int) (h0 : 0 ≤ m) (h1 : m ≤ cap) : (Instr.sliceBounds b len cap none (some (.int k m)) none).run P w = .ok (0, m.toNat, cap) w := by
  simp [Instr.sliceBounds, run_sliceBound, h0, h1]
theorem run_bounds_both (b : Bool) (len cap : Nat) (k k' : IntKind) (m n : Int) (h0 : 0 ≤ m) (h1 : m ≤ n) (h2 : n ≤ cap) : (Instr.sliceBounds b len cap (some (.int k m)) (some (.int k' n)) none).run P w = .ok (m.toNat, n.toNat, cap) w := by
  have h3 : 0 ≤ n := by omega
  have h4 : m ≤ (n.toNat : Int) := by omega
  have e1 := run_sliceBound (P := P) w k m n.toNat .sliceB h0 h4
  have e2 : ∀ c, (Instr.sliceBound (.int k' n) cap c).run P w = .ok n.toNat w := fun c => run_sliceBound (P := P) w k' n cap c h3 h2
  cases b <;> simp [Instr.sliceBounds, e1, e2]
theorem run_sliceAt_sl {t e : TypeId} (ht : tel P t = some e) (hk : tknown P e = true) (ad : Option Addr) (len cap : Nat) (lo hi : Option Value) (m n : Nat) (hb : (Instr.sliceBounds true len cap lo hi none).run P w = .ok (m, n, cap) w) :
    (Instr.sliceAt t (.slice ad len cap) lo hi none).run P w = .ok (sliced ad m n cap (tsz P e)) w := by
  have hel : P.elem t = e := by simp [Program.elem, tel_und ht]
  have hu : P.underlying t = some (.slice (P.elem t)) := by rw [hel]; exact tel_und ht
  rw [run_sliceAt_slice w t _ lo hi none hu]
  have := run_slice_any w t ad len cap hu lo hi none
  rw [this, hb]
  simp only [Result.andThen_ok, hel, run_sizeOf' w (tknown_info hk)]
/-- A piece of a slice. -/
theorem sliced_R {n off len esz : Nat} {ad : Option Addr} {cap m q : Nat} (hlc : len ≤ cap) (hcm : cap ≤ maxLen) (h : cap = 0 ∨ ∃ p, β[n]? = some (some p) ∧ ad = some ⟨p.blk, p.base + off * p.esz, none⟩ ∧ (off + cap) * p.esz ≤ p.avail)
    (hp : ∀ p, β[n]? = some (some p) → p.esz = esz) (hmq : m ≤ q) (hq : q ≤ len) : ScR β (.sl n (off + m) (q - m)) (sliced ad m q cap esz) := by
  refine ⟨_, cap - m, rfl, by omega, by omega, ?_⟩
  by_cases hc : cap = m
  · exact .inl (by omega)
  · rcases h with h | ⟨p, hp', rfl, hav⟩
    · exact .inl (by omega)
    · refine .inr ⟨p, hp', ?_, ?_⟩
      · rw [if_neg hc, ← hp p hp']
        simp [Addr.add_lit, Nat.add_mul, Nat.add_assoc]
      · rw [show off + m + (cap - m) = off + cap from by omega]; exact hav
theorem op_slice (hs : HSim β s.hp w) (hsl : SlotsR β s.sl a.tmps) (t : TypeId) (x : Operand) (lo hi : Option Operand) (ho : o.op = .slice t x lo hi none) (h : aop P s ty (.slice t x lo hi none) = some r) (hc : r.c) : Good β s r w ((execOp a.eval o).run P w) := by
  simp only [aop] at h
  split at h
  · rename_i v lo' hi' hx hlo hhi
    have hlo' := optInt_R hsl hlo
    have hhi' := optInt_R hsl hhi
    split at h
    · rename_i l
      have hv : a.eval x = .string ⟨l.toArray⟩ := ev_R hsl hx
      split at h
      · rename_i ht
        rcases hlo' with ⟨rfl, rfl⟩ | ⟨k, m, rfl, hm⟩
        · rcases hhi' with ⟨rfl, rfl⟩ | ⟨k', n, rfl, hn⟩
          · simp only [aSlice, Option.some.injEq] at h
            subst h
            refine good_val hs (execOp_slice t x none none ho (by rw [hv]; exact run_sliceAt_str ht l none none 0 l.length (run_bounds_none _ _ _))) ?_
            show Value.string _ = _
            simp
          · simp only [aSlice, Option.some.injEq] at h
            subst h
            obtain ⟨h0, h1⟩ : 0 ≤ n ∧ n ≤ l.length := hc
            refine good_valc hs (execOp_slice t x none hi ho (by rw [hv, hn]; exact run_sliceAt_str ht l none _ 0 n.toNat (run_bounds_hi _ _ _ _ _ h0 h1))) ?_
            show Value.string _ = _
            simp
        · rcases hhi' with ⟨rfl, rfl⟩ | ⟨k', n, rfl, hn⟩
          · simp only [aSlice, Option.some.injEq] at h
            subst h
            obtain ⟨h0, h1⟩ : 0 ≤ m ∧ m ≤ l.length := hc
            refine good_valc hs (execOp_slice t x lo none ho (by rw [hv, hm]; exact run_sliceAt_str ht l _ none m.toNat l.length (run_bounds_lo _ _ _ _ _ h0 h1))) ?_
            show Value.string _ = _
            simp
          · simp only [aSlice, Option.some.injEq] at h
            subst h
            obtain ⟨h0, h1, h2⟩ : 0 ≤ m ∧ m ≤ n ∧ n ≤ l.length := hc
            refine good_valc hs (execOp_slice t x lo hi ho (by rw [hv, hm, hn]; exact run_sliceAt_str ht l _ _ m.toNat n.toNat (run_bounds_both _ _ _ _ _ _ _ h0 h1 h2))) ?_
            rfl
      · cases h
    · rename_i n off len
      have hvx : ScR β (.sl n off len) (a.eval x) := ev_R hsl hx
      split at h
      · rename_i e sz ob he0 hob
        obtain ⟨he, hkn, rfl⟩ := tsl_facts he0
        split at h
        · rename_i hesz
          obtain ⟨ad, cap, hxe, hlc, hcm, hor⟩ := hvx
          have hp : ∀ p, β[n]? = some (some p) → p.esz = tsz P e := fun p hp => by
            obtain ⟨he', _⟩ := obj_at hs (obj_get hob) hp
            rw [he', hesz]
          rcases hlo' with ⟨rfl, rfl⟩ | ⟨k, m, rfl, hm⟩
          · rcases hhi' with ⟨rfl, rfl⟩ | ⟨k', q, rfl, hn⟩
            · simp only [aSlice, Option.some.injEq] at h
              subst h
              refine good_val hs (execOp_slice t x none none ho (by rw [hxe]; exact run_sliceAt_sl he hkn ad len cap none none 0 len (run_bounds_none _ _ _))) ?_
              have := sliced_R (m := 0) (q := len) hlc hcm hor hp (Nat.zero_le _) (Nat.le_refl _)
              show ScR β (Sc.sl n off len) _
              simpa using this
            · simp only [aSlice, Option.some.injEq] at h
              subst h
              obtain ⟨h0, h1⟩ : 0 ≤ q ∧ q ≤ len := hc
              refine good_valc hs (execOp_slice t x none hi ho (by rw [hxe, hn]; exact run_sliceAt_sl he hkn ad len cap none _ 0 q.toNat (run_bounds_hi _ _ _ _ _ h0 (by omega)))) ?_
              have := sliced_R (m := 0) (q := q.toNat) hlc hcm hor hp (Nat.zero_le _) (by omega)
              show ScR β (Sc.sl n off q.toNat) _
              simpa using this
          · rcases hhi' with ⟨rfl, rfl⟩ | ⟨k', q, rfl, hn⟩
            · simp only [aSlice, Option.some.injEq] at h
              subst h
              obtain ⟨h0, h1⟩ : 0 ≤ m ∧ m ≤ len := hc
              refine good_valc hs (execOp_slice t x lo none ho (by rw [hxe, hm]; exact run_sliceAt_sl he hkn ad len cap _ none m.toNat len (run_bounds_lo _ _ _ _ _ h0 h1))) ?_
              exact sliced_R hlc hcm hor hp (by omega) (Nat.le_refl _)
            · simp only [aSlice, Option.some.injEq] at h
              subst h
              obtain ⟨h0, h1, h2⟩ : 0 ≤ m ∧ m ≤ q ∧ q ≤ len := hc
              refine good_valc hs (execOp_slice t x lo hi ho (by rw [hxe, hm, hn]; exact run_sliceAt_sl he hkn ad len cap _ _ m.toNat q.toNat (run_bounds_both _ _ _ _ _ _ _ h0 h1 (by omega)))) ?_
              exact sliced_R hlc hcm hor hp (by omega) (by omega)
        · cases h
      · cases h
    · cases h
  · cases h
end
end Go.Proofs.YtoghbjbfldlfpaaGreat
