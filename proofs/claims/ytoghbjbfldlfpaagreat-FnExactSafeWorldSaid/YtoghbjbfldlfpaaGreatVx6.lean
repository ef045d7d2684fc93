/-
  VX, part 6: computing, converting, slicing, addresses, the builtins without append.
-/
import Derived.Test.YtoghbjbfldlfpaaGreatVx5
import Derived.Laws.Concat
import Derived.Laws.StructEq
namespace Go.Proofs.YtoghbjbfldlfpaaGreat
open Go.RowKit
set_option linter.unusedVariables false
set_option linter.unusedSimpArgs false

section
variable {P : Program} {β : Be} {s : S} {a : Act} {w : World} {o : Oper} {r : OpR} {ty : TypeId}

theorem op_nilCheck (hs : HSim β s.hp w) (hsl : SlotsR β s.sl a.tmps) (x : Operand) (ho : o.op = .nilCheck x) (h : aop P s ty (.nilCheck x) = some r) : Good β s r w ((execOp a.eval o).run P w) := by
  simp only [aop] at h
  split at h
  · rename_i n k j hx
    have hv : ScR β (.pt n k j) (a.eval x) := ev_R hsl hx
    simp only [Option.some.injEq] at h
    subst h
    refine good_val hs (v := a.eval x) ?_ hv
    obtain ⟨p, hp, hpe⟩ := hv
    unfold execOp
    rw [ho]
    simp [hpe]
  · rename_i f caps hx
    have hv : AVR β (.cl f caps) (a.eval x) := ev_R hsl hx
    simp only [Option.some.injEq] at h
    subst h
    refine good_val hs (v := a.eval x) ?_ hv
    obtain ⟨vs, hpe, _⟩ := hv
    unfold execOp
    rw [ho]
    simp [hpe]
  · cases h

theorem run_int {op : BinOp} {k k' : IntKind} {x y : Int} {t : TypeId} {q : Sc} {c : Prop} (h : aBin P t op (.int k x) (.int k' y) = some (q, c)) (hc : c) (X Y : Operand) :
    ∃ v, (do eqGuard op t X Y (.int k x) (.int k' y); binOp op t (.int k x) (.int k' y)).run P w = .ok v w ∧ ScR β q v := by
  have hg : ∀ (m : Sem Value), (do eqGuard op t X Y (.int k x) (.int k' y); m).run P w = m.run P w := by
    intro m
    cases op <;> simp [eqGuard]
  rw [hg]
  cases op with
  | shl =>
    simp only [aBin, Option.some.injEq, Prod.mk.injEq] at h
    obtain ⟨rfl, rfl⟩ := h
    exact ⟨_, by simp [binOp, Op.shift, Int.not_lt.2 hc], rfl⟩
  | shr =>
    simp only [aBin, Option.some.injEq, Prod.mk.injEq] at h
    obtain ⟨rfl, rfl⟩ := h
    exact ⟨_, by simp [binOp, Op.shift, Int.not_lt.2 hc], rfl⟩
  | andNot =>
    simp only [aBin, aInt] at h
    split at h <;> cases h
  | quo =>
    simp only [aBin, aInt] at h
    split at h
    · rename_i hk
      subst hk
      simp only [Option.some.injEq, Prod.mk.injEq] at h
      obtain ⟨rfl, rfl⟩ := h
      exact ⟨_, by simp [binOp, Op.intDiv, hc], rfl⟩
    · cases h
  | rem =>
    simp only [aBin, aInt] at h
    split at h
    · rename_i hk
      subst hk
      simp only [Option.some.injEq, Prod.mk.injEq] at h
      obtain ⟨rfl, rfl⟩ := h
      exact ⟨_, by simp [binOp, Op.intDiv, hc], rfl⟩
    · cases h
  | _ =>
    simp only [aBin, aInt] at h
    split at h
    · rename_i hk
      subst hk
      simp only [Option.some.injEq, Prod.mk.injEq] at h
      obtain ⟨rfl, rfl⟩ := h
      exact ⟨_, by simp [binOp, Op.intArith, Op.intBits, Op.intCmp]; try rfl, rfl⟩
    · cases h
theorem str_add (x y : List UInt8) : (ByteArray.mk x.toArray) ++ (ByteArray.mk y.toArray) = ByteArray.mk (x ++ y).toArray := by
  apply ByteArray.ext
  simp
theorem run_str {op : BinOp} {x y : List UInt8} {t : TypeId} {q : Sc} {c : Prop} (h : aBin P t op (.st x) (.st y) = some (q, c)) (hc : c) (X Y : Operand) :
    ∃ v, (do eqGuard op t X Y (.string ⟨x.toArray⟩) (.string ⟨y.toArray⟩); binOp op t (.string ⟨x.toArray⟩) (.string ⟨y.toArray⟩)).run P w = .ok v w ∧ ScR β q v := by
  have hg : ∀ (m : Sem Value), (do eqGuard op t X Y (.string ⟨x.toArray⟩) (.string ⟨y.toArray⟩); m).run P w = m.run P w := by
    intro m
    cases op <;> simp [eqGuard]
  rw [hg]
  cases op with
  | add =>
    simp only [aBin, Option.some.injEq, Prod.mk.injEq] at h
    obtain ⟨rfl, rfl⟩ := h
    refine ⟨.string ⟨(x ++ y).toArray⟩, ?_, rfl⟩
    rw [binOp_string_add, run_string_add_sum w _ _ (by simp [ByteArray.size]; omega), str_add]
  | eql =>
    simp only [aBin, Option.some.injEq, Prod.mk.injEq] at h
    obtain ⟨rfl, rfl⟩ := h
    exact ⟨_, by simp [binOp, Op.stringOp], rfl⟩
  | neq =>
    simp only [aBin, Option.some.injEq, Prod.mk.injEq] at h
    obtain ⟨rfl, rfl⟩ := h
    exact ⟨_, by simp [binOp, Op.stringOp], rfl⟩
  | _ => simp only [aBin] at h; cases h
theorem run_eq_boolAt {t : TypeId} (ht : tbool P t = true) (d : Nat) (x y : Bool) : (Op.equalIn (d + 1) t (.bool x) (.bool y)).run P w = .ok (x == y) w := by
  simp only [Op.equalIn, Sem.run_bind, run_underlying (tbool_und ht), Result.andThen_ok, Sem.run_pure]
theorem run_eq_bool {t : TypeId} (ht : tbool P t = true) (x y : Bool) : (Op.equal t (.bool x) (.bool y)).run P w = .ok (x == y) w := by
  exact run_eq_boolAt ht 9999 x y
theorem run_boo {op : BinOp} {x y : Bool} {t : TypeId} {q : Sc} {c : Prop} (h : aBin P t op (.bo x) (.bo y) = some (q, c)) (X Y : Operand) :
    ∃ v, (do eqGuard op t X Y (.bool x) (.bool y); binOp op t (.bool x) (.bool y)).run P w = .ok v w ∧ ScR β q v := by
  have hg : ∀ (m : Sem Value), (do eqGuard op t X Y (.bool x) (.bool y); m).run P w = m.run P w := by
    intro m
    cases op <;> simp [eqGuard]
  rw [hg]
  cases op with
  | eql =>
    simp only [aBin] at h
    split at h
    · rename_i ht
      simp only [Option.some.injEq, Prod.mk.injEq] at h
      obtain ⟨rfl, rfl⟩ := h
      exact ⟨_, by simp only [binOp, Sem.run_bind, run_eq_bool ht, Result.andThen_ok, Sem.run_pure], rfl⟩
    · cases h
  | neq =>
    simp only [aBin] at h
    split at h
    · rename_i ht
      simp only [Option.some.injEq, Prod.mk.injEq] at h
      obtain ⟨rfl, rfl⟩ := h
      exact ⟨_, by simp only [binOp, Sem.run_bind, run_eq_bool ht, Result.andThen_ok, Sem.run_pure], rfl⟩
    · cases h
  | _ => simp only [aBin] at h; cases h
theorem op_bin (hs : HSim β s.hp w) (hsl : SlotsR β s.sl a.tmps) (op : BinOp) (t u : TypeId) (x y : Operand) (ho : o.op = .binOp op t x y u) (h : aop P s ty (.binOp op t x y u) = some r) (hc : r.c) : Good β s r w ((execOp a.eval o).run P w) := by
  simp only [aop] at h
  split at h
  · rename_i p q hx hy
    have hvx : ScR β p (a.eval x) := ev_R hsl hx
    have hvy : ScR β q (a.eval y) := ev_R hsl hy
    split at h
    · rename_i res c hb
      simp only [Option.some.injEq] at h
      subst h
      have hc' : c := hc
      have key : ∃ v, (do eqGuard op t x y (a.eval x) (a.eval y); binOp op t (a.eval x) (a.eval y)).run P w = .ok v w ∧ ScR β res v := by
        cases p with
        | int k n => cases q with
          | int k' m =>
            have e1 : a.eval x = .int k n := hvx
            have e2 : a.eval y = .int k' m := hvy
            rw [e1, e2]; exact run_int hb hc' x y
          | _ => simp only [aBin] at hb; cases hb
        | st l => cases q with
          | st m =>
            have e1 : a.eval x = .string ⟨l.toArray⟩ := hvx
            have e2 : a.eval y = .string ⟨m.toArray⟩ := hvy
            rw [e1, e2]; exact run_str hb hc' x y
          | _ => simp only [aBin] at hb; cases hb
        | bo l => cases q with
          | bo m =>
            have e1 : a.eval x = .bool l := hvx
            have e2 : a.eval y = .bool m := hvy
            rw [e1, e2]; exact run_boo hb x y
          | _ => simp only [aBin] at hb; cases hb
        | _ => simp only [aBin] at hb; cases hb
      obtain ⟨v, hrun, hr⟩ := key
      refine good_valc hs (v := v) ?_ hr
      unfold execOp
      rw [ho]
      simp only [Sem.run_bind] at hrun ⊢
      rw [hrun]
      rfl
    · cases h
  · rename_i p q hx hy
    obtain ⟨vs, hpe, hl⟩ : AVR β (.ag p) (a.eval x) := ev_R hsl hx
    obtain ⟨us, hqe, hm⟩ : AVR β (.ag q) (a.eval y) := ev_R hsl hy
    split at h
    · simp only [Option.some.injEq] at h
      subst h
      obtain ⟨h1, _⟩ := (show EqRun P t p q (scsEq p q) from hc) β w x y vs us hl hm
      refine good_valc hs (v := .bool (scsEq p q)) ?_ rfl
      unfold execOp
      rw [ho]
      simp only [Sem.run_bind] at h1 ⊢
      rw [hpe, hqe, h1]
      rfl
    · simp only [Option.some.injEq] at h
      subst h
      obtain ⟨_, h1⟩ := (show EqRun P t p q (scsEq p q) from hc) β w x y vs us hl hm
      refine good_valc hs (v := .bool (!scsEq p q)) ?_ rfl
      unfold execOp
      rw [ho]
      simp only [Sem.run_bind] at h1 ⊢
      rw [hpe, hqe, h1]
      rfl
    · cases h
  · cases h
theorem op_un (hs : HSim β s.hp w) (hsl : SlotsR β s.sl a.tmps) (op : UnOp) (t : TypeId) (x : Operand) (ho : o.op = .unOp op t x) (h : aop P s ty (.unOp op t x) = some r) : Good β s r w ((execOp a.eval o).run P w) := by
  simp only [aop] at h
  split at h
  · rename_i b hx
    have hv : a.eval x = .bool b := ev_R hsl hx
    split at h
    · simp only [Option.some.injEq] at h
      subst h
      refine good_val hs (v := .bool (!b)) ?_ rfl
      unfold execOp
      rw [ho]
      simp [hv, Op.unary]
    · cases h
  · rename_i k n hx
    have hv : a.eval x = .int k n := ev_R hsl hx
    split at h
    · simp only [Option.some.injEq] at h
      subst h
      refine good_val hs (v := .int k (k.wrap (0 - n))) ?_ rfl
      unfold execOp
      rw [ho]
      simp [hv, Op.unary, Op.intArith]
    · cases h
  · cases h
theorem op_fieldAddr (hs : HSim β s.hp w) (hsl : SlotsR β s.sl a.tmps) (t : TypeId) (x : Operand) (f : Nat) (ho : o.op = .fieldAddr t x f) (h : aop P s ty (.fieldAddr t x f) = some r) : Good β s r w ((execOp a.eval o).run P w) := by
  simp only [aop] at h
  split at h
  · rename_i n k j off sz hx hf
    obtain ⟨p, hp, hpe⟩ : ScR β (.pt n k j) (a.eval x) := ev_R hsl hx
    simp only [Option.some.injEq] at h
    subst h
    unfold tfld at hf
    split at hf
    · rename_i fs hfs
      split at hf
      · rename_i g hg
        split at hf
        · cases hf
        · rename_i hz
          simp only [Option.some.injEq, Prod.mk.injEq] at hf
          obtain ⟨rfl, rfl⟩ := hf
          refine good_val hs (v := .pointer (some ⟨p.blk, p.base + k * p.esz + (j + g.offset), none⟩)) ?_ ⟨p, hp, rfl⟩
          unfold execOp
          rw [ho]
          have hi : (P.info? g.type).isSome = true := tsz_pos (by omega)
          simp [hpe, Instr.fieldAt, run_underlying hfs, hg, Instr.sureAddr, fieldPlace, run_sizeOf' w hi, hz, Addr.add_lit, Nat.add_assoc]
      · cases hf
    · cases hf
  · cases h
theorem op_indexAddr (hs : HSim β s.hp w) (hsl : SlotsR β s.sl a.tmps) (t : TypeId) (x i : Operand) (ho : o.op = .indexAddr t x i) (h : aop P s ty (.indexAddr t x i) = some r) (hc : r.c) : Good β s r w ((execOp a.eval o).run P w) := by
  simp only [aop] at h
  split at h
  · rename_i n off len k m e sz hx hi ht0
    obtain ⟨ht, hkn, rfl⟩ := tsl_facts ht0
    have hvx : ScR β (.sl n off len) (a.eval x) := ev_R hsl hx
    have hvi : a.eval i = .int k m := ev_R hsl hi
    split at h
    · rename_i ob hob
      split at h
      · rename_i hesz
        simp only [Option.some.injEq] at h
        subst h
        obtain ⟨h0, h1⟩ : 0 ≤ m ∧ m < len := hc
        obtain ⟨ad, cap, hxe, hlc, hcm, hor⟩ := hvx
        rcases hor with rfl | ⟨p, hp, rfl, hav⟩
        · omega
        · obtain ⟨he, _⟩ := obj_at hs (obj_get hob) hp
          refine good_valc hs (v := .pointer (some ⟨p.blk, p.base + (off + m.toNat) * p.esz + 0, none⟩)) ?_ ⟨p, hp, rfl⟩
          unfold execOp
          rw [ho]
          have hes : p.base + (off + m.toNat) * p.esz = p.base + off * p.esz + m.toNat * tsz P e := by rw [← hesz, ← he, Nat.add_mul, Nat.add_assoc]
          simp [hxe, hvi, Instr.indexAt, asIntOf, run_underlying (tel_und ht), h0, h1, run_sizeOf' w (tknown_info hkn), Addr.add_lit, hes]
      · cases h
    · cases h
  · cases h
theorem op_index (hs : HSim β s.hp w) (hsl : SlotsR β s.sl a.tmps) (t : TypeId) (x i : Operand) (ho : o.op = .index t x i) (h : aop P s ty (.index t x i) = some r) (hc : r.c) : Good β s r w ((execOp a.eval o).run P w) := by
  simp only [aop] at h
  split at h
  · rename_i l k m hx hi
    have hvx : a.eval x = .string ⟨l.toArray⟩ := ev_R hsl hx
    have hvi : a.eval i = .int k m := ev_R hsl hi
    split at h
    · rename_i ht
      simp only [Option.some.injEq] at h
      subst h
      obtain ⟨h0, h1⟩ : 0 ≤ m ∧ m < l.length := hc
      have hlt : m.toNat < l.length := by omega
      refine good_valc hs (v := .int .u8 (l.getD m.toNat 0).toNat) ?_ rfl
      unfold execOp
      rw [ho]
      have hg : (ByteArray.mk l.toArray)[m.toNat]? = some (l[m.toNat]'hlt) := by
        rw [getElem?_pos (ByteArray.mk l.toArray) m.toNat (by simpa [ByteArray.size] using hlt)]
        simp [ByteArray.getElem_eq_getElem_data]
      simp [hvx, hvi, Instr.index, asIntOf, run_underlying (tstr_und ht), h0, hg, List.getD_eq_getElem?_getD, List.getElem?_eq_getElem hlt]
    · cases h
  · cases h
theorem op_extract (hs : HSim β s.hp w) (hsl : SlotsR β s.sl a.tmps) (x : Operand) (i : Nat) (ho : o.op = .extract x i) (h : aop P s ty (.extract x i) = some r) : Good β s r w ((execOp a.eval o).run P w) := by
  simp only [aop] at h
  split at h
  · rename_i l hx
    obtain ⟨vs, hpe, hl⟩ : AVR β (.tu l) (a.eval x) := ev_R hsl hx
    split at h
    · rename_i c hc
      simp only [Option.some.injEq] at h
      subst h
      obtain ⟨v, hv, hr⟩ := hl.get hc
      refine good_val hs (v := v) ?_ (Co.av_R hr)
      unfold execOp
      rw [ho]
      simp [hpe, Instr.extract, hv]
    · cases h
  · cases h
theorem op_makeFunc (hs : HSim β s.hp w) (hsl : SlotsR β s.sl a.tmps) (f : FuncId) (first caps : Array Operand) (ho : o.op = .makeFunc (.func f) first caps) (h : aop P s ty (.makeFunc (.func f) first caps) = some r) : Good β s r w ((execOp a.eval o).run P w) := by
  simp only [aop] at h
  split at h
  · rename_i hf
    have hf' : first = #[] := Array.eq_empty_of_size_eq_zero hf
    subst hf'
    split at h
    · rename_i l hl
      simp only [Option.some.injEq] at h
      subst h
      refine good_val hs (v := .func (.func f) #[] (caps.toList.map a.eval).toArray) ?_ ⟨_, rfl, scals_R hsl hl⟩
      unfold execOp
      rw [ho]
      have e : caps.map a.eval = (caps.toList.map a.eval).toArray := by apply Array.ext'; simp
      simp [Instr.makeFunc, e]
    · cases h
  · cases h
theorem isEmpty_two {α : Type} {l : Array α} {x y : α} (h : l.toList = [x, y]) : l = #[x, y] := by apply Array.ext'; simpa using h
theorem isEmpty_one {α : Type} {l : Array α} {x : α} (h : l.toList = [x]) : l = #[x] := by apply Array.ext'; simpa using h
theorem op_len (hs : HSim β s.hp w) (hsl : SlotsR β s.sl a.tmps) (args : Array Operand) (at_ : Array TypeId) (ho : o.op = .call ⟨.builtin .len, args, at_⟩) (h : aop P s ty (.call ⟨.builtin .len, args, at_⟩) = some r) : Good β s r w ((execOp a.eval o).run P w) := by
  simp only [aop] at h
  split at h
  · rename_i x t ha ht
    have ha' := isEmpty_one ha
    have ht' := isEmpty_one ht
    subst ha'; subst ht'
    split at h
    · rename_i l hx
      have hv : a.eval x = .string ⟨l.toArray⟩ := ev_R hsl hx
      split at h
      · rename_i hs'
        simp only [Option.some.injEq] at h
        subst h
        refine good_val hs (v := .int .i64 l.length) ?_ rfl
        unfold execOp
        rw [ho]
        have hz : (ByteArray.mk l.toArray).size = l.length := rfl
        simp only [resolve, invoke, builtin, Builtin.len_, hv, run_underlying (tstr_und hs'), goInt, hz, Sem.run_bind, Sem.run_pure, Result.andThen_ok, List.map_toArray, List.map_cons, List.map_nil, List.getElem?_toArray, List.getElem?_cons_zero]
      · cases h
    · rename_i n off len hx
      obtain ⟨ad, cap, hxe, _⟩ : ScR β (.sl n off len) (a.eval x) := ev_R hsl hx
      split at h
      · rename_i q hs'
        simp only [Option.some.injEq] at h
        subst h
        obtain ⟨e, qn⟩ := q
        obtain ⟨he, _⟩ := tsl_facts hs'
        refine good_val hs (v := .int .i64 len) ?_ rfl
        unfold execOp
        rw [ho]
        simp [resolve, invoke, builtin, Builtin.len_, hxe, run_underlying (tel_und he), goInt]
      · cases h
    · rename_i hx
      obtain ⟨ad, hxe⟩ : ScR β .nil (a.eval x) := ev_R hsl hx
      split at h
      · rename_i q hs'
        simp only [Option.some.injEq] at h
        subst h
        obtain ⟨e, qn⟩ := q
        obtain ⟨he, _⟩ := tsl_facts hs'
        refine good_val hs (v := .int .i64 0) ?_ rfl
        unfold execOp
        rw [ho]
        simp [resolve, invoke, builtin, Builtin.len_, hxe, run_underlying (tel_und he), goInt]
      · cases h
    · cases h
  · cases h
theorem op_min (hs : HSim β s.hp w) (hsl : SlotsR β s.sl a.tmps) (args : Array Operand) (at_ : Array TypeId) (ho : o.op = .call ⟨.builtin .min, args, at_⟩) (h : aop P s ty (.call ⟨.builtin .min, args, at_⟩) = some r) : Good β s r w ((execOp a.eval o).run P w) := by
  simp only [aop] at h
  split at h
  · rename_i x y ha
    have ha' := isEmpty_two ha
    subst ha'
    split at h
    · rename_i k m k' n hx hy
      have hvx : a.eval x = .int k m := ev_R hsl hx
      have hvy : a.eval y = .int k' n := ev_R hsl hy
      simp only [Option.some.injEq] at h
      subst h
      refine good_val hs (v := .int k (if n < m then n else m)) ?_ rfl
      unfold execOp
      rw [ho]
      simp [resolve, invoke, builtin, Builtin.min_, Builtin.min2, hvx, hvy]
    · cases h
  · cases h
theorem op_max (hs : HSim β s.hp w) (hsl : SlotsR β s.sl a.tmps) (args : Array Operand) (at_ : Array TypeId) (ho : o.op = .call ⟨.builtin .max, args, at_⟩) (h : aop P s ty (.call ⟨.builtin .max, args, at_⟩) = some r) : Good β s r w ((execOp a.eval o).run P w) := by
  simp only [aop] at h
  split at h
  · rename_i x y ha
    have ha' := isEmpty_two ha
    subst ha'
    split at h
    · rename_i k m k' n hx hy
      have hvx : a.eval x = .int k m := ev_R hsl hx
      have hvy : a.eval y = .int k' n := ev_R hsl hy
      simp only [Option.some.injEq] at h
      subst h
      refine good_val hs (v := .int k (if m < n then n else m)) ?_ rfl
      unfold execOp
      rw [ho]
      simp [resolve, invoke, builtin, Builtin.max_, Builtin.max2, hvx, hvy]
    · cases h
  · cases h
end
end Go.Proofs.YtoghbjbfldlfpaaGreat
