/-
  VX, part 15: a region that draws its order: run in one order, if all orders come to the same.
-/
import Derived.Test.YtoghbjbfldlfpaaGreatVx14
import Derived.Orders
namespace Go.Proofs.YtoghbjbfldlfpaaGreat
open Go.RowKit
set_option linter.unusedVariables false
set_option linter.unusedSimpArgs false

/-! ### What an operation looks at -/
def opTmps (op : Op) : List Tmp := op.operands.toList.filterMap fun | .tmp t => some t | _ => none
/-- Slots that an operation reads, its guard's among them. -/
def looks (r : Array Oper) (o : Oper) : List Tmp :=
  opTmps o.op ++ (match o.guard with
    | some (g, _) => ((r[g]?).bind (·.dst)).toList
    | none => [])
/-- 0: computes; 1: reads memory; 2: makes memory; 3: a call; 4: writes. -/
def clsOp (P : Program) (op : Op) : Nat :=
  match op with
  | .convert s d _ => match tcv P s d with
    | some (.int _) | some .str => 0
    | some (.s2b _) => 2
    | some .b2s => 1
    | none => 4
  | .move _ | .assign _ | .pick .. | .build .. | .nilCheck _ | .binOp .. | .unOp .. | .fieldAddr .. | .index .. | .extract .. => 0
  | .call ⟨.builtin .len, _, _⟩ | .call ⟨.builtin .min, _, _⟩ | .call ⟨.builtin .max, _, _⟩ => 0
  | .load .. | .indexAddr .. | .slice .. => 1
  | .alloc _ | .box .. | .buildSlice .. | .makeSlice .. => 2
  | .call ⟨.value _, _, _⟩ => 3
  | _ => 4
def cls (P : Program) (o : Oper) : Nat := clsOp P o.op
def optNe (a b : Option Tmp) : Bool :=
  match a, b with
  | some x, some y => x != y
  | _, _ => true
def notIn (a : Option Tmp) (l : List Tmp) : Bool :=
  match a with
  | some x => !l.contains x
  | none => true
/-- i, which computes or reads, may go ahead of j. -/
def indepB (P : Program) (r : Array Oper) (i j : Oper) : Bool :=
  optNe i.dst j.dst && notIn i.dst (looks r j) && notIn j.dst (looks r i) && (cls P i == 0 && cls P j != 5 || cls P i == 1 && cls P j != 4)

theorem Slots.put_comm (s : Slots) (a b : Nat) (v u : Option AV) (h : a ≠ b) : (s.put a v).put b u = (s.put b u).put a v := by
  unfold Slots.put
  by_cases hc : a / 16 = b / 16
  · rw [hc]
    by_cases hl : b / 16 < s.length
    · simp only [List.getD_eq_getElem?_getD, List.getElem?_set_self hl, Option.getD_some, List.set_set]
      congr 1
      exact List.set_comm _ _ (by omega)
    · have h1 : ∀ x, s.set (b / 16) x = s := fun x => List.set_eq_of_length_le (by omega)
      simp only [h1]
  · have h1 : ∀ x, (s.set (a / 16) x).getD (b / 16) [] = s.getD (b / 16) [] := fun x => by
      simp only [List.getD_eq_getElem?_getD, List.getElem?_set_ne hc]
    have h2 : ∀ x, (s.set (b / 16) x).getD (a / 16) [] = s.getD (a / 16) [] := fun x => by
      simp only [List.getD_eq_getElem?_getD, List.getElem?_set_ne (Ne.symm hc)]
    rw [h1, h2]
    exact List.set_comm _ _ hc
theorem get_put_ne (s : Slots) (d t : Nat) (v : Option AV) (h : d ≠ t) : (s.put d v).get t = s.get t := by
  rw [Slots.get_put, if_neg (Ne.symm h)]

/-- Two states that an operation cannot tell apart by their slots. -/
def Alike (l : List Tmp) (s s' : S) : Prop := ∀ t ∈ l, s.sl.get t = s'.sl.get t
theorem alike_put {l : List Tmp} {s : S} {d : Option Tmp} {v : Option AV} {h : Hp} (hd : notIn d l = true) : Alike l s (s.put d v h) := by
  intro t ht
  cases d with
  | none => rfl
  | some d =>
    have hne : d ≠ t := fun e => by
      subst e
      simp only [notIn, Bool.not_eq_true', List.contains_eq_mem, decide_eq_false_iff_not] at hd
      exact hd ht
    exact (get_put_ne s.sl d t v hne).symm
theorem ev_alike {s s' : S} {x : Operand} (h : ∀ t, x = .tmp t → s.sl.get t = s'.sl.get t) : s.ev x = s'.ev x := by
  cases x with
  | tmp t => exact h t rfl
  | _ => rfl
theorem mem_opTmps {op : Op} {t : Tmp} (h : (.tmp t : Operand) ∈ op.operands.toList) : t ∈ opTmps op := by
  unfold opTmps
  rw [List.mem_filterMap]
  exact ⟨.tmp t, h, rfl⟩
theorem parts_alike {s s' : S} : ∀ {l : List (Nat × Operand)}, (∀ p ∈ l, s.ev p.2 = s'.ev p.2) → s.parts l = s'.parts l
  | [], _ => rfl
  | (i, x) :: l, h => by
    have h1 := h (i, x) (by simp)
    dsimp only at h1
    simp only [S.parts, h1, parts_alike (l := l) (fun p hp => h p (by simp [hp]))]
theorem scals_alike {s s' : S} : ∀ {l : List Operand}, (∀ x ∈ l, s.ev x = s'.ev x) → s.scals l = s'.scals l
  | [], _ => rfl
  | x :: l, h => by
    have h1 := h x (by simp)
    simp only [S.scals, h1, scals_alike (l := l) (fun p hp => h p (by simp [hp]))]
theorem evs_alike {s s' : S} : ∀ {l : List Operand}, (∀ x ∈ l, s.ev x = s'.ev x) → s.evs l = s'.evs l
  | [], _ => rfl
  | x :: l, h => by
    have h1 := h x (by simp)
    simp only [S.evs, h1, evs_alike (l := l) (fun p hp => h p (by simp [hp]))]
theorem optInt_alike {s s' : S} {x : Option Operand} (h : ∀ y, x = some y → s.ev y = s'.ev y) : optInt s x = optInt s' x := by
  cases x with
  | none => rfl
  | some y => simp only [optInt, h y rfl]
/-- An operation does the same at two states that it cannot tell apart. -/
theorem aop_alike {P : Program} {s s' : S} {ty : TypeId} {op : Op} (hh : s.hp = s'.hp) (h : Alike (opTmps op) s s') : aop P s ty op = aop P s' ty op := by
  have ev : ∀ x, x ∈ op.operands.toList → s.ev x = s'.ev x := fun x hx => ev_alike fun t ht => h t (mem_opTmps (by rw [← ht]; exact hx))
  have ob : ∀ o, s.obj o = s'.obj o := fun o => by unfold S.obj; rw [hh]
  have vl : ∀ v, s.val v = s'.val v := fun v => by unfold S.val; rw [hh]
  have vc : ∀ v c, s.valc v c = s'.valc v c := fun v c => by unfold S.valc; rw [hh]
  have nw : ∀ o v, s.new o v = s'.new o v := fun o v => by unfold S.new; rw [hh]
  have sl : ∀ v a b, aSlice s v a b = aSlice s' v a b := fun v a b => by
    unfold aSlice
    simp only [vl, vc]
  have ap : ∀ t a x, aAppend P s t a x = aAppend P s' t a x := fun t a x => by
    unfold aAppend
    simp only [vl, ob, hh]
  cases op with
  | move x => simp only [aop, ev x (by simp [Op.operands]), vl]
  | assign x => simp only [aop, ev x (by simp [Op.operands]), vl]
  | pick c x y => simp only [aop, ev c (by simp [Op.operands]), ev x (by simp [Op.operands]), ev y (by simp [Op.operands]), vl]
  | alloc e => simp only [aop, nw, hh]
  | box e x => simp only [aop, ev x (by simp [Op.operands]), nw, hh]
  | build t ps =>
    have := parts_alike (s := s) (s' := s') (l := ps.toList) (fun p hp => ev p.2 (by simp only [Op.operands, List.mem_map]; exact ⟨p, hp, rfl⟩))
    simp only [aop, this, vl]
  | buildSlice t n ps =>
    have := parts_alike (s := s) (s' := s') (l := ps.toList) (fun p hp => ev p.2 (by simp only [Op.operands, List.mem_map]; exact ⟨p, hp, rfl⟩))
    simp only [aop, this, nw, hh]
  | load t x => simp only [aop, ev x (by simp [Op.operands]), ob, vl]
  | store t x y => simp only [aop, ev x (by simp [Op.operands]), ev y (by simp [Op.operands]), ob, hh]
  | nilCheck x => simp only [aop, ev x (by simp [Op.operands]), vl]
  | binOp o t x y u => simp only [aop, ev x (by simp [Op.operands]), ev y (by simp [Op.operands]), vc]
  | unOp o t x => simp only [aop, ev x (by simp [Op.operands]), vl]
  | convert a b x => simp only [aop, ev x (by simp [Op.operands]), vl, vc, ob, hh]
  | makeSlice t x y => simp only [aop, ev x (by simp [Op.operands]), ev y (by simp [Op.operands]), hh]
  | slice t x lo hi mx =>
    cases mx with
    | none =>
      have h1 := optInt_alike (s := s) (s' := s') (x := lo) (fun y hy => ev y (by subst hy; simp [Op.operands]))
      have h2 := optInt_alike (s := s) (s' := s') (x := hi) (fun y hy => ev y (by subst hy; simp [Op.operands]))
      simp only [aop, ev x (by simp [Op.operands]), h1, h2, ob, sl]
    | some m => rfl
  | fieldAddr t x f => simp only [aop, ev x (by simp [Op.operands]), vl]
  | indexAddr t x i => simp only [aop, ev x (by simp [Op.operands]), ev i (by simp [Op.operands]), ob, vc]
  | index t x i => simp only [aop, ev x (by simp [Op.operands]), ev i (by simp [Op.operands]), vc]
  | extract x i => simp only [aop, ev x (by simp [Op.operands]), vl]
  | makeFunc f first caps =>
    cases f with
    | func f =>
      have := scals_alike (s := s) (s' := s') (l := caps.toList) (fun x hx => ev x (by simp [Op.operands]; right; simpa using hx))
      simp only [aop, this, vl]
    | _ => rfl
  | call c =>
    obtain ⟨callee, args, at_⟩ := c
    cases callee with
    | builtin b =>
      have hx : ∀ x, x ∈ args.toList → s.ev x = s'.ev x := fun x hx => ev x (by simp [Op.operands, Call.operands]; simpa using hx)
      cases b with
      | len =>
        simp only [aop]
        split
        · rename_i x t ha ht
          simp only [hx x (by simp [ha]), vl]
        · rfl
      | append =>
        simp only [aop]
        split
        · rename_i x y t t' ha ht
          simp only [hx x (by simp [ha]), hx y (by simp [ha]), ap]
        · rfl
      | min =>
        simp only [aop]
        split
        · rename_i x y ha
          simp only [hx x (by simp [ha]), hx y (by simp [ha]), vl]
        · rfl
      | max =>
        simp only [aop]
        split
        · rename_i x y ha
          simp only [hx x (by simp [ha]), hx y (by simp [ha]), vl]
        · rfl
      | _ => rfl
    | _ => rfl
  | _ => rfl
/-- The heap h has all that s has. -/
def Hp.ext (s h : Hp) : Prop := ∀ (o : Nat) (ob : AObj), s[o]? = some (some ob) → h[o]? = some (some ob)
theorem obj_ext {s : S} {h : Hp} (hx : Hp.ext s.hp h) {o : Nat} {ob : AObj} (ho : s.obj o = some ob) : S.obj ⟨s.sl, h⟩ o = some ob := by
  have := hx o ob (obj_get ho)
  unfold S.obj
  rw [List.getD_eq_getElem?_getD, this]
  rfl
theorem ev_hp (s : S) (h : Hp) (x : Operand) : S.ev ⟨s.sl, h⟩ x = s.ev x := by cases x <;> rfl
theorem parts_hp (s : S) (h : Hp) : ∀ l, S.parts ⟨s.sl, h⟩ l = s.parts l := fun l => parts_alike fun p _ => ev_hp s h p.2
theorem optInt_hp (s : S) (h : Hp) (x : Option Operand) : optInt ⟨s.sl, h⟩ x = optInt s x := optInt_alike fun y _ => ev_hp s h y
/-- An operation that only computes leaves the heap, and does the same at every other heap. -/
theorem aop_pure {P : Program} {s : S} {ty : TypeId} {op : Op} {x : OpR} (hc : clsOp P op = 0) (h : aop P s ty op = some x) : x.hp = s.hp ∧ ∀ h', aop P ⟨s.sl, h'⟩ ty op = some ⟨x.v, h', x.c⟩ := by
  have e := ev_hp s
  have ep := parts_hp s
  cases op with
  | move y | assign y =>
    simp only [aop, e] at h
    split at h
    · rename_i v hv
      simp only [Option.some.injEq] at h
      subst h
      exact ⟨rfl, fun h' => by simp only [aop, e, ep, hv]; rfl⟩
    · cases h
  | pick c y z =>
    simp only [aop, e] at h
    split at h
    · rename_i hv
      split at h
      · rename_i v hv2
        simp only [Option.some.injEq] at h
        subst h
        exact ⟨rfl, fun h' => by simp only [aop, e, ep, hv, hv2]; rfl⟩
      · cases h
    · rename_i hv
      split at h
      · rename_i v hv2
        simp only [Option.some.injEq] at h
        subst h
        exact ⟨rfl, fun h' => by simp only [aop, e, ep, hv, hv2]; rfl⟩
      · cases h
    · cases h
  | build t ps =>
    simp only [aop, ep] at h
    split at h
    · rename_i z hz
      split at h
      · rename_i l hl
        split at h
        · rename_i cs hcs
          simp only [Option.some.injEq] at h
          subst h
          exact ⟨rfl, fun h' => by simp only [aop, e, ep, hz, hl, hcs]; rfl⟩
        · cases h
      · cases h
    · cases h
  | nilCheck y =>
    simp only [aop, e] at h
    split at h
    · rename_i hv
      simp only [Option.some.injEq] at h
      subst h
      exact ⟨rfl, fun h' => by simp only [aop, e, ep, hv]; rfl⟩
    · rename_i hv
      simp only [Option.some.injEq] at h
      subst h
      exact ⟨rfl, fun h' => by simp only [aop, e, ep, hv]; rfl⟩
    · cases h
  | binOp o t y z u =>
    simp only [aop, e] at h
    split at h
    · rename_i hy hz
      split at h
      · rename_i q d hb
        simp only [Option.some.injEq] at h
        subst h
        exact ⟨rfl, fun h' => by simp only [aop, e, ep, hy, hz, hb]; rfl⟩
      · cases h
    · rename_i hy hz
      split at h
      · simp only [Option.some.injEq] at h
        subst h
        exact ⟨rfl, fun h' => by simp only [aop, e, ep, hy, hz]; rfl⟩
      · simp only [Option.some.injEq] at h
        subst h
        exact ⟨rfl, fun h' => by simp only [aop, e, ep, hy, hz]; rfl⟩
      · cases h
    · cases h
  | unOp o t y =>
    simp only [aop, e] at h
    split at h
    · rename_i hy
      split at h
      · simp only [Option.some.injEq] at h
        subst h
        exact ⟨rfl, fun h' => by simp only [aop, e, ep, hy]; rfl⟩
      · cases h
    · rename_i hy
      split at h
      · simp only [Option.some.injEq] at h
        subst h
        exact ⟨rfl, fun h' => by simp only [aop, e, ep, hy]; rfl⟩
      · cases h
    · cases h
  | convert a b y =>
    simp only [aop, e] at h
    split at h
    · rename_i ht hy
      simp only [Option.some.injEq] at h
      subst h
      exact ⟨rfl, fun h' => by simp only [aop, e, ht, hy]; rfl⟩
    · rename_i ht hy
      simp only [Option.some.injEq] at h
      subst h
      exact ⟨rfl, fun h' => by simp only [aop, e, ht, hy]; rfl⟩
    · rename_i ht hy
      simp only [clsOp, ht] at hc
      cases hc
    · rename_i ht hy
      simp only [clsOp, ht] at hc
      cases hc
    · rename_i ht hy
      simp only [clsOp, ht] at hc
      cases hc
    · cases h
  | fieldAddr t y f =>
    simp only [aop, e] at h
    split at h
    · rename_i hy hf
      simp only [Option.some.injEq] at h
      subst h
      exact ⟨rfl, fun h' => by simp only [aop, e, ep, hy, hf]; rfl⟩
    · cases h
  | index t y i =>
    simp only [aop, e] at h
    split at h
    · rename_i hy hi
      split at h
      · rename_i ht
        simp only [Option.some.injEq] at h
        subst h
        exact ⟨rfl, fun h' => by simp only [aop, e, ep, hy, hi, ht]; rfl⟩
      · cases h
    · cases h
  | extract y i =>
    simp only [aop, e] at h
    split at h
    · rename_i hy
      split at h
      · rename_i hl
        simp only [Option.some.injEq] at h
        subst h
        exact ⟨rfl, fun h' => by simp only [aop, e, ep, hy, hl]; rfl⟩
      · cases h
    · cases h
  | call c =>
    obtain ⟨callee, args, at_⟩ := c
    cases callee with
    | builtin b =>
      cases b with
      | len =>
        simp only [aop, e] at h
        split at h
        · rename_i y t ha ht
          split at h
          · rename_i hy
            split at h
            · rename_i hs
              simp only [Option.some.injEq] at h
              subst h
              exact ⟨rfl, fun h' => by simp only [aop, e, ep, ha, ht, hy, hs]; rfl⟩
            · cases h
          · rename_i hy
            split at h
            · rename_i hs
              simp only [Option.some.injEq] at h
              subst h
              exact ⟨rfl, fun h' => by simp only [aop, e, ep, ha, ht, hy, hs]; rfl⟩
            · cases h
          · rename_i hy
            split at h
            · rename_i hs
              simp only [Option.some.injEq] at h
              subst h
              exact ⟨rfl, fun h' => by simp only [aop, e, ep, ha, ht, hy, hs]; rfl⟩
            · cases h
          · cases h
        · cases h
      | min =>
        simp only [aop, e] at h
        split at h
        · rename_i y z ha
          split at h
          · rename_i hy hz
            simp only [Option.some.injEq] at h
            subst h
            exact ⟨rfl, fun h' => by simp only [aop, e, ep, ha, hy, hz]; rfl⟩
          · cases h
        · cases h
      | max =>
        simp only [aop, e] at h
        split at h
        · rename_i y z ha
          split at h
          · rename_i hy hz
            simp only [Option.some.injEq] at h
            subst h
            exact ⟨rfl, fun h' => by simp only [aop, e, ep, ha, hy, hz]; rfl⟩
          · cases h
        · cases h
      | _ => cases hc
    | _ => cases hc
  | _ => cases hc
/-- An operation that reads leaves the heap, and does the same at a heap that has all of this one. -/
theorem aop_read {P : Program} {s : S} {ty : TypeId} {op : Op} {x : OpR} (hc : clsOp P op = 1) (h : aop P s ty op = some x) : x.hp = s.hp ∧ ∀ h', Hp.ext s.hp h' → aop P ⟨s.sl, h'⟩ ty op = some ⟨x.v, h', x.c⟩ := by
  have e := ev_hp s
  cases op with
  | load t y =>
    simp only [aop, e] at h
    split at h
    · rename_i o k j hy
      split at h
      · rename_i ob hob
        split at h
        · rename_i c hk
          split at h
          · rename_i n ht
            split at h
            · rename_i hf
              simp only [Option.some.injEq] at h
              subst h
              exact ⟨rfl, fun h' hx => by simp only [aop, e, optInt_hp s, hy, obj_ext hx hob, hk, ht, hf]; rfl⟩
            · cases h
          · rename_i ht
            split at h
            · rename_i z hz
              simp only [Option.some.injEq] at h
              subst h
              exact ⟨rfl, fun h' hx => by simp only [aop, e, optInt_hp s, hy, obj_ext hx hob, hk, ht, hz]; rfl⟩
            · cases h
          · cases h
        · cases h
      · cases h
    · cases h
  | convert a b y =>
    simp only [aop, e] at h
    split at h
    · rename_i ht hy
      simp only [clsOp, ht] at hc
      cases hc
    · rename_i ht hy
      simp only [clsOp, ht] at hc
      cases hc
    · rename_i ht hy
      simp only [clsOp, ht] at hc
      cases hc
    · rename_i ht hy
      split at h
      · rename_i ob hob
        split at h
        · rename_i hz
          simp only [Option.some.injEq] at h
          subst h
          exact ⟨rfl, fun h' hx => by simp only [aop, e, ht, hy, obj_ext hx hob, hz, if_true]; rfl⟩
        · cases h
      · cases h
    · rename_i ht hy
      simp only [Option.some.injEq] at h
      subst h
      exact ⟨rfl, fun h' hx => by simp only [aop, e, ht, hy]; rfl⟩
    · cases h
  | indexAddr t y i =>
    simp only [aop, e] at h
    split at h
    · rename_i hy hi ht
      split at h
      · rename_i ob hob
        split at h
        · rename_i hz
          simp only [Option.some.injEq] at h
          subst h
          exact ⟨rfl, fun h' hx => by simp only [aop, e, optInt_hp s, hy, hi, ht, obj_ext hx hob, hz, if_true]; rfl⟩
        · cases h
      · cases h
    · cases h
  | slice t y lo hi mx =>
    cases mx with
    | some m => cases h
    | none =>
      have eo := optInt_hp s
      simp only [aop, e, eo] at h
      have sl : ∀ {v : AV} {a b : Option Int} {q : OpR}, aSlice s v a b = some q → q.hp = s.hp ∧ ∀ h', aSlice ⟨s.sl, h'⟩ v a b = some ⟨q.v, h', q.c⟩ := by
        intro v a b q hq
        unfold aSlice at hq
        split at hq <;> first
          | (simp only [Option.some.injEq] at hq; subst hq; exact ⟨rfl, fun h' => rfl⟩)
          | cases hq
      split at h
      · rename_i v a b hy ha hb
        split at h
        · rename_i l
          split at h
          · rename_i ht
            obtain ⟨h1, h2⟩ := sl h
            exact ⟨h1, fun h' hx => by simp only [aop, e, optInt_hp s, hy, ha, hb, ht]; exact h2 h'⟩
          · cases h
        · rename_i o off len
          split at h
          · rename_i q sz ob ht hob
            split at h
            · rename_i hz
              obtain ⟨h1, h2⟩ := sl h
              exact ⟨h1, fun h' hx => by simp only [aop, e, optInt_hp s, hy, ha, hb, ht, obj_ext hx hob, hz, if_true]; exact h2 h'⟩
            · cases h
          · cases h
        · cases h
      · cases h
  | call c =>
    obtain ⟨callee, args, at_⟩ := c
    cases callee with
    | builtin b => cases b <;> cases hc
    | _ => cases hc
  | _ => cases hc

theorem ext_refl (h : Hp) : Hp.ext h h := fun _ _ h => h
theorem ext_append (h k : Hp) : Hp.ext h (h ++ k) := fun o ob ho => by
  rw [List.getElem?_append_left (List.getElem?_eq_some_iff.1 ho).1]; exact ho
/-- What does not write keeps all that was there. -/
theorem aop_ext {P : Program} {s : S} {ty : TypeId} {op : Op} {x : OpR} (h : aop P s ty op = some x) (hc : clsOp P op ≠ 4) : Hp.ext s.hp x.hp := by
  by_cases h0 : clsOp P op = 0
  · rw [(aop_pure h0 h).1]; exact ext_refl _
  · by_cases h1 : clsOp P op = 1
    · rw [(aop_read h1 h).1]; exact ext_refl _
    · cases op with
      | alloc e =>
        simp only [aop] at h
        split at h
        · simp only [Option.some.injEq] at h; subst h; exact ext_append _ _
        · cases h
      | box e y =>
        simp only [aop] at h
        split at h
        · split at h
          · simp only [Option.some.injEq] at h; subst h; exact ext_append _ _
          · cases h
        · cases h
      | buildSlice t n ps =>
        simp only [aop] at h
        split at h
        · split at h
          · split at h
            · split at h
              · split at h
                · simp only [Option.some.injEq] at h; subst h; exact ext_append _ _
                · cases h
              · cases h
            · cases h
          · cases h
        · cases h
      | makeSlice t y z =>
        simp only [aop] at h
        split at h
        · split at h
          · split at h
            · simp only [Option.some.injEq] at h; subst h; exact ext_append _ _
            · cases h
          · cases h
        · cases h
      | convert a b y =>
        simp only [aop] at h
        split at h
        · rename_i ht hy
          simp only [clsOp, ht] at h0
          exact absurd trivial h0
        · rename_i ht hy
          simp only [clsOp, ht] at h0
          exact absurd trivial h0
        · simp only [Option.some.injEq] at h; subst h; exact ext_append _ _
        · rename_i ht hy
          simp only [clsOp, ht] at h1
          exact absurd trivial h1
        · rename_i ht hy
          simp only [clsOp, ht] at h1
          exact absurd trivial h1
        · cases h
      | call c =>
        obtain ⟨callee, args, at_⟩ := c
        cases callee with
        | value f => simp only [aop] at h; cases h
        | builtin b => cases b <;> first | exact absurd rfl h0 | exact absurd rfl hc
        | invoke a b => exact absurd rfl hc
      | move _ => exact absurd rfl h0
      | assign _ => exact absurd rfl h0
      | pick _ _ _ => exact absurd rfl h0
      | build _ _ => exact absurd rfl h0
      | nilCheck _ => exact absurd rfl h0
      | binOp _ _ _ _ _ => exact absurd rfl h0
      | unOp _ _ _ => exact absurd rfl h0
      | fieldAddr _ _ _ => exact absurd rfl h0
      | index _ _ _ => exact absurd rfl h0
      | extract _ _ => exact absurd rfl h0
      | load _ _ => exact absurd rfl h1
      | indexAddr _ _ _ => exact absurd rfl h1
      | slice _ _ _ _ _ => exact absurd rfl h1
      | _ => exact absurd rfl hc

/-! ### One step, as a relation -/
/-- An operation that runs: by itself, or as a call that turns nothing of what was there. -/
def ActN (P : Program) (o : Oper) (s s' : S) : Prop :=
  (∃ x, aop P s o.type o.op = some x ∧ x.c ∧ s' = s.put o.dst x.v x.hp) ∨
  (∃ (y : Operand) (args : Array Operand) (at_ : Array TypeId) (f : Nat) (caps : List Sc) (avs : List AV) (res : AV) (h' : Hp), o.op = .call ⟨.value y, args, at_⟩ ∧ s.ev y = some (.cl f caps) ∧ s.evs args.toList = some avs ∧
    CallA P f (avs ++ scAll caps) s.hp res h' ∧ Hp.ext s.hp h' ∧ s' = s.put o.dst (some res) h')
def StepN (P : Program) (r : Array Oper) (i : Nat) (s s' : S) : Prop :=
  match r[i]? with
  | none => s' = s
  | some o => match guardOf r s o with
    | some true => ActN P o s s'
    | some false => s' = s.put o.dst (some (.tu [])) s.hp
    | none => False
def RunN (P : Program) (r : Array Oper) : List Nat → S → S → Prop
  | [], s, s' => s' = s
  | i :: l, s, s'' => ∃ s', StepN P r i s s' ∧ RunN P r l s' s''
theorem guard_alike {r : Array Oper} {s s' : S} {o : Oper} (h : Alike (looks r o) s s') : guardOf r s o = guardOf r s' o := by
  unfold guardOf
  split
  · rfl
  · rename_i j want hg
    split
    · rename_i oj hj
      split
      · rename_i d hd
        have := h d (by unfold looks; rw [hg]; simp [hj, hd])
        rw [this]
      · rfl
    · rfl
theorem alike_ops {r : Array Oper} {s s' : S} {o : Oper} (h : Alike (looks r o) s s') : Alike (opTmps o.op) s s' := fun t ht => h t (by unfold looks; exact List.mem_append_left _ ht)
theorem put_put (s : S) {a b : Option Tmp} (v u : Option AV) (h h' : Hp) (hne : optNe a b = true) : (s.put a v h).put b u h' = (s.put b u h').put a v h' := by
  cases a with
  | none => cases b <;> rfl
  | some a => cases b with
    | none => rfl
    | some b =>
      have : a ≠ b := by simpa [optNe] using hne
      simp only [S.put, Slots.put_comm s.sl a b v u this]
theorem put_hp (s : S) (d : Option Tmp) (v : Option AV) (h : Hp) : (s.put d v h).hp = h := by cases d <;> rfl
/-- A step that computes or reads, ahead of another one, may be done behind it. -/
theorem swap {P : Program} {r : Array Oper} {i j : Nat} {oi oj : Oper} (hi : r[i]? = some oi) (hj : r[j]? = some oj) (hind : indepB P r oi oj = true) {s s1 s2 : S} (h1 : StepN P r i s s1) (h2 : StepN P r j s1 s2) :
    ∃ s1', StepN P r j s s1' ∧ StepN P r i s1' s2 := by
  simp only [indepB, Bool.and_eq_true, Bool.or_eq_true, beq_iff_eq, bne_iff_ne] at hind
  obtain ⟨⟨⟨hne, hij⟩, hji⟩, hcls⟩ := hind
  have hci : cls P oi = 0 ∨ cls P oi = 1 := by rcases hcls with h | h; exact .inl h.1; exact .inr h.1
  unfold StepN at h1 h2
  rw [hi] at h1
  rw [hj] at h2
  dsimp only at h1 h2
  -- what step i does: it puts a value, and leaves the heap
  have key : ∃ v, s1 = s.put oi.dst v s.hp ∧ ∀ (t : S), Alike (looks r oi) s t → (cls P oi = 0 ∨ Hp.ext s.hp t.hp) → StepN P r i t (t.put oi.dst v t.hp) := by
    split at h1
    · rename_i hg
      rcases h1 with ⟨x, hx, hc, rfl⟩ | ⟨y, args, at_, f, caps, avs, res, h', ho, _⟩
      · have hx2 : x.hp = s.hp ∧ ∀ t : S, Alike (looks r oi) s t → (cls P oi = 0 ∨ Hp.ext s.hp t.hp) → aop P t oi.type oi.op = some ⟨x.v, t.hp, x.c⟩ := by
          have eqv : ∀ t : S, Alike (looks r oi) s t → aop P t oi.type oi.op = aop P ⟨s.sl, t.hp⟩ oi.type oi.op := fun t ha => (aop_alike (s := ⟨s.sl, t.hp⟩) (s' := t) rfl (fun q hq => alike_ops ha q hq)).symm
          rcases hci with h0 | h0
          · obtain ⟨e1, e2⟩ := aop_pure h0 hx
            exact ⟨e1, fun t ha _ => by rw [eqv t ha]; exact e2 t.hp⟩
          · obtain ⟨e1, e2⟩ := aop_read h0 hx
            exact ⟨e1, fun t ha he => by rw [eqv t ha]; exact e2 t.hp (he.resolve_left (by rw [h0]; simp))⟩
        refine ⟨x.v, by rw [hx2.1], fun t ha he => ?_⟩
        unfold StepN
        rw [hi]
        dsimp only
        rw [← guard_alike ha, hg]
        exact .inl ⟨_, hx2.2 t ha he, hc, rfl⟩
      · exfalso
        have : cls P oi = 3 := by unfold cls; rw [ho]; rfl
        omega
    · rename_i hg
      refine ⟨some (.tu []), h1, fun t ha _ => ?_⟩
      unfold StepN
      rw [hi]
      dsimp only
      rw [← guard_alike ha, hg]
    · exact h1.elim
  obtain ⟨v, rfl, hstep⟩ := key
  have hal : Alike (looks r oj) s (s.put oi.dst v s.hp) := alike_put hij
  have hhp : (s.put oi.dst v s.hp).hp = s.hp := put_hp _ _ _ _
  rw [← guard_alike hal] at h2
  -- what step j does
  have fin : ∀ (u : Option AV) (h' : Hp), s2 = (s.put oi.dst v s.hp).put oj.dst u h' → (cls P oi = 0 ∨ Hp.ext s.hp h') → StepN P r j s (s.put oj.dst u h') → ∃ s1', StepN P r j s s1' ∧ StepN P r i s1' s2 := by
    intro u h' he hx hj'
    refine ⟨s.put oj.dst u h', hj', ?_⟩
    have h3 := hstep (s.put oj.dst u h') (alike_put hji) (by rw [put_hp]; exact hx)
    rw [put_hp] at h3
    rw [he, put_put s v u s.hp h' hne]
    exact h3
  split at h2
  · rename_i hg
    rcases h2 with ⟨x, hx, hc, rfl⟩ | ⟨y, args, at_, f, caps, avs, res, h', ho, hy, ha, hcall, hext, rfl⟩
    · have hx' : aop P s oj.type oj.op = some x := by rw [aop_alike (s := s) (s' := s.put oi.dst v s.hp) hhp.symm (alike_ops hal)]; exact hx
      refine fin x.v x.hp rfl ?_ ?_
      · rcases hcls with h0 | h0
        · exact .inl h0.1
        · right
          have h4 : cls P oj ≠ 4 := h0.2
          exact aop_ext hx' h4
      · unfold StepN
        rw [hj]
        dsimp only
        rw [hg]
        exact .inl ⟨x, hx', hc, rfl⟩
    · have hal' := alike_ops hal
      rw [ho] at hal'
      have e1 : s.ev y = some (.cl f caps) := by
        rw [ev_alike (s := s) (s' := s.put oi.dst v s.hp) (x := y) (fun t ht => hal' t (mem_opTmps (by subst ht; simp [Op.operands, Call.operands])))]
        exact hy
      have e2 : s.evs args.toList = some avs := by
        rw [evs_alike (s := s) (s' := s.put oi.dst v s.hp) (l := args.toList) (fun z hz => ev_alike fun t ht => hal' t (mem_opTmps (by subst ht; simp [Op.operands, Call.operands]; right; simpa using hz)))]
        exact ha
      rw [hhp] at hcall hext
      refine fin (some res) h' rfl (.inr hext) ?_
      unfold StepN
      rw [hj]
      dsimp only
      rw [hg]
      exact .inr ⟨y, args, at_, f, caps, avs, res, h', ho, e1, e2, hcall, hext, rfl⟩
  · rename_i hg
    refine fin (some (.tu [])) s.hp (by rw [h2, hhp]) (.inr fun o ob h => h) ?_
    unfold StepN
    rw [hj]
    dsimp only
    rw [hg]
  · exact h2.elim
/-- i may change places with j, which computes alone. -/
def indepC (P : Program) (r : Array Oper) (i j : Oper) : Bool :=
  optNe i.dst j.dst && notIn i.dst (looks r j) && notIn j.dst (looks r i) && cls P j == 0
theorem swapC {P : Program} {r : Array Oper} {i j : Nat} {oi oj : Oper} (hi : r[i]? = some oi) (hj : r[j]? = some oj) (hind : indepC P r oi oj = true) {s s1 s2 : S} (h1 : StepN P r i s s1) (h2 : StepN P r j s1 s2) :
    ∃ s1', StepN P r j s s1' ∧ StepN P r i s1' s2 := by
  simp only [indepC, Bool.and_eq_true, beq_iff_eq] at hind
  obtain ⟨⟨⟨hne, hij⟩, hji⟩, hcj⟩ := hind
  unfold StepN at h1 h2
  rw [hi] at h1
  rw [hj] at h2
  dsimp only at h1 h2
  -- what step i does: it puts a value and a heap
  have key : ∃ v hp, s1 = s.put oi.dst v hp ∧ ∀ (t : S), Alike (looks r oi) s t → t.hp = s.hp → StepN P r i t (t.put oi.dst v hp) := by
    split at h1
    · rename_i hg
      rcases h1 with ⟨x, hx, hc, rfl⟩ | ⟨y, args, at_, f, caps, avs, res, h', ho, hy, ha, hcall, hext, rfl⟩
      · refine ⟨x.v, x.hp, rfl, fun t ha he => ?_⟩
        unfold StepN
        rw [hi]
        dsimp only
        rw [← guard_alike ha, hg]
        exact .inl ⟨x, by rw [← aop_alike he.symm (alike_ops ha)]; exact hx, hc, rfl⟩
      · refine ⟨some res, h', rfl, fun t hal he => ?_⟩
        unfold StepN
        rw [hi]
        dsimp only
        rw [← guard_alike hal, hg]
        have hal' := alike_ops hal
        rw [ho] at hal'
        have e1 : t.ev y = some (.cl f caps) := by
          rw [← ev_alike (s := s) (s' := t) (x := y) (fun q hq => hal' q (mem_opTmps (by subst hq; simp [Op.operands, Call.operands])))]
          exact hy
        have e2 : t.evs args.toList = some avs := by
          rw [← evs_alike (s := s) (s' := t) (l := args.toList) (fun z hz => ev_alike fun q hq => hal' q (mem_opTmps (by subst hq; simp [Op.operands, Call.operands]; right; simpa using hz)))]
          exact ha
        exact .inr ⟨y, args, at_, f, caps, avs, res, h', ho, e1, e2, by rw [he]; exact hcall, by rw [he]; exact hext, rfl⟩
    · rename_i hg
      refine ⟨some (.tu []), s.hp, h1, fun t ha he => ?_⟩
      unfold StepN
      rw [hi]
      dsimp only
      rw [← guard_alike ha, hg]
      dsimp only
      rw [he]
    · exact h1.elim
  obtain ⟨v, hp, rfl, hstep⟩ := key
  have hal : Alike (looks r oj) s (s.put oi.dst v hp) := alike_put hij
  rw [← guard_alike hal] at h2
  have fin : ∀ (u : Option AV), s2 = (s.put oi.dst v hp).put oj.dst u hp → StepN P r j s (s.put oj.dst u s.hp) → ∃ s1', StepN P r j s s1' ∧ StepN P r i s1' s2 := by
    intro u he hj'
    refine ⟨s.put oj.dst u s.hp, hj', ?_⟩
    have h3 := hstep (s.put oj.dst u s.hp) (alike_put hji) (put_hp _ _ _ _)
    rw [he, put_put s v u hp hp hne]
    have e : ∀ (a b : S) (d : Option Tmp) (x : Option AV) (h : Hp), a.sl = b.sl → a.put d x h = b.put d x h := by
      intro a b d x h hab
      cases d <;> simp [S.put, hab]
    rw [e (s.put oj.dst u hp) (s.put oj.dst u s.hp) oi.dst v hp (by cases oj.dst <;> rfl)]
    exact h3
  split at h2
  · rename_i hg
    rcases h2 with ⟨x, hx, hc, rfl⟩ | ⟨y, args, at_, f, caps, avs, res, h', ho, _⟩
    · have hx1 : aop P ⟨s.sl, hp⟩ oj.type oj.op = some x := by
        rw [aop_alike (s := ⟨s.sl, hp⟩) (s' := s.put oi.dst v hp) (by rw [put_hp]) (fun q hq => alike_ops hal q hq)]
        exact hx
      obtain ⟨e1, e2⟩ := aop_pure hcj hx1
      have e3 := e2 s.hp
      refine fin x.v (by rw [e1]) ?_
      unfold StepN
      rw [hj]
      dsimp only
      rw [hg]
      exact .inl ⟨_, e3, hc, rfl⟩
    · exfalso
      have : cls P oj = 3 := by unfold cls; rw [ho]; rfl
      omega
  · rename_i hg
    refine fin (some (.tu [])) (by rw [h2, put_hp]) ?_
    unfold StepN
    rw [hj]
    dsimp only
    rw [hg]
  · exact h2.elim
end Go.Proofs.YtoghbjbfldlfpaaGreat
