/-
  VX, part 2: the frame of a call, how a world may turn, and what each operation does to the abstract state.
-/
import Derived.Test.YtoghbjbfldlfpaaGreatVx1
namespace Go.Proofs.YtoghbjbfldlfpaaGreat
open Go.RowKit
set_option linter.unusedVariables false
set_option linter.unusedSimpArgs false

abbrev Slots := List (List (Option AV))
def Slots.get (s : Slots) (i : Nat) : Option AV := (s.getD (i / 16) []).getD (i % 16) none
def Slots.put (s : Slots) (i : Nat) (v : Option AV) : Slots := s.set (i / 16) ((s.getD (i / 16) []).set (i % 16) v)
def Slots.has (s : Slots) (i : Nat) : Prop := i % 16 < (s.getD (i / 16) []).length
theorem Slots.get_has {s : Slots} {i : Nat} {v : AV} (h : s.get i = some v) : s.has i := by
  unfold Slots.get at h
  unfold Slots.has
  rcases Nat.lt_or_ge (i % 16) (s.getD (i / 16) []).length with hl | hl
  · exact hl
  · rw [List.getD_eq_getElem?_getD, List.getElem?_eq_none hl] at h; cases h
theorem Slots.put_has (s : Slots) (d i : Nat) (v : Option AV) : (s.put d v).has i ↔ s.has i := by
  unfold Slots.has Slots.put
  simp only [List.getD_eq_getElem?_getD, List.getElem?_set]
  by_cases he : d / 16 = i / 16
  · rw [if_pos he]
    by_cases hl : d / 16 < s.length
    · simp [hl, ← he]
    · have : s[i / 16]? = none := List.getElem?_eq_none (by omega)
      simp [hl, this]
  · rw [if_neg he]
theorem Slots.get_put (s : Slots) (d i : Nat) (v : Option AV) : (s.put d v).get i = if i = d then (if d % 16 < (s.getD (d / 16) []).length then v else none) else s.get i := by
  unfold Slots.get Slots.put
  simp only [List.getD_eq_getElem?_getD, List.getElem?_set]
  by_cases he : d / 16 = i / 16
  · rw [if_pos he]
    by_cases hl : d / 16 < s.length
    · simp only [hl, if_true, Option.getD_some, List.getElem?_set]
      by_cases hm : d % 16 = i % 16
      · have hid : i = d := by omega
        subst hid
        simp only [if_true]
        split <;> simp
      · have hid : ¬ i = d := by omega
        simp [hm, hid, he]
    · have h1 : s[i / 16]? = none := List.getElem?_eq_none (by omega)
      have h2 : s[d / 16]? = none := List.getElem?_eq_none (by omega)
      simp [hl, h1, h2]
  · have hid : ¬ i = d := by intro e; subst e; exact he rfl
    rw [if_neg he, if_neg hid]
def SlotsR (β : Be) (s : Slots) (t : Array Value) : Prop :=
  (∀ i, s.has i → i < t.size) ∧ ∀ i v, s.get i = some v → ∃ u, t[i]? = some u ∧ AVR β v u
theorem SlotsR.mono {β β' : Be} (h : Be.le β β') {s : Slots} {t : Array Value} (hs : SlotsR β s t) : SlotsR β' s t :=
  ⟨hs.1, fun i v hv => let ⟨u, hu, hr⟩ := hs.2 i v hv; ⟨u, hu, hr.mono h⟩⟩
theorem SlotsR.put {β : Be} {s : Slots} {t : Array Value} (hs : SlotsR β s t) (d : Nat) {v : AV} {u : Value} (hv : AVR β v u) : SlotsR β (s.put d (some v)) (t.setIfInBounds d u) := by
  refine ⟨fun i hi => by rw [Slots.put_has] at hi; simpa using hs.1 i hi, fun i x hx => ?_⟩
  rw [Slots.get_put] at hx
  by_cases hid : i = d
  · subst hid
    simp only [if_true] at hx
    split at hx
    · rename_i hl
      cases hx
      have hlt := hs.1 i hl
      exact ⟨u, by simp [hlt], hv⟩
    · cases hx
  · rw [if_neg hid] at hx
    obtain ⟨y, hy, hr⟩ := hs.2 i x hx
    exact ⟨y, by rw [Array.getElem?_setIfInBounds_ne (Ne.symm hid)]; exact hy, hr⟩
theorem SlotsR.putNone {β : Be} {s : Slots} {t : Array Value} (hs : SlotsR β s t) (d : Nat) (u : Value) : SlotsR β (s.put d none) (t.setIfInBounds d u) := by
  refine ⟨fun i hi => by rw [Slots.put_has] at hi; simpa using hs.1 i hi, fun i x hx => ?_⟩
  rw [Slots.get_put] at hx
  by_cases hid : i = d
  · subst hid
    simp only [if_true] at hx
    split at hx <;> cases hx
  · rw [if_neg hid] at hx
    obtain ⟨y, hy, hr⟩ := hs.2 i x hx
    exact ⟨y, by rw [Array.getElem?_setIfInBounds_ne (Ne.symm hid)]; exact hy, hr⟩

structure S where
  sl : Slots
  hp : Hp
def S.put (s : S) (d : Option Nat) (v : Option AV) (h : Hp) : S :=
  match d with
  | some d => ⟨s.sl.put d v, h⟩
  | none => ⟨s.sl, h⟩

def Own (β : Be) (h : Hp) (k : Nat) : Prop := ∃ (o : Nat) (ob : AObj) (p : Pl), h[o]? = some (some ob) ∧ ob.own = true ∧ β[o]? = some (some p) ∧ p.blk = k
/-- What a call, or a part of it, may do to the world. -/
structure StepR (β β' : Be) (h h' : Hp) (w w' : World) : Prop where
  le : Be.le β β'
  os : w'.os = w.os
  tape : w'.tape = w.tape
  output : w'.output = w.output
  size : w.heap.size ≤ w'.heap.size
  block : ∀ k, k < w.heap.size → ¬ Own β h k → w'.heap[k]? = w.heap[k]?
  len : h.length ≤ h'.length
  old : ∀ (o : Nat) (ob' : AObj), o < h.length → h'[o]? = some (some ob') → ∃ ob, h[o]? = some (some ob) ∧ (ob'.own = true → ob.own = true)
  fresh : ∀ (o : Nat) (ob : AObj) (p : Pl), h.length ≤ o → h'[o]? = some (some ob) → β'[o]? = some (some p) → Own β h p.blk ∨ w.heap.size ≤ p.blk

theorem StepR.own {β β' : Be} {h h' : Hp} {w w' : World} (s : StepR β β' h h' w w') (hl : β.length = h.length) {k : Nat} (hk : Own β' h' k) : Own β h k ∨ w.heap.size ≤ k := by
  obtain ⟨o, ob, p, ho, hown, hp, rfl⟩ := hk
  rcases Nat.lt_or_ge o h.length with hlt | hge
  · obtain ⟨ob0, ho0, h0⟩ := s.old o ob hlt ho
    have hb : ∃ q, β[o]? = some q := ⟨β[o]'(by omega), List.getElem?_eq_getElem (by omega)⟩
    obtain ⟨q, hq⟩ := hb
    have := s.le _ _ hq
    rw [hp] at this
    cases this
    exact .inl ⟨o, ob0, p, ho0, h0 hown, hq, rfl⟩
  · exact s.fresh o ob p hge ho hp
theorem StepR.refl (β : Be) (h : Hp) (w : World) (hl : β.length = h.length) : StepR β β h h w w :=
  ⟨Be.le.refl _, rfl, rfl, rfl, Nat.le_refl _, fun _ _ _ => rfl, Nat.le_refl _, fun o ob _ h => ⟨ob, h, id⟩, fun o ob p ho h1 _ => by
    rw [List.getElem?_eq_none ho] at h1; cases h1⟩
theorem StepR.trans {a b c : Be} {h1 h2 h3 : Hp} {w1 w2 w3 : World} (la : a.length = h1.length) (lb : b.length = h2.length) (s : StepR a b h1 h2 w1 w2) (t : StepR b c h2 h3 w2 w3) : StepR a c h1 h3 w1 w3 := by
  refine ⟨s.le.trans t.le, t.os.trans s.os, t.tape.trans s.tape, t.output.trans s.output, Nat.le_trans s.size t.size, fun k hk hn => ?_, Nat.le_trans s.len t.len, fun o ob hlt ho => ?_, fun o ob p hge ho hp => ?_⟩
  · rw [t.block k (by have := s.size; omega) (fun hown => by rcases s.own la hown with h | h; exact hn h; omega)]
    exact s.block k hk hn
  · obtain ⟨ob2, ho2, h2⟩ := t.old o ob (by have := s.len; omega) ho
    obtain ⟨ob1, ho1, h1⟩ := s.old o ob2 hlt ho2
    exact ⟨ob1, ho1, fun h => h1 (h2 h)⟩
  · rcases Nat.lt_or_ge o h2.length with hlt | hge2
    · obtain ⟨ob2, ho2, h2'⟩ := t.old o ob hlt ho
      have hq : b[o]? = some (b[o]'(by omega)) := List.getElem?_eq_getElem (by omega)
      have h4 := t.le _ _ hq
      rw [hp] at h4
      simp only [Option.some.injEq] at h4
      rw [← h4] at hq
      exact s.fresh o ob2 p hge ho2 hq
    · rcases t.fresh o ob p hge2 ho hp with h | h
      · exact s.own la h
      · exact .inr (Nat.le_trans s.size h)

/-- Nothing but the heap counts. -/
def World.like (w w' : World) : Prop := w'.os = w.os ∧ w'.tape = w.tape ∧ w'.output = w.output
theorem stepR_alloc {β : Be} {h : Hp} {w w' : World} (hl : β.length = h.length) (hlike : World.like w w') (hsz : w.heap.size ≤ w'.heap.size) (hw : ∀ k, k < w.heap.size → w'.heap[k]? = w.heap[k]?) (p : Pl) (ob : AObj) (hp : w.heap.size ≤ p.blk) :
    StepR β (β ++ [some p]) h (h ++ [some ob]) w w' :=
  ⟨Be.le_append _ _, hlike.1, hlike.2.1, hlike.2.2, hsz, fun k hk _ => hw k hk, by simp, fun o ob' hlt ho => by
    rw [List.getElem?_append_left hlt] at ho; exact ⟨ob', ho, id⟩, fun o ob' q hge ho hq => by
    have he : o = h.length := by
      rcases Nat.lt_trichotomy o h.length with h1 | h1 | h1
      · omega
      · exact h1
      · rw [List.getElem?_append_right (by omega), List.getElem?_eq_none (by simp; omega)] at ho; cases ho
    subst he
    rw [← hl] at hq
    simp at hq
    subst hq
    exact .inr hp⟩
theorem stepR_same {β : Be} {h : Hp} {w w' : World} (hl : β.length = h.length) (hlike : World.like w w') (hsz : w.heap.size ≤ w'.heap.size) (hw : ∀ k, k < w.heap.size → w'.heap[k]? = w.heap[k]?) : StepR β β h h w w' :=
  ⟨Be.le.refl _, hlike.1, hlike.2.1, hlike.2.2, hsz, fun k hk _ => hw k hk, Nat.le_refl _, fun o ob' _ ho => ⟨ob', ho, id⟩, fun o ob' q hge ho hq => by
    rw [List.getElem?_eq_none hge] at ho; cases ho⟩

/-! ### What the types say -/
def tsz (P : Program) (t : TypeId) : Nat := ((P.info? t).map (·.size)).getD 0
def tby (P : Program) (t : TypeId) : Nat := ((P.info? t).map (·.bytes)).getD 0
def Sc.ofV : Value → Option Sc
  | .int k n => some (.int k n)
  | .bool b => some (.bo b)
  | .string s => some (.st s.data.toList)
  | .slice none 0 0 => some .nil
  | .pointer none => some .un
  | _ => none
def scs : List Value → Option (List Sc)
  | [] => some []
  | v :: r => match Sc.ofV v, scs r with
    | some s, some l => some (s :: l)
    | _, _ => none
def tzero (P : Program) (t : TypeId) : Option (List Sc) := (P.info? t).bind fun i => i.zero.bind fun v => scs v.cells.toList
def tagg (P : Program) (t : TypeId) : Bool :=
  match P.underlying t with
  | some (.struct _) | some (.array _ _) => true
  | _ => false
def tknown (P : Program) (t : TypeId) : Bool := (P.underlying t).isSome && (P.info? t).isSome
/-- A field's first cell and its cells. -/
def tfld (P : Program) (t : TypeId) (f : Nat) : Option (Nat × Nat) :=
  match P.underlying t with
  | some (.struct fs) => match fs[f]? with
    | some x => if tsz P x.type = 0 then none else some (x.offset, tsz P x.type)
    | none => none
  | _ => none
def allSized (P : Program) (t : TypeId) : Bool :=
  match P.underlying t with
  | some (.struct fs) => fs.toList.all fun x => tsz P x.type != 0
  | _ => false
def tel (P : Program) (t : TypeId) : Option TypeId :=
  match P.underlying t with
  | some (.slice e) => some e
  | _ => none
def tarr (P : Program) (t : TypeId) : Option (Nat × TypeId) :=
  match P.underlying t with
  | some (.array n e) => some (n, e)
  | _ => none
def tik (P : Program) (t : TypeId) : Option IntKind :=
  match P.underlying t with
  | some (.int k) => some k
  | _ => none
def tstr (P : Program) (t : TypeId) : Bool :=
  match P.underlying t with
  | some .string => true
  | _ => false
def tbool (P : Program) (t : TypeId) : Bool :=
  match P.underlying t with
  | some .bool => true
  | _ => false

def AV.ofV : Value → Option AV
  | .agg cs => (scs cs.toList).map .ag
  | .func (.func f) a b => if a.size = 0 ∧ b.size = 0 then some (.cl f []) else none
  | v => (Sc.ofV v).map .sc
def S.ev (s : S) : Operand → Option AV
  | .tmp t => s.sl.get t
  | .const v => AV.ofV v
  | .func f => some (.cl f [])
  | .global _ => none
def S.obj (s : S) (o : Nat) : Option AObj := s.hp.getD o none

def lenIs {α : Type} : List α → Nat → Bool
  | [], 0 => true
  | _ :: l, n + 1 => lenIs l n
  | _, _ => false
theorem lenIs_eq {α : Type} : ∀ {l : List α} {n : Nat}, lenIs l n = true → l.length = n
  | [], 0, _ => rfl
  | _ :: l, n + 1, h => by simp [lenIs_eq (l := l) (n := n) h]
  | [], _ + 1, h => by cases h
  | _ :: _, 0, h => by cases h
/-- n cells are there from the j-th on. -/
def fits {α : Type} : List α → Nat → Nat → Bool
  | _, 0, 0 => true
  | _ :: c, 0, n + 1 => fits c 0 n
  | _ :: c, j + 1, n => fits c j n
  | _, _, _ => false
theorem fits_le {α : Type} : ∀ {c : List α} {j n : Nat}, fits c j n = true → j + n ≤ c.length
  | c, 0, 0, _ => Nat.zero_le _
  | _ :: c, 0, n + 1, h => by have := fits_le (c := c) (j := 0) (n := n) h; simp; omega
  | _ :: c, j + 1, n, h => by have := fits_le (c := c) (j := j) (n := n) (by cases n <;> exact h); simp; omega
  | [], 0, n + 1, h => by cases h
  | [], j + 1, n, h => by cases n <;> cases h
def over : List Sc → List Sc → List Sc
  | c, [] => c
  | _ :: c, b :: l => b :: over c l
  | [], _ => []
def spl : List Sc → Nat → List Sc → List Sc
  | c, 0, l => over c l
  | a :: c, j + 1, l => a :: spl c j l
  | [], _, _ => []
def leB : Nat → Nat → Bool
  | 0, _ => true
  | n + 1, m + 1 => leB n m
  | _ + 1, 0 => false
theorem leB_le : ∀ {n m : Nat}, leB n m = true → n ≤ m
  | 0, _, _ => Nat.zero_le _
  | n + 1, m + 1, h => by have := leB_le (n := n) (m := m) h; omega
  | _ + 1, 0, h => by cases h
/-- A type's zero value, if all is small and known. -/
def tz (P : Program) (e : TypeId) : Option (List Sc) :=
  match tzero P e with
  | some z => if z.length = tsz P e ∧ 0 < tsz P e ∧ tsz P e ≤ 65536 ∧ tby P e ≤ 131072 ∧ tknown P e = true then some z else none
  | none => none
theorem tz_facts {P : Program} {e : TypeId} {z : List Sc} (h : tz P e = some z) : tzero P e = some z ∧ z.length = tsz P e ∧ 0 < tsz P e ∧ tsz P e ≤ 65536 ∧ tby P e ≤ 131072 ∧ tknown P e = true := by
  unfold tz at h
  split at h
  · rename_i z' hz
    split at h
    · rename_i hc
      simp only [Option.some.injEq] at h
      subst h
      exact ⟨hz, hc⟩
    · cases h
  · cases h
/-- How a variable of a type is read: one cell, or so many. -/
def tload (P : Program) (t : TypeId) : Option (Option Nat) :=
  if tknown P t then (if tagg P t then some (some (tsz P t)) else some none) else none
def tst (P : Program) (t : TypeId) : Option Nat := if tknown P t then some (tsz P t) else none
def tbuild (P : Program) (t : TypeId) : Option (List Sc) := if allSized P t then tz P t else none
/-- A slice type's element, and its cells. -/
def tsl (P : Program) (t : TypeId) : Option (TypeId × Nat) :=
  match tel P t with
  | some e => if tknown P e then some (e, tsz P e) else none
  | none => none
theorem tsl_facts {P : Program} {t e : TypeId} {n : Nat} (h : tsl P t = some (e, n)) : tel P t = some e ∧ tknown P e = true ∧ n = tsz P e := by
  unfold tsl at h
  split at h
  · rename_i e' he
    split at h
    · rename_i hk
      simp only [Option.some.injEq, Prod.mk.injEq] at h
      obtain ⟨rfl, rfl⟩ := h
      exact ⟨he, hk, rfl⟩
    · cases h
  · cases h
inductive Cv where
  | int (k : IntKind)
  | str
  | s2b (e : TypeId)
  | b2s
def tcv (P : Program) (src dst : TypeId) : Option Cv :=
  match P.underlying src, P.underlying dst with
  | some (.int _), some (.int k) => some (.int k)
  | some .string, some .string => some .str
  | some .string, some (.slice e) => if tik P e = some .u8 then some (.s2b e) else none
  | some (.slice e), some .string => if tik P e = some .u8 then some .b2s else none
  | _, _ => none

def flatL : List (List Sc) → Bool
  | [] => true
  | c :: r => flatC c && flatL r
theorem flatL_iff : ∀ {cs : List (List Sc)}, flatL cs = true → FlatL cs
  | [], _ => fun c hc => by cases hc
  | c :: r, h => by
    simp only [flatL, Bool.and_eq_true] at h
    intro d hd
    rcases List.mem_cons.1 hd with rfl | hd
    · exact h.1
    · exact flatL_iff h.2 d hd
theorem flatC_append : ∀ {a b : List Sc}, flatC a = true → flatC b = true → flatC (a ++ b) = true
  | [], _, _, h => h
  | s :: a, b, h, k => by
    simp only [flatC, Bool.and_eq_true, List.cons_append] at h ⊢
    exact ⟨h.1, flatC_append h.2 k⟩
theorem flatC_mem : ∀ {a : List Sc}, flatC a = true ↔ ∀ s ∈ a, s.isFlat = true
  | [] => by simp [flatC]
  | s :: a => by simp [flatC, flatC_mem (a := a)]
structure OpR where
  v : Option AV
  hp : Hp
  c : Prop
/-- l put in the place of the cells from j on. -/
def splice (c : List Sc) (j : Nat) (l : List Sc) : List Sc := c.take j ++ (l ++ c.drop (j + l.length))

/-- Two flat values of a type compare as their cells do. -/
def EqRun (P : Program) (t : TypeId) (a b : List Sc) (r : Bool) : Prop :=
  ∀ (β : Be) (w : World) (x y : Operand) (vs us : List Value), L2 (ScR β) a vs → L2 (ScR β) b us →
    (do eqGuard .eql t x y (.agg vs.toArray) (.agg us.toArray); binOp .eql t (.agg vs.toArray) (.agg us.toArray)).run P w = .ok (.bool r) w ∧
    (do eqGuard .neq t x y (.agg vs.toArray) (.agg us.toArray); binOp .neq t (.agg vs.toArray) (.agg us.toArray)).run P w = .ok (.bool (!r)) w
def scEq : Sc → Sc → Bool
  | .int _ a, .int _ b => a == b
  | .bo a, .bo b => a == b
  | .st a, .st b => a == b
  | _, _ => false
def scsEq : List Sc → List Sc → Bool
  | [], [] => true
  | a :: l, b :: m => scEq a b && scsEq l m
  | _, _ => false
/-- Such values of a type may be compared. -/
def EqOk (P : Program) (t : TypeId) (a b : List Sc) : Prop := EqRun P t a b (scsEq a b)

def aInt (op : BinOp) (k : IntKind) (a b : Int) : Option (Sc × Prop) :=
  match op with
  | .add => some (.int k (k.wrap (a + b)), True)
  | .sub => some (.int k (k.wrap (a - b)), True)
  | .mul => some (.int k (k.wrap (a * b)), True)
  | .quo => some (.int k (k.wrap (a.tdiv b)), b ≠ 0)
  | .rem => some (.int k (a.tmod b), b ≠ 0)
  | .and => some (.int k (k.wrap (BitVec.ofInt k.bits a &&& BitVec.ofInt k.bits b).toNat), True)
  | .or => some (.int k (k.wrap (BitVec.ofInt k.bits a ||| BitVec.ofInt k.bits b).toNat), True)
  | .xor => some (.int k (k.wrap (BitVec.ofInt k.bits a ^^^ BitVec.ofInt k.bits b).toNat), True)
  | .eql => some (.bo (a == b), True)
  | .neq => some (.bo (a != b), True)
  | .lss => some (.bo (decide (a < b)), True)
  | .leq => some (.bo (decide (a ≤ b)), True)
  | .gtr => some (.bo (decide (b < a)), True)
  | .geq => some (.bo (decide (b ≤ a)), True)
  | _ => none
def aBin (P : Program) (t : TypeId) (op : BinOp) : Sc → Sc → Option (Sc × Prop)
  | .int k a, .int k' b => match op with
    | .shl => some (.int k (k.wrap (a * 2 ^ (min b.toNat k.bits))), 0 ≤ b)
    | .shr => some (.int k (a.fdiv (2 ^ (min b.toNat k.bits))), 0 ≤ b)
    | op => if k = k' then aInt op k a b else none
  | .st a, .st b => match op with
    | .add => some (.st (a ++ b), a.length + b.length ≤ 4611686018427387904)
    | .eql => some (.bo (a == b), True)
    | .neq => some (.bo (!(a == b)), True)
    | _ => none
  | .bo a, .bo b => match op with
    | .eql => match tbool P t with
      | true => some (.bo (a == b), True)
      | false => none
    | .neq => match tbool P t with
      | true => some (.bo (!(a == b)), True)
      | false => none
    | _ => none
  | _, _ => none

/-- The parts of a struct literal. -/
def fillA (pl : Nat → Option (Nat × Nat)) (cells : List Sc) : List (Nat × List Sc) → Option (List Sc)
  | [] => some cells
  | (i, v) :: rest => match pl i with
    | none => none
    | some (off, size) => match lenIs v size && fits cells off size with
      | true => fillA pl (spl cells off v) rest
      | false => none
/-- The parts of a slice literal. -/
def fillL (esz : Nat) (cs : List (List Sc)) : List (Nat × List Sc) → Option (List (List Sc))
  | [] => some cs
  | (i, v) :: rest => match lenIs v esz && fits cs i 1 with
    | true => fillL esz (cs.set i v) rest
    | false => none
def S.parts (s : S) : List (Nat × Operand) → Option (List (Nat × List Sc))
  | [] => some []
  | (i, x) :: rest => match s.ev x with
    | some v => match v.cells with
      | some cs => match s.parts rest with
        | some l => some ((i, cs) :: l)
        | none => none
      | none => none
    | none => none
def S.scals (s : S) : List Operand → Option (List Sc)
  | [] => some []
  | x :: rest => match s.ev x with
    | some (.sc c) => match s.scals rest with
      | some l => some (c :: l)
      | none => none
    | _ => none
def byteSc : List Sc → UInt8
  | [.int .u8 n] => UInt8.ofNat n.toNat
  | _ => 0
def scByte (b : UInt8) : List Sc := [.int .u8 b.toNat]
def isByte : List Sc → Bool
  | [.int .u8 _] => true
  | _ => false

def optInt (s : S) : Option Operand → Option (Option Int)
  | none => some none
  | some x => match s.ev x with
    | some (.sc (.int _ n)) => some (some n)
    | _ => none
def S.new (s : S) (ob : AObj) (v : AV) : OpR := ⟨some v, s.hp ++ [some ob], True⟩
def S.val (s : S) (v : AV) : OpR := ⟨some v, s.hp, True⟩
def S.valc (s : S) (v : AV) (c : Prop) : OpR := ⟨some v, s.hp, c⟩

def aSlice (s : S) : AV → Option Int → Option Int → Option OpR
  | .sc (.st l), none, none => some (s.val (.sc (.st l)))
  | .sc (.st l), some a, none => some (s.valc (.sc (.st (l.drop a.toNat))) (0 ≤ a ∧ a ≤ l.length))
  | .sc (.st l), none, some b => some (s.valc (.sc (.st (l.take b.toNat))) (0 ≤ b ∧ b ≤ l.length))
  | .sc (.st l), some a, some b => some (s.valc (.sc (.st ((l.take b.toNat).drop a.toNat))) (0 ≤ a ∧ a ≤ b ∧ b ≤ l.length))
  | .sc (.sl o off len), none, none => some (s.val (.sc (.sl o off len)))
  | .sc (.sl o off len), some a, none => some (s.valc (.sc (.sl o (off + a.toNat) (len - a.toNat))) (0 ≤ a ∧ a ≤ len))
  | .sc (.sl o off len), none, some b => some (s.valc (.sc (.sl o off b.toNat)) (0 ≤ b ∧ b ≤ len))
  | .sc (.sl o off len), some a, some b => some (s.valc (.sc (.sl o (off + a.toNat) (b.toNat - a.toNat))) (0 ≤ a ∧ a ≤ b ∧ b ≤ len))
  | _, _, _ => none
def aAppend (P : Program) (s : S) (t : TypeId) (a x : AV) : Option OpR :=
  match tsl P t with
  | none => none
  | some (e, sz) => match tz P e with
    | none => none
    | some _ => match a, x with
      | .sc (.sl o off len), .sc .nil => some (s.val (.sc (.sl o off len)))
      | .sc .nil, .sc .nil => some (s.val (.sc .nil))
      | .sc .nil, .sc (.sl o off len) => match s.obj o with
        | some ob => if ob.esz = sz then some ⟨some (.sc (.sl s.hp.length 0 len)), s.hp ++ [some ⟨(ob.cs.drop off).take len, sz, e, true, ob.fl⟩], off + len ≤ ob.cs.length ∧ len ≤ 1073741824⟩ else none
        | none => none
      | .sc (.sl o' off' len'), .sc (.sl o off len) => match s.obj o', s.obj o with
        | some ob', some ob => if ob.esz = sz ∧ ob'.esz = sz ∧ ob'.own = true ∧ ob'.ty = e ∧ off' = 0 ∧ o' ≠ o then
            some ⟨some (.sc (.sl s.hp.length 0 (len' + len))), s.hp.set o' none ++ [some ⟨ob'.cs ++ (ob.cs.drop off).take len, sz, e, true, ob'.fl && ob.fl⟩], ob'.cs.length = len' ∧ off + len ≤ ob.cs.length ∧ len' + len ≤ 1073741824⟩ else none
        | _, _ => none
      | _, _ => none

def aop (P : Program) (s : S) (ty : TypeId) : Op → Option OpR
  | .move x | .assign x => match s.ev x with
    | some v => some (s.val v)
    | none => none
  | .pick c a b => match s.ev c with
    | some (.sc (.bo true)) => match s.ev a with
      | some v => some (s.val v)
      | none => none
    | some (.sc (.bo false)) => match s.ev b with
      | some v => some (s.val v)
      | none => none
    | _ => none
  | .alloc e => match tz P e with
    | some z => some (s.new ⟨[z], z.length, e, true, false⟩ (.sc (.pt s.hp.length 0 0)))
    | none => none
  | .box e x => match s.ev x with
    | some v => match v.cells with
      | some cs => some (s.new ⟨[cs], cs.length, e, true, false⟩ (.sc (.pt s.hp.length 0 0)))
      | none => none
    | none => none
  | .build t parts => match tbuild P t with
    | some z => match s.parts parts.toList with
      | some l => match fillA (tfld P t) z l with
        | some cs => some (s.val (.ag cs))
        | none => none
      | none => none
    | none => none
  | .buildSlice t len parts => match tsl P t with
    | some (e, sz) => match tz P e with
      | some z => match s.parts parts.toList with
        | some l => match leB len 256 with
          | true => match fillL sz (List.replicate len z) l with
            | some cs => some (s.new ⟨cs, sz, e, true, flatL cs⟩ (.sc (.sl s.hp.length 0 len)))
            | none => none
          | false => none
        | none => none
      | none => none
    | none => none
  | .load t a => match s.ev a with
    | some (.sc (.pt o k j)) => match s.obj o with
      | some ob => match ob.cs[k]? with
        | some c => match tload P t with
          | some (some n) => match fits c j n with
            | true => some (s.val (.ag ((c.drop j).take n)))
            | false => none
          | some none => match c[j]? with
            | some x => some (s.val (.sc x))
            | none => none
          | none => none
        | none => none
      | none => none
    | _ => none
  | .store t a x => match s.ev a with
    | some (.sc (.pt o k j)) => match s.obj o with
      | some ob => match ob.cs[k]? with
        | some c => match s.ev x with
          | some v => match v.cells with
            | some vs => match tst P t with
              | some n => match lenIs vs n && fits c j n && ob.own with
                | true => some ⟨none, s.hp.set o (some { ob with cs := ob.cs.set k (spl c j vs), fl := ob.fl && flatC vs }), True⟩
                | false => none
              | none => none
            | none => none
          | none => none
        | none => none
      | none => none
    | _ => none
  | .nilCheck x => match s.ev x with
    | some (.sc (.pt o k j)) => some (s.val (.sc (.pt o k j)))
    | some (.cl f caps) => some (s.val (.cl f caps))
    | _ => none
  | .binOp op t x y _ => match s.ev x, s.ev y with
    | some (.sc a), some (.sc b) => match aBin P t op a b with
      | some (r, c) => some (s.valc (.sc r) c)
      | none => none
    | some (.ag a), some (.ag b) => match op with
      | .eql => some (s.valc (.sc (.bo (scsEq a b))) (EqOk P t a b))
      | .neq => some (s.valc (.sc (.bo (!scsEq a b))) (EqOk P t a b))
      | _ => none
    | _, _ => none
  | .unOp op _ x => match s.ev x with
    | some (.sc (.bo b)) => match op with
      | .not => some (s.val (.sc (.bo (!b))))
      | _ => none
    | some (.sc (.int k n)) => match op with
      | .neg => some (s.val (.sc (.int k (k.wrap (0 - n)))))
      | _ => none
    | _ => none
  | .convert src dst x => match tcv P src dst, s.ev x with
    | some (.int k'), some (.sc (.int k n)) => some (s.val (.sc (.int k' (k'.wrap n))))
    | some .str, some (.sc (.st l)) => some (s.val (.sc (.st l)))
    | some (.s2b e), some (.sc (.st l)) => some (⟨some (.sc (.sl s.hp.length 0 l.length)), s.hp ++ [some ⟨l.map scByte, 1, e, false, true⟩], l.length ≤ 1073741824⟩)
    | some .b2s, some (.sc (.sl o off len)) => match s.obj o with
      | some ob => if ob.esz = 1 then some (s.valc (.sc (.st (((ob.cs.drop off).take len).map byteSc))) (off + len ≤ ob.cs.length ∧ ∀ c ∈ ob.cs, isByte c = true)) else none
      | none => none
    | some .b2s, some (.sc .nil) => some (s.val (.sc (.st [])))
    | _, _ => none
  | .makeSlice t l c => match tsl P t with
    | some (e, sz) => match tz P e with
      | some z => match s.ev l, s.ev c with
        | some (.sc (.int _ l)), some (.sc (.int _ c)) => some ⟨some (.sc (.sl s.hp.length 0 l.toNat)), s.hp ++ [some ⟨List.replicate l.toNat z, sz, e, true, flatC z⟩], 0 ≤ l ∧ l ≤ c ∧ c ≤ 1073741824⟩
        | _, _ => none
      | none => none
    | none => none
  | .slice t x lo hi none => match s.ev x, optInt s lo, optInt s hi with
    | some v, some lo, some hi => match v with
      | .sc (.st _) => match tstr P t with
        | true => aSlice s v lo hi
        | false => none
      | .sc (.sl o _ _) => match tsl P t, s.obj o with
        | some (_, sz), some ob => if ob.esz = sz then aSlice s v lo hi else none
        | _, _ => none
      | _ => none
    | _, _, _ => none
  | .fieldAddr t x f => match s.ev x, tfld P t f with
    | some (.sc (.pt o k j)), some (off, _) => some (s.val (.sc (.pt o k (j + off))))
    | _, _ => none
  | .indexAddr t x i => match s.ev x, s.ev i, tsl P t with
    | some (.sc (.sl o off len)), some (.sc (.int _ i)), some (_, sz) => match s.obj o with
      | some ob => if ob.esz = sz then some (s.valc (.sc (.pt o (off + i.toNat) 0)) (0 ≤ i ∧ i < len)) else none
      | none => none
    | _, _, _ => none
  | .index t x i => match s.ev x, s.ev i with
    | some (.sc (.st l)), some (.sc (.int _ i)) => match tstr P t with
      | true => some (s.valc (.sc (.int .u8 (l.getD i.toNat 0).toNat)) (0 ≤ i ∧ i < l.length))
      | false => none
    | _, _ => none
  | .extract x i => match s.ev x with
    | some (.tu l) => match l[i]? with
      | some c => some (s.val c.av)
      | none => none
    | _ => none
  | .makeFunc (.func f) first caps => if first.size = 0 then match s.scals caps.toList with
      | some l => some (s.val (.cl f l))
      | none => none else none
  | .call { callee := .builtin .len, args, argTypes } => match args.toList, argTypes.toList with
    | [x], [t] => match s.ev x with
      | some (.sc (.st l)) => match tstr P t with
        | true => some (s.val (.sc (.int .i64 l.length)))
        | false => none
      | some (.sc (.sl _ _ len)) => match tsl P t with
        | some _ => some (s.val (.sc (.int .i64 len)))
        | none => none
      | some (.sc .nil) => match tsl P t with
        | some _ => some (s.val (.sc (.int .i64 0)))
        | none => none
      | _ => none
    | _, _ => none
  | .call { callee := .builtin .append, args, argTypes } => match args.toList, argTypes.toList with
    | [x, y], [t, t'] => if t = t' then match s.ev x, s.ev y with
      | some a, some b => aAppend P s t a b
      | _, _ => none else none
    | _, _ => none
  | .call { callee := .builtin .min, args, argTypes } => match args.toList with
    | [x, y] => match s.ev x, s.ev y with
      | some (.sc (.int k a)), some (.sc (.int k' b)) => some (s.val (.sc (.int k (if b < a then b else a))))
      | _, _ => none
    | _ => none
  | .call { callee := .builtin .max, args, argTypes } => match args.toList with
    | [x, y] => match s.ev x, s.ev y with
      | some (.sc (.int k a)), some (.sc (.int k' b)) => some (s.val (.sc (.int k (if a < b then b else a))))
      | _, _ => none
    | _ => none
  | _ => none
end Go.Proofs.YtoghbjbfldlfpaaGreat
