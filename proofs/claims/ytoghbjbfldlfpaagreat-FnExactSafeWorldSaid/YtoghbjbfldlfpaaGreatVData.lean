/-
  The data of the program as Lean structures, as abstract cells, and how a value that comes in is read as one. Written by vgen.py.
-/
import Derived.Test.YtoghbjbfldlfpaaGreatVSee
import Derived.Test.YtoghbjbfldlfpaaGreatVx14
namespace Go.Proofs.YtoghbjbfldlfpaaGreat
open Go.ChangeShapes Go.WideShapes Go.ChangeAt Go.RowKit
set_option linter.unusedVariables false


def intC (n : Int) : List Sc := [.int .i64 n]
theorem strOf (s : ByteArray) : s = ⟨s.data.toList.toArray⟩ := rfl
theorem intC_conv {cs : List Value} (h : See0s [.int] cs) : ∃ n : Int, L2 (ScR []) (intC n) cs ∧ I64 n := by
  obtain ⟨_, _, rfl, ⟨n, rfl, hn⟩, rfl⟩ := h
  exact ⟨n, ⟨rfl, trivial⟩, hn⟩
def byteC (n : UInt8) : List Sc := [.int .u8 n.toNat]
/-- Elements flat: what a row of them is, whatever lies where. -/
def FlatEnc {α : Type} (enc : α → List Sc) : Prop := ∀ x, flatC (enc x) = true
theorem flatL_map {α : Type} {enc : α → List Sc} (h : FlatEnc enc) (l : List α) : FlatL (l.map enc) := by
  intro c hc
  obtain ⟨x, _, rfl⟩ := List.mem_map.1 hc
  exact h x
theorem map_get {α : Type} {enc : α → List Sc} {l : List α} {k : Nat} (h : k < l.length) : (l.map enc)[k]? = some (enc l[k]) := by simp [h]
theorem exists_list {α : Type} (n : Nat) (R : Nat → α → Prop) (h : ∀ i, i < n → ∃ x, R i x) : ∃ xs : List α, xs.length = n ∧ ∀ i x, xs[i]? = some x → R i x := by
  induction n with
  | zero => exact ⟨[], rfl, fun i x h => by simp at h⟩
  | succ n ih =>
    obtain ⟨xs, hl, hx⟩ := ih (fun i hi => h i (by omega))
    obtain ⟨x, hn⟩ := h n (by omega)
    refine ⟨xs ++ [x], by simp [hl], fun i y hy => ?_⟩
    by_cases hi : i < n
    · rw [List.getElem?_append_left (by omega)] at hy
      exact hx i y hy
    · rw [List.getElem?_append_right (by omega)] at hy
      have : i - xs.length = 0 := by
        have h1 := (List.getElem?_eq_some_iff.1 hy).1
        simp at h1; omega
      rw [this] at hy
      simp at hy
      have e : i = n := by omega
      subst e; subst hy
      exact hn
/-- A slice that came in: what it reads as, and where it lies. -/
structure SlIn {α : Type} (w : World) (enc : α → List Sc) (sz : Nat) (v : Value) (xs : List α) (p : Option Pl) : Prop where
  val : ∀ (β : Be) (o : Nat), β[o]? = some p → ScR β (.sl o 0 xs.length) v
  ob : ∀ (β : Be) (ty : TypeId), ObR β w p ⟨xs.map enc, sz, ty, false, true⟩
theorem see_slx {α : Type} {w : World} (enc : α → List Sc) (ls : List L0) (W : α → Prop) (hf : FlatEnc enc) (conv : ∀ cs, See0s ls cs → ∃ x, L2 (ScR []) (enc x) cs ∧ W x) {v : Value} (h : SeeSl w ls v) :
    ∃ (xs : List α) (p : Option Pl), SlIn w enc ls.length v xs p ∧ xs.length ≤ maxLen ∧ ∀ x ∈ xs, W x := by
  obtain ⟨A, n, c, rfl, hl, hm, hz⟩ := h
  rcases hz with rfl | ⟨b, off, arr, T, fz, rfl, hh, hi⟩
  · have hn : n = 0 := by omega
    subst hn
    exact ⟨[], none, ⟨fun β o _ => ⟨A, 0, rfl, Nat.le_refl _, Nat.zero_le _, .inl rfl⟩, fun β ty => rfl⟩, Nat.zero_le _, by simp⟩
  · obtain ⟨xs, rfl, hx⟩ := exists_list n (fun i x => W x ∧ ∃ cs, L2 (ScR []) (enc x) cs ∧ cs.length = ls.length ∧ ∀ (j : Nat) (v : Value), cs[j]? = some v → arr[off + i * ls.length + j]? = some v) (fun i h => by
      obtain ⟨cs, hs, hl, hc⟩ := hi i h
      obtain ⟨x, hr, hw⟩ := conv cs hs
      exact ⟨x, hw, cs, hr, hl, hc⟩)
    refine ⟨xs, some ⟨b, off, ls.length, c * ls.length⟩, ⟨fun β o ho => ⟨_, c, rfl, hl, hm, .inr ⟨_, ho, by simp, by simp⟩⟩, fun β ty => ⟨rfl, arr, T, fz, hh, ?_, fun h => by cases h⟩⟩, by omega, fun x h => ?_⟩
    · intro k e hk
      simp only [List.getElem?_map, Option.map_eq_some_iff] at hk
      obtain ⟨x, hx', rfl⟩ := hk
      obtain ⟨_, cs, hr, hcl, hc⟩ := hx k x hx'
      refine ⟨hr.length.trans hcl, fun j s hs => ?_⟩
      obtain ⟨v, hv, hrv⟩ := hr.get hs
      exact ⟨v, hc j v hv, flat_R (flatC_mem.1 (hf x) s (List.mem_of_getElem? hs)) hrv⟩
    · obtain ⟨i, hi, rfl⟩ := List.getElem_of_mem h
      exact (hx i _ (List.getElem?_eq_getElem hi)).1
/-- A heap of objects that may only be read. -/
theorem hsim_ro {β : Be} {h : Hp} {w : World} (hl : β.length = h.length) (hob : ∀ (o : Nat) (ob : AObj) (p : Option Pl), h[o]? = some (some ob) → β[o]? = some p → ob.own = false ∧ ObR β w p ob ∧ FlatL ob.cs) : HSim β h w := by
  have bp : ∀ {o : Nat} {x : Option AObj}, h[o]? = some x → ∃ p, β[o]? = some p := fun {o x} hx => ⟨β[o]'(by rw [hl]; exact (List.getElem?_eq_some_iff.1 hx).1), List.getElem?_eq_getElem _⟩
  refine ⟨hl, fun o ob ho => ?_, fun o ob ho _ => ?_, fun o o' ob ob' p p' ho _ hown _ _ _ => ?_⟩
  · obtain ⟨p, hp⟩ := bp ho
    exact ⟨p, hp, (hob o ob p ho hp).2.1⟩
  · obtain ⟨p, hp⟩ := bp ho
    exact (hob o ob p ho hp).2.2
  · obtain ⟨q, hq⟩ := bp ho
    rw [(hob o ob q ho hq).1] at hown
    cases hown
/-- Objects one by one. -/
def RoL (β : Be) (w : World) : Be → Hp → Prop
  | [], [] => True
  | p :: l, some ob :: h => (ob.own = false ∧ ObR β w p ob ∧ FlatL ob.cs) ∧ RoL β w l h
  | _, _ => False
theorem roL_get {β : Be} {w : World} : ∀ {l : Be} {h : Hp}, RoL β w l h → l.length = h.length ∧ ∀ (o : Nat) (ob : AObj) (p : Option Pl), h[o]? = some (some ob) → l[o]? = some p → ob.own = false ∧ ObR β w p ob ∧ FlatL ob.cs
  | [], [], _ => ⟨rfl, fun o ob p h => by simp at h⟩
  | q :: l, some x :: h, hr => by
    obtain ⟨h1, h2⟩ := roL_get hr.2
    refine ⟨by simp [h1], fun o ob p ho hp => ?_⟩
    cases o with
    | zero =>
      simp only [List.getElem?_cons_zero, Option.some.injEq] at ho hp
      subst ho; subst hp
      exact hr.1
    | succ o => exact h2 o ob p (by simpa using ho) (by simpa using hp)
  | [], _ :: _, h => h.elim
  | _ :: _, [], h => h.elim
  | _ :: _, none :: _, h => h.elim
theorem hsim_roL {β : Be} {w : World} {h : Hp} (hr : RoL β w β h) : HSim β h w := hsim_ro (roL_get hr).1 (roL_get hr).2
theorem L2.monoE {cs : List Sc} {vs : List Value} (hf : flatC cs = true) (h : L2 (ScR []) cs vs) (β : Be) : L2 (ScR β) cs vs := L2.mono (fun _ _ => ScR.mono (fun o p hp => by simp at hp)) h

structure RoadD where
  own : Int
  far : Int
  port : Int
deriving DecidableEq, Inhabited
def RoadD.cs (x : RoadD) : List Sc := [.int .i64 x.own, .int .i64 x.far, .int .i64 x.port]
def RoadD.wf (x : RoadD) : Prop := I64 x.own ∧ I64 x.far ∧ I64 x.port
def RoadD.ls : List L0 := [.int, .int, .int]
theorem RoadD.flat : FlatEnc RoadD.cs := fun _ => rfl
theorem RoadD.conv {cs : List Value} (h : See0s RoadD.ls cs) : ∃ x : RoadD, L2 (ScR []) x.cs cs ∧ x.wf := by
  obtain ⟨_, _, e, ⟨v0, rfl, wv0⟩, h⟩ := h; subst e
  obtain ⟨_, _, e, ⟨v1, rfl, wv1⟩, h⟩ := h; subst e
  obtain ⟨_, _, e, ⟨v2, rfl, wv2⟩, h⟩ := h; subst e
  obtain rfl := h
  exact ⟨⟨v0, v1, v2⟩, ⟨rfl, ⟨rfl, ⟨rfl, trivial⟩⟩⟩, wv0, wv1, wv2⟩

structure AddrD where
  id : Int
  addr : Int
  spare : Bool
  told : Bool
deriving DecidableEq, Inhabited
def AddrD.cs (x : AddrD) : List Sc := [.int .i64 x.id, .int .i64 x.addr, .bo x.spare, .bo x.told]
def AddrD.wf (x : AddrD) : Prop := I64 x.id ∧ I64 x.addr
def AddrD.ls : List L0 := [.int, .int, .bool, .bool]
theorem AddrD.flat : FlatEnc AddrD.cs := fun _ => rfl
theorem AddrD.conv {cs : List Value} (h : See0s AddrD.ls cs) : ∃ x : AddrD, L2 (ScR []) x.cs cs ∧ x.wf := by
  obtain ⟨_, _, e, ⟨v0, rfl, wv0⟩, h⟩ := h; subst e
  obtain ⟨_, _, e, ⟨v1, rfl, wv1⟩, h⟩ := h; subst e
  obtain ⟨_, _, e, ⟨v2, rfl⟩, h⟩ := h; subst e
  obtain ⟨_, _, e, ⟨v3, rfl⟩, h⟩ := h; subst e
  obtain rfl := h
  exact ⟨⟨v0, v1, v2, v3⟩, ⟨rfl, ⟨rfl, ⟨rfl, ⟨rfl, trivial⟩⟩⟩⟩, wv0, wv1⟩

structure PolicyD where
  kind : Int
  many : Int
deriving DecidableEq, Inhabited
def PolicyD.cs (x : PolicyD) : List Sc := [.int .i64 x.kind, .int .i64 x.many]
def PolicyD.wf (x : PolicyD) : Prop := I64 x.kind ∧ I64 x.many
def PolicyD.ls : List L0 := [.int, .int]
theorem PolicyD.flat : FlatEnc PolicyD.cs := fun _ => rfl
theorem PolicyD.conv {cs : List Value} (h : See0s PolicyD.ls cs) : ∃ x : PolicyD, L2 (ScR []) x.cs cs ∧ x.wf := by
  obtain ⟨_, _, e, ⟨v0, rfl, wv0⟩, h⟩ := h; subst e
  obtain ⟨_, _, e, ⟨v1, rfl, wv1⟩, h⟩ := h; subst e
  obtain rfl := h
  exact ⟨⟨v0, v1⟩, ⟨rfl, ⟨rfl, trivial⟩⟩, wv0, wv1⟩

structure BucketD where
  rate : Int
  burst : Int
  cur : Int
deriving DecidableEq, Inhabited
def BucketD.cs (x : BucketD) : List Sc := [.int .i64 x.rate, .int .i64 x.burst, .int .i64 x.cur]
def BucketD.wf (x : BucketD) : Prop := I64 x.rate ∧ I64 x.burst ∧ I64 x.cur
def BucketD.ls : List L0 := [.int, .int, .int]
theorem BucketD.flat : FlatEnc BucketD.cs := fun _ => rfl
theorem BucketD.conv {cs : List Value} (h : See0s BucketD.ls cs) : ∃ x : BucketD, L2 (ScR []) x.cs cs ∧ x.wf := by
  obtain ⟨_, _, e, ⟨v0, rfl, wv0⟩, h⟩ := h; subst e
  obtain ⟨_, _, e, ⟨v1, rfl, wv1⟩, h⟩ := h; subst e
  obtain ⟨_, _, e, ⟨v2, rfl, wv2⟩, h⟩ := h; subst e
  obtain rfl := h
  exact ⟨⟨v0, v1, v2⟩, ⟨rfl, ⟨rfl, ⟨rfl, trivial⟩⟩⟩, wv0, wv1, wv2⟩

structure HalfD where
  road : RoadD
  theirs : Int
  mine : Int
  give : Int
  take : Int
  till : Int
deriving DecidableEq, Inhabited
def HalfD.cs (x : HalfD) : List Sc := [.int .i64 x.road.own, .int .i64 x.road.far, .int .i64 x.road.port, .int .i64 x.theirs, .int .i64 x.mine, .int .i64 x.give, .int .i64 x.take, .int .i64 x.till]
def HalfD.wf (x : HalfD) : Prop := I64 x.road.own ∧ I64 x.road.far ∧ I64 x.road.port ∧ I64 x.theirs ∧ I64 x.mine ∧ I64 x.give ∧ I64 x.take ∧ I64 x.till
def HalfD.ls : List L0 := [.int, .int, .int, .int, .int, .int, .int, .int]
theorem HalfD.flat : FlatEnc HalfD.cs := fun _ => rfl
theorem HalfD.conv {cs : List Value} (h : See0s HalfD.ls cs) : ∃ x : HalfD, L2 (ScR []) x.cs cs ∧ x.wf := by
  obtain ⟨_, _, e, ⟨v0, rfl, wv0⟩, h⟩ := h; subst e
  obtain ⟨_, _, e, ⟨v1, rfl, wv1⟩, h⟩ := h; subst e
  obtain ⟨_, _, e, ⟨v2, rfl, wv2⟩, h⟩ := h; subst e
  obtain ⟨_, _, e, ⟨v3, rfl, wv3⟩, h⟩ := h; subst e
  obtain ⟨_, _, e, ⟨v4, rfl, wv4⟩, h⟩ := h; subst e
  obtain ⟨_, _, e, ⟨v5, rfl, wv5⟩, h⟩ := h; subst e
  obtain ⟨_, _, e, ⟨v6, rfl, wv6⟩, h⟩ := h; subst e
  obtain ⟨_, _, e, ⟨v7, rfl, wv7⟩, h⟩ := h; subst e
  obtain rfl := h
  exact ⟨⟨⟨v0, v1, v2⟩, v3, v4, v5, v6, v7⟩, ⟨rfl, ⟨rfl, ⟨rfl, ⟨rfl, ⟨rfl, ⟨rfl, ⟨rfl, ⟨rfl, trivial⟩⟩⟩⟩⟩⟩⟩⟩, wv0, wv1, wv2, wv3, wv4, wv5, wv6, wv7⟩

structure TagD where
  kind : Int
  one : Int
  two : Int
  a : Int
  b : Int
deriving DecidableEq, Inhabited
def TagD.cs (x : TagD) : List Sc := [.int .i64 x.kind, .int .i64 x.one, .int .i64 x.two, .int .i64 x.a, .int .i64 x.b]
def TagD.wf (x : TagD) : Prop := I64 x.kind ∧ I64 x.one ∧ I64 x.two ∧ I64 x.a ∧ I64 x.b
def TagD.ls : List L0 := [.int, .int, .int, .int, .int]
theorem TagD.flat : FlatEnc TagD.cs := fun _ => rfl
theorem TagD.conv {cs : List Value} (h : See0s TagD.ls cs) : ∃ x : TagD, L2 (ScR []) x.cs cs ∧ x.wf := by
  obtain ⟨_, _, e, ⟨v0, rfl, wv0⟩, h⟩ := h; subst e
  obtain ⟨_, _, e, ⟨v1, rfl, wv1⟩, h⟩ := h; subst e
  obtain ⟨_, _, e, ⟨v2, rfl, wv2⟩, h⟩ := h; subst e
  obtain ⟨_, _, e, ⟨v3, rfl, wv3⟩, h⟩ := h; subst e
  obtain ⟨_, _, e, ⟨v4, rfl, wv4⟩, h⟩ := h; subst e
  obtain rfl := h
  exact ⟨⟨v0, v1, v2, v3, v4⟩, ⟨rfl, ⟨rfl, ⟨rfl, ⟨rfl, ⟨rfl, trivial⟩⟩⟩⟩⟩, wv0, wv1, wv2, wv3, wv4⟩

structure LetterD where
  kind : Int
  frm : Int
  to : Int
  port : Int
  key : Int
  token : Int
  nonce : Int
  give : Int
  sgn : Int
  tag : TagD
  id : Int
  addr : Int
  spare : Bool
  pos : Int
  text : List UInt8
deriving DecidableEq, Inhabited
def LetterD.cs (x : LetterD) : List Sc := [.int .i64 x.kind, .int .i64 x.frm, .int .i64 x.to, .int .i64 x.port, .int .i64 x.key, .int .i64 x.token, .int .i64 x.nonce, .int .i64 x.give, .int .i64 x.sgn, .int .i64 x.tag.kind, .int .i64 x.tag.one, .int .i64 x.tag.two, .int .i64 x.tag.a, .int .i64 x.tag.b, .int .i64 x.id, .int .i64 x.addr, .bo x.spare, .int .i64 x.pos, .st x.text]
def LetterD.wf (x : LetterD) : Prop := I64 x.kind ∧ I64 x.frm ∧ I64 x.to ∧ I64 x.port ∧ I64 x.key ∧ I64 x.token ∧ I64 x.nonce ∧ I64 x.give ∧ I64 x.sgn ∧ I64 x.tag.kind ∧ I64 x.tag.one ∧ I64 x.tag.two ∧ I64 x.tag.a ∧ I64 x.tag.b ∧ I64 x.id ∧ I64 x.addr ∧ I64 x.pos ∧ x.text.length ≤ maxLen
def LetterD.ls : List L0 := [.int, .int, .int, .int, .int, .int, .int, .int, .int, .int, .int, .int, .int, .int, .int, .int, .bool, .int, .str]
theorem LetterD.flat : FlatEnc LetterD.cs := fun _ => rfl
theorem LetterD.conv {cs : List Value} (h : See0s LetterD.ls cs) : ∃ x : LetterD, L2 (ScR []) x.cs cs ∧ x.wf := by
  obtain ⟨_, _, e, ⟨v0, rfl, wv0⟩, h⟩ := h; subst e
  obtain ⟨_, _, e, ⟨v1, rfl, wv1⟩, h⟩ := h; subst e
  obtain ⟨_, _, e, ⟨v2, rfl, wv2⟩, h⟩ := h; subst e
  obtain ⟨_, _, e, ⟨v3, rfl, wv3⟩, h⟩ := h; subst e
  obtain ⟨_, _, e, ⟨v4, rfl, wv4⟩, h⟩ := h; subst e
  obtain ⟨_, _, e, ⟨v5, rfl, wv5⟩, h⟩ := h; subst e
  obtain ⟨_, _, e, ⟨v6, rfl, wv6⟩, h⟩ := h; subst e
  obtain ⟨_, _, e, ⟨v7, rfl, wv7⟩, h⟩ := h; subst e
  obtain ⟨_, _, e, ⟨v8, rfl, wv8⟩, h⟩ := h; subst e
  obtain ⟨_, _, e, ⟨v9, rfl, wv9⟩, h⟩ := h; subst e
  obtain ⟨_, _, e, ⟨v10, rfl, wv10⟩, h⟩ := h; subst e
  obtain ⟨_, _, e, ⟨v11, rfl, wv11⟩, h⟩ := h; subst e
  obtain ⟨_, _, e, ⟨v12, rfl, wv12⟩, h⟩ := h; subst e
  obtain ⟨_, _, e, ⟨v13, rfl, wv13⟩, h⟩ := h; subst e
  obtain ⟨_, _, e, ⟨v14, rfl, wv14⟩, h⟩ := h; subst e
  obtain ⟨_, _, e, ⟨v15, rfl, wv15⟩, h⟩ := h; subst e
  obtain ⟨_, _, e, ⟨v16, rfl⟩, h⟩ := h; subst e
  obtain ⟨_, _, e, ⟨v17, rfl, wv17⟩, h⟩ := h; subst e
  obtain ⟨_, _, e, ⟨v18, rfl, wv18⟩, h⟩ := h; subst e
  obtain rfl := h
  exact ⟨⟨v0, v1, v2, v3, v4, v5, v6, v7, v8, ⟨v9, v10, v11, v12, v13⟩, v14, v15, v16, v17, v18.data.toList⟩, ⟨rfl, ⟨rfl, ⟨rfl, ⟨rfl, ⟨rfl, ⟨rfl, ⟨rfl, ⟨rfl, ⟨rfl, ⟨rfl, ⟨rfl, ⟨rfl, ⟨rfl, ⟨rfl, ⟨rfl, ⟨rfl, ⟨rfl, ⟨rfl, ⟨rfl, trivial⟩⟩⟩⟩⟩⟩⟩⟩⟩⟩⟩⟩⟩⟩⟩⟩⟩⟩⟩, wv0, wv1, wv2, wv3, wv4, wv5, wv6, wv7, wv8, wv9, wv10, wv11, wv12, wv13, wv14, wv15, wv17, wv18⟩

structure SubD where
  road : RoadD
  state : Int
  spare : Bool
  mine : Int
  theirs : Int
  give : Int
  take : Int
  tries : Int
deriving DecidableEq, Inhabited
def SubD.cs (x : SubD) : List Sc := [.int .i64 x.road.own, .int .i64 x.road.far, .int .i64 x.road.port, .int .i64 x.state, .bo x.spare, .int .i64 x.mine, .int .i64 x.theirs, .int .i64 x.give, .int .i64 x.take, .int .i64 x.tries]
def SubD.wf (x : SubD) : Prop := I64 x.road.own ∧ I64 x.road.far ∧ I64 x.road.port ∧ I64 x.state ∧ I64 x.mine ∧ I64 x.theirs ∧ I64 x.give ∧ I64 x.take ∧ I64 x.tries
def SubD.ls : List L0 := [.int, .int, .int, .int, .bool, .int, .int, .int, .int, .int]
theorem SubD.flat : FlatEnc SubD.cs := fun _ => rfl
theorem SubD.conv {cs : List Value} (h : See0s SubD.ls cs) : ∃ x : SubD, L2 (ScR []) x.cs cs ∧ x.wf := by
  obtain ⟨_, _, e, ⟨v0, rfl, wv0⟩, h⟩ := h; subst e
  obtain ⟨_, _, e, ⟨v1, rfl, wv1⟩, h⟩ := h; subst e
  obtain ⟨_, _, e, ⟨v2, rfl, wv2⟩, h⟩ := h; subst e
  obtain ⟨_, _, e, ⟨v3, rfl, wv3⟩, h⟩ := h; subst e
  obtain ⟨_, _, e, ⟨v4, rfl⟩, h⟩ := h; subst e
  obtain ⟨_, _, e, ⟨v5, rfl, wv5⟩, h⟩ := h; subst e
  obtain ⟨_, _, e, ⟨v6, rfl, wv6⟩, h⟩ := h; subst e
  obtain ⟨_, _, e, ⟨v7, rfl, wv7⟩, h⟩ := h; subst e
  obtain ⟨_, _, e, ⟨v8, rfl, wv8⟩, h⟩ := h; subst e
  obtain ⟨_, _, e, ⟨v9, rfl, wv9⟩, h⟩ := h; subst e
  obtain rfl := h
  exact ⟨⟨⟨v0, v1, v2⟩, v3, v4, v5, v6, v7, v8, v9⟩, ⟨rfl, ⟨rfl, ⟨rfl, ⟨rfl, ⟨rfl, ⟨rfl, ⟨rfl, ⟨rfl, ⟨rfl, ⟨rfl, trivial⟩⟩⟩⟩⟩⟩⟩⟩⟩⟩, wv0, wv1, wv2, wv3, wv5, wv6, wv7, wv8, wv9⟩

structure PieceD where
  pos : Int
  text : List UInt8
deriving DecidableEq, Inhabited
def PieceD.cs (x : PieceD) : List Sc := [.int .i64 x.pos, .st x.text]
def PieceD.wf (x : PieceD) : Prop := I64 x.pos ∧ x.text.length ≤ maxLen
def PieceD.ls : List L0 := [.int, .str]
theorem PieceD.flat : FlatEnc PieceD.cs := fun _ => rfl
theorem PieceD.conv {cs : List Value} (h : See0s PieceD.ls cs) : ∃ x : PieceD, L2 (ScR []) x.cs cs ∧ x.wf := by
  obtain ⟨_, _, e, ⟨v0, rfl, wv0⟩, h⟩ := h; subst e
  obtain ⟨_, _, e, ⟨v1, rfl, wv1⟩, h⟩ := h; subst e
  obtain rfl := h
  exact ⟨⟨v0, v1.data.toList⟩, ⟨rfl, ⟨rfl, trivial⟩⟩, wv0, wv1⟩

structure OutD where
  text : List UInt8
  base : Int
  sent : Int
  room : Int
deriving DecidableEq, Inhabited
def OutD.cs (x : OutD) : List Sc := [.st x.text, .int .i64 x.base, .int .i64 x.sent, .int .i64 x.room]
def OutD.wf (x : OutD) : Prop := x.text.length ≤ maxLen ∧ I64 x.base ∧ I64 x.sent ∧ I64 x.room
def OutD.ls : List L0 := [.str, .int, .int, .int]
theorem OutD.flat : FlatEnc OutD.cs := fun _ => rfl
theorem OutD.conv {cs : List Value} (h : See0s OutD.ls cs) : ∃ x : OutD, L2 (ScR []) x.cs cs ∧ x.wf := by
  obtain ⟨_, _, e, ⟨v0, rfl, wv0⟩, h⟩ := h; subst e
  obtain ⟨_, _, e, ⟨v1, rfl, wv1⟩, h⟩ := h; subst e
  obtain ⟨_, _, e, ⟨v2, rfl, wv2⟩, h⟩ := h; subst e
  obtain ⟨_, _, e, ⟨v3, rfl, wv3⟩, h⟩ := h; subst e
  obtain rfl := h
  exact ⟨⟨v0.data.toList, v1, v2, v3⟩, ⟨rfl, ⟨rfl, ⟨rfl, ⟨rfl, trivial⟩⟩⟩⟩, wv0, wv1, wv2, wv3⟩

structure ActD where
  kind : Int
  side : Int
  pos : Int
  many : Int
  text : List UInt8
  addr : AddrD
  letter : LetterD
deriving DecidableEq, Inhabited
def ActD.cs (x : ActD) : List Sc := [.int .i64 x.kind, .int .i64 x.side, .int .i64 x.pos, .int .i64 x.many, .st x.text, .int .i64 x.addr.id, .int .i64 x.addr.addr, .bo x.addr.spare, .bo x.addr.told, .int .i64 x.letter.kind, .int .i64 x.letter.frm, .int .i64 x.letter.to, .int .i64 x.letter.port, .int .i64 x.letter.key, .int .i64 x.letter.token, .int .i64 x.letter.nonce, .int .i64 x.letter.give, .int .i64 x.letter.sgn, .int .i64 x.letter.tag.kind, .int .i64 x.letter.tag.one, .int .i64 x.letter.tag.two, .int .i64 x.letter.tag.a, .int .i64 x.letter.tag.b, .int .i64 x.letter.id, .int .i64 x.letter.addr, .bo x.letter.spare, .int .i64 x.letter.pos, .st x.letter.text]
def ActD.wf (x : ActD) : Prop := I64 x.kind ∧ I64 x.side ∧ I64 x.pos ∧ I64 x.many ∧ x.text.length ≤ maxLen ∧ I64 x.addr.id ∧ I64 x.addr.addr ∧ I64 x.letter.kind ∧ I64 x.letter.frm ∧ I64 x.letter.to ∧ I64 x.letter.port ∧ I64 x.letter.key ∧ I64 x.letter.token ∧ I64 x.letter.nonce ∧ I64 x.letter.give ∧ I64 x.letter.sgn ∧ I64 x.letter.tag.kind ∧ I64 x.letter.tag.one ∧ I64 x.letter.tag.two ∧ I64 x.letter.tag.a ∧ I64 x.letter.tag.b ∧ I64 x.letter.id ∧ I64 x.letter.addr ∧ I64 x.letter.pos ∧ x.letter.text.length ≤ maxLen
def ActD.ls : List L0 := [.int, .int, .int, .int, .str, .int, .int, .bool, .bool, .int, .int, .int, .int, .int, .int, .int, .int, .int, .int, .int, .int, .int, .int, .int, .int, .bool, .int, .str]
theorem ActD.flat : FlatEnc ActD.cs := fun _ => rfl
theorem ActD.conv {cs : List Value} (h : See0s ActD.ls cs) : ∃ x : ActD, L2 (ScR []) x.cs cs ∧ x.wf := by
  obtain ⟨_, _, e, ⟨v0, rfl, wv0⟩, h⟩ := h; subst e
  obtain ⟨_, _, e, ⟨v1, rfl, wv1⟩, h⟩ := h; subst e
  obtain ⟨_, _, e, ⟨v2, rfl, wv2⟩, h⟩ := h; subst e
  obtain ⟨_, _, e, ⟨v3, rfl, wv3⟩, h⟩ := h; subst e
  obtain ⟨_, _, e, ⟨v4, rfl, wv4⟩, h⟩ := h; subst e
  obtain ⟨_, _, e, ⟨v5, rfl, wv5⟩, h⟩ := h; subst e
  obtain ⟨_, _, e, ⟨v6, rfl, wv6⟩, h⟩ := h; subst e
  obtain ⟨_, _, e, ⟨v7, rfl⟩, h⟩ := h; subst e
  obtain ⟨_, _, e, ⟨v8, rfl⟩, h⟩ := h; subst e
  obtain ⟨_, _, e, ⟨v9, rfl, wv9⟩, h⟩ := h; subst e
  obtain ⟨_, _, e, ⟨v10, rfl, wv10⟩, h⟩ := h; subst e
  obtain ⟨_, _, e, ⟨v11, rfl, wv11⟩, h⟩ := h; subst e
  obtain ⟨_, _, e, ⟨v12, rfl, wv12⟩, h⟩ := h; subst e
  obtain ⟨_, _, e, ⟨v13, rfl, wv13⟩, h⟩ := h; subst e
  obtain ⟨_, _, e, ⟨v14, rfl, wv14⟩, h⟩ := h; subst e
  obtain ⟨_, _, e, ⟨v15, rfl, wv15⟩, h⟩ := h; subst e
  obtain ⟨_, _, e, ⟨v16, rfl, wv16⟩, h⟩ := h; subst e
  obtain ⟨_, _, e, ⟨v17, rfl, wv17⟩, h⟩ := h; subst e
  obtain ⟨_, _, e, ⟨v18, rfl, wv18⟩, h⟩ := h; subst e
  obtain ⟨_, _, e, ⟨v19, rfl, wv19⟩, h⟩ := h; subst e
  obtain ⟨_, _, e, ⟨v20, rfl, wv20⟩, h⟩ := h; subst e
  obtain ⟨_, _, e, ⟨v21, rfl, wv21⟩, h⟩ := h; subst e
  obtain ⟨_, _, e, ⟨v22, rfl, wv22⟩, h⟩ := h; subst e
  obtain ⟨_, _, e, ⟨v23, rfl, wv23⟩, h⟩ := h; subst e
  obtain ⟨_, _, e, ⟨v24, rfl, wv24⟩, h⟩ := h; subst e
  obtain ⟨_, _, e, ⟨v25, rfl⟩, h⟩ := h; subst e
  obtain ⟨_, _, e, ⟨v26, rfl, wv26⟩, h⟩ := h; subst e
  obtain ⟨_, _, e, ⟨v27, rfl, wv27⟩, h⟩ := h; subst e
  obtain rfl := h
  exact ⟨⟨v0, v1, v2, v3, v4.data.toList, ⟨v5, v6, v7, v8⟩, ⟨v9, v10, v11, v12, v13, v14, v15, v16, v17, ⟨v18, v19, v20, v21, v22⟩, v23, v24, v25, v26, v27.data.toList⟩⟩, ⟨rfl, ⟨rfl, ⟨rfl, ⟨rfl, ⟨rfl, ⟨rfl, ⟨rfl, ⟨rfl, ⟨rfl, ⟨rfl, ⟨rfl, ⟨rfl, ⟨rfl, ⟨rfl, ⟨rfl, ⟨rfl, ⟨rfl, ⟨rfl, ⟨rfl, ⟨rfl, ⟨rfl, ⟨rfl, ⟨rfl, ⟨rfl, ⟨rfl, ⟨rfl, ⟨rfl, ⟨rfl, trivial⟩⟩⟩⟩⟩⟩⟩⟩⟩⟩⟩⟩⟩⟩⟩⟩⟩⟩⟩⟩⟩⟩⟩⟩⟩⟩⟩⟩, wv0, wv1, wv2, wv3, wv4, wv5, wv6, wv9, wv10, wv11, wv12, wv13, wv14, wv15, wv16, wv17, wv18, wv19, wv20, wv21, wv22, wv23, wv24, wv26, wv27⟩

attribute [go_sem] intC RoadD.cs AddrD.cs PolicyD.cs BucketD.cs HalfD.cs TagD.cs LetterD.cs SubD.cs PieceD.cs OutD.cs ActD.cs
end Go.Proofs.YtoghbjbfldlfpaaGreat
