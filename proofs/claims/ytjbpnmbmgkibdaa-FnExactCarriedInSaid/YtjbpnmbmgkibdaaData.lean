/-
  The data of the program as Lean structures, and how a value that comes in is read as one. Written by gen.py.
-/
import Derived.Test.YtjbpnmbmgkibdaaSee
import Derived.Attr
namespace Go.Proofs.Ytjbpnmbmgkibdaa
open Go.ChangeShapes Go.WideShapes Go.ChangeAt Go.RowKit
set_option linter.unusedVariables false

structure RoadD where
  own : Int
  far : Int
  port : Int
deriving DecidableEq, Inhabited
def RoadD.cells (x : RoadD) : List Value := [.int .i64 x.own, .int .i64 x.far, .int .i64 x.port]
def RoadD.val (x : RoadD) : Value := .agg #[.int .i64 x.own, .int .i64 x.far, .int .i64 x.port]
def RoadD.wf (x : RoadD) : Prop := I64 x.own ∧ I64 x.far ∧ I64 x.port
def RoadD.ls : List L0 := [.int, .int, .int]
theorem RoadD.conv {cs : List Value} (h : See0s RoadD.ls cs) : ∃ x : RoadD, cs = x.cells ∧ x.wf := by
  obtain ⟨_, _, e, ⟨v0, rfl, wv0⟩, h⟩ := h; subst e
  obtain ⟨_, _, e, ⟨v1, rfl, wv1⟩, h⟩ := h; subst e
  obtain ⟨_, _, e, ⟨v2, rfl, wv2⟩, h⟩ := h; subst e
  obtain rfl := h
  exact ⟨⟨v0, v1, v2⟩, rfl, wv0, wv1, wv2⟩

structure AddrD where
  id : Int
  addr : Int
  spare : Bool
  told : Bool
deriving DecidableEq, Inhabited
def AddrD.cells (x : AddrD) : List Value := [.int .i64 x.id, .int .i64 x.addr, .bool x.spare, .bool x.told]
def AddrD.val (x : AddrD) : Value := .agg #[.int .i64 x.id, .int .i64 x.addr, .bool x.spare, .bool x.told]
def AddrD.wf (x : AddrD) : Prop := I64 x.id ∧ I64 x.addr
def AddrD.ls : List L0 := [.int, .int, .bool, .bool]
theorem AddrD.conv {cs : List Value} (h : See0s AddrD.ls cs) : ∃ x : AddrD, cs = x.cells ∧ x.wf := by
  obtain ⟨_, _, e, ⟨v0, rfl, wv0⟩, h⟩ := h; subst e
  obtain ⟨_, _, e, ⟨v1, rfl, wv1⟩, h⟩ := h; subst e
  obtain ⟨_, _, e, ⟨v2, rfl⟩, h⟩ := h; subst e
  obtain ⟨_, _, e, ⟨v3, rfl⟩, h⟩ := h; subst e
  obtain rfl := h
  exact ⟨⟨v0, v1, v2, v3⟩, rfl, wv0, wv1⟩

structure PolicyD where
  kind : Int
  many : Int
deriving DecidableEq, Inhabited
def PolicyD.cells (x : PolicyD) : List Value := [.int .i64 x.kind, .int .i64 x.many]
def PolicyD.val (x : PolicyD) : Value := .agg #[.int .i64 x.kind, .int .i64 x.many]
def PolicyD.wf (x : PolicyD) : Prop := I64 x.kind ∧ I64 x.many
def PolicyD.ls : List L0 := [.int, .int]
theorem PolicyD.conv {cs : List Value} (h : See0s PolicyD.ls cs) : ∃ x : PolicyD, cs = x.cells ∧ x.wf := by
  obtain ⟨_, _, e, ⟨v0, rfl, wv0⟩, h⟩ := h; subst e
  obtain ⟨_, _, e, ⟨v1, rfl, wv1⟩, h⟩ := h; subst e
  obtain rfl := h
  exact ⟨⟨v0, v1⟩, rfl, wv0, wv1⟩

structure BucketD where
  rate : Int
  burst : Int
  cur : Int
deriving DecidableEq, Inhabited
def BucketD.cells (x : BucketD) : List Value := [.int .i64 x.rate, .int .i64 x.burst, .int .i64 x.cur]
def BucketD.val (x : BucketD) : Value := .agg #[.int .i64 x.rate, .int .i64 x.burst, .int .i64 x.cur]
def BucketD.wf (x : BucketD) : Prop := I64 x.rate ∧ I64 x.burst ∧ I64 x.cur
def BucketD.ls : List L0 := [.int, .int, .int]
theorem BucketD.conv {cs : List Value} (h : See0s BucketD.ls cs) : ∃ x : BucketD, cs = x.cells ∧ x.wf := by
  obtain ⟨_, _, e, ⟨v0, rfl, wv0⟩, h⟩ := h; subst e
  obtain ⟨_, _, e, ⟨v1, rfl, wv1⟩, h⟩ := h; subst e
  obtain ⟨_, _, e, ⟨v2, rfl, wv2⟩, h⟩ := h; subst e
  obtain rfl := h
  exact ⟨⟨v0, v1, v2⟩, rfl, wv0, wv1, wv2⟩

structure HalfD where
  road : RoadD
  theirs : Int
  mine : Int
  give : Int
  take : Int
  till : Int
deriving Inhabited
noncomputable instance : DecidableEq HalfD := fun _ _ => Classical.propDecidable _
def HalfD.cells (x : HalfD) : List Value := [.int .i64 x.road.own, .int .i64 x.road.far, .int .i64 x.road.port, .int .i64 x.theirs, .int .i64 x.mine, .int .i64 x.give, .int .i64 x.take, .int .i64 x.till]
def HalfD.val (x : HalfD) : Value := .agg #[.int .i64 x.road.own, .int .i64 x.road.far, .int .i64 x.road.port, .int .i64 x.theirs, .int .i64 x.mine, .int .i64 x.give, .int .i64 x.take, .int .i64 x.till]
def HalfD.wf (x : HalfD) : Prop := I64 x.road.own ∧ I64 x.road.far ∧ I64 x.road.port ∧ I64 x.theirs ∧ I64 x.mine ∧ I64 x.give ∧ I64 x.take ∧ I64 x.till
def HalfD.ls : List L0 := [.int, .int, .int, .int, .int, .int, .int, .int]
theorem HalfD.conv {cs : List Value} (h : See0s HalfD.ls cs) : ∃ x : HalfD, cs = x.cells ∧ x.wf := by
  obtain ⟨_, _, e, ⟨v0, rfl, wv0⟩, h⟩ := h; subst e
  obtain ⟨_, _, e, ⟨v1, rfl, wv1⟩, h⟩ := h; subst e
  obtain ⟨_, _, e, ⟨v2, rfl, wv2⟩, h⟩ := h; subst e
  obtain ⟨_, _, e, ⟨v3, rfl, wv3⟩, h⟩ := h; subst e
  obtain ⟨_, _, e, ⟨v4, rfl, wv4⟩, h⟩ := h; subst e
  obtain ⟨_, _, e, ⟨v5, rfl, wv5⟩, h⟩ := h; subst e
  obtain ⟨_, _, e, ⟨v6, rfl, wv6⟩, h⟩ := h; subst e
  obtain ⟨_, _, e, ⟨v7, rfl, wv7⟩, h⟩ := h; subst e
  obtain rfl := h
  exact ⟨⟨⟨v0, v1, v2⟩, v3, v4, v5, v6, v7⟩, rfl, wv0, wv1, wv2, wv3, wv4, wv5, wv6, wv7⟩

structure TagD where
  kind : Int
  one : Int
  two : Int
  a : Int
  b : Int
deriving DecidableEq, Inhabited
def TagD.cells (x : TagD) : List Value := [.int .i64 x.kind, .int .i64 x.one, .int .i64 x.two, .int .i64 x.a, .int .i64 x.b]
def TagD.val (x : TagD) : Value := .agg #[.int .i64 x.kind, .int .i64 x.one, .int .i64 x.two, .int .i64 x.a, .int .i64 x.b]
def TagD.wf (x : TagD) : Prop := I64 x.kind ∧ I64 x.one ∧ I64 x.two ∧ I64 x.a ∧ I64 x.b
def TagD.ls : List L0 := [.int, .int, .int, .int, .int]
theorem TagD.conv {cs : List Value} (h : See0s TagD.ls cs) : ∃ x : TagD, cs = x.cells ∧ x.wf := by
  obtain ⟨_, _, e, ⟨v0, rfl, wv0⟩, h⟩ := h; subst e
  obtain ⟨_, _, e, ⟨v1, rfl, wv1⟩, h⟩ := h; subst e
  obtain ⟨_, _, e, ⟨v2, rfl, wv2⟩, h⟩ := h; subst e
  obtain ⟨_, _, e, ⟨v3, rfl, wv3⟩, h⟩ := h; subst e
  obtain ⟨_, _, e, ⟨v4, rfl, wv4⟩, h⟩ := h; subst e
  obtain rfl := h
  exact ⟨⟨v0, v1, v2, v3, v4⟩, rfl, wv0, wv1, wv2, wv3, wv4⟩

structure LetterD where
  kind : Int
  frm : Int
  to : Int
  port : Int
  key : Int
  token : Int
  nonce : Int
  give : Int
  sgn : Int
  tag : TagD
  id : Int
  addr : Int
  spare : Bool
  pos : Int
  text : ByteArray
deriving Inhabited
noncomputable instance : DecidableEq LetterD := fun _ _ => Classical.propDecidable _
def LetterD.cells (x : LetterD) : List Value := [.int .i64 x.kind, .int .i64 x.frm, .int .i64 x.to, .int .i64 x.port, .int .i64 x.key, .int .i64 x.token, .int .i64 x.nonce, .int .i64 x.give, .int .i64 x.sgn, .int .i64 x.tag.kind, .int .i64 x.tag.one, .int .i64 x.tag.two, .int .i64 x.tag.a, .int .i64 x.tag.b, .int .i64 x.id, .int .i64 x.addr, .bool x.spare, .int .i64 x.pos, .string x.text]
def LetterD.val (x : LetterD) : Value := .agg #[.int .i64 x.kind, .int .i64 x.frm, .int .i64 x.to, .int .i64 x.port, .int .i64 x.key, .int .i64 x.token, .int .i64 x.nonce, .int .i64 x.give, .int .i64 x.sgn, .int .i64 x.tag.kind, .int .i64 x.tag.one, .int .i64 x.tag.two, .int .i64 x.tag.a, .int .i64 x.tag.b, .int .i64 x.id, .int .i64 x.addr, .bool x.spare, .int .i64 x.pos, .string x.text]
def LetterD.wf (x : LetterD) : Prop := I64 x.kind ∧ I64 x.frm ∧ I64 x.to ∧ I64 x.port ∧ I64 x.key ∧ I64 x.token ∧ I64 x.nonce ∧ I64 x.give ∧ I64 x.sgn ∧ I64 x.tag.kind ∧ I64 x.tag.one ∧ I64 x.tag.two ∧ I64 x.tag.a ∧ I64 x.tag.b ∧ I64 x.id ∧ I64 x.addr ∧ I64 x.pos ∧ x.text.size ≤ maxLen
def LetterD.ls : List L0 := [.int, .int, .int, .int, .int, .int, .int, .int, .int, .int, .int, .int, .int, .int, .int, .int, .bool, .int, .str]
theorem LetterD.conv {cs : List Value} (h : See0s LetterD.ls cs) : ∃ x : LetterD, cs = x.cells ∧ x.wf := by
  obtain ⟨_, _, e, ⟨v0, rfl, wv0⟩, h⟩ := h; subst e
  obtain ⟨_, _, e, ⟨v1, rfl, wv1⟩, h⟩ := h; subst e
  obtain ⟨_, _, e, ⟨v2, rfl, wv2⟩, h⟩ := h; subst e
  obtain ⟨_, _, e, ⟨v3, rfl, wv3⟩, h⟩ := h; subst e
  obtain ⟨_, _, e, ⟨v4, rfl, wv4⟩, h⟩ := h; subst e
  obtain ⟨_, _, e, ⟨v5, rfl, wv5⟩, h⟩ := h; subst e
  obtain ⟨_, _, e, ⟨v6, rfl, wv6⟩, h⟩ := h; subst e
  obtain ⟨_, _, e, ⟨v7, rfl, wv7⟩, h⟩ := h; subst e
  obtain ⟨_, _, e, ⟨v8, rfl, wv8⟩, h⟩ := h; subst e
  obtain ⟨_, _, e, ⟨v9, rfl, wv9⟩, h⟩ := h; subst e
  obtain ⟨_, _, e, ⟨v10, rfl, wv10⟩, h⟩ := h; subst e
  obtain ⟨_, _, e, ⟨v11, rfl, wv11⟩, h⟩ := h; subst e
  obtain ⟨_, _, e, ⟨v12, rfl, wv12⟩, h⟩ := h; subst e
  obtain ⟨_, _, e, ⟨v13, rfl, wv13⟩, h⟩ := h; subst e
  obtain ⟨_, _, e, ⟨v14, rfl, wv14⟩, h⟩ := h; subst e
  obtain ⟨_, _, e, ⟨v15, rfl, wv15⟩, h⟩ := h; subst e
  obtain ⟨_, _, e, ⟨v16, rfl⟩, h⟩ := h; subst e
  obtain ⟨_, _, e, ⟨v17, rfl, wv17⟩, h⟩ := h; subst e
  obtain ⟨_, _, e, ⟨v18, rfl, wv18⟩, h⟩ := h; subst e
  obtain rfl := h
  exact ⟨⟨v0, v1, v2, v3, v4, v5, v6, v7, v8, ⟨v9, v10, v11, v12, v13⟩, v14, v15, v16, v17, v18⟩, rfl, wv0, wv1, wv2, wv3, wv4, wv5, wv6, wv7, wv8, wv9, wv10, wv11, wv12, wv13, wv14, wv15, wv17, wv18⟩

structure SubD where
  road : RoadD
  state : Int
  spare : Bool
  mine : Int
  theirs : Int
  give : Int
  take : Int
  tries : Int
deriving Inhabited
noncomputable instance : DecidableEq SubD := fun _ _ => Classical.propDecidable _
def SubD.cells (x : SubD) : List Value := [.int .i64 x.road.own, .int .i64 x.road.far, .int .i64 x.road.port, .int .i64 x.state, .bool x.spare, .int .i64 x.mine, .int .i64 x.theirs, .int .i64 x.give, .int .i64 x.take, .int .i64 x.tries]
def SubD.val (x : SubD) : Value := .agg #[.int .i64 x.road.own, .int .i64 x.road.far, .int .i64 x.road.port, .int .i64 x.state, .bool x.spare, .int .i64 x.mine, .int .i64 x.theirs, .int .i64 x.give, .int .i64 x.take, .int .i64 x.tries]
def SubD.wf (x : SubD) : Prop := I64 x.road.own ∧ I64 x.road.far ∧ I64 x.road.port ∧ I64 x.state ∧ I64 x.mine ∧ I64 x.theirs ∧ I64 x.give ∧ I64 x.take ∧ I64 x.tries
def SubD.ls : List L0 := [.int, .int, .int, .int, .bool, .int, .int, .int, .int, .int]
theorem SubD.conv {cs : List Value} (h : See0s SubD.ls cs) : ∃ x : SubD, cs = x.cells ∧ x.wf := by
  obtain ⟨_, _, e, ⟨v0, rfl, wv0⟩, h⟩ := h; subst e
  obtain ⟨_, _, e, ⟨v1, rfl, wv1⟩, h⟩ := h; subst e
  obtain ⟨_, _, e, ⟨v2, rfl, wv2⟩, h⟩ := h; subst e
  obtain ⟨_, _, e, ⟨v3, rfl, wv3⟩, h⟩ := h; subst e
  obtain ⟨_, _, e, ⟨v4, rfl⟩, h⟩ := h; subst e
  obtain ⟨_, _, e, ⟨v5, rfl, wv5⟩, h⟩ := h; subst e
  obtain ⟨_, _, e, ⟨v6, rfl, wv6⟩, h⟩ := h; subst e
  obtain ⟨_, _, e, ⟨v7, rfl, wv7⟩, h⟩ := h; subst e
  obtain ⟨_, _, e, ⟨v8, rfl, wv8⟩, h⟩ := h; subst e
  obtain ⟨_, _, e, ⟨v9, rfl, wv9⟩, h⟩ := h; subst e
  obtain rfl := h
  exact ⟨⟨⟨v0, v1, v2⟩, v3, v4, v5, v6, v7, v8, v9⟩, rfl, wv0, wv1, wv2, wv3, wv5, wv6, wv7, wv8, wv9⟩

structure PieceD where
  pos : Int
  text : ByteArray
deriving DecidableEq, Inhabited
def PieceD.cells (x : PieceD) : List Value := [.int .i64 x.pos, .string x.text]
def PieceD.val (x : PieceD) : Value := .agg #[.int .i64 x.pos, .string x.text]
def PieceD.wf (x : PieceD) : Prop := I64 x.pos ∧ x.text.size ≤ maxLen
def PieceD.ls : List L0 := [.int, .str]
theorem PieceD.conv {cs : List Value} (h : See0s PieceD.ls cs) : ∃ x : PieceD, cs = x.cells ∧ x.wf := by
  obtain ⟨_, _, e, ⟨v0, rfl, wv0⟩, h⟩ := h; subst e
  obtain ⟨_, _, e, ⟨v1, rfl, wv1⟩, h⟩ := h; subst e
  obtain rfl := h
  exact ⟨⟨v0, v1⟩, rfl, wv0, wv1⟩

structure OutD where
  text : ByteArray
  base : Int
  sent : Int
  room : Int
deriving DecidableEq, Inhabited
def OutD.cells (x : OutD) : List Value := [.string x.text, .int .i64 x.base, .int .i64 x.sent, .int .i64 x.room]
def OutD.val (x : OutD) : Value := .agg #[.string x.text, .int .i64 x.base, .int .i64 x.sent, .int .i64 x.room]
def OutD.wf (x : OutD) : Prop := x.text.size ≤ maxLen ∧ I64 x.base ∧ I64 x.sent ∧ I64 x.room
def OutD.ls : List L0 := [.str, .int, .int, .int]
theorem OutD.conv {cs : List Value} (h : See0s OutD.ls cs) : ∃ x : OutD, cs = x.cells ∧ x.wf := by
  obtain ⟨_, _, e, ⟨v0, rfl, wv0⟩, h⟩ := h; subst e
  obtain ⟨_, _, e, ⟨v1, rfl, wv1⟩, h⟩ := h; subst e
  obtain ⟨_, _, e, ⟨v2, rfl, wv2⟩, h⟩ := h; subst e
  obtain ⟨_, _, e, ⟨v3, rfl, wv3⟩, h⟩ := h; subst e
  obtain rfl := h
  exact ⟨⟨v0, v1, v2, v3⟩, rfl, wv0, wv1, wv2, wv3⟩

structure ActD where
  kind : Int
  side : Int
  pos : Int
  many : Int
  text : ByteArray
  addr : AddrD
  letter : LetterD
deriving Inhabited
noncomputable instance : DecidableEq ActD := fun _ _ => Classical.propDecidable _
def ActD.cells (x : ActD) : List Value := [.int .i64 x.kind, .int .i64 x.side, .int .i64 x.pos, .int .i64 x.many, .string x.text, .int .i64 x.addr.id, .int .i64 x.addr.addr, .bool x.addr.spare, .bool x.addr.told, .int .i64 x.letter.kind, .int .i64 x.letter.frm, .int .i64 x.letter.to, .int .i64 x.letter.port, .int .i64 x.letter.key, .int .i64 x.letter.token, .int .i64 x.letter.nonce, .int .i64 x.letter.give, .int .i64 x.letter.sgn, .int .i64 x.letter.tag.kind, .int .i64 x.letter.tag.one, .int .i64 x.letter.tag.two, .int .i64 x.letter.tag.a, .int .i64 x.letter.tag.b, .int .i64 x.letter.id, .int .i64 x.letter.addr, .bool x.letter.spare, .int .i64 x.letter.pos, .string x.letter.text]
def ActD.val (x : ActD) : Value := .agg #[.int .i64 x.kind, .int .i64 x.side, .int .i64 x.pos, .int .i64 x.many, .string x.text, .int .i64 x.addr.id, .int .i64 x.addr.addr, .bool x.addr.spare, .bool x.addr.told, .int .i64 x.letter.kind, .int .i64 x.letter.frm, .int .i64 x.letter.to, .int .i64 x.letter.port, .int .i64 x.letter.key, .int .i64 x.letter.token, .int .i64 x.letter.nonce, .int .i64 x.letter.give, .int .i64 x.letter.sgn, .int .i64 x.letter.tag.kind, .int .i64 x.letter.tag.one, .int .i64 x.letter.tag.two, .int .i64 x.letter.tag.a, .int .i64 x.letter.tag.b, .int .i64 x.letter.id, .int .i64 x.letter.addr, .bool x.letter.spare, .int .i64 x.letter.pos, .string x.letter.text]
def ActD.wf (x : ActD) : Prop := I64 x.kind ∧ I64 x.side ∧ I64 x.pos ∧ I64 x.many ∧ x.text.size ≤ maxLen ∧ I64 x.addr.id ∧ I64 x.addr.addr ∧ I64 x.letter.kind ∧ I64 x.letter.frm ∧ I64 x.letter.to ∧ I64 x.letter.port ∧ I64 x.letter.key ∧ I64 x.letter.token ∧ I64 x.letter.nonce ∧ I64 x.letter.give ∧ I64 x.letter.sgn ∧ I64 x.letter.tag.kind ∧ I64 x.letter.tag.one ∧ I64 x.letter.tag.two ∧ I64 x.letter.tag.a ∧ I64 x.letter.tag.b ∧ I64 x.letter.id ∧ I64 x.letter.addr ∧ I64 x.letter.pos ∧ x.letter.text.size ≤ maxLen
def ActD.ls : List L0 := [.int, .int, .int, .int, .str, .int, .int, .bool, .bool, .int, .int, .int, .int, .int, .int, .int, .int, .int, .int, .int, .int, .int, .int, .int, .int, .bool, .int, .str]
theorem ActD.conv {cs : List Value} (h : See0s ActD.ls cs) : ∃ x : ActD, cs = x.cells ∧ x.wf := by
  obtain ⟨_, _, e, ⟨v0, rfl, wv0⟩, h⟩ := h; subst e
  obtain ⟨_, _, e, ⟨v1, rfl, wv1⟩, h⟩ := h; subst e
  obtain ⟨_, _, e, ⟨v2, rfl, wv2⟩, h⟩ := h; subst e
  obtain ⟨_, _, e, ⟨v3, rfl, wv3⟩, h⟩ := h; subst e
  obtain ⟨_, _, e, ⟨v4, rfl, wv4⟩, h⟩ := h; subst e
  obtain ⟨_, _, e, ⟨v5, rfl, wv5⟩, h⟩ := h; subst e
  obtain ⟨_, _, e, ⟨v6, rfl, wv6⟩, h⟩ := h; subst e
  obtain ⟨_, _, e, ⟨v7, rfl⟩, h⟩ := h; subst e
  obtain ⟨_, _, e, ⟨v8, rfl⟩, h⟩ := h; subst e
  obtain ⟨_, _, e, ⟨v9, rfl, wv9⟩, h⟩ := h; subst e
  obtain ⟨_, _, e, ⟨v10, rfl, wv10⟩, h⟩ := h; subst e
  obtain ⟨_, _, e, ⟨v11, rfl, wv11⟩, h⟩ := h; subst e
  obtain ⟨_, _, e, ⟨v12, rfl, wv12⟩, h⟩ := h; subst e
  obtain ⟨_, _, e, ⟨v13, rfl, wv13⟩, h⟩ := h; subst e
  obtain ⟨_, _, e, ⟨v14, rfl, wv14⟩, h⟩ := h; subst e
  obtain ⟨_, _, e, ⟨v15, rfl, wv15⟩, h⟩ := h; subst e
  obtain ⟨_, _, e, ⟨v16, rfl, wv16⟩, h⟩ := h; subst e
  obtain ⟨_, _, e, ⟨v17, rfl, wv17⟩, h⟩ := h; subst e
  obtain ⟨_, _, e, ⟨v18, rfl, wv18⟩, h⟩ := h; subst e
  obtain ⟨_, _, e, ⟨v19, rfl, wv19⟩, h⟩ := h; subst e
  obtain ⟨_, _, e, ⟨v20, rfl, wv20⟩, h⟩ := h; subst e
  obtain ⟨_, _, e, ⟨v21, rfl, wv21⟩, h⟩ := h; subst e
  obtain ⟨_, _, e, ⟨v22, rfl, wv22⟩, h⟩ := h; subst e
  obtain ⟨_, _, e, ⟨v23, rfl, wv23⟩, h⟩ := h; subst e
  obtain ⟨_, _, e, ⟨v24, rfl, wv24⟩, h⟩ := h; subst e
  obtain ⟨_, _, e, ⟨v25, rfl⟩, h⟩ := h; subst e
  obtain ⟨_, _, e, ⟨v26, rfl, wv26⟩, h⟩ := h; subst e
  obtain ⟨_, _, e, ⟨v27, rfl, wv27⟩, h⟩ := h; subst e
  obtain rfl := h
  exact ⟨⟨v0, v1, v2, v3, v4, ⟨v5, v6, v7, v8⟩, ⟨v9, v10, v11, v12, v13, v14, v15, v16, v17, ⟨v18, v19, v20, v21, v22⟩, v23, v24, v25, v26, v27⟩⟩, rfl, wv0, wv1, wv2, wv3, wv4, wv5, wv6, wv9, wv10, wv11, wv12, wv13, wv14, wv15, wv16, wv17, wv18, wv19, wv20, wv21, wv22, wv23, wv24, wv26, wv27⟩

/-- A slice: where it lies, its capacity, and what it reads as. -/
structure Sl (α : Type) where
  a : Option Addr
  c : Nat
  l : List α
def intCells (n : Int) : List Value := [.int .i64 n]
theorem intConv (cs : List Value) (h : See0s [.int] cs) : ∃ n : Int, cs = intCells n ∧ I64 n := by
  obtain ⟨_, _, rfl, ⟨n, rfl, hn⟩, rfl⟩ := h
  exact ⟨n, rfl, hn⟩
/-- Rows of cells lie at an address, below block B. -/
def Arr {α : Type} (w : World) (B : Nat) (f : α → List Value) (sz : Nat) (A : Option Addr) (xs : List α) : Prop :=
  xs = [] ∨ ∃ b off, A = some ⟨b, off, none⟩ ∧ b < B ∧ ∀ i x, xs[i]? = some x → ∀ j v, (f x)[j]? = some v → w.cell? ⟨b, off + i * sz + j, none⟩ = some v
def SlAt {α : Type} (w : World) (B : Nat) (f : α → List Value) (sz : Nat) (s : Sl α) : Prop :=
  s.l.length ≤ s.c ∧ s.c ≤ maxLen ∧ Arr w B f sz s.a s.l

theorem exists_list {α : Type} (n : Nat) (R : Nat → α → Prop) (h : ∀ i, i < n → ∃ x, R i x) : ∃ xs : List α, xs.length = n ∧ ∀ i x, xs[i]? = some x → R i x := by
  induction n with
  | zero => exact ⟨[], rfl, fun i x h => by simp at h⟩
  | succ n ih =>
    obtain ⟨xs, hl, hx⟩ := ih (fun i hi => h i (by omega))
    obtain ⟨x, hn⟩ := h n (by omega)
    refine ⟨xs ++ [x], by simp [hl], fun i y hy => ?_⟩
    by_cases hi : i < n
    · rw [List.getElem?_append_left (by omega)] at hy
      exact hx i y hy
    · rw [List.getElem?_append_right (by omega)] at hy
      have : i - xs.length = 0 := by
        have h1 := (List.getElem?_eq_some_iff.1 hy).1
        simp at h1; omega
      rw [this] at hy
      simp at hy
      have e : i = n := by omega
      subst e; subst hy
      exact hn

theorem see_sl {α : Type} {w : World} (f : α → List Value) (ls : List L0) (W : α → Prop) (conv : ∀ cs, See0s ls cs → ∃ x, cs = f x ∧ W x) {v : Value} (h : SeeSl w ls v) :
    ∃ s : Sl α, v = .slice s.a s.l.length s.c ∧ SlAt w w.heap.size f ls.length s ∧ ∀ x ∈ s.l, W x := by
  obtain ⟨A, n, c, rfl, hl, hm, hz⟩ := h
  rcases hz with rfl | ⟨b, off, rfl, hb, hi⟩
  · exact ⟨⟨A, c, []⟩, rfl, ⟨hl, hm, .inl rfl⟩, by simp⟩
  · obtain ⟨xs, rfl, hx⟩ := exists_list n (fun i x => W x ∧ ∀ j v, (f x)[j]? = some v → w.cell? ⟨b, off + i * ls.length + j, none⟩ = some v) (fun i h => by
      obtain ⟨cs, hs, hc⟩ := hi i h
      obtain ⟨x, rfl, hw⟩ := conv cs hs
      exact ⟨x, hw, hc⟩)
    refine ⟨⟨some ⟨b, off, none⟩, c, xs⟩, rfl, ⟨hl, hm, .inr ⟨b, off, rfl, hb, fun i x h => (hx i x h).2⟩⟩, fun x h => ?_⟩
    obtain ⟨i, hi, rfl⟩ := List.getElem_of_mem h
    exact (hx i _ (List.getElem?_eq_getElem hi)).1

theorem Arr.keep {α : Type} {w w' : World} {B : Nat} {f : α → List Value} {sz : Nat} {A : Option Addr} {xs : List α} (h : Arr w B f sz A xs) (hb : Below B w w') : Arr w' B f sz A xs := by
  rcases h with h | ⟨b, off, e, hlt, hc⟩
  · exact .inl h
  · exact .inr ⟨b, off, e, hlt, fun i x hx j v hv => by rw [hb.cell (by exact hlt)]; exact hc i x hx j v hv⟩
theorem Arr.more {α : Type} {w : World} {B B' : Nat} {f : α → List Value} {sz : Nat} {A : Option Addr} {xs : List α} (h : Arr w B f sz A xs) (hb : B ≤ B') : Arr w B' f sz A xs := by
  rcases h with h | ⟨b, off, e, hlt, hc⟩
  · exact .inl h
  · exact .inr ⟨b, off, e, by omega, hc⟩
theorem SlAt.keep {α : Type} {w w' : World} {B : Nat} {f : α → List Value} {sz : Nat} {s : Sl α} (h : SlAt w B f sz s) (hb : Below B w w') : SlAt w' B f sz s := ⟨h.1, h.2.1, h.2.2.keep hb⟩
theorem SlAt.more {α : Type} {w : World} {B B' : Nat} {f : α → List Value} {sz : Nat} {s : Sl α} (h : SlAt w B f sz s) (hb : B ≤ B') : SlAt w B' f sz s := ⟨h.1, h.2.1, h.2.2.more hb⟩
theorem See1s.unappend {w : World} : ∀ {l k : List L1} {cs : List Value}, See1s w (l ++ k) cs → ∃ c1 c2, cs = c1 ++ c2 ∧ See1s w l c1 ∧ See1s w k c2
  | [], _, cs, h => ⟨[], cs, rfl, rfl, h⟩
  | _ :: r, _, _, h => by
    obtain ⟨v, cs', rfl, hv, h'⟩ := h
    obtain ⟨c1, c2, rfl, h1, h2⟩ := See1s.unappend (l := r) h'
    exact ⟨v :: c1, c2, rfl, ⟨v, c1, rfl, hv, h1⟩, h2⟩
/-- A round: element k of a slice. -/
theorem Arr.round {α : Type} {w : World} {B : Nat} {f : α → List Value} {sz : Nat} {A : Option Addr} {xs : List α} (h : Arr w B f sz A xs) {k : Nat} (hk : k < xs.length) :
    ∃ b off, A = some ⟨b, off, none⟩ ∧ b < B ∧ ∀ j v, (f xs[k])[j]? = some v → w.cell? ⟨b, off + k * sz + j, none⟩ = some v := by
  rcases h with rfl | ⟨b, off, e, hlt, hc⟩
  · simp at hk
  · exact ⟨b, off, e, hlt, hc k _ (List.getElem?_eq_getElem hk)⟩


attribute [go_sem] RoadD.val AddrD.val PolicyD.val BucketD.val HalfD.val TagD.val LetterD.val SubD.val PieceD.val OutD.val ActD.val
end Go.Proofs.Ytjbpnmbmgkibdaa
