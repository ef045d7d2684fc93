/-
  The data of the program as Lean structures, as abstract cells, and how a value that comes in is read as one. Written by vgen.py.
-/
import Derived.Test.YtoghbjbfldlfpaaGreatVData
namespace Go.Proofs.YtoghbjbfldlfpaaGreat
open Go.ChangeShapes Go.WideShapes Go.ChangeAt Go.RowKit
set_option linter.unusedVariables false

structure PiecesD where
  read : Int
  ready : List UInt8
  list : List PieceD
deriving DecidableEq, Inhabited
/-- The cells, the slices being objects o, o+1 and so on. -/
def PiecesD.cs (x : PiecesD) (o : Nat) : List Sc := [.int .i64 x.read, .st x.ready, .sl (o + 0) 0 x.list.length]
def PiecesD.hp (x : PiecesD) (own : Bool) : Hp := [some ⟨x.list.map PieceD.cs, 2, 139, own, true⟩]
/-- As they come in. -/
def PiecesD.hpL (x : PiecesD) : Hp := [some ⟨x.list.map PieceD.cs, 2, 161, false, true⟩]
def PiecesD.wf (x : PiecesD) : Prop := I64 x.read ∧ x.ready.length ≤ maxLen ∧ (∀ y ∈ x.list, PieceD.wf y) ∧ x.list.length ≤ maxLen
def PiecesD.ls : List L1 := [.one .int, .one .str, .sl [.int, .str]]
theorem PiecesD.conv {w : World} {cs : List Value} (h : See1s w PiecesD.ls cs) : ∃ (x : PiecesD) (β : Be), β.length = 1 ∧ x.wf ∧ (∀ β1 β2 : Be, L2 (ScR (β1 ++ (β ++ β2))) (x.cs β1.length) cs) ∧ (∀ β0 : Be, RoL β0 w β x.hpL) := by
  obtain ⟨_, _, e, ⟨v0, rfl, wv0⟩, h⟩ := h; subst e
  obtain ⟨_, _, e, ⟨v1, rfl, wv1⟩, h⟩ := h; subst e
  obtain ⟨_, _, e, s2h, h⟩ := h; subst e
  obtain rfl := h
  obtain ⟨s2, ps2, s2i, s2l, s2w⟩ := see_slx PieceD.cs [.int, .str] PieceD.wf PieceD.flat (fun _ h => PieceD.conv h) s2h
  refine ⟨⟨v0, v1.data.toList, s2⟩, [ps2], rfl, ⟨wv0, wv1, s2w, s2l⟩, fun β1 β2 => ?_, fun β0 => ?_⟩
  · exact ⟨rfl, ⟨rfl, ⟨s2i.val _ _ (by simp), trivial⟩⟩⟩
  · exact ⟨⟨rfl, s2i.ob _ _, flatL_map PieceD.flat _⟩, trivial⟩

structure KnownD where
  keys : List Int
  tags : List TagD
deriving DecidableEq, Inhabited
/-- The cells, the slices being objects o, o+1 and so on. -/
def KnownD.cs (x : KnownD) (o : Nat) : List Sc := [.sl (o + 0) 0 x.keys.length, .sl (o + 1) 0 x.tags.length]
def KnownD.hp (x : KnownD) (own : Bool) : Hp := [some ⟨x.keys.map intC, 1, 3, own, true⟩, some ⟨x.tags.map TagD.cs, 5, 114, own, true⟩]
/-- As they come in. -/
def KnownD.hpL (x : KnownD) : Hp := [some ⟨x.keys.map intC, 1, 3, false, true⟩, some ⟨x.tags.map TagD.cs, 5, 85, false, true⟩]
def KnownD.wf (x : KnownD) : Prop := (∀ y ∈ x.keys, I64 y) ∧ (∀ y ∈ x.tags, TagD.wf y) ∧ x.keys.length ≤ maxLen ∧ x.tags.length ≤ maxLen
def KnownD.ls : List L1 := [.sl [.int], .sl [.int, .int, .int, .int, .int]]
theorem KnownD.conv {w : World} {cs : List Value} (h : See1s w KnownD.ls cs) : ∃ (x : KnownD) (β : Be), β.length = 2 ∧ x.wf ∧ (∀ β1 β2 : Be, L2 (ScR (β1 ++ (β ++ β2))) (x.cs β1.length) cs) ∧ (∀ β0 : Be, RoL β0 w β x.hpL) := by
  obtain ⟨_, _, e, s0h, h⟩ := h; subst e
  obtain ⟨_, _, e, s1h, h⟩ := h; subst e
  obtain rfl := h
  obtain ⟨s0, ps0, s0i, s0l, s0w⟩ := see_slx intC [.int] I64 (fun _ => rfl) (fun _ h => intC_conv h) s0h
  obtain ⟨s1, ps1, s1i, s1l, s1w⟩ := see_slx TagD.cs [.int, .int, .int, .int, .int] TagD.wf TagD.flat (fun _ h => TagD.conv h) s1h
  refine ⟨⟨s0, s1⟩, [ps0, ps1], rfl, ⟨s0w, s1w, s0l, s1l⟩, fun β1 β2 => ?_, fun β0 => ?_⟩
  · exact ⟨s0i.val _ _ (by simp), ⟨s1i.val _ _ (by simp), trivial⟩⟩
  · exact ⟨⟨rfl, s0i.ob _ _, flatL_map (fun _ => rfl) _⟩, ⟨⟨rfl, s1i.ob _ _, flatL_map TagD.flat _⟩, trivial⟩⟩

structure EndD where
  side : Int
  state : Int
  key : Int
  peer : Int
  policy : PolicyD
  own : List AddrD
  far : List AddrD
  subs : List SubD
  halfs : List HalfD
  bucket : BucketD
  out : OutD
  inp : PiecesD
  done : List Int
  over : List Int
  draw : Int
  now : Int
  pick : Int
deriving DecidableEq, Inhabited
/-- The cells, the slices being objects o, o+1 and so on. -/
def EndD.cs (x : EndD) (o : Nat) : List Sc := [.int .i64 x.side, .int .i64 x.state, .int .i64 x.key, .int .i64 x.peer, .int .i64 x.policy.kind, .int .i64 x.policy.many, .sl (o + 0) 0 x.own.length, .sl (o + 1) 0 x.far.length, .sl (o + 2) 0 x.subs.length, .sl (o + 3) 0 x.halfs.length, .int .i64 x.bucket.rate, .int .i64 x.bucket.burst, .int .i64 x.bucket.cur, .st x.out.text, .int .i64 x.out.base, .int .i64 x.out.sent, .int .i64 x.out.room, .int .i64 x.inp.read, .st x.inp.ready, .sl (o + 4) 0 x.inp.list.length, .sl (o + 5) 0 x.done.length, .sl (o + 6) 0 x.over.length, .int .i64 x.draw, .int .i64 x.now, .int .i64 x.pick]
def EndD.hp (x : EndD) (own : Bool) : Hp := [some ⟨x.own.map AddrD.cs, 4, 133, own, true⟩, some ⟨x.far.map AddrD.cs, 4, 133, own, true⟩, some ⟨x.subs.map SubD.cs, 10, 99, own, true⟩, some ⟨x.halfs.map HalfD.cs, 8, 135, own, true⟩, some ⟨x.inp.list.map PieceD.cs, 2, 139, own, true⟩, some ⟨x.done.map intC, 1, 3, own, true⟩, some ⟨x.over.map intC, 1, 3, own, true⟩]
/-- As they come in. -/
def EndD.hpL (x : EndD) : Hp := [some ⟨x.own.map AddrD.cs, 4, 144, false, true⟩, some ⟨x.far.map AddrD.cs, 4, 144, false, true⟩, some ⟨x.subs.map SubD.cs, 10, 148, false, true⟩, some ⟨x.halfs.map HalfD.cs, 8, 151, false, true⟩, some ⟨x.inp.list.map PieceD.cs, 2, 161, false, true⟩, some ⟨x.done.map intC, 1, 3, false, true⟩, some ⟨x.over.map intC, 1, 3, false, true⟩]
def EndD.wf (x : EndD) : Prop := I64 x.side ∧ I64 x.state ∧ I64 x.key ∧ I64 x.peer ∧ I64 x.policy.kind ∧ I64 x.policy.many ∧ I64 x.bucket.rate ∧ I64 x.bucket.burst ∧ I64 x.bucket.cur ∧ x.out.text.length ≤ maxLen ∧ I64 x.out.base ∧ I64 x.out.sent ∧ I64 x.out.room ∧ I64 x.inp.read ∧ x.inp.ready.length ≤ maxLen ∧ I64 x.draw ∧ I64 x.now ∧ I64 x.pick ∧ (∀ y ∈ x.own, AddrD.wf y) ∧ (∀ y ∈ x.far, AddrD.wf y) ∧ (∀ y ∈ x.subs, SubD.wf y) ∧ (∀ y ∈ x.halfs, HalfD.wf y) ∧ (∀ y ∈ x.inp.list, PieceD.wf y) ∧ (∀ y ∈ x.done, I64 y) ∧ (∀ y ∈ x.over, I64 y) ∧ x.own.length ≤ maxLen ∧ x.far.length ≤ maxLen ∧ x.subs.length ≤ maxLen ∧ x.halfs.length ≤ maxLen ∧ x.inp.list.length ≤ maxLen ∧ x.done.length ≤ maxLen ∧ x.over.length ≤ maxLen
theorem EndD.wf_policy {x : EndD} (h : x.wf) : x.policy.wf := by
  obtain ⟨_, _, _, _, h4, h5, _, _, _, _, _, _, _, _, _, _, _, _, _, _, _, _, _, _, _, _, _, _, _, _, _, _⟩ := h
  exact ⟨h4, h5⟩
theorem EndD.wf_bucket {x : EndD} (h : x.wf) : x.bucket.wf := by
  obtain ⟨_, _, _, _, _, _, h6, h7, h8, _, _, _, _, _, _, _, _, _, _, _, _, _, _, _, _, _, _, _, _, _, _, _⟩ := h
  exact ⟨h6, h7, h8⟩
theorem EndD.wf_out {x : EndD} (h : x.wf) : x.out.wf := by
  obtain ⟨_, _, _, _, _, _, _, _, _, h9, h10, h11, h12, _, _, _, _, _, _, _, _, _, _, _, _, _, _, _, _, _, _, _⟩ := h
  exact ⟨h9, h10, h11, h12⟩
theorem EndD.wf_inp {x : EndD} (h : x.wf) : x.inp.wf := by
  obtain ⟨_, _, _, _, _, _, _, _, _, _, _, _, _, h13, h14, _, _, _, _, _, _, _, h22, _, _, _, _, _, _, h29, _, _⟩ := h
  exact ⟨h13, h14, h22, h29⟩
def EndD.ls : List L1 := [.one .int, .one .int, .one .int, .one .int, .one .int, .one .int, .sl [.int, .int, .bool, .bool], .sl [.int, .int, .bool, .bool], .sl [.int, .int, .int, .int, .bool, .int, .int, .int, .int, .int], .sl [.int, .int, .int, .int, .int, .int, .int, .int], .one .int, .one .int, .one .int, .one .str, .one .int, .one .int, .one .int, .one .int, .one .str, .sl [.int, .str], .sl [.int], .sl [.int], .one .int, .one .int, .one .int]
theorem EndD.conv {w : World} {cs : List Value} (h : See1s w EndD.ls cs) : ∃ (x : EndD) (β : Be), β.length = 7 ∧ x.wf ∧ (∀ β1 β2 : Be, L2 (ScR (β1 ++ (β ++ β2))) (x.cs β1.length) cs) ∧ (∀ β0 : Be, RoL β0 w β x.hpL) := by
  obtain ⟨_, _, e, ⟨v0, rfl, wv0⟩, h⟩ := h; subst e
  obtain ⟨_, _, e, ⟨v1, rfl, wv1⟩, h⟩ := h; subst e
  obtain ⟨_, _, e, ⟨v2, rfl, wv2⟩, h⟩ := h; subst e
  obtain ⟨_, _, e, ⟨v3, rfl, wv3⟩, h⟩ := h; subst e
  obtain ⟨_, _, e, ⟨v4, rfl, wv4⟩, h⟩ := h; subst e
  obtain ⟨_, _, e, ⟨v5, rfl, wv5⟩, h⟩ := h; subst e
  obtain ⟨_, _, e, s6h, h⟩ := h; subst e
  obtain ⟨_, _, e, s7h, h⟩ := h; subst e
  obtain ⟨_, _, e, s8h, h⟩ := h; subst e
  obtain ⟨_, _, e, s9h, h⟩ := h; subst e
  obtain ⟨_, _, e, ⟨v10, rfl, wv10⟩, h⟩ := h; subst e
  obtain ⟨_, _, e, ⟨v11, rfl, wv11⟩, h⟩ := h; subst e
  obtain ⟨_, _, e, ⟨v12, rfl, wv12⟩, h⟩ := h; subst e
  obtain ⟨_, _, e, ⟨v13, rfl, wv13⟩, h⟩ := h; subst e
  obtain ⟨_, _, e, ⟨v14, rfl, wv14⟩, h⟩ := h; subst e
  obtain ⟨_, _, e, ⟨v15, rfl, wv15⟩, h⟩ := h; subst e
  obtain ⟨_, _, e, ⟨v16, rfl, wv16⟩, h⟩ := h; subst e
  obtain ⟨_, _, e, ⟨v17, rfl, wv17⟩, h⟩ := h; subst e
  obtain ⟨_, _, e, ⟨v18, rfl, wv18⟩, h⟩ := h; subst e
  obtain ⟨_, _, e, s19h, h⟩ := h; subst e
  obtain ⟨_, _, e, s20h, h⟩ := h; subst e
  obtain ⟨_, _, e, s21h, h⟩ := h; subst e
  obtain ⟨_, _, e, ⟨v22, rfl, wv22⟩, h⟩ := h; subst e
  obtain ⟨_, _, e, ⟨v23, rfl, wv23⟩, h⟩ := h; subst e
  obtain ⟨_, _, e, ⟨v24, rfl, wv24⟩, h⟩ := h; subst e
  obtain rfl := h
  obtain ⟨s6, ps6, s6i, s6l, s6w⟩ := see_slx AddrD.cs [.int, .int, .bool, .bool] AddrD.wf AddrD.flat (fun _ h => AddrD.conv h) s6h
  obtain ⟨s7, ps7, s7i, s7l, s7w⟩ := see_slx AddrD.cs [.int, .int, .bool, .bool] AddrD.wf AddrD.flat (fun _ h => AddrD.conv h) s7h
  obtain ⟨s8, ps8, s8i, s8l, s8w⟩ := see_slx SubD.cs [.int, .int, .int, .int, .bool, .int, .int, .int, .int, .int] SubD.wf SubD.flat (fun _ h => SubD.conv h) s8h
  obtain ⟨s9, ps9, s9i, s9l, s9w⟩ := see_slx HalfD.cs [.int, .int, .int, .int, .int, .int, .int, .int] HalfD.wf HalfD.flat (fun _ h => HalfD.conv h) s9h
  obtain ⟨s19, ps19, s19i, s19l, s19w⟩ := see_slx PieceD.cs [.int, .str] PieceD.wf PieceD.flat (fun _ h => PieceD.conv h) s19h
  obtain ⟨s20, ps20, s20i, s20l, s20w⟩ := see_slx intC [.int] I64 (fun _ => rfl) (fun _ h => intC_conv h) s20h
  obtain ⟨s21, ps21, s21i, s21l, s21w⟩ := see_slx intC [.int] I64 (fun _ => rfl) (fun _ h => intC_conv h) s21h
  refine ⟨⟨v0, v1, v2, v3, ⟨v4, v5⟩, s6, s7, s8, s9, ⟨v10, v11, v12⟩, ⟨v13.data.toList, v14, v15, v16⟩, ⟨v17, v18.data.toList, s19⟩, s20, s21, v22, v23, v24⟩, [ps6, ps7, ps8, ps9, ps19, ps20, ps21], rfl, ⟨wv0, wv1, wv2, wv3, wv4, wv5, wv10, wv11, wv12, wv13, wv14, wv15, wv16, wv17, wv18, wv22, wv23, wv24, s6w, s7w, s8w, s9w, s19w, s20w, s21w, s6l, s7l, s8l, s9l, s19l, s20l, s21l⟩, fun β1 β2 => ?_, fun β0 => ?_⟩
  · exact ⟨rfl, ⟨rfl, ⟨rfl, ⟨rfl, ⟨rfl, ⟨rfl, ⟨s6i.val _ _ (by simp), ⟨s7i.val _ _ (by simp), ⟨s8i.val _ _ (by simp), ⟨s9i.val _ _ (by simp), ⟨rfl, ⟨rfl, ⟨rfl, ⟨rfl, ⟨rfl, ⟨rfl, ⟨rfl, ⟨rfl, ⟨rfl, ⟨s19i.val _ _ (by simp), ⟨s20i.val _ _ (by simp), ⟨s21i.val _ _ (by simp), ⟨rfl, ⟨rfl, ⟨rfl, trivial⟩⟩⟩⟩⟩⟩⟩⟩⟩⟩⟩⟩⟩⟩⟩⟩⟩⟩⟩⟩⟩⟩⟩⟩⟩
  · exact ⟨⟨rfl, s6i.ob _ _, flatL_map AddrD.flat _⟩, ⟨⟨rfl, s7i.ob _ _, flatL_map AddrD.flat _⟩, ⟨⟨rfl, s8i.ob _ _, flatL_map SubD.flat _⟩, ⟨⟨rfl, s9i.ob _ _, flatL_map HalfD.flat _⟩, ⟨⟨rfl, s19i.ob _ _, flatL_map PieceD.flat _⟩, ⟨⟨rfl, s20i.ob _ _, flatL_map (fun _ => rfl) _⟩, ⟨⟨rfl, s21i.ob _ _, flatL_map (fun _ => rfl) _⟩, trivial⟩⟩⟩⟩⟩⟩⟩

attribute [go_sem] PiecesD.cs PiecesD.hp PiecesD.hpL KnownD.cs KnownD.hp KnownD.hpL EndD.cs EndD.hp EndD.hpL
end Go.Proofs.YtoghbjbfldlfpaaGreat
