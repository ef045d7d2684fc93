/-
  The data of the program as Lean structures, as abstract cells, and how a value that comes in is read as one. Written by vgen.py.
-/
import Derived.Test.YtoghbjbfldlfpaaGreatVDataE
namespace Go.Proofs.YtoghbjbfldlfpaaGreat
open Go.ChangeShapes Go.WideShapes Go.ChangeAt Go.RowKit
set_option linter.unusedVariables false

structure WorldD where
  a : EndD
  b : EndD
  bag : List LetterD
  past : List LetterD
  wroteA : List UInt8
  wroteB : List UInt8
  readA : List UInt8
  readB : List UInt8
  known : KnownD
  nums : List Int
  answersA : List Int
  answersB : List Int
deriving DecidableEq, Inhabited
/-- The cells, the slices being objects o, o+1 and so on. -/
def WorldD.cs (x : WorldD) (o : Nat) : List Sc := [.int .i64 x.a.side, .int .i64 x.a.state, .int .i64 x.a.key, .int .i64 x.a.peer, .int .i64 x.a.policy.kind, .int .i64 x.a.policy.many, .sl (o + 0) 0 x.a.own.length, .sl (o + 1) 0 x.a.far.length, .sl (o + 2) 0 x.a.subs.length, .sl (o + 3) 0 x.a.halfs.length, .int .i64 x.a.bucket.rate, .int .i64 x.a.bucket.burst, .int .i64 x.a.bucket.cur, .st x.a.out.text, .int .i64 x.a.out.base, .int .i64 x.a.out.sent, .int .i64 x.a.out.room, .int .i64 x.a.inp.read, .st x.a.inp.ready, .sl (o + 4) 0 x.a.inp.list.length, .sl (o + 5) 0 x.a.done.length, .sl (o + 6) 0 x.a.over.length, .int .i64 x.a.draw, .int .i64 x.a.now, .int .i64 x.a.pick, .int .i64 x.b.side, .int .i64 x.b.state, .int .i64 x.b.key, .int .i64 x.b.peer, .int .i64 x.b.policy.kind, .int .i64 x.b.policy.many, .sl (o + 7) 0 x.b.own.length, .sl (o + 8) 0 x.b.far.length, .sl (o + 9) 0 x.b.subs.length, .sl (o + 10) 0 x.b.halfs.length, .int .i64 x.b.bucket.rate, .int .i64 x.b.bucket.burst, .int .i64 x.b.bucket.cur, .st x.b.out.text, .int .i64 x.b.out.base, .int .i64 x.b.out.sent, .int .i64 x.b.out.room, .int .i64 x.b.inp.read, .st x.b.inp.ready, .sl (o + 11) 0 x.b.inp.list.length, .sl (o + 12) 0 x.b.done.length, .sl (o + 13) 0 x.b.over.length, .int .i64 x.b.draw, .int .i64 x.b.now, .int .i64 x.b.pick, .sl (o + 14) 0 x.bag.length, .sl (o + 15) 0 x.past.length, .st x.wroteA, .st x.wroteB, .st x.readA, .st x.readB, .sl (o + 16) 0 x.known.keys.length, .sl (o + 17) 0 x.known.tags.length, .sl (o + 18) 0 x.nums.length, .sl (o + 19) 0 x.answersA.length, .sl (o + 20) 0 x.answersB.length]
def WorldD.hp (x : WorldD) (own : Bool) : Hp := [some ⟨x.a.own.map AddrD.cs, 4, 133, own, true⟩, some ⟨x.a.far.map AddrD.cs, 4, 133, own, true⟩, some ⟨x.a.subs.map SubD.cs, 10, 99, own, true⟩, some ⟨x.a.halfs.map HalfD.cs, 8, 135, own, true⟩, some ⟨x.a.inp.list.map PieceD.cs, 2, 139, own, true⟩, some ⟨x.a.done.map intC, 1, 3, own, true⟩, some ⟨x.a.over.map intC, 1, 3, own, true⟩, some ⟨x.b.own.map AddrD.cs, 4, 133, own, true⟩, some ⟨x.b.far.map AddrD.cs, 4, 133, own, true⟩, some ⟨x.b.subs.map SubD.cs, 10, 99, own, true⟩, some ⟨x.b.halfs.map HalfD.cs, 8, 135, own, true⟩, some ⟨x.b.inp.list.map PieceD.cs, 2, 139, own, true⟩, some ⟨x.b.done.map intC, 1, 3, own, true⟩, some ⟨x.b.over.map intC, 1, 3, own, true⟩, some ⟨x.bag.map LetterD.cs, 19, 116, own, true⟩, some ⟨x.past.map LetterD.cs, 19, 116, own, true⟩, some ⟨x.known.keys.map intC, 1, 3, own, true⟩, some ⟨x.known.tags.map TagD.cs, 5, 114, own, true⟩, some ⟨x.nums.map intC, 1, 3, own, true⟩, some ⟨x.answersA.map intC, 1, 3, own, true⟩, some ⟨x.answersB.map intC, 1, 3, own, true⟩]
/-- As they come in. -/
def WorldD.hpL (x : WorldD) : Hp := [some ⟨x.a.own.map AddrD.cs, 4, 144, false, true⟩, some ⟨x.a.far.map AddrD.cs, 4, 144, false, true⟩, some ⟨x.a.subs.map SubD.cs, 10, 148, false, true⟩, some ⟨x.a.halfs.map HalfD.cs, 8, 151, false, true⟩, some ⟨x.a.inp.list.map PieceD.cs, 2, 161, false, true⟩, some ⟨x.a.done.map intC, 1, 3, false, true⟩, some ⟨x.a.over.map intC, 1, 3, false, true⟩, some ⟨x.b.own.map AddrD.cs, 4, 144, false, true⟩, some ⟨x.b.far.map AddrD.cs, 4, 144, false, true⟩, some ⟨x.b.subs.map SubD.cs, 10, 148, false, true⟩, some ⟨x.b.halfs.map HalfD.cs, 8, 151, false, true⟩, some ⟨x.b.inp.list.map PieceD.cs, 2, 161, false, true⟩, some ⟨x.b.done.map intC, 1, 3, false, true⟩, some ⟨x.b.over.map intC, 1, 3, false, true⟩, some ⟨x.bag.map LetterD.cs, 19, 87, false, true⟩, some ⟨x.past.map LetterD.cs, 19, 87, false, true⟩, some ⟨x.known.keys.map intC, 1, 3, false, true⟩, some ⟨x.known.tags.map TagD.cs, 5, 85, false, true⟩, some ⟨x.nums.map intC, 1, 3, false, true⟩, some ⟨x.answersA.map intC, 1, 3, false, true⟩, some ⟨x.answersB.map intC, 1, 3, false, true⟩]
def WorldD.wf (x : WorldD) : Prop := I64 x.a.side ∧ I64 x.a.state ∧ I64 x.a.key ∧ I64 x.a.peer ∧ I64 x.a.policy.kind ∧ I64 x.a.policy.many ∧ I64 x.a.bucket.rate ∧ I64 x.a.bucket.burst ∧ I64 x.a.bucket.cur ∧ x.a.out.text.length ≤ maxLen ∧ I64 x.a.out.base ∧ I64 x.a.out.sent ∧ I64 x.a.out.room ∧ I64 x.a.inp.read ∧ x.a.inp.ready.length ≤ maxLen ∧ I64 x.a.draw ∧ I64 x.a.now ∧ I64 x.a.pick ∧ I64 x.b.side ∧ I64 x.b.state ∧ I64 x.b.key ∧ I64 x.b.peer ∧ I64 x.b.policy.kind ∧ I64 x.b.policy.many ∧ I64 x.b.bucket.rate ∧ I64 x.b.bucket.burst ∧ I64 x.b.bucket.cur ∧ x.b.out.text.length ≤ maxLen ∧ I64 x.b.out.base ∧ I64 x.b.out.sent ∧ I64 x.b.out.room ∧ I64 x.b.inp.read ∧ x.b.inp.ready.length ≤ maxLen ∧ I64 x.b.draw ∧ I64 x.b.now ∧ I64 x.b.pick ∧ x.wroteA.length ≤ maxLen ∧ x.wroteB.length ≤ maxLen ∧ x.readA.length ≤ maxLen ∧ x.readB.length ≤ maxLen ∧ (∀ y ∈ x.a.own, AddrD.wf y) ∧ (∀ y ∈ x.a.far, AddrD.wf y) ∧ (∀ y ∈ x.a.subs, SubD.wf y) ∧ (∀ y ∈ x.a.halfs, HalfD.wf y) ∧ (∀ y ∈ x.a.inp.list, PieceD.wf y) ∧ (∀ y ∈ x.a.done, I64 y) ∧ (∀ y ∈ x.a.over, I64 y) ∧ (∀ y ∈ x.b.own, AddrD.wf y) ∧ (∀ y ∈ x.b.far, AddrD.wf y) ∧ (∀ y ∈ x.b.subs, SubD.wf y) ∧ (∀ y ∈ x.b.halfs, HalfD.wf y) ∧ (∀ y ∈ x.b.inp.list, PieceD.wf y) ∧ (∀ y ∈ x.b.done, I64 y) ∧ (∀ y ∈ x.b.over, I64 y) ∧ (∀ y ∈ x.bag, LetterD.wf y) ∧ (∀ y ∈ x.past, LetterD.wf y) ∧ (∀ y ∈ x.known.keys, I64 y) ∧ (∀ y ∈ x.known.tags, TagD.wf y) ∧ (∀ y ∈ x.nums, I64 y) ∧ (∀ y ∈ x.answersA, I64 y) ∧ (∀ y ∈ x.answersB, I64 y) ∧ x.a.own.length ≤ maxLen ∧ x.a.far.length ≤ maxLen ∧ x.a.subs.length ≤ maxLen ∧ x.a.halfs.length ≤ maxLen ∧ x.a.inp.list.length ≤ maxLen ∧ x.a.done.length ≤ maxLen ∧ x.a.over.length ≤ maxLen ∧ x.b.own.length ≤ maxLen ∧ x.b.far.length ≤ maxLen ∧ x.b.subs.length ≤ maxLen ∧ x.b.halfs.length ≤ maxLen ∧ x.b.inp.list.length ≤ maxLen ∧ x.b.done.length ≤ maxLen ∧ x.b.over.length ≤ maxLen ∧ x.bag.length ≤ maxLen ∧ x.past.length ≤ maxLen ∧ x.known.keys.length ≤ maxLen ∧ x.known.tags.length ≤ maxLen ∧ x.nums.length ≤ maxLen ∧ x.answersA.length ≤ maxLen ∧ x.answersB.length ≤ maxLen
theorem WorldD.wf_a {x : WorldD} (h : x.wf) : x.a.wf := by
  obtain ⟨h0, h1, h2, h3, h4, h5, h6, h7, h8, h9, h10, h11, h12, h13, h14, h15, h16, h17, _, _, _, _, _, _, _, _, _, _, _, _, _, _, _, _, _, _, _, _, _, _, h40, h41, h42, h43, h44, h45, h46, _, _, _, _, _, _, _, _, _, _, _, _, _, _, h61, h62, h63, h64, h65, h66, h67, _, _, _, _, _, _, _, _, _, _, _, _, _, _⟩ := h
  exact ⟨h0, h1, h2, h3, h4, h5, h6, h7, h8, h9, h10, h11, h12, h13, h14, h15, h16, h17, h40, h41, h42, h43, h44, h45, h46, h61, h62, h63, h64, h65, h66, h67⟩
theorem WorldD.wf_b {x : WorldD} (h : x.wf) : x.b.wf := by
  obtain ⟨_, _, _, _, _, _, _, _, _, _, _, _, _, _, _, _, _, _, h18, h19, h20, h21, h22, h23, h24, h25, h26, h27, h28, h29, h30, h31, h32, h33, h34, h35, _, _, _, _, _, _, _, _, _, _, _, h47, h48, h49, h50, h51, h52, h53, _, _, _, _, _, _, _, _, _, _, _, _, _, _, h68, h69, h70, h71, h72, h73, h74, _, _, _, _, _, _, _⟩ := h
  exact ⟨h18, h19, h20, h21, h22, h23, h24, h25, h26, h27, h28, h29, h30, h31, h32, h33, h34, h35, h47, h48, h49, h50, h51, h52, h53, h68, h69, h70, h71, h72, h73, h74⟩
theorem WorldD.wf_known {x : WorldD} (h : x.wf) : x.known.wf := by
  obtain ⟨_, _, _, _, _, _, _, _, _, _, _, _, _, _, _, _, _, _, _, _, _, _, _, _, _, _, _, _, _, _, _, _, _, _, _, _, _, _, _, _, _, _, _, _, _, _, _, _, _, _, _, _, _, _, _, _, h56, h57, _, _, _, _, _, _, _, _, _, _, _, _, _, _, _, _, _, _, _, h77, h78, _, _, _⟩ := h
  exact ⟨h56, h57, h77, h78⟩
def WorldD.ls : List L1 := [.one .int, .one .int, .one .int, .one .int, .one .int, .one .int, .sl [.int, .int, .bool, .bool], .sl [.int, .int, .bool, .bool], .sl [.int, .int, .int, .int, .bool, .int, .int, .int, .int, .int], .sl [.int, .int, .int, .int, .int, .int, .int, .int], .one .int, .one .int, .one .int, .one .str, .one .int, .one .int, .one .int, .one .int, .one .str, .sl [.int, .str], .sl [.int], .sl [.int], .one .int, .one .int, .one .int, .one .int, .one .int, .one .int, .one .int, .one .int, .one .int, .sl [.int, .int, .bool, .bool], .sl [.int, .int, .bool, .bool], .sl [.int, .int, .int, .int, .bool, .int, .int, .int, .int, .int], .sl [.int, .int, .int, .int, .int, .int, .int, .int], .one .int, .one .int, .one .int, .one .str, .one .int, .one .int, .one .int, .one .int, .one .str, .sl [.int, .str], .sl [.int], .sl [.int], .one .int, .one .int, .one .int, .sl [.int, .int, .int, .int, .int, .int, .int, .int, .int, .int, .int, .int, .int, .int, .int, .int, .bool, .int, .str], .sl [.int, .int, .int, .int, .int, .int, .int, .int, .int, .int, .int, .int, .int, .int, .int, .int, .bool, .int, .str], .one .str, .one .str, .one .str, .one .str, .sl [.int], .sl [.int, .int, .int, .int, .int], .sl [.int], .sl [.int], .sl [.int]]
theorem WorldD.conv {w : World} {cs : List Value} (h : See1s w WorldD.ls cs) : ∃ (x : WorldD) (β : Be), β.length = 21 ∧ x.wf ∧ (∀ β1 β2 : Be, L2 (ScR (β1 ++ (β ++ β2))) (x.cs β1.length) cs) ∧ (∀ β0 : Be, RoL β0 w β x.hpL) := by
  obtain ⟨_, _, e, ⟨v0, rfl, wv0⟩, h⟩ := h; subst e
  obtain ⟨_, _, e, ⟨v1, rfl, wv1⟩, h⟩ := h; subst e
  obtain ⟨_, _, e, ⟨v2, rfl, wv2⟩, h⟩ := h; subst e
  obtain ⟨_, _, e, ⟨v3, rfl, wv3⟩, h⟩ := h; subst e
  obtain ⟨_, _, e, ⟨v4, rfl, wv4⟩, h⟩ := h; subst e
  obtain ⟨_, _, e, ⟨v5, rfl, wv5⟩, h⟩ := h; subst e
  obtain ⟨_, _, e, s6h, h⟩ := h; subst e
  obtain ⟨_, _, e, s7h, h⟩ := h; subst e
  obtain ⟨_, _, e, s8h, h⟩ := h; subst e
  obtain ⟨_, _, e, s9h, h⟩ := h; subst e
  obtain ⟨_, _, e, ⟨v10, rfl, wv10⟩, h⟩ := h; subst e
  obtain ⟨_, _, e, ⟨v11, rfl, wv11⟩, h⟩ := h; subst e
  obtain ⟨_, _, e, ⟨v12, rfl, wv12⟩, h⟩ := h; subst e
  obtain ⟨_, _, e, ⟨v13, rfl, wv13⟩, h⟩ := h; subst e
  obtain ⟨_, _, e, ⟨v14, rfl, wv14⟩, h⟩ := h; subst e
  obtain ⟨_, _, e, ⟨v15, rfl, wv15⟩, h⟩ := h; subst e
  obtain ⟨_, _, e, ⟨v16, rfl, wv16⟩, h⟩ := h; subst e
  obtain ⟨_, _, e, ⟨v17, rfl, wv17⟩, h⟩ := h; subst e
  obtain ⟨_, _, e, ⟨v18, rfl, wv18⟩, h⟩ := h; subst e
  obtain ⟨_, _, e, s19h, h⟩ := h; subst e
  obtain ⟨_, _, e, s20h, h⟩ := h; subst e
  obtain ⟨_, _, e, s21h, h⟩ := h; subst e
  obtain ⟨_, _, e, ⟨v22, rfl, wv22⟩, h⟩ := h; subst e
  obtain ⟨_, _, e, ⟨v23, rfl, wv23⟩, h⟩ := h; subst e
  obtain ⟨_, _, e, ⟨v24, rfl, wv24⟩, h⟩ := h; subst e
  obtain ⟨_, _, e, ⟨v25, rfl, wv25⟩, h⟩ := h; subst e
  obtain ⟨_, _, e, ⟨v26, rfl, wv26⟩, h⟩ := h; subst e
  obtain ⟨_, _, e, ⟨v27, rfl, wv27⟩, h⟩ := h; subst e
  obtain ⟨_, _, e, ⟨v28, rfl, wv28⟩, h⟩ := h; subst e
  obtain ⟨_, _, e, ⟨v29, rfl, wv29⟩, h⟩ := h; subst e
  obtain ⟨_, _, e, ⟨v30, rfl, wv30⟩, h⟩ := h; subst e
  obtain ⟨_, _, e, s31h, h⟩ := h; subst e
  obtain ⟨_, _, e, s32h, h⟩ := h; subst e
  obtain ⟨_, _, e, s33h, h⟩ := h; subst e
  obtain ⟨_, _, e, s34h, h⟩ := h; subst e
  obtain ⟨_, _, e, ⟨v35, rfl, wv35⟩, h⟩ := h; subst e
  obtain ⟨_, _, e, ⟨v36, rfl, wv36⟩, h⟩ := h; subst e
  obtain ⟨_, _, e, ⟨v37, rfl, wv37⟩, h⟩ := h; subst e
  obtain ⟨_, _, e, ⟨v38, rfl, wv38⟩, h⟩ := h; subst e
  obtain ⟨_, _, e, ⟨v39, rfl, wv39⟩, h⟩ := h; subst e
  obtain ⟨_, _, e, ⟨v40, rfl, wv40⟩, h⟩ := h; subst e
  obtain ⟨_, _, e, ⟨v41, rfl, wv41⟩, h⟩ := h; subst e
  obtain ⟨_, _, e, ⟨v42, rfl, wv42⟩, h⟩ := h; subst e
  obtain ⟨_, _, e, ⟨v43, rfl, wv43⟩, h⟩ := h; subst e
  obtain ⟨_, _, e, s44h, h⟩ := h; subst e
  obtain ⟨_, _, e, s45h, h⟩ := h; subst e
  obtain ⟨_, _, e, s46h, h⟩ := h; subst e
  obtain ⟨_, _, e, ⟨v47, rfl, wv47⟩, h⟩ := h; subst e
  obtain ⟨_, _, e, ⟨v48, rfl, wv48⟩, h⟩ := h; subst e
  obtain ⟨_, _, e, ⟨v49, rfl, wv49⟩, h⟩ := h; subst e
  obtain ⟨_, _, e, s50h, h⟩ := h; subst e
  obtain ⟨_, _, e, s51h, h⟩ := h; subst e
  obtain ⟨_, _, e, ⟨v52, rfl, wv52⟩, h⟩ := h; subst e
  obtain ⟨_, _, e, ⟨v53, rfl, wv53⟩, h⟩ := h; subst e
  obtain ⟨_, _, e, ⟨v54, rfl, wv54⟩, h⟩ := h; subst e
  obtain ⟨_, _, e, ⟨v55, rfl, wv55⟩, h⟩ := h; subst e
  obtain ⟨_, _, e, s56h, h⟩ := h; subst e
  obtain ⟨_, _, e, s57h, h⟩ := h; subst e
  obtain ⟨_, _, e, s58h, h⟩ := h; subst e
  obtain ⟨_, _, e, s59h, h⟩ := h; subst e
  obtain ⟨_, _, e, s60h, h⟩ := h; subst e
  obtain rfl := h
  obtain ⟨s6, ps6, s6i, s6l, s6w⟩ := see_slx AddrD.cs [.int, .int, .bool, .bool] AddrD.wf AddrD.flat (fun _ h => AddrD.conv h) s6h
  obtain ⟨s7, ps7, s7i, s7l, s7w⟩ := see_slx AddrD.cs [.int, .int, .bool, .bool] AddrD.wf AddrD.flat (fun _ h => AddrD.conv h) s7h
  obtain ⟨s8, ps8, s8i, s8l, s8w⟩ := see_slx SubD.cs [.int, .int, .int, .int, .bool, .int, .int, .int, .int, .int] SubD.wf SubD.flat (fun _ h => SubD.conv h) s8h
  obtain ⟨s9, ps9, s9i, s9l, s9w⟩ := see_slx HalfD.cs [.int, .int, .int, .int, .int, .int, .int, .int] HalfD.wf HalfD.flat (fun _ h => HalfD.conv h) s9h
  obtain ⟨s19, ps19, s19i, s19l, s19w⟩ := see_slx PieceD.cs [.int, .str] PieceD.wf PieceD.flat (fun _ h => PieceD.conv h) s19h
  obtain ⟨s20, ps20, s20i, s20l, s20w⟩ := see_slx intC [.int] I64 (fun _ => rfl) (fun _ h => intC_conv h) s20h
  obtain ⟨s21, ps21, s21i, s21l, s21w⟩ := see_slx intC [.int] I64 (fun _ => rfl) (fun _ h => intC_conv h) s21h
  obtain ⟨s31, ps31, s31i, s31l, s31w⟩ := see_slx AddrD.cs [.int, .int, .bool, .bool] AddrD.wf AddrD.flat (fun _ h => AddrD.conv h) s31h
  obtain ⟨s32, ps32, s32i, s32l, s32w⟩ := see_slx AddrD.cs [.int, .int, .bool, .bool] AddrD.wf AddrD.flat (fun _ h => AddrD.conv h) s32h
  obtain ⟨s33, ps33, s33i, s33l, s33w⟩ := see_slx SubD.cs [.int, .int, .int, .int, .bool, .int, .int, .int, .int, .int] SubD.wf SubD.flat (fun _ h => SubD.conv h) s33h
  obtain ⟨s34, ps34, s34i, s34l, s34w⟩ := see_slx HalfD.cs [.int, .int, .int, .int, .int, .int, .int, .int] HalfD.wf HalfD.flat (fun _ h => HalfD.conv h) s34h
  obtain ⟨s44, ps44, s44i, s44l, s44w⟩ := see_slx PieceD.cs [.int, .str] PieceD.wf PieceD.flat (fun _ h => PieceD.conv h) s44h
  obtain ⟨s45, ps45, s45i, s45l, s45w⟩ := see_slx intC [.int] I64 (fun _ => rfl) (fun _ h => intC_conv h) s45h
  obtain ⟨s46, ps46, s46i, s46l, s46w⟩ := see_slx intC [.int] I64 (fun _ => rfl) (fun _ h => intC_conv h) s46h
  obtain ⟨s50, ps50, s50i, s50l, s50w⟩ := see_slx LetterD.cs [.int, .int, .int, .int, .int, .int, .int, .int, .int, .int, .int, .int, .int, .int, .int, .int, .bool, .int, .str] LetterD.wf LetterD.flat (fun _ h => LetterD.conv h) s50h
  obtain ⟨s51, ps51, s51i, s51l, s51w⟩ := see_slx LetterD.cs [.int, .int, .int, .int, .int, .int, .int, .int, .int, .int, .int, .int, .int, .int, .int, .int, .bool, .int, .str] LetterD.wf LetterD.flat (fun _ h => LetterD.conv h) s51h
  obtain ⟨s56, ps56, s56i, s56l, s56w⟩ := see_slx intC [.int] I64 (fun _ => rfl) (fun _ h => intC_conv h) s56h
  obtain ⟨s57, ps57, s57i, s57l, s57w⟩ := see_slx TagD.cs [.int, .int, .int, .int, .int] TagD.wf TagD.flat (fun _ h => TagD.conv h) s57h
  obtain ⟨s58, ps58, s58i, s58l, s58w⟩ := see_slx intC [.int] I64 (fun _ => rfl) (fun _ h => intC_conv h) s58h
  obtain ⟨s59, ps59, s59i, s59l, s59w⟩ := see_slx intC [.int] I64 (fun _ => rfl) (fun _ h => intC_conv h) s59h
  obtain ⟨s60, ps60, s60i, s60l, s60w⟩ := see_slx intC [.int] I64 (fun _ => rfl) (fun _ h => intC_conv h) s60h
  refine ⟨⟨⟨v0, v1, v2, v3, ⟨v4, v5⟩, s6, s7, s8, s9, ⟨v10, v11, v12⟩, ⟨v13.data.toList, v14, v15, v16⟩, ⟨v17, v18.data.toList, s19⟩, s20, s21, v22, v23, v24⟩, ⟨v25, v26, v27, v28, ⟨v29, v30⟩, s31, s32, s33, s34, ⟨v35, v36, v37⟩, ⟨v38.data.toList, v39, v40, v41⟩, ⟨v42, v43.data.toList, s44⟩, s45, s46, v47, v48, v49⟩, s50, s51, v52.data.toList, v53.data.toList, v54.data.toList, v55.data.toList, ⟨s56, s57⟩, s58, s59, s60⟩, [ps6, ps7, ps8, ps9, ps19, ps20, ps21, ps31, ps32, ps33, ps34, ps44, ps45, ps46, ps50, ps51, ps56, ps57, ps58, ps59, ps60], rfl, ⟨wv0, wv1, wv2, wv3, wv4, wv5, wv10, wv11, wv12, wv13, wv14, wv15, wv16, wv17, wv18, wv22, wv23, wv24, wv25, wv26, wv27, wv28, wv29, wv30, wv35, wv36, wv37, wv38, wv39, wv40, wv41, wv42, wv43, wv47, wv48, wv49, wv52, wv53, wv54, wv55, s6w, s7w, s8w, s9w, s19w, s20w, s21w, s31w, s32w, s33w, s34w, s44w, s45w, s46w, s50w, s51w, s56w, s57w, s58w, s59w, s60w, s6l, s7l, s8l, s9l, s19l, s20l, s21l, s31l, s32l, s33l, s34l, s44l, s45l, s46l, s50l, s51l, s56l, s57l, s58l, s59l, s60l⟩, fun β1 β2 => ?_, fun β0 => ?_⟩
  · exact ⟨rfl, ⟨rfl, ⟨rfl, ⟨rfl, ⟨rfl, ⟨rfl, ⟨s6i.val _ _ (by simp), ⟨s7i.val _ _ (by simp), ⟨s8i.val _ _ (by simp), ⟨s9i.val _ _ (by simp), ⟨rfl, ⟨rfl, ⟨rfl, ⟨rfl, ⟨rfl, ⟨rfl, ⟨rfl, ⟨rfl, ⟨rfl, ⟨s19i.val _ _ (by simp), ⟨s20i.val _ _ (by simp), ⟨s21i.val _ _ (by simp), ⟨rfl, ⟨rfl, ⟨rfl, ⟨rfl, ⟨rfl, ⟨rfl, ⟨rfl, ⟨rfl, ⟨rfl, ⟨s31i.val _ _ (by simp), ⟨s32i.val _ _ (by simp), ⟨s33i.val _ _ (by simp), ⟨s34i.val _ _ (by simp), ⟨rfl, ⟨rfl, ⟨rfl, ⟨rfl, ⟨rfl, ⟨rfl, ⟨rfl, ⟨rfl, ⟨rfl, ⟨s44i.val _ _ (by simp), ⟨s45i.val _ _ (by simp), ⟨s46i.val _ _ (by simp), ⟨rfl, ⟨rfl, ⟨rfl, ⟨s50i.val _ _ (by simp), ⟨s51i.val _ _ (by simp), ⟨rfl, ⟨rfl, ⟨rfl, ⟨rfl, ⟨s56i.val _ _ (by simp), ⟨s57i.val _ _ (by simp), ⟨s58i.val _ _ (by simp), ⟨s59i.val _ _ (by simp), ⟨s60i.val _ _ (by simp), trivial⟩⟩⟩⟩⟩⟩⟩⟩⟩⟩⟩⟩⟩⟩⟩⟩⟩⟩⟩⟩⟩⟩⟩⟩⟩⟩⟩⟩⟩⟩⟩⟩⟩⟩⟩⟩⟩⟩⟩⟩⟩⟩⟩⟩⟩⟩⟩⟩⟩⟩⟩⟩⟩⟩⟩⟩⟩⟩⟩⟩⟩
  · exact ⟨⟨rfl, s6i.ob _ _, flatL_map AddrD.flat _⟩, ⟨⟨rfl, s7i.ob _ _, flatL_map AddrD.flat _⟩, ⟨⟨rfl, s8i.ob _ _, flatL_map SubD.flat _⟩, ⟨⟨rfl, s9i.ob _ _, flatL_map HalfD.flat _⟩, ⟨⟨rfl, s19i.ob _ _, flatL_map PieceD.flat _⟩, ⟨⟨rfl, s20i.ob _ _, flatL_map (fun _ => rfl) _⟩, ⟨⟨rfl, s21i.ob _ _, flatL_map (fun _ => rfl) _⟩, ⟨⟨rfl, s31i.ob _ _, flatL_map AddrD.flat _⟩, ⟨⟨rfl, s32i.ob _ _, flatL_map AddrD.flat _⟩, ⟨⟨rfl, s33i.ob _ _, flatL_map SubD.flat _⟩, ⟨⟨rfl, s34i.ob _ _, flatL_map HalfD.flat _⟩, ⟨⟨rfl, s44i.ob _ _, flatL_map PieceD.flat _⟩, ⟨⟨rfl, s45i.ob _ _, flatL_map (fun _ => rfl) _⟩, ⟨⟨rfl, s46i.ob _ _, flatL_map (fun _ => rfl) _⟩, ⟨⟨rfl, s50i.ob _ _, flatL_map LetterD.flat _⟩, ⟨⟨rfl, s51i.ob _ _, flatL_map LetterD.flat _⟩, ⟨⟨rfl, s56i.ob _ _, flatL_map (fun _ => rfl) _⟩, ⟨⟨rfl, s57i.ob _ _, flatL_map TagD.flat _⟩, ⟨⟨rfl, s58i.ob _ _, flatL_map (fun _ => rfl) _⟩, ⟨⟨rfl, s59i.ob _ _, flatL_map (fun _ => rfl) _⟩, ⟨⟨rfl, s60i.ob _ _, flatL_map (fun _ => rfl) _⟩, trivial⟩⟩⟩⟩⟩⟩⟩⟩⟩⟩⟩⟩⟩⟩⟩⟩⟩⟩⟩⟩⟩

attribute [go_sem] WorldD.cs WorldD.hp WorldD.hpL
end Go.Proofs.YtoghbjbfldlfpaaGreat
