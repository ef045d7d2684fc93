/-
  Texts merged for this claim by shake.py: what its proof needs.
-/
import Derived.Tactics
import Derived.Below
import Derived.Laws.AppendOwn
import Derived.Laws.OwnMore
import Derived.Laws.Slices
import Derived.Laws.Small
import Derived.Laws.Strings
import Derived.KernelRfl
import Derived.Laws.MakeOwn
import Derived.Laws.BytesString
import Derived.Laws.BytesArg
import Derived.Laws.Build
import Derived.Laws.Concat
import Derived.Laws.StructEq
import Derived.Lib.ConvBytes
import Derived.Orders
import Derived.WalkKit
import Derived.ProofKit
import Derived.ShutString
import Derived.OpenShut
import Derived.ChangeOld
import Derived.Carry
import Derived.Test.YtkabkkjnemongaaGreatChecked
import Derived.Laws.BitsLemmas
import Derived.JoinedOf
import Derived.Test.YtkabkkjnemongaaGreatRows
import Derived.Test.YtkabkkjnemongaaGreatZFnLivesF
set_option maxHeartbeats 16000000
set_option maxRecDepth 100000
set_option linter.unusedVariables false
set_option linter.unusedSimpArgs false
namespace Go.Proofs.YtkabkkjnemongaaGreat
section
open Go.RowKit

attribute [go_sem] List.append_eq
theorem laws_sameAddrs (l : List AddrD) (hl : l.length ≤ 4611686018427387904) : CallA Tryz.prog 52 [.sc (.sl 0 0 l.length), .sc (.sl 1 0 l.length)] [some ⟨l.map AddrD.cs, 4, 53, false, true⟩, some ⟨l.map AddrD.cs, 4, 53, false, true⟩] (.sc (.bo true)) [some ⟨l.map AddrD.cs, 4, 53, false, true⟩, some ⟨l.map AddrD.cs, 4, 53, false, true⟩] := by
 refine qE Tryz.func52 Tryz.ntmps52 Tryz.results52 fun E hE => ?_
 refine den_lp 2 hE (fun s (k : Nat) => s.at [4, 6, 7, 8, 9, 10, 11, 12, 13, 14, 15, 16, 17, 18, 19, 20, 21, 22, 23, 24, 25] [(5, .sc (.int .i64 (k : Nat)))] (s.hp)) (fun (k : Nat) => k ≤ l.length) (fun (k : Nat) => l.length - k) 0 (qA [0, 1]) (qC) (Nat.zero_le _) (weak_mk (by rfl) (by rfl) ?_) fun k hk N hN => ?_
 ·exact qY
 ·refine qR ?_
  refine qB (fun h => ?_) fun h => ?_
  ·refine qD [0, 1, 2, 3, 4, 5, 6, 7, 8] ?_
   refine qG ?_
   exact qN hN (k + 1) (qA [0, 1]) (by (try dsimp only); exact h)
  ·exact qF (qA [0, 1])

theorem laws_sameSubs (l : List SubD) (hl : l.length ≤ 4611686018427387904) : CallA Tryz.prog 53 [.sc (.sl 0 0 l.length), .sc (.sl 1 0 l.length)] [some ⟨l.map SubD.cs, 10, 132, false, true⟩, some ⟨l.map SubD.cs, 10, 132, false, true⟩] (.sc (.bo true)) [some ⟨l.map SubD.cs, 10, 132, false, true⟩, some ⟨l.map SubD.cs, 10, 132, false, true⟩] := by
 refine qE Tryz.func53 Tryz.ntmps53 Tryz.results53 fun E hE => ?_
 refine den_lp 2 hE (fun s (k : Nat) => s.at [4, 6, 7, 8, 9, 10, 11, 12, 13, 14, 15, 16, 17, 18, 19, 20, 21, 22, 23, 24, 25] [(5, .sc (.int .i64 (k : Nat)))] (s.hp)) (fun (k : Nat) => k ≤ l.length) (fun (k : Nat) => l.length - k) 0 (qA [0, 1]) (qC) (Nat.zero_le _) (weak_mk (by rfl) (by rfl) ?_) fun k hk N hN => ?_
 ·exact qY
 ·refine qR ?_
  refine qB (fun h => ?_) fun h => ?_
  ·refine qD [0, 1, 2, 3, 4, 5, 6, 7, 8] ?_
   refine qG ?_
   exact qN hN (k + 1) (qA [0, 1]) (by (try dsimp only); exact h)
  ·exact qF (qA [0, 1])

theorem laws_sameHalfs (l : List HalfD) (hl : l.length ≤ 4611686018427387904) : CallA Tryz.prog 54 [.sc (.sl 0 0 l.length), .sc (.sl 1 0 l.length)] [some ⟨l.map HalfD.cs, 8, 164, false, true⟩, some ⟨l.map HalfD.cs, 8, 164, false, true⟩] (.sc (.bo true)) [some ⟨l.map HalfD.cs, 8, 164, false, true⟩, some ⟨l.map HalfD.cs, 8, 164, false, true⟩] := by
 refine qE Tryz.func54 Tryz.ntmps54 Tryz.results54 fun E hE => ?_
 refine den_lp 2 hE (fun s (k : Nat) => s.at [4, 6, 7, 8, 9, 10, 11, 12, 13, 14, 15, 16, 17, 18, 19, 20, 21, 22, 23, 24, 25] [(5, .sc (.int .i64 (k : Nat)))] (s.hp)) (fun (k : Nat) => k ≤ l.length) (fun (k : Nat) => l.length - k) 0 (qA [0, 1]) (qC) (Nat.zero_le _) (weak_mk (by rfl) (by rfl) ?_) fun k hk N hN => ?_
 ·exact qY
 ·refine qR ?_
  refine qB (fun h => ?_) fun h => ?_
  ·refine qD [0, 1, 2, 3, 4, 5, 6, 7, 8] ?_
   refine qG ?_
   exact qN hN (k + 1) (qA [0, 1]) (by (try dsimp only); exact h)
  ·exact qF (qA [0, 1])

theorem laws_samePieceList (l : List PieceD) (hl : l.length ≤ 4611686018427387904) : CallA Tryz.prog 98 [.sc (.sl 0 0 l.length), .sc (.sl 1 0 l.length)] [some ⟨l.map PieceD.cs, 2, 179, false, true⟩, some ⟨l.map PieceD.cs, 2, 179, false, true⟩] (.sc (.bo true)) [some ⟨l.map PieceD.cs, 2, 179, false, true⟩, some ⟨l.map PieceD.cs, 2, 179, false, true⟩] := by
 refine qE Tryz.func98 Tryz.ntmps98 Tryz.results98 fun E hE => ?_
 refine den_lp 2 hE (fun s (k : Nat) => s.at [4, 6, 7, 8, 9, 10, 11, 12, 13, 14, 15, 16, 17, 18, 19, 20, 21, 22, 23, 24, 25] [(5, .sc (.int .i64 (k : Nat)))] (s.hp)) (fun (k : Nat) => k ≤ l.length) (fun (k : Nat) => l.length - k) 0 (qA [0, 1]) (qC) (Nat.zero_le _) (weak_mk (by rfl) (by rfl) ?_) fun k hk N hN => ?_
 ·exact qY
 ·refine qR ?_
  refine qB (fun h => ?_) fun h => ?_
  ·refine qD [0, 1, 2, 3, 4, 5, 6, 7, 8] ?_
   refine qG ?_
   exact qN hN (k + 1) (qA [0, 1]) (by (try dsimp only); exact h)
  ·exact qF (qA [0, 1])

theorem laws_sameLetters (l : List LetterD) (hl : l.length ≤ 4611686018427387904) : CallA Tryz.prog 23 [.sc (.sl 0 0 l.length), .sc (.sl 1 0 l.length)] [some ⟨l.map LetterD.cs, 19, 57, false, true⟩, some ⟨l.map LetterD.cs, 19, 57, false, true⟩] (.sc (.bo true)) [some ⟨l.map LetterD.cs, 19, 57, false, true⟩, some ⟨l.map LetterD.cs, 19, 57, false, true⟩] := by
 refine qE Tryz.func23 Tryz.ntmps23 Tryz.results23 fun E hE => ?_
 refine den_lp 2 hE (fun s (k : Nat) => s.at [4, 6, 7, 8, 9, 10, 11, 12, 13, 14, 15, 16, 17, 18, 19, 20, 21, 22, 23, 24, 25] [(5, .sc (.int .i64 (k : Nat)))] (s.hp)) (fun (k : Nat) => k ≤ l.length) (fun (k : Nat) => l.length - k) 0 (qA [0, 1]) (qC) (Nat.zero_le _) (weak_mk (by rfl) (by rfl) ?_) fun k hk N hN => ?_
 ·exact qY
 ·refine qR ?_
  refine qB (fun h => ?_) fun h => ?_
  ·refine qD [0, 1, 2, 3, 4, 5, 6, 7, 8] ?_
   refine qG ?_
   exact qN hN (k + 1) (qA [0, 1]) (by (try dsimp only); exact h)
  ·exact qF (qA [0, 1])

theorem laws_sameTags (l : List TagD) (hl : l.length ≤ 4611686018427387904) : CallA Tryz.prog 56 [.sc (.sl 0 0 l.length), .sc (.sl 1 0 l.length)] [some ⟨l.map TagD.cs, 5, 55, false, true⟩, some ⟨l.map TagD.cs, 5, 55, false, true⟩] (.sc (.bo true)) [some ⟨l.map TagD.cs, 5, 55, false, true⟩, some ⟨l.map TagD.cs, 5, 55, false, true⟩] := by
 refine qE Tryz.func56 Tryz.ntmps56 Tryz.results56 fun E hE => ?_
 refine den_lp 2 hE (fun s (k : Nat) => s.at [4, 6, 7, 8, 9, 10, 11, 12, 13, 14, 15, 16, 17, 18, 19, 20, 21, 22, 23, 24, 25] [(5, .sc (.int .i64 (k : Nat)))] (s.hp)) (fun (k : Nat) => k ≤ l.length) (fun (k : Nat) => l.length - k) 0 (qA [0, 1]) (qC) (Nat.zero_le _) (weak_mk (by rfl) (by rfl) ?_) fun k hk N hN => ?_
 ·exact qY
 ·refine qR ?_
  refine qB (fun h => ?_) fun h => ?_
  ·refine qD [0, 1, 2, 3, 4, 5, 6, 7, 8] ?_
   refine qG ?_
   exact qN hN (k + 1) (qA [0, 1]) (by (try dsimp only); exact h)
  ·exact qF (qA [0, 1])

theorem laws_sameInts (l : List Int) (hl : l.length ≤ 4611686018427387904) : CallA Tryz.prog 25 [.sc (.sl 0 0 l.length), .sc (.sl 1 0 l.length)] [some ⟨l.map intC, 1, 3, false, true⟩, some ⟨l.map intC, 1, 3, false, true⟩] (.sc (.bo true)) [some ⟨l.map intC, 1, 3, false, true⟩, some ⟨l.map intC, 1, 3, false, true⟩] := by
 refine qE Tryz.func25 Tryz.ntmps25 Tryz.results25 fun E hE => ?_
 refine den_lp 2 hE (fun s (k : Nat) => s.at [4, 6, 7, 8, 9, 10, 11, 12, 13, 14, 15, 16, 17, 18, 19, 20, 21, 22, 23, 24, 25] [(5, .sc (.int .i64 (k : Nat)))] (s.hp)) (fun (k : Nat) => k ≤ l.length) (fun (k : Nat) => l.length - k) 0 (qA [0, 1]) (qC) (Nat.zero_le _) (weak_mk (by rfl) (by rfl) ?_) fun k hk N hN => ?_
 ·exact qY
 ·refine qR ?_
  refine qB (fun h => ?_) fun h => ?_
  ·refine qD [0, 1, 2, 3, 4, 5, 6, 7, 8] ?_
   refine qG ?_
   exact qN hN (k + 1) (qA [0, 1]) (by (try dsimp only); exact h)
  ·exact qF (qA [0, 1])
theorem laws_samePieces (x : PiecesD) (hl : x.list.length ≤ 4611686018427387904) : CallA Tryz.prog 55 [.ag (x.cs 0), .ag (x.cs 1)] (x.hp false ++ x.hp false) (.sc (.bo true)) (x.hp false ++ x.hp false) := by
 refine qE Tryz.func55 Tryz.ntmps55 Tryz.results55 fun E hE => ?_
 refine qK (laws_samePieceList x.list hl) (qA [0, 1]) ?_
 exact qF (qA [0, 1])
theorem laws_sameEnd (e : EndD) (h0 : e.own.length ≤ 1048576) (h1 : e.far.length ≤ 1048576) (h2 : e.subs.length ≤ 1048576) (h3 : e.halfs.length ≤ 1048576) (h4 : e.inp.list.length ≤ 1048576) (h5 : e.done.length ≤ 1048576) (h6 : e.over.length ≤ 1048576) : CallA Tryz.prog 22 [.ag (e.cs 0), .ag (e.cs 7)] (e.hp false ++ e.hp false) (.sc (.bo true)) (e.hp false ++ e.hp false) := by
 refine qE Tryz.func22 Tryz.ntmps22 Tryz.results22 fun E hE => ?_

 refine qK (laws_sameAddrs e.own (by omega)) (qA [0, 7]) ?_
 refine qK (laws_sameAddrs e.far (by omega)) (qA [1, 8]) ?_
 refine qK (laws_sameSubs e.subs (by omega)) (qA [2, 9]) ?_
 refine qK (laws_sameHalfs e.halfs (by omega)) (qA [3, 10]) ?_
 refine qK (laws_samePieces e.inp (by omega)) (qA [4, 11]) ?_
 refine qK (laws_sameInts e.done (by omega)) (qA [5, 12]) ?_
 refine qK (laws_sameInts e.over (by omega)) (qA [6, 13]) ?_
 exact qF (qA [0, 1, 2, 3, 4, 5, 6, 7, 8, 9, 10, 11, 12, 13])
theorem laws_sameKnown (x : KnownD) (h0 : x.keys.length ≤ 1048576) (h1 : x.tags.length ≤ 1048576) : CallA Tryz.prog 24 [.ag (x.cs 0), .ag (x.cs 2)] (x.hp false ++ x.hp false) (.sc (.bo true)) (x.hp false ++ x.hp false) := by
 refine qE Tryz.func24 Tryz.ntmps24 Tryz.results24 fun E hE => ?_
 refine qK (laws_sameInts x.keys (by omega)) (qA [0, 2]) ?_
 refine qK (laws_sameTags x.tags (by omega)) (qA [1, 3]) ?_
 exact qF (qA [0, 1, 2, 3])
end
section
open Go.RowKit

end
section
open Go.RowKit

end
section
open Go.RowKit

theorem laws_big (b : List UInt8) (hl : b.length ≤ maxLen) : CallA Tryz.prog 4 [.sc (.sl 0 0 b.length)] [some ⟨b.map byteC, 1, 5, false, true⟩] (.sc (.bo (decide (1048576 < b.length)))) [some ⟨b.map byteC, 1, 5, false, true⟩] := by
 refine qE Tryz.func4 Tryz.ntmps4 Tryz.results4 fun E hE => ?_
 refine qJ (qA [0]) ?_
 simp
 omega
theorem sameE (e : EndD) (h : Small e) : CallA Tryz.prog 22 [.ag (e.cs 0), .ag (e.cs 7)] (e.hp false ++ e.hp false) (.sc (.bo true)) (e.hp false ++ e.hp false) := laws_sameEnd e h.own h.far h.subs h.halfs h.list h.done h.over
theorem laws_sameWorld (w : WorldD) (h : SmallW w) : CallA Tryz.prog 11 [.ag (w.cs 0), .ag (w.cs 21)] (w.hp false ++ w.hp false) (.sc (.bo true)) (w.hp false ++ w.hp false) := by
 have h1 := h.bag
 have h2 := h.past
 have h3 := h.keys
 have h4 := h.tags
 have h5 := h.nums
 have h6 := h.ansA
 have h7 := h.ansB
 refine qE Tryz.func11 Tryz.ntmps11 Tryz.results11 fun E hE => ?_
 refine qK (sameE w.a h.a) (qA [0, 1, 2, 3, 4, 5, 6, 21, 22, 23, 24, 25, 26, 27]) ?_
 refine qK (sameE w.b h.b) (qA [7, 8, 9, 10, 11, 12, 13, 28, 29, 30, 31, 32, 33, 34]) ?_
 refine qK (laws_sameLetters w.bag (by omega)) (qA [14, 35]) ?_
 refine qK (laws_sameLetters w.past (by omega)) (qA [15, 36]) ?_
 refine qK (laws_sameKnown w.known (by omega) (by omega)) (qA [16, 17, 37, 38]) ?_
 refine qK (laws_sameInts w.nums (by omega)) (qA [18, 39]) ?_
 refine qK (laws_sameInts w.answersA (by omega)) (qA [19, 40]) ?_
 refine qK (laws_sameInts w.answersB (by omega)) (qA [20, 41]) ?_
 exact qF (qA [0, 1, 2, 3, 4, 5, 6, 7, 8, 9, 10, 11, 12, 13, 14, 15, 16, 17, 18, 19, 20, 21, 22, 23, 24, 25, 26, 27, 28, 29, 30, 31, 32, 33, 34, 35, 36, 37, 38, 39, 40, 41])
end
section
open Go.RowKit

theorem livedW_codes : ∀ {l : List ActD} {w : WorldD} {cs ds : List Int}, (livedW l w cs).1 = (livedW l w ds).1
 | [], w, cs, ds => rfl
 | a :: l, w, cs, ds => livedW_codes (l := l)
theorem lived1_step {l : List ActD} {k : Nat} {w : WorldD} (h : k < l.length) : (livedW (l.drop k) w []).1 = (livedW (l.drop (k + 1)) (doneW w l[k]).1 []).1 := by
 rw [livedW_step h]; exact livedW_codes
structure FineL (w : WorldD) (k : Nat) : Prop where
 g : GoodW w k
 b : BagW w
 q : KindW w
theorem FineL.step {w : WorldD} {k : Nat} {a : ActD} (h : FineL w k) (ha : a.text.length ≤ 200) : FineL (doneW w a).1 (k + 1) := ⟨doneW_good h.g (by omega), doneW_bagW h.b, doneW_kindW h.q⟩
theorem Fine0.l {w : WorldD} (h : Fine0 w) : FineL w 0 := ⟨h.g, ⟨by rw [h.bag]; simp, by rw [h.past]; simp⟩, ⟨by rw [h.bag]; exact kinds_nil, by rw [h.past]; exact kinds_nil⟩⟩
theorem law_Lives (b : List UInt8) (hb : b.length ≤ maxLen) (_ : ∀ x ∈ b, True) : CallA Tryz.prog 3 [.sc (.sl 0 0 b.length)] [some ⟨b.map byteC, 1, 5, false, true⟩] (.sc (.bo true)) [some ⟨b.map byteC, 1, 5, false, true⟩] := by
 refine callA_of Tryz.func3 (by kernel_rfl) rfl fun E hE => run_den 400 ?_
 simp (disch := omega) only [Tryz.ntmps3, Tryz.results3, go_sem, Nat.reduceEqDiff, Nat.reduceAdd, Nat.reduceSub, Int.reduceAdd, Int.reduceSub, Int.reduceToNat]
 refine den_call (by (try simp (disch := omega) only [go_sem, List.length_set, Nat.reduceEqDiff, Nat.reduceAdd, Nat.reduceSub, Int.reduceAdd, Int.reduceSub, Int.reduceToNat]) <;> omega) (laws_big b hb) [some (0, none)] (by simp only [go_sem]; repeat' first | rfl | constructor | (rw [List.map_set]; rfl) | (simp [List.map_take, List.map_drop] <;> omega)) (by rfl) (run_den 400 ?_)
 simp (disch := omega) only [go_sem, Nat.reduceEqDiff, Nat.reduceAdd, Nat.reduceSub, Int.reduceAdd, Int.reduceSub, Int.reduceToNat]
 split <;> rename_i h <;> (try simp only [beq_true, beq_false, Bool.not_eq_true', Bool.not_eq_false'] at h) <;> simp (disch := omega) only [go_sem, Nat.reduceEqDiff, Nat.reduceAdd, Nat.reduceSub, Int.reduceAdd, Int.reduceSub, Int.reduceToNat, h] <;> (try simp only [decide_eq_true_eq, decide_eq_false_iff_not, beq_iff_eq, beq_eq_false_iff_ne, bne_iff_ne, bne_eq_false_iff_eq, ne_eq, Decidable.not_not, Bool.and_eq_true, Bool.and_eq_false_iff, Bool.or_eq_true, Bool.or_eq_false_iff, Int.ofNat_lt, Int.ofNat_le, Bool.not_eq_eq_eq_not, Bool.not_true, Bool.not_false] at h) <;> try simp (disch := omega) only [go_sem, Nat.reduceEqDiff, Nat.reduceAdd, Nat.reduceSub, Int.reduceAdd, Int.reduceSub, Int.reduceToNat]
 ·refine den_fin [some (0, none)] (by (try simp (disch := omega) only [go_sem, List.length_set, Nat.reduceEqDiff, Nat.reduceAdd, Nat.reduceSub, Int.reduceAdd, Int.reduceSub, Int.reduceToNat]) <;> omega) _ (by simp only [go_sem]; rfl) (by rfl) (by rfl) ?_
  simp (disch := omega) only [go_sem, Nat.reduceEqDiff, Nat.reduceAdd, Nat.reduceSub, Int.reduceAdd, Int.reduceSub, Int.reduceToNat]
 ·obtain ⟨p, l, hp, hl, ha, hD⟩ := spec_DrawLife b (by omega)
  obtain ⟨w0, h0, hW⟩ := impl_WorldNewD p hp
  have hL := impl_LivedD p w0 h0 hW l hl ha
  have hcl := (livedW_inv (Q := FineL) (fun w k a h ht => h.step ht) (l := l) (w := w0) (cs := []) (k := 0) h0.l ha).2
  obtain ⟨R, hR⟩ : ∃ R, R = livedW l w0 [] := ⟨_, rfl⟩
  rw [← hR] at hL hcl
  simp only [List.length_nil, Nat.zero_add] at hcl
  have hR1 : (livedW (l.drop 0) w0 []).1 = R.1 := by rw [List.drop_zero, hR]
  clear hR
  refine den_call (by (try simp (disch := omega) only [go_sem, List.length_set, Nat.reduceEqDiff, Nat.reduceAdd, Nat.reduceSub, Int.reduceAdd, Int.reduceSub, Int.reduceToNat]) <;> omega) (hD) [some (0, none)] (by simp only [go_sem]; repeat' first | rfl | constructor | (rw [List.map_set]; rfl) | (simp [List.map_take, List.map_drop] <;> omega)) (by rfl) (run_den 400 ?_)
  simp (disch := omega) only [go_sem, Nat.reduceEqDiff, Nat.reduceAdd, Nat.reduceSub, Int.reduceAdd, Int.reduceSub, Int.reduceToNat]
  refine den_call (by (try simp (disch := omega) only [go_sem, List.length_set, Nat.reduceEqDiff, Nat.reduceAdd, Nat.reduceSub, Int.reduceAdd, Int.reduceSub, Int.reduceToNat]) <;> omega) (hW) [] (by simp only [go_sem]; repeat' first | rfl | constructor | (rw [List.map_set]; rfl) | (simp [List.map_take, List.map_drop] <;> omega)) (by rfl) (run_den 400 ?_)
  simp (disch := omega) only [go_sem, Nat.reduceEqDiff, Nat.reduceAdd, Nat.reduceSub, Int.reduceAdd, Int.reduceSub, Int.reduceToNat]
  refine den_lpO 1 hE (fun s (y : Nat × WorldD) => s.at [0, 2, 6, 8, 9, 15, 16, 17, 18, 19, 20, 21, 22, 23, 24, 25, 26, 27, 28, 29, 30, 31, 32, 33, 34, 35, 36, 37, 38, 39, 40, 41, 42, 43, 44, 45, 46, 47, 48, 49, 50, 51, 52, 53, 54, 55, 56, 57, 58, 59, 60, 61, 62, 63, 64, 65, 66, 67, 68, 69, 70, 71, 72, 73, 74, 75, 76, 77, 78, 79, 80, 81, 82, 83, 84, 85, 86, 87, 88, 89, 90, 91, 92, 93, 94, 95, 96] [(7, .sc (.int .i64 (y.1 : Nat)))] ((s.hp.take 3) ++ (y.2.hp true ++ [some ⟨[WorldD.cs y.2 3], 61, 47, true, false⟩]))) (fun (y : Nat × WorldD) => y.1 ≤ l.length ∧ FineL y.2 y.1 ∧ (livedW (l.drop y.1) y.2 []).1 = R.1) (fun (y : Nat × WorldD) => l.length - y.1) (0, w0) [some (0, none), some (1, none), some (2, none), some (3, none), some (4, none), some (5, none), some (6, none), some (7, none), some (8, none), some (9, none), some (10, none), some (11, none), some (12, none), some (13, none), some (14, none), some (15, none), some (16, none), some (17, none), some (18, none), some (19, none), some (20, none), some (21, none), some (22, none), some (23, none), some (24, none)] (by (try simp (disch := omega) only [go_sem, List.length_set, Nat.reduceEqDiff, Nat.reduceAdd, Nat.reduceSub, Int.reduceAdd, Int.reduceSub, Int.reduceToNat]) <;> omega) (⟨Nat.zero_le _, h0.l, hR1⟩) (weak_mkO (by rfl) (by rfl) ?_) fun y hy N hN => ?_
  ·try simp (disch := omega) only [go_sem, Nat.reduceEqDiff, Nat.reduceAdd, Nat.reduceSub, Int.reduceAdd, Int.reduceSub, Int.reduceToNat]
  ·obtain ⟨k, w⟩ := y
   obtain ⟨f1, f2, f3⟩ := hy
   dsimp only at f1 f2 f3
   refine run_den 400 ?_
   try simp (disch := omega) only [go_sem, Nat.reduceEqDiff, Nat.reduceAdd, Nat.reduceSub, Int.reduceAdd, Int.reduceSub, Int.reduceToNat]
   split <;> rename_i h9 <;> (try simp only [beq_true, beq_false, Bool.not_eq_true', Bool.not_eq_false'] at h9) <;> simp (disch := omega) only [go_sem, Nat.reduceEqDiff, Nat.reduceAdd, Nat.reduceSub, Int.reduceAdd, Int.reduceSub, Int.reduceToNat, h9] <;> (try simp only [decide_eq_true_eq, decide_eq_false_iff_not, beq_iff_eq, beq_eq_false_iff_ne, bne_iff_ne, bne_eq_false_iff_eq, ne_eq, Decidable.not_not, Bool.and_eq_true, Bool.and_eq_false_iff, Bool.or_eq_true, Bool.or_eq_false_iff, Int.ofNat_lt, Int.ofNat_le, Bool.not_eq_eq_eq_not, Bool.not_true, Bool.not_false] at h9) <;> try simp (disch := omega) only [go_sem, Nat.reduceEqDiff, Nat.reduceAdd, Nat.reduceSub, Int.reduceAdd, Int.reduceSub, Int.reduceToNat]
   ·rw [lived1_step h9] at f3
    have hak := ha l[k] (List.getElem_mem h9)
    have hDn := impl_Done w l[k] (f2.g.d (by omega))
    have hG := f2.step (a := l[k]) hak.2.1
    have hc := done_code (w := w) hak.2.2
    have hlo := done_lose (w := w) hak.2.2
    have hco := done_copy (w := w) hak.2.2
    have hok := impl_ActOk l[k]
    rw [hak.2.2] at hok
    have hbg := f2.b.1
    have hbn := hG.b.1
    generalize hx : l[k] = x at *
    obtain ⟨Q, hQ⟩ : ∃ Q, Q = doneW w x := ⟨_, rfl⟩
    rw [← hQ] at hDn hG hc hlo hco hbn f3
    clear hQ hak
    obtain ⟨w2, n⟩ := Q
    dsimp only at hDn hG hc hlo hco hbn f3
    try simp (disch := omega) only [go_sem, Nat.reduceEqDiff, Nat.reduceAdd, Nat.reduceSub, Int.reduceAdd, Int.reduceSub, Int.reduceToNat, hx]
    refine den_drawX [(5, 9)] [] [[0, 1, 2, 3, 4, 5, 6, 7, 8, 9, 10, 11], [0, 1, 2, 3, 4, 9, 5, 6, 7, 8, 10, 11]] 1 hE (fun s => s.at [35, 36, 37, 38, 39, 40, 41, 42, 43] [(8, .sc (.pt 46 0 0)), (9, .sc (.int .i64 n))] (s.hp ++ (w2.hp true ++ [some ⟨[WorldD.cs w2 25], 61, 47, true, false⟩]))) (by kernel_rfl) (by (try simp (disch := omega) only [go_sem, List.length_set, Nat.reduceEqDiff, Nat.reduceAdd, Nat.reduceSub, Int.reduceAdd, Int.reduceSub, Int.reduceToNat, hx]) <;> omega) (by kernel_rfl) ?_ (run_den 400 ?_)
    rotate_left
    rotate_right
    simp only [allDn]
    refine ⟨runD_den 400 ?_, runD_den 400 ?_⟩
    ·try simp (disch := omega) only [go_sem, Nat.reduceEqDiff, Nat.reduceAdd, Nat.reduceSub, Int.reduceAdd, Int.reduceSub, Int.reduceToNat, hx]
     refine den_callD (by (try simp (disch := omega) only [go_sem, List.length_set, Nat.reduceEqDiff, Nat.reduceAdd, Nat.reduceSub, Int.reduceAdd, Int.reduceSub, Int.reduceToNat]) <;> omega) (hDn) [some (3, none), some (4, none), some (5, none), some (6, none), some (7, none), some (8, none), some (9, none), some (10, none), some (11, none), some (12, none), some (13, none), some (14, none), some (15, none), some (16, none), some (17, none), some (18, none), some (19, none), some (20, none), some (21, none), some (22, none), some (23, none)] (by simp only [go_sem]; repeat' first | rfl | constructor | (rw [List.map_set]; rfl) | (simp [List.map_take, List.map_drop] <;> omega)) (by rfl) (by rfl) (runD_den 400 ?_)
     simp (disch := omega) only [go_sem, Nat.reduceEqDiff, Nat.reduceAdd, Nat.reduceSub, Int.reduceAdd, Int.reduceSub, Int.reduceToNat]
     refine ⟨by (try simp (disch := omega) only [go_sem, List.length_set, Nat.reduceEqDiff, Nat.reduceAdd, Nat.reduceSub, Int.reduceAdd, Int.reduceSub, Int.reduceToNat]) <;> omega, [some (0, none), some (1, none), some (2, none), some (3, none), some (4, none), some (5, none), some (6, none), some (7, none), some (8, none), some (9, none), some (10, none), some (11, none), some (12, none), some (13, none), some (14, none), some (15, none), some (16, none), some (17, none), some (18, none), some (19, none), some (20, none), some (21, none), some (22, none), some (23, none), some (24, none), some (25, none), some (26, none), some (27, none), some (28, none), some (29, none), some (30, none), some (31, none), some (32, none), some (33, none), some (34, none), some (35, none), some (36, none), some (37, none), some (38, none), some (39, none), some (40, none), some (41, none), some (42, none), some (43, none), some (44, none), some (45, none), some (46, none)], weak_mkO (by rfl) (by rfl) ?_⟩
     try simp (disch := omega) only [go_sem, Nat.reduceEqDiff, Nat.reduceAdd, Nat.reduceSub, Int.reduceAdd, Int.reduceSub, Int.reduceToNat]
    ·try simp (disch := omega) only [go_sem, Nat.reduceEqDiff, Nat.reduceAdd, Nat.reduceSub, Int.reduceAdd, Int.reduceSub, Int.reduceToNat, hx]
     refine den_callD (by (try simp (disch := omega) only [go_sem, List.length_set, Nat.reduceEqDiff, Nat.reduceAdd, Nat.reduceSub, Int.reduceAdd, Int.reduceSub, Int.reduceToNat]) <;> omega) (hDn) [some (3, none), some (4, none), some (5, none), some (6, none), some (7, none), some (8, none), some (9, none), some (10, none), some (11, none), some (12, none), some (13, none), some (14, none), some (15, none), some (16, none), some (17, none), some (18, none), some (19, none), some (20, none), some (21, none), some (22, none), some (23, none)] (by simp only [go_sem]; repeat' first | rfl | constructor | (rw [List.map_set]; rfl) | (simp [List.map_take, List.map_drop] <;> omega)) (by rfl) (by rfl) (runD_den 400 ?_)
     simp (disch := omega) only [go_sem, Nat.reduceEqDiff, Nat.reduceAdd, Nat.reduceSub, Int.reduceAdd, Int.reduceSub, Int.reduceToNat]
     refine ⟨by (try simp (disch := omega) only [go_sem, List.length_set, Nat.reduceEqDiff, Nat.reduceAdd, Nat.reduceSub, Int.reduceAdd, Int.reduceSub, Int.reduceToNat]) <;> omega, [some (0, none), some (1, none), some (2, none), some (3, none), some (4, none), some (5, none), some (6, none), some (7, none), some (8, none), some (9, none), some (10, none), some (11, none), some (12, none), some (13, none), some (14, none), some (15, none), some (16, none), some (17, none), some (18, none), some (19, none), some (20, none), some (21, none), some (22, none), some (23, none), some (24, none), some (26, none), some (27, none), some (28, none), some (29, none), some (30, none), some (31, none), some (32, none), some (33, none), some (34, none), some (35, none), some (36, none), some (37, none), some (38, none), some (39, none), some (40, none), some (41, none), some (42, none), some (43, none), some (44, none), some (45, none), some (46, none), some (25, none)], weak_mkO (by rfl) (by rfl) ?_⟩
     try simp (disch := omega) only [go_sem, Nat.reduceEqDiff, Nat.reduceAdd, Nat.reduceSub, Int.reduceAdd, Int.reduceSub, Int.reduceToNat]
    try simp (disch := omega) only [go_sem, Nat.reduceEqDiff, Nat.reduceAdd, Nat.reduceSub, Int.reduceAdd, Int.reduceSub, Int.reduceToNat, hx]
    refine den_call (by (try simp (disch := omega) only [go_sem, List.length_set, Nat.reduceEqDiff, Nat.reduceAdd, Nat.reduceSub, Int.reduceAdd, Int.reduceSub, Int.reduceToNat]) <;> omega) (hok) [] (by simp only [go_sem]; repeat' first | rfl | constructor | (rw [List.map_set]; rfl) | (simp [List.map_take, List.map_drop] <;> omega)) (by rfl) (run_den 400 ?_)
    simp (disch := omega) only [go_sem, Nat.reduceEqDiff, Nat.reduceAdd, Nat.reduceSub, Int.reduceAdd, Int.reduceSub, Int.reduceToNat]
    rcases hc with rfl | rfl | rfl
    ·by_cases k9 : x.kind = 9
     ·have e := hlo k9 rfl
      try simp (disch := omega) only [go_sem, Nat.reduceEqDiff, Nat.reduceAdd, Nat.reduceSub, Int.reduceAdd, Int.reduceSub, Int.reduceToNat, hx]
      refine ⟨by (try simp (disch := omega) only [go_sem, List.length_set, Nat.reduceEqDiff, Nat.reduceAdd, Nat.reduceSub, Int.reduceAdd, Int.reduceSub, Int.reduceToNat]) <;> omega, hN _ (k + 1, w2) [some (0, none), some (1, none), some (2, none), some (25, none), some (26, none), some (27, none), some (28, none), some (29, none), some (30, none), some (31, none), some (32, none), some (33, none), some (34, none), some (35, none), some (36, none), some (37, none), some (38, none), some (39, none), some (40, none), some (41, none), some (42, none), some (43, none), some (44, none), some (45, none), some (24, none)] (by (try dsimp only); exact ⟨by omega, hG, f3⟩) (by (try dsimp only); omega) (weak_mkO (by rfl) (by rfl) ?_)⟩
      try simp (disch := omega) only [go_sem, Nat.reduceEqDiff, Nat.reduceAdd, Nat.reduceSub, Int.reduceAdd, Int.reduceSub, Int.reduceToNat]
     ·by_cases k10 : x.kind = 10
      ·have e := hco k10 rfl
       try simp (disch := omega) only [go_sem, Nat.reduceEqDiff, Nat.reduceAdd, Nat.reduceSub, Int.reduceAdd, Int.reduceSub, Int.reduceToNat, hx]
       refine ⟨by (try simp (disch := omega) only [go_sem, List.length_set, Nat.reduceEqDiff, Nat.reduceAdd, Nat.reduceSub, Int.reduceAdd, Int.reduceSub, Int.reduceToNat]) <;> omega, hN _ (k + 1, w2) [some (0, none), some (1, none), some (2, none), some (25, none), some (26, none), some (27, none), some (28, none), some (29, none), some (30, none), some (31, none), some (32, none), some (33, none), some (34, none), some (35, none), some (36, none), some (37, none), some (38, none), some (39, none), some (40, none), some (41, none), some (42, none), some (43, none), some (44, none), some (45, none), some (24, none)] (by (try dsimp only); exact ⟨by omega, hG, f3⟩) (by (try dsimp only); omega) (weak_mkO (by rfl) (by rfl) ?_)⟩
       try simp (disch := omega) only [go_sem, Nat.reduceEqDiff, Nat.reduceAdd, Nat.reduceSub, Int.reduceAdd, Int.reduceSub, Int.reduceToNat]
      ·try simp (disch := omega) only [go_sem, Nat.reduceEqDiff, Nat.reduceAdd, Nat.reduceSub, Int.reduceAdd, Int.reduceSub, Int.reduceToNat, hx]
       refine ⟨by (try simp (disch := omega) only [go_sem, List.length_set, Nat.reduceEqDiff, Nat.reduceAdd, Nat.reduceSub, Int.reduceAdd, Int.reduceSub, Int.reduceToNat]) <;> omega, hN _ (k + 1, w2) [some (0, none), some (1, none), some (2, none), some (25, none), some (26, none), some (27, none), some (28, none), some (29, none), some (30, none), some (31, none), some (32, none), some (33, none), some (34, none), some (35, none), some (36, none), some (37, none), some (38, none), some (39, none), some (40, none), some (41, none), some (42, none), some (43, none), some (44, none), some (45, none), some (24, none)] (by (try dsimp only); exact ⟨by omega, hG, f3⟩) (by (try dsimp only); omega) (weak_mkO (by rfl) (by rfl) ?_)⟩
       try simp (disch := omega) only [go_sem, Nat.reduceEqDiff, Nat.reduceAdd, Nat.reduceSub, Int.reduceAdd, Int.reduceSub, Int.reduceToNat]
    ·try simp (disch := omega) only [go_sem, Nat.reduceEqDiff, Nat.reduceAdd, Nat.reduceSub, Int.reduceAdd, Int.reduceSub, Int.reduceToNat, hx]
     refine ⟨by (try simp (disch := omega) only [go_sem, List.length_set, Nat.reduceEqDiff, Nat.reduceAdd, Nat.reduceSub, Int.reduceAdd, Int.reduceSub, Int.reduceToNat]) <;> omega, hN _ (k + 1, w2) [some (0, none), some (1, none), some (2, none), some (25, none), some (26, none), some (27, none), some (28, none), some (29, none), some (30, none), some (31, none), some (32, none), some (33, none), some (34, none), some (35, none), some (36, none), some (37, none), some (38, none), some (39, none), some (40, none), some (41, none), some (42, none), some (43, none), some (44, none), some (45, none), some (24, none)] (by (try dsimp only); exact ⟨by omega, hG, f3⟩) (by (try dsimp only); omega) (weak_mkO (by rfl) (by rfl) ?_)⟩
     try simp (disch := omega) only [go_sem, Nat.reduceEqDiff, Nat.reduceAdd, Nat.reduceSub, Int.reduceAdd, Int.reduceSub, Int.reduceToNat]
    ·try simp (disch := omega) only [go_sem, Nat.reduceEqDiff, Nat.reduceAdd, Nat.reduceSub, Int.reduceAdd, Int.reduceSub, Int.reduceToNat, hx]
     refine ⟨by (try simp (disch := omega) only [go_sem, List.length_set, Nat.reduceEqDiff, Nat.reduceAdd, Nat.reduceSub, Int.reduceAdd, Int.reduceSub, Int.reduceToNat]) <;> omega, hN _ (k + 1, w2) [some (0, none), some (1, none), some (2, none), some (25, none), some (26, none), some (27, none), some (28, none), some (29, none), some (30, none), some (31, none), some (32, none), some (33, none), some (34, none), some (35, none), some (36, none), some (37, none), some (38, none), some (39, none), some (40, none), some (41, none), some (42, none), some (43, none), some (44, none), some (45, none), some (24, none)] (by (try dsimp only); exact ⟨by omega, hG, f3⟩) (by (try dsimp only); omega) (weak_mkO (by rfl) (by rfl) ?_)⟩
     try simp (disch := omega) only [go_sem, Nat.reduceEqDiff, Nat.reduceAdd, Nat.reduceSub, Int.reduceAdd, Int.reduceSub, Int.reduceToNat]
   ·rw [List.drop_eq_nil_of_le (by omega), livedW] at f3
    dsimp only at f3
    obtain ⟨R1, R2⟩ := R
    dsimp only at f3 hL hcl
    subst f3
    have hWt := impl_Waiting w (by have := f2.b.1; omega)
    have hS := laws_sameWorld w f2.g.s
    obtain ⟨s1, s2⟩ := waiting_law f2.q.bag f2.b.1
    have s3 := waiting_len w.bag
    have hbg := f2.b.1
    generalize waiting w.bag = m at *
    try simp (disch := omega) only [go_sem, Nat.reduceEqDiff, Nat.reduceAdd, Nat.reduceSub, Int.reduceAdd, Int.reduceSub, Int.reduceToNat]
    refine den_call (by (try simp (disch := omega) only [go_sem, List.length_set, Nat.reduceEqDiff, Nat.reduceAdd, Nat.reduceSub, Int.reduceAdd, Int.reduceSub, Int.reduceToNat]) <;> omega) (hL) [some (1, none)] (by simp only [go_sem]; repeat' first | rfl | constructor | (rw [List.map_set]; rfl) | (simp [List.map_take, List.map_drop] <;> omega)) (by rfl) (run_den 400 ?_)
    simp (disch := omega) only [go_sem, Nat.reduceEqDiff, Nat.reduceAdd, Nat.reduceSub, Int.reduceAdd, Int.reduceSub, Int.reduceToNat]
    refine den_call (by (try simp (disch := omega) only [go_sem, List.length_set, Nat.reduceEqDiff, Nat.reduceAdd, Nat.reduceSub, Int.reduceAdd, Int.reduceSub, Int.reduceToNat]) <;> omega) (hWt) [some (3, none), some (4, none), some (5, none), some (6, none), some (7, none), some (8, none), some (9, none), some (10, none), some (11, none), some (12, none), some (13, none), some (14, none), some (15, none), some (16, none), some (17, none), some (18, none), some (19, none), some (20, none), some (21, none), some (22, none), some (23, none)] (by simp only [go_sem]; repeat' first | rfl | constructor | (rw [List.map_set]; rfl) | (simp [List.map_take, List.map_drop] <;> omega)) (by rfl) (run_den 400 ?_)
    simp (disch := omega) only [go_sem, Nat.reduceEqDiff, Nat.reduceAdd, Nat.reduceSub, Int.reduceAdd, Int.reduceSub, Int.reduceToNat]
    refine den_lpO 1 hE (fun s (j : Nat) => s.at [0, 3, 6, 7, 8, 9, 15, 16, 17, 18, 19, 20, 21, 22, 23, 24, 25, 26, 27, 28, 29, 30, 31, 32, 33, 34, 35, 36, 37, 38, 39, 40, 41, 42, 43, 44, 45, 46, 47, 48, 49, 50, 51, 52, 53, 54, 55, 56, 57, 58, 59, 60, 61, 62, 63, 64, 65, 66, 67, 68, 69, 70, 71, 72, 73, 74, 75, 76, 77, 78, 79, 80, 81, 82, 83, 84, 85, 86, 87, 88, 89, 90, 91, 92, 93, 94, 95, 96, 97, 98, 99, 100, 101, 102, 103, 104, 105, 106, 107, 108, 109, 110, 111, 112, 113, 114, 115, 116] [(13, .sc (.int .i64 (sumI (m.take j)))), (14, .sc (.int .i64 (j : Nat)))] (s.hp)) (fun (j : Nat) => j ≤ m.length) (fun (j : Nat) => m.length - j) 0 [some (0, none), some (1, none), some (2, none), some (3, none), some (4, none), some (5, none), some (6, none), some (7, none), some (8, none), some (9, none), some (10, none), some (11, none), some (12, none), some (13, none), some (14, none), some (15, none), some (16, none), some (17, none), some (18, none), some (19, none), some (20, none), some (21, none), some (22, none), some (23, none), some (24, none), some (25, none), some (26, none), some (27, none), some (28, none), some (29, none), some (30, none), some (31, none), some (32, none), some (33, none), some (34, none), some (35, none), some (36, none), some (37, none), some (38, none), some (39, none), some (40, none), some (41, none), some (42, none), some (43, none), some (44, none), some (45, none), some (46, none), some (47, none), some (48, none)] (by (try simp (disch := omega) only [go_sem, List.length_set, Nat.reduceEqDiff, Nat.reduceAdd, Nat.reduceSub, Int.reduceAdd, Int.reduceSub, Int.reduceToNat]) <;> omega) (Nat.zero_le _) (weak_mkO (by rfl) (by rfl) ?_) fun j hj N2 hN2 => ?_
    ·try simp (disch := omega) only [go_sem, Nat.reduceEqDiff, Nat.reduceAdd, Nat.reduceSub, Int.reduceAdd, Int.reduceSub, Int.reduceToNat]
     try simp [sumI]
    ·have hj := hj
     refine run_den 400 ?_
     try simp (disch := omega) only [go_sem, Nat.reduceEqDiff, Nat.reduceAdd, Nat.reduceSub, Int.reduceAdd, Int.reduceSub, Int.reduceToNat]
     split <;> rename_i h8 <;> (try simp only [beq_true, beq_false, Bool.not_eq_true', Bool.not_eq_false'] at h8) <;> simp (disch := omega) only [go_sem, Nat.reduceEqDiff, Nat.reduceAdd, Nat.reduceSub, Int.reduceAdd, Int.reduceSub, Int.reduceToNat, h8] <;> (try simp only [decide_eq_true_eq, decide_eq_false_iff_not, beq_iff_eq, beq_eq_false_iff_ne, bne_iff_ne, bne_eq_false_iff_eq, ne_eq, Decidable.not_not, Bool.and_eq_true, Bool.and_eq_false_iff, Bool.or_eq_true, Bool.or_eq_false_iff, Int.ofNat_lt, Int.ofNat_le, Bool.not_eq_eq_eq_not, Bool.not_true, Bool.not_false] at h8) <;> try simp (disch := omega) only [go_sem, Nat.reduceEqDiff, Nat.reduceAdd, Nat.reduceSub, Int.reduceAdd, Int.reduceSub, Int.reduceToNat]
     ·have e1 := sumI_take h8
      have e2 := s2 m[j] (List.getElem_mem h8)
      have e3 := sumI_bd (B := 40) (l := m.take j) fun v hv => s2 v (List.mem_of_mem_take hv)
      have e4 : (m.take j).length ≤ 13 := by rw [List.length_take]; omega
      have e5 : (40 : Int) * (m.take j).length ≤ 520 := by omega
      generalize hv : m[j] = v at *
      try simp (disch := omega) only [go_sem, Nat.reduceEqDiff, Nat.reduceAdd, Nat.reduceSub, Int.reduceAdd, Int.reduceSub, Int.reduceToNat, hv, map_get h8]
      refine ⟨by (try simp (disch := omega) only [go_sem, List.length_set, Nat.reduceEqDiff, Nat.reduceAdd, Nat.reduceSub, Int.reduceAdd, Int.reduceSub, Int.reduceToNat, hv]) <;> omega, hN2 _ (j + 1) [some (0, none), some (1, none), some (2, none), some (3, none), some (4, none), some (5, none), some (6, none), some (7, none), some (8, none), some (9, none), some (10, none), some (11, none), some (12, none), some (13, none), some (14, none), some (15, none), some (16, none), some (17, none), some (18, none), some (19, none), some (20, none), some (21, none), some (22, none), some (23, none), some (24, none), some (25, none), some (26, none), some (27, none), some (28, none), some (29, none), some (30, none), some (31, none), some (32, none), some (33, none), some (34, none), some (35, none), some (36, none), some (37, none), some (38, none), some (39, none), some (40, none), some (41, none), some (42, none), some (43, none), some (44, none), some (45, none), some (46, none), some (47, none), some (48, none)] (by (try dsimp only); exact h8) (by (try dsimp only); omega) (weak_mkO (by rfl) (by rfl) ?_)⟩
      try simp (disch := omega) only [go_sem, Nat.reduceEqDiff, Nat.reduceAdd, Nat.reduceSub, Int.reduceAdd, Int.reduceSub, Int.reduceToNat, hv]
      try omega
     ·rw [List.take_of_length_le (by omega)]
      try simp (disch := omega) only [go_sem, Nat.reduceEqDiff, Nat.reduceAdd, Nat.reduceSub, Int.reduceAdd, Int.reduceSub, Int.reduceToNat, s1]
      refine den_call (by (try simp (disch := omega) only [go_sem, List.length_set, Nat.reduceEqDiff, Nat.reduceAdd, Nat.reduceSub, Int.reduceAdd, Int.reduceSub, Int.reduceToNat]) <;> omega) (hS) [some (3, none), some (4, none), some (5, none), some (6, none), some (7, none), some (8, none), some (9, none), some (10, none), some (11, none), some (12, none), some (13, none), some (14, none), some (15, none), some (16, none), some (17, none), some (18, none), some (19, none), some (20, none), some (21, none), some (22, none), some (23, none), some (25, none), some (26, none), some (27, none), some (28, none), some (29, none), some (30, none), some (31, none), some (32, none), some (33, none), some (34, none), some (35, none), some (36, none), some (37, none), some (38, none), some (39, none), some (40, none), some (41, none), some (42, none), some (43, none), some (44, none), some (45, none)] (by simp only [go_sem]; repeat' first | rfl | constructor | (rw [List.map_set]; rfl) | (simp [List.map_take, List.map_drop] <;> omega)) (by rfl) (run_den 400 ?_)
      simp (disch := omega) only [go_sem, Nat.reduceEqDiff, Nat.reduceAdd, Nat.reduceSub, Int.reduceAdd, Int.reduceSub, Int.reduceToNat]
      refine den_fin [some (0, none)] (by (try simp (disch := omega) only [go_sem, List.length_set, Nat.reduceEqDiff, Nat.reduceAdd, Nat.reduceSub, Int.reduceAdd, Int.reduceSub, Int.reduceToNat]) <;> omega) _ (by simp only [go_sem]; rfl) (by rfl) (by rfl) ?_
      simp (disch := omega) only [go_sem, Nat.reduceEqDiff, Nat.reduceAdd, Nat.reduceSub, Int.reduceAdd, Int.reduceSub, Int.reduceToNat]
end
section
open Go.RowKit

def roHp : Hp → Bool
 | [] => true
 | some ob :: h => !ob.own && roHp h
 | none :: h => roHp h
theorem roHp_get : ∀ {h : Hp} {o : Nat} {ob : AObj}, roHp h = true → h[o]? = some (some ob) → ob.own = false
 | some x :: h, 0, ob, hr, ho => by
  simp only [roHp, Bool.and_eq_true, Bool.not_eq_true'] at hr
  simp at ho
  subst ho
  exact hr.1
 | some x :: h, o + 1, ob, hr, ho => by
  simp only [roHp, Bool.and_eq_true] at hr
  exact roHp_get hr.2 (by simpa using ho)
 | none :: h, 0, ob, hr, ho => by simp at ho
 | none :: h, o + 1, ob, hr, ho => roHp_get (h := h) hr (by simpa using ho)
 | [], o, ob, _, ho => by simp at ho
theorem roL_ro {β : Be} {w : World} : ∀ {l : Be} {h : Hp}, RoL β w l h → roHp h = true
 | [], [], _ => rfl
 | p :: l, some ob :: h, hr => by
  have := roL_ro hr.2
  simp [roHp, hr.1.1, this]
 | [], _ :: _, h => h.elim
 | _ :: _, [], h => h.elim
 | _ :: _, none :: _, h => h.elim
theorem callA_ro {P : Program} {f : FuncId} {args : List AV} {b : Bool} {h h' : Hp} (ct : CallA P f args h (.sc (.bo b)) h') {β : Be} {w : World} (hr : RoL β w β h) {vs : List Value} (hvs : L2 (AVR β) args vs) :
  Calls P f vs.toArray w fun e w' => e = .returned (.bool b) ∧ Below w.heap.size w w' :=
 (ct.2 β w vs (hsim_roL hr) hvs).mono fun e w' ⟨β', v, he, hv, hh, hst⟩ => by
  have hv' : v = .bool b := hv
  subst hv'
  exact ⟨he, ⟨hst.os, hst.tape, hst.output, hst.size, fun k hk => hst.block k hk fun ⟨o, ob, p, ho, hown, hp, _⟩ => by
   rw [roHp_get (roL_ro hr) ho] at hown
   cases hown⟩⟩
end
section
open Go

def rkOf (R : Nat) (g : Nat) : Nat := (R >>> (10 * g)) % 1024
def okH (P : Program) (R lo hi : Nat) (g : Nat) : Bool :=
 match P.funcs[g]? with
 | none => true
 | some fn => ((P.leadsTo fn).all fun h => Nat.blt (rkOf R h) (rkOf R g) && (Nat.ble lo h && Nat.blt h hi)) && (!(fn.ours || fn.body.isNone || fn.name == "runtime.NumGoroutine") && (match fn.body with | some c => !c.unfollowed && c.globalsNamed.isEmpty | none => false))
def okG (P : Program) (R lo hi : Nat) (g : Nat) : Bool := Nat.ble 1000 (rkOf R g) || okH P R lo hi g
theorem okG_okH {P : Program} {R lo hi g : Nat} (h : okG P R lo hi g = true) (hr : rkOf R g < 1000) : okH P R lo hi g = true := by
 unfold okG at h
 rw [Bool.or_eq_true, Nat.ble_eq] at h
 exact h.resolve_left (by omega)
theorem closureVia_sub {P : Program} {S : FuncId → Prop} (hS : ∀ g, S g → ∀ h ∈ (P.funcs[g]?).elim [] P.leadsTo, S h) : ∀ (n : Nat) (todo seen : List FuncId), (∀ x ∈ todo, S x) → (∀ x ∈ seen, S x) → ∀ x ∈ P.closureVia n todo seen, S x
 | 0, todo, seen, _, hs, x, hx => by
  unfold Program.closureVia at hx
  exact hs x (List.mem_reverse.1 hx)
 | n + 1, [], seen, _, hs, x, hx => by
  unfold Program.closureVia at hx
  exact hs x (List.mem_reverse.1 hx)
 | n + 1, f :: todo, seen, ht, hs, x, hx => by
  unfold Program.closureVia at hx
  split at hx
  ·exact closureVia_sub hS n todo seen (fun y hy => ht y (List.mem_cons_of_mem _ hy)) hs x hx
  ·refine closureVia_sub hS n _ (f :: seen) (fun y hy => ?_) (fun y hy => ?_) x hx
   ·rcases List.mem_append.1 hy with hy | hy
    ·exact hS f (ht f (List.mem_cons_self ..)) y hy
    ·exact ht y (List.mem_cons_of_mem _ hy)
   ·rcases List.mem_cons.1 hy with rfl | hy
    ·exact ht y (List.mem_cons_self ..)
    ·exact hs y hy
theorem closure_sub {P : Program} {S : FuncId → Prop} (hS : ∀ g, S g → ∀ h ∈ (P.funcs[g]?).elim [] P.leadsTo, S h) {f : FuncId} (hf : S f) : ∀ x ∈ P.closure f, S x :=
 closureVia_sub hS _ [f] [] (fun x hx => by rw [List.mem_singleton.1 hx]; exact hf) (fun x hx => by cases hx)
theorem rk_lt {P : Program} {R lo hi : Nat} (h : ∀ g, lo ≤ g ∧ g < hi → okG P R lo hi g = true) {g k : FuncId} (hb : lo ≤ g ∧ g < hi) (hr : rkOf R g < 1000) (hk : k ∈ (P.funcs[g]?).elim [] P.leadsTo) : rkOf R k < rkOf R g ∧ lo ≤ k ∧ k < hi := by
 have hg := okG_okH (h g hb) hr
 unfold okH at hg
 cases hf : P.funcs[g]? with
 | none => rw [hf] at hk; simp at hk
 | some fn =>
  rw [hf] at hg hk
  simp only [Bool.and_eq_true, List.all_eq_true, Nat.blt_eq, Nat.ble_eq] at hg
  exact hg.1 k hk
theorem graph_facts {P : Program} {R lo hi : Nat} (h : ∀ g, lo ≤ g ∧ g < hi → okG P R lo hi g = true) (f : FuncId) (hf0 : (lo ≤ f ∧ f < hi) ∧ rkOf R f < 1000) : P.inPlace f = [] ∧ P.unfollowed f = false ∧ P.recurses f = false ∧ P.varsNamed f = [] := by
 have hin : ∀ k, (lo ≤ k ∧ k < hi) ∧ rkOf R k < 1000 → ∀ x ∈ P.closure k, (lo ≤ x ∧ x < hi) ∧ rkOf R x < 1000 := fun k hk => closure_sub (S := fun x => (lo ≤ x ∧ x < hi) ∧ rkOf R x < 1000) (fun a ha b hb => ⟨(rk_lt h ha.1 ha.2 hb).2, Nat.lt_trans (rk_lt h ha.1 ha.2 hb).1 ha.2⟩) hk
 have hu : P.unfollowed f = false := by
  unfold Program.unfollowed
  rw [List.any_eq_false]
  intro g hgc
  have hg := okG_okH (h g (hin f hf0 g hgc).1) (hin f hf0 g hgc).2
  unfold okH at hg
  cases hf : P.funcs[g]? with
  | none => simp
  | some fn =>
   rw [hf] at hg
   simp only [Bool.and_eq_true] at hg
   simp only [Option.any_some]
   cases hb : fn.body with
   | none => rw [hb] at hg; simp at hg
   | some c => rw [hb] at hg; simp at hg ⊢; exact hg.2.2.1
 refine ⟨?_, hu, ?_, ?_⟩
 ·unfold Program.inPlace
  rw [List.filterMap_eq_nil_iff]
  intro g hgc
  have hg := okG_okH (h g (hin f hf0 g hgc).1) (hin f hf0 g hgc).2
  unfold okH at hg
  cases hf : P.funcs[g]? with
  | none => rfl
  | some fn =>
   rw [hf] at hg
   simp only [Bool.and_eq_true, Bool.not_eq_true'] at hg
   simp only [Option.bind_some]
   rw [hg.2.1]
   rfl
 ·unfold Program.recurses
  rw [hu, Bool.false_or, List.any_eq_false]
  intro g hgc
  rw [Bool.not_eq_true, List.any_eq_false]
  intro k hk
  rw [Bool.not_eq_true]
  obtain ⟨h1, hkb⟩ := rk_lt h (hin f hf0 g hgc).1 (hin f hf0 g hgc).2 hk
  have hkr : rkOf R k < 1000 := Nat.lt_trans h1 (hin f hf0 g hgc).2
  have h2 : ∀ x ∈ P.closure k, rkOf R x ≤ rkOf R k ∧ lo ≤ x ∧ x < hi := closure_sub (S := fun x => rkOf R x ≤ rkOf R k ∧ lo ≤ x ∧ x < hi) (fun a ha b hb => ⟨Nat.le_trans (Nat.le_of_lt (rk_lt h ha.2 (by omega) hb).1) ha.1, (rk_lt h ha.2 (by omega) hb).2⟩) ⟨Nat.le_refl _, hkb⟩
  cases hc : (P.closure k).contains g with
  | false => rfl
  | true =>
   have := (h2 g (List.contains_iff_mem.1 hc)).1
   omega
 ·unfold Program.varsNamed
  have e1 : ((P.closure f).flatMap fun g => ((P.funcs[g]?).bind (·.body)).elim [] Code.globalsNamed) = [] := by
   rw [List.flatMap_eq_nil_iff]
   intro g hgc
   have hg := okG_okH (h g (hin f hf0 g hgc).1) (hin f hf0 g hgc).2
   unfold okH at hg
   cases hf : P.funcs[g]? with
   | none => rfl
   | some fn =>
    rw [hf] at hg
    simp only [Bool.and_eq_true] at hg
    simp only [Option.bind_some]
    cases hb : fn.body with
    | none => rfl
    | some c => rw [hb] at hg; simp at hg ⊢; exact hg.2.2.2
  have e2 : ((P.closure f).filterMap fun g => (P.funcs[g]?).bind fun fn => if fn.body.isNone then entryReads.lookup fn.name else none) = [] := by
   rw [List.filterMap_eq_nil_iff]
   intro g hgc
   have hg := okG_okH (h g (hin f hf0 g hgc).1) (hin f hf0 g hgc).2
   unfold okH at hg
   cases hf : P.funcs[g]? with
   | none => rfl
   | some fn =>
    rw [hf] at hg
    simp only [Bool.and_eq_true] at hg
    simp only [Option.bind_some]
    cases hb : fn.body with
    | none => rw [hb] at hg; simp at hg
    | some c => rfl
  rw [e1, e2]
  rfl
def chs (l : List Nat) : List Char := l.map Char.ofNat
theorem chs_app (a b : List Nat) : chs (a ++ b) = chs a ++ chs b := by simp [chs]
theorem chs_cons (a : Nat) (b : List Nat) : chs (a :: b) = Char.ofNat a :: chs b := rfl
theorem wordsSigns_cons {c : Char} (h : c ≠ Char.ofNat 32) (r : List Char) : wordsSigns (c :: r) = match wordsSigns r with
  | w :: ws => (c :: w) :: ws
  | [] => [[c]] := by
 conv => lhs; unfold wordsSigns
 split
 ·rename_i e
  simp at e
 ·rename_i r' e
  obtain ⟨e1, _⟩ := List.cons.inj e
  exact absurd e1 h
 ·rename_i c' r' _ e
  obtain ⟨e1, e2⟩ := List.cons.inj e
  subst e1; subst e2
  rfl
theorem wordsSigns_word : ∀ {w : List Char} (r : List Char), (∀ c ∈ w, c ≠ Char.ofNat 32) → wordsSigns (w ++ Char.ofNat 32 :: r) = w :: wordsSigns r
 | [], r, _ => by
  show wordsSigns (Char.ofNat 32 :: r) = [] :: wordsSigns r
  conv => lhs; unfold wordsSigns
  rfl
 | c :: w, r, h => by
  rw [List.cons_append, wordsSigns_cons (h c (List.mem_cons_self ..)), wordsSigns_word r (fun x hx => h x (List.mem_cons_of_mem _ hx))]
def noBlank (l : List Nat) : Bool := (chs l).all fun c => c != Char.ofNat 32
theorem noBlank_mem {l : List Nat} (h : noBlank l = true) : ∀ c ∈ chs l, c ≠ Char.ofNat 32 := by
 intro c hc
 have := List.all_eq_true.1 h c hc
 simpa using this
theorem head_words {P : Program} {a b c r : List Nat} (h : P.initOrder = String.ofList (chs (a ++ 32 :: (b ++ 32 :: (c ++ 32 :: r))))) (ha : noBlank a = true) (hb : noBlank b = true) (hc : noBlank c = true)
  (hm : ((chs a == "harness".toList || chs a == "ownmain".toList) && isSumSigns (chs b)) = true) : ∃ rest, behindMainWord (wordsSigns P.initOrder.toList) = chs c :: rest := by
 refine ⟨wordsSigns (chs r), ?_⟩
 rw [h, String.toList_ofList, chs_app, chs_cons, chs_app, chs_cons, chs_app, chs_cons, wordsSigns_word _ (noBlank_mem ha), wordsSigns_word _ (noBlank_mem hb), wordsSigns_word _ (noBlank_mem hc)]
 exact if_pos hm
def cutN : List Nat := [99, 117, 116]
theorem make_cut {P : Program} {rest : List (List Char)} (h : behindMainWord (wordsSigns P.initOrder.toList) = chs cutN :: rest) : P.make = some .cut := by
 unfold Program.make
 rw [h]
 rfl
theorem final_cut {P : Program} {rest : List (List Char)} (h : behindMainWord (wordsSigns P.initOrder.toList) = chs cutN :: rest) : P.liftsFinal = false := by
 unfold Program.liftsFinal Program.headLifts
 rw [h]
 rfl
theorem may_cut {P : Program} {rest : List (List Char)} (h : behindMainWord (wordsSigns P.initOrder.toList) = chs cutN :: rest) (l1 : P.laysLater = false) (l2 : P.bearsReflect = false) (l3 : P.doorRows = []) : P.mayEnter = true := by
 have l4 : P.doorFits [] = true := by
  unfold Program.doorFits
  rw [l3]
  rfl
 unfold Program.mayEnter
 rw [h]
 show ((_ || _) || _) = true
 have e : stripLifts liftWords (chs cutN :: rest) = ([], chs cutN :: rest) := rfl
 rw [e, l1, l2, l4]
 simp only [List.contains_nil, Bool.and_true, Bool.not_false, Bool.or_true, List.head?_cons]
 rw [show (some (chs cutN) == some "cut".toList) = true from by kernel_rfl]
 simp
def restFacts (P : Program) (f : FuncId) (fn : Func) (s : ChangeSpec) (c : OpenClaim) : Bool :=
 c.wf (OpenSpec.ofChange s) && laidOutB P && mapsRowed P &&
 fn.params.all (P.readableRec ·) && namedTie P c.named s.vars &&
 (c.stops == []) && (P.stops == []) && (c.knobs == []) && (P.stopKnobs == []) &&
 (c.maps == (fn.params.toList ++ s.plain.varTypes P).any (P.mapsRec ·)) && (c.ifaces == (fn.params.toList ++ s.plain.varTypes P).any (P.ifacesRec ·)) && (c.mapsOut == P.mapsAmong fn.resultTypes.toList) &&
 (c.loops == (fn.params.toList ++ s.plain.varTypes P).any (P.loopsFrom ·)) && (c.wideKeys == (fn.params.toList ++ s.plain.varTypes P ++ fn.resultTypes.toList).any (P.wideKeysFrom ·)) &&
 s.vars.all (P.varReadable ·) && fn.resultTypes.all (fun t => P.readableRec t && decide (t < P.types.size)) && (c.ifacesOut == fn.resultTypes.toList.any (P.ifacesRec ·)) && (c.loopsOut == fn.resultTypes.toList.any (P.loopsFrom ·)) && (c.plainKeys == P.plainKeys) && c.shortTexts.isNone && P.stopsHeard && (c.kinds == (if c.domain.isEmpty then [] else fn.params.toList.map fun t => match P.underlying t with | some (.int k) => some k | _ => none)) && (c.pinned == c.pinnedBy) &&
 (c.veiled == (fn.params.toList ++ s.plain.varTypes P ++ fn.resultTypes.toList).any (P.veiledRec ·)) && c.veiledFits P fn.params.toList (fn.params.toList ++ s.plain.varTypes P ++ fn.resultTypes.toList)
theorem joined_of {P : Program} {f : FuncId} {fn : Func} {s : ChangeSpec} {c : OpenClaim} (g : P.inPlace f = [] ∧ P.unfollowed f = false ∧ P.recurses f = false ∧ P.varsNamed f = []) (c1 : c.inPlace = []) (c2 : c.unfollowed = false) (c3 : c.recurses = false) (c4 : c.named = [])
  (m1 : P.mayEnter = true) (m2 : P.liftsFinal = false) (m3 : P.make = some .cut) (d2 : c.lifted = false) (d3 : c.make = .cut) (h : restFacts P f fn s c = true) : joinedFacts P f fn s c = true := by
 obtain ⟨g1, g2, g3, g4⟩ := g
 unfold restFacts at h
 unfold joinedFacts
 simp only [Bool.and_eq_true] at h ⊢
 obtain ⟨⟨⟨⟨⟨⟨⟨⟨⟨⟨⟨⟨⟨⟨⟨⟨⟨⟨⟨⟨⟨⟨⟨⟨k1, k2⟩, k3⟩, k4⟩, k5⟩, k6⟩, k7⟩, k8⟩, k9⟩, k14⟩, k15⟩, k16⟩, k17⟩, k17b⟩, k18⟩, k19⟩, k20⟩, k21⟩, k22⟩, k23⟩, k23b⟩, k25⟩, k26⟩, k27⟩, k28⟩ := h
 refine ⟨⟨⟨⟨⟨⟨⟨⟨⟨⟨⟨⟨⟨⟨⟨⟨⟨⟨⟨⟨⟨⟨⟨⟨⟨⟨⟨⟨⟨⟨⟨k1, k2⟩, k3⟩, k4⟩, k5⟩, k6⟩, k7⟩, k8⟩, k9⟩, ?_⟩, ?_⟩, ?_⟩, ?_⟩, k14⟩, k15⟩, k16⟩, k17⟩, k17b⟩, k18⟩, k19⟩, k20⟩, k21⟩, k22⟩, k23⟩, k23b⟩, m1⟩, ?_⟩, ?_⟩, k25⟩, k26⟩, k27⟩, k28⟩
 ·rw [c1, g1]; rfl
 ·rw [c2, g2]; rfl
 ·rw [c3, g3]; rfl
 ·rw [c4, g4]; rfl
 ·rw [d2, m2]; rfl
 ·rw [d3, m3]; exact beq_self_eq_true _
end
section
open Go

def rkN : Nat := 39529161499451005553907868626123096762633995535607435854434033787942582186714302900412651966648290670293420298995470186168535724010026672633091880736672770311290193577187093735068360316260019847183267787734840560313481161454338456953072139129024794178390234275665000547447829397437800352463639365469731234443598250687715532714987009687963839141937341615996434433207710039610362724949647828032285982145819525553774643152737123798129186615508017308237820232280741773312
theorem okG_0 : (List.range' 3 16).all (okG Tryz.prog rkN 3 140) = true := by kernel_rfl
theorem okG_1 : (List.range' 19 16).all (okG Tryz.prog rkN 3 140) = true := by kernel_rfl
theorem okG_2 : (List.range' 35 16).all (okG Tryz.prog rkN 3 140) = true := by kernel_rfl
theorem okG_3 : (List.range' 51 16).all (okG Tryz.prog rkN 3 140) = true := by kernel_rfl
theorem okG_4 : (List.range' 67 16).all (okG Tryz.prog rkN 3 140) = true := by kernel_rfl
theorem okG_5 : (List.range' 83 16).all (okG Tryz.prog rkN 3 140) = true := by kernel_rfl
theorem okG_6 : (List.range' 99 16).all (okG Tryz.prog rkN 3 140) = true := by kernel_rfl
theorem okG_7 : (List.range' 115 16).all (okG Tryz.prog rkN 3 140) = true := by kernel_rfl
theorem okG_8 : (List.range' 131 9).all (okG Tryz.prog rkN 3 140) = true := by kernel_rfl
theorem okG_all (g : Nat) (h : 3 ≤ g ∧ g < 140) : okG Tryz.prog rkN 3 140 g = true := by
 rcases (by omega : (3 ≤ g ∧ g < 19) ∨ (19 ≤ g ∧ g < 35) ∨ (35 ≤ g ∧ g < 51) ∨ (51 ≤ g ∧ g < 67) ∨ (67 ≤ g ∧ g < 83) ∨ (83 ≤ g ∧ g < 99) ∨ (99 ≤ g ∧ g < 115) ∨ (115 ≤ g ∧ g < 131) ∨ (131 ≤ g ∧ g < 140)) with h | h | h | h | h | h | h | h | h
 ·exact List.all_eq_true.1 okG_0 g (List.mem_range'_1.2 h)
 ·exact List.all_eq_true.1 okG_1 g (List.mem_range'_1.2 h)
 ·exact List.all_eq_true.1 okG_2 g (List.mem_range'_1.2 h)
 ·exact List.all_eq_true.1 okG_3 g (List.mem_range'_1.2 h)
 ·exact List.all_eq_true.1 okG_4 g (List.mem_range'_1.2 h)
 ·exact List.all_eq_true.1 okG_5 g (List.mem_range'_1.2 h)
 ·exact List.all_eq_true.1 okG_6 g (List.mem_range'_1.2 h)
 ·exact List.all_eq_true.1 okG_7 g (List.mem_range'_1.2 h)
 ·exact List.all_eq_true.1 okG_8 g (List.mem_range'_1.2 h)
theorem init_head : ∃ rest, behindMainWord (wordsSigns Tryz.prog.initOrder.toList) = chs cutN :: rest :=
 head_words (a := [104, 97, 114, 110, 101, 115, 115]) (b := [57, 99, 48, 56, 101, 102, 49, 101, 55, 97, 102, 55, 52, 99, 51, 97, 49, 54, 53, 98, 57, 100, 97, 54, 57, 55, 98, 101, 57, 51, 49, 51, 102, 53, 100, 48, 55, 54, 52, 102, 101, 98, 53, 57, 49, 100, 49, 102, 98, 48, 57, 98, 56, 99, 102, 100, 53, 50, 49, 97, 52, 48, 99, 48]) (c := cutN) (r := [97, 116, 32, 108, 111, 111, 112, 46, 101, 120, 97, 109, 112, 108, 101, 47, 103, 48, 48, 57, 54, 55, 47, 108, 97, 119, 115, 46, 70, 110, 76, 105, 118, 101, 115]) (by kernel_rfl) (by kernel_rfl) (by kernel_rfl) (by kernel_rfl) (by kernel_rfl)
theorem own_l1 : Tryz.prog.laysLater = false := by kernel_rfl
theorem own_l2 : Tryz.prog.bearsReflect = false := by kernel_rfl
theorem own_l3 : Tryz.prog.doorRows = [] := by kernel_rfl
theorem own_may : Tryz.prog.mayEnter = true := init_head.elim fun _ h => may_cut h own_l1 own_l2 own_l3
theorem own_final : Tryz.prog.liftsFinal = false := init_head.elim fun _ h => final_cut h
theorem own_make : Tryz.prog.make = some .cut := init_head.elim fun _ h => make_cut h
theorem own_graph (f : Nat) (h : ((Nat.ble 3 f && Nat.blt f 140) && Nat.blt (rkOf rkN f) 1000) = true) : Tryz.prog.inPlace f = [] ∧ Tryz.prog.unfollowed f = false ∧ Tryz.prog.recurses f = false ∧ Tryz.prog.varsNamed f = [] :=
 graph_facts okG_all f (by simpa only [Bool.and_eq_true, Nat.ble_eq, Nat.blt_eq] using h)
end
end Go.Proofs.YtkabkkjnemongaaGreat
