/-
  Texts merged for this claim by shake.py: what its proof needs.
-/
import Derived.Tactics
import Derived.Below
import Derived.Laws.AppendOwn
import Derived.Laws.OwnMore
import Derived.Laws.Slices
import Derived.Laws.Small
import Derived.Laws.Strings
import Derived.KernelRfl
import Derived.Laws.MakeOwn
import Derived.Laws.BytesString
import Derived.Laws.BytesArg
import Derived.Laws.Build
import Derived.Laws.Concat
import Derived.Laws.StructEq
import Derived.Lib.ConvBytes
import Derived.Orders
import Derived.WalkKit
import Derived.ProofKit
import Derived.ShutString
import Derived.OpenShut
import Derived.ChangeOld
import Derived.Carry
import Derived.Test.YtfakgekanapbnaaGreatChecked
import Derived.Laws.BitsLemmas
import Derived.JoinedOf
import Derived.Test.YtfakgekanapbnaaGreatRows
import Derived.Test.YtfakgekanapbnaaGreatZFnSafeE
set_option maxHeartbeats 16000000
set_option maxRecDepth 100000
set_option linter.unusedVariables false
set_option linter.unusedSimpArgs false
namespace Go.Proofs.YtfakgekanapbnaaGreat
section
open Go.RowKit

theorem addrsOk_lt {l : List AddrD} (h : addrsOk l = true) : ∀ (d i : Nat) (hj : i + d + 1 < l.length), l[i].id < l[i + d + 1].id
 | 0, i, hj => by
  simp only [addrsOk, Bool.and_eq_true] at h
  have := upto_at h.2 (show i + 1 < l.length by omega)
  simp only [adOk, Bool.and_eq_true, Bool.or_eq_true, beq_iff_eq, decide_eq_true_eq, Nat.add_sub_cancel] at this
  have h1 := this.1.2
  rw [adA, adA, List.getD_eq_getElem?_getD, List.getD_eq_getElem?_getD, List.getElem?_eq_getElem (show i < l.length by omega), List.getElem?_eq_getElem (show i + 1 < l.length by omega)] at h1
  simp only [Option.getD_some] at h1
  simp only [Nat.add_zero]
  omega
 | d + 1, i, hj => by
  have h1 := addrsOk_lt h 0 i (by omega)
  have h2 := addrsOk_lt h d (i + 1) (by omega)
  simp only [Nat.add_zero] at h1
  have e : i + 1 + d + 1 = i + (d + 1) + 1 := by omega
  simp only [e] at h2
  omega
theorem addrsOk_inj {l : List AddrD} (h : addrsOk l = true) {i j : Nat} (hi : i < l.length) (hj : j < l.length) (he : l[i].id = l[j].id) : i = j := by
 rcases Nat.lt_trichotomy i j with hl | hl | hl
 ·have := addrsOk_lt h (j - i - 1) i (by omega)
  have e : i + (j - i - 1) + 1 = j := by omega
  simp only [e] at this
  omega
 ·exact hl
 ·have := addrsOk_lt h (i - j - 1) j (by omega)
  have e : j + (i - j - 1) + 1 = i := by omega
  simp only [e] at this
  omega
theorem addrAt_mem {l : List AddrD} (h : addrsOk l = true) {a : AddrD} (ha : a ∈ l) : ∃ j : Nat, ∃ hj : j < l.length, addrAt l a.id = (j : Int) ∧ l[j] = a := by
 obtain ⟨i, hi, rfl⟩ := List.getElem_of_mem ha
 rcases idxOf_bd (p := fun b : AddrD => b.id == l[i].id) (l := l) with h1 | ⟨h1, h2⟩
 ·exfalso
  have hx : ∀ (m : List AddrD) (k : Nat) (b : AddrD), b ∈ m → (b.id == l[i].id) = true → idxGo (fun b : AddrD => b.id == l[i].id) k m ≠ -1 := by
   intro m
   induction m with
   | nil => intro k b hb; cases hb
   | cons c m ih =>
    intro k b hb hp
    rw [idxGo]
    split
    ·omega
    ·rename_i hc
     rcases List.mem_cons.1 hb with rfl | hb
     ·exact absurd hp hc
     ·exact ih (k + 1) b hb hp
  exact hx l 0 l[i] ha (by simp) h1
 ·obtain ⟨n, hn⟩ := Int.eq_ofNat_of_zero_le h1
  obtain ⟨hl, hp⟩ := idxOf_at hn
  have hid : l[n].id = l[i].id := by simpa using hp
  obtain rfl := addrsOk_inj h hl hi hid
  exact ⟨n, hi, hn, rfl⟩
def untold (l : List AddrD) : List AddrD := l.filter fun a => !a.told
theorem ta_f {e : EndD} (h : taOk e = false) : tellAddrs e = [] := if_neg (by simp [h])
theorem ta_t {e : EndD} {k : Nat} (h : taOk e = true) (hk : (onN e.subs).headD 0 = k) (hl : k < e.subs.length) : tellAddrs e = (untold e.own).map (addrL e e.subs[k]) := by rw [tellAddrs, if_pos h, hk, subAtN_at hl]; rfl
theorem headD_get {l : List Nat} (h : 0 < l.length) : l.headD 0 = l[0] := by cases l with | nil => simp at h | cons a r => rfl
theorem spec_UntoldOf (l : List AddrD) (hl : l.length ≤ 1048576) : CallA Tryz.prog 206 [.sc (.sl 0 0 l.length)] [some ⟨l.map AddrD.cs, 4, 80, false, true⟩] (.sc (.sl 1 0 (untold l).length)) [some ⟨l.map AddrD.cs, 4, 80, false, true⟩, some ⟨((untold l).map AddrD.id).map intC, 1, 3, true, true⟩] := by
 obtain ⟨R, hR⟩ : ∃ R, R = untold l := ⟨_, rfl⟩
 rw [← hR]
 rw [untold] at hR
 refine qE Tryz.func206 Tryz.ntmps206 Tryz.results206 fun E hE => ?_
 refine den_lp 1 hE (fun s (x : Nat × List AddrD) => s.at [5, 6, 7, 8, 9, 10, 11, 12, 13, 14, 15, 16, 17, 18, 19, 20, 21, 22, 23, 24, 25] [(4, .sc (.int .i64 (x.1 : Nat))), (3, .sc (.sl 1 0 x.2.length))] ((s.hp.take 1) ++ [some ⟨(x.2.map AddrD.id).map intC, 1, 3, true, true⟩])) (fun (x : Nat × List AddrD) => x.1 ≤ l.length ∧ x.2.length ≤ x.1 ∧ R = x.2 ++ (l.drop x.1).filter (fun a => !a.told)) (fun (x : Nat × List AddrD) => l.length - x.1) (0, []) (qA [0, 1]) (qC) (⟨Nat.zero_le _, Nat.zero_le _, hR⟩) (weak_mk (by rfl) (by rfl) ?_) fun x hx N hN => ?_
 ·exact qY
 ·obtain ⟨k, acc⟩ := x
  obtain ⟨h1, h2, h3⟩ := hx
  dsimp only at h1 h2 h3
  refine qR ?_
  refine qB (fun h => ?_) fun h => ?_
  ·rw [filt_step h] at h3
   have hg := map_get (enc := AddrD.cs) h
   try simp (disch := omega) only [go_sem, Nat.reduceEqDiff, Nat.reduceAdd, Nat.reduceSub, Int.reduceAdd, Int.reduceSub, Int.reduceToNat, hg]
   cases ht : l[k].told with
   | true =>
    rw [if_neg (by simp [ht])] at h3
    try simp (disch := omega) only [go_sem, Nat.reduceEqDiff, Nat.reduceAdd, Nat.reduceSub, Int.reduceAdd, Int.reduceSub, Int.reduceToNat, ht]
    exact qN hN (k + 1, acc) (qA [0, 1]) (by (try dsimp only); exact ⟨by omega, by omega, h3⟩)
   | false =>
    rw [if_pos (by simp [ht])] at h3
    try simp (disch := omega) only [go_sem, Nat.reduceEqDiff, Nat.reduceAdd, Nat.reduceSub, Int.reduceAdd, Int.reduceSub, Int.reduceToNat, ht, hg]
    refine ⟨qC, hN _ (k + 1, acc ++ [l[k]]) (qA [0, 3]) (by (try dsimp only); exact ⟨by omega, by simp; omega, by simpa using h3⟩) (by (try dsimp only); omega) (weak_mk (by rfl) (by rfl) ?_)⟩
    refine qX ?_
    simp [intC]
  ·rw [filt_end (by omega), List.append_nil] at h3
   subst h3
   exact qF (qA [0, 1])
theorem endOk_addrs {e : EndD} (h : endOk e = true) : addrsOk e.own = true := by
 simp only [endOk, Bool.and_eq_true] at h
 simp_all
theorem spec_TellAddrs (e : EndD) (hs : Small e) : CallA Tryz.prog 180 [.ag (e.cs 0)] (e.hp false) (.sc (.sl 7 0 (tellAddrs e).length)) (e.hp false ++ [some ⟨(tellAddrs e).map LetterD.cs, 19, 67, true, true⟩]) := by
 have hN := spec_OnOf e (by have := hs.subs; omega)
 have hK := spec_EndOk e (by have := hs.own; omega) (by have := hs.far; omega) (by have := hs.subs; omega) (by have := hs.halfs; omega) (by have := hs.list; omega) (by have := hs.done; omega) (by have := hs.over; omega)
 have hown := hs.own
 have hf := ta_f (e := e)
 have ht := @ta_t e
 have hok : taOk e = (endOk e && decide (e.state = 2) && !decide ((onN e.subs).length = 0)) := rfl
 obtain ⟨R, hR⟩ : ∃ R, R = tellAddrs e := ⟨_, rfl⟩
 rw [← hR] at hf ht
 rw [← hR]
 clear hR
 refine qEO Tryz.func180 Tryz.ntmps180 Tryz.results180 fun E hE => ?_
 refine qK (hN) (qA [0, 1, 2, 3, 4, 5, 6]) ?_
 refine qK (hK) (qA [0, 1, 2, 3, 4, 5, 6]) ?_
 refine qB (fun h1 => ?_) fun h1 => ?_
 ·refine qB (fun h2 => ?_) fun h2 => ?_
  ·by_cases h3 : (onN e.subs).length = 0
   ·rw [hf (by rw [hok]; simp [h3])]
    try simp (disch := omega) only [go_sem, Nat.reduceEqDiff, Nat.reduceAdd, Nat.reduceSub, Int.reduceAdd, Int.reduceSub, Int.reduceToNat, h3]
    exact qFO (qA [0, 1, 2, 3, 4, 5, 6, 8])
   ·have hpos : 0 < (onN e.subs).length := by omega
    have hk := onN_lt hpos
    have hR := ht (by rw [hok]; simp [h1, h2, h3]) (headD_get hpos) hk
    have hgo := map_get (enc := natC) hpos
    generalize hk0 : (onN e.subs)[0] = k0 at *
    have hgs := map_get (enc := SubD.cs) hk
    generalize hss : e.subs[k0] = s0 at *
    refine qX ?_
    refine qD [0, 1, 2, 3, 4, 5, 6, 7, 8] ?_
    try simp (disch := omega) only [go_sem, Nat.reduceEqDiff, Nat.reduceAdd, Nat.reduceSub, Int.reduceAdd, Int.reduceSub, Int.reduceToNat, hgo, hk0, natC, hgs, hss]
    refine qG ?_
    have hU := spec_UntoldOf e.own hown
    have hul : (untold e.own).length ≤ e.own.length := List.length_filter_le _ _
    have hmem : ∀ a ∈ untold e.own, a ∈ e.own := fun a ha => (List.mem_filter.1 ha).1
    generalize untold e.own = U at *
    refine qK (hU) (qA [0]) ?_
    refine den_lpO 7 hE (fun s (y : Nat × List LetterD) => s.at [0, 4, 8, 9, 10, 11, 12, 13, 14, 15, 16, 17, 18, 19, 20, 21, 22, 23, 24, 25, 26, 27, 28, 29, 30, 31, 32, 33, 34, 35, 36, 37, 38, 39, 40, 41, 42, 43, 44, 45, 46, 47, 48, 49, 50, 51, 52, 53, 54, 55, 56, 57, 58, 59, 60, 61, 62, 63, 64, 65, 66, 67, 68, 69, 70, 71, 72, 73, 74, 75, 76] [(7, .sc (.int .i64 (y.1 : Nat))), (5, .sc (.pt 9 0 0)), (6, .sc (.sl 10 0 U.length)), (3, .sc (.sl 11 0 y.2.length))] ((s.hp.take 8) ++ (((s.hp.drop 9).take 3) ++ [some ⟨y.2.map LetterD.cs, 19, 67, true, true⟩]))) (fun (y : Nat × List LetterD) => y.1 ≤ U.length ∧ y.2.length ≤ y.1 ∧ R = y.2 ++ (U.drop y.1).map (addrL e s0)) (fun (y : Nat × List LetterD) => U.length - y.1) (0, []) (qA [0, 1, 2, 3, 4, 5, 6, 7, 9, 10, 11, 8]) (qC) (⟨Nat.zero_le _, Nat.zero_le _, hR⟩) (weak_mkO (by rfl) (by rfl) ?_) fun y hy N hN => ?_
    ·exact qY
    ·obtain ⟨i, l⟩ := y
     obtain ⟨g1, g2, g3⟩ := hy
     dsimp only at g1 g2 g3
     refine qR ?_
     refine qB (fun b => ?_) fun b => ?_
     ·rw [List.drop_eq_getElem_cons b, List.map_cons] at g3
      have hbl : i < (U.map AddrD.id).length := by simpa using b
      have hg := map_get (enc := intC) hbl
      rw [List.getElem_map] at hg
      obtain ⟨j, hj, hat, hja⟩ := addrAt_mem (endOk_addrs h1) (hmem U[i] (List.getElem_mem b))
      have hA := spec_AddrAt e.own U[i].id hown
      rw [hat] at hA
      have hgj := map_get (enc := AddrD.cs) hj
      rw [hja] at hgj
      generalize hae : U[i] = a at *
      simp only [intC] at hg
      have hel : e.own[j] = a := hja
      refine qX ?_
      refine den_drawX [(8, 11), (11, 9), (11, 10)] [(8, 9), (9, 10)] [[0, 1, 2, 3, 4, 5, 6, 7, 8, 11, 9, 10, 12], [0, 1, 2, 3, 4, 5, 6, 7, 8, 9, 11, 10, 12], [0, 1, 2, 3, 4, 5, 6, 7, 8, 9, 10, 11, 12], [0, 1, 2, 3, 4, 5, 6, 7, 11, 8, 9, 10, 12]] 7 hE (fun s => s.at [42, 43, 44, 45, 46, 47, 48, 49, 50, 51, 52] [(8, .sc (.pt 12 0 0))] (s.hp ++ [some ⟨[a.cs], 4, 80, true, false⟩])) (by kernel_rfl) (qC) (by kernel_rfl) ?_ (run_den 400 ?_)
      rotate_left
      rotate_right
      simp only [allDn]
      refine ⟨runD_den 400 ?_, runD_den 400 ?_, runD_den 400 ?_, runD_den 400 ?_⟩
      ·simp (disch := omega) only [go_sem, hg, hae]
       refine qKD (hA) (qA [0]) ?_
       simp (disch := omega) only [go_sem, hgj, hel]
       refine ⟨by (try simp (disch := omega) only [go_sem, List.length_set, Nat.reduceEqDiff, Nat.reduceAdd, Nat.reduceSub, Int.reduceAdd, Int.reduceSub, Int.reduceToNat, hgj, hel]) <;> omega, (qA [0, 1, 2, 3, 4, 5, 6, 7, 8, 9, 10, 11, 12]), weak_mkO (by rfl) (by rfl) ?_⟩
       try simp (disch := omega) only [go_sem, Nat.reduceEqDiff, Nat.reduceAdd, Nat.reduceSub, Int.reduceAdd, Int.reduceSub, Int.reduceToNat]
      ·simp (disch := omega) only [go_sem, hg, hae]
       refine qKD (hA) (qA [0]) ?_
       simp (disch := omega) only [go_sem, hgj, hel]
       refine ⟨by (try simp (disch := omega) only [go_sem, List.length_set, Nat.reduceEqDiff, Nat.reduceAdd, Nat.reduceSub, Int.reduceAdd, Int.reduceSub, Int.reduceToNat, hgj, hel]) <;> omega, (qA [0, 1, 2, 3, 4, 5, 6, 7, 8, 9, 10, 11, 12]), weak_mkO (by rfl) (by rfl) ?_⟩
       try simp (disch := omega) only [go_sem, Nat.reduceEqDiff, Nat.reduceAdd, Nat.reduceSub, Int.reduceAdd, Int.reduceSub, Int.reduceToNat]
      ·simp (disch := omega) only [go_sem, hg, hae]
       refine qKD (hA) (qA [0]) ?_
       simp (disch := omega) only [go_sem, hgj, hel]
       refine ⟨by (try simp (disch := omega) only [go_sem, List.length_set, Nat.reduceEqDiff, Nat.reduceAdd, Nat.reduceSub, Int.reduceAdd, Int.reduceSub, Int.reduceToNat, hgj, hel]) <;> omega, (qA [0, 1, 2, 3, 4, 5, 6, 7, 8, 9, 10, 11, 12]), weak_mkO (by rfl) (by rfl) ?_⟩
       try simp (disch := omega) only [go_sem, Nat.reduceEqDiff, Nat.reduceAdd, Nat.reduceSub, Int.reduceAdd, Int.reduceSub, Int.reduceToNat]
      ·simp (disch := omega) only [go_sem, hg, hae]
       refine qKD (hA) (qA [0]) ?_
       simp (disch := omega) only [go_sem, hgj, hel]
       refine ⟨by (try simp (disch := omega) only [go_sem, List.length_set, Nat.reduceEqDiff, Nat.reduceAdd, Nat.reduceSub, Int.reduceAdd, Int.reduceSub, Int.reduceToNat, hgj, hel]) <;> omega, (qA [0, 1, 2, 3, 4, 5, 6, 7, 8, 9, 10, 11, 12]), weak_mkO (by rfl) (by rfl) ?_⟩
       try simp (disch := omega) only [go_sem, Nat.reduceEqDiff, Nat.reduceAdd, Nat.reduceSub, Int.reduceAdd, Int.reduceSub, Int.reduceToNat]
      refine qX ?_
      refine qD [0, 1, 2, 3, 4, 5, 6, 7, 8, 9, 10, 11, 12, 13, 14, 15, 16, 17, 18, 19, 20, 21, 22, 23, 24] ?_
      refine qKD (spec_TagAddr e.key e.peer a.id a.addr) [] ?_
      refine qKD (spec_Between s0.road { letNone with kind := 8, tag := ⟨3, e.key, e.peer, a.id, a.addr⟩, sgn := s0.give, id := a.id, addr := a.addr, spare := a.spare }) [] ?_
      refine qG ?_
      refine ⟨qC, hN _ (i + 1, l ++ [addrL e s0 a]) (qA [0, 1, 2, 3, 4, 5, 6, 7, 8, 9, 10, 14]) (by (try dsimp only); exact ⟨by omega, by simp; omega, by simpa using g3⟩) (by (try dsimp only); omega) (weak_mkO (by rfl) (by rfl) ?_)⟩
      refine qX ?_
      rw [List.map_append]
      rfl
     ·rw [List.drop_eq_nil_of_le (by omega), List.map_nil, List.append_nil] at g3
      subst g3
      refine qX ?_
      exact qFO (qA [0, 1, 2, 3, 4, 5, 6, 11])
  ·rw [hf (by rw [hok]; simp [h2])]
   refine qX ?_
   exact qFO (qA [0, 1, 2, 3, 4, 5, 6, 8])
 ·rw [hf (by rw [hok]; simp [h1])]
  refine qX ?_
  exact qFO (qA [0, 1, 2, 3, 4, 5, 6, 8])
end
section
open Go.RowKit

def stepN {α : Type} (f : α → α) (l : List α) (k : Nat) : List α := (l.take k).map f ++ l.drop k
theorem stepN_len {α : Type} {f : α → α} {l : List α} {k : Nat} : (stepN f l k).length = l.length := by simp [stepN]; omega
theorem stepN_at {α : Type} {f : α → α} {l : List α} {k : Nat} (h : k < l.length) : (stepN f l k)[k]? = some l[k] := by
 have h1 : ((l.take k).map f).length = k := by simp; omega
 rw [stepN, List.getElem?_append_right (by omega), List.drop_eq_getElem_cons h, h1]
 simp
theorem stepN_get {α : Type} {f : α → α} {l : List α} {k : Nat} (h : k < l.length) : ∀ p : k < (stepN f l k).length, (stepN f l k)[k]'p = l[k] := by
 intro p
 have hq := stepN_at (f := f) h
 rw [List.getElem?_eq_getElem p] at hq
 exact Option.some.inj hq
theorem stepN_set {α : Type} {f : α → α} {l : List α} {k : Nat} (h : k < l.length) : (stepN f l k).set k (f l[k]) = stepN f l (k + 1) := by
 have h1 : ((l.take k).map f).length = k := by simp; omega
 rw [stepN, stepN, List.set_append_right _ _ (by omega), List.take_succ_eq_append_getElem h, List.map_append, h1]
 simp
 rw [List.drop_eq_getElem_cons h]
 rfl
theorem stepN_same {α : Type} {f : α → α} {l : List α} {k : Nat} (h : k < l.length) (hs : f l[k] = l[k]) : stepN f l (k + 1) = stepN f l k := by
 rw [stepN, stepN, List.take_succ_eq_append_getElem h, List.map_append, List.drop_eq_getElem_cons h]
 simp [hs]
theorem stepN_zero {α : Type} {f : α → α} {l : List α} : stepN f l 0 = l := by simp [stepN]
theorem stepN_all {α : Type} {f : α → α} {l : List α} : stepN f l l.length = l.map f := by simp [stepN]
theorem do_f {e : EndD} {n : Int} (h : doOk e n = false) : dropOwn e n = (e, []) := if_neg (by simp [h])
theorem do_t {e : EndD} {n : Int} {i : Nat} (h : doOk e n = true) (hi : addrAt e.own n = (i : Int)) (hl : i < e.own.length) :
  dropOwn e n = ({ e with own := (dropAddr e.own n).1, done := putI e.done n, subs := e.subs.map (goneO e.own[i].addr) }, (onN (e.subs.map (goneO e.own[i].addr))).map fun k => goneL n (subAtN (e.subs.map (goneO e.own[i].addr)) k)) := by
 rw [dropOwn, if_pos h, dropSubs, hi, Int.toNat_natCast, adAtN_at hl]
theorem endOk_done {e : EndD} (h : endOk e = true) : e.done.length ≤ 256 := (endOk_ids h).1
theorem spec_DropOwn (e : EndD) (n : Int) (hs : Small e) : CallA Tryz.prog 191 [.ag (e.cs 0), .sc (.int .i64 n)] (e.hp false) (.tu [.ag ((dropOwn e n).1.cs 7), .sc (.sl 14 0 (dropOwn e n).2.length)])
  (e.hp false ++ ((dropOwn e n).1.hp true ++ [some ⟨(dropOwn e n).2.map LetterD.cs, 19, 67, true, true⟩])) := by
 have hC := spec_l17Copy e (by have := hs.own; omega) (by have := hs.far; omega) (by have := hs.subs; omega) (by have := hs.halfs; omega) (by have := hs.list; omega) (by have := hs.done; omega) (by have := hs.over; omega)
 have hK := spec_EndOk e (by have := hs.own; omega) (by have := hs.far; omega) (by have := hs.subs; omega) (by have := hs.halfs; omega) (by have := hs.list; omega) (by have := hs.done; omega) (by have := hs.over; omega)
 have hA := spec_AddrAt e.own n (by have := hs.own; omega)
 have hD := spec_DropAddr e.own n (by have := hs.own; omega)
 have hsb := hs.subs
 have hso := hs.own
 have hbd := addrAt_bd e.own n
 have hf := do_f (e := e) (n := n)
 have ht := @do_t e n
 have hok : doOk e n = (endOk e && decide (e.state = 2) && decide (0 ≤ addrAt e.own n)) := rfl
 obtain ⟨R, hR⟩ : ∃ R, R = dropOwn e n := ⟨_, rfl⟩
 rw [← hR] at hf ht
 rw [← hR]
 clear hR
 refine qEO Tryz.func191 Tryz.ntmps191 Tryz.results191 fun E hE => ?_
 refine qK (hC) (qA [0, 1, 2, 3, 4, 5, 6]) ?_
 refine qK (hA) (qA [0]) ?_
 rcases hbd with hi0 | ⟨hi0, hi1⟩
 ·rw [hf (by rw [hok, hi0]; simp)]
  rw [hi0]
  refine qX ?_
  refine qK (hK) (qA [0, 1, 2, 3, 4, 5, 6]) ?_
  refine qB (fun h1 => ?_) fun h1 => ?_
  ·refine qB (fun h2 => ?_) fun h2 => ?_
   ·refine qX ?_
    exact qFO (qA [0, 1, 2, 3, 4, 5, 6, 9, 10, 11, 12, 13, 14, 15, 17])
   ·refine qX ?_
    exact qFO (qA [0, 1, 2, 3, 4, 5, 6, 9, 10, 11, 12, 13, 14, 15, 17])
  ·refine qX ?_
   exact qFO (qA [0, 1, 2, 3, 4, 5, 6, 9, 10, 11, 12, 13, 14, 15, 17])
 ·obtain ⟨i, hi⟩ := Int.eq_ofNat_of_zero_le hi0
  have hil : i < e.own.length := by omega
  rw [hi]
  refine qX ?_
  refine qK (hK) (qA [0, 1, 2, 3, 4, 5, 6]) ?_
  refine qB (fun h1 => ?_) fun h1 => ?_
  ·refine qB (fun h2 => ?_) fun h2 => ?_
   ·have hR := ht (by rw [hok, h1, h2, hi]; simp) hi hil
    have hdl : (dropAddr e.own n).1.length ≤ e.own.length := by rw [dropAddr_t hi]; simp; omega
    have hgo := map_get (enc := AddrD.cs) hil
    generalize hv : e.own[i].addr = v at hR
    try simp (disch := omega) only [go_sem, Nat.reduceEqDiff, Nat.reduceAdd, Nat.reduceSub, Int.reduceAdd, Int.reduceSub, Int.reduceToNat, hgo, hv]
    refine qK (spec_l17Put e.done n (by have := endOk_done h1; omega)) (qA [5]) ?_
    refine qK (hD) (qA [0]) ?_
    refine den_lpO 7 hE (fun s (k : Nat) => s.at [0, 13, 14, 15, 16, 17, 18, 19, 20, 21, 22, 23, 24, 25, 26, 27, 28, 29, 30, 31, 32, 33, 34, 35, 36, 37, 38, 39, 40, 41, 42, 43, 44, 45, 46, 47, 48, 49, 50, 51, 52, 53, 54, 55, 56, 57, 58, 59, 60, 61, 62, 63, 64, 65, 66, 67, 68, 69, 70, 71, 72] [(9, .sc (.int .i64 (k : Nat)))] (s.hp.set 11 (some ⟨(stepN (goneO v) e.subs k).map SubD.cs, 10, 78, true, true⟩))) (fun (k : Nat) => k ≤ e.subs.length) (fun (k : Nat) => e.subs.length - k) 0 (qA [0, 1, 2, 3, 4, 5, 6, 7, 8, 9, 10, 11, 12, 13, 14, 15, 16, 17, 18, 19]) (qC) (Nat.zero_le _) (weak_mkO (by rfl) (by rfl) ?_) fun k hk N hN => ?_
    ·refine qX ?_
     rw [stepN_zero]
    ·refine run_den 400 ?_
     have hgl : (stepN (goneO v) e.subs k).length = e.subs.length := stepN_len
     refine qX ?_
     refine qB (fun h => ?_) fun h => ?_
     ·have hg := stepN_get (f := goneO v) h
      try simp (disch := omega) only [go_sem, Nat.reduceEqDiff, Nat.reduceAdd, Nat.reduceSub, Int.reduceAdd, Int.reduceSub, Int.reduceToNat, hg]
      refine qD [0, 1, 2, 3, 4, 5, 6, 7, 8, 9, 10, 11, 12, 13] ?_
      refine ⟨qC, run_den 400 ?_⟩
      try simp (disch := omega) only [go_sem, Nat.reduceEqDiff, Nat.reduceAdd, Nat.reduceSub, Int.reduceAdd, Int.reduceSub, Int.reduceToNat, hg, hgo, hv]
      refine qB (fun h9 => ?_) fun h9 => ?_
      ·refine qX ?_
       refine ⟨qC, hN _ (k + 1) (qA [0, 1, 2, 3, 4, 5, 6, 7, 8, 9, 10, 11, 12, 13, 14, 15, 16, 17, 18, 19]) (by (try dsimp only); exact by omega) (by (try dsimp only); omega) (weak_mkO (by rfl) (by rfl) ?_)⟩
       refine qX ?_
       rw [← stepN_set h, List.map_set]
       simp [goneO, h9, hg, SubD.cs]
      ·refine qX ?_
       refine ⟨qC, hN _ (k + 1) (qA [0, 1, 2, 3, 4, 5, 6, 7, 8, 9, 10, 11, 12, 13, 14, 15, 16, 17, 18, 19]) (by (try dsimp only); exact by omega) (by (try dsimp only); omega) (weak_mkO (by rfl) (by rfl) ?_)⟩
       refine qX ?_
       rw [stepN_same h (by rw [goneO, if_neg h9])]
     ·have hkl : k = e.subs.length := by omega
      subst hkl
      rw [stepN_all]
      have hdl2 : (e.subs.map (goneO v)).length ≤ 1048576 := by rw [List.length_map]; exact hsb
      have hO := spec_OnOf { e with own := (dropAddr e.own n).1, done := putI e.done n, subs := e.subs.map (goneO v) } hdl2
      have hlen : (e.subs.map (goneO v)).length = e.subs.length := List.length_map ..
      generalize hDD : e.subs.map (goneO v) = D at *
      clear hDD
      rw [← hlen]
      refine qX ?_
      refine qK (hO) (qA [19, 10, 11, 12, 13, 18, 15]) ?_
      have honl := onN_len D
      refine den_lpO 7 hE (fun s (y : Nat × List LetterD) => s.at [0, 2, 8, 9, 12, 13, 14, 15, 16, 17, 18, 19, 20, 21, 22, 23, 24, 25, 26, 27, 28, 29, 30, 31, 32, 33, 34, 35, 36, 37, 38, 39, 40, 41, 42, 43, 44, 45, 46, 47, 48, 49, 50, 51, 52, 53, 54, 55, 56, 57, 58, 59, 60, 61, 62, 63, 64, 65, 66, 67, 68, 69, 70, 71, 72, 73, 74, 75, 76, 77, 78, 79, 80, 81, 82, 83, 84, 85, 86, 87, 88, 89, 90, 91, 92, 93, 94, 95, 96, 97, 98] [(11, .sc (.int .i64 (y.1 : Nat))), (7, .sc (.sl 17 0 y.2.length))] (s.hp.set 17 (some ⟨y.2.map LetterD.cs, 19, 67, true, true⟩))) (fun (y : Nat × List LetterD) => y.1 ≤ (onN D).length ∧ y.2.length ≤ y.1 ∧ R = ({ e with own := (dropAddr e.own n).1, done := putI e.done n, subs := D }, y.2 ++ ((onN D).drop y.1).map fun k => goneL n (subAtN D k))) (fun (y : Nat × List LetterD) => (onN D).length - y.1) (0, []) (qA [0, 1, 2, 3, 4, 5, 6, 7, 8, 9, 10, 11, 12, 13, 14, 15, 16, 17, 18, 19, 20]) (qC) (⟨Nat.zero_le _, Nat.zero_le _, hR⟩) (weak_mkO (by rfl) (by rfl) ?_) fun y hy N2 hN2 => ?_
      ·exact qY
      ·obtain ⟨q, l⟩ := y
       obtain ⟨g1, g2, g3⟩ := hy
       dsimp only at g1 g2 g3
       refine qR ?_
       refine qB (fun b => ?_) fun b => ?_
       ·have hkq := onN_lt b
        rw [List.drop_eq_getElem_cons b, List.map_cons] at g3
        have hgq := map_get (enc := natC) b
        generalize hk0 : (onN D)[q] = k0 at *
        rw [subAtN_at hkq] at g3
        have hgs := map_get (enc := SubD.cs) hkq
        generalize hss : D[k0] = s0 at *
        have hB := spec_Between s0.road { letNone with kind := 10, sgn := s0.give, id := n }
        refine qX ?_
        refine qD [0, 1, 2, 3, 4, 5, 6, 7, 8, 9] ?_
        try simp (disch := omega) only [go_sem, Nat.reduceEqDiff, Nat.reduceAdd, Nat.reduceSub, Int.reduceAdd, Int.reduceSub, Int.reduceToNat, hgq, hk0, natC, hgs, hss]
        refine qG ?_
        refine qK (hB) [] ?_
        refine ⟨qC, hN2 _ (q + 1, l ++ [goneL n s0]) (qA [0, 1, 2, 3, 4, 5, 6, 7, 8, 9, 10, 11, 12, 13, 14, 15, 16, 23, 18, 19, 20]) (by (try dsimp only); exact ⟨by omega, by simp; omega, by simpa using g3⟩) (by (try dsimp only); omega) (weak_mkO (by rfl) (by rfl) ?_)⟩
        refine qX ?_
        rw [List.map_append]
        rfl
       ·rw [List.drop_eq_nil_of_le (by omega), List.map_nil, List.append_nil] at g3
        subst g3
        refine qX ?_
        exact qFO (qA [0, 1, 2, 3, 4, 5, 6, 19, 10, 11, 12, 13, 18, 15, 17])
   ·rw [hf (by rw [hok]; simp [h2])]
    refine qX ?_
    exact qFO (qA [0, 1, 2, 3, 4, 5, 6, 9, 10, 11, 12, 13, 14, 15, 17])
  ·rw [hf (by rw [hok]; simp [h1])]
   refine qX ?_
   exact qFO (qA [0, 1, 2, 3, 4, 5, 6, 9, 10, 11, 12, 13, 14, 15, 17])
end
section
open Go.RowKit

theorem allD_step {α : Type} {p : α → Bool} {l : List α} {k : Nat} (h : k < l.length) : (l.drop k).all p = (p l[k] && (l.drop (k + 1)).all p) := by
 rw [List.drop_eq_getElem_cons h, List.all_cons]
theorem flatD_step {α β : Type} {f : α → List β} {l : List α} {k : Nat} (h : k < l.length) : (l.drop k).flatMap f = f l[k] ++ (l.drop (k + 1)).flatMap f := by
 rw [List.drop_eq_getElem_cons h, List.flatMap_cons]
theorem tickL_one (e : EndD) (s : SubD) : (tickL e s).length ≤ 1 := by
 rw [tickL]; split
 ·split
  ·simp
  ·split
   ·simp
   ·split <;> simp
 ·simp
theorem flat_le {α β : Type} {f : α → List β} (hf : ∀ a, (f a).length ≤ 1) : ∀ (l : List α), (l.flatMap f).length ≤ l.length
 | [] => by simp
 | a :: l => by
  have h1 := hf a
  have h2 := flat_le hf l
  rw [List.flatMap_cons, List.length_append, List.length_cons]
  omega
theorem younger_le (l : List HalfD) (n : Int) : (younger l n).length ≤ l.length := List.length_filter_le _ _
theorem tellAddrs_le (e : EndD) : (tellAddrs e).length ≤ e.own.length := by
 rw [tellAddrs]; split
 ·rw [List.length_map]; exact List.length_filter_le _ _
 ·simp
theorem endOk_sub {e : EndD} (h : endOk e = true) {k : Nat} (hk : k < e.subs.length) : 1 ≤ e.subs[k].state ∧ e.subs[k].state ≤ 4 ∧ 0 ≤ e.subs[k].tries ∧ e.subs[k].tries ≤ 1000000000 := by
 have h1 : upto (suOk e.subs) e.subs.length = true := by
  simp only [endOk, Bool.and_eq_true] at h
  simp_all
 have h2 := upto_at h1 hk
 simp only [suOk, subAtN_at hk, inR, isN, List.all_cons, List.all_nil, Bool.and_eq_true, decide_eq_true_eq] at h2
 omega
theorem tick_f {e : EndD} (h : tkE e = false) : tick e = (e, []) := if_neg (by simp [h])
theorem tick_o {e : EndD} (h : tkE e = true) (h2 : e.state = 2) : tick e = tickEnd { tick0 e with subs := e.subs.map tickS } (e.subs.flatMap (tickL e)) := by rw [tick, if_pos h, if_pos h2]
theorem tick_i {e : EndD} (h : tkE e = true) (h2 : ¬ e.state = 2) : tick e = tickEnd (tick0 e) [] := by rw [tick, if_pos h, if_neg h2]
theorem tick_u {e : EndD} {tk : SubD → SubD} {tl : SubD → List LetterD} (h : tkE e = true) (h1 : tk = fun s => if e.state = 2 then tickS s else s) (h2 : tl = fun s => if e.state = 2 then tickL e s else []) :
  tick e = tickEnd { e with now := e.now + 1, bucket := filled e.bucket, halfs := younger e.halfs (e.now + 1), out := anew e.out, subs := e.subs.map tk } (e.subs.flatMap tl) := by
 by_cases hs : e.state = 2
 ·have a1 : tk = tickS := by rw [h1]; funext s; exact if_pos hs
  have a2 : tl = tickL e := by rw [h2]; funext s; exact if_pos hs
  rw [tick_o h hs, a1, a2]; rfl
 ·have a1 : tk = fun s => s := by rw [h1]; funext s; exact if_neg hs
  have a2 : tl = fun s => [] := by rw [h2]; funext s; exact if_neg hs
  have e1 : e.subs.flatMap (fun s : SubD => ([] : List LetterD)) = [] := by simp
  have e2 : e.subs.map (fun s : SubD => s) = e.subs := by simp
  rw [tick_i h hs, a1, a2, e1, e2]; rfl
theorem stepN_id {f : SubD → SubD} (h : ∀ s, f s = s) (l : List SubD) (k : Nat) : stepN f l k = l := by
 have hf : f = fun s => s := funext h
 rw [stepN, hf]; simp
theorem tickS_same {s : SubD} (h : ¬ (s.state = 1 ∨ s.state = 2)) : tickS s = s := if_neg h
theorem tickL_none {e : EndD} {s : SubD} (h : ¬ (s.state = 1 ∨ s.state = 2)) : tickL e s = [] := if_neg h
theorem tickS_gone {s : SubD} (h : s.state = 2) (h2 : 9 ≤ s.tries + 1) : tickS s = { s with tries := s.tries + 1, state := 4 } := by rw [tickS, if_pos (.inr h), if_pos ⟨h, h2⟩]
theorem tickL_gone {e : EndD} {s : SubD} (h : s.state = 2) (h2 : 9 ≤ s.tries + 1) : tickL e s = [] := by rw [tickL, if_pos (.inr h), if_pos ⟨h, h2⟩]
theorem tickS_on {s : SubD} (h : s.state = 1 ∨ s.state = 2) (h2 : ¬ (s.state = 2 ∧ 9 ≤ s.tries + 1)) : tickS s = { s with tries := s.tries + 1 } := by rw [tickS, if_pos h, if_neg h2]
theorem tickL_wait {e : EndD} {s : SubD} (h : s.state = 1 ∨ s.state = 2) (h2 : ¬ (s.state = 2 ∧ 9 ≤ s.tries + 1)) (h3 : ¬ (s.tries + 1).tmod 3 = 0) : tickL e s = [] := by rw [tickL, if_pos h, if_neg h2, if_pos h3]
theorem tickL_ask {e : EndD} {s : SubD} (h : s.state = 1) (h3 : (s.tries + 1).tmod 3 = 0) : tickL e s = [joinL' e s] := by rw [tickL, if_pos (.inl h), if_neg (by omega), if_neg (by simp [h3]), if_pos h]
theorem tickL_prove {e : EndD} {s : SubD} (h : s.state = 2) (h2 : ¬ 9 ≤ s.tries + 1) (h3 : (s.tries + 1).tmod 3 = 0) : tickL e s = [doneLetter e s] := by rw [tickL, if_pos (.inr h), if_neg (by omega), if_neg (by simp [h3]), if_neg (by omega)]
end
section
open Go.RowKit

def nums4 (x : LetterD) : List Int := [x.key, x.nonce, x.give, x.sgn]
def okNum (w : WorldD) (n : Int) : Bool := decide (n < 1000) || hasI w.nums n
theorem mayInject_eq (w : WorldD) (x : LetterD) : mayInject w x = (letOk x && !decide (sideAt x.to = 0) && canMake w.known x.tag && (nums4 x).all (okNum w)) := rfl
theorem spec_MayInject (w : WorldD) (x : LetterD) (h0 : w.known.keys.length ≤ 1048576) (h1 : w.known.tags.length ≤ 1048576) (h2 : w.nums.length ≤ 1048576) : CallA Tryz.prog 168 [.ag (w.cs 0), .ag x.cs] (w.hp false) (.sc (.bo (mayInject w x))) (w.hp false) := by
 have hL := spec_LetterOk x
 have hS := spec_SideAt x.to
 have hK := spec_CanMake w.known x.tag h0 h1
 obtain ⟨R, hR⟩ : ∃ R, R = mayInject w x := ⟨_, rfl⟩
 rw [← hR]
 rw [mayInject_eq] at hR
 refine qE Tryz.func168 Tryz.ntmps168 Tryz.results168 fun E hE => ?_
 refine qK (hL) [] ?_
 refine qB (fun c1 => ?_) fun c1 => ?_
 ·refine qK (hS) [] ?_
  refine qB (fun c2 => ?_) fun c2 => ?_
  ·refine qK (hK) (qA [16, 17]) ?_
   refine qB (fun c3 => ?_) fun c3 => ?_
   ·rw [c3] at hR
    simp only [Bool.and_false, Bool.false_and] at hR
    subst hR
    refine qX ?_
    exact qF (qA [0, 1, 2, 3, 4, 5, 6, 7, 8, 9, 10, 11, 12, 13, 14, 15, 16, 17, 18, 19, 20])
   ·rw [c1, c3, decide_eq_false c2] at hR
    simp only [Bool.not_false, Bool.true_and, Bool.and_true] at hR
    refine qX ?_
    refine den_lp 21 hE (fun s (i : Nat) => s.at [0, 1, 3, 4, 7, 8, 9, 10, 11, 12, 13, 14, 15, 16, 17, 18, 19, 20, 21, 22, 23, 24, 25, 26, 27, 28, 29, 30, 31, 32, 33, 34, 35, 36, 37, 38, 39, 40, 41, 42, 43, 44, 45, 46, 47, 48, 49, 50, 51, 52, 53] [(6, .sc (.int .i64 (i : Nat)))] (s.hp)) (fun (i : Nat) => i ≤ 4 ∧ R = ((nums4 x).drop i).all (okNum w)) (fun (i : Nat) => 4 - i) 0 (qA [0, 1, 2, 3, 4, 5, 6, 7, 8, 9, 10, 11, 12, 13, 14, 15, 16, 17, 18, 19, 20, 21, 22, 23]) (qC) (⟨by omega, hR⟩) (weak_mk (by rfl) (by rfl) ?_) fun i hi N hN => ?_
    ·exact qY
    ·obtain ⟨g1, g2⟩ := hi
     refine qR ?_
     split <;> rename_i b <;> (try simp only [decide_eq_true_eq, decide_eq_false_iff_not, Int.ofNat_lt] at b)
     rotate_left
     ·rw [List.drop_eq_nil_of_le (by simp only [nums4, List.length_cons, List.length_nil]; omega), List.all_nil] at g2
      subst g2
      refine qX ?_
      exact qF (qA [0, 1, 2, 3, 4, 5, 6, 7, 8, 9, 10, 11, 12, 13, 14, 15, 16, 17, 18, 19, 20])
     have hi4 : i < (nums4 x).length := by simp only [nums4, List.length_cons, List.length_nil]; omega
     rw [allD_step hi4] at g2
     generalize hv : (nums4 x)[i] = v at g2
     have hg : ([[.int .i64 x.key], [.int .i64 x.nonce], [.int .i64 x.give], [.int .i64 x.sgn]] : List (List Sc))[i]? = some (intC v) := by
      rw [← hv]
      rw [show ([[.int .i64 x.key], [.int .i64 x.nonce], [.int .i64 x.give], [.int .i64 x.sgn]] : List (List Sc)) = (nums4 x).map intC from rfl]
      exact map_get hi4
     simp only [intC] at hg
     have hH := spec_l15Has w.nums v h2
     refine qX ?_
     refine qD [0, 1, 2, 3, 4, 5, 6, 7, 8, 9, 10, 11, 12, 13, 14] ?_
     try simp (disch := omega) only [go_sem, Nat.reduceEqDiff, Nat.reduceAdd, Nat.reduceSub, Int.reduceAdd, Int.reduceSub, Int.reduceToNat, hg]
     refine qB (fun b1 => ?_) fun b1 => ?_
     ·try simp (disch := omega) only [go_sem, Nat.reduceEqDiff, Nat.reduceAdd, Nat.reduceSub, Int.reduceAdd, Int.reduceSub, Int.reduceToNat, hg]
      refine qKD (hH) (qA [18]) ?_
      refine qG ?_
      refine qB (fun b2 => ?_) fun b2 => ?_
      ·rw [show okNum w v = false by rw [okNum, b2, decide_eq_false (by omega)]; rfl, Bool.false_and] at g2
       subst g2
       refine qX ?_
       exact qF (qA [0, 1, 2, 3, 4, 5, 6, 7, 8, 9, 10, 11, 12, 13, 14, 15, 16, 17, 18, 19, 20])
      ·rw [show okNum w v = true by rw [okNum, b2, Bool.or_true], Bool.true_and] at g2
       refine qX ?_
       exact qN hN (i + 1) (qA [0, 1, 2, 3, 4, 5, 6, 7, 8, 9, 10, 11, 12, 13, 14, 15, 16, 17, 18, 19, 20, 21, 22, 23]) (by (try dsimp only); exact ⟨by omega, g2⟩)
     ·rw [show okNum w v = true by rw [okNum, decide_eq_true (by omega)]; rfl, Bool.true_and] at g2
      refine qG ?_
      exact qN hN (i + 1) (qA [0, 1, 2, 3, 4, 5, 6, 7, 8, 9, 10, 11, 12, 13, 14, 15, 16, 17, 18, 19, 20, 21, 22, 23]) (by (try dsimp only); exact ⟨by omega, g2⟩)
  ·rw [decide_eq_true c2] at hR
   simp only [Bool.not_true, Bool.and_false, Bool.false_and] at hR
   subst hR
   refine qX ?_
   exact qF (qA [0, 1, 2, 3, 4, 5, 6, 7, 8, 9, 10, 11, 12, 13, 14, 15, 16, 17, 18, 19, 20])
 ·rw [c1] at hR
  simp only [Bool.false_and] at hR
  subst hR
  refine qX ?_
  exact qF (qA [0, 1, 2, 3, 4, 5, 6, 7, 8, 9, 10, 11, 12, 13, 14, 15, 16, 17, 18, 19, 20])
def wroteB (w : WorldD) (side : Int) (t u : List UInt8) : WorldD := if side = 1 then { w with wroteA := w.wroteA ++ t, readA := w.readA ++ u } else { w with wroteB := w.wroteB ++ t, readB := w.readB ++ u }
theorem wroteB_1 (w : WorldD) (side : Int) (t : List UInt8) : wroteB w side t [] = wrote w side t := by
 rw [wroteB, wrote]; split <;> simp
theorem wroteB_2 (w : WorldD) (side : Int) (t : List UInt8) : wroteB w side [] t = gotRead w side t := by
 rw [wroteB, gotRead]; split <;> simp
structure SmallS (w : WorldD) : Prop where
 wa : w.wroteA.length ≤ 1099511627776
 wb : w.wroteB.length ≤ 1099511627776
 ra : w.readA.length ≤ 1099511627776
 rb : w.readB.length ≤ 1099511627776
theorem spec_l24Wrote (w : WorldD) (side : Int) (t u : List UInt8) (h : SmallS w) (ht : t.length ≤ 1048576) (hu : u.length ≤ 1048576) : CallA Tryz.prog 190 [.ag (w.cs 0), .sc (.int .i64 side), .sc (.st t), .sc (.st u)] (w.hp false) (.ag ((wroteB w side t u).cs 0)) (w.hp false) := by
 have h1 := h.wa
 have h2 := h.wb
 have h3 := h.ra
 have h4 := h.rb
 obtain ⟨R, hR⟩ : ∃ R, R = wroteB w side t u := ⟨_, rfl⟩
 rw [← hR]
 rw [wroteB] at hR
 refine qE Tryz.func190 Tryz.ntmps190 Tryz.results190 fun E hE => ?_
 refine qB (fun b => ?_) fun b => ?_
 ·rw [if_pos b] at hR
  subst hR
  refine qX ?_
  exact qF (qA [0, 1, 2, 3, 4, 5, 6, 7, 8, 9, 10, 11, 12, 13, 14, 15, 16, 17, 18, 19, 20])
 ·rw [if_neg b] at hR
  subst hR
  refine qX ?_
  exact qF (qA [0, 1, 2, 3, 4, 5, 6, 7, 8, 9, 10, 11, 12, 13, 14, 15, 16, 17, 18, 19, 20])
theorem spec_l24Out (l : List LetterD) (k : Nat) (hl : l.length ≤ 1048576) (hk : k < l.length) : CallA Tryz.prog 195 [.sc (.sl 0 0 l.length), .sc (.int .i64 (k : Nat))] [some ⟨l.map LetterD.cs, 19, 67, false, true⟩] (.sc (.sl 1 0 (l.length - 1))) [some ⟨l.map LetterD.cs, 19, 67, false, true⟩, some ⟨(l.take k ++ l.drop (k + 1)).map LetterD.cs, 19, 67, true, true⟩] := by
 have hlt : (l.take k).length = k := by simp; omega
 have hlt2 : (List.take k (List.map LetterD.cs l)).length = k := by simp; omega
 refine qE Tryz.func195 Tryz.ntmps195 Tryz.results195 fun E hE => ?_
 refine qX ?_
 refine den_fin (qA [0, 3]) (qC) _ (by simp only [go_sem]; rfl) (by rfl) (by rfl) ?_
 simp (disch := omega) only [go_sem, Nat.reduceEqDiff, Nat.reduceAdd, Nat.reduceSub, Int.reduceAdd, Int.reduceSub, Int.reduceToNat]
 try rw [← List.map_take]
 exact ⟨by omega, (del_cells hk).2⟩
end
section
open Go.RowKit

theorem rs_t {e : EndD} {k : Int} {n : Nat} (h : rsOk e k = true) (hk : k = (n : Int)) (hn : n < e.subs.length) :
  resetE e k = ({ e with subs := setState e.subs n 4 }, [between e.subs[n].road { letNone with kind := 13, sgn := e.subs[n].give }]) := by
 rw [resetE, if_pos h, hk, Int.toNat_natCast, subAtN_at hn]
theorem rs_f {e : EndD} {k : Int} (h : rsOk e k = false) : resetE e k = (e, []) := by rw [resetE, if_neg (by simp [h])]
theorem rs_at {e : EndD} {n : Nat} (hn : n < e.subs.length) : rsOk e (n : Int) = (endOk e && decide (e.subs[n].state = 3)) := by
 rw [rsOk, Int.toNat_natCast, subAtN_at hn, show inR (n : Int) 0 ((e.subs.length : Int) - 1) = true by simp only [inR, Bool.and_eq_true, decide_eq_true_eq]; omega, Bool.and_true]
theorem rs_out {e : EndD} {k : Int} (h : inR k 0 ((e.subs.length : Int) - 1) = false) : rsOk e k = false := by simp [rsOk, h]
theorem endOk_own {e : EndD} (h : endOk e = true) : e.own.length ≤ 6 := by
 simp only [endOk, Bool.and_eq_true] at h
 exact addrsOk_le (by simp_all)
theorem ao_f {e : EndD} {a : AddrD} (h : aoOk e a = false) : addOwn e a = (e, false) := by rw [addOwn, if_neg (by simp [h])]
theorem ao_t {e : EndD} {a : AddrD} (h : aoOk e a = true) : addOwn e a = ({ e with own := (putAddr e.own { a with told := false }).1 }, (putAddr e.own { a with told := false }).2) := by rw [addOwn, if_pos h]
theorem ao_t2 {e : EndD} {a : AddrD} (h : (putAddr e.own { a with told := false }).2 = false) : addOwn e a = (e, false) := by
 rw [addOwn]; split
 ·have : putAddr e.own { a with told := false } = (e.own, false) := by
   rw [putAddr] at h ⊢; split
   ·rename_i hh; rw [if_pos hh] at h; cases h
   ·rfl
  rw [this]
 ·rfl
theorem spec_Reset (e : EndD) (k : Int) (hs : Small e) : CallA Tryz.prog 192 [.ag (e.cs 0), .sc (.int .i64 k)] (e.hp false) (.tu [.ag ((resetE e k).1.cs 7), .sc (.sl 14 0 (resetE e k).2.length)])
  (e.hp false ++ ((resetE e k).1.hp true ++ [some ⟨(resetE e k).2.map LetterD.cs, 19, 67, true, true⟩])) := by
 have hC := spec_l17Copy e (by have := hs.own; omega) (by have := hs.far; omega) (by have := hs.subs; omega) (by have := hs.halfs; omega) (by have := hs.list; omega) (by have := hs.done; omega) (by have := hs.over; omega)
 have hK := spec_EndOk e (by have := hs.own; omega) (by have := hs.far; omega) (by have := hs.subs; omega) (by have := hs.halfs; omega) (by have := hs.list; omega) (by have := hs.done; omega) (by have := hs.over; omega)
 have hsub := hs.subs
 have hf := rs_f (e := e) (k := k)
 have ht := @rs_t e k
 have hI := spec_l01In k 0 ((e.subs.length : Int) - 1)
 refine qEO Tryz.func192 Tryz.ntmps192 Tryz.results192 fun E hE => ?_
 refine qK (hC) (qA [0, 1, 2, 3, 4, 5, 6]) ?_
 refine qK (hK) (qA [0, 1, 2, 3, 4, 5, 6]) ?_
 refine qB (fun b1 => ?_) fun b1 => ?_
 ·refine qK (hI) [] ?_
  cases hin : inR k 0 ((e.subs.length : Int) - 1) with
  | false =>
   rw [hf (rs_out hin)]
   refine qX ?_
   exact qFO (qA [0, 1, 2, 3, 4, 5, 6, 9, 10, 11, 12, 13, 14, 15, 17])
  | true =>
   simp only [inR, Bool.and_eq_true, decide_eq_true_eq] at hin
   obtain ⟨n, rfl⟩ := Int.eq_ofNat_of_zero_le hin.1
   have hn : n < e.subs.length := by omega
   have hg := map_get (enc := SubD.cs) hn
   have hok := rs_at (e := e) hn
   rw [b1, Bool.true_and] at hok
   try simp (disch := omega) only [go_sem, Nat.reduceEqDiff, Nat.reduceAdd, Nat.reduceSub, Int.reduceAdd, Int.reduceSub, Int.reduceToNat, hg]
   refine qB (fun b2 => ?_) fun b2 => ?_
   ·rw [hf (by rw [hok]; simp [b2])]
    refine qX ?_
    exact qFO (qA [0, 1, 2, 3, 4, 5, 6, 9, 10, 11, 12, 13, 14, 15, 17])
   ·rw [ht (by rw [hok]; simp [b2]) rfl hn]
    have hset : setState e.subs n 4 = e.subs.set n { e.subs[n] with state := 4 } := by rw [setState, subAtN_at hn]
    rw [hset]
    have hms := map_set' (f := SubD.cs) (l := e.subs) (k := n) (v := { e.subs[n] with state := 4 }) rfl
    simp only [SubD.cs] at hms
    try simp (disch := omega) only [go_sem, Nat.reduceEqDiff, Nat.reduceAdd, Nat.reduceSub, Int.reduceAdd, Int.reduceSub, Int.reduceToNat, hg]
    refine den_drawX [(0, 17), (15, 0), (16, 0)] [(15, 16), (15, 17), (16, 17)] [[1, 2, 3, 4, 5, 6, 7, 8, 9, 10, 11, 12, 13, 14, 15, 16, 0, 17, 18, 19], [1, 2, 3, 4, 5, 6, 7, 8, 9, 10, 11, 12, 13, 14, 15, 0, 16, 17, 18, 19], [1, 2, 3, 4, 5, 6, 7, 8, 9, 10, 11, 12, 13, 14, 0, 15, 16, 17, 18, 19], [1, 2, 3, 4, 5, 6, 7, 8, 9, 10, 11, 12, 13, 14, 15, 16, 17, 0, 18, 19]] 7 hE (fun s => s.at [7, 39, 40, 41, 42, 43, 44, 45, 46, 47, 48, 49, 50, 51, 52, 53, 54, 55, 56] [(5, .sc (.sl 18 0 1))] (((s.hp.set 8 (some ⟨[[.int .i64 e.side, .int .i64 e.state, .int .i64 e.key, .int .i64 e.peer, .int .i64 e.policy.kind, .int .i64 e.policy.many, .sl 9 0 e.own.length, .sl 10 0 e.far.length, .sl 11 0 e.subs.length, .sl 12 0 e.halfs.length, .int .i64 e.bucket.rate, .int .i64 e.bucket.burst, .int .i64 e.bucket.cur, .st e.out.text, .int .i64 e.out.base, .int .i64 e.out.sent, .int .i64 e.out.room, .int .i64 e.inp.read, .st e.inp.ready, .sl 13 0 e.inp.list.length, .sl 14 0 e.done.length, .sl 15 0 e.over.length, .int .i64 e.draw, .int .i64 e.now, .int .i64 e.pick]], 25, 38, true, false⟩)).set 17 none) ++ [some ⟨[(between e.subs[n].road { letNone with kind := 13, sgn := e.subs[n].give }).cs], 19, 67, true, true⟩])) (by kernel_rfl) (qC) (by kernel_rfl) ?_ (run_den 400 ?_)
    rotate_left
    rotate_right
    simp only [allDn]
    refine ⟨runD_den 400 ?_, runD_den 400 ?_, runD_den 400 ?_, runD_den 400 ?_⟩
    ·simp (disch := omega) only [go_sem, hg]
     refine qKD (spec_Between e.subs[n].road { letNone with kind := 13, sgn := e.subs[n].give }) [] ?_
     refine ⟨qC, (qA [0, 1, 2, 3, 4, 5, 6, 7, 8, 9, 10, 11, 12, 13, 14, 15, 16, 17, 19]), weak_mkO (by rfl) (by rfl) ?_⟩
     try simp (disch := omega) only [go_sem, Nat.reduceEqDiff, Nat.reduceAdd, Nat.reduceSub, Int.reduceAdd, Int.reduceSub, Int.reduceToNat]
     try rfl
    ·simp (disch := omega) only [go_sem, hg]
     refine qKD (spec_Between e.subs[n].road { letNone with kind := 13, sgn := e.subs[n].give }) [] ?_
     refine ⟨qC, (qA [0, 1, 2, 3, 4, 5, 6, 7, 8, 9, 10, 11, 12, 13, 14, 15, 16, 17, 19]), weak_mkO (by rfl) (by rfl) ?_⟩
     try simp (disch := omega) only [go_sem, Nat.reduceEqDiff, Nat.reduceAdd, Nat.reduceSub, Int.reduceAdd, Int.reduceSub, Int.reduceToNat]
     try rfl
    ·simp (disch := omega) only [go_sem, hg]
     refine qKD (spec_Between e.subs[n].road { letNone with kind := 13, sgn := e.subs[n].give }) [] ?_
     refine ⟨qC, (qA [0, 1, 2, 3, 4, 5, 6, 7, 8, 9, 10, 11, 12, 13, 14, 15, 16, 17, 19]), weak_mkO (by rfl) (by rfl) ?_⟩
     try simp (disch := omega) only [go_sem, Nat.reduceEqDiff, Nat.reduceAdd, Nat.reduceSub, Int.reduceAdd, Int.reduceSub, Int.reduceToNat]
     try rfl
    ·simp (disch := omega) only [go_sem, hg]
     refine qKD (spec_Between e.subs[n].road { letNone with kind := 13, sgn := e.subs[n].give }) [] ?_
     refine ⟨qC, (qA [0, 1, 2, 3, 4, 5, 6, 7, 8, 9, 10, 11, 12, 13, 14, 15, 16, 17, 19]), weak_mkO (by rfl) (by rfl) ?_⟩
     try simp (disch := omega) only [go_sem, Nat.reduceEqDiff, Nat.reduceAdd, Nat.reduceSub, Int.reduceAdd, Int.reduceSub, Int.reduceToNat]
     try rfl
    refine qX ?_
    refine den_finO (qA [0, 1, 2, 3, 4, 5, 6, 9, 10, 11, 12, 13, 14, 15, 18]) (qC) _ (by simp only [go_sem]; rfl) (by rfl) (by rfl) ?_
    simp (disch := omega) only [go_sem, Nat.reduceEqDiff, Nat.reduceAdd, Nat.reduceSub, Int.reduceAdd, Int.reduceSub, Int.reduceToNat]
    exact ⟨by simp, hms⟩
 ·rw [hf (by simp [rsOk, b1])]
  refine qX ?_
  exact qFO (qA [0, 1, 2, 3, 4, 5, 6, 9, 10, 11, 12, 13, 14, 15, 17])
theorem spec_AddOwn (e : EndD) (a : AddrD) (hs : Small e) : CallA Tryz.prog 153 [.ag (e.cs 0), .ag a.cs] (e.hp false) (.tu [.ag ((addOwn e a).1.cs 7), .sc (.bo (addOwn e a).2)]) (e.hp false ++ (addOwn e a).1.hp true) := by
 have hC := spec_l17Copy e (by have := hs.own; omega) (by have := hs.far; omega) (by have := hs.subs; omega) (by have := hs.halfs; omega) (by have := hs.list; omega) (by have := hs.done; omega) (by have := hs.over; omega)
 have hK := spec_EndOk e (by have := hs.own; omega) (by have := hs.far; omega) (by have := hs.subs; omega) (by have := hs.halfs; omega) (by have := hs.list; omega) (by have := hs.done; omega) (by have := hs.over; omega)
 have hA := spec_AddrAt e.own a.id (by have := hs.own; omega)
 have hH := spec_l15Has e.done a.id (by have := hs.done; omega)
 have hP := fun h => spec_PutAddr e.own { a with told := false } h
 have hf := ao_f (e := e) (a := a)
 have ht := ao_t (e := e) (a := a)
 have ht2 := ao_t2 (e := e) (a := a)
 have hok : aoOk e a = (endOk e && decide (addrAt e.own a.id < 0) && !hasI e.done a.id) := rfl
 generalize addOwn e a = R at *
 generalize putAddr e.own { a with told := false } = pa at *
 obtain ⟨own1, ok1⟩ := pa
 dsimp only at hP ht ht2
 refine qEO Tryz.func153 Tryz.ntmps153 Tryz.results153 fun E hE => ?_
 refine qK (hC) (qA [0, 1, 2, 3, 4, 5, 6]) ?_
 refine qK (hP (by have := hs.own; omega)) (qA [0]) ?_
 refine qK (hK) (qA [0, 1, 2, 3, 4, 5, 6]) ?_
 refine qB (fun b1 => ?_) fun b1 => ?_
 ·cases ok1 with
  | false =>
   rw [ht2 rfl]
   refine qX ?_
   exact qFO (qA [0, 1, 2, 3, 4, 5, 6, 10, 11, 12, 13, 14, 15, 16])
  | true =>
   refine qX ?_
   refine qK (hA) (qA [0]) ?_
   refine qB (fun b2 => ?_) fun b2 => ?_
   ·refine qK (hH) (qA [5]) ?_
    refine qB (fun b3 => ?_) fun b3 => ?_
    ·rw [hf (by rw [hok]; simp [b3])]
     refine qX ?_
     exact qFO (qA [0, 1, 2, 3, 4, 5, 6, 10, 11, 12, 13, 14, 15, 16])
    ·rw [ht (by rw [hok, b1, decide_eq_true (by omega), b3]; rfl)]
     refine qX ?_
     exact qFO (qA [0, 1, 2, 3, 4, 5, 6, 18, 11, 12, 13, 14, 15, 16])
   ·rw [hf (by rw [hok, decide_eq_false (by omega)]; simp)]
    refine qX ?_
    exact qFO (qA [0, 1, 2, 3, 4, 5, 6, 10, 11, 12, 13, 14, 15, 16])
 ·rw [hf (by simp [hok, b1])]
  refine qX ?_
  exact qFO (qA [0, 1, 2, 3, 4, 5, 6, 10, 11, 12, 13, 14, 15, 16])
end
section
open Go.RowKit

theorem writeAll_len (e : EndD) (t : List UInt8) : (writeAll e t).2.length ≤ 3 := pushN_len
theorem write_small {e : EndD} {t : List UInt8} (hs : Small e) : Small (write e t).1 := by
 rw [write]; split
 ·exact ⟨hs.own, hs.far, hs.subs, hs.halfs, hs.list, hs.done, hs.over⟩
 ·exact hs
theorem writeAll_small {e : EndD} {t : List UInt8} (hs : Small e) : Small (writeAll e t).1 := pushN_small (write_small hs)
theorem readE_small {e : EndD} {m : Int} (hs : Small e) : Small (readE e m).1 := by
 rw [readE]; split
 ·refine ⟨hs.own, hs.far, hs.subs, hs.halfs, ?_, hs.done, hs.over⟩
  dsimp only
  rw [takeReady]; split <;> exact hs.list
 ·exact hs
theorem addOwn_small {e : EndD} {a : AddrD} (hs : Small e) : Small (addOwn e a).1 := by
 rw [addOwn]; split
 ·exact ⟨putAddr_le hs.own, hs.far, hs.subs, hs.halfs, hs.list, hs.done, hs.over⟩
 ·exact hs
theorem resetE_small {e : EndD} {k : Int} (hs : Small e) : Small (resetE e k).1 := by
 rw [resetE]; split
 ·exact ⟨hs.own, hs.far, by simpa only [setState, List.length_set] using hs.subs, hs.halfs, hs.list, hs.done, hs.over⟩
 ·exact hs
theorem resetE_len (e : EndD) (k : Int) : (resetE e k).2.length ≤ 1 := by rw [resetE]; split <;> simp
theorem dropOwn_small {e : EndD} {n : Int} (hs : Small e) : Small (dropOwn e n).1 := by
 rw [dropOwn]; split
 ·rename_i h
  simp only [doOk, Bool.and_eq_true] at h
  have := (endOk_ids h.1.1).1
  exact ⟨dropAddr_le hs.own, hs.far, by simpa only [dropSubs, List.length_map] using hs.subs, hs.halfs, hs.list, by have := putI_len e.done n; dsimp only; omega, hs.over⟩
 ·exact hs
theorem dropOwn_len (e : EndD) (n : Int) (hs : Small e) : (dropOwn e n).2.length ≤ 1048576 := by
 rw [dropOwn]; split
 ·rw [List.length_map]
  have := onN_len (dropSubs e n)
  have h2 : (dropSubs e n).length = e.subs.length := by rw [dropSubs, List.length_map]
  have := hs.subs
  omega
 ·simp
theorem manGo_small {far : List AddrD} : ∀ {l : List RoadD} {e : EndD}, Small e → Small (manGo far e l).1
 | [], _, h => h
 | r :: l, e, h => manGo_small (l := l) (join_small h)
theorem manGo_len {far : List AddrD} : ∀ {l : List RoadD} {e : EndD}, (manGo far e l).2.length ≤ l.length
 | [], _ => Nat.le_refl _
 | r :: l, e => by
  have h1 := join_one e r (spareOf far r.far)
  have h2 := manGo_len (far := far) (l := l) (e := (join e r (spareOf far r.far)).1)
  rw [show (manGo far e (r :: l)).2 = (join e r (spareOf far r.far)).2 ++ (manGo far (join e r (spareOf far r.far)).1 l).2 from rfl, List.length_append, List.length_cons]
  omega
theorem manage_small {e : EndD} (hs : Small e) : Small (manage e).1 := by
 rw [manage]; split
 ·exact manGo_small hs
 ·exact hs
theorem manage_len (e : EndD) : (manage e).2.length ≤ 64 := by
 rw [manage]; split
 ·exact Nat.le_trans manGo_len (missing_le64 _ _)
 ·simp
theorem tick_small {e : EndD} (hs : Small e) : Small (tick e).1 := by
 have hy := younger_le e.halfs (e.now + 1)
 have := hs.halfs
 rw [tick]; split
 ·split
  ·rw [tickEnd]; exact pushN_small ⟨hs.own, hs.far, by dsimp only; rw [List.length_map]; exact hs.subs, by dsimp only [tick0]; omega, hs.list, hs.done, hs.over⟩
  ·rw [tickEnd]; exact pushN_small ⟨hs.own, hs.far, hs.subs, by dsimp only [tick0]; omega, hs.list, hs.done, hs.over⟩
 ·exact hs
theorem tickEnd_len (e : EndD) (l : List LetterD) : (tickEnd e l).2.length ≤ l.length + e.own.length + 3 := by
 have h1 := tellAddrs_le e
 have h2 := pushN_len (k := 3) (e := e)
 rw [tickEnd]
 simp only [List.length_append]
 omega
theorem tick_len (e : EndD) : (tick e).2.length ≤ 64 := by
 rw [tick]; split
 ·rename_i h
  simp only [tkE, Bool.and_eq_true] at h
  have h8 := endOk_subs h.1.1
  have h6 := endOk_own h.1.1
  have hfl : (e.subs.flatMap (tickL e)).length ≤ e.subs.length := flat_le (tickL_one e) _
  split
  ·refine Nat.le_trans (tickEnd_len _ _) ?_
   show (e.subs.flatMap (tickL e)).length + e.own.length + 3 ≤ 64
   omega
  ·refine Nat.le_trans (tickEnd_len _ _) ?_
   show 0 + e.own.length + 3 ≤ 64
   omega
 ·simp
structure SmallD (w : WorldD) : Prop where
 p : SmallWP w
 s : SmallS w
 oa : w.a.out.text.length ≤ 1048576
 ob : w.b.out.text.length ≤ 1048576
theorem write_text {e : EndD} {t : List UInt8} (h : e.out.text.length ≤ 1048576) : (write e t).1.out.text.length ≤ 1048576 := by
 rw [write]; split
 ·dsimp only
  rw [accept]; split
  ·rename_i ho
   simp only [accOk, Bool.and_eq_true] at ho
   have F := outOk_fine ho.1
   have := accN_room (t := t) F
   have := F.room
   dsimp only
   rw [List.length_append, List.length_take]
   omega
  ·exact h
 ·exact h
theorem readE_len {e : EndD} {m : Int} (h : SmallP e.inp) : (readE e m).2.length ≤ 1048576 := by
 have := h.ready
 rw [readE]; split
 ·dsimp only
  rw [takeReady]; split
  ·dsimp only; rw [List.length_take]; omega
  ·simp
 ·simp
end
section
open Go.RowKit

end
section
open Go.RowKit

theorem GoodE.io {e e' : EndD} (h : GoodE e) (hs : Small e') (hi : e'.inp = e.inp) (ho : e'.out.text = e.out.text) : GoodE e' := ⟨hs, by rw [hi]; exact h.p, by rw [ho]; exact h.o⟩
theorem pushN_good {k : Nat} {e : EndD} (h : GoodE e) : GoodE (pushN k e).1 := h.io (pushN_small h.s) pushN_inp pushN_text
theorem write_inp (e : EndD) (t : List UInt8) : (write e t).1.inp = e.inp := by rw [write]; split <;> rfl
theorem writeAll_good {e : EndD} {t : List UInt8} (h : GoodE e) : GoodE (writeAll e t).1 := by
 rw [writeAll]
 exact pushN_good ⟨write_small h.s, by rw [write_inp]; exact h.p, write_text h.o⟩
theorem take_small {p : PiecesD} {m : Int} (h : SmallP p) : SmallP (takeReady p m).1 := by
 rw [takeReady]; split
 ·exact ⟨h.list, by have := h.ready; simp only [List.length_drop]; omega, h.texts⟩
 ·exact h
theorem readE_good {e : EndD} {m : Int} (h : GoodE e) : GoodE (readE e m).1 := by
 have hs := readE_small (m := m) h.s
 rw [readE] at hs ⊢; split at hs
 ·rename_i hk; rw [if_pos hk]; exact ⟨hs, take_small h.p, h.o⟩
 ·rename_i hk; rw [if_neg hk]; exact h
theorem anew_text (o : OutD) : (anew o).text = o.text := by rw [anew]; split <;> rfl
theorem tick_good {e : EndD} (h : GoodE e) : GoodE (tick e).1 := by
 have hs := tick_small h.s
 refine h.io hs ?_ ?_
 ·rw [tick]; split
  ·split
   ·rw [tickEnd]; exact pushN_inp
   ·rw [tickEnd]; exact pushN_inp
  ·rfl
 ·rw [tick]; split
  ·split
   ·rw [tickEnd]; exact pushN_text.trans (anew_text _)
   ·rw [tickEnd]; exact pushN_text.trans (anew_text _)
  ·rfl
theorem join_io (e : EndD) (r : RoadD) (b : Bool) : (join e r b).1.inp = e.inp ∧ (join e r b).1.out = e.out := by rw [join]; split <;> exact ⟨rfl, rfl⟩
theorem manGo_io {far : List AddrD} : ∀ {l : List RoadD} {e : EndD}, (manGo far e l).1.inp = e.inp ∧ (manGo far e l).1.out = e.out
 | [], e => ⟨rfl, rfl⟩
 | r :: l, e => by
  have h1 := join_io e r (spareOf far r.far)
  have h2 := manGo_io (far := far) (l := l) (e := (join e r (spareOf far r.far)).1)
  exact ⟨h2.1.trans h1.1, h2.2.trans h1.2⟩
theorem manage_good {e : EndD} (h : GoodE e) : GoodE (manage e).1 := by
 have hs := manage_small h.s
 have hio : (manage e).1.inp = e.inp ∧ (manage e).1.out = e.out := by
  rw [manage]; split
  ·exact manGo_io
  ·exact ⟨rfl, rfl⟩
 exact h.io hs hio.1 (by rw [hio.2])
theorem addOwn_good {e : EndD} {a : AddrD} (h : GoodE e) : GoodE (addOwn e a).1 := by
 refine h.io (addOwn_small h.s) ?_ ?_ <;> (rw [addOwn]; split <;> rfl)
theorem resetE_good {e : EndD} {k : Int} (h : GoodE e) : GoodE (resetE e k).1 := by
 refine h.io (resetE_small h.s) ?_ ?_ <;> (rw [resetE]; split <;> rfl)
theorem dropOwn_good {e : EndD} {n : Int} (h : GoodE e) : GoodE (dropOwn e n).1 := by
 refine h.io (dropOwn_small h.s) ?_ ?_ <;> (rw [dropOwn]; split <;> rfl)
theorem actE_good {e : EndD} {a : ActD} (h : GoodE e) : GoodE (actE e a).1 := by
 rw [actE]
 split
 ·exact writeAll_good h
 split
 ·exact readE_good h
 split
 ·exact tick_good h
 split
 ·exact manage_good h
 split
 ·exact addOwn_good h
 split
 ·exact dropOwn_good h
 ·exact resetE_good h
structure GoodW (w : WorldD) (k : Nat) : Prop where
 a : GoodE w.a
 b : GoodE w.b
 r : SmallP2 w
 wa : w.wroteA.length ≤ 2000000 * k
 wb : w.wroteB.length ≤ 2000000 * k
 ra : w.readA.length ≤ 2000000 * k
 rb : w.readB.length ≤ 2000000 * k
theorem GoodW.s {w : WorldD} {k : Nat} (h : GoodW w k) : SmallW w := ⟨h.a.s, h.b.s, h.r.bag, h.r.past, h.r.keys, h.r.tags, h.r.nums, h.r.ansA, h.r.ansB⟩
theorem GoodW.d {w : WorldD} {k : Nat} (h : GoodW w k) (hk : k ≤ 1000) : SmallD w :=
 ⟨⟨h.s, h.a.p, h.b.p⟩, ⟨by have := h.wa; omega, by have := h.wb; omega, by have := h.ra; omega, by have := h.rb; omega⟩, h.a.o, h.b.o⟩
theorem GoodW.up {w : WorldD} {k : Nat} (h : GoodW w k) : GoodW w (k + 1) := ⟨h.a, h.b, h.r, by have := h.wa; omega, by have := h.wb; omega, by have := h.ra; omega, by have := h.rb; omega⟩
theorem postL_ends2 {side : Int} : ∀ {l : List LetterD} {w : WorldD}, (postL side w l).a = w.a ∧ (postL side w l).b = w.b ∧ (postL side w l).wroteA = w.wroteA ∧ (postL side w l).wroteB = w.wroteB ∧ (postL side w l).readA = w.readA ∧ (postL side w l).readB = w.readB
 | [], w => ⟨rfl, rfl, rfl, rfl, rfl, rfl⟩
 | x :: l, w => by
  obtain ⟨h1, h2, h3, h4, h5, h6⟩ := postL_ends2 (side := side) (l := l) (w := post1 side w x)
  obtain ⟨g1, g2, g3, g4, g5, g6⟩ := post1_ends (side := side) (w := w) (x := x)
  exact ⟨h1.trans g1, h2.trans g2, h3.trans g3, h4.trans g4, h5.trans g5, h6.trans g6⟩
theorem postL_good {side : Int} {l : List LetterD} {w : WorldD} {k : Nat} (h : GoodW w k) : GoodW (postL side w l) k := by
 obtain ⟨h1, h2, h3, h4, h5, h6⟩ := postL_ends2 (side := side) (l := l) (w := w)
 exact ⟨by rw [h1]; exact h.a, by rw [h2]; exact h.b, postL_small h.r, by rw [h3]; exact h.wa, by rw [h4]; exact h.wb, by rw [h5]; exact h.ra, by rw [h6]; exact h.rb⟩
theorem setEnd_good {w : WorldD} {s : Int} {e : EndD} {k : Nat} (h : GoodW w k) (he : GoodE e) : GoodW (setEnd w s e) k := by
 unfold setEnd; split
 ·exact ⟨he, h.b, ⟨h.r.bag, h.r.past, h.r.keys, h.r.tags, h.r.nums, h.r.ansA, h.r.ansB⟩, h.wa, h.wb, h.ra, h.rb⟩
 ·exact ⟨h.a, he, ⟨h.r.bag, h.r.past, h.r.keys, h.r.tags, h.r.nums, h.r.ansA, h.r.ansB⟩, h.wa, h.wb, h.ra, h.rb⟩
theorem endZero_good : GoodE endZero := ⟨⟨by decide, by decide, by decide, by decide, by decide, by decide, by decide⟩, ⟨by decide, by decide, fun x hx => by simp [endZero] at hx⟩, by decide⟩
theorem endAt_good {w : WorldD} {s : Int} {k : Nat} (h : GoodW w k) : GoodE (endAt w s) := by
 unfold endAt; repeat' split
 ·exact h.a
 ·exact h.b
 ·exact endZero_good
theorem posted_good {side : Int} {l : List LetterD} {w : WorldD} {k : Nat} (h : GoodW w k) : GoodW (posted w side l) k := by
 rw [posted]; split
 ·exact postL_good h
 ·exact h
theorem lands_good {w : WorldD} {x : LetterD} {k : Nat} (h : GoodW w k) : GoodW (lands w x) k := by
 rw [lands]; split
 ·exact h
 ·exact posted_good (setEnd_good h (hear_good (endAt_good h)))
theorem bag_good {w : WorldD} {b : List LetterD} {k : Nat} (h : GoodW w k) (hb : b.length ≤ 1048576) : GoodW { w with bag := b } k :=
 ⟨h.a, h.b, ⟨hb, h.r.past, h.r.keys, h.r.tags, h.r.nums, h.r.ansA, h.r.ansB⟩, h.wa, h.wb, h.ra, h.rb⟩
theorem bagOut_le2 (l : List LetterD) (n : Int) (h : l.length ≤ 1048576) : (bagOut l n).length ≤ 1048576 := by
 simp only [bagOut, List.length_append, List.length_take, List.length_drop]; omega
theorem actW_good {w : WorldD} {a : ActD} {k : Nat} (h : GoodW w k) (ha : a.text.length ≤ 1048576) : GoodW (actW w a) (k + 1) := by
 have hr := readE_len (m := a.many) (endAt_good (s := a.side) h).p
 have h1 := h.wa
 have h2 := h.wb
 have h3 := h.ra
 have h4 := h.rb
 have hu := h.up
 unfold actW wrote gotRead; repeat' split
 ·exact ⟨h.a, h.b, ⟨h.r.bag, h.r.past, h.r.keys, h.r.tags, h.r.nums, h.r.ansA, h.r.ansB⟩, by simp only [List.length_append, List.length_take]; omega, hu.wb, hu.ra, hu.rb⟩
 ·exact ⟨h.a, h.b, ⟨h.r.bag, h.r.past, h.r.keys, h.r.tags, h.r.nums, h.r.ansA, h.r.ansB⟩, hu.wa, by simp only [List.length_append, List.length_take]; omega, hu.ra, hu.rb⟩
 ·exact ⟨h.a, h.b, ⟨h.r.bag, h.r.past, h.r.keys, h.r.tags, h.r.nums, h.r.ansA, h.r.ansB⟩, hu.wa, hu.wb, by simp only [List.length_append]; omega, hu.rb⟩
 ·exact ⟨h.a, h.b, ⟨h.r.bag, h.r.past, h.r.keys, h.r.tags, h.r.nums, h.r.ansA, h.r.ansB⟩, hu.wa, hu.wb, hu.ra, by simp only [List.length_append]; omega⟩
 ·exact hu
theorem doneW_good {w : WorldD} {a : ActD} {k : Nat} (h : GoodW w k) (ha : a.text.length ≤ 1048576) : GoodW (doneW w a).1 (k + 1) := by
 have hb := bagOut_le2 w.bag a.pos h.r.bag
 have hl := h.r.bag
 unfold doneW; split
 ·split
  ·unfold acts; split
   ·exact h.up
   ·exact postL_good (setEnd_good (actW_good h ha) (actE_good (endAt_good h)))
  ·unfold moves; repeat' split
   all_goals first
    | exact h.up
    | exact (lands_good (bag_good h hb)).up
    | exact (bag_good h hb).up
    | exact (bag_good h (by simp only [List.length_append, List.length_singleton]; omega)).up
 ·exact h.up
end
section
open Go.RowKit

def FewE (e : EndD) : Prop := e.subs.length ≤ 100 ∧ e.far.length ≤ 100
theorem putAddr_few {l : List AddrD} {a : AddrD} (hl : l.length ≤ 100) : (putAddr l a).1.length ≤ 100 := by
 rw [putAddr]; split
 ·rename_i hh; have := addrsOk_le hh; dsimp only; omega
 ·exact hl
theorem dropAddr_few {l : List AddrD} {n : Int} (hl : l.length ≤ 100) : (dropAddr l n).1.length ≤ 100 := by
 rw [dropAddr]; split
 ·exact hl
 ·simp only [List.length_append, List.length_take, List.length_drop]; omega
theorem hear_few {e : EndD} {x : LetterD} (h : FewE e) : FewE (hear e x).1 := by
 obtain ⟨h1, h2⟩ := h
 refine hear_all (Q := fun r => FewE r.1) ⟨h1, h2⟩ ?_ ?_ ?_ ?_ ?_ ?_ ?_ ?_ ?_ ?_ ?_ ?_
 ·rw [hearHello]; split
  ·rename_i hk
   simp only [helloOk, Bool.and_eq_true, decide_eq_true_eq] at hk
   exact ⟨by simp only [List.length_append, List.length_singleton]; omega, by simp [farOne]⟩
  ·exact ⟨h1, h2⟩
 ·rw [hearBack]; split
  ·exact ⟨by simpa only [List.length_set] using h1, by simp [farOne]⟩
  ·exact ⟨h1, h2⟩
 ·rw [hearJoin]; split
  ·split <;> exact ⟨h1, h2⟩
  ·exact ⟨h1, h2⟩
 ·rw [hearJoinBack]; split
  ·exact ⟨by simpa only [List.length_set] using h1, h2⟩
  ·exact ⟨h1, h2⟩
 ·rw [hearJoinDone]; split
  ·split
   ·rename_i hk
    simp only [jdA, Bool.and_eq_true, decide_eq_true_eq] at hk
    refine ⟨?_, h2⟩
    dsimp only
    split <;> simp only [setState, List.length_append, List.length_set, List.length_singleton] <;> omega
   ·split <;> exact ⟨h1, h2⟩
  ·exact ⟨h1, h2⟩
 ·rw [hearJoinAck]; dsimp only; split
  ·exact ⟨by simpa only [setState, List.length_set] using h1, h2⟩
  ·exact ⟨h1, h2⟩
 ·rw [hearAddr]; split
  ·exact ⟨h1, putAddr_few h2⟩
  ·exact ⟨h1, h2⟩
 ·rw [hearEcho]; dsimp only; split <;> exact ⟨h1, h2⟩
 ·rw [hearGone]; dsimp only; split
  ·exact ⟨by simpa only [List.length_map] using h1, dropAddr_few h2⟩
  ·exact ⟨h1, h2⟩
 ·rw [hearData]; split <;> exact ⟨h1, h2⟩
 ·rw [hearCame]; dsimp only; split <;> exact ⟨h1, h2⟩
 ·rw [hearReset]; dsimp only; split
  ·exact ⟨by simpa only [setState, List.length_set] using h1, h2⟩
  ·exact ⟨h1, h2⟩
theorem push_few {e : EndD} (h : FewE e) : FewE (push e).1 := by
 rw [push]; split <;> exact h
theorem pushN_few : ∀ {k : Nat} {e : EndD}, FewE e → FewE (pushN k e).1
 | 0, _, h => h
 | k + 1, e, h => pushN_few (k := k) (push_few h)
theorem write_few {e : EndD} {t : List UInt8} (h : FewE e) : FewE (write e t).1 := by
 rw [write]; split <;> exact h
theorem readE_few {e : EndD} {m : Int} (h : FewE e) : FewE (readE e m).1 := by
 rw [readE]; split <;> exact h
theorem tick_few {e : EndD} (h : FewE e) : FewE (tick e).1 := by
 obtain ⟨h1, h2⟩ := h
 rw [tick]; split
 ·split
  ·rw [tickEnd]; exact pushN_few ⟨by dsimp only; rw [List.length_map]; exact h1, h2⟩
  ·rw [tickEnd]; exact pushN_few ⟨h1, h2⟩
 ·exact ⟨h1, h2⟩
theorem join_few {e : EndD} {r : RoadD} {b : Bool} (h : FewE e) : FewE (join e r b).1 := by
 obtain ⟨h1, h2⟩ := h
 rw [join]; split
 ·rename_i hk
  simp only [jnOk, Bool.and_eq_true, decide_eq_true_eq] at hk
  exact ⟨by simp only [List.length_append, List.length_singleton]; omega, h2⟩
 ·exact ⟨h1, h2⟩
theorem manGo_few {far : List AddrD} : ∀ {l : List RoadD} {e : EndD}, FewE e → FewE (manGo far e l).1
 | [], _, h => h
 | r :: l, e, h => manGo_few (l := l) (join_few h)
theorem manage_few {e : EndD} (h : FewE e) : FewE (manage e).1 := by
 rw [manage]; split
 ·exact manGo_few h
 ·exact h
theorem addOwn_few {e : EndD} {a : AddrD} (h : FewE e) : FewE (addOwn e a).1 := by
 rw [addOwn]; split <;> exact h
theorem resetE_few {e : EndD} {k : Int} (h : FewE e) : FewE (resetE e k).1 := by
 rw [resetE]; split
 ·exact ⟨by simpa only [setState, List.length_set] using h.1, h.2⟩
 ·exact h
theorem dropOwn_few {e : EndD} {n : Int} (h : FewE e) : FewE (dropOwn e n).1 := by
 rw [dropOwn]; split
 ·exact ⟨by simpa only [dropSubs, List.length_map] using h.1, h.2⟩
 ·exact h
theorem actE_few {e : EndD} {a : ActD} (h : FewE e) : FewE (actE e a).1 := by
 rw [actE]
 split
 ·rw [writeAll]; exact pushN_few (write_few h)
 split
 ·exact readE_few h
 split
 ·exact tick_few h
 split
 ·exact manage_few h
 split
 ·exact addOwn_few h
 split
 ·exact dropOwn_few h
 ·exact resetE_few h
def FewW (w : WorldD) : Prop := FewE w.a ∧ FewE w.b
theorem endZero_few : FewE endZero := ⟨by decide, by decide⟩
theorem endAt_few {w : WorldD} {s : Int} (h : FewW w) : FewE (endAt w s) := by
 unfold endAt; repeat' split
 ·exact h.1
 ·exact h.2
 ·exact endZero_few
theorem setEnd_few {w : WorldD} {s : Int} {e : EndD} (h : FewW w) (he : FewE e) : FewW (setEnd w s e) := by
 unfold setEnd; split
 ·exact ⟨he, h.2⟩
 ·exact ⟨h.1, he⟩
theorem postL_few {side : Int} {l : List LetterD} {w : WorldD} (h : FewW w) : FewW (postL side w l) := by
 obtain ⟨h1, h2, _⟩ := postL_ends2 (side := side) (l := l) (w := w)
 exact ⟨by rw [h1]; exact h.1, by rw [h2]; exact h.2⟩
theorem lands_few {w : WorldD} {x : LetterD} (h : FewW w) : FewW (lands w x) := by
 rw [lands]; split
 ·exact h
 ·rw [posted]; split
  ·exact postL_few (setEnd_few h (hear_few (endAt_few h)))
  ·exact setEnd_few h (hear_few (endAt_few h))
theorem actW_few {w : WorldD} {a : ActD} (h : FewW w) : FewW (actW w a) := by
 unfold actW wrote gotRead; repeat' split
 all_goals exact h
theorem doneW_few {w : WorldD} {a : ActD} (h : FewW w) : FewW (doneW w a).1 := by
 unfold doneW; split
 ·split
  ·unfold acts; split
   ·exact h
   ·exact postL_few (setEnd_few (actW_few h) (actE_few (endAt_few h)))
  ·unfold moves; repeat' split
   all_goals first
    | exact h
    | exact lands_few (w := { w with bag := bagOut w.bag a.pos }) h
 ·exact h
end
section
open Go.RowKit

theorem leAt_get {l : List LetterD} {p : Nat} (h : p < l.length) : leAtN l (Int.toNat (p : Int)) = l[p] := by simp [leAtN, h]
theorem bagOut_eq (l : List LetterD) (p : Nat) : bagOut l (p : Int) = l.take p ++ l.drop (p + 1) := rfl
theorem bagOut_len {l : List LetterD} {p : Nat} (h : p < l.length) : (bagOut l (p : Int)).length = l.length - 1 := by
 rw [bagOut_eq, List.length_append, List.length_take, List.length_drop]; omega
theorem mv8_f {w : WorldD} {s m : Int} {p : Nat} {t : List UInt8} {ad : AddrD} {le : LetterD} (h : ¬ p < w.bag.length) : moves w ⟨8, s, (p : Nat), m, t, ad, le⟩ = (w, 1) := by
 unfold moves; dsimp only; rw [if_pos (.inl rfl), if_pos (by omega)]
theorem mv8_t {w : WorldD} {s m : Int} {p : Nat} {t : List UInt8} {ad : AddrD} {le : LetterD} (h : p < w.bag.length) : moves w ⟨8, s, (p : Nat), m, t, ad, le⟩ = (lands { w with bag := bagOut w.bag (p : Nat) } w.bag[p], 0) := by
 unfold moves; dsimp only; rw [if_pos (.inl rfl), if_neg (by omega), if_pos rfl, leAt_get h]
theorem mv9_f {w : WorldD} {s m : Int} {p : Nat} {t : List UInt8} {ad : AddrD} {le : LetterD} (h : ¬ p < w.bag.length) : moves w ⟨9, s, (p : Nat), m, t, ad, le⟩ = (w, 1) := by
 unfold moves; dsimp only; rw [if_pos (.inr rfl), if_pos (by omega)]
theorem mv9_t {w : WorldD} {s m : Int} {p : Nat} {t : List UInt8} {ad : AddrD} {le : LetterD} (h : p < w.bag.length) : moves w ⟨9, s, (p : Nat), m, t, ad, le⟩ = ({ w with bag := bagOut w.bag (p : Nat) }, 0) := by
 unfold moves; dsimp only; rw [if_pos (.inr rfl), if_neg (by omega), if_neg (by omega)]
theorem mv10_f {w : WorldD} {s m : Int} {p : Nat} {t : List UInt8} {ad : AddrD} {le : LetterD} (h : ¬ p < w.bag.length ∨ 40 ≤ w.bag.length) : moves w ⟨10, s, (p : Nat), m, t, ad, le⟩ = (w, 1) := by
 unfold moves; dsimp only; rw [if_neg (by omega), if_pos rfl, if_pos (by omega)]
theorem mv10_t {w : WorldD} {s m : Int} {p : Nat} {t : List UInt8} {ad : AddrD} {le : LetterD} (h : p < w.bag.length) (h2 : ¬ 40 ≤ w.bag.length) : moves w ⟨10, s, (p : Nat), m, t, ad, le⟩ = ({ w with bag := w.bag ++ [w.bag[p]] }, 0) := by
 unfold moves; dsimp only; rw [if_neg (by omega), if_pos rfl, if_neg (by omega), leAt_get h]
theorem mv11_f {w : WorldD} {s m p : Int} {t : List UInt8} {ad : AddrD} {le : LetterD} (h : mayInject w le = false) : moves w ⟨11, s, p, m, t, ad, le⟩ = (w, 2) := by
 unfold moves; dsimp only; rw [if_neg (by omega), if_neg (by omega), if_pos rfl, if_pos h]
theorem mv11_b {w : WorldD} {s m p : Int} {t : List UInt8} {ad : AddrD} {le : LetterD} (h : mayInject w le = true) (h2 : 40 ≤ w.bag.length) : moves w ⟨11, s, p, m, t, ad, le⟩ = (w, 1) := by
 unfold moves; dsimp only; rw [if_neg (by omega), if_neg (by omega), if_pos rfl, if_neg (by simp [h]), if_pos h2]
theorem mv11_t {w : WorldD} {s m p : Int} {t : List UInt8} {ad : AddrD} {le : LetterD} (h : mayInject w le = true) (h2 : ¬ 40 ≤ w.bag.length) : moves w ⟨11, s, p, m, t, ad, le⟩ = ({ w with bag := w.bag ++ [le] }, 0) := by
 unfold moves; dsimp only; rw [if_neg (by omega), if_neg (by omega), if_pos rfl, if_neg (by simp [h]), if_neg h2]
theorem mv12_f {w : WorldD} {s m : Int} {p : Nat} {t : List UInt8} {ad : AddrD} {le : LetterD} (h : ¬ p < w.past.length) : moves w ⟨12, s, (p : Nat), m, t, ad, le⟩ = (w, 1) := by
 unfold moves; dsimp only; rw [if_neg (by omega), if_neg (by omega), if_neg (by omega), if_pos (.inl (by omega))]
theorem mv12_b {w : WorldD} {s m : Int} {p : Nat} {t : List UInt8} {ad : AddrD} {le : LetterD} (h : p < w.past.length) (h2 : sideAt w.past[p].to = 0 ∨ 40 ≤ w.bag.length) : moves w ⟨12, s, (p : Nat), m, t, ad, le⟩ = (w, 1) := by
 unfold moves; dsimp only; rw [if_neg (by omega), if_neg (by omega), if_neg (by omega), leAt_get h, if_pos (.inr h2)]
theorem mv12_t {w : WorldD} {s m : Int} {p : Nat} {t : List UInt8} {ad : AddrD} {le : LetterD} (h : p < w.past.length) (h1 : ¬ sideAt w.past[p].to = 0) (h2 : ¬ 40 ≤ w.bag.length) : moves w ⟨12, s, (p : Nat), m, t, ad, le⟩ = ({ w with bag := w.bag ++ [w.past[p]] }, 0) := by
 unfold moves; dsimp only; rw [if_neg (by omega), if_neg (by omega), if_neg (by omega), leAt_get h, if_neg (by omega)]
end
section
open Go.RowKit

theorem spec_l24Bag8 (w : WorldD) (side many : Int) (p : Nat) (text : List UInt8) (ad : AddrD) (le : LetterD) (hw : SmallD w) :
  CallA Tryz.prog 169 [.ag (w.cs 0), .ag (ActD.cs ⟨8, side, (p : Nat), many, text, ad, le⟩)] (w.hp true) (.tu [.ag (WorldD.cs (moves w ⟨8, side, (p : Nat), many, text, ad, le⟩).1 21), .sc (.int .i64 (moves w ⟨8, side, (p : Nat), many, text, ad, le⟩).2)])
  ([none, none, none, none, none, none, none, none, none, none, none, none, none, none, none, none, none, none, none, none, none] ++ WorldD.hp (moves w ⟨8, side, (p : Nat), many, text, ad, le⟩).1 true) := by
 have hbag := hw.p.s.bag
 obtain ⟨R, hR⟩ : ∃ R, R = moves w ⟨8, side, (p : Nat), many, text, ad, le⟩ := ⟨_, rfl⟩
 rw [← hR]
 by_cases hp : p < w.bag.length
 ·rw [mv8_t hp] at hR
  have hO := spec_l24Out w.bag p hbag hp
  rw [← bagOut_len hp, ← bagOut_eq] at hO
  obtain ⟨B, hBe⟩ : ∃ B, B = bagOut w.bag (p : Nat) := ⟨_, rfl⟩
  have hB : B.length ≤ 1048576 := by rw [hBe, bagOut_len hp]; omega
  have hx := map_get (enc := LetterD.cs) hp
  rw [← hBe] at hR hO
  clear hBe
  generalize hxx : w.bag[p] = x at *
  have hL := spec_Lands { w with bag := B } x ⟨⟨hw.p.s.a, hw.p.s.b, hB, hw.p.s.past, hw.p.s.keys, hw.p.s.tags, hw.p.s.nums, hw.p.s.ansA, hw.p.s.ansB⟩, hw.p.pa, hw.p.pb⟩
  obtain ⟨L, hLe⟩ : ∃ L, L = lands { w with bag := B } x := ⟨_, rfl⟩
  rw [← hLe] at hL hR
  clear hLe
  subst hR
  dsimp only
  refine qEO Tryz.func169 Tryz.ntmps169 Tryz.results169 fun E hE => ?_
  try simp (disch := omega) only [go_sem, Nat.reduceEqDiff, Nat.reduceAdd, Nat.reduceSub, Int.reduceAdd, Int.reduceSub, Int.reduceToNat, hx, hxx]
  refine qK (hO) (qA [14]) ?_
  refine qK (hL) (qA [0, 1, 2, 3, 4, 5, 6, 7, 8, 9, 10, 11, 12, 13, 25, 15, 16, 17, 18, 19, 20]) ?_
  exact qFO (qA [0, 1, 2, 3, 4, 5, 6, 7, 8, 9, 10, 11, 12, 13, 14, 15, 16, 17, 18, 19, 20, 26, 27, 28, 29, 30, 31, 32, 33, 34, 35, 36, 37, 38, 39, 40, 41, 42, 43, 44, 45, 46])
 ·rw [mv8_f hp] at hR
  subst hR
  dsimp only
  refine qEO Tryz.func169 Tryz.ntmps169 Tryz.results169 fun E hE => ?_
  exact qFO (qA [0, 1, 2, 3, 4, 5, 6, 7, 8, 9, 10, 11, 12, 13, 14, 15, 16, 17, 18, 19, 20, 0, 1, 2, 3, 4, 5, 6, 7, 8, 9, 10, 11, 12, 13, 14, 15, 16, 17, 18, 19, 20])
theorem spec_l24Bag9 (w : WorldD) (side many : Int) (p : Nat) (text : List UInt8) (ad : AddrD) (le : LetterD) (hw : SmallD w) :
  CallA Tryz.prog 169 [.ag (w.cs 0), .ag (ActD.cs ⟨9, side, (p : Nat), many, text, ad, le⟩)] (w.hp true) (.tu [.ag (WorldD.cs (moves w ⟨9, side, (p : Nat), many, text, ad, le⟩).1 21), .sc (.int .i64 (moves w ⟨9, side, (p : Nat), many, text, ad, le⟩).2)])
  ([none, none, none, none, none, none, none, none, none, none, none, none, none, none, none, none, none, none, none, none, none] ++ WorldD.hp (moves w ⟨9, side, (p : Nat), many, text, ad, le⟩).1 true) := by
 have hbag := hw.p.s.bag
 obtain ⟨R, hR⟩ : ∃ R, R = moves w ⟨9, side, (p : Nat), many, text, ad, le⟩ := ⟨_, rfl⟩
 rw [← hR]
 by_cases hp : p < w.bag.length
 ·rw [mv9_t hp] at hR
  have hO := spec_l24Out w.bag p hbag hp
  rw [← bagOut_len hp, ← bagOut_eq] at hO
  obtain ⟨B, hBe⟩ : ∃ B, B = bagOut w.bag (p : Nat) := ⟨_, rfl⟩
  have hB : B.length ≤ 1048576 := by rw [hBe, bagOut_len hp]; omega
  have hx := map_get (enc := LetterD.cs) hp
  rw [← hBe] at hR hO
  clear hBe
  generalize hxx : w.bag[p] = x at *
  subst hR
  dsimp only
  refine qEO Tryz.func169 Tryz.ntmps169 Tryz.results169 fun E hE => ?_
  try simp (disch := omega) only [go_sem, Nat.reduceEqDiff, Nat.reduceAdd, Nat.reduceSub, Int.reduceAdd, Int.reduceSub, Int.reduceToNat, hx, hxx]
  refine qK (hO) (qA [14]) ?_
  exact qFO (qA [0, 1, 2, 3, 4, 5, 6, 7, 8, 9, 10, 11, 12, 13, 14, 15, 16, 17, 18, 19, 20, 0, 1, 2, 3, 4, 5, 6, 7, 8, 9, 10, 11, 12, 13, 25, 15, 16, 17, 18, 19, 20])
 ·rw [mv9_f hp] at hR
  subst hR
  dsimp only
  refine qEO Tryz.func169 Tryz.ntmps169 Tryz.results169 fun E hE => ?_
  exact qFO (qA [0, 1, 2, 3, 4, 5, 6, 7, 8, 9, 10, 11, 12, 13, 14, 15, 16, 17, 18, 19, 20, 0, 1, 2, 3, 4, 5, 6, 7, 8, 9, 10, 11, 12, 13, 14, 15, 16, 17, 18, 19, 20])
theorem spec_l24Bag10 (w : WorldD) (side many : Int) (p : Nat) (text : List UInt8) (ad : AddrD) (le : LetterD) (hw : SmallD w) :
  CallA Tryz.prog 169 [.ag (w.cs 0), .ag (ActD.cs ⟨10, side, (p : Nat), many, text, ad, le⟩)] (w.hp true) (.tu [.ag (WorldD.cs (moves w ⟨10, side, (p : Nat), many, text, ad, le⟩).1 21), .sc (.int .i64 (moves w ⟨10, side, (p : Nat), many, text, ad, le⟩).2)])
  ([none, none, none, none, none, none, none, none, none, none, none, none, none, none, none, none, none, none, none, none, none] ++ WorldD.hp (moves w ⟨10, side, (p : Nat), many, text, ad, le⟩).1 true) := by
 have hbag := hw.p.s.bag
 obtain ⟨R, hR⟩ : ∃ R, R = moves w ⟨10, side, (p : Nat), many, text, ad, le⟩ := ⟨_, rfl⟩
 rw [← hR]
 by_cases hp : p < w.bag.length ∧ ¬ 40 ≤ w.bag.length
 ·obtain ⟨hp, h4⟩ := hp
  rw [mv10_t hp h4] at hR
  have hx := map_get (enc := LetterD.cs) hp
  generalize hxx : w.bag[p] = x at *
  subst hR
  dsimp only
  refine qEO Tryz.func169 Tryz.ntmps169 Tryz.results169 fun E hE => ?_
  try simp (disch := omega) only [go_sem, Nat.reduceEqDiff, Nat.reduceAdd, Nat.reduceSub, Int.reduceAdd, Int.reduceSub, Int.reduceToNat, hx, hxx]
  refine den_finO (qA [0, 1, 2, 3, 4, 5, 6, 7, 8, 9, 10, 11, 12, 13, 14, 15, 16, 17, 18, 19, 20, 0, 1, 2, 3, 4, 5, 6, 7, 8, 9, 10, 11, 12, 13, 26, 15, 16, 17, 18, 19, 20]) (qC) _ (by simp only [go_sem]; rfl) (by rfl) (by rfl) ?_
  simp (disch := omega) only [go_sem, Nat.reduceEqDiff, Nat.reduceAdd, Nat.reduceSub, Int.reduceAdd, Int.reduceSub, Int.reduceToNat]
  simp [LetterD.cs]
 ·rw [mv10_f (by omega)] at hR
  subst hR
  dsimp only
  by_cases hq : p < w.bag.length
  ·have h4 : 40 ≤ w.bag.length := by omega
   have hx := map_get (enc := LetterD.cs) hq
   generalize hxx : w.bag[p] = x at *
   refine qEO Tryz.func169 Tryz.ntmps169 Tryz.results169 fun E hE => ?_
   try simp (disch := omega) only [go_sem, Nat.reduceEqDiff, Nat.reduceAdd, Nat.reduceSub, Int.reduceAdd, Int.reduceSub, Int.reduceToNat, hx, hxx]
   exact qFO (qA [0, 1, 2, 3, 4, 5, 6, 7, 8, 9, 10, 11, 12, 13, 14, 15, 16, 17, 18, 19, 20, 0, 1, 2, 3, 4, 5, 6, 7, 8, 9, 10, 11, 12, 13, 14, 15, 16, 17, 18, 19, 20])
  ·refine qEO Tryz.func169 Tryz.ntmps169 Tryz.results169 fun E hE => ?_
   exact qFO (qA [0, 1, 2, 3, 4, 5, 6, 7, 8, 9, 10, 11, 12, 13, 14, 15, 16, 17, 18, 19, 20, 0, 1, 2, 3, 4, 5, 6, 7, 8, 9, 10, 11, 12, 13, 14, 15, 16, 17, 18, 19, 20])
end
section
open Go.RowKit

end
section
open Go.RowKit

end
section
open Go.RowKit

theorem spec_Tick (e : EndD) (hs : Small e) (ht : e.out.text.length ≤ 1048576) : CallA Tryz.prog 154 [.ag (e.cs 0)] (e.hp false) (.tu [.ag ((tick e).1.cs 7), .sc (.sl 14 0 (tick e).2.length)])
  (e.hp false ++ ((tick e).1.hp true ++ [some ⟨(tick e).2.map LetterD.cs, 19, 67, true, true⟩])) := by
 have hC := spec_l17Copy e (by have := hs.own; omega) (by have := hs.far; omega) (by have := hs.subs; omega) (by have := hs.halfs; omega) (by have := hs.list; omega) (by have := hs.done; omega) (by have := hs.over; omega)
 have hK := spec_EndOk e (by have := hs.own; omega) (by have := hs.far; omega) (by have := hs.subs; omega) (by have := hs.halfs; omega) (by have := hs.list; omega) (by have := hs.done; omega) (by have := hs.over; omega)
 have hsb := hs.subs
 have hso := hs.own
 have hsh := hs.halfs
 have hF := spec_Filled e.bucket
 have hY := spec_Younger e.halfs (e.now + 1) hs.halfs
 have hAn := spec_Anew e.out
 have hyl := younger_le e.halfs (e.now + 1)
 have hat : (anew e.out).text.length ≤ 1048576 := by rw [anew]; split <;> exact ht
 have hf := tick_f (e := e)
 have hto := tick_o (e := e)
 have hti := tick_i (e := e)
 have htu := @tick_u e
 have hok : tkE e = (endOk e && decide (e.now < 1000000000) && e.subs.all fun s => decide (s.tries < 1000000000)) := rfl
 have hsm0 : Small { e with now := e.now + 1, bucket := filled e.bucket, halfs := younger e.halfs (e.now + 1), out := anew e.out } := ⟨hs.own, hs.far, hs.subs, by dsimp only; omega, hs.list, hs.done, hs.over⟩
 have hsm1 : Small { e with now := e.now + 1, bucket := filled e.bucket, halfs := younger e.halfs (e.now + 1), out := anew e.out, subs := e.subs.map tickS } := ⟨hs.own, hs.far, by dsimp only; rw [List.length_map]; exact hs.subs, by dsimp only; omega, hs.list, hs.done, hs.over⟩
 have hfl : (e.subs.flatMap (tickL e)).length ≤ e.subs.length := flat_le (tickL_one e) _
 obtain ⟨R, hR⟩ : ∃ R, R = tick e := ⟨_, rfl⟩
 rw [← hR] at hf hto hti
 simp only [← hR] at htu
 rw [← hR]
 clear hR
 refine qEO Tryz.func154 Tryz.ntmps154 Tryz.results154 fun E hE => ?_
 refine qK (hC) (qA [0, 1, 2, 3, 4, 5, 6]) ?_
 refine qK (hK) (qA [0, 1, 2, 3, 4, 5, 6]) ?_
 refine qB (fun h1 => ?_) fun h1 => ?_
 ·have hnow := endOk_now h1
  by_cases h2 : e.now < 1000000000
  ·refine qX ?_
   refine den_lpO 7 hE (fun s (i : Nat) => s.at [0, 3, 11, 12, 13, 14, 15, 16, 17, 18, 19, 20, 21, 22, 23, 24, 25, 26, 27, 28, 29, 30, 31, 32, 33, 34, 35, 36, 37, 38, 39] [(6, .sc (.int .i64 (i : Nat)))] (s.hp)) (fun (i : Nat) => i ≤ e.subs.length ∧ (e.subs.drop i).all (fun s => decide (s.tries < 1000000000)) = e.subs.all (fun s => decide (s.tries < 1000000000))) (fun (i : Nat) => e.subs.length - i) 0 (qA [0, 1, 2, 3, 4, 5, 6, 7, 8, 9, 10, 11, 12, 13, 14, 15, 16, 17]) (qC) (⟨Nat.zero_le _, rfl⟩) (weak_mkO (by rfl) (by rfl) ?_) fun i hi N hN => ?_
   ·exact qY
   ·obtain ⟨g1, g2⟩ := hi
    refine qR ?_
    refine qB (fun b => ?_) fun b => ?_
    ·rw [allD_step b] at g2
     have hg := map_get (enc := SubD.cs) b
     have hsub := endOk_sub h1 b
     try simp (disch := omega) only [go_sem, Nat.reduceEqDiff, Nat.reduceAdd, Nat.reduceSub, Int.reduceAdd, Int.reduceSub, Int.reduceToNat, hg]
     refine qB (fun b2 => ?_) fun b2 => ?_
     ·rw [decide_eq_false (by omega), Bool.false_and] at g2
      rw [hf (by rw [hok, ← g2]; simp)]
      refine qX ?_
      exact qFO (qA [0, 1, 2, 3, 4, 5, 6, 9, 10, 11, 12, 13, 14, 15, 17])
     ·rw [decide_eq_true (by omega), Bool.true_and] at g2
      refine qX ?_
      exact qNO hN (i + 1) (qA [0, 1, 2, 3, 4, 5, 6, 7, 8, 9, 10, 11, 12, 13, 14, 15, 16, 17]) (by (try dsimp only); exact ⟨by omega, g2⟩)
    ·rw [List.drop_eq_nil_of_le (by omega), List.all_nil] at g2
     have hall := g2.symm
     have hall2 : ∀ (k : Nat) (hk : k < e.subs.length), e.subs[k].tries < 1000000000 := fun k hk => by
      have := List.all_eq_true.1 hall e.subs[k] (List.getElem_mem hk)
      simpa using this
     have htk : tkE e = true := by rw [hok, h1, decide_eq_true h2, hall]; rfl
     refine qX ?_
     refine qK (hF) [] ?_
     refine qK (hY) (qA [3]) ?_
     refine qK (hAn) [] ?_
     obtain ⟨tk, htk1⟩ : ∃ f : SubD → SubD, f = fun s => if e.state = 2 then tickS s else s := ⟨_, rfl⟩
     obtain ⟨tl, htl1⟩ : ∃ f : SubD → List LetterD, f = fun s => if e.state = 2 then tickL e s else [] := ⟨_, rfl⟩
     have hR := htu htk htk1 htl1
     have hsmu : Small { e with now := e.now + 1, bucket := filled e.bucket, halfs := younger e.halfs (e.now + 1), out := anew e.out, subs := e.subs.map tk } := ⟨hs.own, hs.far, by dsimp only; rw [List.length_map]; exact hs.subs, by dsimp only; omega, hs.list, hs.done, hs.over⟩
     have hflu : (e.subs.flatMap tl).length ≤ e.subs.length := flat_le (fun s => by rw [htl1]; dsimp only; split; exact tickL_one e s; simp) _
     obtain ⟨LL, hLL⟩ : ∃ L, L = e.subs.flatMap tl := ⟨_, rfl⟩
     rw [← hLL] at hR hflu
     clear htu hto hti hf
     refine qX ?_
     refine den_lpO 7 hE (fun s (y : Nat × List LetterD) => s.at [0, 6, 8, 11, 12, 13, 14, 15, 16, 17, 18, 19, 20, 21, 22, 23, 24, 25, 26, 27, 28, 29, 30, 31, 32, 33, 34, 35, 36, 37, 38, 39, 40, 41, 42, 43, 44, 45, 46, 47, 48, 49, 50, 51, 52, 53, 54, 55, 56, 57, 58, 59, 60, 61, 62, 63, 64, 65, 66, 67, 68, 69, 70, 71, 72, 73, 74, 75, 76, 77, 78, 79, 80, 81, 82, 83, 84, 85, 86, 87, 88, 89, 90, 91, 92, 93, 94, 95, 96, 97, 98, 99, 100, 101, 102, 103, 104, 105, 106, 107, 108, 109, 110, 111, 112, 113, 114, 115, 116, 117, 118, 119, 120, 121, 122, 123, 124, 125, 126, 127, 128, 129, 130] [(7, .sc (.int .i64 (y.1 : Nat))), (5, .sc (.sl 17 0 y.2.length))] ((s.hp.set 11 (some ⟨(stepN tk e.subs y.1).map SubD.cs, 10, 78, true, true⟩)).set 17 (some ⟨y.2.map LetterD.cs, 19, 67, true, true⟩))) (fun (y : Nat × List LetterD) => y.1 ≤ e.subs.length ∧ y.2.length ≤ y.1 ∧ LL = y.2 ++ (e.subs.drop y.1).flatMap tl) (fun (y : Nat × List LetterD) => e.subs.length - y.1) (0, []) (qA [0, 1, 2, 3, 4, 5, 6, 7, 8, 9, 10, 11, 12, 13, 14, 15, 16, 17, 18]) (qC) (⟨Nat.zero_le _, Nat.zero_le _, hLL⟩) (weak_mkO (by rfl) (by rfl) ?_) fun y hy N2 hN2 => ?_
     ·try simp (disch := omega) only [go_sem, Nat.reduceEqDiff, Nat.reduceAdd, Nat.reduceSub, Int.reduceAdd, Int.reduceSub, Int.reduceToNat]
      try rw [stepN_zero]
     ·obtain ⟨k, l⟩ := y
      obtain ⟨f1, f2, f3⟩ := hy
      dsimp only at f1 f2 f3
      refine run_den 400 ?_
      have hgl : (stepN tk e.subs k).length = e.subs.length := stepN_len
      refine qX ?_
      by_cases hopen : k < e.subs.length ∧ e.state = 2
      ·obtain ⟨b, h2s⟩ := hopen
       have etk : tk = tickS := by rw [htk1]; funext s; exact if_pos h2s
       have etl : tl = tickL e := by rw [htl1]; funext s; exact if_pos h2s
       clear htk1 htl1
       subst etk etl
       refine qX ?_
       have hg := stepN_get (f := tickS) b
       have hsub := endOk_sub h1 b
       have htr := hall2 k b
       rw [flatD_step b] at f3
       have hset := stepN_set (f := tickS) b
       have hsame := stepN_same (f := tickS) b
       obtain ⟨s0, hs0⟩ : ∃ s, s = e.subs[k] := ⟨_, rfl⟩
       rw [← hs0] at hsub htr f3 hset hsame
       have hg' : ∀ p : k < (stepN tickS e.subs k).length, (stepN tickS e.subs k)[k]'p = s0 := fun p => by rw [hg p, hs0]
       clear hg
       by_cases c1 : s0.state = 1 ∨ s0.state = 2
       ·by_cases c2 : s0.state = 2 ∧ 9 ≤ s0.tries + 1
        ·have tS := tickS_gone c2.1 c2.2
         rw [tickL_gone c2.1 c2.2, List.nil_append] at f3
         obtain ⟨c3, c4⟩ := c2
         try simp (disch := omega) only [go_sem, Nat.reduceEqDiff, Nat.reduceAdd, Nat.reduceSub, Int.reduceAdd, Int.reduceSub, Int.reduceToNat, hg', c3]
         refine ⟨qC, hN2 _ (k + 1, l) (qA [0, 1, 2, 3, 4, 5, 6, 7, 8, 9, 10, 11, 12, 13, 14, 15, 16, 17, 18]) (by (try dsimp only); exact ⟨by omega, by omega, f3⟩) (by (try dsimp only); omega) (weak_mkO (by rfl) (by rfl) ?_)⟩
         refine qX ?_
         rw [← hset, tS, List.map_set]
         try simp [SubD.cs, c3]
        ·have tS := tickS_on c1 c2
         by_cases c5 : (s0.tries + 1).tmod 3 = 0
         ·rcases c1 with c1 | c1
          ·rw [tickL_ask c1 c5] at f3
           have hL : CallA Tryz.prog 178 [.ag (EndD.cs { e with now := e.now + 1, bucket := filled e.bucket, halfs := younger e.halfs (e.now + 1), out := anew e.out, subs := (stepN tickS e.subs k).set k { s0 with tries := s0.tries + 1, state := 1 } } 0), .ag (SubD.cs { s0 with state := 1 })] (EndD.hp { e with now := e.now + 1, bucket := filled e.bucket, halfs := younger e.halfs (e.now + 1), out := anew e.out, subs := (stepN tickS e.subs k).set k { s0 with tries := s0.tries + 1, state := 1 } } false) (.ag (joinL' e s0).cs) (EndD.hp { e with now := e.now + 1, bucket := filled e.bucket, halfs := younger e.halfs (e.now + 1), out := anew e.out, subs := (stepN tickS e.subs k).set k { s0 with tries := s0.tries + 1, state := 1 } } false) := spec_l19Asks _ _ (show inR e.side 1 2 = true from endOk_side h1)
           try simp (disch := omega) only [go_sem, Nat.reduceEqDiff, Nat.reduceAdd, Nat.reduceSub, Int.reduceAdd, Int.reduceSub, Int.reduceToNat, hg', c1, c5]
           refine qK (hL) (qA [9, 10, 11, 18, 13, 14, 15]) ?_
           refine ⟨qC, hN2 _ (k + 1, l ++ [joinL' e s0]) (qA [0, 1, 2, 3, 4, 5, 6, 7, 8, 9, 10, 11, 12, 13, 14, 15, 16, 21, 18]) (by (try dsimp only); exact ⟨by omega, by simp; omega, by simpa using f3⟩) (by (try dsimp only); omega) (weak_mkO (by rfl) (by rfl) ?_)⟩
           refine qX ?_
           rw [← hset, tS, List.map_set]
           try simp [SubD.cs, c1, LetterD.cs]
          ·rw [tickL_prove c1 (by omega) c5] at f3
           have hL : CallA Tryz.prog 179 [.ag (EndD.cs { e with now := e.now + 1, bucket := filled e.bucket, halfs := younger e.halfs (e.now + 1), out := anew e.out, subs := (stepN tickS e.subs k).set k { s0 with tries := s0.tries + 1, state := 2 } } 0), .ag (SubD.cs { s0 with state := 2 })] (EndD.hp { e with now := e.now + 1, bucket := filled e.bucket, halfs := younger e.halfs (e.now + 1), out := anew e.out, subs := (stepN tickS e.subs k).set k { s0 with tries := s0.tries + 1, state := 2 } } false) (.ag (doneLetter e s0).cs) (EndD.hp { e with now := e.now + 1, bucket := filled e.bucket, halfs := younger e.halfs (e.now + 1), out := anew e.out, subs := (stepN tickS e.subs k).set k { s0 with tries := s0.tries + 1, state := 2 } } false) := spec_l19Proves _ _
           try simp (disch := omega) only [go_sem, Nat.reduceEqDiff, Nat.reduceAdd, Nat.reduceSub, Int.reduceAdd, Int.reduceSub, Int.reduceToNat, hg', c1, c5]
           refine qK (hL) (qA [9, 10, 11, 18, 13, 14, 15]) ?_
           refine ⟨qC, hN2 _ (k + 1, l ++ [doneLetter e s0]) (qA [0, 1, 2, 3, 4, 5, 6, 7, 8, 9, 10, 11, 12, 13, 14, 15, 16, 21, 18]) (by (try dsimp only); exact ⟨by omega, by simp; omega, by simpa using f3⟩) (by (try dsimp only); omega) (weak_mkO (by rfl) (by rfl) ?_)⟩
           refine qX ?_
           rw [← hset, tS, List.map_set]
           try simp [SubD.cs, c1, LetterD.cs]
         ·rw [tickL_wait c1 c2 c5, List.nil_append] at f3
          have c6 : 0 < (s0.tries + 1).tmod 3 := by have := Int.tmod_nonneg 3 (show 0 ≤ s0.tries + 1 by omega); omega
          rcases c1 with c1 | c1
          ·try simp (disch := omega) only [go_sem, Nat.reduceEqDiff, Nat.reduceAdd, Nat.reduceSub, Int.reduceAdd, Int.reduceSub, Int.reduceToNat, hg', c1]
           refine ⟨qC, hN2 _ (k + 1, l) (qA [0, 1, 2, 3, 4, 5, 6, 7, 8, 9, 10, 11, 12, 13, 14, 15, 16, 17, 18]) (by (try dsimp only); exact ⟨by omega, by omega, f3⟩) (by (try dsimp only); omega) (weak_mkO (by rfl) (by rfl) ?_)⟩
           refine qX ?_
           rw [← hset, tS, List.map_set]
           try simp [SubD.cs, c1]
          ·try simp (disch := omega) only [go_sem, Nat.reduceEqDiff, Nat.reduceAdd, Nat.reduceSub, Int.reduceAdd, Int.reduceSub, Int.reduceToNat, hg', c1]
           refine ⟨qC, hN2 _ (k + 1, l) (qA [0, 1, 2, 3, 4, 5, 6, 7, 8, 9, 10, 11, 12, 13, 14, 15, 16, 17, 18]) (by (try dsimp only); exact ⟨by omega, by omega, f3⟩) (by (try dsimp only); omega) (weak_mkO (by rfl) (by rfl) ?_)⟩
           refine qX ?_
           rw [← hset, tS, List.map_set]
           try simp [SubD.cs, c1]
       ·rw [tickL_none c1, List.nil_append] at f3
        try simp (disch := omega) only [go_sem, Nat.reduceEqDiff, Nat.reduceAdd, Nat.reduceSub, Int.reduceAdd, Int.reduceSub, Int.reduceToNat, hg']
        refine ⟨qC, hN2 _ (k + 1, l) (qA [0, 1, 2, 3, 4, 5, 6, 7, 8, 9, 10, 11, 12, 13, 14, 15, 16, 17, 18]) (by (try dsimp only); exact ⟨by omega, by omega, f3⟩) (by (try dsimp only); omega) (weak_mkO (by rfl) (by rfl) ?_)⟩
        refine qX ?_
        rw [hsame (tickS_same c1)]
      ·have hst : stepN tk e.subs k = e.subs.map tk := by
        by_cases h2s : e.state = 2
        ·rw [show k = e.subs.length by omega, stepN_all]
        ·have hid : ∀ s, tk s = s := fun s => by rw [htk1]; exact if_neg h2s
         have hf2 : tk = fun s => s := funext hid
         rw [stepN_id hid, hf2]; simp
       have hlf : LL = l := by
        by_cases h2s : e.state = 2
        ·rw [f3, List.drop_eq_nil_of_le (by omega), List.flatMap_nil, List.append_nil]
        ·have hf2 : tl = fun s => [] := by rw [htl1]; funext s; exact if_neg h2s
         rw [f3, hf2]; simp
       rw [hst]
       subst hlf
       by_cases b : k < e.subs.length
       all_goals
        have hT := spec_TellAddrs { e with now := e.now + 1, bucket := filled e.bucket, halfs := younger e.halfs (e.now + 1), out := anew e.out, subs := e.subs.map tk } hsmu
        have hTl := tellAddrs_le { e with now := e.now + 1, bucket := filled e.bucket, halfs := younger e.halfs (e.now + 1), out := anew e.out, subs := e.subs.map tk }
        have hml : (e.subs.map tk).length = e.subs.length := List.length_map ..
        rw [tickEnd] at hR
        obtain ⟨EX, hEX⟩ : ∃ E, E = { e with now := e.now + 1, bucket := filled e.bucket, halfs := younger e.halfs (e.now + 1), out := anew e.out, subs := e.subs.map tk } := ⟨_, rfl⟩
        rw [← hEX] at hR
        have hsx : Small EX := by rw [hEX]; exact hsmu
        have hatx : EX.out.text.length ≤ 1048576 := by rw [hEX]; exact hat
        obtain ⟨TT, hTT⟩ : ∃ T, T = tellAddrs EX := ⟨_, rfl⟩
        rw [← hTT] at hR
        rw [← hEX, ← hTT] at hTl
        rw [show tellAddrs { e with now := e.now + 1, bucket := filled e.bucket, halfs := younger e.halfs (e.now + 1), out := anew e.out, subs := e.subs.map tk } = TT by rw [hTT, hEX]] at hT
        have hxo : EX.own.length ≤ 1048576 := hsx.own
        refine qX ?_
        refine qK (hT) (qA [9, 10, 11, 18, 13, 14, 15]) ?_
        refine den_lpO 7 hE (fun s (y : Nat × EndD × List LetterD) => s.at [0, 1, 6, 7, 8, 10, 11, 12, 13, 14, 15, 16, 17, 18, 19, 20, 21, 22, 23, 24, 25, 26, 27, 28, 29, 30, 31, 32, 33, 34, 35, 36, 37, 38, 39, 40, 41, 42, 43, 44, 45, 46, 47, 48, 49, 50, 51, 52, 53, 54, 55, 56, 57, 58, 59, 60, 61, 62, 63, 64, 65, 66, 67, 68, 69, 70, 71, 72, 73, 74, 75, 76, 77, 78, 79, 80, 81, 82, 83, 84, 85, 86, 87, 88, 89, 90, 91, 92, 93, 94, 95, 96, 97, 98, 99, 100, 101, 102, 103, 104, 105, 106, 107, 108, 109, 110, 111, 112, 113, 114, 115, 116, 117, 118, 119, 120, 121, 122, 123, 124, 125, 126, 127, 128, 129, 130, 131, 132, 133, 134, 135, 136, 137, 138, 139, 140, 141, 142, 143, 144, 145, 146, 147] [(9, .sc (.int .i64 (y.1 : Nat))), (5, .sc (.sl 17 0 y.2.2.length))] ((s.hp.take 9) ++ (y.2.1.hp true ++ [some ⟨[y.2.1.cs 9], 25, 38, true, false⟩, some ⟨y.2.2.map LetterD.cs, 19, 67, true, true⟩]))) (fun (y : Nat × EndD × List LetterD) => y.1 ≤ 3 ∧ Small y.2.1 ∧ y.2.1.out.text.length ≤ 1048576 ∧ y.2.2.length ≤ 2097152 + y.1 ∧ R = ((pushN (3 - y.1) y.2.1).1, y.2.2 ++ (pushN (3 - y.1) y.2.1).2)) (fun (y : Nat × EndD × List LetterD) => 3 - y.1) (0, EX, LL ++ TT) (qA [0, 1, 2, 3, 4, 5, 6, 7, 8, 9, 10, 11, 18, 13, 14, 15, 16, 20]) (qC) (⟨by omega, hsx, hatx, by simp only [List.length_append]; omega, hR⟩) (weak_mkO (by rfl) (by rfl) ?_) fun y hy N2 hN2 => ?_
        ·rw [hEX]
         try simp (disch := omega) only [go_sem, Nat.reduceEqDiff, Nat.reduceAdd, Nat.reduceSub, Int.reduceAdd, Int.reduceSub, Int.reduceToNat]
         try simp
        ·obtain ⟨n, e1, l⟩ := y
         obtain ⟨h1', h2', h3', h4', h5'⟩ := hy
         dsimp only at h1' h2' h3' h4' h5'
         have hP := spec_Push e1 h2' h3'
         have hp1 := push_one e1
         have hps := push_small h2'
         have hpt : (push e1).1.out.text.length ≤ 1048576 := by rw [push_text]; exact h3'
         refine qR ?_
         refine qB (fun b3 => ?_) fun b3 => ?_
         ·rw [pushN_step (by omega)] at h5'
          obtain ⟨pr, hpr⟩ : ∃ p, p = push e1 := ⟨_, rfl⟩
          rw [← hpr] at hP hp1 hps hpt h5'
          obtain ⟨e2, l2⟩ := pr
          dsimp only at hP hp1 hps hpt h5'
          rw [← List.append_assoc] at h5'
          refine qX ?_
          refine qK (hP) (qA [9, 10, 11, 12, 13, 14, 15]) ?_
          refine ⟨qC, hN2 _ (n + 1, e2, l ++ l2) (qA [0, 1, 2, 3, 4, 5, 6, 7, 8, 19, 20, 21, 22, 23, 24, 25, 16, 27]) (by (try dsimp only); exact ⟨by omega, hps, hpt, by simp only [List.length_append]; omega, h5'⟩) (by (try dsimp only); omega) (weak_mkO (by rfl) (by rfl) ?_)⟩
          try simp (disch := omega) only [go_sem, Nat.reduceEqDiff, Nat.reduceAdd, Nat.reduceSub, Int.reduceAdd, Int.reduceSub, Int.reduceToNat]
          try simp
         ·have e3 : n = 3 := by omega
          subst e3
          simp only [Nat.sub_self, pushN, List.append_nil] at h5'
          subst h5'
          refine qX ?_
          exact qFO (qA [0, 1, 2, 3, 4, 5, 6, 9, 10, 11, 12, 13, 14, 15, 17])
  ·rw [hf (by rw [hok]; simp [h2])]
   refine qX ?_
   exact qFO (qA [0, 1, 2, 3, 4, 5, 6, 9, 10, 11, 12, 13, 14, 15, 17])
 ·rw [hf (by rw [hok]; simp [h1])]
  refine qX ?_
  exact qFO (qA [0, 1, 2, 3, 4, 5, 6, 9, 10, 11, 12, 13, 14, 15, 17])
end
section
open Go.RowKit

theorem spec_l24End1_1 (w : WorldD) (pos many : Int) (text : List UInt8) (ad : AddrD) (le : LetterD) (hw : SmallD w) (htx : text.length ≤ 1048576) :
  CallA Tryz.prog 167 [.ag (w.cs 0), .ag (ActD.cs ⟨1, 1, pos, many, text, ad, le⟩)] (w.hp false) (.tu [.ag (WorldD.cs (postL 1 { w with wroteA := w.wroteA ++ text.take (write w.a text).2, a := (writeAll w.a text).1 } (writeAll w.a text).2) 21), .sc (.int .i64 0)]) (w.hp false ++ WorldD.hp (postL 1 { w with wroteA := w.wroteA ++ text.take (write w.a text).2, a := (writeAll w.a text).1 } (writeAll w.a text).2) true) := by
 have hX := spec_WriteAll w.a text hw.p.s.a htx (write_text hw.oa)
 have hsm := writeAll_small (t := text) hw.p.s.a
 have hlen := writeAll_len w.a text
 have hEA : CallA Tryz.prog 189 [.ag (w.cs 0), .sc (.int .i64 1)] (w.hp false) (.ag (w.a.cs 21)) (w.hp false ++ w.a.hp true) := spec_EndAt w 1 hw.p.s.a.own hw.p.s.a.far hw.p.s.a.subs hw.p.s.a.halfs hw.p.s.a.list hw.p.s.a.done hw.p.s.a.over hw.p.s.b.own hw.p.s.b.far hw.p.s.b.subs hw.p.s.b.halfs hw.p.s.b.list hw.p.s.b.done hw.p.s.b.over
 have hX2 := spec_Write w.a text hw.p.s.a htx
 have hwl := write_le w.a text
 obtain ⟨wr, hwr⟩ : ∃ p, p = write w.a text := ⟨_, rfl⟩
 rw [← hwr] at hX2 hwl ⊢
 obtain ⟨e0, n0⟩ := wr
 dsimp only at hX2 hwl ⊢
 obtain ⟨pr, hpr⟩ : ∃ p, p = writeAll w.a text := ⟨_, rfl⟩
 rw [← hpr] at hX hsm hlen ⊢
 obtain ⟨e1, l1⟩ := pr
 dsimp only at hX hsm hlen ⊢
 have hset := spec_l23Set1 { w with wroteA := w.wroteA ++ text.take n0 } e1
 have hpost := spec_Posted1 { w with wroteA := w.wroteA ++ text.take n0, a := e1 } l1 ⟨hsm, hw.p.s.b, hw.p.s.bag, hw.p.s.past, hw.p.s.keys, hw.p.s.tags, hw.p.s.nums, hw.p.s.ansA, hw.p.s.ansB⟩ (by first | omega | simp)
 have hends := postL_ends (side := 1) (l := l1) (w := { w with wroteA := w.wroteA ++ text.take n0, a := e1 })
 obtain ⟨R, hR⟩ : ∃ R, R = postL 1 { w with wroteA := w.wroteA ++ text.take n0, a := e1 } l1 := ⟨_, rfl⟩
 rw [← hR] at hpost hends ⊢
 clear hR
 obtain ⟨ra, rb, bag, past, wA, wB, rA, rB, known, nums, nsA, nsB⟩ := R
 obtain ⟨keys, tags⟩ := known
 dsimp only at hends
 obtain ⟨g1, g2, g3, g4, g5, g6⟩ := hends
 replace g1 := g1.symm
 replace g2 := g2.symm
 replace g3 := g3.symm
 replace g4 := g4.symm
 replace g5 := g5.symm
 replace g6 := g6.symm
 subst g1 g2 g3 g4 g5 g6
 have htk : (text.take n0).length ≤ 1048576 := by rw [List.length_take]; omega
 have hWr := spec_l24Wrote w 1 (text.take n0) [] hw.s htk (by simp)
 rw [wroteB_1] at hWr
 refine qEO Tryz.func167 Tryz.ntmps167 Tryz.results167 fun E hE => ?_
 refine qK (hEA) (qA [0, 1, 2, 3, 4, 5, 6, 7, 8, 9, 10, 11, 12, 13, 14, 15, 16, 17, 18, 19, 20]) ?_
 refine qK (hX2) (qA [24, 25, 26, 27, 28, 29, 30]) ?_
 refine qD [0, 1, 2, 3, 4, 5, 6, 7, 8] ?_
 refine qKD (hWr) (qA [0, 1, 2, 3, 4, 5, 6, 7, 8, 9, 10, 11, 12, 13, 14, 15, 16, 17, 18, 19, 20]) ?_
 refine ⟨qC, run_den 400 ?_⟩
 try simp (disch := omega) only [go_sem, Nat.reduceEqDiff, Nat.reduceAdd, Nat.reduceSub, Int.reduceAdd, Int.reduceSub, Int.reduceToNat, wrote, gotRead]
 refine qK (hX) (qA [24, 25, 26, 27, 28, 29, 30]) ?_
 refine qD [0, 1, 2, 3, 5, 6, 7, 4, 8, 9, 10] ?_
 refine qKD (hset) (qA [0, 1, 2, 3, 4, 5, 6, 7, 8, 9, 10, 11, 12, 13, 14, 15, 16, 17, 18, 19, 20, 41, 42, 43, 44, 45, 46, 47]) ?_
 refine qKD (hpost) (qA [41, 42, 43, 44, 45, 46, 47, 7, 8, 9, 10, 11, 12, 13, 14, 15, 16, 17, 18, 19, 20, 48]) ?_
 refine qG ?_
 exact qFO (qA [0, 1, 2, 3, 4, 5, 6, 7, 8, 9, 10, 11, 12, 13, 14, 15, 16, 17, 18, 19, 20, 49, 50, 51, 52, 53, 54, 55, 56, 57, 58, 59, 60, 61, 62, 63, 64, 65, 66, 67, 68, 69])
theorem spec_l24End2_1 (w : WorldD) (pos many : Int) (text : List UInt8) (ad : AddrD) (le : LetterD) (hw : SmallD w) (htx : text.length ≤ 1048576) :
  CallA Tryz.prog 167 [.ag (w.cs 0), .ag (ActD.cs ⟨2, 1, pos, many, text, ad, le⟩)] (w.hp false) (.tu [.ag (WorldD.cs (postL 1 { w with readA := w.readA ++ (readE w.a many).2, a := ((readE w.a many).1, ([] : List LetterD)).1 } ((readE w.a many).1, ([] : List LetterD)).2) 21), .sc (.int .i64 0)]) (w.hp false ++ WorldD.hp (postL 1 { w with readA := w.readA ++ (readE w.a many).2, a := ((readE w.a many).1, ([] : List LetterD)).1 } ((readE w.a many).1, ([] : List LetterD)).2) true) := by
 have hX := spec_Read w.a many hw.p.s.a hw.p.pa
 have hsm := readE_small (m := many) hw.p.s.a
 have hEA : CallA Tryz.prog 189 [.ag (w.cs 0), .sc (.int .i64 1)] (w.hp false) (.ag (w.a.cs 21)) (w.hp false ++ w.a.hp true) := spec_EndAt w 1 hw.p.s.a.own hw.p.s.a.far hw.p.s.a.subs hw.p.s.a.halfs hw.p.s.a.list hw.p.s.a.done hw.p.s.a.over hw.p.s.b.own hw.p.s.b.far hw.p.s.b.subs hw.p.s.b.halfs hw.p.s.b.list hw.p.s.b.done hw.p.s.b.over
 obtain ⟨pr, hpr⟩ : ∃ p, p = readE w.a many := ⟨_, rfl⟩
 have hrl : (readE w.a many).2.length ≤ 1048576 := readE_len hw.p.pa
 rw [← hpr] at hX hsm hrl ⊢
 obtain ⟨e1, t1⟩ := pr
 dsimp only at hX hsm hrl ⊢
 obtain ⟨l1, hl1⟩ : ∃ l : List LetterD, l = [] := ⟨_, rfl⟩
 have hlen : l1.length ≤ 1 := by rw [hl1]; simp
 have hset := spec_l23Set1 { w with readA := w.readA ++ t1 } e1
 have hpost := spec_Posted1 { w with readA := w.readA ++ t1, a := e1 } [] ⟨hsm, hw.p.s.b, hw.p.s.bag, hw.p.s.past, hw.p.s.keys, hw.p.s.tags, hw.p.s.nums, hw.p.s.ansA, hw.p.s.ansB⟩ (by first | omega | simp)
 have hends := postL_ends (side := 1) (l := []) (w := { w with readA := w.readA ++ t1, a := e1 })
 obtain ⟨R, hR⟩ : ∃ R, R = postL 1 { w with readA := w.readA ++ t1, a := e1 } [] := ⟨_, rfl⟩
 rw [← hR] at hpost hends ⊢
 clear hR
 obtain ⟨ra, rb, bag, past, wA, wB, rA, rB, known, nums, nsA, nsB⟩ := R
 obtain ⟨keys, tags⟩ := known
 dsimp only at hends
 obtain ⟨g1, g2, g3, g4, g5, g6⟩ := hends
 replace g1 := g1.symm
 replace g2 := g2.symm
 replace g3 := g3.symm
 replace g4 := g4.symm
 replace g5 := g5.symm
 replace g6 := g6.symm
 subst g1 g2 g3 g4 g5 g6
 have hWr := spec_l24Wrote w 1 [] t1 hw.s (by simp) hrl
 rw [wroteB_2] at hWr
 refine qEO Tryz.func167 Tryz.ntmps167 Tryz.results167 fun E hE => ?_
 refine qK (hEA) (qA [0, 1, 2, 3, 4, 5, 6, 7, 8, 9, 10, 11, 12, 13, 14, 15, 16, 17, 18, 19, 20]) ?_
 refine qK (hX) (qA [24, 25, 26, 27, 28, 29, 30]) ?_
 refine qK (hWr) (qA [0, 1, 2, 3, 4, 5, 6, 7, 8, 9, 10, 11, 12, 13, 14, 15, 16, 17, 18, 19, 20]) ?_
 try simp (disch := omega) only [go_sem, Nat.reduceEqDiff, Nat.reduceAdd, Nat.reduceSub, Int.reduceAdd, Int.reduceSub, Int.reduceToNat, wrote, gotRead]
 refine qD [0, 1, 2, 3, 5, 6, 7, 4, 8, 9, 10] ?_
 refine qKD (hset) (qA [0, 1, 2, 3, 4, 5, 6, 7, 8, 9, 10, 11, 12, 13, 14, 15, 16, 17, 18, 19, 20, 33, 34, 35, 36, 37, 38, 39]) ?_
 refine qKD (hpost) (qA [33, 34, 35, 36, 37, 38, 39, 7, 8, 9, 10, 11, 12, 13, 14, 15, 16, 17, 18, 19, 20, 32]) ?_
 refine qG ?_
 exact qFO (qA [0, 1, 2, 3, 4, 5, 6, 7, 8, 9, 10, 11, 12, 13, 14, 15, 16, 17, 18, 19, 20, 40, 41, 42, 43, 44, 45, 46, 47, 48, 49, 50, 51, 52, 53, 54, 55, 56, 57, 58, 59, 60])
theorem spec_l24End4_1 (w : WorldD) (pos many : Int) (text : List UInt8) (ad : AddrD) (le : LetterD) (hw : SmallD w) (htx : text.length ≤ 1048576) :
  CallA Tryz.prog 167 [.ag (w.cs 0), .ag (ActD.cs ⟨4, 1, pos, many, text, ad, le⟩)] (w.hp false) (.tu [.ag (WorldD.cs (postL 1 { w with a := (manage w.a).1 } (manage w.a).2) 21), .sc (.int .i64 0)]) (w.hp false ++ WorldD.hp (postL 1 { w with a := (manage w.a).1 } (manage w.a).2) true) := by
 have hX := spec_Manage w.a hw.p.s.a
 have hsm := manage_small hw.p.s.a
 have hlen := manage_len w.a
 have hEA : CallA Tryz.prog 189 [.ag (w.cs 0), .sc (.int .i64 1)] (w.hp false) (.ag (w.a.cs 21)) (w.hp false ++ w.a.hp true) := spec_EndAt w 1 hw.p.s.a.own hw.p.s.a.far hw.p.s.a.subs hw.p.s.a.halfs hw.p.s.a.list hw.p.s.a.done hw.p.s.a.over hw.p.s.b.own hw.p.s.b.far hw.p.s.b.subs hw.p.s.b.halfs hw.p.s.b.list hw.p.s.b.done hw.p.s.b.over
 obtain ⟨pr, hpr⟩ : ∃ p, p = manage w.a := ⟨_, rfl⟩
 rw [← hpr] at hX hsm hlen ⊢
 obtain ⟨e1, l1⟩ := pr
 dsimp only at hX hsm hlen ⊢
 have hset := spec_l23Set1 w e1
 have hpost := spec_Posted1 { w with a := e1 } l1 ⟨hsm, hw.p.s.b, hw.p.s.bag, hw.p.s.past, hw.p.s.keys, hw.p.s.tags, hw.p.s.nums, hw.p.s.ansA, hw.p.s.ansB⟩ (by first | omega | simp)
 have hends := postL_ends (side := 1) (l := l1) (w := { w with a := e1 })
 obtain ⟨R, hR⟩ : ∃ R, R = postL 1 { w with a := e1 } l1 := ⟨_, rfl⟩
 rw [← hR] at hpost hends ⊢
 clear hR
 obtain ⟨ra, rb, bag, past, wA, wB, rA, rB, known, nums, nsA, nsB⟩ := R
 obtain ⟨keys, tags⟩ := known
 dsimp only at hends
 obtain ⟨g1, g2, g3, g4, g5, g6⟩ := hends
 replace g1 := g1.symm
 replace g2 := g2.symm
 replace g3 := g3.symm
 replace g4 := g4.symm
 replace g5 := g5.symm
 replace g6 := g6.symm
 subst g1 g2 g3 g4 g5 g6
 refine qEO Tryz.func167 Tryz.ntmps167 Tryz.results167 fun E hE => ?_
 refine qK (hEA) (qA [0, 1, 2, 3, 4, 5, 6, 7, 8, 9, 10, 11, 12, 13, 14, 15, 16, 17, 18, 19, 20]) ?_
 refine qK (hX) (qA [24, 25, 26, 27, 28, 29, 30]) ?_
 refine qD [0, 1, 2, 3, 5, 6, 7, 4, 8, 9, 10] ?_
 refine qKD (hset) (qA [0, 1, 2, 3, 4, 5, 6, 7, 8, 9, 10, 11, 12, 13, 14, 15, 16, 17, 18, 19, 20, 33, 34, 35, 36, 37, 38, 39]) ?_
 refine qKD (hpost) (qA [33, 34, 35, 36, 37, 38, 39, 7, 8, 9, 10, 11, 12, 13, 14, 15, 16, 17, 18, 19, 20, 40]) ?_
 refine qG ?_
 exact qFO (qA [0, 1, 2, 3, 4, 5, 6, 7, 8, 9, 10, 11, 12, 13, 14, 15, 16, 17, 18, 19, 20, 41, 42, 43, 44, 45, 46, 47, 48, 49, 50, 51, 52, 53, 54, 55, 56, 57, 58, 59, 60, 61])
theorem spec_l24End5_1 (w : WorldD) (pos many : Int) (text : List UInt8) (ad : AddrD) (le : LetterD) (hw : SmallD w) (htx : text.length ≤ 1048576) (hsd : sideAt ad.addr = 1) (hgood : (addOwn w.a ad).2 = true) :
  CallA Tryz.prog 167 [.ag (w.cs 0), .ag (ActD.cs ⟨5, 1, pos, many, text, ad, le⟩)] (w.hp false) (.tu [.ag (WorldD.cs (postL 1 { w with a := ((addOwn w.a ad).1, ([] : List LetterD)).1 } ((addOwn w.a ad).1, ([] : List LetterD)).2) 21), .sc (.int .i64 0)]) (w.hp false ++ WorldD.hp (postL 1 { w with a := ((addOwn w.a ad).1, ([] : List LetterD)).1 } ((addOwn w.a ad).1, ([] : List LetterD)).2) true) := by
 have hX := spec_AddOwn w.a ad hw.p.s.a
 have hsm := addOwn_small (a := ad) hw.p.s.a
 have hEA : CallA Tryz.prog 189 [.ag (w.cs 0), .sc (.int .i64 1)] (w.hp false) (.ag (w.a.cs 21)) (w.hp false ++ w.a.hp true) := spec_EndAt w 1 hw.p.s.a.own hw.p.s.a.far hw.p.s.a.subs hw.p.s.a.halfs hw.p.s.a.list hw.p.s.a.done hw.p.s.a.over hw.p.s.b.own hw.p.s.b.far hw.p.s.b.subs hw.p.s.b.halfs hw.p.s.b.list hw.p.s.b.done hw.p.s.b.over
 obtain ⟨pr, hpr⟩ : ∃ p, p = addOwn w.a ad := ⟨_, rfl⟩
 rw [← hpr] at hX hsm hgood ⊢
 obtain ⟨e1, ok1⟩ := pr
 dsimp only at hX hsm hgood ⊢
 subst hgood
 obtain ⟨l1, hl1⟩ : ∃ l : List LetterD, l = [] := ⟨_, rfl⟩
 have hlen : l1.length ≤ 1 := by rw [hl1]; simp
 have hset := spec_l23Set1 w e1
 have hpost := spec_Posted1 { w with a := e1 } [] ⟨hsm, hw.p.s.b, hw.p.s.bag, hw.p.s.past, hw.p.s.keys, hw.p.s.tags, hw.p.s.nums, hw.p.s.ansA, hw.p.s.ansB⟩ (by first | omega | simp)
 have hends := postL_ends (side := 1) (l := []) (w := { w with a := e1 })
 obtain ⟨R, hR⟩ : ∃ R, R = postL 1 { w with a := e1 } [] := ⟨_, rfl⟩
 rw [← hR] at hpost hends ⊢
 clear hR
 obtain ⟨ra, rb, bag, past, wA, wB, rA, rB, known, nums, nsA, nsB⟩ := R
 obtain ⟨keys, tags⟩ := known
 dsimp only at hends
 obtain ⟨g1, g2, g3, g4, g5, g6⟩ := hends
 replace g1 := g1.symm
 replace g2 := g2.symm
 replace g3 := g3.symm
 replace g4 := g4.symm
 replace g5 := g5.symm
 replace g6 := g6.symm
 subst g1 g2 g3 g4 g5 g6
 have hSd := spec_SideAt ad.addr
 rw [hsd] at hSd
 refine qEO Tryz.func167 Tryz.ntmps167 Tryz.results167 fun E hE => ?_
 refine qK (hEA) (qA [0, 1, 2, 3, 4, 5, 6, 7, 8, 9, 10, 11, 12, 13, 14, 15, 16, 17, 18, 19, 20]) ?_
 refine qK (hX) (qA [24, 25, 26, 27, 28, 29, 30]) ?_
 refine qD [0, 1, 2, 3, 4, 5, 7, 8, 6, 9, 10] ?_
 refine qKD (hSd) [] ?_
 refine qG ?_
 refine qD [0, 1, 2, 3, 5, 6, 7, 4, 8, 9, 10] ?_
 refine qKD (hset) (qA [0, 1, 2, 3, 4, 5, 6, 7, 8, 9, 10, 11, 12, 13, 14, 15, 16, 17, 18, 19, 20, 33, 34, 35, 36, 37, 38, 39]) ?_
 refine qKD (hpost) (qA [33, 34, 35, 36, 37, 38, 39, 7, 8, 9, 10, 11, 12, 13, 14, 15, 16, 17, 18, 19, 20, 32]) ?_
 refine qG ?_
 exact qFO (qA [0, 1, 2, 3, 4, 5, 6, 7, 8, 9, 10, 11, 12, 13, 14, 15, 16, 17, 18, 19, 20, 40, 41, 42, 43, 44, 45, 46, 47, 48, 49, 50, 51, 52, 53, 54, 55, 56, 57, 58, 59, 60])
theorem spec_l24End6_1 (w : WorldD) (pos many : Int) (text : List UInt8) (ad : AddrD) (le : LetterD) (hw : SmallD w) (htx : text.length ≤ 1048576) :
  CallA Tryz.prog 167 [.ag (w.cs 0), .ag (ActD.cs ⟨6, 1, pos, many, text, ad, le⟩)] (w.hp false) (.tu [.ag (WorldD.cs (postL 1 { w with a := (dropOwn w.a pos).1 } (dropOwn w.a pos).2) 21), .sc (.int .i64 0)]) (w.hp false ++ WorldD.hp (postL 1 { w with a := (dropOwn w.a pos).1 } (dropOwn w.a pos).2) true) := by
 have hX := spec_DropOwn w.a pos hw.p.s.a
 have hsm := dropOwn_small (n := pos) hw.p.s.a
 have hlen := dropOwn_len w.a pos hw.p.s.a
 have hEA : CallA Tryz.prog 189 [.ag (w.cs 0), .sc (.int .i64 1)] (w.hp false) (.ag (w.a.cs 21)) (w.hp false ++ w.a.hp true) := spec_EndAt w 1 hw.p.s.a.own hw.p.s.a.far hw.p.s.a.subs hw.p.s.a.halfs hw.p.s.a.list hw.p.s.a.done hw.p.s.a.over hw.p.s.b.own hw.p.s.b.far hw.p.s.b.subs hw.p.s.b.halfs hw.p.s.b.list hw.p.s.b.done hw.p.s.b.over
 obtain ⟨pr, hpr⟩ : ∃ p, p = dropOwn w.a pos := ⟨_, rfl⟩
 rw [← hpr] at hX hsm hlen ⊢
 obtain ⟨e1, l1⟩ := pr
 dsimp only at hX hsm hlen ⊢
 have hset := spec_l23Set1 w e1
 have hpost := spec_Posted1 { w with a := e1 } l1 ⟨hsm, hw.p.s.b, hw.p.s.bag, hw.p.s.past, hw.p.s.keys, hw.p.s.tags, hw.p.s.nums, hw.p.s.ansA, hw.p.s.ansB⟩ (by first | omega | simp)
 have hends := postL_ends (side := 1) (l := l1) (w := { w with a := e1 })
 obtain ⟨R, hR⟩ : ∃ R, R = postL 1 { w with a := e1 } l1 := ⟨_, rfl⟩
 rw [← hR] at hpost hends ⊢
 clear hR
 obtain ⟨ra, rb, bag, past, wA, wB, rA, rB, known, nums, nsA, nsB⟩ := R
 obtain ⟨keys, tags⟩ := known
 dsimp only at hends
 obtain ⟨g1, g2, g3, g4, g5, g6⟩ := hends
 replace g1 := g1.symm
 replace g2 := g2.symm
 replace g3 := g3.symm
 replace g4 := g4.symm
 replace g5 := g5.symm
 replace g6 := g6.symm
 subst g1 g2 g3 g4 g5 g6
 refine qEO Tryz.func167 Tryz.ntmps167 Tryz.results167 fun E hE => ?_
 refine qK (hEA) (qA [0, 1, 2, 3, 4, 5, 6, 7, 8, 9, 10, 11, 12, 13, 14, 15, 16, 17, 18, 19, 20]) ?_
 refine qK (hX) (qA [24, 25, 26, 27, 28, 29, 30]) ?_
 refine qD [0, 1, 2, 3, 5, 6, 7, 4, 8, 9, 10] ?_
 refine qKD (hset) (qA [0, 1, 2, 3, 4, 5, 6, 7, 8, 9, 10, 11, 12, 13, 14, 15, 16, 17, 18, 19, 20, 33, 34, 35, 36, 37, 38, 39]) ?_
 refine qKD (hpost) (qA [33, 34, 35, 36, 37, 38, 39, 7, 8, 9, 10, 11, 12, 13, 14, 15, 16, 17, 18, 19, 20, 40]) ?_
 refine qG ?_
 exact qFO (qA [0, 1, 2, 3, 4, 5, 6, 7, 8, 9, 10, 11, 12, 13, 14, 15, 16, 17, 18, 19, 20, 41, 42, 43, 44, 45, 46, 47, 48, 49, 50, 51, 52, 53, 54, 55, 56, 57, 58, 59, 60, 61])
theorem spec_l24End7_1 (w : WorldD) (pos many : Int) (text : List UInt8) (ad : AddrD) (le : LetterD) (hw : SmallD w) (htx : text.length ≤ 1048576) :
  CallA Tryz.prog 167 [.ag (w.cs 0), .ag (ActD.cs ⟨7, 1, pos, many, text, ad, le⟩)] (w.hp false) (.tu [.ag (WorldD.cs (postL 1 { w with a := (resetE w.a pos).1 } (resetE w.a pos).2) 21), .sc (.int .i64 0)]) (w.hp false ++ WorldD.hp (postL 1 { w with a := (resetE w.a pos).1 } (resetE w.a pos).2) true) := by
 have hX := spec_Reset w.a pos hw.p.s.a
 have hsm := resetE_small (k := pos) hw.p.s.a
 have hlen := resetE_len w.a pos
 have hEA : CallA Tryz.prog 189 [.ag (w.cs 0), .sc (.int .i64 1)] (w.hp false) (.ag (w.a.cs 21)) (w.hp false ++ w.a.hp true) := spec_EndAt w 1 hw.p.s.a.own hw.p.s.a.far hw.p.s.a.subs hw.p.s.a.halfs hw.p.s.a.list hw.p.s.a.done hw.p.s.a.over hw.p.s.b.own hw.p.s.b.far hw.p.s.b.subs hw.p.s.b.halfs hw.p.s.b.list hw.p.s.b.done hw.p.s.b.over
 obtain ⟨pr, hpr⟩ : ∃ p, p = resetE w.a pos := ⟨_, rfl⟩
 rw [← hpr] at hX hsm hlen ⊢
 obtain ⟨e1, l1⟩ := pr
 dsimp only at hX hsm hlen ⊢
 have hset := spec_l23Set1 w e1
 have hpost := spec_Posted1 { w with a := e1 } l1 ⟨hsm, hw.p.s.b, hw.p.s.bag, hw.p.s.past, hw.p.s.keys, hw.p.s.tags, hw.p.s.nums, hw.p.s.ansA, hw.p.s.ansB⟩ (by first | omega | simp)
 have hends := postL_ends (side := 1) (l := l1) (w := { w with a := e1 })
 obtain ⟨R, hR⟩ : ∃ R, R = postL 1 { w with a := e1 } l1 := ⟨_, rfl⟩
 rw [← hR] at hpost hends ⊢
 clear hR
 obtain ⟨ra, rb, bag, past, wA, wB, rA, rB, known, nums, nsA, nsB⟩ := R
 obtain ⟨keys, tags⟩ := known
 dsimp only at hends
 obtain ⟨g1, g2, g3, g4, g5, g6⟩ := hends
 replace g1 := g1.symm
 replace g2 := g2.symm
 replace g3 := g3.symm
 replace g4 := g4.symm
 replace g5 := g5.symm
 replace g6 := g6.symm
 subst g1 g2 g3 g4 g5 g6
 refine qEO Tryz.func167 Tryz.ntmps167 Tryz.results167 fun E hE => ?_
 refine qK (hEA) (qA [0, 1, 2, 3, 4, 5, 6, 7, 8, 9, 10, 11, 12, 13, 14, 15, 16, 17, 18, 19, 20]) ?_
 refine qK (hX) (qA [24, 25, 26, 27, 28, 29, 30]) ?_
 refine qD [0, 1, 2, 3, 5, 6, 7, 4, 8, 9, 10] ?_
 refine qKD (hset) (qA [0, 1, 2, 3, 4, 5, 6, 7, 8, 9, 10, 11, 12, 13, 14, 15, 16, 17, 18, 19, 20, 33, 34, 35, 36, 37, 38, 39]) ?_
 refine qKD (hpost) (qA [33, 34, 35, 36, 37, 38, 39, 7, 8, 9, 10, 11, 12, 13, 14, 15, 16, 17, 18, 19, 20, 40]) ?_
 refine qG ?_
 exact qFO (qA [0, 1, 2, 3, 4, 5, 6, 7, 8, 9, 10, 11, 12, 13, 14, 15, 16, 17, 18, 19, 20, 41, 42, 43, 44, 45, 46, 47, 48, 49, 50, 51, 52, 53, 54, 55, 56, 57, 58, 59, 60, 61])
theorem spec_l24End1_2 (w : WorldD) (pos many : Int) (text : List UInt8) (ad : AddrD) (le : LetterD) (hw : SmallD w) (htx : text.length ≤ 1048576) :
  CallA Tryz.prog 167 [.ag (w.cs 0), .ag (ActD.cs ⟨1, 2, pos, many, text, ad, le⟩)] (w.hp false) (.tu [.ag (WorldD.cs (postL 2 { w with wroteB := w.wroteB ++ text.take (write w.b text).2, b := (writeAll w.b text).1 } (writeAll w.b text).2) 21), .sc (.int .i64 0)]) (w.hp false ++ WorldD.hp (postL 2 { w with wroteB := w.wroteB ++ text.take (write w.b text).2, b := (writeAll w.b text).1 } (writeAll w.b text).2) true) := by
 have hX := spec_WriteAll w.b text hw.p.s.b htx (write_text hw.ob)
 have hsm := writeAll_small (t := text) hw.p.s.b
 have hlen := writeAll_len w.b text
 have hEA : CallA Tryz.prog 189 [.ag (w.cs 0), .sc (.int .i64 2)] (w.hp false) (.ag (w.b.cs 21)) (w.hp false ++ w.b.hp true) := spec_EndAt w 2 hw.p.s.a.own hw.p.s.a.far hw.p.s.a.subs hw.p.s.a.halfs hw.p.s.a.list hw.p.s.a.done hw.p.s.a.over hw.p.s.b.own hw.p.s.b.far hw.p.s.b.subs hw.p.s.b.halfs hw.p.s.b.list hw.p.s.b.done hw.p.s.b.over
 have hX2 := spec_Write w.b text hw.p.s.b htx
 have hwl := write_le w.b text
 obtain ⟨wr, hwr⟩ : ∃ p, p = write w.b text := ⟨_, rfl⟩
 rw [← hwr] at hX2 hwl ⊢
 obtain ⟨e0, n0⟩ := wr
 dsimp only at hX2 hwl ⊢
 obtain ⟨pr, hpr⟩ : ∃ p, p = writeAll w.b text := ⟨_, rfl⟩
 rw [← hpr] at hX hsm hlen ⊢
 obtain ⟨e1, l1⟩ := pr
 dsimp only at hX hsm hlen ⊢
 have hset := spec_l23Set2 { w with wroteB := w.wroteB ++ text.take n0 } e1
 have hpost := spec_Posted2 { w with wroteB := w.wroteB ++ text.take n0, b := e1 } l1 ⟨hw.p.s.a, hsm, hw.p.s.bag, hw.p.s.past, hw.p.s.keys, hw.p.s.tags, hw.p.s.nums, hw.p.s.ansA, hw.p.s.ansB⟩ (by first | omega | simp)
 have hends := postL_ends (side := 2) (l := l1) (w := { w with wroteB := w.wroteB ++ text.take n0, b := e1 })
 obtain ⟨R, hR⟩ : ∃ R, R = postL 2 { w with wroteB := w.wroteB ++ text.take n0, b := e1 } l1 := ⟨_, rfl⟩
 rw [← hR] at hpost hends ⊢
 clear hR
 obtain ⟨ra, rb, bag, past, wA, wB, rA, rB, known, nums, nsA, nsB⟩ := R
 obtain ⟨keys, tags⟩ := known
 dsimp only at hends
 obtain ⟨g1, g2, g3, g4, g5, g6⟩ := hends
 replace g1 := g1.symm
 replace g2 := g2.symm
 replace g3 := g3.symm
 replace g4 := g4.symm
 replace g5 := g5.symm
 replace g6 := g6.symm
 subst g1 g2 g3 g4 g5 g6
 have htk : (text.take n0).length ≤ 1048576 := by rw [List.length_take]; omega
 have hWr := spec_l24Wrote w 2 (text.take n0) [] hw.s htk (by simp)
 rw [wroteB_1] at hWr
 refine qEO Tryz.func167 Tryz.ntmps167 Tryz.results167 fun E hE => ?_
 refine qK (hEA) (qA [0, 1, 2, 3, 4, 5, 6, 7, 8, 9, 10, 11, 12, 13, 14, 15, 16, 17, 18, 19, 20]) ?_
 refine qK (hX2) (qA [24, 25, 26, 27, 28, 29, 30]) ?_
 refine qD [0, 1, 2, 3, 4, 5, 6, 7, 8] ?_
 refine qKD (hWr) (qA [0, 1, 2, 3, 4, 5, 6, 7, 8, 9, 10, 11, 12, 13, 14, 15, 16, 17, 18, 19, 20]) ?_
 refine ⟨qC, run_den 400 ?_⟩
 try simp (disch := omega) only [go_sem, Nat.reduceEqDiff, Nat.reduceAdd, Nat.reduceSub, Int.reduceAdd, Int.reduceSub, Int.reduceToNat, wrote, gotRead]
 refine qK (hX) (qA [24, 25, 26, 27, 28, 29, 30]) ?_
 refine qD [0, 1, 2, 3, 5, 6, 7, 4, 8, 9, 10] ?_
 refine qKD (hset) (qA [0, 1, 2, 3, 4, 5, 6, 7, 8, 9, 10, 11, 12, 13, 14, 15, 16, 17, 18, 19, 20, 41, 42, 43, 44, 45, 46, 47]) ?_
 refine qKD (hpost) (qA [0, 1, 2, 3, 4, 5, 6, 41, 42, 43, 44, 45, 46, 47, 14, 15, 16, 17, 18, 19, 20, 48]) ?_
 refine qG ?_
 exact qFO (qA [0, 1, 2, 3, 4, 5, 6, 7, 8, 9, 10, 11, 12, 13, 14, 15, 16, 17, 18, 19, 20, 49, 50, 51, 52, 53, 54, 55, 56, 57, 58, 59, 60, 61, 62, 63, 64, 65, 66, 67, 68, 69])
theorem spec_l24End2_2 (w : WorldD) (pos many : Int) (text : List UInt8) (ad : AddrD) (le : LetterD) (hw : SmallD w) (htx : text.length ≤ 1048576) :
  CallA Tryz.prog 167 [.ag (w.cs 0), .ag (ActD.cs ⟨2, 2, pos, many, text, ad, le⟩)] (w.hp false) (.tu [.ag (WorldD.cs (postL 2 { w with readB := w.readB ++ (readE w.b many).2, b := ((readE w.b many).1, ([] : List LetterD)).1 } ((readE w.b many).1, ([] : List LetterD)).2) 21), .sc (.int .i64 0)]) (w.hp false ++ WorldD.hp (postL 2 { w with readB := w.readB ++ (readE w.b many).2, b := ((readE w.b many).1, ([] : List LetterD)).1 } ((readE w.b many).1, ([] : List LetterD)).2) true) := by
 have hX := spec_Read w.b many hw.p.s.b hw.p.pb
 have hsm := readE_small (m := many) hw.p.s.b
 have hEA : CallA Tryz.prog 189 [.ag (w.cs 0), .sc (.int .i64 2)] (w.hp false) (.ag (w.b.cs 21)) (w.hp false ++ w.b.hp true) := spec_EndAt w 2 hw.p.s.a.own hw.p.s.a.far hw.p.s.a.subs hw.p.s.a.halfs hw.p.s.a.list hw.p.s.a.done hw.p.s.a.over hw.p.s.b.own hw.p.s.b.far hw.p.s.b.subs hw.p.s.b.halfs hw.p.s.b.list hw.p.s.b.done hw.p.s.b.over
 obtain ⟨pr, hpr⟩ : ∃ p, p = readE w.b many := ⟨_, rfl⟩
 have hrl : (readE w.b many).2.length ≤ 1048576 := readE_len hw.p.pb
 rw [← hpr] at hX hsm hrl ⊢
 obtain ⟨e1, t1⟩ := pr
 dsimp only at hX hsm hrl ⊢
 obtain ⟨l1, hl1⟩ : ∃ l : List LetterD, l = [] := ⟨_, rfl⟩
 have hlen : l1.length ≤ 1 := by rw [hl1]; simp
 have hset := spec_l23Set2 { w with readB := w.readB ++ t1 } e1
 have hpost := spec_Posted2 { w with readB := w.readB ++ t1, b := e1 } [] ⟨hw.p.s.a, hsm, hw.p.s.bag, hw.p.s.past, hw.p.s.keys, hw.p.s.tags, hw.p.s.nums, hw.p.s.ansA, hw.p.s.ansB⟩ (by first | omega | simp)
 have hends := postL_ends (side := 2) (l := []) (w := { w with readB := w.readB ++ t1, b := e1 })
 obtain ⟨R, hR⟩ : ∃ R, R = postL 2 { w with readB := w.readB ++ t1, b := e1 } [] := ⟨_, rfl⟩
 rw [← hR] at hpost hends ⊢
 clear hR
 obtain ⟨ra, rb, bag, past, wA, wB, rA, rB, known, nums, nsA, nsB⟩ := R
 obtain ⟨keys, tags⟩ := known
 dsimp only at hends
 obtain ⟨g1, g2, g3, g4, g5, g6⟩ := hends
 replace g1 := g1.symm
 replace g2 := g2.symm
 replace g3 := g3.symm
 replace g4 := g4.symm
 replace g5 := g5.symm
 replace g6 := g6.symm
 subst g1 g2 g3 g4 g5 g6
 have hWr := spec_l24Wrote w 2 [] t1 hw.s (by simp) hrl
 rw [wroteB_2] at hWr
 refine qEO Tryz.func167 Tryz.ntmps167 Tryz.results167 fun E hE => ?_
 refine qK (hEA) (qA [0, 1, 2, 3, 4, 5, 6, 7, 8, 9, 10, 11, 12, 13, 14, 15, 16, 17, 18, 19, 20]) ?_
 refine qK (hX) (qA [24, 25, 26, 27, 28, 29, 30]) ?_
 refine qK (hWr) (qA [0, 1, 2, 3, 4, 5, 6, 7, 8, 9, 10, 11, 12, 13, 14, 15, 16, 17, 18, 19, 20]) ?_
 try simp (disch := omega) only [go_sem, Nat.reduceEqDiff, Nat.reduceAdd, Nat.reduceSub, Int.reduceAdd, Int.reduceSub, Int.reduceToNat, wrote, gotRead]
 refine qD [0, 1, 2, 3, 5, 6, 7, 4, 8, 9, 10] ?_
 refine qKD (hset) (qA [0, 1, 2, 3, 4, 5, 6, 7, 8, 9, 10, 11, 12, 13, 14, 15, 16, 17, 18, 19, 20, 33, 34, 35, 36, 37, 38, 39]) ?_
 refine qKD (hpost) (qA [0, 1, 2, 3, 4, 5, 6, 33, 34, 35, 36, 37, 38, 39, 14, 15, 16, 17, 18, 19, 20, 32]) ?_
 refine qG ?_
 exact qFO (qA [0, 1, 2, 3, 4, 5, 6, 7, 8, 9, 10, 11, 12, 13, 14, 15, 16, 17, 18, 19, 20, 40, 41, 42, 43, 44, 45, 46, 47, 48, 49, 50, 51, 52, 53, 54, 55, 56, 57, 58, 59, 60])
theorem spec_l24End4_2 (w : WorldD) (pos many : Int) (text : List UInt8) (ad : AddrD) (le : LetterD) (hw : SmallD w) (htx : text.length ≤ 1048576) :
  CallA Tryz.prog 167 [.ag (w.cs 0), .ag (ActD.cs ⟨4, 2, pos, many, text, ad, le⟩)] (w.hp false) (.tu [.ag (WorldD.cs (postL 2 { w with b := (manage w.b).1 } (manage w.b).2) 21), .sc (.int .i64 0)]) (w.hp false ++ WorldD.hp (postL 2 { w with b := (manage w.b).1 } (manage w.b).2) true) := by
 have hX := spec_Manage w.b hw.p.s.b
 have hsm := manage_small hw.p.s.b
 have hlen := manage_len w.b
 have hEA : CallA Tryz.prog 189 [.ag (w.cs 0), .sc (.int .i64 2)] (w.hp false) (.ag (w.b.cs 21)) (w.hp false ++ w.b.hp true) := spec_EndAt w 2 hw.p.s.a.own hw.p.s.a.far hw.p.s.a.subs hw.p.s.a.halfs hw.p.s.a.list hw.p.s.a.done hw.p.s.a.over hw.p.s.b.own hw.p.s.b.far hw.p.s.b.subs hw.p.s.b.halfs hw.p.s.b.list hw.p.s.b.done hw.p.s.b.over
 obtain ⟨pr, hpr⟩ : ∃ p, p = manage w.b := ⟨_, rfl⟩
 rw [← hpr] at hX hsm hlen ⊢
 obtain ⟨e1, l1⟩ := pr
 dsimp only at hX hsm hlen ⊢
 have hset := spec_l23Set2 w e1
 have hpost := spec_Posted2 { w with b := e1 } l1 ⟨hw.p.s.a, hsm, hw.p.s.bag, hw.p.s.past, hw.p.s.keys, hw.p.s.tags, hw.p.s.nums, hw.p.s.ansA, hw.p.s.ansB⟩ (by first | omega | simp)
 have hends := postL_ends (side := 2) (l := l1) (w := { w with b := e1 })
 obtain ⟨R, hR⟩ : ∃ R, R = postL 2 { w with b := e1 } l1 := ⟨_, rfl⟩
 rw [← hR] at hpost hends ⊢
 clear hR
 obtain ⟨ra, rb, bag, past, wA, wB, rA, rB, known, nums, nsA, nsB⟩ := R
 obtain ⟨keys, tags⟩ := known
 dsimp only at hends
 obtain ⟨g1, g2, g3, g4, g5, g6⟩ := hends
 replace g1 := g1.symm
 replace g2 := g2.symm
 replace g3 := g3.symm
 replace g4 := g4.symm
 replace g5 := g5.symm
 replace g6 := g6.symm
 subst g1 g2 g3 g4 g5 g6
 refine qEO Tryz.func167 Tryz.ntmps167 Tryz.results167 fun E hE => ?_
 refine qK (hEA) (qA [0, 1, 2, 3, 4, 5, 6, 7, 8, 9, 10, 11, 12, 13, 14, 15, 16, 17, 18, 19, 20]) ?_
 refine qK (hX) (qA [24, 25, 26, 27, 28, 29, 30]) ?_
 refine qD [0, 1, 2, 3, 5, 6, 7, 4, 8, 9, 10] ?_
 refine qKD (hset) (qA [0, 1, 2, 3, 4, 5, 6, 7, 8, 9, 10, 11, 12, 13, 14, 15, 16, 17, 18, 19, 20, 33, 34, 35, 36, 37, 38, 39]) ?_
 refine qKD (hpost) (qA [0, 1, 2, 3, 4, 5, 6, 33, 34, 35, 36, 37, 38, 39, 14, 15, 16, 17, 18, 19, 20, 40]) ?_
 refine qG ?_
 exact qFO (qA [0, 1, 2, 3, 4, 5, 6, 7, 8, 9, 10, 11, 12, 13, 14, 15, 16, 17, 18, 19, 20, 41, 42, 43, 44, 45, 46, 47, 48, 49, 50, 51, 52, 53, 54, 55, 56, 57, 58, 59, 60, 61])
theorem spec_l24End5_2 (w : WorldD) (pos many : Int) (text : List UInt8) (ad : AddrD) (le : LetterD) (hw : SmallD w) (htx : text.length ≤ 1048576) (hsd : sideAt ad.addr = 2) (hgood : (addOwn w.b ad).2 = true) :
  CallA Tryz.prog 167 [.ag (w.cs 0), .ag (ActD.cs ⟨5, 2, pos, many, text, ad, le⟩)] (w.hp false) (.tu [.ag (WorldD.cs (postL 2 { w with b := ((addOwn w.b ad).1, ([] : List LetterD)).1 } ((addOwn w.b ad).1, ([] : List LetterD)).2) 21), .sc (.int .i64 0)]) (w.hp false ++ WorldD.hp (postL 2 { w with b := ((addOwn w.b ad).1, ([] : List LetterD)).1 } ((addOwn w.b ad).1, ([] : List LetterD)).2) true) := by
 have hX := spec_AddOwn w.b ad hw.p.s.b
 have hsm := addOwn_small (a := ad) hw.p.s.b
 have hEA : CallA Tryz.prog 189 [.ag (w.cs 0), .sc (.int .i64 2)] (w.hp false) (.ag (w.b.cs 21)) (w.hp false ++ w.b.hp true) := spec_EndAt w 2 hw.p.s.a.own hw.p.s.a.far hw.p.s.a.subs hw.p.s.a.halfs hw.p.s.a.list hw.p.s.a.done hw.p.s.a.over hw.p.s.b.own hw.p.s.b.far hw.p.s.b.subs hw.p.s.b.halfs hw.p.s.b.list hw.p.s.b.done hw.p.s.b.over
 obtain ⟨pr, hpr⟩ : ∃ p, p = addOwn w.b ad := ⟨_, rfl⟩
 rw [← hpr] at hX hsm hgood ⊢
 obtain ⟨e1, ok1⟩ := pr
 dsimp only at hX hsm hgood ⊢
 subst hgood
 obtain ⟨l1, hl1⟩ : ∃ l : List LetterD, l = [] := ⟨_, rfl⟩
 have hlen : l1.length ≤ 1 := by rw [hl1]; simp
 have hset := spec_l23Set2 w e1
 have hpost := spec_Posted2 { w with b := e1 } [] ⟨hw.p.s.a, hsm, hw.p.s.bag, hw.p.s.past, hw.p.s.keys, hw.p.s.tags, hw.p.s.nums, hw.p.s.ansA, hw.p.s.ansB⟩ (by first | omega | simp)
 have hends := postL_ends (side := 2) (l := []) (w := { w with b := e1 })
 obtain ⟨R, hR⟩ : ∃ R, R = postL 2 { w with b := e1 } [] := ⟨_, rfl⟩
 rw [← hR] at hpost hends ⊢
 clear hR
 obtain ⟨ra, rb, bag, past, wA, wB, rA, rB, known, nums, nsA, nsB⟩ := R
 obtain ⟨keys, tags⟩ := known
 dsimp only at hends
 obtain ⟨g1, g2, g3, g4, g5, g6⟩ := hends
 replace g1 := g1.symm
 replace g2 := g2.symm
 replace g3 := g3.symm
 replace g4 := g4.symm
 replace g5 := g5.symm
 replace g6 := g6.symm
 subst g1 g2 g3 g4 g5 g6
 have hSd := spec_SideAt ad.addr
 rw [hsd] at hSd
 refine qEO Tryz.func167 Tryz.ntmps167 Tryz.results167 fun E hE => ?_
 refine qK (hEA) (qA [0, 1, 2, 3, 4, 5, 6, 7, 8, 9, 10, 11, 12, 13, 14, 15, 16, 17, 18, 19, 20]) ?_
 refine qK (hX) (qA [24, 25, 26, 27, 28, 29, 30]) ?_
 refine qD [0, 1, 2, 3, 4, 5, 7, 8, 6, 9, 10] ?_
 refine qKD (hSd) [] ?_
 refine qG ?_
 refine qD [0, 1, 2, 3, 5, 6, 7, 4, 8, 9, 10] ?_
 refine qKD (hset) (qA [0, 1, 2, 3, 4, 5, 6, 7, 8, 9, 10, 11, 12, 13, 14, 15, 16, 17, 18, 19, 20, 33, 34, 35, 36, 37, 38, 39]) ?_
 refine qKD (hpost) (qA [0, 1, 2, 3, 4, 5, 6, 33, 34, 35, 36, 37, 38, 39, 14, 15, 16, 17, 18, 19, 20, 32]) ?_
 refine qG ?_
 exact qFO (qA [0, 1, 2, 3, 4, 5, 6, 7, 8, 9, 10, 11, 12, 13, 14, 15, 16, 17, 18, 19, 20, 40, 41, 42, 43, 44, 45, 46, 47, 48, 49, 50, 51, 52, 53, 54, 55, 56, 57, 58, 59, 60])
theorem spec_l24End6_2 (w : WorldD) (pos many : Int) (text : List UInt8) (ad : AddrD) (le : LetterD) (hw : SmallD w) (htx : text.length ≤ 1048576) :
  CallA Tryz.prog 167 [.ag (w.cs 0), .ag (ActD.cs ⟨6, 2, pos, many, text, ad, le⟩)] (w.hp false) (.tu [.ag (WorldD.cs (postL 2 { w with b := (dropOwn w.b pos).1 } (dropOwn w.b pos).2) 21), .sc (.int .i64 0)]) (w.hp false ++ WorldD.hp (postL 2 { w with b := (dropOwn w.b pos).1 } (dropOwn w.b pos).2) true) := by
 have hX := spec_DropOwn w.b pos hw.p.s.b
 have hsm := dropOwn_small (n := pos) hw.p.s.b
 have hlen := dropOwn_len w.b pos hw.p.s.b
 have hEA : CallA Tryz.prog 189 [.ag (w.cs 0), .sc (.int .i64 2)] (w.hp false) (.ag (w.b.cs 21)) (w.hp false ++ w.b.hp true) := spec_EndAt w 2 hw.p.s.a.own hw.p.s.a.far hw.p.s.a.subs hw.p.s.a.halfs hw.p.s.a.list hw.p.s.a.done hw.p.s.a.over hw.p.s.b.own hw.p.s.b.far hw.p.s.b.subs hw.p.s.b.halfs hw.p.s.b.list hw.p.s.b.done hw.p.s.b.over
 obtain ⟨pr, hpr⟩ : ∃ p, p = dropOwn w.b pos := ⟨_, rfl⟩
 rw [← hpr] at hX hsm hlen ⊢
 obtain ⟨e1, l1⟩ := pr
 dsimp only at hX hsm hlen ⊢
 have hset := spec_l23Set2 w e1
 have hpost := spec_Posted2 { w with b := e1 } l1 ⟨hw.p.s.a, hsm, hw.p.s.bag, hw.p.s.past, hw.p.s.keys, hw.p.s.tags, hw.p.s.nums, hw.p.s.ansA, hw.p.s.ansB⟩ (by first | omega | simp)
 have hends := postL_ends (side := 2) (l := l1) (w := { w with b := e1 })
 obtain ⟨R, hR⟩ : ∃ R, R = postL 2 { w with b := e1 } l1 := ⟨_, rfl⟩
 rw [← hR] at hpost hends ⊢
 clear hR
 obtain ⟨ra, rb, bag, past, wA, wB, rA, rB, known, nums, nsA, nsB⟩ := R
 obtain ⟨keys, tags⟩ := known
 dsimp only at hends
 obtain ⟨g1, g2, g3, g4, g5, g6⟩ := hends
 replace g1 := g1.symm
 replace g2 := g2.symm
 replace g3 := g3.symm
 replace g4 := g4.symm
 replace g5 := g5.symm
 replace g6 := g6.symm
 subst g1 g2 g3 g4 g5 g6
 refine qEO Tryz.func167 Tryz.ntmps167 Tryz.results167 fun E hE => ?_
 refine qK (hEA) (qA [0, 1, 2, 3, 4, 5, 6, 7, 8, 9, 10, 11, 12, 13, 14, 15, 16, 17, 18, 19, 20]) ?_
 refine qK (hX) (qA [24, 25, 26, 27, 28, 29, 30]) ?_
 refine qD [0, 1, 2, 3, 5, 6, 7, 4, 8, 9, 10] ?_
 refine qKD (hset) (qA [0, 1, 2, 3, 4, 5, 6, 7, 8, 9, 10, 11, 12, 13, 14, 15, 16, 17, 18, 19, 20, 33, 34, 35, 36, 37, 38, 39]) ?_
 refine qKD (hpost) (qA [0, 1, 2, 3, 4, 5, 6, 33, 34, 35, 36, 37, 38, 39, 14, 15, 16, 17, 18, 19, 20, 40]) ?_
 refine qG ?_
 exact qFO (qA [0, 1, 2, 3, 4, 5, 6, 7, 8, 9, 10, 11, 12, 13, 14, 15, 16, 17, 18, 19, 20, 41, 42, 43, 44, 45, 46, 47, 48, 49, 50, 51, 52, 53, 54, 55, 56, 57, 58, 59, 60, 61])
theorem spec_l24End7_2 (w : WorldD) (pos many : Int) (text : List UInt8) (ad : AddrD) (le : LetterD) (hw : SmallD w) (htx : text.length ≤ 1048576) :
  CallA Tryz.prog 167 [.ag (w.cs 0), .ag (ActD.cs ⟨7, 2, pos, many, text, ad, le⟩)] (w.hp false) (.tu [.ag (WorldD.cs (postL 2 { w with b := (resetE w.b pos).1 } (resetE w.b pos).2) 21), .sc (.int .i64 0)]) (w.hp false ++ WorldD.hp (postL 2 { w with b := (resetE w.b pos).1 } (resetE w.b pos).2) true) := by
 have hX := spec_Reset w.b pos hw.p.s.b
 have hsm := resetE_small (k := pos) hw.p.s.b
 have hlen := resetE_len w.b pos
 have hEA : CallA Tryz.prog 189 [.ag (w.cs 0), .sc (.int .i64 2)] (w.hp false) (.ag (w.b.cs 21)) (w.hp false ++ w.b.hp true) := spec_EndAt w 2 hw.p.s.a.own hw.p.s.a.far hw.p.s.a.subs hw.p.s.a.halfs hw.p.s.a.list hw.p.s.a.done hw.p.s.a.over hw.p.s.b.own hw.p.s.b.far hw.p.s.b.subs hw.p.s.b.halfs hw.p.s.b.list hw.p.s.b.done hw.p.s.b.over
 obtain ⟨pr, hpr⟩ : ∃ p, p = resetE w.b pos := ⟨_, rfl⟩
 rw [← hpr] at hX hsm hlen ⊢
 obtain ⟨e1, l1⟩ := pr
 dsimp only at hX hsm hlen ⊢
 have hset := spec_l23Set2 w e1
 have hpost := spec_Posted2 { w with b := e1 } l1 ⟨hw.p.s.a, hsm, hw.p.s.bag, hw.p.s.past, hw.p.s.keys, hw.p.s.tags, hw.p.s.nums, hw.p.s.ansA, hw.p.s.ansB⟩ (by first | omega | simp)
 have hends := postL_ends (side := 2) (l := l1) (w := { w with b := e1 })
 obtain ⟨R, hR⟩ : ∃ R, R = postL 2 { w with b := e1 } l1 := ⟨_, rfl⟩
 rw [← hR] at hpost hends ⊢
 clear hR
 obtain ⟨ra, rb, bag, past, wA, wB, rA, rB, known, nums, nsA, nsB⟩ := R
 obtain ⟨keys, tags⟩ := known
 dsimp only at hends
 obtain ⟨g1, g2, g3, g4, g5, g6⟩ := hends
 replace g1 := g1.symm
 replace g2 := g2.symm
 replace g3 := g3.symm
 replace g4 := g4.symm
 replace g5 := g5.symm
 replace g6 := g6.symm
 subst g1 g2 g3 g4 g5 g6
 refine qEO Tryz.func167 Tryz.ntmps167 Tryz.results167 fun E hE => ?_
 refine qK (hEA) (qA [0, 1, 2, 3, 4, 5, 6, 7, 8, 9, 10, 11, 12, 13, 14, 15, 16, 17, 18, 19, 20]) ?_
 refine qK (hX) (qA [24, 25, 26, 27, 28, 29, 30]) ?_
 refine qD [0, 1, 2, 3, 5, 6, 7, 4, 8, 9, 10] ?_
 refine qKD (hset) (qA [0, 1, 2, 3, 4, 5, 6, 7, 8, 9, 10, 11, 12, 13, 14, 15, 16, 17, 18, 19, 20, 33, 34, 35, 36, 37, 38, 39]) ?_
 refine qKD (hpost) (qA [0, 1, 2, 3, 4, 5, 6, 33, 34, 35, 36, 37, 38, 39, 14, 15, 16, 17, 18, 19, 20, 40]) ?_
 refine qG ?_
 exact qFO (qA [0, 1, 2, 3, 4, 5, 6, 7, 8, 9, 10, 11, 12, 13, 14, 15, 16, 17, 18, 19, 20, 41, 42, 43, 44, 45, 46, 47, 48, 49, 50, 51, 52, 53, 54, 55, 56, 57, 58, 59, 60, 61])
end
section
open Go.RowKit

theorem spec_l24End3_1 (w : WorldD) (pos many : Int) (text : List UInt8) (ad : AddrD) (le : LetterD) (hw : SmallD w) (htx : text.length ≤ 1048576) :
  CallA Tryz.prog 167 [.ag (w.cs 0), .ag (ActD.cs ⟨3, 1, pos, many, text, ad, le⟩)] (w.hp false) (.tu [.ag (WorldD.cs (postL 1 { w with a := (tick w.a).1 } (tick w.a).2) 21), .sc (.int .i64 0)]) (w.hp false ++ WorldD.hp (postL 1 { w with a := (tick w.a).1 } (tick w.a).2) true) := by
 have hX := spec_Tick w.a hw.p.s.a hw.oa
 have hsm := tick_small hw.p.s.a
 have hlen := tick_len w.a
 have hEA : CallA Tryz.prog 189 [.ag (w.cs 0), .sc (.int .i64 1)] (w.hp false) (.ag (w.a.cs 21)) (w.hp false ++ w.a.hp true) := spec_EndAt w 1 hw.p.s.a.own hw.p.s.a.far hw.p.s.a.subs hw.p.s.a.halfs hw.p.s.a.list hw.p.s.a.done hw.p.s.a.over hw.p.s.b.own hw.p.s.b.far hw.p.s.b.subs hw.p.s.b.halfs hw.p.s.b.list hw.p.s.b.done hw.p.s.b.over
 obtain ⟨pr, hpr⟩ : ∃ p, p = tick w.a := ⟨_, rfl⟩
 rw [← hpr] at hX hsm hlen ⊢
 obtain ⟨e1, l1⟩ := pr
 dsimp only at hX hsm hlen ⊢
 have hset := spec_l23Set1 w e1
 have hpost := spec_Posted1 { w with a := e1 } l1 ⟨hsm, hw.p.s.b, hw.p.s.bag, hw.p.s.past, hw.p.s.keys, hw.p.s.tags, hw.p.s.nums, hw.p.s.ansA, hw.p.s.ansB⟩ (by first | omega | simp)
 have hends := postL_ends (side := 1) (l := l1) (w := { w with a := e1 })
 obtain ⟨R, hR⟩ : ∃ R, R = postL 1 { w with a := e1 } l1 := ⟨_, rfl⟩
 rw [← hR] at hpost hends ⊢
 clear hR
 obtain ⟨ra, rb, bag, past, wA, wB, rA, rB, known, nums, nsA, nsB⟩ := R
 obtain ⟨keys, tags⟩ := known
 dsimp only at hends
 obtain ⟨g1, g2, g3, g4, g5, g6⟩ := hends
 replace g1 := g1.symm
 replace g2 := g2.symm
 replace g3 := g3.symm
 replace g4 := g4.symm
 replace g5 := g5.symm
 replace g6 := g6.symm
 subst g1 g2 g3 g4 g5 g6
 refine qEO Tryz.func167 Tryz.ntmps167 Tryz.results167 fun E hE => ?_
 refine qK (hEA) (qA [0, 1, 2, 3, 4, 5, 6, 7, 8, 9, 10, 11, 12, 13, 14, 15, 16, 17, 18, 19, 20]) ?_
 refine qK (hX) (qA [24, 25, 26, 27, 28, 29, 30]) ?_
 refine qD [0, 1, 2, 3, 5, 6, 7, 4, 8, 9, 10] ?_
 refine qKD (hset) (qA [0, 1, 2, 3, 4, 5, 6, 7, 8, 9, 10, 11, 12, 13, 14, 15, 16, 17, 18, 19, 20, 33, 34, 35, 36, 37, 38, 39]) ?_
 refine qKD (hpost) (qA [33, 34, 35, 36, 37, 38, 39, 7, 8, 9, 10, 11, 12, 13, 14, 15, 16, 17, 18, 19, 20, 40]) ?_
 refine qG ?_
 exact qFO (qA [0, 1, 2, 3, 4, 5, 6, 7, 8, 9, 10, 11, 12, 13, 14, 15, 16, 17, 18, 19, 20, 41, 42, 43, 44, 45, 46, 47, 48, 49, 50, 51, 52, 53, 54, 55, 56, 57, 58, 59, 60, 61])
theorem spec_l24End3_2 (w : WorldD) (pos many : Int) (text : List UInt8) (ad : AddrD) (le : LetterD) (hw : SmallD w) (htx : text.length ≤ 1048576) :
  CallA Tryz.prog 167 [.ag (w.cs 0), .ag (ActD.cs ⟨3, 2, pos, many, text, ad, le⟩)] (w.hp false) (.tu [.ag (WorldD.cs (postL 2 { w with b := (tick w.b).1 } (tick w.b).2) 21), .sc (.int .i64 0)]) (w.hp false ++ WorldD.hp (postL 2 { w with b := (tick w.b).1 } (tick w.b).2) true) := by
 have hX := spec_Tick w.b hw.p.s.b hw.ob
 have hsm := tick_small hw.p.s.b
 have hlen := tick_len w.b
 have hEA : CallA Tryz.prog 189 [.ag (w.cs 0), .sc (.int .i64 2)] (w.hp false) (.ag (w.b.cs 21)) (w.hp false ++ w.b.hp true) := spec_EndAt w 2 hw.p.s.a.own hw.p.s.a.far hw.p.s.a.subs hw.p.s.a.halfs hw.p.s.a.list hw.p.s.a.done hw.p.s.a.over hw.p.s.b.own hw.p.s.b.far hw.p.s.b.subs hw.p.s.b.halfs hw.p.s.b.list hw.p.s.b.done hw.p.s.b.over
 obtain ⟨pr, hpr⟩ : ∃ p, p = tick w.b := ⟨_, rfl⟩
 rw [← hpr] at hX hsm hlen ⊢
 obtain ⟨e1, l1⟩ := pr
 dsimp only at hX hsm hlen ⊢
 have hset := spec_l23Set2 w e1
 have hpost := spec_Posted2 { w with b := e1 } l1 ⟨hw.p.s.a, hsm, hw.p.s.bag, hw.p.s.past, hw.p.s.keys, hw.p.s.tags, hw.p.s.nums, hw.p.s.ansA, hw.p.s.ansB⟩ (by first | omega | simp)
 have hends := postL_ends (side := 2) (l := l1) (w := { w with b := e1 })
 obtain ⟨R, hR⟩ : ∃ R, R = postL 2 { w with b := e1 } l1 := ⟨_, rfl⟩
 rw [← hR] at hpost hends ⊢
 clear hR
 obtain ⟨ra, rb, bag, past, wA, wB, rA, rB, known, nums, nsA, nsB⟩ := R
 obtain ⟨keys, tags⟩ := known
 dsimp only at hends
 obtain ⟨g1, g2, g3, g4, g5, g6⟩ := hends
 replace g1 := g1.symm
 replace g2 := g2.symm
 replace g3 := g3.symm
 replace g4 := g4.symm
 replace g5 := g5.symm
 replace g6 := g6.symm
 subst g1 g2 g3 g4 g5 g6
 refine qEO Tryz.func167 Tryz.ntmps167 Tryz.results167 fun E hE => ?_
 refine qK (hEA) (qA [0, 1, 2, 3, 4, 5, 6, 7, 8, 9, 10, 11, 12, 13, 14, 15, 16, 17, 18, 19, 20]) ?_
 refine qK (hX) (qA [24, 25, 26, 27, 28, 29, 30]) ?_
 refine qD [0, 1, 2, 3, 5, 6, 7, 4, 8, 9, 10] ?_
 refine qKD (hset) (qA [0, 1, 2, 3, 4, 5, 6, 7, 8, 9, 10, 11, 12, 13, 14, 15, 16, 17, 18, 19, 20, 33, 34, 35, 36, 37, 38, 39]) ?_
 refine qKD (hpost) (qA [0, 1, 2, 3, 4, 5, 6, 33, 34, 35, 36, 37, 38, 39, 14, 15, 16, 17, 18, 19, 20, 40]) ?_
 refine qG ?_
 exact qFO (qA [0, 1, 2, 3, 4, 5, 6, 7, 8, 9, 10, 11, 12, 13, 14, 15, 16, 17, 18, 19, 20, 41, 42, 43, 44, 45, 46, 47, 48, 49, 50, 51, 52, 53, 54, 55, 56, 57, 58, 59, 60, 61])
end
section
open Go.RowKit

theorem spec_l24End5b_1 (w : WorldD) (pos many : Int) (text : List UInt8) (ad : AddrD) (le : LetterD) (hw : SmallD w) (hbad : ¬ sideAt ad.addr = 1 ∨ (addOwn w.a ad).2 = false) :
  CallA Tryz.prog 167 [.ag (w.cs 0), .ag (ActD.cs ⟨5, 1, pos, many, text, ad, le⟩)] (w.hp true) (.tu [.ag (WorldD.cs w 21), .sc (.int .i64 1)]) ([none, none, none, none, none, none, none, none, none, none, none, none, none, none, none, none, none, none, none, none, none] ++ WorldD.hp w true) := by
 have hX := spec_AddOwn w.a ad hw.p.s.a
 have hsm := addOwn_small (a := ad) hw.p.s.a
 have hEA : CallA Tryz.prog 189 [.ag (w.cs 0), .sc (.int .i64 1)] (w.hp false) (.ag (w.a.cs 21)) (w.hp false ++ w.a.hp true) := spec_EndAt w 1 hw.p.s.a.own hw.p.s.a.far hw.p.s.a.subs hw.p.s.a.halfs hw.p.s.a.list hw.p.s.a.done hw.p.s.a.over hw.p.s.b.own hw.p.s.b.far hw.p.s.b.subs hw.p.s.b.halfs hw.p.s.b.list hw.p.s.b.done hw.p.s.b.over
 obtain ⟨pr, hpr⟩ : ∃ p, p = addOwn w.a ad := ⟨_, rfl⟩
 rw [← hpr] at hX hsm hbad
 obtain ⟨e1, ok1⟩ := pr
 dsimp only at hX hsm hbad
 have hSd := spec_SideAt ad.addr
 generalize sideAt ad.addr = sd at *
 refine qEO Tryz.func167 Tryz.ntmps167 Tryz.results167 fun E hE => ?_
 refine qK (hEA) (qA [0, 1, 2, 3, 4, 5, 6, 7, 8, 9, 10, 11, 12, 13, 14, 15, 16, 17, 18, 19, 20]) ?_
 refine qK (hX) (qA [24, 25, 26, 27, 28, 29, 30]) ?_
 cases ok1 with
 | false =>
  refine qD [0, 1, 2, 3, 4, 5, 7, 8, 6, 9, 10] ?_
  refine qG ?_
  exact qFO (qA [0, 1, 2, 3, 4, 5, 6, 7, 8, 9, 10, 11, 12, 13, 14, 15, 16, 17, 18, 19, 20, 0, 1, 2, 3, 4, 5, 6, 7, 8, 9, 10, 11, 12, 13, 14, 15, 16, 17, 18, 19, 20])
 | true =>
  have h0 : ¬ sd = 1 := by rcases hbad with h | h; exact h; exact absurd h (by simp)
  refine qD [0, 1, 2, 3, 4, 5, 7, 8, 6, 9, 10] ?_
  refine qKD (hSd) [] ?_
  refine qG ?_
  exact qFO (qA [0, 1, 2, 3, 4, 5, 6, 7, 8, 9, 10, 11, 12, 13, 14, 15, 16, 17, 18, 19, 20, 0, 1, 2, 3, 4, 5, 6, 7, 8, 9, 10, 11, 12, 13, 14, 15, 16, 17, 18, 19, 20])
theorem spec_l24End5b_2 (w : WorldD) (pos many : Int) (text : List UInt8) (ad : AddrD) (le : LetterD) (hw : SmallD w) (hbad : ¬ sideAt ad.addr = 2 ∨ (addOwn w.b ad).2 = false) :
  CallA Tryz.prog 167 [.ag (w.cs 0), .ag (ActD.cs ⟨5, 2, pos, many, text, ad, le⟩)] (w.hp true) (.tu [.ag (WorldD.cs w 21), .sc (.int .i64 1)]) ([none, none, none, none, none, none, none, none, none, none, none, none, none, none, none, none, none, none, none, none, none] ++ WorldD.hp w true) := by
 have hX := spec_AddOwn w.b ad hw.p.s.b
 have hsm := addOwn_small (a := ad) hw.p.s.b
 have hEA : CallA Tryz.prog 189 [.ag (w.cs 0), .sc (.int .i64 2)] (w.hp false) (.ag (w.b.cs 21)) (w.hp false ++ w.b.hp true) := spec_EndAt w 2 hw.p.s.a.own hw.p.s.a.far hw.p.s.a.subs hw.p.s.a.halfs hw.p.s.a.list hw.p.s.a.done hw.p.s.a.over hw.p.s.b.own hw.p.s.b.far hw.p.s.b.subs hw.p.s.b.halfs hw.p.s.b.list hw.p.s.b.done hw.p.s.b.over
 obtain ⟨pr, hpr⟩ : ∃ p, p = addOwn w.b ad := ⟨_, rfl⟩
 rw [← hpr] at hX hsm hbad
 obtain ⟨e1, ok1⟩ := pr
 dsimp only at hX hsm hbad
 have hSd := spec_SideAt ad.addr
 generalize sideAt ad.addr = sd at *
 refine qEO Tryz.func167 Tryz.ntmps167 Tryz.results167 fun E hE => ?_
 refine qK (hEA) (qA [0, 1, 2, 3, 4, 5, 6, 7, 8, 9, 10, 11, 12, 13, 14, 15, 16, 17, 18, 19, 20]) ?_
 refine qK (hX) (qA [24, 25, 26, 27, 28, 29, 30]) ?_
 cases ok1 with
 | false =>
  refine qD [0, 1, 2, 3, 4, 5, 7, 8, 6, 9, 10] ?_
  refine qG ?_
  exact qFO (qA [0, 1, 2, 3, 4, 5, 6, 7, 8, 9, 10, 11, 12, 13, 14, 15, 16, 17, 18, 19, 20, 0, 1, 2, 3, 4, 5, 6, 7, 8, 9, 10, 11, 12, 13, 14, 15, 16, 17, 18, 19, 20])
 | true =>
  have h0 : ¬ sd = 2 := by rcases hbad with h | h; exact h; exact absurd h (by simp)
  refine qD [0, 1, 2, 3, 4, 5, 7, 8, 6, 9, 10] ?_
  refine qKD (hSd) [] ?_
  refine qG ?_
  exact qFO (qA [0, 1, 2, 3, 4, 5, 6, 7, 8, 9, 10, 11, 12, 13, 14, 15, 16, 17, 18, 19, 20, 0, 1, 2, 3, 4, 5, 6, 7, 8, 9, 10, 11, 12, 13, 14, 15, 16, 17, 18, 19, 20])
theorem acts1_1 {w : WorldD} {pos many : Int} {text : List UInt8} {ad : AddrD} {le : LetterD} : acts w ⟨1, 1, pos, many, text, ad, le⟩ = (postL 1 { w with wroteA := w.wroteA ++ text.take (write w.a text).2, a := (writeAll w.a text).1 } (writeAll w.a text).2, 0) := by
 simp [acts, actBad, actW, actE, endAt, setEnd, wrote, gotRead]
theorem acts2_1 {w : WorldD} {pos many : Int} {text : List UInt8} {ad : AddrD} {le : LetterD} : acts w ⟨2, 1, pos, many, text, ad, le⟩ = (postL 1 { w with readA := w.readA ++ (readE w.a many).2, a := ((readE w.a many).1, ([] : List LetterD)).1 } ((readE w.a many).1, ([] : List LetterD)).2, 0) := by
 simp [acts, actBad, actW, actE, endAt, setEnd, wrote, gotRead]
theorem acts3_1 {w : WorldD} {pos many : Int} {text : List UInt8} {ad : AddrD} {le : LetterD} : acts w ⟨3, 1, pos, many, text, ad, le⟩ = (postL 1 { w with a := (tick w.a).1 } (tick w.a).2, 0) := by
 simp [acts, actBad, actW, actE, endAt, setEnd, wrote, gotRead]
theorem acts4_1 {w : WorldD} {pos many : Int} {text : List UInt8} {ad : AddrD} {le : LetterD} : acts w ⟨4, 1, pos, many, text, ad, le⟩ = (postL 1 { w with a := (manage w.a).1 } (manage w.a).2, 0) := by
 simp [acts, actBad, actW, actE, endAt, setEnd, wrote, gotRead]
theorem acts5_1 {w : WorldD} {pos many : Int} {text : List UInt8} {ad : AddrD} {le : LetterD} (hsd : sideAt ad.addr = 1) (hgood : (addOwn w.a ad).2 = true) : acts w ⟨5, 1, pos, many, text, ad, le⟩ = (postL 1 { w with a := ((addOwn w.a ad).1, ([] : List LetterD)).1 } ((addOwn w.a ad).1, ([] : List LetterD)).2, 0) := by
 simp [acts, actBad, actW, actE, endAt, setEnd, wrote, gotRead, hsd, hgood]
theorem acts6_1 {w : WorldD} {pos many : Int} {text : List UInt8} {ad : AddrD} {le : LetterD} : acts w ⟨6, 1, pos, many, text, ad, le⟩ = (postL 1 { w with a := (dropOwn w.a pos).1 } (dropOwn w.a pos).2, 0) := by
 simp [acts, actBad, actW, actE, endAt, setEnd, wrote, gotRead]
theorem acts7_1 {w : WorldD} {pos many : Int} {text : List UInt8} {ad : AddrD} {le : LetterD} : acts w ⟨7, 1, pos, many, text, ad, le⟩ = (postL 1 { w with a := (resetE w.a pos).1 } (resetE w.a pos).2, 0) := by
 simp [acts, actBad, actW, actE, endAt, setEnd, wrote, gotRead]
theorem acts1_2 {w : WorldD} {pos many : Int} {text : List UInt8} {ad : AddrD} {le : LetterD} : acts w ⟨1, 2, pos, many, text, ad, le⟩ = (postL 2 { w with wroteB := w.wroteB ++ text.take (write w.b text).2, b := (writeAll w.b text).1 } (writeAll w.b text).2, 0) := by
 simp [acts, actBad, actW, actE, endAt, setEnd, wrote, gotRead]
theorem acts2_2 {w : WorldD} {pos many : Int} {text : List UInt8} {ad : AddrD} {le : LetterD} : acts w ⟨2, 2, pos, many, text, ad, le⟩ = (postL 2 { w with readB := w.readB ++ (readE w.b many).2, b := ((readE w.b many).1, ([] : List LetterD)).1 } ((readE w.b many).1, ([] : List LetterD)).2, 0) := by
 simp [acts, actBad, actW, actE, endAt, setEnd, wrote, gotRead]
theorem acts3_2 {w : WorldD} {pos many : Int} {text : List UInt8} {ad : AddrD} {le : LetterD} : acts w ⟨3, 2, pos, many, text, ad, le⟩ = (postL 2 { w with b := (tick w.b).1 } (tick w.b).2, 0) := by
 simp [acts, actBad, actW, actE, endAt, setEnd, wrote, gotRead]
theorem acts4_2 {w : WorldD} {pos many : Int} {text : List UInt8} {ad : AddrD} {le : LetterD} : acts w ⟨4, 2, pos, many, text, ad, le⟩ = (postL 2 { w with b := (manage w.b).1 } (manage w.b).2, 0) := by
 simp [acts, actBad, actW, actE, endAt, setEnd, wrote, gotRead]
theorem acts5_2 {w : WorldD} {pos many : Int} {text : List UInt8} {ad : AddrD} {le : LetterD} (hsd : sideAt ad.addr = 2) (hgood : (addOwn w.b ad).2 = true) : acts w ⟨5, 2, pos, many, text, ad, le⟩ = (postL 2 { w with b := ((addOwn w.b ad).1, ([] : List LetterD)).1 } ((addOwn w.b ad).1, ([] : List LetterD)).2, 0) := by
 simp [acts, actBad, actW, actE, endAt, setEnd, wrote, gotRead, hsd, hgood]
theorem acts6_2 {w : WorldD} {pos many : Int} {text : List UInt8} {ad : AddrD} {le : LetterD} : acts w ⟨6, 2, pos, many, text, ad, le⟩ = (postL 2 { w with b := (dropOwn w.b pos).1 } (dropOwn w.b pos).2, 0) := by
 simp [acts, actBad, actW, actE, endAt, setEnd, wrote, gotRead]
theorem acts7_2 {w : WorldD} {pos many : Int} {text : List UInt8} {ad : AddrD} {le : LetterD} : acts w ⟨7, 2, pos, many, text, ad, le⟩ = (postL 2 { w with b := (resetE w.b pos).1 } (resetE w.b pos).2, 0) := by
 simp [acts, actBad, actW, actE, endAt, setEnd, wrote, gotRead]
theorem acts_bad {w : WorldD} {a : ActD} (h : actBad w a = true) : acts w a = (w, 1) := if_pos h
theorem actOk_parts {a : ActD} (h : actOk a = true) : 1 ≤ a.kind ∧ a.kind ≤ 12 ∧ 1 ≤ a.side ∧ a.side ≤ 2 ∧ 0 ≤ a.pos ∧ a.text.length ≤ 1048576 := by
 simp only [actOk, inR, isN, Bool.and_eq_true, decide_eq_true_eq] at h
 omega
theorem spec_l24End (w : WorldD) (a : ActD) (hw : SmallD w) (ha : actOk a = true) (h7 : a.kind ≤ 7) (hb : ¬ actBad w a = true) :
  CallA Tryz.prog 167 [.ag (w.cs 0), .ag a.cs] (w.hp false) (.tu [.ag ((acts w a).1.cs 21), .sc (.int .i64 (acts w a).2)]) (w.hp false ++ (acts w a).1.hp true) := by
 obtain ⟨k1, k2, k3, k4, k5, k6⟩ := actOk_parts ha
 obtain ⟨kind, side, pos, many, text, ad, le⟩ := a
 dsimp only at *
 have hs : side = 1 ∨ side = 2 := by omega
 have hk : kind = 1 ∨ kind = 2 ∨ kind = 3 ∨ kind = 4 ∨ kind = 5 ∨ kind = 6 ∨ kind = 7 := by omega
 clear ha k1 k2 k3 k4 h7
 rcases hs with rfl | rfl <;> rcases hk with rfl | rfl | rfl | rfl | rfl | rfl | rfl
 ·rw [acts1_1]; exact spec_l24End1_1 w pos many text ad le hw k6
 ·rw [acts2_1]; exact spec_l24End2_1 w pos many text ad le hw k6
 ·rw [acts3_1]; exact spec_l24End3_1 w pos many text ad le hw k6
 ·rw [acts4_1]; exact spec_l24End4_1 w pos many text ad le hw k6
 ·have hb : sideAt ad.addr = 1 ∧ (addOwn w.a ad).2 = true := by
   by_cases h0 : sideAt ad.addr = 1 <;> cases h1 : (addOwn w.a ad).2 <;> simp [actBad, endAt, h0, h1] at hb <;> exact ⟨h0, rfl⟩
  rw [acts5_1 hb.1 hb.2]; exact spec_l24End5_1 w pos many text ad le hw k6 hb.1 hb.2
 ·rw [acts6_1]; exact spec_l24End6_1 w pos many text ad le hw k6
 ·rw [acts7_1]; exact spec_l24End7_1 w pos many text ad le hw k6
 ·rw [acts1_2]; exact spec_l24End1_2 w pos many text ad le hw k6
 ·rw [acts2_2]; exact spec_l24End2_2 w pos many text ad le hw k6
 ·rw [acts3_2]; exact spec_l24End3_2 w pos many text ad le hw k6
 ·rw [acts4_2]; exact spec_l24End4_2 w pos many text ad le hw k6
 ·have hb : sideAt ad.addr = 2 ∧ (addOwn w.b ad).2 = true := by
   by_cases h0 : sideAt ad.addr = 2 <;> cases h1 : (addOwn w.b ad).2 <;> simp [actBad, endAt, h0, h1] at hb <;> exact ⟨h0, rfl⟩
  rw [acts5_2 hb.1 hb.2]; exact spec_l24End5_2 w pos many text ad le hw k6 hb.1 hb.2
 ·rw [acts6_2]; exact spec_l24End6_2 w pos many text ad le hw k6
 ·rw [acts7_2]; exact spec_l24End7_2 w pos many text ad le hw k6
theorem spec_l24EndB (w : WorldD) (a : ActD) (hw : SmallD w) (ha : actOk a = true) (hb : actBad w a = true) :
  CallA Tryz.prog 167 [.ag (w.cs 0), .ag a.cs] (w.hp true) (.tu [.ag (w.cs 21), .sc (.int .i64 1)]) ([none, none, none, none, none, none, none, none, none, none, none, none, none, none, none, none, none, none, none, none, none] ++ w.hp true) := by
 obtain ⟨k1, k2, k3, k4, k5, k6⟩ := actOk_parts ha
 obtain ⟨kind, side, pos, many, text, ad, le⟩ := a
 dsimp only at *
 have hs : side = 1 ∨ side = 2 := by omega
 have hk : kind = 5 := by simp only [actBad, Bool.and_eq_true, decide_eq_true_eq] at hb; exact hb.1
 subst hk
 rcases hs with rfl | rfl
 ·refine spec_l24End5b_1 w pos many text ad le hw ?_
  by_cases h0 : sideAt ad.addr = 1
  ·exact .inr (by cases h1 : (addOwn w.a ad).2; rfl; simp [actBad, endAt, h0, h1] at hb)
  ·exact .inl h0
 ·refine spec_l24End5b_2 w pos many text ad le hw ?_
  by_cases h0 : sideAt ad.addr = 2
  ·exact .inr (by cases h1 : (addOwn w.b ad).2; rfl; simp [actBad, endAt, h0, h1] at hb)
  ·exact .inl h0
theorem spec_l24Bag (w : WorldD) (a : ActD) (hw : SmallD w) (ha : actOk a = true) (h7 : ¬ a.kind ≤ 7) (h10 : a.kind ≤ 10) :
  CallA Tryz.prog 169 [.ag (w.cs 0), .ag a.cs] (w.hp true) (.tu [.ag ((moves w a).1.cs 21), .sc (.int .i64 (moves w a).2)]) ([none, none, none, none, none, none, none, none, none, none, none, none, none, none, none, none, none, none, none, none, none] ++ (moves w a).1.hp true) := by
 obtain ⟨k1, k2, k3, k4, k5, k6⟩ := actOk_parts ha
 obtain ⟨kind, side, pos, many, text, ad, le⟩ := a
 dsimp only at *
 have hk : kind = 8 ∨ kind = 9 ∨ kind = 10 := by omega
 obtain ⟨p, rfl⟩ := Int.eq_ofNat_of_zero_le k5
 rcases hk with rfl | rfl | rfl
 ·exact spec_l24Bag8 w side many p text ad le hw
 ·exact spec_l24Bag9 w side many p text ad le hw
 ·exact spec_l24Bag10 w side many p text ad le hw
end
section
open Go.RowKit

theorem spec_ActOk (a : ActD) : CallA Tryz.prog 166 [.ag a.cs] [] (.sc (.bo (actOk a))) [] := by
 refine qE Tryz.func166 Tryz.ntmps166 Tryz.results166 fun E hE => ?_
 refine qK (spec_l01In _ _ _) [] ?_
 refine qB (fun h1 => ?_) fun h1 => ?_
 ·refine qK (spec_l01In _ _ _) [] ?_
  refine qB (fun h2 => ?_) fun h2 => ?_
  ·refine qK (spec_l14Num _) [] ?_
   refine qB (fun h3 => ?_) fun h3 => ?_
   ·refine qK (spec_l14Num _) [] ?_
    refine qB (fun h4 => ?_) fun h4 => ?_
    ·refine qJ [] ?_
     simp [actOk, h1, h2, h3, h4]
     omega
    ·refine qJ [] ?_
     simp [actOk, h1, h2, h3, h4]
   ·refine qJ [] ?_
    simp [actOk, h1, h2, h3]
  ·refine qJ [] ?_
   simp [actOk, h1, h2]
 ·refine qJ [] ?_
  simp [actOk, h1]
end
section
open Go.RowKit

theorem spec_Done (w : WorldD) (a : ActD) (hw : SmallD w) : CallA Tryz.prog 142 [.ag (w.cs 0), .ag a.cs] (w.hp false) (.tu [.ag ((doneW w a).1.cs 21), .sc (.int .i64 (doneW w a).2)]) (w.hp false ++ (doneW w a).1.hp true) := by
 have hC := spec_l23Copy w hw.p.s
 have hA := spec_ActOk a
 have hI := spec_l01In a.kind 1 7
 cases hok : actOk a with
 | false =>
  rw [show doneW w a = (w, 3) from by rw [doneW, if_neg (by simp [hok])]]
  rw [hok] at hA
  dsimp only
  refine qE Tryz.func142 Tryz.ntmps142 Tryz.results142 fun E hE => ?_
  refine qK (hC) (qA [0, 1, 2, 3, 4, 5, 6, 7, 8, 9, 10, 11, 12, 13, 14, 15, 16, 17, 18, 19, 20]) ?_
  refine qK (hA) [] ?_
  exact qF (qA [0, 1, 2, 3, 4, 5, 6, 7, 8, 9, 10, 11, 12, 13, 14, 15, 16, 17, 18, 19, 20, 24, 25, 26, 27, 28, 29, 30, 31, 32, 33, 34, 35, 36, 37, 38, 39, 40, 41, 42, 43, 44])
 | true =>
  rw [hok] at hA
  obtain ⟨k1, k2, k3, k4, k5, k6⟩ := actOk_parts hok
  by_cases h7 : a.kind ≤ 7
  ·rw [show doneW w a = acts w a from by rw [doneW, if_pos hok, if_pos h7]]
   have hin : inR a.kind 1 7 = true := by simp only [inR, Bool.and_eq_true, decide_eq_true_eq]; omega
   rw [hin] at hI
   by_cases hb : actBad w a = true
   ·have hQ := spec_l24EndB w a hw hok hb
    rw [acts_bad hb]
    dsimp only
    refine qE Tryz.func142 Tryz.ntmps142 Tryz.results142 fun E hE => ?_
    refine qK (hC) (qA [0, 1, 2, 3, 4, 5, 6, 7, 8, 9, 10, 11, 12, 13, 14, 15, 16, 17, 18, 19, 20]) ?_
    refine qK (hA) [] ?_
    refine qK (hI) [] ?_
    refine qK (hQ) (qA [24, 25, 26, 27, 28, 29, 30, 31, 32, 33, 34, 35, 36, 37, 38, 39, 40, 41, 42, 43, 44]) ?_
    exact qF (qA [0, 1, 2, 3, 4, 5, 6, 7, 8, 9, 10, 11, 12, 13, 14, 15, 16, 17, 18, 19, 20, 45, 46, 47, 48, 49, 50, 51, 52, 53, 54, 55, 56, 57, 58, 59, 60, 61, 62, 63, 64, 65])
   ·have hQ := spec_l24End w a hw hok h7 hb
    obtain ⟨R, hR⟩ : ∃ R, R = acts w a := ⟨_, rfl⟩
    rw [← hR] at hQ ⊢
    clear hR
    obtain ⟨r, c⟩ := R
    dsimp only at hQ ⊢
    refine qE Tryz.func142 Tryz.ntmps142 Tryz.results142 fun E hE => ?_
    refine qK (hC) (qA [0, 1, 2, 3, 4, 5, 6, 7, 8, 9, 10, 11, 12, 13, 14, 15, 16, 17, 18, 19, 20]) ?_
    refine qK (hA) [] ?_
    refine qK (hI) [] ?_
    refine qK (hQ) (qA [24, 25, 26, 27, 28, 29, 30, 31, 32, 33, 34, 35, 36, 37, 38, 39, 40, 41, 42, 43, 44]) ?_
    exact qF (qA [0, 1, 2, 3, 4, 5, 6, 7, 8, 9, 10, 11, 12, 13, 14, 15, 16, 17, 18, 19, 20, 45, 46, 47, 48, 49, 50, 51, 52, 53, 54, 55, 56, 57, 58, 59, 60, 61, 62, 63, 64, 65])
  ·rw [show doneW w a = moves w a from by rw [doneW, if_pos hok, if_neg h7]]
   have hin : inR a.kind 1 7 = false := by simp only [inR, Bool.and_eq_false_iff, decide_eq_false_iff_not]; omega
   rw [hin] at hI
   by_cases h10 : a.kind ≤ 10
   ·have hQ := spec_l24Bag w a hw hok h7 h10
    obtain ⟨R, hR⟩ : ∃ R, R = moves w a := ⟨_, rfl⟩
    rw [← hR] at hQ ⊢
    clear hR
    obtain ⟨r, c⟩ := R
    dsimp only at hQ ⊢
    refine qE Tryz.func142 Tryz.ntmps142 Tryz.results142 fun E hE => ?_
    refine qK (hC) (qA [0, 1, 2, 3, 4, 5, 6, 7, 8, 9, 10, 11, 12, 13, 14, 15, 16, 17, 18, 19, 20]) ?_
    refine qK (hA) [] ?_
    refine qK (hI) [] ?_
    refine qK (hQ) (qA [24, 25, 26, 27, 28, 29, 30, 31, 32, 33, 34, 35, 36, 37, 38, 39, 40, 41, 42, 43, 44]) ?_
    exact qF (qA [0, 1, 2, 3, 4, 5, 6, 7, 8, 9, 10, 11, 12, 13, 14, 15, 16, 17, 18, 19, 20, 46, 47, 48, 49, 50, 51, 52, 53, 54, 55, 56, 57, 58, 59, 60, 61, 62, 63, 64, 65, 66])
   ·obtain ⟨kind, side, pos, many, text, ad, le⟩ := a
    dsimp only at *
    have hbag := hw.p.s.bag
    have hpast := hw.p.s.past
    have hk : kind = 11 ∨ kind = 12 := by omega
    clear h7 h10 k1 k2 hok
    rcases hk with rfl | rfl
    ·have hM := spec_MayInject w le hw.p.s.keys hw.p.s.tags hw.p.s.nums
     cases hm : mayInject w le with
     | false =>
      rw [mv11_f hm]
      rw [hm] at hM
      dsimp only
      refine qE Tryz.func142 Tryz.ntmps142 Tryz.results142 fun E hE => ?_
      refine qK (hC) (qA [0, 1, 2, 3, 4, 5, 6, 7, 8, 9, 10, 11, 12, 13, 14, 15, 16, 17, 18, 19, 20]) ?_
      refine qK (hA) [] ?_
      refine qK (hI) [] ?_
      refine qK (hM) (qA [24, 25, 26, 27, 28, 29, 30, 31, 32, 33, 34, 35, 36, 37, 38, 39, 40, 41, 42, 43, 44]) ?_
      exact qF (qA [0, 1, 2, 3, 4, 5, 6, 7, 8, 9, 10, 11, 12, 13, 14, 15, 16, 17, 18, 19, 20, 24, 25, 26, 27, 28, 29, 30, 31, 32, 33, 34, 35, 36, 37, 38, 39, 40, 41, 42, 43, 44])
     | true =>
      rw [hm] at hM
      by_cases h4 : 40 ≤ w.bag.length
      ·rw [mv11_b hm h4]
       dsimp only
       refine qE Tryz.func142 Tryz.ntmps142 Tryz.results142 fun E hE => ?_
       refine qK (hC) (qA [0, 1, 2, 3, 4, 5, 6, 7, 8, 9, 10, 11, 12, 13, 14, 15, 16, 17, 18, 19, 20]) ?_
       refine qK (hA) [] ?_
       refine qK (hI) [] ?_
       refine qK (hM) (qA [24, 25, 26, 27, 28, 29, 30, 31, 32, 33, 34, 35, 36, 37, 38, 39, 40, 41, 42, 43, 44]) ?_
       exact qF (qA [0, 1, 2, 3, 4, 5, 6, 7, 8, 9, 10, 11, 12, 13, 14, 15, 16, 17, 18, 19, 20, 24, 25, 26, 27, 28, 29, 30, 31, 32, 33, 34, 35, 36, 37, 38, 39, 40, 41, 42, 43, 44])
      ·rw [mv11_t hm h4]
       dsimp only
       refine qE Tryz.func142 Tryz.ntmps142 Tryz.results142 fun E hE => ?_
       refine qK (hC) (qA [0, 1, 2, 3, 4, 5, 6, 7, 8, 9, 10, 11, 12, 13, 14, 15, 16, 17, 18, 19, 20]) ?_
       refine qK (hA) [] ?_
       refine qK (hI) [] ?_
       refine qK (hM) (qA [24, 25, 26, 27, 28, 29, 30, 31, 32, 33, 34, 35, 36, 37, 38, 39, 40, 41, 42, 43, 44]) ?_
       refine qJ (qA [0, 1, 2, 3, 4, 5, 6, 7, 8, 9, 10, 11, 12, 13, 14, 15, 16, 17, 18, 19, 20, 24, 25, 26, 27, 28, 29, 30, 31, 32, 33, 34, 35, 36, 37, 47, 39, 40, 41, 42, 43, 44]) ?_
       simp [LetterD.cs]
    ·obtain ⟨p, rfl⟩ := Int.eq_ofNat_of_zero_le k5
     by_cases hp : p < w.past.length
     ·have hx := map_get (enc := LetterD.cs) hp
      have hq1 := @mv12_b w side many p text ad le hp
      have hq2 := @mv12_t w side many p text ad le hp
      obtain ⟨R, hR⟩ : ∃ R, R = moves w ⟨12, side, (p : Nat), many, text, ad, le⟩ := ⟨_, rfl⟩
      change _ = moves w _ at hR
      rw [← hR] at hq1 hq2
      try rw [← hR]
      clear hR
      generalize hxx : w.past[p] = x at *
      have hS := spec_SideAt x.to
      generalize sideAt x.to = sd at *
      by_cases h0 : sd = 0
      ·rw [hq1 (.inl h0)]
       dsimp only
       refine qE Tryz.func142 Tryz.ntmps142 Tryz.results142 fun E hE => ?_
       refine qK (hC) (qA [0, 1, 2, 3, 4, 5, 6, 7, 8, 9, 10, 11, 12, 13, 14, 15, 16, 17, 18, 19, 20]) ?_
       refine qK (hA) [] ?_
       refine qK (hI) [] ?_
       try simp (disch := omega) only [go_sem, Nat.reduceEqDiff, Nat.reduceAdd, Nat.reduceSub, Int.reduceAdd, Int.reduceSub, Int.reduceToNat, hx, hxx]
       refine qK (hS) [] ?_
       exact qF (qA [0, 1, 2, 3, 4, 5, 6, 7, 8, 9, 10, 11, 12, 13, 14, 15, 16, 17, 18, 19, 20, 24, 25, 26, 27, 28, 29, 30, 31, 32, 33, 34, 35, 36, 37, 38, 39, 40, 41, 42, 43, 44])
      ·by_cases h4 : 40 ≤ w.bag.length
       ·rw [hq1 (.inr h4)]
        dsimp only
        refine qE Tryz.func142 Tryz.ntmps142 Tryz.results142 fun E hE => ?_
        refine qK (hC) (qA [0, 1, 2, 3, 4, 5, 6, 7, 8, 9, 10, 11, 12, 13, 14, 15, 16, 17, 18, 19, 20]) ?_
        refine qK (hA) [] ?_
        refine qK (hI) [] ?_
        try simp (disch := omega) only [go_sem, Nat.reduceEqDiff, Nat.reduceAdd, Nat.reduceSub, Int.reduceAdd, Int.reduceSub, Int.reduceToNat, hx, hxx]
        refine qK (hS) [] ?_
        exact qF (qA [0, 1, 2, 3, 4, 5, 6, 7, 8, 9, 10, 11, 12, 13, 14, 15, 16, 17, 18, 19, 20, 24, 25, 26, 27, 28, 29, 30, 31, 32, 33, 34, 35, 36, 37, 38, 39, 40, 41, 42, 43, 44])
       ·rw [hq2 h0 h4]
        dsimp only
        refine qE Tryz.func142 Tryz.ntmps142 Tryz.results142 fun E hE => ?_
        refine qK (hC) (qA [0, 1, 2, 3, 4, 5, 6, 7, 8, 9, 10, 11, 12, 13, 14, 15, 16, 17, 18, 19, 20]) ?_
        refine qK (hA) [] ?_
        refine qK (hI) [] ?_
        try simp (disch := omega) only [go_sem, Nat.reduceEqDiff, Nat.reduceAdd, Nat.reduceSub, Int.reduceAdd, Int.reduceSub, Int.reduceToNat, hx, hxx]
        refine qK (hS) [] ?_
        refine qX ?_
        refine qJ (qA [0, 1, 2, 3, 4, 5, 6, 7, 8, 9, 10, 11, 12, 13, 14, 15, 16, 17, 18, 19, 20, 24, 25, 26, 27, 28, 29, 30, 31, 32, 33, 34, 35, 36, 37, 47, 39, 40, 41, 42, 43, 44]) ?_
        simp [LetterD.cs]
     ·rw [mv12_f hp]
      dsimp only
      refine qE Tryz.func142 Tryz.ntmps142 Tryz.results142 fun E hE => ?_
      refine qK (hC) (qA [0, 1, 2, 3, 4, 5, 6, 7, 8, 9, 10, 11, 12, 13, 14, 15, 16, 17, 18, 19, 20]) ?_
      refine qK (hA) [] ?_
      refine qK (hI) [] ?_
      exact qF (qA [0, 1, 2, 3, 4, 5, 6, 7, 8, 9, 10, 11, 12, 13, 14, 15, 16, 17, 18, 19, 20, 24, 25, 26, 27, 28, 29, 30, 31, 32, 33, 34, 35, 36, 37, 38, 39, 40, 41, 42, 43, 44])
end
section
open Go.RowKit

def covKW (P : Program) (r : Array Oper) (T : List Nat) (X : List (Nat × Nat)) (os : List (List Nat)) : List (Nat × Nat) → List (Nat × Nat) → Bool
 | [], ex => badK X ex || os.any fun σ => okLW P r T ex σ
 | u :: U, ex => badK X ex || (covKW P r T X os U (u :: ex) && covKW P r T X os U ((u.2, u.1) :: ex))
theorem covKW_sound {P : Program} {r : Array Oper} {T : List Nat} {X : List (Nat × Nat)} {os : List (List Nat)} {l : List Nat} (hX : ∀ u ∈ X, u.1 ≠ u.2 ∧ before l u.1 u.2 = true) :
  ∀ {U ex : List (Nat × Nat)}, (∀ u ∈ U, u.1 ≠ u.2) → (∀ u ∈ ex, u.1 ≠ u.2 ∧ before l u.1 u.2 = true) → covKW P r T X os U ex = true → ∃ ex' : List (Nat × Nat), (∀ u ∈ ex', u.1 ≠ u.2 ∧ before l u.1 u.2 = true) ∧ ∃ σ ∈ os, okLW P r T ex' σ = true
 | [], ex, hU, hex, h => by
  simp only [covKW, Bool.or_eq_true] at h
  rcases h with h | h
  ·exact (badK_false hX hex h).elim
  ·obtain ⟨σ, h1, h2⟩ := List.any_eq_true.1 h
   exact ⟨ex, hex, σ, h1, h2⟩
 | (x, y) :: U, ex, hU, hex, h => by
  simp only [covKW, Bool.or_eq_true, Bool.and_eq_true] at h
  rcases h with h | ⟨ha, hb⟩
  ·exact (badK_false hX hex h).elim
  ·have hne : x ≠ y := hU (x, y) (List.mem_cons_self ..)
   rcases before_total hne (l := l) with h3 | h3
   ·refine covKW_sound hX (fun u hu => hU u (List.mem_cons_of_mem _ hu)) (fun u hu => ?_) ha
    rcases List.mem_cons.1 hu with rfl | hu
    ·exact ⟨hne, h3⟩
    ·exact hex u hu
   ·refine covKW_sound hX (fun u hu => hU u (List.mem_cons_of_mem _ hu)) (fun u hu => ?_) hb
    rcases List.mem_cons.1 hu with rfl | hu
    ·exact ⟨hne.symm, h3⟩
    ·exact hex u hu
def coverKW (P : Program) (r : Array Oper) (U X : List (Nat × Nat)) (os : List (List Nat)) : Bool :=
 backB r && U.all (fun u => u.1 != u.2) && X.all (fun u => u.1 != u.2 && (edgeB r u.1 u.2 && decide (u.1 < r.size))) && os.all (fun σ => σ.length == r.size && (List.range r.size).all σ.contains && σ.all fun i => decide (i < r.size)) &&
 (let T := clo r; covKW P r T X os U [])
theorem wp_drawnKW {P : Program} {E : Entry} {id : Nat} {r : Array Oper} {U X : List (Nat × Nat)} {os : List (List Nat)} (hP : P.follows .mixedOrders = true) (hcov : coverKW P r U X os = true) {s : S} {K : S → Prop}
  (h : ∀ σ ∈ os, ∃ s', RunW P r σ s s' ∧ ∀ β a w, Sim E β s' a w → ∃ β' t, K t ∧ Sim E β' t a w) : Den P E (.region id r true) s fun e s' => e = .normal ∧ K s' := by
 intro β a w hs Q hQ
 refine wp_region_draw fun t => ?_
 simp only [Region.schedule, hP, Bool.true_or, if_true]
 simp only [coverKW, Bool.and_eq_true] at hcov
 obtain ⟨⟨⟨⟨hback, hU⟩, hX⟩, hperm⟩, hch⟩ := hcov
 have hd := drawn_go (r := r) r.size t (Array.replicate r.size false)
 have hXb : ∀ v ∈ X, v.1 ≠ v.2 ∧ before (Region.linearise .any r t) v.1 v.2 = true := by
  intro v hv
  have hx := List.all_eq_true.1 hX v hv
  simp only [Bool.and_eq_true, bne_iff_ne, ne_eq, decide_eq_true_eq] at hx
  obtain ⟨h1, h5, h6⟩ := hx
  refine ⟨h1, ?_⟩
  unfold edgeB at h5
  split at h5
  ·rename_i o ho
   obtain ⟨e, he, he2⟩ := List.any_eq_true.1 h5
   simp only [Bool.and_eq_true, beq_iff_eq] at he2
   exact drawn_before hback hd ho he he2.1 he2.2 (by simp) (by simp [Array.getD_eq_getD_getElem?, h6])
  ·cases h5
 obtain ⟨ex, hbef, σ, hσ, hok⟩ := covKW_sound hXb (fun u hu => by
  have := List.all_eq_true.1 hU u hu
  simpa using this) (fun u hu => by cases hu) hch
 have hp := List.all_eq_true.1 hperm σ hσ
 simp only [Bool.and_eq_true, beq_iff_eq, List.all_eq_true, List.mem_range, decide_eq_true_eq] at hp
 obtain ⟨⟨hlen, hall⟩, hlt⟩ := hp
 obtain ⟨s', hrun, hK⟩ := h σ hσ
 have hs2 : Sim E β s a { w with drawn := w.drawn + 1 } := ⟨hs.dfr, hs.sl, ⟨hs.hp.len, hs.hp.ob, hs.hp.flat, hs.hp.apart⟩, hs.ent, ⟨hs.st.le, hs.st.os, hs.st.tape, hs.st.output, hs.st.size, hs.st.block, hs.st.len, hs.st.old, hs.st.fresh⟩⟩
 refine ops_of_runW hback (fun β' a' w' hs' => let ⟨β2, t2, hk2, hs2⟩ := hK β' a' w' hs'; hQ .normal t2 β2 a' w' ⟨rfl, hk2⟩ hs2) (Region.linearise .any r t) r.size _ σ s β a _ hd (by simp) (by omega) (fun i => ?_) (fun i o ho hl => ?_) hok (fun p q hpq _ _ => (hbef (p, q) (List.contains_iff_mem.1 hpq)).2) hrun hs2
 ·constructor
  ·intro hi
   refine ⟨hlt i hi, ?_⟩
   simp [Array.getD_eq_getD_getElem?, hlt i hi]
  ·rintro ⟨hi, _⟩
   simpa using hall i hi
 ·exfalso
  simp only [Array.getD_eq_getD_getElem?, Array.getElem?_replicate] at hl
  split at hl <;> cases hl
theorem den_drawKW {P : Program} {E : Entry} {F : S → Prop} {id : Nat} {r : Array Oper} {k : List Item} {s : S} {c : Prop} (U X : List (Nat × Nat)) (os : List (List Nat)) (hP : P.follows .mixedOrders = true) (hc : c) (hcov : coverKW P r U X os = true)
  (h : allDn (fun σ => denW P r (fun s' => den P E F (.go k s' True)) (.go σ s True)) os) : den P E F (.draw id r k s c) := by
 refine ⟨hc, den_mono (wp_drawnKW hP hcov (K := fun s' => den P E F (.go k s' True)) fun σ hσ => let ⟨s', h1, h2⟩ := (allDn_mem h σ hσ).2; ⟨s', h1, fun β a w hs => ⟨β, s', h2, hs⟩⟩) fun e s' hk => ?_⟩
 obtain ⟨rfl, hk⟩ := hk
 exact hk.2
end
section
open Go.RowKit

def emptyE (e : EndD) : Bool := smallB e && decide (e.inp.list = []) && decide (e.inp.ready.length = 0) && decide (e.out.text.length = 0) && decide (e.subs.length ≤ 100) && decide (e.far.length ≤ 100)
theorem emptyE_good {e : EndD} (h : emptyE e = true) : GoodE e ∧ FewE e := by
 simp only [emptyE, Bool.and_eq_true, decide_eq_true_eq] at h
 obtain ⟨⟨⟨⟨⟨h1, h2⟩, h3⟩, h4⟩, h5⟩, h6⟩ := h
 exact ⟨⟨smallB_iff h1, ⟨by rw [h2]; decide, by omega, fun x hx => by rw [h2] at hx; simp at hx⟩, by omega⟩, h5, h6⟩
theorem meet_empty : (pols.all fun p => smallB (idleE 1 p) && smallB (idleE 2 p) && emptyE (meet (idleE 1 p) (idleE 2 p)).1 && emptyE (meet (idleE 1 p) (idleE 2 p)).2.1) = true := by decide +kernel
def world0 (x y : EndD) : WorldD := ⟨x, y, [], [], [], [], [], [], ⟨[5, 7], []⟩, [], [], []⟩
structure Fine0 (w : WorldD) : Prop where
 g : GoodW w 0
 f : FewW w
 bag : w.bag = []
 past : w.past = []
 tags : w.known.tags = []
theorem spec_WorldNewD (p : PolicyD) (hp : p ∈ pols) : ∃ w : WorldD, Fine0 w ∧ CallA Tryz.prog 141 [.ag p.cs] [] (.tu [.ag (w.cs 0), .sc (.bo true)]) (w.hp true) := by
 have h1 := spec_EndNew 1 11 p
 have h2 := spec_EndNew 2 21 p
 have i1 := idle_new (s := 1) (by omega) hp
 have i2 := idle_new (s := 2) (by omega) hp
 rw [show (10 * 1 + 1 : Int) = 11 from rfl] at i1
 rw [show (10 * 2 + 1 : Int) = 21 from rfl] at i2
 rw [i1] at h1
 rw [i2] at h2
 have hm := List.all_eq_true.1 meet_empty p hp
 simp only [Bool.and_eq_true] at hm
 obtain ⟨⟨⟨m1, m2⟩, m3⟩, m4⟩ := hm
 have hM := spec_Meet (idleE 1 p) (idleE 2 p) (smallB_iff m1) (smallB_iff m2)
 obtain ⟨g1, f1⟩ := emptyE_good m3
 obtain ⟨g2, f2⟩ := emptyE_good m4
 clear i1 i2 m1 m2 m3 m4
 generalize idleE 1 p = a at *
 generalize idleE 2 p = c at *
 obtain ⟨M, hMM⟩ : ∃ M, M = meet a c := ⟨_, rfl⟩
 rw [← hMM] at hM g1 f1 g2 f2
 clear hMM
 obtain ⟨X, Y, ok⟩ := M
 dsimp only at hM g1 f1 g2 f2
 refine ⟨world0 X Y, ⟨⟨g1, g2, ⟨by simp [world0], by simp [world0], by simp [world0], by simp [world0], by simp [world0], by simp [world0], by simp [world0]⟩, by simp [world0], by simp [world0], by simp [world0], by simp [world0]⟩, ⟨f1, f2⟩, rfl, rfl, rfl⟩, ?_⟩
 refine qE Tryz.func141 Tryz.ntmps141 Tryz.results141 fun E hE => ?_
 refine qK (h1) [] ?_
 refine qK (h2) [] ?_
 refine qK (hM) (qA [2, 3, 4, 5, 6, 7, 8, 10, 11, 12, 13, 14, 15, 16]) ?_
 refine den_fin [some (20, none), some (21, none), some (22, none), some (23, none), some (24, none), some (25, none), some (26, none), some (27, none), some (28, none), some (29, none), some (30, none), some (31, none), some (32, none), some (33, none), none, none, some (18, none), none, none, none, none] (qC) _ (by simp only [go_sem]; rfl) (by rfl) (by rfl) ?_
 simp (disch := omega) only [go_sem, Nat.reduceEqDiff, Nat.reduceAdd, Nat.reduceSub, Int.reduceAdd, Int.reduceSub, Int.reduceToNat]
 try simp [world0, intC]
theorem skol {b : List UInt8} {α : Type} [Inhabited α] {C : CurD → α → CurD → Prop} (h : ∀ c, c.ok b → ∃ x c', C c x c') : ∃ F : CurD → α × CurD, ∀ c, c.ok b → C c (F c).1 (F c).2 := by
 classical
 refine ⟨fun c => if hc : c.ok b then ((h c hc).choose, (h c hc).choose_spec.choose) else (default, c), fun c hc => ?_⟩
 simp only [dif_pos hc]
 exact (h c hc).choose_spec.choose_spec
def actsD (F : CurD → ActD × CurD) : Nat → CurD → List ActD × CurD
 | 0, c => ([], c)
 | n + 1, c => ((F c).1 :: (actsD F n (F c).2).1, (actsD F n (F c).2).2)
def FineA (a : ActD) : Prop := a.wf ∧ a.text.length ≤ 200
theorem actsD_ok {b : List UInt8} {F : CurD → ActD × CurD} (hF : ∀ c, c.ok b → (F c).2.ok b ∧ FineA (F c).1) : ∀ (n : Nat) (c : CurD), c.ok b → (actsD F n c).2.ok b ∧ (actsD F n c).1.length = n ∧ ∀ a ∈ (actsD F n c).1, FineA a
 | 0, c, h => ⟨h, rfl, fun a ha => by simp [actsD] at ha⟩
 | n + 1, c, h => by
  obtain ⟨h1, h2⟩ := hF c h
  obtain ⟨h3, h4, h5⟩ := actsD_ok hF n (F c).2 h1
  refine ⟨h3, by simp only [actsD, List.length_cons, h4], fun a ha => ?_⟩
  simp only [actsD, List.mem_cons] at ha
  rcases ha with rfl | ha
  ·exact h2
  ·exact h5 a ha
theorem spec_l24Acts (b : List UInt8) (c : CurD) (hc : c.ok b) (m : Int) (hm : 1 ≤ m ∧ m ≤ 120) : ∃ (l : List ActD) (c' : CurD), c'.ok b ∧ l.length ≤ 120 ∧ (∀ a ∈ l, FineA a) ∧ CallA Tryz.prog 109 [.sc (.pt 1 0 0), .sc (.int .i64 m)] (c.hp b) (.sc (.sl 2 0 l.length)) (c'.hp b ++ [some ⟨l.map ActD.cs, 28, 153, true, true⟩]) := by
 obtain ⟨F, hF⟩ := skol (b := b) (spec_l24Act b)
 have h1 := spec_l01Below b c hc m
 have o1 := CurD.below_ok hc m
 have b1 := c.below_lt b (n := m) (by omega)
 generalize c.below b m = r1 at h1 o1 b1
 obtain ⟨v, c1⟩ := r1
 dsimp only at h1 o1 b1
 obtain ⟨n, rfl⟩ := Int.eq_ofNat_of_zero_le b1.1
 obtain ⟨q1, q2, q3⟩ := actsD_ok (F := F) (fun c h => ⟨(hF c h).1, (hF c h).2.1⟩) n c1 o1
 obtain ⟨R, hR⟩ : ∃ R, R = actsD F n c1 := ⟨_, rfl⟩
 rw [← hR] at q1 q2 q3
 refine ⟨R.1, R.2, q1, by omega, q3, ?_⟩
 refine qE Tryz.func109 Tryz.ntmps109 Tryz.results109 fun E hE => ?_
 refine qK (h1) (qA [0, 1]) ?_
 refine den_lp 2 hE (fun s (y : List ActD × CurD) => s.at [1, 8, 9, 10, 11, 12, 13, 14, 15, 16, 17, 18, 19, 20, 21] [(7, .sc (.int .i64 (y.1.length : Nat))), (5, .sc (.sl 2 0 y.1.length))] (y.2.hp b ++ [some ⟨y.1.map ActD.cs, 28, 153, true, true⟩])) (fun (y : List ActD × CurD) => y.1.length ≤ n ∧ y.2.ok b ∧ (y.1 ++ (actsD F (n - y.1.length) y.2).1, (actsD F (n - y.1.length) y.2).2) = R) (fun (y : List ActD × CurD) => n - y.1.length) ([], c1) (qA [0, 1, 2]) (qC) (⟨Nat.zero_le _, o1, hR.symm⟩) (weak_mk (by rfl) (by rfl) ?_) fun y hy N hN => ?_
 ·exact qY
 ·obtain ⟨acc, c2⟩ := y
  obtain ⟨f1, f2, f3⟩ := hy
  dsimp only at f1 f2 f3
  obtain ⟨k1, k2, k3⟩ := hF c2 f2
  refine qR ?_
  refine qB (fun h => ?_) fun h => ?_
  ·rw [show n - acc.length = (n - (acc.length + 1)) + 1 from by omega, actsD] at f3
   generalize F c2 = z at k1 k2 k3 f3
   obtain ⟨a, c3⟩ := z
   dsimp only at k1 k2 k3 f3
   refine qK (k3) (qA [0, 1]) ?_
   refine ⟨qC, hN _ (acc ++ [a], c3) (qA [0, 1, 4]) (by (try dsimp only); exact ⟨by simp; omega, k1, by rw [List.length_append, List.length_singleton, List.append_assoc]; exact f3⟩) (by simp; omega) (weak_mk (by rfl) (by rfl) ?_)⟩
   try simp (disch := omega) only [go_sem, Nat.reduceEqDiff, Nat.reduceAdd, Nat.reduceSub, Int.reduceAdd, Int.reduceSub, Int.reduceToNat]
   try simp [ActD.cs]
  ·rw [show n - acc.length = 0 from by omega] at f3
   simp only [actsD, List.append_nil] at f3
   subst f3
   exact qF (qA [0, 1, 2])
def livedW : List ActD → WorldD → List Int → WorldD × List Int
 | [], w, cs => (w, cs)
 | a :: l, w, cs => livedW l (doneW w a).1 (cs ++ [(doneW w a).2])
theorem livedW_step {l : List ActD} {k : Nat} {w : WorldD} {cs : List Int} (h : k < l.length) : livedW (l.drop k) w cs = livedW (l.drop (k + 1)) (doneW w l[k]).1 (cs ++ [(doneW w l[k]).2]) := by
 rw [List.drop_eq_getElem_cons h, livedW]
theorem livedW_end {l : List ActD} {k : Nat} {w : WorldD} {cs : List Int} (h : l.length ≤ k) : livedW (l.drop k) w cs = (w, cs) := by
 rw [List.drop_eq_nil_of_le h, livedW]
theorem livedW_inv {Q : WorldD → Nat → Prop} (hQ : ∀ w k a, Q w k → a.text.length ≤ 200 → Q (doneW w a).1 (k + 1)) : ∀ {l : List ActD} {w : WorldD} {cs : List Int} {k : Nat}, Q w k → (∀ a ∈ l, FineA a) → Q (livedW l w cs).1 (k + l.length) ∧ (livedW l w cs).2.length = cs.length + l.length
 | [], w, cs, k, h, _ => ⟨h, rfl⟩
 | a :: l, w, cs, k, h, hl => by
  have h1 := livedW_inv hQ (l := l) (cs := cs ++ [(doneW w a).2]) (hQ w k a h (hl a (by simp)).2) (fun x hx => hl x (by simp [hx]))
  rw [livedW, List.length_cons]
  refine ⟨by rw [show k + (l.length + 1) = k + 1 + l.length by omega]; exact h1.1, by rw [h1.2, List.length_append, List.length_singleton]; omega⟩
theorem spec_LivedD (p : PolicyD) (hp : p ∈ pols) (l : List ActD) (hl : l.length ≤ 120) (ha : ∀ a ∈ l, FineA a) : ∃ (w0 : WorldD), Fine0 w0 ∧ CallA Tryz.prog 108 [.ag p.cs, .sc (.sl 0 0 l.length)] [some ⟨l.map ActD.cs, 28, 153, false, true⟩]
  (.tu [.ag ((livedW l w0 []).1.cs 1), .sc (.sl 22 0 (livedW l w0 []).2.length)]) ([some ⟨l.map ActD.cs, 28, 153, false, true⟩] ++ ((livedW l w0 []).1.hp true ++ [some ⟨(livedW l w0 []).2.map intC, 1, 3, true, true⟩])) := by
 obtain ⟨w0, h0, hW⟩ := spec_WorldNewD p hp
 refine ⟨w0, h0, ?_⟩
 obtain ⟨R, hR⟩ : ∃ R, R = livedW l w0 [] := ⟨_, rfl⟩
 rw [← hR]
 refine qEO Tryz.func108 Tryz.ntmps108 Tryz.results108 fun E hE => ?_
 refine qK (hW) [] ?_
 refine den_lpO 1 hE (fun s (y : Nat × WorldD × List Int) => s.at [0, 2, 7, 10, 11, 12, 13, 14, 15, 16, 17, 18, 19, 20, 21, 22, 23, 24, 25, 26, 27, 28, 29, 30, 31, 32, 33, 34, 35, 36, 37, 38, 39, 40, 41, 42, 43, 44] [(9, .sc (.int .i64 (y.1 : Nat))), (8, .sc (.sl 25 0 y.2.2.length))] ((s.hp.take 3) ++ (y.2.1.hp true ++ [some ⟨[WorldD.cs y.2.1 3], 61, 58, true, false⟩, some ⟨y.2.2.map intC, 1, 3, true, true⟩]))) (fun (y : Nat × WorldD × List Int) => y.1 ≤ l.length ∧ GoodW y.2.1 y.1 ∧ y.2.2.length = y.1 ∧ livedW (l.drop y.1) y.2.1 y.2.2 = R) (fun (y : Nat × WorldD × List Int) => l.length - y.1) (0, w0, []) (qA [0, 1, 2, 3, 4, 5, 6, 7, 8, 9, 10, 11, 12, 13, 14, 15, 16, 17, 18, 19, 20, 21, 22, 23, 24, 25]) (qC) (⟨Nat.zero_le _, h0.g, rfl, hR.symm⟩) (weak_mkO (by rfl) (by rfl) ?_) fun y hy N hN => ?_
 ·exact qY
 ·obtain ⟨k, w, cs⟩ := y
  obtain ⟨f1, f2, f3, f4⟩ := hy
  dsimp only at f1 f2 f3 f4
  refine qR ?_
  refine qB (fun h => ?_) fun h => ?_
  ·rw [livedW_step h] at f4
   have hak := ha l[k] (List.getElem_mem h)
   have hD := spec_Done w l[k] (f2.d (by omega))
   have hG := doneW_good f2 (a := l[k]) (by have := hak.2; omega)
   generalize hx : l[k] = x at *
   obtain ⟨Q, hQ⟩ : ∃ Q, Q = doneW w x := ⟨_, rfl⟩
   rw [← hQ] at hD hG f4
   try simp (disch := omega) only [go_sem, Nat.reduceEqDiff, Nat.reduceAdd, Nat.reduceSub, Int.reduceAdd, Int.reduceSub, Int.reduceToNat, hx]
   refine qD [0, 1, 2, 3, 4, 5, 6, 7, 8, 9, 10] ?_
   try simp (disch := omega) only [go_sem, Nat.reduceEqDiff, Nat.reduceAdd, Nat.reduceSub, Int.reduceAdd, Int.reduceSub, Int.reduceToNat, hx]
   refine qKD (hD) (qA [3, 4, 5, 6, 7, 8, 9, 10, 11, 12, 13, 14, 15, 16, 17, 18, 19, 20, 21, 22, 23]) ?_
   refine qG ?_
   refine ⟨qC, hN _ (k + 1, Q.1, cs ++ [Q.2]) (qA [0, 1, 2, 26, 27, 28, 29, 30, 31, 32, 33, 34, 35, 36, 37, 38, 39, 40, 41, 42, 43, 44, 45, 46, 24, 48]) (by (try dsimp only); exact ⟨by omega, hG, by simp [f3], f4⟩) (by (try dsimp only); omega) (weak_mkO (by rfl) (by rfl) ?_)⟩
   try simp (disch := omega) only [go_sem, Nat.reduceEqDiff, Nat.reduceAdd, Nat.reduceSub, Int.reduceAdd, Int.reduceSub, Int.reduceToNat]
   try simp [intC]
  ·rw [livedW_end (by omega)] at f4
   subst f4
   refine qX ?_
   exact qFO (qA [0, 3, 4, 5, 6, 7, 8, 9, 10, 11, 12, 13, 14, 15, 16, 17, 18, 19, 20, 21, 22, 23, 25])
structure FineW (w : WorldD) : Prop where
 g : GoodW w 120
 f : FewW w
theorem GoodW.mono {w : WorldD} {k j : Nat} (h : GoodW w k) (hk : k ≤ j) : GoodW w j := ⟨h.a, h.b, h.r, by have := h.wa; omega, by have := h.wb; omega, by have := h.ra; omega, by have := h.rb; omega⟩
theorem spec_l24World (b : List UInt8) (c : CurD) (hc : c.ok b) : ∃ (w : WorldD) (c' : CurD), c'.ok b ∧ (FineW w ∧ ∃ w0 l, Fine0 w0 ∧ w = (livedW l w0 []).1) ∧ CallA Tryz.prog 66 [.sc (.pt 1 0 0)] (c.hp b) (.ag (w.cs 2)) (c'.hp b ++ w.hp true) := by
 obtain ⟨p, c1, o1, hp, h1⟩ := spec_l12Policy b c hc
 obtain ⟨l, c2, o2, hl, ha, h2⟩ := spec_l24Acts b c1 o1 50 (by omega)
 obtain ⟨w0, f0, h3⟩ := spec_LivedD p hp l hl ha
 have hg := livedW_inv (Q := fun w k => GoodW w k ∧ FewW w) (fun w k a h ht => ⟨doneW_good h.1 (by omega), doneW_few h.2⟩) (l := l) (w := w0) (cs := []) (k := 0) ⟨f0.g, f0.f⟩ ha
 refine ⟨(livedW l w0 []).1, c2, o2, ⟨⟨hg.1.1.mono (by omega), hg.1.2⟩, w0, l, f0, rfl⟩, ?_⟩
 generalize livedW l w0 [] = R at *
 obtain ⟨w, cs⟩ := R
 dsimp only at h3 ⊢
 refine qE Tryz.func66 Tryz.ntmps66 Tryz.results66 fun E hE => ?_
 refine qK (h1) (qA [0, 1]) ?_
 refine den_drawKW [(0, 2), (2, 7), (3, 7), (7, 0)] [(0, 3), (2, 3)] [[1, 0, 2, 3, 4, 5, 6, 7, 8, 9], [1, 0, 2, 7, 3, 4, 5, 6, 8, 9], [1, 7, 0, 2, 3, 4, 5, 6, 8, 9], [1, 0, 7, 2, 3, 4, 5, 6, 8, 9], [1, 2, 0, 3, 4, 5, 6, 7, 8, 9], [1, 2, 7, 0, 3, 4, 5, 6, 8, 9], [1, 2, 0, 7, 3, 4, 5, 6, 8, 9], [1, 7, 2, 0, 3, 4, 5, 6, 8, 9]] (by kernel_rfl) (qC) (by kernel_rfl) ?_
 simp only [allDn]
 refine ⟨runW_den 400 ?_, runW_den 400 ?_, runW_den 400 ?_, runW_den 400 ?_, runW_den 400 ?_, runW_den 400 ?_, runW_den 400 ?_, runW_den 400 ?_⟩
 all_goals simp (disch := omega) only [go_sem, Nat.reduceEqDiff, Nat.reduceAdd, Nat.reduceSub, Int.reduceAdd, Int.reduceSub, Int.reduceToNat]
 ·refine den_callW (qC) (h2) (qA [0, 1]) qM (by rfl) (runW_den 400 ?_)
  simp (disch := omega) only [go_sem, Nat.reduceEqDiff, Nat.reduceAdd, Nat.reduceSub, Int.reduceAdd, Int.reduceSub, Int.reduceToNat]
  refine den_callW (qC) (h3) (qA [4]) qM (by rfl) (runW_den 400 ?_)
  simp (disch := omega) only [go_sem, Nat.reduceEqDiff, Nat.reduceAdd, Nat.reduceSub, Int.reduceAdd, Int.reduceSub, Int.reduceToNat]
  refine qG ?_
  exact qF (qA [0, 1, 5, 6, 7, 8, 9, 10, 11, 12, 13, 14, 15, 16, 17, 18, 19, 20, 21, 22, 23, 24, 25])
 ·refine den_callW (qC) (h2) (qA [0, 1]) qM (by rfl) (runW_den 400 ?_)
  simp (disch := omega) only [go_sem, Nat.reduceEqDiff, Nat.reduceAdd, Nat.reduceSub, Int.reduceAdd, Int.reduceSub, Int.reduceToNat]
  refine den_callW (qC) (h3) (qA [4]) qM (by rfl) (runW_den 400 ?_)
  simp (disch := omega) only [go_sem, Nat.reduceEqDiff, Nat.reduceAdd, Nat.reduceSub, Int.reduceAdd, Int.reduceSub, Int.reduceToNat]
  refine qG ?_
  exact qF (qA [0, 1, 6, 7, 8, 9, 10, 11, 12, 13, 14, 15, 16, 17, 18, 19, 20, 21, 22, 23, 24, 25, 26])
 ·refine den_callW (qC) (h2) (qA [0, 1]) qM (by rfl) (runW_den 400 ?_)
  simp (disch := omega) only [go_sem, Nat.reduceEqDiff, Nat.reduceAdd, Nat.reduceSub, Int.reduceAdd, Int.reduceSub, Int.reduceToNat]
  refine den_callW (qC) (h3) (qA [5]) qM (by rfl) (runW_den 400 ?_)
  simp (disch := omega) only [go_sem, Nat.reduceEqDiff, Nat.reduceAdd, Nat.reduceSub, Int.reduceAdd, Int.reduceSub, Int.reduceToNat]
  refine qG ?_
  exact qF (qA [0, 1, 6, 7, 8, 9, 10, 11, 12, 13, 14, 15, 16, 17, 18, 19, 20, 21, 22, 23, 24, 25, 26])
 ·refine den_callW (qC) (h2) (qA [0, 1]) qM (by rfl) (runW_den 400 ?_)
  simp (disch := omega) only [go_sem, Nat.reduceEqDiff, Nat.reduceAdd, Nat.reduceSub, Int.reduceAdd, Int.reduceSub, Int.reduceToNat]
  refine den_callW (qC) (h3) (qA [5]) qM (by rfl) (runW_den 400 ?_)
  simp (disch := omega) only [go_sem, Nat.reduceEqDiff, Nat.reduceAdd, Nat.reduceSub, Int.reduceAdd, Int.reduceSub, Int.reduceToNat]
  refine qG ?_
  exact qF (qA [0, 1, 6, 7, 8, 9, 10, 11, 12, 13, 14, 15, 16, 17, 18, 19, 20, 21, 22, 23, 24, 25, 26])
 ·refine den_callW (qC) (h2) (qA [0, 1]) qM (by rfl) (runW_den 400 ?_)
  simp (disch := omega) only [go_sem, Nat.reduceEqDiff, Nat.reduceAdd, Nat.reduceSub, Int.reduceAdd, Int.reduceSub, Int.reduceToNat]
  refine den_callW (qC) (h3) (qA [4]) qM (by rfl) (runW_den 400 ?_)
  simp (disch := omega) only [go_sem, Nat.reduceEqDiff, Nat.reduceAdd, Nat.reduceSub, Int.reduceAdd, Int.reduceSub, Int.reduceToNat]
  refine qG ?_
  exact qF (qA [0, 1, 5, 6, 7, 8, 9, 10, 11, 12, 13, 14, 15, 16, 17, 18, 19, 20, 21, 22, 23, 24, 25])
 ·refine den_callW (qC) (h2) (qA [0, 1]) qM (by rfl) (runW_den 400 ?_)
  simp (disch := omega) only [go_sem, Nat.reduceEqDiff, Nat.reduceAdd, Nat.reduceSub, Int.reduceAdd, Int.reduceSub, Int.reduceToNat]
  refine den_callW (qC) (h3) (qA [4]) qM (by rfl) (runW_den 400 ?_)
  simp (disch := omega) only [go_sem, Nat.reduceEqDiff, Nat.reduceAdd, Nat.reduceSub, Int.reduceAdd, Int.reduceSub, Int.reduceToNat]
  refine qG ?_
  exact qF (qA [0, 1, 6, 7, 8, 9, 10, 11, 12, 13, 14, 15, 16, 17, 18, 19, 20, 21, 22, 23, 24, 25, 26])
 ·refine den_callW (qC) (h2) (qA [0, 1]) qM (by rfl) (runW_den 400 ?_)
  simp (disch := omega) only [go_sem, Nat.reduceEqDiff, Nat.reduceAdd, Nat.reduceSub, Int.reduceAdd, Int.reduceSub, Int.reduceToNat]
  refine den_callW (qC) (h3) (qA [4]) qM (by rfl) (runW_den 400 ?_)
  simp (disch := omega) only [go_sem, Nat.reduceEqDiff, Nat.reduceAdd, Nat.reduceSub, Int.reduceAdd, Int.reduceSub, Int.reduceToNat]
  refine qG ?_
  exact qF (qA [0, 1, 6, 7, 8, 9, 10, 11, 12, 13, 14, 15, 16, 17, 18, 19, 20, 21, 22, 23, 24, 25, 26])
 ·refine den_callW (qC) (h2) (qA [0, 1]) qM (by rfl) (runW_den 400 ?_)
  simp (disch := omega) only [go_sem, Nat.reduceEqDiff, Nat.reduceAdd, Nat.reduceSub, Int.reduceAdd, Int.reduceSub, Int.reduceToNat]
  refine den_callW (qC) (h3) (qA [5]) qM (by rfl) (runW_den 400 ?_)
  simp (disch := omega) only [go_sem, Nat.reduceEqDiff, Nat.reduceAdd, Nat.reduceSub, Int.reduceAdd, Int.reduceSub, Int.reduceToNat]
  refine qG ?_
  exact qF (qA [0, 1, 6, 7, 8, 9, 10, 11, 12, 13, 14, 15, 16, 17, 18, 19, 20, 21, 22, 23, 24, 25, 26])
structure BentW (w : WorldD) : Prop where
 s : SmallW w
 pa : SmallP w.a.inp
 pb : SmallP w.b.inp
 ra : w.readA.length ≤ 1000000000
 rb : w.readB.length ≤ 1000000000
theorem FineW.bent {w : WorldD} (h : FineW w) : BentW w := ⟨h.g.s, h.g.a.p, h.g.b.p, by have := h.g.ra; omega, by have := h.g.rb; omega⟩
theorem spec_l25Bent (b : List UInt8) (c : CurD) (hc : c.ok b) : ∃ (w : WorldD) (c' : CurD), c'.ok b ∧ BentW w ∧ CallA Tryz.prog 81 [.sc (.pt 1 0 0)] (c.hp b) (.ag (w.cs 2)) (c'.hp b ++ w.hp true) := by
 obtain ⟨w, c0, o0, ⟨hw, _⟩, h0⟩ := spec_l24World b c hc
 have hb := hw.bent
 have hfs := hw.f.1.1
 have hff := hw.f.1.2
 have hra := hw.g.ra
 have h1 := spec_l01Below b c0 o0 10
 have o1 := CurD.below_ok o0 10
 have b1 := c0.below_lt b (n := 10) (by omega)
 generalize c0.below b 10 = r1 at h1 o1 b1
 obtain ⟨v1, c1⟩ := r1
 dsimp only at h1 o1 b1
 have hv : v1 = 0 ∨ v1 = 1 ∨ v1 = 2 ∨ v1 = 3 ∨ v1 = 4 ∨ v1 = 5 ∨ 6 ≤ v1 := by omega
 rcases hv with rfl | rfl | rfl | rfl | rfl | rfl | hv
 ·by_cases hz : w.a.subs.length = 0
  ·refine ⟨w, c1, o1, hb, ?_⟩
   refine qE Tryz.func81 Tryz.ntmps81 Tryz.results81 fun E hE => ?_
   refine qK (h0) (qA [0, 1]) ?_
   refine qK (h1) (qA [0, 1]) ?_
   exact qF (qA [0, 1, 3, 4, 5, 6, 7, 8, 9, 10, 11, 12, 13, 14, 15, 16, 17, 18, 19, 20, 21, 22, 23])
  ·have hlz := hb.s.a.subs
   have h2 := spec_l01Below b c1 o1 (w.a.subs.length : Int)
   have o2 := CurD.below_ok o1 (w.a.subs.length : Int)
   have b2 := c1.below_lt b (n := (w.a.subs.length : Int)) (by omega)
   generalize c1.below b (w.a.subs.length : Int) = r2 at h2 o2 b2
   obtain ⟨v2, c2⟩ := r2
   dsimp only at h2 o2 b2
   obtain ⟨n, rfl⟩ := Int.eq_ofNat_of_zero_le b2.1
   have hn : n < w.a.subs.length := by omega
   obtain ⟨s0, hs0⟩ : ∃ s, w.a.subs[n] = s := ⟨_, rfl⟩
   refine ⟨{ w with a := { w.a with subs := w.a.subs.set n { s0 with give := 3 } } }, c2, o2, ⟨⟨⟨hb.s.a.own, hb.s.a.far, by dsimp only; rw [List.length_set]; exact hb.s.a.subs, hb.s.a.halfs, hb.s.a.list, hb.s.a.done, hb.s.a.over⟩, hb.s.b, hb.s.bag, hb.s.past, hb.s.keys, hb.s.tags, hb.s.nums, hb.s.ansA, hb.s.ansB⟩, hb.pa, hb.pb, hb.ra, hb.rb⟩, ?_⟩
   refine qE Tryz.func81 Tryz.ntmps81 Tryz.results81 fun E hE => ?_
   refine qK (h0) (qA [0, 1]) ?_
   refine qK (h1) (qA [0, 1]) ?_
   refine den_drawW [(2, 8)] [[0, 1, 3, 4, 5, 6, 7, 2, 8, 9, 10, 11], [0, 1, 3, 4, 5, 6, 7, 8, 2, 9, 10, 11]] (by kernel_rfl) (qC) (by kernel_rfl) ?_
   simp only [allDn]
   refine ⟨runW_den 400 ?_, runW_den 400 ?_⟩
   all_goals simp (disch := omega) only [go_sem, Nat.reduceEqDiff, Nat.reduceAdd, Nat.reduceSub, Int.reduceAdd, Int.reduceSub, Int.reduceToNat]
   all_goals
    refine den_callW (qC) (h2) (qA [0, 1]) qM (by rfl) (runW_den 400 ?_)
    simp (disch := omega) only [go_sem, Nat.reduceEqDiff, Nat.reduceAdd, Nat.reduceSub, Int.reduceAdd, Int.reduceSub, Int.reduceToNat]
    try simp (disch := omega) only [go_sem, Nat.reduceEqDiff, Nat.reduceAdd, Nat.reduceSub, Int.reduceAdd, Int.reduceSub, Int.reduceToNat, hs0]
    refine ⟨qC, run_den 400 ?_⟩
    try simp (disch := omega) only [go_sem, Nat.reduceEqDiff, Nat.reduceAdd, Nat.reduceSub, Int.reduceAdd, Int.reduceSub, Int.reduceToNat, hs0]
    refine den_fin (qA [0, 1, 3, 4, 5, 6, 7, 8, 9, 10, 11, 12, 13, 14, 15, 16, 17, 18, 19, 20, 21, 22, 23]) (qC) _ (by simp only [go_sem]; rfl) (by rfl) (by rfl) ?_
    simp (disch := omega) only [go_sem, Nat.reduceEqDiff, Nat.reduceAdd, Nat.reduceSub, Int.reduceAdd, Int.reduceSub, Int.reduceToNat]
    try simp [List.map_set, SubD.cs]
 ·refine ⟨{ w with b := { w.b with inp := { w.b.inp with ready := [122, 122] } } }, c1, o1, ⟨⟨hb.s.a, ⟨hb.s.b.own, hb.s.b.far, hb.s.b.subs, hb.s.b.halfs, hb.s.b.list, hb.s.b.done, hb.s.b.over⟩, hb.s.bag, hb.s.past, hb.s.keys, hb.s.tags, hb.s.nums, hb.s.ansA, hb.s.ansB⟩, hb.pa, ⟨hb.pb.list, by simp, hb.pb.texts⟩, hb.ra, hb.rb⟩, ?_⟩
  refine qE Tryz.func81 Tryz.ntmps81 Tryz.results81 fun E hE => ?_
  refine qK (h0) (qA [0, 1]) ?_
  refine qK (h1) (qA [0, 1]) ?_
  exact qF (qA [0, 1, 3, 4, 5, 6, 7, 8, 9, 10, 11, 12, 13, 14, 15, 16, 17, 18, 19, 20, 21, 22, 23])
 ·have h2 := spec_l01PickInt b c1 o1 [31, 21, 22] (by decide) (by decide)
  have o2 := CurD.below_ok o1 (b := b) 3
  have m2 := c1.pick_mem b (l := [31, 21, 22]) (by decide)
  have w2 := (by decide : ∀ x ∈ ([31, 21, 22] : List Int), 21 ≤ x ∧ x ≤ 31) _ m2
  rw [show (([31, 21, 22] : List Int).length : Int) = 3 from rfl] at h2
  generalize c1.pick b [31, 21, 22] = v2 at h2 w2
  clear m2
  generalize c1.below b 3 = r2 at h2 o2
  obtain ⟨u2, c2⟩ := r2
  dsimp only at h2 o2
  refine ⟨{ w with a := { w.a with subs := w.a.subs ++ [⟨⟨11, v2, 0⟩, 3, false, 0, 0, 5, 7, 0⟩] } }, c2, o2, ⟨⟨⟨hb.s.a.own, hb.s.a.far, by simp only [List.length_append, List.length_singleton]; omega, hb.s.a.halfs, hb.s.a.list, hb.s.a.done, hb.s.a.over⟩, hb.s.b, hb.s.bag, hb.s.past, hb.s.keys, hb.s.tags, hb.s.nums, hb.s.ansA, hb.s.ansB⟩, hb.pa, hb.pb, hb.ra, hb.rb⟩, ?_⟩
  refine qE Tryz.func81 Tryz.ntmps81 Tryz.results81 fun E hE => ?_
  refine qK (h0) (qA [0, 1]) ?_
  refine qK (h1) (qA [0, 1]) ?_
  refine den_drawW [(2, 5), (4, 2)] [[0, 1, 3, 4, 2, 5, 6, 7, 8, 9, 10, 11, 12], [0, 1, 3, 2, 4, 5, 6, 7, 8, 9, 10, 11, 12], [0, 1, 3, 4, 5, 2, 6, 7, 8, 9, 10, 11, 12]] (by kernel_rfl) (qC) (by kernel_rfl) ?_
  simp only [allDn]
  refine ⟨runW_den 400 ?_, runW_den 400 ?_, runW_den 400 ?_⟩
  all_goals simp (disch := omega) only [go_sem, Nat.reduceEqDiff, Nat.reduceAdd, Nat.reduceSub, Int.reduceAdd, Int.reduceSub, Int.reduceToNat]
  all_goals
   refine den_callW (qC) (h2) (qA [0, 1, 25]) qM (by rfl) (runW_den 400 ?_)
   simp (disch := omega) only [go_sem, Nat.reduceEqDiff, Nat.reduceAdd, Nat.reduceSub, Int.reduceAdd, Int.reduceSub, Int.reduceToNat]
   refine qG ?_
   refine den_fin (qA [0, 1, 3, 4, 27, 6, 7, 8, 9, 10, 11, 12, 13, 14, 15, 16, 17, 18, 19, 20, 21, 22, 23]) (qC) _ (by simp only [go_sem]; rfl) (by rfl) (by rfl) ?_
   simp (disch := omega) only [go_sem, Nat.reduceEqDiff, Nat.reduceAdd, Nat.reduceSub, Int.reduceAdd, Int.reduceSub, Int.reduceToNat]
   try simp [SubD.cs]
 ·have h2 := spec_l01PickInt b c1 o1 [29, 31, 21] (by decide) (by decide)
  have o2 := CurD.below_ok o1 (b := b) 3
  have m2 := c1.pick_mem b (l := [29, 31, 21]) (by decide)
  have w2 := (by decide : ∀ x ∈ ([29, 31, 21] : List Int), 21 ≤ x ∧ x ≤ 31) _ m2
  rw [show (([29, 31, 21] : List Int).length : Int) = 3 from rfl] at h2
  generalize c1.pick b [29, 31, 21] = v2 at h2 w2
  clear m2
  generalize c1.below b 3 = r2 at h2 o2
  obtain ⟨u2, c2⟩ := r2
  dsimp only at h2 o2
  refine ⟨{ w with a := { w.a with far := w.a.far ++ [⟨9, v2, false, false⟩] } }, c2, o2, ⟨⟨⟨hb.s.a.own, by simp only [List.length_append, List.length_singleton]; omega, hb.s.a.subs, hb.s.a.halfs, hb.s.a.list, hb.s.a.done, hb.s.a.over⟩, hb.s.b, hb.s.bag, hb.s.past, hb.s.keys, hb.s.tags, hb.s.nums, hb.s.ansA, hb.s.ansB⟩, hb.pa, hb.pb, hb.ra, hb.rb⟩, ?_⟩
  refine qE Tryz.func81 Tryz.ntmps81 Tryz.results81 fun E hE => ?_
  refine qK (h0) (qA [0, 1]) ?_
  refine qK (h1) (qA [0, 1]) ?_
  refine den_drawW [(2, 5), (4, 2)] [[0, 1, 3, 4, 2, 5, 6, 7, 8, 9, 10, 11], [0, 1, 3, 2, 4, 5, 6, 7, 8, 9, 10, 11], [0, 1, 3, 4, 5, 2, 6, 7, 8, 9, 10, 11]] (by kernel_rfl) (qC) (by kernel_rfl) ?_
  simp only [allDn]
  refine ⟨runW_den 400 ?_, runW_den 400 ?_, runW_den 400 ?_⟩
  all_goals simp (disch := omega) only [go_sem, Nat.reduceEqDiff, Nat.reduceAdd, Nat.reduceSub, Int.reduceAdd, Int.reduceSub, Int.reduceToNat]
  all_goals
   refine den_callW (qC) (h2) (qA [0, 1, 25]) qM (by rfl) (runW_den 400 ?_)
   simp (disch := omega) only [go_sem, Nat.reduceEqDiff, Nat.reduceAdd, Nat.reduceSub, Int.reduceAdd, Int.reduceSub, Int.reduceToNat]
   refine qG ?_
   refine den_fin (qA [0, 1, 3, 27, 5, 6, 7, 8, 9, 10, 11, 12, 13, 14, 15, 16, 17, 18, 19, 20, 21, 22, 23]) (qC) _ (by simp only [go_sem]; rfl) (by rfl) (by rfl) ?_
   simp (disch := omega) only [go_sem, Nat.reduceEqDiff, Nat.reduceAdd, Nat.reduceSub, Int.reduceAdd, Int.reduceSub, Int.reduceToNat]
   try simp [AddrD.cs]
 ·refine ⟨{ w with readA := w.readA ++ [113] }, c1, o1, ⟨⟨hb.s.a, hb.s.b, hb.s.bag, hb.s.past, hb.s.keys, hb.s.tags, hb.s.nums, hb.s.ansA, hb.s.ansB⟩, hb.pa, hb.pb, by simp only [List.length_append, List.length_singleton]; omega, hb.rb⟩, ?_⟩
  refine qE Tryz.func81 Tryz.ntmps81 Tryz.results81 fun E hE => ?_
  refine qK (h0) (qA [0, 1]) ?_
  refine qK (h1) (qA [0, 1]) ?_
  exact qF (qA [0, 1, 3, 4, 5, 6, 7, 8, 9, 10, 11, 12, 13, 14, 15, 16, 17, 18, 19, 20, 21, 22, 23])
 ·refine ⟨{ w with b := { w.b with state := 7 } }, c1, o1, ⟨⟨hb.s.a, ⟨hb.s.b.own, hb.s.b.far, hb.s.b.subs, hb.s.b.halfs, hb.s.b.list, hb.s.b.done, hb.s.b.over⟩, hb.s.bag, hb.s.past, hb.s.keys, hb.s.tags, hb.s.nums, hb.s.ansA, hb.s.ansB⟩, hb.pa, hb.pb, hb.ra, hb.rb⟩, ?_⟩
  refine qE Tryz.func81 Tryz.ntmps81 Tryz.results81 fun E hE => ?_
  refine qK (h0) (qA [0, 1]) ?_
  refine qK (h1) (qA [0, 1]) ?_
  exact qF (qA [0, 1, 3, 4, 5, 6, 7, 8, 9, 10, 11, 12, 13, 14, 15, 16, 17, 18, 19, 20, 21, 22, 23])
 ·refine ⟨w, c1, o1, hb, ?_⟩
  refine qE Tryz.func81 Tryz.ntmps81 Tryz.results81 fun E hE => ?_
  refine qK (h0) (qA [0, 1]) ?_
  refine qK (h1) (qA [0, 1]) ?_
  exact qF (qA [0, 1, 3, 4, 5, 6, 7, 8, 9, 10, 11, 12, 13, 14, 15, 16, 17, 18, 19, 20, 21, 22, 23])
theorem spec_DrawSafeWorld (b : List UInt8) (hb : b.length ≤ 1048576) : ∃ w : WorldD, BentW w ∧ CallA Tryz.prog 27 [.sc (.sl 0 0 b.length)] [some ⟨b.map byteC, 1, 5, false, true⟩] (.ag (w.cs 1)) ([some ⟨b.map byteC, 1, 5, false, true⟩] ++ w.hp true) := by
 obtain ⟨w, c, hc, hw, h⟩ := spec_l25Bent b (newCur b) (newCur_ok hb)
 refine ⟨w, hw, ?_⟩
 refine qE Tryz.func27 Tryz.ntmps27 Tryz.results27 fun E hE => ?_
 refine qK (spec_l01New b hb) (qA [0]) ?_
 refine qK (h) (qA [0, 2]) ?_
 exact qF (qA [0, 3, 4, 5, 6, 7, 8, 9, 10, 11, 12, 13, 14, 15, 16, 17, 18, 19, 20, 21, 22, 23])
end
section
open Go.RowKit

attribute [go_sem] List.append_eq
theorem laws_sameAddrs (l : List AddrD) (hl : l.length ≤ 4611686018427387904) : CallA Tryz.prog 122 [.sc (.sl 0 0 l.length), .sc (.sl 1 0 l.length)] [some ⟨l.map AddrD.cs, 4, 80, false, true⟩, some ⟨l.map AddrD.cs, 4, 80, false, true⟩] (.sc (.bo true)) [some ⟨l.map AddrD.cs, 4, 80, false, true⟩, some ⟨l.map AddrD.cs, 4, 80, false, true⟩] := by
 refine qE Tryz.func122 Tryz.ntmps122 Tryz.results122 fun E hE => ?_
 refine den_lp 2 hE (fun s (k : Nat) => s.at [4, 6, 7, 8, 9, 10, 11, 12, 13, 14, 15, 16, 17, 18, 19, 20, 21, 22, 23, 24, 25] [(5, .sc (.int .i64 (k : Nat)))] (s.hp)) (fun (k : Nat) => k ≤ l.length) (fun (k : Nat) => l.length - k) 0 (qA [0, 1]) (qC) (Nat.zero_le _) (weak_mk (by rfl) (by rfl) ?_) fun k hk N hN => ?_
 ·exact qY
 ·refine qR ?_
  refine qB (fun h => ?_) fun h => ?_
  ·refine qD [0, 1, 2, 3, 4, 5, 6, 7, 8] ?_
   refine qG ?_
   exact qN hN (k + 1) (qA [0, 1]) (by (try dsimp only); exact h)
  ·exact qF (qA [0, 1])

theorem laws_sameSubs (l : List SubD) (hl : l.length ≤ 4611686018427387904) : CallA Tryz.prog 123 [.sc (.sl 0 0 l.length), .sc (.sl 1 0 l.length)] [some ⟨l.map SubD.cs, 10, 78, false, true⟩, some ⟨l.map SubD.cs, 10, 78, false, true⟩] (.sc (.bo true)) [some ⟨l.map SubD.cs, 10, 78, false, true⟩, some ⟨l.map SubD.cs, 10, 78, false, true⟩] := by
 refine qE Tryz.func123 Tryz.ntmps123 Tryz.results123 fun E hE => ?_
 refine den_lp 2 hE (fun s (k : Nat) => s.at [4, 6, 7, 8, 9, 10, 11, 12, 13, 14, 15, 16, 17, 18, 19, 20, 21, 22, 23, 24, 25] [(5, .sc (.int .i64 (k : Nat)))] (s.hp)) (fun (k : Nat) => k ≤ l.length) (fun (k : Nat) => l.length - k) 0 (qA [0, 1]) (qC) (Nat.zero_le _) (weak_mk (by rfl) (by rfl) ?_) fun k hk N hN => ?_
 ·exact qY
 ·refine qR ?_
  refine qB (fun h => ?_) fun h => ?_
  ·refine qD [0, 1, 2, 3, 4, 5, 6, 7, 8] ?_
   refine qG ?_
   exact qN hN (k + 1) (qA [0, 1]) (by (try dsimp only); exact h)
  ·exact qF (qA [0, 1])

theorem laws_sameHalfs (l : List HalfD) (hl : l.length ≤ 4611686018427387904) : CallA Tryz.prog 124 [.sc (.sl 0 0 l.length), .sc (.sl 1 0 l.length)] [some ⟨l.map HalfD.cs, 8, 118, false, true⟩, some ⟨l.map HalfD.cs, 8, 118, false, true⟩] (.sc (.bo true)) [some ⟨l.map HalfD.cs, 8, 118, false, true⟩, some ⟨l.map HalfD.cs, 8, 118, false, true⟩] := by
 refine qE Tryz.func124 Tryz.ntmps124 Tryz.results124 fun E hE => ?_
 refine den_lp 2 hE (fun s (k : Nat) => s.at [4, 6, 7, 8, 9, 10, 11, 12, 13, 14, 15, 16, 17, 18, 19, 20, 21, 22, 23, 24, 25] [(5, .sc (.int .i64 (k : Nat)))] (s.hp)) (fun (k : Nat) => k ≤ l.length) (fun (k : Nat) => l.length - k) 0 (qA [0, 1]) (qC) (Nat.zero_le _) (weak_mk (by rfl) (by rfl) ?_) fun k hk N hN => ?_
 ·exact qY
 ·refine qR ?_
  refine qB (fun h => ?_) fun h => ?_
  ·refine qD [0, 1, 2, 3, 4, 5, 6, 7, 8] ?_
   refine qG ?_
   exact qN hN (k + 1) (qA [0, 1]) (by (try dsimp only); exact h)
  ·exact qF (qA [0, 1])

theorem laws_samePieceList (l : List PieceD) (hl : l.length ≤ 4611686018427387904) : CallA Tryz.prog 148 [.sc (.sl 0 0 l.length), .sc (.sl 1 0 l.length)] [some ⟨l.map PieceD.cs, 2, 121, false, true⟩, some ⟨l.map PieceD.cs, 2, 121, false, true⟩] (.sc (.bo true)) [some ⟨l.map PieceD.cs, 2, 121, false, true⟩, some ⟨l.map PieceD.cs, 2, 121, false, true⟩] := by
 refine qE Tryz.func148 Tryz.ntmps148 Tryz.results148 fun E hE => ?_
 refine den_lp 2 hE (fun s (k : Nat) => s.at [4, 6, 7, 8, 9, 10, 11, 12, 13, 14, 15, 16, 17, 18, 19, 20, 21, 22, 23, 24, 25] [(5, .sc (.int .i64 (k : Nat)))] (s.hp)) (fun (k : Nat) => k ≤ l.length) (fun (k : Nat) => l.length - k) 0 (qA [0, 1]) (qC) (Nat.zero_le _) (weak_mk (by rfl) (by rfl) ?_) fun k hk N hN => ?_
 ·exact qY
 ·refine qR ?_
  refine qB (fun h => ?_) fun h => ?_
  ·refine qD [0, 1, 2, 3, 4, 5, 6, 7, 8] ?_
   refine qG ?_
   exact qN hN (k + 1) (qA [0, 1]) (by (try dsimp only); exact h)
  ·exact qF (qA [0, 1])

theorem laws_sameLetters (l : List LetterD) (hl : l.length ≤ 4611686018427387904) : CallA Tryz.prog 78 [.sc (.sl 0 0 l.length), .sc (.sl 1 0 l.length)] [some ⟨l.map LetterD.cs, 19, 67, false, true⟩, some ⟨l.map LetterD.cs, 19, 67, false, true⟩] (.sc (.bo true)) [some ⟨l.map LetterD.cs, 19, 67, false, true⟩, some ⟨l.map LetterD.cs, 19, 67, false, true⟩] := by
 refine qE Tryz.func78 Tryz.ntmps78 Tryz.results78 fun E hE => ?_
 refine den_lp 2 hE (fun s (k : Nat) => s.at [4, 6, 7, 8, 9, 10, 11, 12, 13, 14, 15, 16, 17, 18, 19, 20, 21, 22, 23, 24, 25] [(5, .sc (.int .i64 (k : Nat)))] (s.hp)) (fun (k : Nat) => k ≤ l.length) (fun (k : Nat) => l.length - k) 0 (qA [0, 1]) (qC) (Nat.zero_le _) (weak_mk (by rfl) (by rfl) ?_) fun k hk N hN => ?_
 ·exact qY
 ·refine qR ?_
  refine qB (fun h => ?_) fun h => ?_
  ·refine qD [0, 1, 2, 3, 4, 5, 6, 7, 8] ?_
   refine qG ?_
   exact qN hN (k + 1) (qA [0, 1]) (by (try dsimp only); exact h)
  ·exact qF (qA [0, 1])

theorem laws_sameTags (l : List TagD) (hl : l.length ≤ 4611686018427387904) : CallA Tryz.prog 126 [.sc (.sl 0 0 l.length), .sc (.sl 1 0 l.length)] [some ⟨l.map TagD.cs, 5, 65, false, true⟩, some ⟨l.map TagD.cs, 5, 65, false, true⟩] (.sc (.bo true)) [some ⟨l.map TagD.cs, 5, 65, false, true⟩, some ⟨l.map TagD.cs, 5, 65, false, true⟩] := by
 refine qE Tryz.func126 Tryz.ntmps126 Tryz.results126 fun E hE => ?_
 refine den_lp 2 hE (fun s (k : Nat) => s.at [4, 6, 7, 8, 9, 10, 11, 12, 13, 14, 15, 16, 17, 18, 19, 20, 21, 22, 23, 24, 25] [(5, .sc (.int .i64 (k : Nat)))] (s.hp)) (fun (k : Nat) => k ≤ l.length) (fun (k : Nat) => l.length - k) 0 (qA [0, 1]) (qC) (Nat.zero_le _) (weak_mk (by rfl) (by rfl) ?_) fun k hk N hN => ?_
 ·exact qY
 ·refine qR ?_
  refine qB (fun h => ?_) fun h => ?_
  ·refine qD [0, 1, 2, 3, 4, 5, 6, 7, 8] ?_
   refine qG ?_
   exact qN hN (k + 1) (qA [0, 1]) (by (try dsimp only); exact h)
  ·exact qF (qA [0, 1])

theorem laws_sameInts (l : List Int) (hl : l.length ≤ 4611686018427387904) : CallA Tryz.prog 17 [.sc (.sl 0 0 l.length), .sc (.sl 1 0 l.length)] [some ⟨l.map intC, 1, 3, false, true⟩, some ⟨l.map intC, 1, 3, false, true⟩] (.sc (.bo true)) [some ⟨l.map intC, 1, 3, false, true⟩, some ⟨l.map intC, 1, 3, false, true⟩] := by
 refine qE Tryz.func17 Tryz.ntmps17 Tryz.results17 fun E hE => ?_
 refine den_lp 2 hE (fun s (k : Nat) => s.at [4, 6, 7, 8, 9, 10, 11, 12, 13, 14, 15, 16, 17, 18, 19, 20, 21, 22, 23, 24, 25] [(5, .sc (.int .i64 (k : Nat)))] (s.hp)) (fun (k : Nat) => k ≤ l.length) (fun (k : Nat) => l.length - k) 0 (qA [0, 1]) (qC) (Nat.zero_le _) (weak_mk (by rfl) (by rfl) ?_) fun k hk N hN => ?_
 ·exact qY
 ·refine qR ?_
  refine qB (fun h => ?_) fun h => ?_
  ·refine qD [0, 1, 2, 3, 4, 5, 6, 7, 8] ?_
   refine qG ?_
   exact qN hN (k + 1) (qA [0, 1]) (by (try dsimp only); exact h)
  ·exact qF (qA [0, 1])
theorem laws_samePieces (x : PiecesD) (hl : x.list.length ≤ 4611686018427387904) : CallA Tryz.prog 125 [.ag (x.cs 0), .ag (x.cs 1)] (x.hp false ++ x.hp false) (.sc (.bo true)) (x.hp false ++ x.hp false) := by
 refine qE Tryz.func125 Tryz.ntmps125 Tryz.results125 fun E hE => ?_
 refine qK (laws_samePieceList x.list hl) (qA [0, 1]) ?_
 exact qF (qA [0, 1])
theorem laws_sameEnd (e : EndD) (h0 : e.own.length ≤ 1048576) (h1 : e.far.length ≤ 1048576) (h2 : e.subs.length ≤ 1048576) (h3 : e.halfs.length ≤ 1048576) (h4 : e.inp.list.length ≤ 1048576) (h5 : e.done.length ≤ 1048576) (h6 : e.over.length ≤ 1048576) : CallA Tryz.prog 77 [.ag (e.cs 0), .ag (e.cs 7)] (e.hp false ++ e.hp false) (.sc (.bo true)) (e.hp false ++ e.hp false) := by
 refine qE Tryz.func77 Tryz.ntmps77 Tryz.results77 fun E hE => ?_

 refine qK (laws_sameAddrs e.own (by omega)) (qA [0, 7]) ?_
 refine qK (laws_sameAddrs e.far (by omega)) (qA [1, 8]) ?_
 refine qK (laws_sameSubs e.subs (by omega)) (qA [2, 9]) ?_
 refine qK (laws_sameHalfs e.halfs (by omega)) (qA [3, 10]) ?_
 refine qK (laws_samePieces e.inp (by omega)) (qA [4, 11]) ?_
 refine qK (laws_sameInts e.done (by omega)) (qA [5, 12]) ?_
 refine qK (laws_sameInts e.over (by omega)) (qA [6, 13]) ?_
 exact qF (qA [0, 1, 2, 3, 4, 5, 6, 7, 8, 9, 10, 11, 12, 13])
theorem laws_sameKnown (x : KnownD) (h0 : x.keys.length ≤ 1048576) (h1 : x.tags.length ≤ 1048576) : CallA Tryz.prog 79 [.ag (x.cs 0), .ag (x.cs 2)] (x.hp false ++ x.hp false) (.sc (.bo true)) (x.hp false ++ x.hp false) := by
 refine qE Tryz.func79 Tryz.ntmps79 Tryz.results79 fun E hE => ?_
 refine qK (laws_sameInts x.keys (by omega)) (qA [0, 2]) ?_
 refine qK (laws_sameTags x.tags (by omega)) (qA [1, 3]) ?_
 exact qF (qA [0, 1, 2, 3])
end
section
open Go.RowKit

theorem impl_BeginsWith (t h : List UInt8) : CallA Tryz.prog 38 [.sc (.st t), .sc (.st h)] ([]) (.sc (.bo (begins t h))) ([]) := by
 refine qE Tryz.func38 Tryz.ntmps38 Tryz.results38 fun E hE => ?_
 refine qB (fun h1 => ?_) fun h1 => ?_
 ·skip
  refine qJ [] ?_
  simp [begins, h1]
 ·refine qJ [] ?_
  simp [begins, h1]
theorem impl_StreamsOk (w : WorldD) (s1 : w.readB.length + w.b.inp.ready.length ≤ 4611686018427387904) (s2 : w.readA.length + w.a.inp.ready.length ≤ 4611686018427387904) : CallA Tryz.prog 32 [.ag (w.cs 0)] (w.hp false) (.sc (.bo (streamsOk w))) (w.hp false) := by
 refine qE Tryz.func32 Tryz.ntmps32 Tryz.results32 fun E hE => ?_
 refine qK (impl_BeginsWith _ _) [] ?_
 refine qB (fun h1 => ?_) fun h1 => ?_
 ·skip
  refine qK (impl_BeginsWith _ _) [] ?_
  refine qJ (qA [0, 1, 2, 3, 4, 5, 6, 7, 8, 9, 10, 11, 12, 13, 14, 15, 16, 17, 18, 19, 20]) ?_
  simp [streamsOk, h1]
 ·refine qJ (qA [0, 1, 2, 3, 4, 5, 6, 7, 8, 9, 10, 11, 12, 13, 14, 15, 16, 17, 18, 19, 20]) ?_
  simp [streamsOk, h1]
theorem impl_FarOk (w : WorldD) (a1 : w.a.far.length ≤ 1048576) (a2 : w.b.own.length ≤ 1048576) (a3 : w.b.done.length ≤ 1048576) (b1 : w.b.far.length ≤ 1048576) (b2 : w.a.own.length ≤ 1048576) (b3 : w.a.done.length ≤ 1048576) : CallA Tryz.prog 34 [.ag (w.cs 0)] (w.hp false) (.sc (.bo (farOk w))) (w.hp false) := by
 refine qE Tryz.func34 Tryz.ntmps34 Tryz.results34 fun E hE => ?_
 refine qK (impl_knowsRight w.a w.b a1 a2 a3) (qA [0, 1, 2, 3, 4, 5, 6, 7, 8, 9, 10, 11, 12, 13]) ?_
 refine qB (fun h1 => ?_) fun h1 => ?_
 ·skip
  refine qK (impl_knowsRight w.b w.a b1 b2 b3) (qA [7, 8, 9, 10, 11, 12, 13, 0, 1, 2, 3, 4, 5, 6]) ?_
  refine qJ (qA [0, 1, 2, 3, 4, 5, 6, 7, 8, 9, 10, 11, 12, 13, 14, 15, 16, 17, 18, 19, 20]) ?_
  simp [farOk, h1]
 ·refine qJ (qA [0, 1, 2, 3, 4, 5, 6, 7, 8, 9, 10, 11, 12, 13, 14, 15, 16, 17, 18, 19, 20]) ?_
  simp [farOk, h1]
theorem spec_BeginsWith (t h : List UInt8) : CallA Tryz.prog 85 [.sc (.st t), .sc (.st h)] ([]) (.sc (.bo (begins t h))) ([]) := by
 refine qE Tryz.func85 Tryz.ntmps85 Tryz.results85 fun E hE => ?_
 refine qB (fun h1 => ?_) fun h1 => ?_
 ·skip
  refine qJ [] ?_
  simp [begins, h1]
 ·refine qJ [] ?_
  simp [begins, h1]
theorem spec_StreamsOk (w : WorldD) (s1 : w.readB.length + w.b.inp.ready.length ≤ 4611686018427387904) (s2 : w.readA.length + w.a.inp.ready.length ≤ 4611686018427387904) : CallA Tryz.prog 33 [.ag (w.cs 0)] (w.hp false) (.sc (.bo (streamsOk w))) (w.hp false) := by
 refine qE Tryz.func33 Tryz.ntmps33 Tryz.results33 fun E hE => ?_
 refine qK (spec_BeginsWith _ _) [] ?_
 refine qB (fun h1 => ?_) fun h1 => ?_
 ·skip
  refine qK (spec_BeginsWith _ _) [] ?_
  refine qJ (qA [0, 1, 2, 3, 4, 5, 6, 7, 8, 9, 10, 11, 12, 13, 14, 15, 16, 17, 18, 19, 20]) ?_
  simp [streamsOk, h1]
 ·refine qJ (qA [0, 1, 2, 3, 4, 5, 6, 7, 8, 9, 10, 11, 12, 13, 14, 15, 16, 17, 18, 19, 20]) ?_
  simp [streamsOk, h1]
theorem spec_FarOk (w : WorldD) (a1 : w.a.far.length ≤ 1048576) (a2 : w.b.own.length ≤ 1048576) (a3 : w.b.done.length ≤ 1048576) (b1 : w.b.far.length ≤ 1048576) (b2 : w.a.own.length ≤ 1048576) (b3 : w.a.done.length ≤ 1048576) : CallA Tryz.prog 35 [.ag (w.cs 0)] (w.hp false) (.sc (.bo (farOk w))) (w.hp false) := by
 refine qE Tryz.func35 Tryz.ntmps35 Tryz.results35 fun E hE => ?_
 refine qK (spec_l25Far w.a w.b a1 a2 a3) (qA [0, 1, 2, 3, 4, 5, 6, 7, 8, 9, 10, 11, 12, 13]) ?_
 refine qB (fun h1 => ?_) fun h1 => ?_
 ·skip
  refine qK (spec_l25Far w.b w.a b1 b2 b3) (qA [7, 8, 9, 10, 11, 12, 13, 0, 1, 2, 3, 4, 5, 6]) ?_
  refine qJ (qA [0, 1, 2, 3, 4, 5, 6, 7, 8, 9, 10, 11, 12, 13, 14, 15, 16, 17, 18, 19, 20]) ?_
  simp [farOk, h1]
 ·refine qJ (qA [0, 1, 2, 3, 4, 5, 6, 7, 8, 9, 10, 11, 12, 13, 14, 15, 16, 17, 18, 19, 20]) ?_
  simp [farOk, h1]
end
section
open Go.RowKit

def safeWorld (w : WorldD) : Bool := endOk w.a && endOk w.b && paired w.a w.b && paired w.b w.a && streamsOk w && roadsOwn w.a && roadsOwn w.b && farOk w
theorem impl_SafeWorld (w : WorldD) (a0 : w.a.own.length ≤ 1048576) (a1 : w.a.far.length ≤ 1048576) (a2 : w.a.subs.length ≤ 1048576) (a3 : w.a.halfs.length ≤ 1048576) (a4 : w.a.inp.list.length ≤ 1048576) (a5 : w.a.done.length ≤ 1048576) (a6 : w.a.over.length ≤ 1048576) (b0 : w.b.own.length ≤ 1048576) (b1 : w.b.far.length ≤ 1048576) (b2 : w.b.subs.length ≤ 1048576) (b3 : w.b.halfs.length ≤ 1048576) (b4 : w.b.inp.list.length ≤ 1048576) (b5 : w.b.done.length ≤ 1048576) (b6 : w.b.over.length ≤ 1048576) (s1 : w.readB.length + w.b.inp.ready.length ≤ 4611686018427387904) (s2 : w.readA.length + w.a.inp.ready.length ≤ 4611686018427387904) : CallA Tryz.prog 28 [.ag (w.cs 0)] (w.hp false) (.sc (.bo (safeWorld w))) (w.hp false) := by
 refine qE Tryz.func28 Tryz.ntmps28 Tryz.results28 fun E hE => ?_
 refine qK (impl_EndOk w.a a0 a1 a2 a3 a4 a5 a6) (qA [0, 1, 2, 3, 4, 5, 6]) ?_
 refine qB (fun g0 => ?_) fun g0 => ?_
 ·skip
  refine qK (impl_EndOk w.b b0 b1 b2 b3 b4 b5 b6) (qA [7, 8, 9, 10, 11, 12, 13]) ?_
  refine qB (fun g1 => ?_) fun g1 => ?_
  ·skip
   refine qK (impl_Paired w.a w.b a2 b2) (qA [0, 1, 2, 3, 4, 5, 6, 7, 8, 9, 10, 11, 12, 13]) ?_
   refine qB (fun g2 => ?_) fun g2 => ?_
   ·skip
    refine qK (impl_Paired w.b w.a b2 a2) (qA [7, 8, 9, 10, 11, 12, 13, 0, 1, 2, 3, 4, 5, 6]) ?_
    refine qB (fun g3 => ?_) fun g3 => ?_
    ·skip
     refine qK (impl_StreamsOk w s1 s2) (qA [0, 1, 2, 3, 4, 5, 6, 7, 8, 9, 10, 11, 12, 13, 14, 15, 16, 17, 18, 19, 20]) ?_
     refine qB (fun g4 => ?_) fun g4 => ?_
     ·skip
      refine qK (impl_RoadsOwn w.a a2) (qA [0, 1, 2, 3, 4, 5, 6]) ?_
      refine qB (fun g5 => ?_) fun g5 => ?_
      ·skip
       refine qK (impl_RoadsOwn w.b b2) (qA [7, 8, 9, 10, 11, 12, 13]) ?_
       refine qB (fun g6 => ?_) fun g6 => ?_
       ·skip
        refine qK (impl_FarOk w a1 b0 b5 b1 a0 a5) (qA [0, 1, 2, 3, 4, 5, 6, 7, 8, 9, 10, 11, 12, 13, 14, 15, 16, 17, 18, 19, 20]) ?_
        refine qJ (qA [0, 1, 2, 3, 4, 5, 6, 7, 8, 9, 10, 11, 12, 13, 14, 15, 16, 17, 18, 19, 20]) ?_
        simp [safeWorld, g0, g1, g2, g3, g4, g5, g6]
       ·refine qJ (qA [0, 1, 2, 3, 4, 5, 6, 7, 8, 9, 10, 11, 12, 13, 14, 15, 16, 17, 18, 19, 20]) ?_
        simp [safeWorld, g6]
      ·refine qJ (qA [0, 1, 2, 3, 4, 5, 6, 7, 8, 9, 10, 11, 12, 13, 14, 15, 16, 17, 18, 19, 20]) ?_
       simp [safeWorld, g5]
     ·refine qJ (qA [0, 1, 2, 3, 4, 5, 6, 7, 8, 9, 10, 11, 12, 13, 14, 15, 16, 17, 18, 19, 20]) ?_
      simp [safeWorld, g4]
    ·refine qJ (qA [0, 1, 2, 3, 4, 5, 6, 7, 8, 9, 10, 11, 12, 13, 14, 15, 16, 17, 18, 19, 20]) ?_
     simp [safeWorld, g3]
   ·refine qJ (qA [0, 1, 2, 3, 4, 5, 6, 7, 8, 9, 10, 11, 12, 13, 14, 15, 16, 17, 18, 19, 20]) ?_
    simp [safeWorld, g2]
  ·refine qJ (qA [0, 1, 2, 3, 4, 5, 6, 7, 8, 9, 10, 11, 12, 13, 14, 15, 16, 17, 18, 19, 20]) ?_
   simp [safeWorld, g1]
 ·refine qJ (qA [0, 1, 2, 3, 4, 5, 6, 7, 8, 9, 10, 11, 12, 13, 14, 15, 16, 17, 18, 19, 20]) ?_
  simp [safeWorld, g0]
theorem spec_SafeWorld (w : WorldD) (a0 : w.a.own.length ≤ 1048576) (a1 : w.a.far.length ≤ 1048576) (a2 : w.a.subs.length ≤ 1048576) (a3 : w.a.halfs.length ≤ 1048576) (a4 : w.a.inp.list.length ≤ 1048576) (a5 : w.a.done.length ≤ 1048576) (a6 : w.a.over.length ≤ 1048576) (b0 : w.b.own.length ≤ 1048576) (b1 : w.b.far.length ≤ 1048576) (b2 : w.b.subs.length ≤ 1048576) (b3 : w.b.halfs.length ≤ 1048576) (b4 : w.b.inp.list.length ≤ 1048576) (b5 : w.b.done.length ≤ 1048576) (b6 : w.b.over.length ≤ 1048576) (s1 : w.readB.length + w.b.inp.ready.length ≤ 4611686018427387904) (s2 : w.readA.length + w.a.inp.ready.length ≤ 4611686018427387904) : CallA Tryz.prog 29 [.ag (w.cs 0)] (w.hp false) (.sc (.bo (safeWorld w))) (w.hp false) := by
 refine qE Tryz.func29 Tryz.ntmps29 Tryz.results29 fun E hE => ?_
 refine qK (spec_EndOk w.a a0 a1 a2 a3 a4 a5 a6) (qA [0, 1, 2, 3, 4, 5, 6]) ?_
 refine qB (fun g0 => ?_) fun g0 => ?_
 ·skip
  refine qK (spec_EndOk w.b b0 b1 b2 b3 b4 b5 b6) (qA [7, 8, 9, 10, 11, 12, 13]) ?_
  refine qB (fun g1 => ?_) fun g1 => ?_
  ·skip
   refine qK (spec_Paired w.a w.b a2 b2) (qA [0, 1, 2, 3, 4, 5, 6, 7, 8, 9, 10, 11, 12, 13]) ?_
   refine qB (fun g2 => ?_) fun g2 => ?_
   ·skip
    refine qK (spec_Paired w.b w.a b2 a2) (qA [7, 8, 9, 10, 11, 12, 13, 0, 1, 2, 3, 4, 5, 6]) ?_
    refine qB (fun g3 => ?_) fun g3 => ?_
    ·skip
     refine qK (spec_StreamsOk w s1 s2) (qA [0, 1, 2, 3, 4, 5, 6, 7, 8, 9, 10, 11, 12, 13, 14, 15, 16, 17, 18, 19, 20]) ?_
     refine qB (fun g4 => ?_) fun g4 => ?_
     ·skip
      refine qK (spec_RoadsOwn w.a a2) (qA [0, 1, 2, 3, 4, 5, 6]) ?_
      refine qB (fun g5 => ?_) fun g5 => ?_
      ·skip
       refine qK (spec_RoadsOwn w.b b2) (qA [7, 8, 9, 10, 11, 12, 13]) ?_
       refine qB (fun g6 => ?_) fun g6 => ?_
       ·skip
        refine qK (spec_FarOk w a1 b0 b5 b1 a0 a5) (qA [0, 1, 2, 3, 4, 5, 6, 7, 8, 9, 10, 11, 12, 13, 14, 15, 16, 17, 18, 19, 20]) ?_
        refine qJ (qA [0, 1, 2, 3, 4, 5, 6, 7, 8, 9, 10, 11, 12, 13, 14, 15, 16, 17, 18, 19, 20]) ?_
        simp [safeWorld, g0, g1, g2, g3, g4, g5, g6]
       ·refine qJ (qA [0, 1, 2, 3, 4, 5, 6, 7, 8, 9, 10, 11, 12, 13, 14, 15, 16, 17, 18, 19, 20]) ?_
        simp [safeWorld, g6]
      ·refine qJ (qA [0, 1, 2, 3, 4, 5, 6, 7, 8, 9, 10, 11, 12, 13, 14, 15, 16, 17, 18, 19, 20]) ?_
       simp [safeWorld, g5]
     ·refine qJ (qA [0, 1, 2, 3, 4, 5, 6, 7, 8, 9, 10, 11, 12, 13, 14, 15, 16, 17, 18, 19, 20]) ?_
      simp [safeWorld, g4]
    ·refine qJ (qA [0, 1, 2, 3, 4, 5, 6, 7, 8, 9, 10, 11, 12, 13, 14, 15, 16, 17, 18, 19, 20]) ?_
     simp [safeWorld, g3]
   ·refine qJ (qA [0, 1, 2, 3, 4, 5, 6, 7, 8, 9, 10, 11, 12, 13, 14, 15, 16, 17, 18, 19, 20]) ?_
    simp [safeWorld, g2]
  ·refine qJ (qA [0, 1, 2, 3, 4, 5, 6, 7, 8, 9, 10, 11, 12, 13, 14, 15, 16, 17, 18, 19, 20]) ?_
   simp [safeWorld, g1]
 ·refine qJ (qA [0, 1, 2, 3, 4, 5, 6, 7, 8, 9, 10, 11, 12, 13, 14, 15, 16, 17, 18, 19, 20]) ?_
  simp [safeWorld, g0]
end
section
open Go.RowKit

theorem laws_big (b : List UInt8) (hl : b.length ≤ maxLen) : CallA Tryz.prog 7 [.sc (.sl 0 0 b.length)] [some ⟨b.map byteC, 1, 5, false, true⟩] (.sc (.bo (decide (1048576 < b.length)))) [some ⟨b.map byteC, 1, 5, false, true⟩] := by
 refine qE Tryz.func7 Tryz.ntmps7 Tryz.results7 fun E hE => ?_
 refine qJ (qA [0]) ?_
 simp
 omega
theorem sameE (e : EndD) (h : Small e) : CallA Tryz.prog 77 [.ag (e.cs 0), .ag (e.cs 7)] (e.hp false ++ e.hp false) (.sc (.bo true)) (e.hp false ++ e.hp false) := laws_sameEnd e h.own h.far h.subs h.halfs h.list h.done h.over
theorem laws_sameWorld (w : WorldD) (h : SmallW w) : CallA Tryz.prog 24 [.ag (w.cs 0), .ag (w.cs 21)] (w.hp false ++ w.hp false) (.sc (.bo true)) (w.hp false ++ w.hp false) := by
 have h1 := h.bag
 have h2 := h.past
 have h3 := h.keys
 have h4 := h.tags
 have h5 := h.nums
 have h6 := h.ansA
 have h7 := h.ansB
 refine qE Tryz.func24 Tryz.ntmps24 Tryz.results24 fun E hE => ?_
 refine qK (sameE w.a h.a) (qA [0, 1, 2, 3, 4, 5, 6, 21, 22, 23, 24, 25, 26, 27]) ?_
 refine qK (sameE w.b h.b) (qA [7, 8, 9, 10, 11, 12, 13, 28, 29, 30, 31, 32, 33, 34]) ?_
 refine qK (laws_sameLetters w.bag (by omega)) (qA [14, 35]) ?_
 refine qK (laws_sameLetters w.past (by omega)) (qA [15, 36]) ?_
 refine qK (laws_sameKnown w.known (by omega) (by omega)) (qA [16, 17, 37, 38]) ?_
 refine qK (laws_sameInts w.nums (by omega)) (qA [18, 39]) ?_
 refine qK (laws_sameInts w.answersA (by omega)) (qA [19, 40]) ?_
 refine qK (laws_sameInts w.answersB (by omega)) (qA [20, 41]) ?_
 exact qF (qA [0, 1, 2, 3, 4, 5, 6, 7, 8, 9, 10, 11, 12, 13, 14, 15, 16, 17, 18, 19, 20, 21, 22, 23, 24, 25, 26, 27, 28, 29, 30, 31, 32, 33, 34, 35, 36, 37, 38, 39, 40, 41])
end
section
open Go.RowKit

theorem law_Safe (b : List UInt8) (hb : b.length ≤ maxLen) (_ : ∀ x ∈ b, True) : CallA Tryz.prog 6 [.sc (.sl 0 0 b.length)] [some ⟨b.map byteC, 1, 5, false, true⟩] (.sc (.bo true)) [some ⟨b.map byteC, 1, 5, false, true⟩] := by
 refine qE Tryz.func6 Tryz.ntmps6 Tryz.results6 fun E hE => ?_
 refine qK (laws_big b hb) (qA [0]) ?_
 refine qB (fun h => ?_) fun h => ?_
 ·exact qF (qA [0])
 ·obtain ⟨w, hw, hD⟩ := spec_DrawSafeWorld b (by omega)
  have hr1 := hw.pa.ready
  have hr2 := hw.pb.ready
  have hr3 := hw.ra
  have hr4 := hw.rb
  have c1 := impl_SafeWorld w hw.s.a.own hw.s.a.far hw.s.a.subs hw.s.a.halfs hw.s.a.list hw.s.a.done hw.s.a.over hw.s.b.own hw.s.b.far hw.s.b.subs hw.s.b.halfs hw.s.b.list hw.s.b.done hw.s.b.over (by omega) (by omega)
  have c2 := spec_SafeWorld w hw.s.a.own hw.s.a.far hw.s.a.subs hw.s.a.halfs hw.s.a.list hw.s.a.done hw.s.a.over hw.s.b.own hw.s.b.far hw.s.b.subs hw.s.b.halfs hw.s.b.list hw.s.b.done hw.s.b.over (by omega) (by omega)
  have c3 := impl_Paired w.a w.b hw.s.a.subs hw.s.b.subs
  have c4 := spec_Paired w.a w.b hw.s.a.subs hw.s.b.subs
  have c5 := impl_StreamsOk w (by omega) (by omega)
  have c6 := spec_StreamsOk w (by omega) (by omega)
  have c7 := impl_FarOk w hw.s.a.far hw.s.b.own hw.s.b.done hw.s.b.far hw.s.a.own hw.s.a.done
  have c8 := spec_FarOk w hw.s.a.far hw.s.b.own hw.s.b.done hw.s.b.far hw.s.a.own hw.s.a.done
  have c9 := impl_RoadsOwn w.a hw.s.a.subs
  have c10 := spec_RoadsOwn w.a hw.s.a.subs
  have c11 := laws_sameWorld w hw.s
  have c12 := impl_BeginsWith [97, 98, 99] [97, 98]
  have c13 := impl_BeginsWith [97, 98] [97, 98, 99]
  rw [show begins [97, 98, 99] [97, 98] = true from by decide] at c12
  rw [show begins [97, 98] [97, 98, 99] = false from by decide] at c13
  generalize safeWorld w = p1 at c1 c2
  generalize paired w.a w.b = p2 at c3 c4
  generalize streamsOk w = p3 at c5 c6
  generalize farOk w = p4 at c7 c8
  generalize roadsOwn w.a = p5 at c9 c10
  clear hr1 hr2 hr3 hr4 hw
  refine qK (hD) (qA [0]) ?_
  refine qK (hD) (qA [0]) ?_
  refine qD [0, 2, 1, 3, 4, 5, 6, 7, 8, 9, 11, 12, 13, 14, 10, 15, 16, 17, 18, 19, 21, 20, 22, 23, 24, 25, 26, 28, 27, 29, 30, 31, 32, 33, 34, 36, 37, 35, 38, 39, 40, 41, 42, 43, 44, 45, 46, 47, 48, 49, 50, 51, 52, 53] ?_
  refine qKD (c1) (qA [1, 2, 3, 4, 5, 6, 7, 8, 9, 10, 11, 12, 13, 14, 15, 16, 17, 18, 19, 20, 21]) ?_
  refine qKD (c2) (qA [23, 24, 25, 26, 27, 28, 29, 30, 31, 32, 33, 34, 35, 36, 37, 38, 39, 40, 41, 42, 43]) ?_
  refine qKD (c3) (qA [1, 2, 3, 4, 5, 6, 7, 8, 9, 10, 11, 12, 13, 14]) ?_
  refine qKD (c4) (qA [1, 2, 3, 4, 5, 6, 7, 8, 9, 10, 11, 12, 13, 14]) ?_
  refine qKD (c5) (qA [1, 2, 3, 4, 5, 6, 7, 8, 9, 10, 11, 12, 13, 14, 15, 16, 17, 18, 19, 20, 21]) ?_
  refine qKD (c6) (qA [1, 2, 3, 4, 5, 6, 7, 8, 9, 10, 11, 12, 13, 14, 15, 16, 17, 18, 19, 20, 21]) ?_
  refine qKD (c7) (qA [1, 2, 3, 4, 5, 6, 7, 8, 9, 10, 11, 12, 13, 14, 15, 16, 17, 18, 19, 20, 21]) ?_
  refine qKD (c8) (qA [1, 2, 3, 4, 5, 6, 7, 8, 9, 10, 11, 12, 13, 14, 15, 16, 17, 18, 19, 20, 21]) ?_
  refine qKD (c9) (qA [1, 2, 3, 4, 5, 6, 7]) ?_
  refine qKD (c10) (qA [1, 2, 3, 4, 5, 6, 7]) ?_
  refine qKD (c11) (qA [1, 2, 3, 4, 5, 6, 7, 8, 9, 10, 11, 12, 13, 14, 15, 16, 17, 18, 19, 20, 21, 23, 24, 25, 26, 27, 28, 29, 30, 31, 32, 33, 34, 35, 36, 37, 38, 39, 40, 41, 42, 43]) ?_
  refine qKD (c12) [] ?_
  refine qKD (c13) [] ?_
  refine qG ?_
  exact qF (qA [0])
end
section
open Go.RowKit

def roHp : Hp → Bool
 | [] => true
 | some ob :: h => !ob.own && roHp h
 | none :: h => roHp h
theorem roHp_get : ∀ {h : Hp} {o : Nat} {ob : AObj}, roHp h = true → h[o]? = some (some ob) → ob.own = false
 | some x :: h, 0, ob, hr, ho => by
  simp only [roHp, Bool.and_eq_true, Bool.not_eq_true'] at hr
  simp at ho
  subst ho
  exact hr.1
 | some x :: h, o + 1, ob, hr, ho => by
  simp only [roHp, Bool.and_eq_true] at hr
  exact roHp_get hr.2 (by simpa using ho)
 | none :: h, 0, ob, hr, ho => by simp at ho
 | none :: h, o + 1, ob, hr, ho => roHp_get (h := h) hr (by simpa using ho)
 | [], o, ob, _, ho => by simp at ho
theorem roL_ro {β : Be} {w : World} : ∀ {l : Be} {h : Hp}, RoL β w l h → roHp h = true
 | [], [], _ => rfl
 | p :: l, some ob :: h, hr => by
  have := roL_ro hr.2
  simp [roHp, hr.1.1, this]
 | [], _ :: _, h => h.elim
 | _ :: _, [], h => h.elim
 | _ :: _, none :: _, h => h.elim
theorem callA_ro {P : Program} {f : FuncId} {args : List AV} {b : Bool} {h h' : Hp} (ct : CallA P f args h (.sc (.bo b)) h') {β : Be} {w : World} (hr : RoL β w β h) {vs : List Value} (hvs : L2 (AVR β) args vs) :
  Calls P f vs.toArray w fun e w' => e = .returned (.bool b) ∧ Below w.heap.size w w' :=
 (ct.2 β w vs (hsim_roL hr) hvs).mono fun e w' ⟨β', v, he, hv, hh, hst⟩ => by
  have hv' : v = .bool b := hv
  subst hv'
  exact ⟨he, ⟨hst.os, hst.tape, hst.output, hst.size, fun k hk => hst.block k hk fun ⟨o, ob, p, ho, hown, hp, _⟩ => by
   rw [roHp_get (roL_ro hr) ho] at hown
   cases hown⟩⟩
end
section
open Go

def rkOf (R : Nat) (g : Nat) : Nat := (R >>> (10 * g)) % 1024
def okH (P : Program) (R lo hi : Nat) (g : Nat) : Bool :=
 match P.funcs[g]? with
 | none => true
 | some fn => ((P.leadsTo fn).all fun h => Nat.blt (rkOf R h) (rkOf R g) && (Nat.ble lo h && Nat.blt h hi)) && (!(fn.ours || fn.body.isNone || fn.name == "runtime.NumGoroutine") && (match fn.body with | some c => !c.unfollowed && c.globalsNamed.isEmpty | none => false))
def okG (P : Program) (R lo hi : Nat) (g : Nat) : Bool := Nat.ble 1000 (rkOf R g) || okH P R lo hi g
theorem okG_okH {P : Program} {R lo hi g : Nat} (h : okG P R lo hi g = true) (hr : rkOf R g < 1000) : okH P R lo hi g = true := by
 unfold okG at h
 rw [Bool.or_eq_true, Nat.ble_eq] at h
 exact h.resolve_left (by omega)
theorem closureVia_sub {P : Program} {S : FuncId → Prop} (hS : ∀ g, S g → ∀ h ∈ (P.funcs[g]?).elim [] P.leadsTo, S h) : ∀ (n : Nat) (todo seen : List FuncId), (∀ x ∈ todo, S x) → (∀ x ∈ seen, S x) → ∀ x ∈ P.closureVia n todo seen, S x
 | 0, todo, seen, _, hs, x, hx => by
  unfold Program.closureVia at hx
  exact hs x (List.mem_reverse.1 hx)
 | n + 1, [], seen, _, hs, x, hx => by
  unfold Program.closureVia at hx
  exact hs x (List.mem_reverse.1 hx)
 | n + 1, f :: todo, seen, ht, hs, x, hx => by
  unfold Program.closureVia at hx
  split at hx
  ·exact closureVia_sub hS n todo seen (fun y hy => ht y (List.mem_cons_of_mem _ hy)) hs x hx
  ·refine closureVia_sub hS n _ (f :: seen) (fun y hy => ?_) (fun y hy => ?_) x hx
   ·rcases List.mem_append.1 hy with hy | hy
    ·exact hS f (ht f (List.mem_cons_self ..)) y hy
    ·exact ht y (List.mem_cons_of_mem _ hy)
   ·rcases List.mem_cons.1 hy with rfl | hy
    ·exact ht y (List.mem_cons_self ..)
    ·exact hs y hy
theorem closure_sub {P : Program} {S : FuncId → Prop} (hS : ∀ g, S g → ∀ h ∈ (P.funcs[g]?).elim [] P.leadsTo, S h) {f : FuncId} (hf : S f) : ∀ x ∈ P.closure f, S x :=
 closureVia_sub hS _ [f] [] (fun x hx => by rw [List.mem_singleton.1 hx]; exact hf) (fun x hx => by cases hx)
theorem rk_lt {P : Program} {R lo hi : Nat} (h : ∀ g, lo ≤ g ∧ g < hi → okG P R lo hi g = true) {g k : FuncId} (hb : lo ≤ g ∧ g < hi) (hr : rkOf R g < 1000) (hk : k ∈ (P.funcs[g]?).elim [] P.leadsTo) : rkOf R k < rkOf R g ∧ lo ≤ k ∧ k < hi := by
 have hg := okG_okH (h g hb) hr
 unfold okH at hg
 cases hf : P.funcs[g]? with
 | none => rw [hf] at hk; simp at hk
 | some fn =>
  rw [hf] at hg hk
  simp only [Bool.and_eq_true, List.all_eq_true, Nat.blt_eq, Nat.ble_eq] at hg
  exact hg.1 k hk
theorem graph_facts {P : Program} {R lo hi : Nat} (h : ∀ g, lo ≤ g ∧ g < hi → okG P R lo hi g = true) (f : FuncId) (hf0 : (lo ≤ f ∧ f < hi) ∧ rkOf R f < 1000) : P.inPlace f = [] ∧ P.unfollowed f = false ∧ P.recurses f = false ∧ P.varsNamed f = [] := by
 have hin : ∀ k, (lo ≤ k ∧ k < hi) ∧ rkOf R k < 1000 → ∀ x ∈ P.closure k, (lo ≤ x ∧ x < hi) ∧ rkOf R x < 1000 := fun k hk => closure_sub (S := fun x => (lo ≤ x ∧ x < hi) ∧ rkOf R x < 1000) (fun a ha b hb => ⟨(rk_lt h ha.1 ha.2 hb).2, Nat.lt_trans (rk_lt h ha.1 ha.2 hb).1 ha.2⟩) hk
 have hu : P.unfollowed f = false := by
  unfold Program.unfollowed
  rw [List.any_eq_false]
  intro g hgc
  have hg := okG_okH (h g (hin f hf0 g hgc).1) (hin f hf0 g hgc).2
  unfold okH at hg
  cases hf : P.funcs[g]? with
  | none => simp
  | some fn =>
   rw [hf] at hg
   simp only [Bool.and_eq_true] at hg
   simp only [Option.any_some]
   cases hb : fn.body with
   | none => rw [hb] at hg; simp at hg
   | some c => rw [hb] at hg; simp at hg ⊢; exact hg.2.2.1
 refine ⟨?_, hu, ?_, ?_⟩
 ·unfold Program.inPlace
  rw [List.filterMap_eq_nil_iff]
  intro g hgc
  have hg := okG_okH (h g (hin f hf0 g hgc).1) (hin f hf0 g hgc).2
  unfold okH at hg
  cases hf : P.funcs[g]? with
  | none => rfl
  | some fn =>
   rw [hf] at hg
   simp only [Bool.and_eq_true, Bool.not_eq_true'] at hg
   simp only [Option.bind_some]
   rw [hg.2.1]
   rfl
 ·unfold Program.recurses
  rw [hu, Bool.false_or, List.any_eq_false]
  intro g hgc
  rw [Bool.not_eq_true, List.any_eq_false]
  intro k hk
  rw [Bool.not_eq_true]
  obtain ⟨h1, hkb⟩ := rk_lt h (hin f hf0 g hgc).1 (hin f hf0 g hgc).2 hk
  have hkr : rkOf R k < 1000 := Nat.lt_trans h1 (hin f hf0 g hgc).2
  have h2 : ∀ x ∈ P.closure k, rkOf R x ≤ rkOf R k ∧ lo ≤ x ∧ x < hi := closure_sub (S := fun x => rkOf R x ≤ rkOf R k ∧ lo ≤ x ∧ x < hi) (fun a ha b hb => ⟨Nat.le_trans (Nat.le_of_lt (rk_lt h ha.2 (by omega) hb).1) ha.1, (rk_lt h ha.2 (by omega) hb).2⟩) ⟨Nat.le_refl _, hkb⟩
  cases hc : (P.closure k).contains g with
  | false => rfl
  | true =>
   have := (h2 g (List.contains_iff_mem.1 hc)).1
   omega
 ·unfold Program.varsNamed
  have e1 : ((P.closure f).flatMap fun g => ((P.funcs[g]?).bind (·.body)).elim [] Code.globalsNamed) = [] := by
   rw [List.flatMap_eq_nil_iff]
   intro g hgc
   have hg := okG_okH (h g (hin f hf0 g hgc).1) (hin f hf0 g hgc).2
   unfold okH at hg
   cases hf : P.funcs[g]? with
   | none => rfl
   | some fn =>
    rw [hf] at hg
    simp only [Bool.and_eq_true] at hg
    simp only [Option.bind_some]
    cases hb : fn.body with
    | none => rfl
    | some c => rw [hb] at hg; simp at hg ⊢; exact hg.2.2.2
  have e2 : ((P.closure f).filterMap fun g => (P.funcs[g]?).bind fun fn => if fn.body.isNone then entryReads.lookup fn.name else none) = [] := by
   rw [List.filterMap_eq_nil_iff]
   intro g hgc
   have hg := okG_okH (h g (hin f hf0 g hgc).1) (hin f hf0 g hgc).2
   unfold okH at hg
   cases hf : P.funcs[g]? with
   | none => rfl
   | some fn =>
    rw [hf] at hg
    simp only [Bool.and_eq_true] at hg
    simp only [Option.bind_some]
    cases hb : fn.body with
    | none => rw [hb] at hg; simp at hg
    | some c => rfl
  rw [e1, e2]
  rfl
def chs (l : List Nat) : List Char := l.map Char.ofNat
theorem chs_app (a b : List Nat) : chs (a ++ b) = chs a ++ chs b := by simp [chs]
theorem chs_cons (a : Nat) (b : List Nat) : chs (a :: b) = Char.ofNat a :: chs b := rfl
theorem wordsSigns_cons {c : Char} (h : c ≠ Char.ofNat 32) (r : List Char) : wordsSigns (c :: r) = match wordsSigns r with
  | w :: ws => (c :: w) :: ws
  | [] => [[c]] := by
 conv => lhs; unfold wordsSigns
 split
 ·rename_i e
  simp at e
 ·rename_i r' e
  obtain ⟨e1, _⟩ := List.cons.inj e
  exact absurd e1 h
 ·rename_i c' r' _ e
  obtain ⟨e1, e2⟩ := List.cons.inj e
  subst e1; subst e2
  rfl
theorem wordsSigns_word : ∀ {w : List Char} (r : List Char), (∀ c ∈ w, c ≠ Char.ofNat 32) → wordsSigns (w ++ Char.ofNat 32 :: r) = w :: wordsSigns r
 | [], r, _ => by
  show wordsSigns (Char.ofNat 32 :: r) = [] :: wordsSigns r
  conv => lhs; unfold wordsSigns
  rfl
 | c :: w, r, h => by
  rw [List.cons_append, wordsSigns_cons (h c (List.mem_cons_self ..)), wordsSigns_word r (fun x hx => h x (List.mem_cons_of_mem _ hx))]
def noBlank (l : List Nat) : Bool := (chs l).all fun c => c != Char.ofNat 32
theorem noBlank_mem {l : List Nat} (h : noBlank l = true) : ∀ c ∈ chs l, c ≠ Char.ofNat 32 := by
 intro c hc
 have := List.all_eq_true.1 h c hc
 simpa using this
theorem head_words {P : Program} {a b c r : List Nat} (h : P.initOrder = String.ofList (chs (a ++ 32 :: (b ++ 32 :: (c ++ 32 :: r))))) (ha : noBlank a = true) (hb : noBlank b = true) (hc : noBlank c = true)
  (hm : ((chs a == "harness".toList || chs a == "ownmain".toList) && isSumSigns (chs b)) = true) : ∃ rest, behindMainWord (wordsSigns P.initOrder.toList) = chs c :: rest := by
 refine ⟨wordsSigns (chs r), ?_⟩
 rw [h, String.toList_ofList, chs_app, chs_cons, chs_app, chs_cons, chs_app, chs_cons, wordsSigns_word _ (noBlank_mem ha), wordsSigns_word _ (noBlank_mem hb), wordsSigns_word _ (noBlank_mem hc)]
 exact if_pos hm
def cutN : List Nat := [99, 117, 116]
theorem make_cut {P : Program} {rest : List (List Char)} (h : behindMainWord (wordsSigns P.initOrder.toList) = chs cutN :: rest) : P.make = some .cut := by
 unfold Program.make
 rw [h]
 rfl
theorem final_cut {P : Program} {rest : List (List Char)} (h : behindMainWord (wordsSigns P.initOrder.toList) = chs cutN :: rest) : P.liftsFinal = false := by
 unfold Program.liftsFinal Program.headLifts
 rw [h]
 rfl
theorem may_cut {P : Program} {rest : List (List Char)} (h : behindMainWord (wordsSigns P.initOrder.toList) = chs cutN :: rest) (l1 : P.laysLater = false) (l2 : P.bearsReflect = false) (l3 : P.doorRows = []) : P.mayEnter = true := by
 have l4 : P.doorFits [] = true := by
  unfold Program.doorFits
  rw [l3]
  rfl
 unfold Program.mayEnter
 rw [h]
 show ((_ || _) || _) = true
 have e : stripLifts liftWords (chs cutN :: rest) = ([], chs cutN :: rest) := rfl
 rw [e, l1, l2, l4]
 simp only [List.contains_nil, Bool.and_true, Bool.not_false, Bool.or_true, List.head?_cons]
 rw [show (some (chs cutN) == some "cut".toList) = true from by kernel_rfl]
 simp
def restFacts (P : Program) (f : FuncId) (fn : Func) (s : ChangeSpec) (c : OpenClaim) : Bool :=
 c.wf (OpenSpec.ofChange s) && laidOutB P && mapsRowed P &&
 fn.params.all (P.readableRec ·) && namedTie P c.named s.vars &&
 (c.stops == []) && (P.stops == []) && (c.knobs == []) && (P.stopKnobs == []) &&
 (c.maps == (fn.params.toList ++ s.plain.varTypes P).any (P.mapsRec ·)) && (c.ifaces == (fn.params.toList ++ s.plain.varTypes P).any (P.ifacesRec ·)) && (c.mapsOut == P.mapsAmong fn.resultTypes.toList) &&
 (c.loops == (fn.params.toList ++ s.plain.varTypes P).any (P.loopsFrom ·)) && (c.wideKeys == (fn.params.toList ++ s.plain.varTypes P ++ fn.resultTypes.toList).any (P.wideKeysFrom ·)) &&
 s.vars.all (P.varReadable ·) && fn.resultTypes.all (fun t => P.readableRec t && decide (t < P.types.size)) && (c.ifacesOut == fn.resultTypes.toList.any (P.ifacesRec ·)) && (c.loopsOut == fn.resultTypes.toList.any (P.loopsFrom ·)) && (c.plainKeys == P.plainKeys) && c.shortTexts.isNone && P.stopsHeard && (c.kinds == (if c.domain.isEmpty then [] else fn.params.toList.map fun t => match P.underlying t with | some (.int k) => some k | _ => none)) && (c.pinned == c.pinnedBy) &&
 (c.veiled == (fn.params.toList ++ s.plain.varTypes P ++ fn.resultTypes.toList).any (P.veiledRec ·)) && c.veiledFits P fn.params.toList (fn.params.toList ++ s.plain.varTypes P ++ fn.resultTypes.toList)
theorem joined_of {P : Program} {f : FuncId} {fn : Func} {s : ChangeSpec} {c : OpenClaim} (g : P.inPlace f = [] ∧ P.unfollowed f = false ∧ P.recurses f = false ∧ P.varsNamed f = []) (c1 : c.inPlace = []) (c2 : c.unfollowed = false) (c3 : c.recurses = false) (c4 : c.named = [])
  (m1 : P.mayEnter = true) (m2 : P.liftsFinal = false) (m3 : P.make = some .cut) (d2 : c.lifted = false) (d3 : c.make = .cut) (h : restFacts P f fn s c = true) : joinedFacts P f fn s c = true := by
 obtain ⟨g1, g2, g3, g4⟩ := g
 unfold restFacts at h
 unfold joinedFacts
 simp only [Bool.and_eq_true] at h ⊢
 obtain ⟨⟨⟨⟨⟨⟨⟨⟨⟨⟨⟨⟨⟨⟨⟨⟨⟨⟨⟨⟨⟨⟨⟨⟨k1, k2⟩, k3⟩, k4⟩, k5⟩, k6⟩, k7⟩, k8⟩, k9⟩, k14⟩, k15⟩, k16⟩, k17⟩, k17b⟩, k18⟩, k19⟩, k20⟩, k21⟩, k22⟩, k23⟩, k23b⟩, k25⟩, k26⟩, k27⟩, k28⟩ := h
 refine ⟨⟨⟨⟨⟨⟨⟨⟨⟨⟨⟨⟨⟨⟨⟨⟨⟨⟨⟨⟨⟨⟨⟨⟨⟨⟨⟨⟨⟨⟨⟨k1, k2⟩, k3⟩, k4⟩, k5⟩, k6⟩, k7⟩, k8⟩, k9⟩, ?_⟩, ?_⟩, ?_⟩, ?_⟩, k14⟩, k15⟩, k16⟩, k17⟩, k17b⟩, k18⟩, k19⟩, k20⟩, k21⟩, k22⟩, k23⟩, k23b⟩, m1⟩, ?_⟩, ?_⟩, k25⟩, k26⟩, k27⟩, k28⟩
 ·rw [c1, g1]; rfl
 ·rw [c2, g2]; rfl
 ·rw [c3, g3]; rfl
 ·rw [c4, g4]; rfl
 ·rw [d2, m2]; rfl
 ·rw [d3, m3]; exact beq_self_eq_true _
end
section
open Go

def rkN : Nat := 334128637448615346712073575473798550119056351205566486503304238269332447695411291857074062807376423208008830992043785699585565940682908281978725648391715663074963325647124991223891885177688195310087636229294937956573306512213115707290925997647426414651473998387988891839762602005217774254198038194858745125589540845400187972964529569347422097914406131750487927347709228599046845737043279057245676859780546655506243233756364361982172654627402307828963999260554084740847930615497557359798912958067793477810736187209979679910057695780645202815665446764250979751865069327986235806526938039450400917920842331434604711828548614208600600048746779222081836205288589275316963774945317469735021866958907703009230971171953626027362216655485833052160
theorem okG_0 : (List.range' 3 16).all (okG Tryz.prog rkN 3 229) = true := by kernel_rfl
theorem okG_1 : (List.range' 19 16).all (okG Tryz.prog rkN 3 229) = true := by kernel_rfl
theorem okG_2 : (List.range' 35 16).all (okG Tryz.prog rkN 3 229) = true := by kernel_rfl
theorem okG_3 : (List.range' 51 16).all (okG Tryz.prog rkN 3 229) = true := by kernel_rfl
theorem okG_4 : (List.range' 67 16).all (okG Tryz.prog rkN 3 229) = true := by kernel_rfl
theorem okG_5 : (List.range' 83 16).all (okG Tryz.prog rkN 3 229) = true := by kernel_rfl
theorem okG_6 : (List.range' 99 16).all (okG Tryz.prog rkN 3 229) = true := by kernel_rfl
theorem okG_7 : (List.range' 115 16).all (okG Tryz.prog rkN 3 229) = true := by kernel_rfl
theorem okG_8 : (List.range' 131 16).all (okG Tryz.prog rkN 3 229) = true := by kernel_rfl
theorem okG_9 : (List.range' 147 16).all (okG Tryz.prog rkN 3 229) = true := by kernel_rfl
theorem okG_10 : (List.range' 163 16).all (okG Tryz.prog rkN 3 229) = true := by kernel_rfl
theorem okG_11 : (List.range' 179 16).all (okG Tryz.prog rkN 3 229) = true := by kernel_rfl
theorem okG_12 : (List.range' 195 16).all (okG Tryz.prog rkN 3 229) = true := by kernel_rfl
theorem okG_13 : (List.range' 211 16).all (okG Tryz.prog rkN 3 229) = true := by kernel_rfl
theorem okG_14 : (List.range' 227 2).all (okG Tryz.prog rkN 3 229) = true := by kernel_rfl
theorem okG_all (g : Nat) (h : 3 ≤ g ∧ g < 229) : okG Tryz.prog rkN 3 229 g = true := by
 rcases (by omega : (3 ≤ g ∧ g < 19) ∨ (19 ≤ g ∧ g < 35) ∨ (35 ≤ g ∧ g < 51) ∨ (51 ≤ g ∧ g < 67) ∨ (67 ≤ g ∧ g < 83) ∨ (83 ≤ g ∧ g < 99) ∨ (99 ≤ g ∧ g < 115) ∨ (115 ≤ g ∧ g < 131) ∨ (131 ≤ g ∧ g < 147) ∨ (147 ≤ g ∧ g < 163) ∨ (163 ≤ g ∧ g < 179) ∨ (179 ≤ g ∧ g < 195) ∨ (195 ≤ g ∧ g < 211) ∨ (211 ≤ g ∧ g < 227) ∨ (227 ≤ g ∧ g < 229)) with h | h | h | h | h | h | h | h | h | h | h | h | h | h | h
 ·exact List.all_eq_true.1 okG_0 g (List.mem_range'_1.2 h)
 ·exact List.all_eq_true.1 okG_1 g (List.mem_range'_1.2 h)
 ·exact List.all_eq_true.1 okG_2 g (List.mem_range'_1.2 h)
 ·exact List.all_eq_true.1 okG_3 g (List.mem_range'_1.2 h)
 ·exact List.all_eq_true.1 okG_4 g (List.mem_range'_1.2 h)
 ·exact List.all_eq_true.1 okG_5 g (List.mem_range'_1.2 h)
 ·exact List.all_eq_true.1 okG_6 g (List.mem_range'_1.2 h)
 ·exact List.all_eq_true.1 okG_7 g (List.mem_range'_1.2 h)
 ·exact List.all_eq_true.1 okG_8 g (List.mem_range'_1.2 h)
 ·exact List.all_eq_true.1 okG_9 g (List.mem_range'_1.2 h)
 ·exact List.all_eq_true.1 okG_10 g (List.mem_range'_1.2 h)
 ·exact List.all_eq_true.1 okG_11 g (List.mem_range'_1.2 h)
 ·exact List.all_eq_true.1 okG_12 g (List.mem_range'_1.2 h)
 ·exact List.all_eq_true.1 okG_13 g (List.mem_range'_1.2 h)
 ·exact List.all_eq_true.1 okG_14 g (List.mem_range'_1.2 h)
theorem init_head : ∃ rest, behindMainWord (wordsSigns Tryz.prog.initOrder.toList) = chs cutN :: rest :=
 head_words (a := [104, 97, 114, 110, 101, 115, 115]) (b := [57, 52, 54, 98, 55, 97, 99, 48, 101, 55, 52, 102, 98, 51, 52, 98, 100, 50, 54, 56, 100, 98, 50, 51, 52, 56, 50, 52, 49, 50, 97, 97, 49, 101, 102, 97, 52, 56, 50, 48, 51, 101, 100, 50, 48, 97, 53, 53, 100, 48, 54, 50, 48, 51, 102, 53, 54, 55, 49, 51, 51, 97, 99, 54]) (c := cutN) (r := [97, 116, 32, 108, 111, 111, 112, 46, 101, 120, 97, 109, 112, 108, 101, 47, 103, 48, 48, 57, 54, 55, 47, 108, 97, 119, 115, 46, 70, 110, 82, 101, 112, 111, 114, 116, 115, 32, 108, 111, 111, 112, 46, 101, 120, 97, 109, 112, 108, 101, 47, 103, 48, 48, 57, 54, 55, 47, 108, 97, 119, 115, 46, 70, 110, 84, 117, 114, 110, 115, 32, 108, 111, 111, 112, 46, 101, 120, 97, 109, 112, 108, 101, 47, 103, 48, 48, 57, 54, 55, 47, 108, 97, 119, 115, 46, 70, 110, 87, 111, 114, 108, 100, 115, 32, 108, 111, 111, 112, 46, 101, 120, 97, 109, 112, 108, 101, 47, 103, 48, 48, 57, 54, 55, 47, 108, 97, 119, 115, 46, 70, 110, 83, 97, 102, 101]) (by kernel_rfl) (by kernel_rfl) (by kernel_rfl) (by kernel_rfl) (by kernel_rfl)
theorem own_l1 : Tryz.prog.laysLater = false := by kernel_rfl
theorem own_l2 : Tryz.prog.bearsReflect = false := by kernel_rfl
theorem own_l3 : Tryz.prog.doorRows = [] := by kernel_rfl
theorem own_may : Tryz.prog.mayEnter = true := init_head.elim fun _ h => may_cut h own_l1 own_l2 own_l3
theorem own_final : Tryz.prog.liftsFinal = false := init_head.elim fun _ h => final_cut h
theorem own_make : Tryz.prog.make = some .cut := init_head.elim fun _ h => make_cut h
theorem own_graph (f : Nat) (h : ((Nat.ble 3 f && Nat.blt f 229) && Nat.blt (rkOf rkN f) 1000) = true) : Tryz.prog.inPlace f = [] ∧ Tryz.prog.unfollowed f = false ∧ Tryz.prog.recurses f = false ∧ Tryz.prog.varsNamed f = [] :=
 graph_facts okG_all f (by simpa only [Bool.and_eq_true, Nat.ble_eq, Nat.blt_eq] using h)
end
end Go.Proofs.YtfakgekanapbnaaGreat
