/-
  Texts merged for this claim by shake.py: what its proof needs.
-/
import Derived.Tactics
import Derived.Below
import Derived.Laws.AppendOwn
import Derived.Laws.OwnMore
import Derived.Laws.Slices
import Derived.Laws.Small
import Derived.Laws.Strings
import Derived.KernelRfl
import Derived.Laws.MakeOwn
import Derived.Laws.BytesString
import Derived.Laws.BytesArg
import Derived.Laws.Build
import Derived.Laws.Concat
import Derived.Laws.StructEq
import Derived.Lib.ConvBytes
import Derived.Orders
import Derived.WalkKit
import Derived.ProofKit
import Derived.ShutString
import Derived.OpenShut
import Derived.ChangeOld
import Derived.Carry
import Derived.Test.YtfakgekanapbnaaGreatChecked
import Derived.Laws.BitsLemmas
import Derived.JoinedOf
import Derived.Test.YtfakgekanapbnaaGreatRows
import Derived.Test.YtfakgekanapbnaaGreatZFnSafeE
set_option maxHeartbeats 16000000
set_option maxRecDepth 100000
set_option linter.unusedVariables false
set_option linter.unusedSimpArgs false
namespace Go.Proofs.YtfakgekanapbnaaGreat
section
open Go.RowKit

end
section
open Go.RowKit

end
section
open Go.RowKit

end
section
open Go.RowKit

section
variable {P : Program} {β : Be} {s : S} {a : Act} {w : World} {o : Oper} {r : OpR} {ty : TypeId}

end
end
section
open Go.RowKit

section
variable {P : Program} {β : Be} {s : S} {a : Act} {w : World} {o : Oper} {r : OpR} {ty : TypeId}

end
end
section
open Go.RowKit

section
variable {P : Program} {β : Be} {s : S} {a : Act} {w : World} {o : Oper} {r : OpR} {ty : TypeId}

end
end
section
open Go.RowKit

section
variable {P : Program} {β : Be} {s : S} {a : Act} {w : World} {o : Oper} {r : OpR} {ty : TypeId}

end
end
section
open Go.RowKit

section
variable {P : Program} {β : Be} {s : S} {a : Act} {w : World} {o : Oper} {r : OpR} {ty : TypeId}

end
end
section
open Go.RowKit

end
section
open Go.RowKit

end
section
open Go.RowKit

end
section
open Go.RowKit

section
variable {β β0' : Be} {ρ : Rho} {N : Nat}
end
end
section
open Go.RowKit

section
variable {P : Program} {β : Be} {s : S} {w : World} {tm : Array Value}
end
end
section

end
section
open Go.RowKit

end
section
open Go.RowKit

end
section
open Go.RowKit

end
section
open Go.RowKit

end
section
open Go.RowKit

end
section
open Go.RowKit

end
section
open Go.RowKit

end
section
open Go.RowKit

end
section
open Go.RowKit

section
variable {P : Program} {E : Entry} {F : S → Prop} {c q : Prop}
end
end
section
open Go.ChangeShapes Go.WideShapes Go.ChangeAt Go.RowKit

section
variable {H : Type} {enc : TypeId × Value → H} {P : Program} {w : World} {base : Nat} {held : Bool}
end
end
section
open Go.ChangeShapes Go.WideShapes Go.ChangeAt Go.RowKit


end
section

end
section
open Go.RowKit

end
section
open Go.RowKit

end
section
open Go.RowKit

end
section

end
section
open Go.ChangeShapes Go.WideShapes Go.ChangeAt Go.RowKit

end
section
open Go.ChangeShapes Go.WideShapes Go.ChangeAt Go.RowKit

end
section

end
section

end
section

end
section

end
section

end
section

end
section
open Go.RowKit

end
section
open Go.RowKit

end
section
open Go.RowKit

end
section
open Go.RowKit

end
section
open Go.RowKit

end
section
open Go.RowKit

end
section
open Go.RowKit

end
section
open Go.RowKit

end
section
open Go.RowKit

end
section
open Go.RowKit

end
section
open Go.RowKit

end
section
open Go.RowKit

end
section
open Go.RowKit

end
section
open Go.RowKit

end
section
open Go.RowKit

end
section
open Go.RowKit

end
section
open Go.RowKit

end
section
open Go.RowKit

end
section
open Go.RowKit

end
section
open Go.RowKit

end
section
open Go.RowKit

end
section
open Go.RowKit

theorem impl_copyAddrs (l : List AddrD) (hl : l.length ≤ 1048576) : CallA Tryz.prog 144 [.sc (.sl 0 0 l.length)] [some ⟨l.map AddrD.cs,4,80,false,true⟩] (.sc (.sl 1 0 l.length)) [some ⟨l.map AddrD.cs,4,80,false,true⟩,some ⟨l.map AddrD.cs,4,80,true,true⟩] := by
 refine qE Tryz.func144 Tryz.ntmps144 Tryz.results144 fun E hE => ?_
 exact qF (qA [0,2])
theorem impl_copyHalfs (l : List HalfD) (hl : l.length ≤ 1048576) : CallA Tryz.prog 145 [.sc (.sl 0 0 l.length)] [some ⟨l.map HalfD.cs,8,118,false,true⟩] (.sc (.sl 1 0 l.length)) [some ⟨l.map HalfD.cs,8,118,false,true⟩,some ⟨l.map HalfD.cs,8,118,true,true⟩] := by
 refine qE Tryz.func145 Tryz.ntmps145 Tryz.results145 fun E hE => ?_
 exact qF (qA [0,2])
theorem impl_copyInts (l : List Int) (hl : l.length ≤ 1048576) : CallA Tryz.prog 117 [.sc (.sl 0 0 l.length)] [some ⟨l.map intC,1,3,false,true⟩] (.sc (.sl 1 0 l.length)) [some ⟨l.map intC,1,3,false,true⟩,some ⟨l.map intC,1,3,true,true⟩] := by
 refine qE Tryz.func117 Tryz.ntmps117 Tryz.results117 fun E hE => ?_
 exact qF (qA [0,2])
theorem impl_copyPieces (p : PiecesD) (hl : p.list.length ≤ 1048576) : CallA Tryz.prog 146 [.ag (p.cs 0)] (p.hp false) (.ag (p.cs 1)) (p.hp false ++ p.hp true) := by
 refine qE Tryz.func146 Tryz.ntmps146 Tryz.results146 fun E hE => ?_
 exact qF (qA [0,4])
theorem impl_copyEnd (e : EndD) (h0 : e.own.length ≤ 1048576) (h1 : e.far.length ≤ 1048576) (h2 : e.subs.length ≤ 1048576) (h3 : e.halfs.length ≤ 1048576) (h4 : e.inp.list.length ≤ 1048576) (h5 : e.done.length ≤ 1048576) (h6 : e.over.length ≤ 1048576) : CallA Tryz.prog 114 [.ag (e.cs 0)] (e.hp false) (.ag (e.cs 7)) (e.hp false ++ e.hp true) := by
 refine qE Tryz.func114 Tryz.ntmps114 Tryz.results114 fun E hE => ?_
 refine qK (impl_copyAddrs e.own h0) (qA [0]) ?_
 refine qK (impl_copyAddrs e.far h1) (qA [1]) ?_
 refine qK (impl_copyHalfs e.halfs h3) (qA [3]) ?_
 refine qK (impl_copyPieces e.inp h4) (qA [4]) ?_
 refine qK (impl_copyInts e.done h5) (qA [5]) ?_
 refine qK (impl_copyInts e.over h6) (qA [6]) ?_
 exact qF (qA [0,1,2,3,4,5,6,9,10,12,13,14,15,16])
end
section
open Go.RowKit

section
variable {P : Program} {β : Be}
end
end
section
open Go.RowKit

end
section
open Go.RowKit

end
section
open Go.RowKit

end
section
open Go.RowKit

end
section
open Go.RowKit

end
section
open Go.RowKit

end
section
open Go.RowKit

end
section
open Go.RowKit

end
section
open Go.RowKit

end
section
open Go.RowKit

end
section
open Go.RowKit

end
section
open Go.RowKit

end
section
open Go.RowKit

end
section
open Go.RowKit

end
section

end
section
open Go.RowKit

theorem rep_step {l : List UInt8} {k : Nat} {x : UInt8} (h : k < l.length) (hl : l.take k = List.replicate k x) : (l.set k x).take (k + 1) = List.replicate (k + 1) x := by
 rw [List.take_succ_eq_append_getElem (by simpa using h),List.getElem_set_self,List.take_set,List.set_eq_of_length_le (by rw [List.length_take]; omega),hl,List.replicate_succ']
theorem byte_set (l : List UInt8) (k : Nat) (x : UInt8) : (l.map byteC).set k [.int .u8 (x.toNat : Nat)] = (l.set k x).map byteC := by rw [List.map_set]; rfl
theorem spec_l01Long (n : Nat) (x : UInt8) (hn : n ≤ 5000) : CallA Tryz.prog 111 [.sc (.int .i64 (n : Int)),.sc (.int .u8 (x.toNat : Nat))] [] (.sc (.st (List.replicate n x))) [] := by
 refine qE Tryz.func111 Tryz.ntmps111 Tryz.results111 fun E hE => ?_
 refine den_lp 0 hE (fun s (y : Nat × List UInt8) => s.at [7,8,9,10,11,12,13,14,15,16,17] [(6,.sc (.int .i64 (y.1 : Nat)))] ([some ⟨y.2.map byteC,1,5,true,true⟩])) (fun (y : Nat × List UInt8) => y.1 ≤ n ∧ y.2.length = n ∧ y.2.take y.1 = List.replicate y.1 x) (fun (y : Nat × List UInt8) => n - y.1) (0,List.replicate n 0) (qA [0]) (qC) (⟨Nat.zero_le _,by simp,by simp⟩) (weak_mk (by rfl) (by rfl) ?_) fun y hy N hN => ?_
 ·try simp (disch := omega) only [go_sem,Nat.reduceEqDiff,Nat.reduceAdd,Nat.reduceSub,Int.reduceAdd,Int.reduceSub,Int.reduceToNat]
  try simp [byteC]
 ·obtain ⟨k,l⟩ := y
  obtain ⟨h1,h2,h3⟩ := hy
  dsimp only at h1 h2 h3
  refine qR ?_
  refine qB (fun h => ?_) fun h => ?_
  ·refine qX ?_
   refine ⟨qC,hN _ (k + 1,l.set k x) (qA [0]) (by (try dsimp only); exact ⟨by omega,by rw [List.length_set]; exact h2,rep_step (by omega) h3⟩) (by (try dsimp only); omega) (weak_mk (by rfl) (by rfl) ?_)⟩
   try simp (disch := omega) only [go_sem,Nat.reduceEqDiff,Nat.reduceAdd,Nat.reduceSub,Int.reduceAdd,Int.reduceSub,Int.reduceToNat,byteC,byte_set]
  ·have hk : k = n := by omega
   subst hk
   rw [List.take_of_length_le (by omega)] at h3
   subst h3
   refine qX ?_
   refine qJ [] ?_
   simp [byteSc,byteC]
theorem spec_l16Any (b : List UInt8) (c : CurD) (hc : c.ok b) : ∃ (x : LetterD) (c' : CurD),c'.ok b ∧ x.wf ∧ CallA Tryz.prog 68 [.sc (.pt 1 0 0)] (c.hp b) (.ag x.cs) (c'.hp b) := by
 obtain ⟨x,c1,o1,w1,h1⟩ := spec_l16Letter b c hc
 have h2 := spec_l01Below b c1 o1 12
 have o2 := CurD.below_ok o1 12
 have b2 := c1.below_lt b (n := 12) (by omega)
 generalize c1.below b 12 = r2 at h2 o2 b2
 obtain ⟨v2,c2⟩ := r2
 dsimp only at h2 o2 b2
 have hv : v2 = 0 ∨ v2 = 1 ∨ v2 = 2 ∨ v2 = 3 ∨ 4 ≤ v2 := by omega
 rcases hv with rfl | rfl | rfl | rfl | hv
 ·have h3 := spec_l01PickInt b c2 o2 [0,14,13] (by decide) (by decide)
  have o3 := CurD.below_ok o2 (b := b) 3
  have m3 := c2.pick_mem b (l := [0,14,13]) (by decide)
  have w3 := (by decide : ∀ x ∈ ([0,14,13] : List Int),0 ≤ x ∧ x ≤ 14) _ m3
  rw [show (([0,14,13] : List Int).length : Int) = 3 from rfl] at h3
  generalize c2.pick b [0,14,13] = v3 at h3 w3
  clear m3
  generalize c2.below b 3 = r3 at h3 o3
  obtain ⟨u3,c3⟩ := r3
  dsimp only at h3 o3
  refine ⟨{ x with kind := v3 },c3,o3,by simp only [LetterD.wf,I64,maxLen,List.length_replicate] at *; omega,?_⟩
  refine qE Tryz.func68 Tryz.ntmps68 Tryz.results68 fun E hE => ?_
  refine qK (h1) (qA [0,1]) ?_
  refine qK (h2) (qA [0,1]) ?_
  refine qK (h3) (qA [0,1,4]) ?_
  exact qF (qA [0,1])
 ·have h3 := spec_l01PickInt b c2 o2 [20,21] (by decide) (by decide)
  have o3 := CurD.below_ok o2 (b := b) 2
  have m3 := c2.pick_mem b (l := [20,21]) (by decide)
  have w3 := (by decide : ∀ x ∈ ([20,21] : List Int),20 ≤ x ∧ x ≤ 21) _ m3
  rw [show (([20,21] : List Int).length : Int) = 2 from rfl] at h3
  generalize c2.pick b [20,21] = v3 at h3 w3
  clear m3
  generalize c2.below b 2 = r3 at h3 o3
  obtain ⟨u3,c3⟩ := r3
  dsimp only at h3 o3
  obtain ⟨n,rfl⟩ := Int.eq_ofNat_of_zero_le (show 0 ≤ v3 by omega)
  refine ⟨{ x with text := List.replicate n 97 },c3,o3,by simp only [LetterD.wf,I64,maxLen,List.length_replicate] at *; omega,?_⟩
  refine qE Tryz.func68 Tryz.ntmps68 Tryz.results68 fun E hE => ?_
  refine qK (h1) (qA [0,1]) ?_
  refine qK (h2) (qA [0,1]) ?_
  refine qK (h3) (qA [0,1,4]) ?_
  refine qK (spec_l01Long n 97 (by omega)) [] ?_
  exact qF (qA [0,1])
 ·have h3 := spec_l01PickInt b c2 o2 [-1,1000000001] (by decide) (by decide)
  have o3 := CurD.below_ok o2 (b := b) 2
  have m3 := c2.pick_mem b (l := [-1,1000000001]) (by decide)
  have w3 := (by decide : ∀ x ∈ ([-1,1000000001] : List Int),-1 ≤ x ∧ x ≤ 1000000001) _ m3
  rw [show (([-1,1000000001] : List Int).length : Int) = 2 from rfl] at h3
  generalize c2.pick b [-1,1000000001] = v3 at h3 w3
  clear m3
  generalize c2.below b 2 = r3 at h3 o3
  obtain ⟨u3,c3⟩ := r3
  dsimp only at h3 o3
  refine ⟨{ x with sgn := v3 },c3,o3,by simp only [LetterD.wf,I64,maxLen,List.length_replicate] at *; omega,?_⟩
  refine qE Tryz.func68 Tryz.ntmps68 Tryz.results68 fun E hE => ?_
  refine qK (h1) (qA [0,1]) ?_
  refine qK (h2) (qA [0,1]) ?_
  refine qK (h3) (qA [0,1,4]) ?_
  exact qF (qA [0,1])
 ·refine ⟨{ x with tag := { x.tag with a := -1 } },c2,o2,by simp only [LetterD.wf,I64,maxLen,List.length_replicate] at *; omega,?_⟩
  refine qE Tryz.func68 Tryz.ntmps68 Tryz.results68 fun E hE => ?_
  refine qK (h1) (qA [0,1]) ?_
  refine qK (h2) (qA [0,1]) ?_
  exact qF (qA [0,1])
 ·refine ⟨x,c2,o2,w1,?_⟩
  refine qE Tryz.func68 Tryz.ntmps68 Tryz.results68 fun E hE => ?_
  refine qK (h1) (qA [0,1]) ?_
  refine qK (h2) (qA [0,1]) ?_
  exact qF (qA [0,1])
end
section
open Go.RowKit

end
section
open Go.RowKit

end
section
open Go.RowKit

end
section
open Go.RowKit

end
section
open Go.RowKit

end
section
open Go.RowKit

end
section
open Go.RowKit

end
section
open Go.RowKit

end
section
open Go.RowKit

end
section
open Go.RowKit

end
section
open Go.RowKit

end
section
open Go.RowKit

end
section
open Go.RowKit

theorem impl_CanMake (k : KnownD) (t : TagD) (h0 : k.keys.length ≤ 1048576) (h1 : k.tags.length ≤ 1048576) : CallA Tryz.prog 26 [.ag (k.cs 0),.ag t.cs] (k.hp false) (.sc (.bo (canMake k t))) (k.hp false) := by
 obtain ⟨R,hR⟩ : ∃ R,R = canMake k t := ⟨_,rfl⟩
 rw [← hR]
 rw [canMake] at hR
 have hcmp := TagD.cmp t tagNone
 simp only [TagD.cs,tagNone,go_sem] at hcmp
 have ht : tagNone = ⟨0,0,0,0,0⟩ := rfl
 refine qE Tryz.func26 Tryz.ntmps26 Tryz.results26 fun E hE => ?_
 try simp (disch := omega) only [go_sem,Nat.reduceEqDiff,Nat.reduceAdd,Nat.reduceSub,Int.reduceAdd,Int.reduceSub,Int.reduceToNat,hcmp]
 refine qB (fun b1 => ?_) fun b1 => ?_
 ·have b1' := of_decide_eq_false b1
  refine qK (impl_hasInt k.keys t.one h0) (qA [0]) ?_
  refine qB (fun b2 => ?_) fun b2 => ?_
  ·refine qK (impl_hasInt k.keys t.two h0) (qA [0]) ?_
   refine qB (fun b3 => ?_) fun b3 => ?_
   ·have hR' : R = true := by rw [hR]; simp [b2,b3]
    subst hR'
    refine qX ?_
    exact qF (qA [0,1])
   ·have hR' : R = (k.tags.take 300).any (fun u => decide (u = t)) := by rw [hR,ht]; simp [b1',b2,b3]
    refine qX ?_
    refine den_lp 2 hE (fun s (i : Nat) => s.at [0,1,4,6,7,8,9,10,11,12,13,14,15,16,17,18,19,20,21,22,23,24,25,26,27,28,29,30,31,32,33,34,35,36,37,38,39,40] [(5,.sc (.int .i64 (i : Nat)))] (s.hp)) (fun (i : Nat) => i ≤ k.tags.length ∧ i ≤ 300 ∧ ((k.tags.take 300).drop i).any (fun u => decide (u = t)) = R) (fun (i : Nat) => k.tags.length - i) 0 (qA [0,1,2,3]) (qC) (⟨Nat.zero_le _,Nat.zero_le _,by rw [hR']; rfl⟩) (weak_mk (by rfl) (by rfl) ?_) fun i hi N hN => ?_
    ·exact qY
    ·obtain ⟨hi1,hi2,hi3⟩ := hi
     refine qR ?_
     refine qB (fun h => ?_) fun h => ?_
     ·refine qB (fun h2 => ?_) fun h2 => ?_
      ·rw [any_step (by simp; omega),List.getElem_take] at hi3
       have hcm := TagD.cmp k.tags[i] t
       simp only [TagD.cs,go_sem] at hcm
       refine qX ?_
       refine qD [0,1,2,3,4,5,6] ?_
       refine ⟨qC,run_den 400 ?_⟩
       try simp (disch := omega) only [go_sem,Nat.reduceEqDiff,Nat.reduceAdd,Nat.reduceSub,Int.reduceAdd,Int.reduceSub,Int.reduceToNat,hcm]
       refine qB (fun h3 => ?_) fun h3 => ?_
       ·rw [decide_eq_true h3,Bool.true_or] at hi3
        subst hi3
        refine qX ?_
        exact qF (qA [0,1])
       ·rw [decide_eq_false h3,Bool.false_or] at hi3
        exact qN hN (i + 1) (qA [0,1,2,3]) (by (try dsimp only); exact ⟨by omega,by omega,hi3⟩)
      ·rw [any_end (by simp; omega)] at hi3
       subst hi3
       refine qX ?_
       exact qF (qA [0,1])
     ·rw [any_end (by simp; omega)] at hi3
      subst hi3
      refine qX ?_
      exact qF (qA [0,1])
  ·have hR' : R = (k.tags.take 300).any (fun u => decide (u = t)) := by rw [hR,ht]; simp [b1',b2]
   refine qX ?_
   refine den_lp 2 hE (fun s (i : Nat) => s.at [0,1,4,6,7,8,9,10,11,12,13,14,15,16,17,18,19,20,21,22,23,24,25,26,27,28,29,30,31,32,33,34,35,36,37,38,39,40] [(5,.sc (.int .i64 (i : Nat)))] (s.hp)) (fun (i : Nat) => i ≤ k.tags.length ∧ i ≤ 300 ∧ ((k.tags.take 300).drop i).any (fun u => decide (u = t)) = R) (fun (i : Nat) => k.tags.length - i) 0 (qA [0,1,2,3]) (qC) (⟨Nat.zero_le _,Nat.zero_le _,by rw [hR']; rfl⟩) (weak_mk (by rfl) (by rfl) ?_) fun i hi N hN => ?_
   ·exact qY
   ·obtain ⟨hi1,hi2,hi3⟩ := hi
    refine qR ?_
    refine qB (fun h => ?_) fun h => ?_
    ·refine qB (fun h2 => ?_) fun h2 => ?_
     ·rw [any_step (by simp; omega),List.getElem_take] at hi3
      have hcm := TagD.cmp k.tags[i] t
      simp only [TagD.cs,go_sem] at hcm
      refine qX ?_
      refine qD [0,1,2,3,4,5,6] ?_
      refine ⟨qC,run_den 400 ?_⟩
      try simp (disch := omega) only [go_sem,Nat.reduceEqDiff,Nat.reduceAdd,Nat.reduceSub,Int.reduceAdd,Int.reduceSub,Int.reduceToNat,hcm]
      refine qB (fun h3 => ?_) fun h3 => ?_
      ·rw [decide_eq_true h3,Bool.true_or] at hi3
       subst hi3
       refine qX ?_
       exact qF (qA [0,1])
      ·rw [decide_eq_false h3,Bool.false_or] at hi3
       exact qN hN (i + 1) (qA [0,1,2,3]) (by (try dsimp only); exact ⟨by omega,by omega,hi3⟩)
     ·rw [any_end (by simp; omega)] at hi3
      subst hi3
      refine qX ?_
      exact qF (qA [0,1])
    ·rw [any_end (by simp; omega)] at hi3
     subst hi3
     refine qX ?_
     exact qF (qA [0,1])
 ·have b1' := of_decide_eq_true b1
  have hR' : R = true := by rw [hR,ht]; simp [b1']
  subst hR'
  refine qX ?_
  exact qF (qA [0,1])

theorem impl_copyLetters (l : List LetterD) (hl : l.length ≤ 1048576) : CallA Tryz.prog 115 [.sc (.sl 0 0 l.length)] [some ⟨l.map LetterD.cs,19,67,false,true⟩] (.sc (.sl 1 0 l.length)) [some ⟨l.map LetterD.cs,19,67,false,true⟩,some ⟨l.map LetterD.cs,19,67,true,true⟩] := by
 refine qE Tryz.func115 Tryz.ntmps115 Tryz.results115 fun E hE => ?_
 exact qF (qA [0,2])
theorem impl_copyKnown (k : KnownD) (h0 : k.keys.length ≤ 1048576) (h1 : k.tags.length ≤ 1048576) : CallA Tryz.prog 116 [.ag (k.cs 0)] (k.hp false) (.ag (k.cs 2)) (k.hp false ++ k.hp true) := by
 refine qE Tryz.func116 Tryz.ntmps116 Tryz.results116 fun E hE => ?_
 refine den_drawC [(2,3)] [[0,1,4,5,2,3,6,7,8],[0,1,4,5,3,2,6,7,8]] (by kernel_rfl) (qC) (by kernel_rfl) ?_
 simp only [allDn]
 refine ⟨runD_den 400 ?_,runD_den 400 ?_⟩
 all_goals simp (disch := omega) only [go_sem,Nat.reduceEqDiff,Nat.reduceAdd,Nat.reduceSub,Int.reduceAdd,Int.reduceSub,Int.reduceToNat]
 ·refine qKD (impl_copyInts k.keys h0) (qA [0]) ?_
  refine qG ?_
  exact qF (qA [0,1,4,6])
 ·refine qKD (impl_copyInts k.keys h0) (qA [0]) ?_
  refine qG ?_
  exact qF (qA [0,1,5,6])
theorem impl_Learn (k : KnownD) (t : TagD) (h0 : k.keys.length ≤ 1048576) (h1 : k.tags.length ≤ 1048576) : CallA Tryz.prog 118 [.ag (k.cs 0),.ag t.cs] (k.hp false) (.ag ((learn k t).cs 2)) (k.hp false ++ (learn k t).hp true) := by
 have hM := impl_CanMake k t h0 h1
 have ht := learn_t (k := k) (t := t)
 have hf1 := learn_f1 (k := k) (t := t)
 have hf2 := learn_f2 (k := k) (t := t)
 generalize learn k t = R at *
 refine qE Tryz.func118 Tryz.ntmps118 Tryz.results118 fun E hE => ?_
 refine qK (impl_copyKnown k h0 h1) (qA [0,1]) ?_
 refine qK (hM) (qA [0,1]) ?_
 refine qB (fun b1 => ?_) fun b1 => ?_
 ·refine qB (fun b2 => ?_) fun b2 => ?_
  ·rw [ht b1 (by omega)]
   have e := tag_app k.tags t
   simp only [TagD.cs] at e
   try simp (disch := omega) only [go_sem,Nat.reduceEqDiff,Nat.reduceAdd,Nat.reduceSub,Int.reduceAdd,Int.reduceSub,Int.reduceToNat,e]
   refine den_fin (qA [0,1,5,9]) (qC) _ (by simp only [go_sem]; rfl) (by rfl) (by rfl) ?_
   simp (disch := omega) only [go_sem,Nat.reduceEqDiff,Nat.reduceAdd,Nat.reduceSub,Int.reduceAdd,Int.reduceSub,Int.reduceToNat]
   try simp
  ·rw [hf2 (by omega)]
   refine qX ?_
   exact qF (qA [0,1,5,6])
 ·rw [hf1 b1]
  refine qX ?_
  exact qF (qA [0,1,5,6])
end
section
open Go.RowKit

theorem impl_copyWorld (w : WorldD) (hs : SmallW w) : CallA Tryz.prog 71 [.ag (w.cs 0)] (w.hp false) (.ag (w.cs 21)) (w.hp false ++ w.hp true) := by
 have ha := hs.a
 have hb := hs.b
 refine qE Tryz.func71 Tryz.ntmps71 Tryz.results71 fun E hE => ?_
 refine qK (impl_copyEnd w.a (by have := ha.own; omega) (by have := ha.far; omega) (by have := ha.subs; omega) (by have := ha.halfs; omega) (by have := ha.list; omega) (by have := ha.done; omega) (by have := ha.over; omega)) (qA [0,1,2,3,4,5,6]) ?_
 refine qK (impl_copyEnd w.b (by have := hb.own; omega) (by have := hb.far; omega) (by have := hb.subs; omega) (by have := hb.halfs; omega) (by have := hb.list; omega) (by have := hb.done; omega) (by have := hb.over; omega)) (qA [7,8,9,10,11,12,13]) ?_
 refine qK (impl_copyLetters w.bag hs.bag) (qA [14]) ?_
 refine qK (impl_copyLetters w.past hs.past) (qA [15]) ?_
 refine qK (impl_copyKnown w.known hs.keys hs.tags) (qA [16,17]) ?_
 refine qK (impl_copyInts w.nums hs.nums) (qA [18]) ?_
 refine qK (impl_copyInts w.answersA hs.ansA) (qA [19]) ?_
 refine qK (impl_copyInts w.answersB hs.ansB) (qA [20]) ?_
 exact qF (qA [0,1,2,3,4,5,6,7,8,9,10,11,12,13,14,15,16,17,18,19,20,23,24,25,26,27,28,29,30,31,32,33,34,35,36,37,38,39,40,41,42,43])
end
section
open Go.RowKit

theorem posted_t {w : WorldD} {side : Int} {l : List LetterD} (h : side = 1 ∨ side = 2) : posted w side l = postL side w l := if_pos h
theorem posted_f {w : WorldD} {side : Int} {l : List LetterD} (h : ¬ (side = 1 ∨ side = 2)) : posted w side l = w := if_neg h
end
section
open Go.RowKit

end
section
open Go.RowKit

end
section
open Go.RowKit

end
section
open Go.RowKit

end
section
open Go.RowKit

end
section
open Go.RowKit

end
section
open Go.RowKit

end
section
open Go.RowKit

def nums3 (x : LetterD) : List Int := [x.nonce,x.give,x.sgn]
theorem foldN_step {l : List Int} {m : List Int} {k : Nat} (h : k < l.length) : (l.drop k).foldl numP m = (l.drop (k + 1)).foldl numP (numP m l[k]) := by
 rw [List.drop_eq_getElem_cons h]; rfl
theorem foldN_end {l : List Int} {m : List Int} {k : Nat} (h : l.length ≤ k) : (l.drop k).foldl numP m = m := by
 rw [List.drop_eq_nil_of_le h]; rfl
theorem impl_post1 (w : WorldD) (l : List LetterD) (hw : SmallP2 w) (hl : l.length ≤ 1048576) : CallA Tryz.prog 72 [.sc (.pt 21 0 0),.sc (.int .i64 1),.sc (.sl 22 0 l.length)]
  (endsHp w false ++ (restHp w true ++ [some ⟨[w.cs 0],61,58,true,false⟩,some ⟨l.map LetterD.cs,19,67,false,true⟩])) (.tu [])
  (endsHp w false ++ ([none,none,none,none,none,none,none,some ⟨[(worldC (postL 1 w l) 0 1 2 3 4 5 6 7 8 9 10 11 12 13 23 24 25 26 27 28 29)],61,58,true,false⟩,some ⟨l.map LetterD.cs,19,67,false,true⟩] ++ restHp (postL 1 w l) true)) := by
 obtain ⟨R,hR⟩ : ∃ R,R = postL 1 w l := ⟨_,rfl⟩
 rw [← hR]
 have hl2 : l.length ≤ 9223372036854775807 := by omega
 refine callA_ofO Tryz.func72 (by kernel_rfl) rfl fun E hE => run_den 400 ?_
 simp (disch := omega) only [Tryz.ntmps72,Tryz.results72,go_sem,Nat.reduceEqDiff,Nat.reduceAdd,Nat.reduceSub,Int.reduceAdd,Int.reduceSub,Int.reduceToNat]
 refine den_lpO 23 hE (fun s (y : Nat × WorldD) => s.at [2,7,9,13,14,15,16,17,18,19,20,21,22,23,24,25,26,27,28,29,30,31,32,33,34,35,36,37,38,39,40,41,42,43,44,45,46,47,48,49,50,51,52,53,54,55,56,57,58,59,60,61,62,63,64,65,66,67,68,69,70,71,72,73,74,75,76,77,78,79,80,81,82,83,84,85,86,87,88,89,90,91,92,93,94,95,96,97,98,99,100,101,102,103,104,105,106,107,108,109,110,111,112,113,114,115,116,117,118,119,120,121,122,123,124,125,126,127,128,129,130,131,132,133,134,135,136,137,138,139,140,141,142,143,144,145,146,147,148,149,150,151,152,153,154,155,156,157] [(12,.sc (.int .i64 (y.1 : Nat)))] (endsHp w false ++ ([none,none,none,none,none,none,none,some ⟨[(worldC y.2 0 1 2 3 4 5 6 7 8 9 10 11 12 13 23 24 25 26 27 28 29)],61,58,true,false⟩,some ⟨l.map LetterD.cs,19,67,false,true⟩] ++ (restHp y.2 true)))) (fun (y : Nat × WorldD) => y.1 ≤ l.length ∧ y.2.a = w.a ∧ y.2.b = w.b ∧ SmallP2 y.2 ∧ R = postL 1 y.2 (l.drop y.1)) (fun (y : Nat × WorldD) => l.length - y.1) (0,w) [some (0,none),some (1,none),some (2,none),some (3,none),some (4,none),some (5,none),some (6,none),some (7,none),some (8,none),some (9,none),some (10,none),some (11,none),some (12,none),some (13,none),some (14,none),some (15,none),some (16,none),some (17,none),some (18,none),some (19,none),some (20,none),some (21,none),some (22,none),some (14,none),some (15,none),some (16,none),some (17,none),some (18,none),some (19,none),some (20,none)] (by (try simp (disch := omega) only [go_sem,List.length_set,Nat.reduceEqDiff,Nat.reduceAdd,Nat.reduceSub,Int.reduceAdd,Int.reduceSub,Int.reduceToNat]) <;> omega) (⟨Nat.zero_le _,rfl,rfl,hw,hR⟩) (weak_mkO (by rfl) (by rfl) ?_) fun y hy N hN => ?_
 ·try simp (disch := omega) only [go_sem,Nat.reduceEqDiff,Nat.reduceAdd,Nat.reduceSub,Int.reduceAdd,Int.reduceSub,Int.reduceToNat]
 ·obtain ⟨i,u⟩ := y
  obtain ⟨hi,ha,hb,hS,hu⟩ := hy
  obtain ⟨ua,ub,bag,past,wA,wB,rA,rB,known,nums,nsA,nsB⟩ := u
  obtain ⟨keys,tags⟩ := known
  dsimp only at hi ha hb hu
  subst ha hb
  have s1 := hS.bag
  have s2 := hS.past
  have s3 := hS.keys
  have s4 := hS.tags
  have s5 := hS.nums
  have s6 := hS.ansA
  have s7 := hS.ansB
  dsimp only at s1 s2 s3 s4 s5 s6 s7
  refine runS_den 21 400 ?_
  try simp (disch := omega) only [go_sem,Nat.reduceEqDiff,Nat.reduceAdd,Nat.reduceSub,Int.reduceAdd,Int.reduceSub,Int.reduceToNat,Nat.reduceBEq]
  split <;> rename_i h <;> (try simp only [decide_eq_true_eq,decide_eq_false_iff_not,Int.ofNat_lt] at h)
  rotate_left
  ·have e : i = l.length := by omega
   subst e
   rw [postL_end (Nat.le_refl _)] at hu
   subst hu
   try simp (disch := omega) only [go_sem,Nat.reduceEqDiff,Nat.reduceAdd,Nat.reduceSub,Int.reduceAdd,Int.reduceSub,Int.reduceToNat,Nat.reduceBEq]
   refine den_finO [some (0,none),some (1,none),some (2,none),some (3,none),some (4,none),some (5,none),some (6,none),some (7,none),some (8,none),some (9,none),some (10,none),some (11,none),some (12,none),some (13,none),some (14,none),some (15,none),some (16,none),some (17,none),some (18,none),some (19,none),some (20,none),some (21,none),some (22,none),some (23,none),some (24,none),some (25,none),some (26,none),some (27,none),some (28,none),some (29,none)] (by (try simp (disch := omega) only [go_sem,List.length_set,Nat.reduceEqDiff,Nat.reduceAdd,Nat.reduceSub,Int.reduceAdd,Int.reduceSub,Int.reduceToNat,Nat.reduceBEq]) <;> omega) _ (by simp only [go_sem]; rfl) (by rfl) (by rfl) ?_
   simp (disch := omega) only [go_sem,Nat.reduceEqDiff,Nat.reduceAdd,Nat.reduceSub,Int.reduceAdd,Int.reduceSub,Int.reduceToNat,Nat.reduceBEq]
  ·rw [postL_step h] at hu
   generalize hx : l[i] = x at hu
   have hget := map_get (enc := LetterD.cs) h
   rw [hx] at hget
   try simp (disch := omega) only [go_sem,Nat.reduceEqDiff,Nat.reduceAdd,Nat.reduceSub,Int.reduceAdd,Int.reduceSub,Int.reduceToNat,Nat.reduceBEq,hget]
   obtain ⟨p1,hp1⟩ : ∃ p,p = pastP past x := ⟨_,rfl⟩
   refine den_joinO 23 hE (fun s => s.at [13,14,15,16,17,18,19,20,21,22,23,24,25,26,27,28,29,30,31] [] (endsHp w false ++ ([none,none,none,none,none,none,none,some ⟨[(worldC (⟨w.a,w.b,bag,p1,wA,wB,rA,rB,⟨keys,tags⟩,nums,nsA,nsB⟩ : WorldD) 0 1 2 3 4 5 6 7 8 9 10 11 12 13 23 24 25 26 27 28 29)],61,58,true,false⟩,some ⟨l.map LetterD.cs,19,67,false,true⟩] ++ (restHp (⟨w.a,w.b,bag,p1,wA,wB,rA,rB,⟨keys,tags⟩,nums,nsA,nsB⟩ : WorldD) true ++ [some ⟨[x.cs],19,67,true,false⟩])))) (by (try simp (disch := omega) only [go_sem,List.length_set,Nat.reduceEqDiff,Nat.reduceAdd,Nat.reduceSub,Int.reduceAdd,Int.reduceSub,Int.reduceToNat,Nat.reduceBEq]) <;> omega) (by rfl) (fun N hN => run_den 401 ?_) (runS_den 34 400 ?_)
   ·try simp (disch := omega) only [go_sem,Nat.reduceEqDiff,Nat.reduceAdd,Nat.reduceSub,Int.reduceAdd,Int.reduceSub,Int.reduceToNat,Nat.reduceBEq]
    split <;> rename_i b1 <;> (try simp only [beq_true,beq_false,Bool.not_eq_true',Bool.not_eq_false'] at b1) <;> simp (disch := omega) only [go_sem,Nat.reduceEqDiff,Nat.reduceAdd,Nat.reduceSub,Int.reduceAdd,Int.reduceSub,Int.reduceToNat,Nat.reduceBEq,b1] <;> (try simp only [decide_eq_true_eq,decide_eq_false_iff_not,beq_iff_eq,beq_eq_false_iff_ne,bne_iff_ne,bne_eq_false_iff_eq,ne_eq,Decidable.not_not,Bool.and_eq_true,Bool.and_eq_false_iff,Bool.or_eq_true,Bool.or_eq_false_iff,Int.ofNat_lt,Int.ofNat_le,Bool.not_eq_eq_eq_not,Bool.not_true,Bool.not_false] at b1) <;> try simp (disch := omega) only [go_sem,Nat.reduceEqDiff,Nat.reduceAdd,Nat.reduceSub,Int.reduceAdd,Int.reduceSub,Int.reduceToNat,Nat.reduceBEq]
    ·rw [pastP_t (by omega)] at hp1
     subst hp1
     refine den_draw1 [0,1,2,3,4,5,6,7,8,9,10] (by kernel_rfl) (by (try simp (disch := omega) only [go_sem,List.length_set,Nat.reduceEqDiff,Nat.reduceAdd,Nat.reduceSub,Int.reduceAdd,Int.reduceSub,Int.reduceToNat,Nat.reduceBEq]) <;> omega) (by kernel_rfl) (runD_den 400 ?_)
     simp (disch := omega) only [go_sem,Nat.reduceEqDiff,Nat.reduceAdd,Nat.reduceSub,Int.reduceAdd,Int.reduceSub,Int.reduceToNat,Nat.reduceBEq]
     refine ⟨by (try simp (disch := omega) only [go_sem,List.length_set,Nat.reduceEqDiff,Nat.reduceAdd,Nat.reduceSub,Int.reduceAdd,Int.reduceSub,Int.reduceToNat,Nat.reduceBEq]) <;> omega,runS_den 34 400 ?_⟩
     try simp (disch := omega) only [go_sem,Nat.reduceEqDiff,Nat.reduceAdd,Nat.reduceSub,Int.reduceAdd,Int.reduceSub,Int.reduceToNat,Nat.reduceBEq]
     refine ⟨by (try simp (disch := omega) only [go_sem,List.length_set,Nat.reduceEqDiff,Nat.reduceAdd,Nat.reduceSub,Int.reduceAdd,Int.reduceSub,Int.reduceToNat,Nat.reduceBEq]) <;> omega,hN _ [some (0,none),some (1,none),some (2,none),some (3,none),some (4,none),some (5,none),some (6,none),some (7,none),some (8,none),some (9,none),some (10,none),some (11,none),some (12,none),some (13,none),some (14,none),some (15,none),some (16,none),some (17,none),some (18,none),some (19,none),some (20,none),some (21,none),some (22,none),some (23,none),some (32,none),some (25,none),some (26,none),some (27,none),some (28,none),some (29,none),some (30,none)] (weak_mkO (by rfl) (by rfl) ?_)⟩
     simp (disch := omega) only [go_sem,Nat.reduceEqDiff,Nat.reduceAdd,Nat.reduceSub,Int.reduceAdd,Int.reduceSub,Int.reduceToNat,Nat.reduceBEq]
     try simp [LetterD.cs]
    ·rw [pastP_f (by omega)] at hp1
     subst hp1
     try simp (disch := omega) only [go_sem,Nat.reduceEqDiff,Nat.reduceAdd,Nat.reduceSub,Int.reduceAdd,Int.reduceSub,Int.reduceToNat,Nat.reduceBEq]
     refine ⟨by (try simp (disch := omega) only [go_sem,List.length_set,Nat.reduceEqDiff,Nat.reduceAdd,Nat.reduceSub,Int.reduceAdd,Int.reduceSub,Int.reduceToNat,Nat.reduceBEq]) <;> omega,hN _ [some (0,none),some (1,none),some (2,none),some (3,none),some (4,none),some (5,none),some (6,none),some (7,none),some (8,none),some (9,none),some (10,none),some (11,none),some (12,none),some (13,none),some (14,none),some (15,none),some (16,none),some (17,none),some (18,none),some (19,none),some (20,none),some (21,none),some (22,none),some (23,none),some (24,none),some (25,none),some (26,none),some (27,none),some (28,none),some (29,none),some (30,none)] (weak_mkO (by rfl) (by rfl) ?_)⟩
     simp (disch := omega) only [go_sem,Nat.reduceEqDiff,Nat.reduceAdd,Nat.reduceSub,Int.reduceAdd,Int.reduceSub,Int.reduceToNat,Nat.reduceBEq]
   ·try simp (disch := omega) only [go_sem,Nat.reduceEqDiff,Nat.reduceAdd,Nat.reduceSub,Int.reduceAdd,Int.reduceSub,Int.reduceToNat,Nat.reduceBEq]
    obtain ⟨q1,hq1⟩ : ∃ q,q = ansP nsA (isJB 1 1 x) w.a.now := ⟨_,rfl⟩
    refine den_joinO 23 hE (fun s => s.at [13,14,15,16,17,18,19,20,21,22,23,24,25,26,27,28,29,30,31,32,33,34,35,36,37,38,39,40,41,42,43,44,45,46,47,48,49,50,51,52,53,54,55,56,57,58,59,60,61,62,63,64,65,66,67,68,69,70,71,72,73,74,75,76,77,78,79,80,81,82] [] (endsHp w false ++ ([none,none,none,none,none,none,none,some ⟨[(worldC (⟨w.a,w.b,bag,p1,wA,wB,rA,rB,⟨keys,tags⟩,nums,q1,nsB⟩ : WorldD) 0 1 2 3 4 5 6 7 8 9 10 11 12 13 23 24 25 26 27 28 29)],61,58,true,false⟩,some ⟨l.map LetterD.cs,19,67,false,true⟩] ++ (restHp (⟨w.a,w.b,bag,p1,wA,wB,rA,rB,⟨keys,tags⟩,nums,q1,nsB⟩ : WorldD) true ++ [some ⟨[x.cs],19,67,true,false⟩])))) (by (try simp (disch := omega) only [go_sem,List.length_set,Nat.reduceEqDiff,Nat.reduceAdd,Nat.reduceSub,Int.reduceAdd,Int.reduceSub,Int.reduceToNat]) <;> omega) (by rfl) (fun N hN => run_den 401 ?_) (run_den 400 ?_)
    ·try simp (disch := omega) only [go_sem,Nat.reduceEqDiff,Nat.reduceAdd,Nat.reduceSub,Int.reduceAdd,Int.reduceSub,Int.reduceToNat]
     split <;> rename_i b2 <;> (try simp only [beq_true,beq_false,Bool.not_eq_true',Bool.not_eq_false'] at b2) <;> simp (disch := omega) only [go_sem,Nat.reduceEqDiff,Nat.reduceAdd,Nat.reduceSub,Int.reduceAdd,Int.reduceSub,Int.reduceToNat,b2] <;> (try simp only [decide_eq_true_eq,decide_eq_false_iff_not,beq_iff_eq,beq_eq_false_iff_ne,bne_iff_ne,bne_eq_false_iff_eq,ne_eq,Decidable.not_not,Bool.and_eq_true,Bool.and_eq_false_iff,Bool.or_eq_true,Bool.or_eq_false_iff,Int.ofNat_lt,Int.ofNat_le,Bool.not_eq_eq_eq_not,Bool.not_true,Bool.not_false] at b2) <;> try simp (disch := omega) only [go_sem,Nat.reduceEqDiff,Nat.reduceAdd,Nat.reduceSub,Int.reduceAdd,Int.reduceSub,Int.reduceToNat]
     ·rw [isJB_t b2] at hq1
      split <;> rename_i b3 <;> (try simp only [beq_true,beq_false,Bool.not_eq_true',Bool.not_eq_false'] at b3) <;> simp (disch := omega) only [go_sem,Nat.reduceEqDiff,Nat.reduceAdd,Nat.reduceSub,Int.reduceAdd,Int.reduceSub,Int.reduceToNat,b3] <;> (try simp only [decide_eq_true_eq,decide_eq_false_iff_not,beq_iff_eq,beq_eq_false_iff_ne,bne_iff_ne,bne_eq_false_iff_eq,ne_eq,Decidable.not_not,Bool.and_eq_true,Bool.and_eq_false_iff,Bool.or_eq_true,Bool.or_eq_false_iff,Int.ofNat_lt,Int.ofNat_le,Bool.not_eq_eq_eq_not,Bool.not_true,Bool.not_false] at b3) <;> try simp (disch := omega) only [go_sem,Nat.reduceEqDiff,Nat.reduceAdd,Nat.reduceSub,Int.reduceAdd,Int.reduceSub,Int.reduceToNat]
      ·rw [ansP_t (by omega)] at hq1
       subst hq1
       refine den_draw1 [0,1,2,3,4,5,6,7,8,9,10,11,12,13,14] (by kernel_rfl) (by (try simp (disch := omega) only [go_sem,List.length_set,Nat.reduceEqDiff,Nat.reduceAdd,Nat.reduceSub,Int.reduceAdd,Int.reduceSub,Int.reduceToNat]) <;> omega) (by kernel_rfl) (runD_den 400 ?_)
       simp (disch := omega) only [go_sem,Nat.reduceEqDiff,Nat.reduceAdd,Nat.reduceSub,Int.reduceAdd,Int.reduceSub,Int.reduceToNat]
       refine ⟨by (try simp (disch := omega) only [go_sem,List.length_set,Nat.reduceEqDiff,Nat.reduceAdd,Nat.reduceSub,Int.reduceAdd,Int.reduceSub,Int.reduceToNat]) <;> omega,run_den 400 ?_⟩
       try simp (disch := omega) only [go_sem,Nat.reduceEqDiff,Nat.reduceAdd,Nat.reduceSub,Int.reduceAdd,Int.reduceSub,Int.reduceToNat]
       refine ⟨by (try simp (disch := omega) only [go_sem,List.length_set,Nat.reduceEqDiff,Nat.reduceAdd,Nat.reduceSub,Int.reduceAdd,Int.reduceSub,Int.reduceToNat]) <;> omega,hN _ [some (0,none),some (1,none),some (2,none),some (3,none),some (4,none),some (5,none),some (6,none),some (7,none),some (8,none),some (9,none),some (10,none),some (11,none),some (12,none),some (13,none),some (14,none),some (15,none),some (16,none),some (17,none),some (18,none),some (19,none),some (20,none),some (21,none),some (22,none),some (23,none),some (24,none),some (25,none),some (26,none),some (27,none),some (32,none),some (29,none),some (30,none)] (weak_mkO (by rfl) (by rfl) ?_)⟩
       simp (disch := omega) only [go_sem,Nat.reduceEqDiff,Nat.reduceAdd,Nat.reduceSub,Int.reduceAdd,Int.reduceSub,Int.reduceToNat]
       try simp [intC]
      ·rw [ansP_f (by omega)] at hq1
       subst hq1
       try simp (disch := omega) only [go_sem,Nat.reduceEqDiff,Nat.reduceAdd,Nat.reduceSub,Int.reduceAdd,Int.reduceSub,Int.reduceToNat]
       refine ⟨by (try simp (disch := omega) only [go_sem,List.length_set,Nat.reduceEqDiff,Nat.reduceAdd,Nat.reduceSub,Int.reduceAdd,Int.reduceSub,Int.reduceToNat]) <;> omega,hN _ [some (0,none),some (1,none),some (2,none),some (3,none),some (4,none),some (5,none),some (6,none),some (7,none),some (8,none),some (9,none),some (10,none),some (11,none),some (12,none),some (13,none),some (14,none),some (15,none),some (16,none),some (17,none),some (18,none),some (19,none),some (20,none),some (21,none),some (22,none),some (23,none),some (24,none),some (25,none),some (26,none),some (27,none),some (28,none),some (29,none),some (30,none)] (weak_mkO (by rfl) (by rfl) ?_)⟩
       simp (disch := omega) only [go_sem,Nat.reduceEqDiff,Nat.reduceAdd,Nat.reduceSub,Int.reduceAdd,Int.reduceSub,Int.reduceToNat]
     ·rw [isJB_f b2,ansP_f1] at hq1
      subst hq1
      try simp (disch := omega) only [go_sem,Nat.reduceEqDiff,Nat.reduceAdd,Nat.reduceSub,Int.reduceAdd,Int.reduceSub,Int.reduceToNat]
      refine ⟨by (try simp (disch := omega) only [go_sem,List.length_set,Nat.reduceEqDiff,Nat.reduceAdd,Nat.reduceSub,Int.reduceAdd,Int.reduceSub,Int.reduceToNat]) <;> omega,hN _ [some (0,none),some (1,none),some (2,none),some (3,none),some (4,none),some (5,none),some (6,none),some (7,none),some (8,none),some (9,none),some (10,none),some (11,none),some (12,none),some (13,none),some (14,none),some (15,none),some (16,none),some (17,none),some (18,none),some (19,none),some (20,none),some (21,none),some (22,none),some (23,none),some (24,none),some (25,none),some (26,none),some (27,none),some (28,none),some (29,none),some (30,none)] (weak_mkO (by rfl) (by rfl) ?_)⟩
      simp (disch := omega) only [go_sem,Nat.reduceEqDiff,Nat.reduceAdd,Nat.reduceSub,Int.reduceAdd,Int.reduceSub,Int.reduceToNat]
    ·try simp (disch := omega) only [go_sem,Nat.reduceEqDiff,Nat.reduceAdd,Nat.reduceSub,Int.reduceAdd,Int.reduceSub,Int.reduceToNat]
     refine den_call (by (try simp (disch := omega) only [go_sem,List.length_set,Nat.reduceEqDiff,Nat.reduceAdd,Nat.reduceSub,Int.reduceAdd,Int.reduceSub,Int.reduceToNat]) <;> omega) (impl_SideAt x.to) [] (by simp only [go_sem]; repeat' first | rfl | constructor | (rw [List.map_set]; rfl) | (simp [List.map_take,List.map_drop] <;> omega)) (by rfl) (run_den 400 ?_)
     simp (disch := omega) only [go_sem,Nat.reduceEqDiff,Nat.reduceAdd,Nat.reduceSub,Int.reduceAdd,Int.reduceSub,Int.reduceToNat]
     have hoth : ansP nsB (isJB 1 2 x) w.b.now = nsB := by rw [isJB_n (by decide),ansP_f1]
     split <;> rename_i b4 <;> (try simp only [beq_true,beq_false,Bool.not_eq_true',Bool.not_eq_false'] at b4) <;> simp (disch := omega) only [go_sem,Nat.reduceEqDiff,Nat.reduceAdd,Nat.reduceSub,Int.reduceAdd,Int.reduceSub,Int.reduceToNat,b4] <;> (try simp only [decide_eq_true_eq,decide_eq_false_iff_not,beq_iff_eq,beq_eq_false_iff_ne,bne_iff_ne,bne_eq_false_iff_eq,ne_eq,Decidable.not_not,Bool.and_eq_true,Bool.and_eq_false_iff,Bool.or_eq_true,Bool.or_eq_false_iff,Int.ofNat_lt,Int.ofNat_le,Bool.not_eq_eq_eq_not,Bool.not_true,Bool.not_false] at b4) <;> try simp (disch := omega) only [go_sem,Nat.reduceEqDiff,Nat.reduceAdd,Nat.reduceSub,Int.reduceAdd,Int.reduceSub,Int.reduceToNat]
     ·have hK := impl_Learn ⟨keys,tags⟩ x.tag (by dsimp only; omega) (by dsimp only; omega)
      have hky : (learn ⟨keys,tags⟩ x.tag).keys.length ≤ 1048576 := by rw [learn_keys]; exact s3
      have hkt : (learn ⟨keys,tags⟩ x.tag).tags.length ≤ 1048576 := learn_le s4
      obtain ⟨kk,hkk⟩ : ∃ k,k = learn ⟨keys,tags⟩ x.tag := ⟨_,rfl⟩
      rw [← hkk] at hK hky hkt
      obtain ⟨k1,t1⟩ := kk
      dsimp only at hky hkt
      refine den_draw1 [0,1,2,3,4,5,6,7,8,9,10] (by kernel_rfl) (by (try simp (disch := omega) only [go_sem,List.length_set,Nat.reduceEqDiff,Nat.reduceAdd,Nat.reduceSub,Int.reduceAdd,Int.reduceSub,Int.reduceToNat]) <;> omega) (by kernel_rfl) (runD_den 400 ?_)
      simp (disch := omega) only [go_sem,Nat.reduceEqDiff,Nat.reduceAdd,Nat.reduceSub,Int.reduceAdd,Int.reduceSub,Int.reduceToNat]
      refine den_callD (by (try simp (disch := omega) only [go_sem,List.length_set,Nat.reduceEqDiff,Nat.reduceAdd,Nat.reduceSub,Int.reduceAdd,Int.reduceSub,Int.reduceToNat]) <;> omega) (hK) [some (25,none),some (26,none)] (by simp only [go_sem]; repeat' first | rfl | constructor | (rw [List.map_set]; rfl) | (simp [List.map_take,List.map_drop] <;> omega)) (by rfl) (by rfl) (runD_den 400 ?_)
      simp (disch := omega) only [go_sem,Nat.reduceEqDiff,Nat.reduceAdd,Nat.reduceSub,Int.reduceAdd,Int.reduceSub,Int.reduceToNat]
      refine ⟨by (try simp (disch := omega) only [go_sem,List.length_set,Nat.reduceEqDiff,Nat.reduceAdd,Nat.reduceSub,Int.reduceAdd,Int.reduceSub,Int.reduceToNat]) <;> omega,run_den 400 ?_⟩
      try simp (disch := omega) only [go_sem,Nat.reduceEqDiff,Nat.reduceAdd,Nat.reduceSub,Int.reduceAdd,Int.reduceSub,Int.reduceToNat]
      obtain ⟨n1,hn1⟩ : ∃ n,n = (nums3 x).foldl numP nums := ⟨_,rfl⟩
      have hn1l : n1.length ≤ 1048576 := by rw [hn1]; exact numP_le (numP_le (numP_le s5))
      refine den_lpO 23 hE (fun s (z : Nat × List Int) => s.at [2,9,14,15,16,17,18,19,20,22,23,24,25,26,27,28,29,30,31,32,33,35,36,37,38,39,40,41,42,43,45,46,47,48,49,50,51,52,53,54,55,56,57,58,59,60,61,62,63,64,65,66,67,69,70,71,72,73,74,75,76,77,78,79,80,81,82,84,85,86,87,88,89,90,91,92,93,94,95,96,97,98,99,100,101,102,103,107,108,109,110,111,112,113,114,115,116,117,118,119,120,121,122,123,124,125,126,127,128,129,130,131,132,133,134,135,136,137,138,139,141,142,143,144,145,146,147,148,149,150,151,152,153,154,155,156,157] [(106,.sc (.int .i64 (z.1 : Nat))),(104,.sc (.sl 31 0 3))] (endsHp w false ++ ([none,none,none,none,none,none,none,some ⟨[(worldC (⟨w.a,w.b,bag,p1,wA,wB,rA,rB,⟨k1,t1⟩,z.2,q1,nsB⟩ : WorldD) 0 1 2 3 4 5 6 7 8 9 10 11 12 13 23 24 25 26 27 28 29)],61,58,true,false⟩,some ⟨l.map LetterD.cs,19,67,false,true⟩] ++ (restHp (⟨w.a,w.b,bag,p1,wA,wB,rA,rB,⟨k1,t1⟩,z.2,q1,nsB⟩ : WorldD) true ++ [some ⟨[x.cs],19,67,true,false⟩] ++ [some ⟨[[.int .i64 x.nonce],[.int .i64 x.give],[.int .i64 x.sgn]],1,3,true,true⟩])))) (fun (z : Nat × List Int) => z.1 ≤ 3 ∧ z.2.length ≤ 1048576 ∧ n1 = ((nums3 x).drop z.1).foldl numP z.2) (fun (z : Nat × List Int) => 3 - z.1) (0,nums) [some (0,none),some (1,none),some (2,none),some (3,none),some (4,none),some (5,none),some (6,none),some (7,none),some (8,none),some (9,none),some (10,none),some (11,none),some (12,none),some (13,none),some (14,none),some (15,none),some (16,none),some (17,none),some (18,none),some (19,none),some (20,none),some (21,none),some (22,none),some (23,none),some (24,none),some (31,none),some (32,none),some (27,none),some (28,none),some (29,none),some (30,none),some (33,none)] (by (try simp (disch := omega) only [go_sem,List.length_set,Nat.reduceEqDiff,Nat.reduceAdd,Nat.reduceSub,Int.reduceAdd,Int.reduceSub,Int.reduceToNat]) <;> omega) (⟨Nat.zero_le _,s5,hn1⟩) (weak_mkO (by rfl) (by rfl) ?_) fun z hz N2 hN2 => ?_
      ·try simp (disch := omega) only [go_sem,Nat.reduceEqDiff,Nat.reduceAdd,Nat.reduceSub,Int.reduceAdd,Int.reduceSub,Int.reduceToNat]
      ·obtain ⟨j,m⟩ := z
       obtain ⟨hj,hm,hn⟩ := hz
       dsimp only at hj hm hn
       refine run_den 400 ?_
       try simp (disch := omega) only [go_sem,Nat.reduceEqDiff,Nat.reduceAdd,Nat.reduceSub,Int.reduceAdd,Int.reduceSub,Int.reduceToNat]
       split <;> rename_i h5 <;> (try simp only [decide_eq_true_eq,decide_eq_false_iff_not,Int.ofNat_lt] at h5)
       rotate_left
       ·have e : j = 3 := by omega
        subst e
        rw [foldN_end (by simp [nums3])] at hn
        subst hn
        try simp (disch := omega) only [go_sem,Nat.reduceEqDiff,Nat.reduceAdd,Nat.reduceSub,Int.reduceAdd,Int.reduceSub,Int.reduceToNat]
        refine ⟨by (try simp (disch := omega) only [go_sem,List.length_set,Nat.reduceEqDiff,Nat.reduceAdd,Nat.reduceSub,Int.reduceAdd,Int.reduceSub,Int.reduceToNat]) <;> omega,hN _ (i + 1,(⟨w.a,w.b,bag,p1,wA,wB,rA,rB,⟨k1,t1⟩,n1,q1,nsB⟩ : WorldD)) [some (0,none),some (1,none),some (2,none),some (3,none),some (4,none),some (5,none),some (6,none),some (7,none),some (8,none),some (9,none),some (10,none),some (11,none),some (12,none),some (13,none),some (14,none),some (15,none),some (16,none),some (17,none),some (18,none),some (19,none),some (20,none),some (21,none),some (22,none),some (23,none),some (24,none),some (25,none),some (26,none),some (27,none),some (28,none),some (29,none)] (⟨by omega,rfl,rfl,?_,?_⟩) (by (try dsimp only); omega) (weak_mkO (by rfl) (by rfl) ?_)⟩
        ·have e : post1 1 (⟨w.a,w.b,bag,past,wA,wB,rA,rB,⟨keys,tags⟩,nums,nsA,nsB⟩ : WorldD) x = (⟨w.a,w.b,bag,p1,wA,wB,rA,rB,⟨k1,t1⟩,n1,q1,nsB⟩ : WorldD) := by
          rw [post1,if_pos b4,heard,notes]
          dsimp only
          rw [← hkk,hoth,← hp1,← hq1,hn1]
          rfl
         rw [← e]
         exact post1_small hS
        ·have e : post1 1 (⟨w.a,w.b,bag,past,wA,wB,rA,rB,⟨keys,tags⟩,nums,nsA,nsB⟩ : WorldD) x = (⟨w.a,w.b,bag,p1,wA,wB,rA,rB,⟨k1,t1⟩,n1,q1,nsB⟩ : WorldD) := by
          rw [post1,if_pos b4,heard,notes]
          dsimp only
          rw [← hkk,hoth,← hp1,← hq1,hn1]
          rfl
         rw [← e]
         exact hu
        ·try simp (disch := omega) only [go_sem,Nat.reduceEqDiff,Nat.reduceAdd,Nat.reduceSub,Int.reduceAdd,Int.reduceSub,Int.reduceToNat]
       ·have h6 : j < (nums3 x).length := by simp only [nums3,List.length_cons,List.length_nil]; omega
        rw [foldN_step h6] at hn
        generalize hv : (nums3 x)[j] = v at hn
        have hg3 : ([[.int .i64 x.nonce],[.int .i64 x.give],[.int .i64 x.sgn]] : List (List Sc))[j]? = some (intC v) := by
         rw [← hv]
         rw [show ([[.int .i64 x.nonce],[.int .i64 x.give],[.int .i64 x.sgn]] : List (List Sc)) = (nums3 x).map intC from rfl]
         exact map_get h6
        simp only [intC] at hg3
        have hH := impl_hasInt m v hm
        have ht := numP_t (l := m) (n := v)
        have hf1 := numP_f1 (l := m) (n := v)
        have hf2 := numP_f2 (l := m) (n := v)
        have hf3 := numP_f3 (l := m) (n := v)
        have hvl : (numP m v).length ≤ 1048576 := numP_le hm
        generalize numP m v = m1 at *
        try simp (disch := omega) only [go_sem,Nat.reduceEqDiff,Nat.reduceAdd,Nat.reduceSub,Int.reduceAdd,Int.reduceSub,Int.reduceToNat,hg3]
        split <;> rename_i c1 <;> (try simp only [beq_true,beq_false,Bool.not_eq_true',Bool.not_eq_false'] at c1) <;> simp (disch := omega) only [go_sem,Nat.reduceEqDiff,Nat.reduceAdd,Nat.reduceSub,Int.reduceAdd,Int.reduceSub,Int.reduceToNat,c1] <;> (try simp only [decide_eq_true_eq,decide_eq_false_iff_not,beq_iff_eq,beq_eq_false_iff_ne,bne_iff_ne,bne_eq_false_iff_eq,ne_eq,Decidable.not_not,Bool.and_eq_true,Bool.and_eq_false_iff,Bool.or_eq_true,Bool.or_eq_false_iff,Int.ofNat_lt,Int.ofNat_le,Bool.not_eq_eq_eq_not,Bool.not_true,Bool.not_false] at c1) <;> try simp (disch := omega) only [go_sem,Nat.reduceEqDiff,Nat.reduceAdd,Nat.reduceSub,Int.reduceAdd,Int.reduceSub,Int.reduceToNat]
        ·refine den_call (by (try simp (disch := omega) only [go_sem,List.length_set,Nat.reduceEqDiff,Nat.reduceAdd,Nat.reduceSub,Int.reduceAdd,Int.reduceSub,Int.reduceToNat]) <;> omega) (hH) [some (27,none)] (by simp only [go_sem]; repeat' first | rfl | constructor | (rw [List.map_set]; rfl) | (simp [List.map_take,List.map_drop] <;> omega)) (by rfl) (run_den 400 ?_)
         simp (disch := omega) only [go_sem,Nat.reduceEqDiff,Nat.reduceAdd,Nat.reduceSub,Int.reduceAdd,Int.reduceSub,Int.reduceToNat]
         split <;> rename_i c2 <;> (try simp only [beq_true,beq_false,Bool.not_eq_true',Bool.not_eq_false'] at c2) <;> simp (disch := omega) only [go_sem,Nat.reduceEqDiff,Nat.reduceAdd,Nat.reduceSub,Int.reduceAdd,Int.reduceSub,Int.reduceToNat,c2] <;> (try simp only [decide_eq_true_eq,decide_eq_false_iff_not,beq_iff_eq,beq_eq_false_iff_ne,bne_iff_ne,bne_eq_false_iff_eq,ne_eq,Decidable.not_not,Bool.and_eq_true,Bool.and_eq_false_iff,Bool.or_eq_true,Bool.or_eq_false_iff,Int.ofNat_lt,Int.ofNat_le,Bool.not_eq_eq_eq_not,Bool.not_true,Bool.not_false] at c2) <;> try simp (disch := omega) only [go_sem,Nat.reduceEqDiff,Nat.reduceAdd,Nat.reduceSub,Int.reduceAdd,Int.reduceSub,Int.reduceToNat]
         ·split <;> rename_i c3 <;> (try simp only [beq_true,beq_false,Bool.not_eq_true',Bool.not_eq_false'] at c3) <;> simp (disch := omega) only [go_sem,Nat.reduceEqDiff,Nat.reduceAdd,Nat.reduceSub,Int.reduceAdd,Int.reduceSub,Int.reduceToNat,c3] <;> (try simp only [decide_eq_true_eq,decide_eq_false_iff_not,beq_iff_eq,beq_eq_false_iff_ne,bne_iff_ne,bne_eq_false_iff_eq,ne_eq,Decidable.not_not,Bool.and_eq_true,Bool.and_eq_false_iff,Bool.or_eq_true,Bool.or_eq_false_iff,Int.ofNat_lt,Int.ofNat_le,Bool.not_eq_eq_eq_not,Bool.not_true,Bool.not_false] at c3) <;> try simp (disch := omega) only [go_sem,Nat.reduceEqDiff,Nat.reduceAdd,Nat.reduceSub,Int.reduceAdd,Int.reduceSub,Int.reduceToNat]
          ·have e := ht c1 c2 (by omega)
           subst e
           try simp (disch := omega) only [go_sem,Nat.reduceEqDiff,Nat.reduceAdd,Nat.reduceSub,Int.reduceAdd,Int.reduceSub,Int.reduceToNat]
           refine ⟨by (try simp (disch := omega) only [go_sem,List.length_set,Nat.reduceEqDiff,Nat.reduceAdd,Nat.reduceSub,Int.reduceAdd,Int.reduceSub,Int.reduceToNat]) <;> omega,hN2 _ (j + 1,m ++ [v]) [some (0,none),some (1,none),some (2,none),some (3,none),some (4,none),some (5,none),some (6,none),some (7,none),some (8,none),some (9,none),some (10,none),some (11,none),some (12,none),some (13,none),some (14,none),some (15,none),some (16,none),some (17,none),some (18,none),some (19,none),some (20,none),some (21,none),some (22,none),some (23,none),some (24,none),some (25,none),some (26,none),some (33,none),some (28,none),some (29,none),some (30,none),some (31,none)] (by (try dsimp only); exact ⟨by omega,hvl,hn⟩) (by (try dsimp only); omega) (weak_mkO (by rfl) (by rfl) ?_)⟩
           try simp (disch := omega) only [go_sem,Nat.reduceEqDiff,Nat.reduceAdd,Nat.reduceSub,Int.reduceAdd,Int.reduceSub,Int.reduceToNat]
           try simp [intC]
          ·have e := hf3 (by omega)
           subst e
           try simp (disch := omega) only [go_sem,Nat.reduceEqDiff,Nat.reduceAdd,Nat.reduceSub,Int.reduceAdd,Int.reduceSub,Int.reduceToNat]
           refine ⟨by (try simp (disch := omega) only [go_sem,List.length_set,Nat.reduceEqDiff,Nat.reduceAdd,Nat.reduceSub,Int.reduceAdd,Int.reduceSub,Int.reduceToNat]) <;> omega,hN2 _ (j + 1,m1) [some (0,none),some (1,none),some (2,none),some (3,none),some (4,none),some (5,none),some (6,none),some (7,none),some (8,none),some (9,none),some (10,none),some (11,none),some (12,none),some (13,none),some (14,none),some (15,none),some (16,none),some (17,none),some (18,none),some (19,none),some (20,none),some (21,none),some (22,none),some (23,none),some (24,none),some (25,none),some (26,none),some (27,none),some (28,none),some (29,none),some (30,none),some (31,none)] (by (try dsimp only); exact ⟨by omega,hm,hn⟩) (by (try dsimp only); omega) (weak_mkO (by rfl) (by rfl) ?_)⟩
           try simp (disch := omega) only [go_sem,Nat.reduceEqDiff,Nat.reduceAdd,Nat.reduceSub,Int.reduceAdd,Int.reduceSub,Int.reduceToNat]
         ·have e := hf2 c2
          subst e
          try simp (disch := omega) only [go_sem,Nat.reduceEqDiff,Nat.reduceAdd,Nat.reduceSub,Int.reduceAdd,Int.reduceSub,Int.reduceToNat]
          refine ⟨by (try simp (disch := omega) only [go_sem,List.length_set,Nat.reduceEqDiff,Nat.reduceAdd,Nat.reduceSub,Int.reduceAdd,Int.reduceSub,Int.reduceToNat]) <;> omega,hN2 _ (j + 1,m1) [some (0,none),some (1,none),some (2,none),some (3,none),some (4,none),some (5,none),some (6,none),some (7,none),some (8,none),some (9,none),some (10,none),some (11,none),some (12,none),some (13,none),some (14,none),some (15,none),some (16,none),some (17,none),some (18,none),some (19,none),some (20,none),some (21,none),some (22,none),some (23,none),some (24,none),some (25,none),some (26,none),some (27,none),some (28,none),some (29,none),some (30,none),some (31,none)] (by (try dsimp only); exact ⟨by omega,hm,hn⟩) (by (try dsimp only); omega) (weak_mkO (by rfl) (by rfl) ?_)⟩
          try simp (disch := omega) only [go_sem,Nat.reduceEqDiff,Nat.reduceAdd,Nat.reduceSub,Int.reduceAdd,Int.reduceSub,Int.reduceToNat]
        ·have e := hf1 c1
         subst e
         try simp (disch := omega) only [go_sem,Nat.reduceEqDiff,Nat.reduceAdd,Nat.reduceSub,Int.reduceAdd,Int.reduceSub,Int.reduceToNat]
         refine ⟨by (try simp (disch := omega) only [go_sem,List.length_set,Nat.reduceEqDiff,Nat.reduceAdd,Nat.reduceSub,Int.reduceAdd,Int.reduceSub,Int.reduceToNat]) <;> omega,hN2 _ (j + 1,m1) [some (0,none),some (1,none),some (2,none),some (3,none),some (4,none),some (5,none),some (6,none),some (7,none),some (8,none),some (9,none),some (10,none),some (11,none),some (12,none),some (13,none),some (14,none),some (15,none),some (16,none),some (17,none),some (18,none),some (19,none),some (20,none),some (21,none),some (22,none),some (23,none),some (24,none),some (25,none),some (26,none),some (27,none),some (28,none),some (29,none),some (30,none),some (31,none)] (by (try dsimp only); exact ⟨by omega,hm,hn⟩) (by (try dsimp only); omega) (weak_mkO (by rfl) (by rfl) ?_)⟩
         try simp (disch := omega) only [go_sem,Nat.reduceEqDiff,Nat.reduceAdd,Nat.reduceSub,Int.reduceAdd,Int.reduceSub,Int.reduceToNat]
     ·obtain ⟨g1,hg1⟩ : ∃ g,g = bagP bag x := ⟨_,rfl⟩
      have e : post1 1 (⟨w.a,w.b,bag,past,wA,wB,rA,rB,⟨keys,tags⟩,nums,nsA,nsB⟩ : WorldD) x = (⟨w.a,w.b,g1,p1,wA,wB,rA,rB,⟨keys,tags⟩,nums,q1,nsB⟩ : WorldD) := by
       rw [post1,if_neg b4,notes]
       dsimp only
       rw [hoth,← hp1,← hq1,← hg1]
      rw [e] at hu
      have hS1 := post1_small (side := 1) (x := x) hS
      rw [e] at hS1
      split <;> rename_i b5 <;> (try simp only [beq_true,beq_false,Bool.not_eq_true',Bool.not_eq_false'] at b5) <;> simp (disch := omega) only [go_sem,Nat.reduceEqDiff,Nat.reduceAdd,Nat.reduceSub,Int.reduceAdd,Int.reduceSub,Int.reduceToNat,b5] <;> (try simp only [decide_eq_true_eq,decide_eq_false_iff_not,beq_iff_eq,beq_eq_false_iff_ne,bne_iff_ne,bne_eq_false_iff_eq,ne_eq,Decidable.not_not,Bool.and_eq_true,Bool.and_eq_false_iff,Bool.or_eq_true,Bool.or_eq_false_iff,Int.ofNat_lt,Int.ofNat_le,Bool.not_eq_eq_eq_not,Bool.not_true,Bool.not_false] at b5) <;> try simp (disch := omega) only [go_sem,Nat.reduceEqDiff,Nat.reduceAdd,Nat.reduceSub,Int.reduceAdd,Int.reduceSub,Int.reduceToNat]
      ·rw [bagP_t (by omega)] at hg1
       subst hg1
       refine den_draw1 [0,1,2,3,4,5,6,7,8,9,10] (by kernel_rfl) (by (try simp (disch := omega) only [go_sem,List.length_set,Nat.reduceEqDiff,Nat.reduceAdd,Nat.reduceSub,Int.reduceAdd,Int.reduceSub,Int.reduceToNat]) <;> omega) (by kernel_rfl) (runD_den 400 ?_)
       simp (disch := omega) only [go_sem,Nat.reduceEqDiff,Nat.reduceAdd,Nat.reduceSub,Int.reduceAdd,Int.reduceSub,Int.reduceToNat]
       refine ⟨by (try simp (disch := omega) only [go_sem,List.length_set,Nat.reduceEqDiff,Nat.reduceAdd,Nat.reduceSub,Int.reduceAdd,Int.reduceSub,Int.reduceToNat]) <;> omega,run_den 400 ?_⟩
       try simp (disch := omega) only [go_sem,Nat.reduceEqDiff,Nat.reduceAdd,Nat.reduceSub,Int.reduceAdd,Int.reduceSub,Int.reduceToNat]
       refine ⟨by (try simp (disch := omega) only [go_sem,List.length_set,Nat.reduceEqDiff,Nat.reduceAdd,Nat.reduceSub,Int.reduceAdd,Int.reduceSub,Int.reduceToNat]) <;> omega,hN _ (i + 1,(⟨w.a,w.b,(bag ++ [x]),p1,wA,wB,rA,rB,⟨keys,tags⟩,nums,q1,nsB⟩ : WorldD)) [some (0,none),some (1,none),some (2,none),some (3,none),some (4,none),some (5,none),some (6,none),some (7,none),some (8,none),some (9,none),some (10,none),some (11,none),some (12,none),some (13,none),some (14,none),some (15,none),some (16,none),some (17,none),some (18,none),some (19,none),some (20,none),some (21,none),some (22,none),some (32,none),some (24,none),some (25,none),some (26,none),some (27,none),some (28,none),some (29,none)] (by (try dsimp only); exact ⟨by omega,rfl,rfl,hS1,hu⟩) (by (try dsimp only); omega) (weak_mkO (by rfl) (by rfl) ?_)⟩
       try simp (disch := omega) only [go_sem,Nat.reduceEqDiff,Nat.reduceAdd,Nat.reduceSub,Int.reduceAdd,Int.reduceSub,Int.reduceToNat]
       try simp [LetterD.cs]
      ·rw [bagP_f (by omega)] at hg1
       subst hg1
       try simp (disch := omega) only [go_sem,Nat.reduceEqDiff,Nat.reduceAdd,Nat.reduceSub,Int.reduceAdd,Int.reduceSub,Int.reduceToNat]
       refine ⟨by (try simp (disch := omega) only [go_sem,List.length_set,Nat.reduceEqDiff,Nat.reduceAdd,Nat.reduceSub,Int.reduceAdd,Int.reduceSub,Int.reduceToNat]) <;> omega,hN _ (i + 1,(⟨w.a,w.b,g1,p1,wA,wB,rA,rB,⟨keys,tags⟩,nums,q1,nsB⟩ : WorldD)) [some (0,none),some (1,none),some (2,none),some (3,none),some (4,none),some (5,none),some (6,none),some (7,none),some (8,none),some (9,none),some (10,none),some (11,none),some (12,none),some (13,none),some (14,none),some (15,none),some (16,none),some (17,none),some (18,none),some (19,none),some (20,none),some (21,none),some (22,none),some (23,none),some (24,none),some (25,none),some (26,none),some (27,none),some (28,none),some (29,none)] (by (try dsimp only); exact ⟨by omega,rfl,rfl,hS1,hu⟩) (by (try dsimp only); omega) (weak_mkO (by rfl) (by rfl) ?_)⟩
       try simp (disch := omega) only [go_sem,Nat.reduceEqDiff,Nat.reduceAdd,Nat.reduceSub,Int.reduceAdd,Int.reduceSub,Int.reduceToNat]
theorem impl_post2 (w : WorldD) (l : List LetterD) (hw : SmallP2 w) (hl : l.length ≤ 1048576) : CallA Tryz.prog 72 [.sc (.pt 21 0 0),.sc (.int .i64 2),.sc (.sl 22 0 l.length)]
  (endsHp w false ++ (restHp w true ++ [some ⟨[w.cs 0],61,58,true,false⟩,some ⟨l.map LetterD.cs,19,67,false,true⟩])) (.tu [])
  (endsHp w false ++ ([none,none,none,none,none,none,none,some ⟨[(worldC (postL 2 w l) 0 1 2 3 4 5 6 7 8 9 10 11 12 13 23 24 25 26 27 28 29)],61,58,true,false⟩,some ⟨l.map LetterD.cs,19,67,false,true⟩] ++ restHp (postL 2 w l) true)) := by
 obtain ⟨R,hR⟩ : ∃ R,R = postL 2 w l := ⟨_,rfl⟩
 rw [← hR]
 have hl2 : l.length ≤ 9223372036854775807 := by omega
 refine callA_ofO Tryz.func72 (by kernel_rfl) rfl fun E hE => run_den 400 ?_
 simp (disch := omega) only [Tryz.ntmps72,Tryz.results72,go_sem,Nat.reduceEqDiff,Nat.reduceAdd,Nat.reduceSub,Int.reduceAdd,Int.reduceSub,Int.reduceToNat]
 refine den_lpO 23 hE (fun s (y : Nat × WorldD) => s.at [2,7,9,13,14,15,16,17,18,19,20,21,22,23,24,25,26,27,28,29,30,31,32,33,34,35,36,37,38,39,40,41,42,43,44,45,46,47,48,49,50,51,52,53,54,55,56,57,58,59,60,61,62,63,64,65,66,67,68,69,70,71,72,73,74,75,76,77,78,79,80,81,82,83,84,85,86,87,88,89,90,91,92,93,94,95,96,97,98,99,100,101,102,103,104,105,106,107,108,109,110,111,112,113,114,115,116,117,118,119,120,121,122,123,124,125,126,127,128,129,130,131,132,133,134,135,136,137,138,139,140,141,142,143,144,145,146,147,148,149,150,151,152,153,154,155,156,157] [(12,.sc (.int .i64 (y.1 : Nat)))] (endsHp w false ++ ([none,none,none,none,none,none,none,some ⟨[(worldC y.2 0 1 2 3 4 5 6 7 8 9 10 11 12 13 23 24 25 26 27 28 29)],61,58,true,false⟩,some ⟨l.map LetterD.cs,19,67,false,true⟩] ++ (restHp y.2 true)))) (fun (y : Nat × WorldD) => y.1 ≤ l.length ∧ y.2.a = w.a ∧ y.2.b = w.b ∧ SmallP2 y.2 ∧ R = postL 2 y.2 (l.drop y.1)) (fun (y : Nat × WorldD) => l.length - y.1) (0,w) [some (0,none),some (1,none),some (2,none),some (3,none),some (4,none),some (5,none),some (6,none),some (7,none),some (8,none),some (9,none),some (10,none),some (11,none),some (12,none),some (13,none),some (14,none),some (15,none),some (16,none),some (17,none),some (18,none),some (19,none),some (20,none),some (21,none),some (22,none),some (14,none),some (15,none),some (16,none),some (17,none),some (18,none),some (19,none),some (20,none)] (by (try simp (disch := omega) only [go_sem,List.length_set,Nat.reduceEqDiff,Nat.reduceAdd,Nat.reduceSub,Int.reduceAdd,Int.reduceSub,Int.reduceToNat]) <;> omega) (⟨Nat.zero_le _,rfl,rfl,hw,hR⟩) (weak_mkO (by rfl) (by rfl) ?_) fun y hy N hN => ?_
 ·try simp (disch := omega) only [go_sem,Nat.reduceEqDiff,Nat.reduceAdd,Nat.reduceSub,Int.reduceAdd,Int.reduceSub,Int.reduceToNat]
 ·obtain ⟨i,u⟩ := y
  obtain ⟨hi,ha,hb,hS,hu⟩ := hy
  obtain ⟨ua,ub,bag,past,wA,wB,rA,rB,known,nums,nsA,nsB⟩ := u
  obtain ⟨keys,tags⟩ := known
  dsimp only at hi ha hb hu
  subst ha hb
  have s1 := hS.bag
  have s2 := hS.past
  have s3 := hS.keys
  have s4 := hS.tags
  have s5 := hS.nums
  have s6 := hS.ansA
  have s7 := hS.ansB
  dsimp only at s1 s2 s3 s4 s5 s6 s7
  refine runS_den 21 400 ?_
  try simp (disch := omega) only [go_sem,Nat.reduceEqDiff,Nat.reduceAdd,Nat.reduceSub,Int.reduceAdd,Int.reduceSub,Int.reduceToNat,Nat.reduceBEq]
  split <;> rename_i h <;> (try simp only [decide_eq_true_eq,decide_eq_false_iff_not,Int.ofNat_lt] at h)
  rotate_left
  ·have e : i = l.length := by omega
   subst e
   rw [postL_end (Nat.le_refl _)] at hu
   subst hu
   try simp (disch := omega) only [go_sem,Nat.reduceEqDiff,Nat.reduceAdd,Nat.reduceSub,Int.reduceAdd,Int.reduceSub,Int.reduceToNat,Nat.reduceBEq]
   refine den_finO [some (0,none),some (1,none),some (2,none),some (3,none),some (4,none),some (5,none),some (6,none),some (7,none),some (8,none),some (9,none),some (10,none),some (11,none),some (12,none),some (13,none),some (14,none),some (15,none),some (16,none),some (17,none),some (18,none),some (19,none),some (20,none),some (21,none),some (22,none),some (23,none),some (24,none),some (25,none),some (26,none),some (27,none),some (28,none),some (29,none)] (by (try simp (disch := omega) only [go_sem,List.length_set,Nat.reduceEqDiff,Nat.reduceAdd,Nat.reduceSub,Int.reduceAdd,Int.reduceSub,Int.reduceToNat,Nat.reduceBEq]) <;> omega) _ (by simp only [go_sem]; rfl) (by rfl) (by rfl) ?_
   simp (disch := omega) only [go_sem,Nat.reduceEqDiff,Nat.reduceAdd,Nat.reduceSub,Int.reduceAdd,Int.reduceSub,Int.reduceToNat,Nat.reduceBEq]
  ·rw [postL_step h] at hu
   generalize hx : l[i] = x at hu
   have hget := map_get (enc := LetterD.cs) h
   rw [hx] at hget
   try simp (disch := omega) only [go_sem,Nat.reduceEqDiff,Nat.reduceAdd,Nat.reduceSub,Int.reduceAdd,Int.reduceSub,Int.reduceToNat,Nat.reduceBEq,hget]
   obtain ⟨p1,hp1⟩ : ∃ p,p = pastP past x := ⟨_,rfl⟩
   refine den_joinO 23 hE (fun s => s.at [13,14,15,16,17,18,19,20,21,22,23,24,25,26,27,28,29,30,31] [] (endsHp w false ++ ([none,none,none,none,none,none,none,some ⟨[(worldC (⟨w.a,w.b,bag,p1,wA,wB,rA,rB,⟨keys,tags⟩,nums,nsA,nsB⟩ : WorldD) 0 1 2 3 4 5 6 7 8 9 10 11 12 13 23 24 25 26 27 28 29)],61,58,true,false⟩,some ⟨l.map LetterD.cs,19,67,false,true⟩] ++ (restHp (⟨w.a,w.b,bag,p1,wA,wB,rA,rB,⟨keys,tags⟩,nums,nsA,nsB⟩ : WorldD) true ++ [some ⟨[x.cs],19,67,true,false⟩])))) (by (try simp (disch := omega) only [go_sem,List.length_set,Nat.reduceEqDiff,Nat.reduceAdd,Nat.reduceSub,Int.reduceAdd,Int.reduceSub,Int.reduceToNat,Nat.reduceBEq]) <;> omega) (by rfl) (fun N hN => run_den 401 ?_) (runS_den 34 400 ?_)
   ·try simp (disch := omega) only [go_sem,Nat.reduceEqDiff,Nat.reduceAdd,Nat.reduceSub,Int.reduceAdd,Int.reduceSub,Int.reduceToNat,Nat.reduceBEq]
    split <;> rename_i b1 <;> (try simp only [beq_true,beq_false,Bool.not_eq_true',Bool.not_eq_false'] at b1) <;> simp (disch := omega) only [go_sem,Nat.reduceEqDiff,Nat.reduceAdd,Nat.reduceSub,Int.reduceAdd,Int.reduceSub,Int.reduceToNat,Nat.reduceBEq,b1] <;> (try simp only [decide_eq_true_eq,decide_eq_false_iff_not,beq_iff_eq,beq_eq_false_iff_ne,bne_iff_ne,bne_eq_false_iff_eq,ne_eq,Decidable.not_not,Bool.and_eq_true,Bool.and_eq_false_iff,Bool.or_eq_true,Bool.or_eq_false_iff,Int.ofNat_lt,Int.ofNat_le,Bool.not_eq_eq_eq_not,Bool.not_true,Bool.not_false] at b1) <;> try simp (disch := omega) only [go_sem,Nat.reduceEqDiff,Nat.reduceAdd,Nat.reduceSub,Int.reduceAdd,Int.reduceSub,Int.reduceToNat,Nat.reduceBEq]
    ·rw [pastP_t (by omega)] at hp1
     subst hp1
     refine den_draw1 [0,1,2,3,4,5,6,7,8,9,10] (by kernel_rfl) (by (try simp (disch := omega) only [go_sem,List.length_set,Nat.reduceEqDiff,Nat.reduceAdd,Nat.reduceSub,Int.reduceAdd,Int.reduceSub,Int.reduceToNat,Nat.reduceBEq]) <;> omega) (by kernel_rfl) (runD_den 400 ?_)
     simp (disch := omega) only [go_sem,Nat.reduceEqDiff,Nat.reduceAdd,Nat.reduceSub,Int.reduceAdd,Int.reduceSub,Int.reduceToNat,Nat.reduceBEq]
     refine ⟨by (try simp (disch := omega) only [go_sem,List.length_set,Nat.reduceEqDiff,Nat.reduceAdd,Nat.reduceSub,Int.reduceAdd,Int.reduceSub,Int.reduceToNat,Nat.reduceBEq]) <;> omega,runS_den 34 400 ?_⟩
     try simp (disch := omega) only [go_sem,Nat.reduceEqDiff,Nat.reduceAdd,Nat.reduceSub,Int.reduceAdd,Int.reduceSub,Int.reduceToNat,Nat.reduceBEq]
     refine ⟨by (try simp (disch := omega) only [go_sem,List.length_set,Nat.reduceEqDiff,Nat.reduceAdd,Nat.reduceSub,Int.reduceAdd,Int.reduceSub,Int.reduceToNat,Nat.reduceBEq]) <;> omega,hN _ [some (0,none),some (1,none),some (2,none),some (3,none),some (4,none),some (5,none),some (6,none),some (7,none),some (8,none),some (9,none),some (10,none),some (11,none),some (12,none),some (13,none),some (14,none),some (15,none),some (16,none),some (17,none),some (18,none),some (19,none),some (20,none),some (21,none),some (22,none),some (23,none),some (32,none),some (25,none),some (26,none),some (27,none),some (28,none),some (29,none),some (30,none)] (weak_mkO (by rfl) (by rfl) ?_)⟩
     simp (disch := omega) only [go_sem,Nat.reduceEqDiff,Nat.reduceAdd,Nat.reduceSub,Int.reduceAdd,Int.reduceSub,Int.reduceToNat,Nat.reduceBEq]
     try simp [LetterD.cs]
    ·rw [pastP_f (by omega)] at hp1
     subst hp1
     try simp (disch := omega) only [go_sem,Nat.reduceEqDiff,Nat.reduceAdd,Nat.reduceSub,Int.reduceAdd,Int.reduceSub,Int.reduceToNat,Nat.reduceBEq]
     refine ⟨by (try simp (disch := omega) only [go_sem,List.length_set,Nat.reduceEqDiff,Nat.reduceAdd,Nat.reduceSub,Int.reduceAdd,Int.reduceSub,Int.reduceToNat,Nat.reduceBEq]) <;> omega,hN _ [some (0,none),some (1,none),some (2,none),some (3,none),some (4,none),some (5,none),some (6,none),some (7,none),some (8,none),some (9,none),some (10,none),some (11,none),some (12,none),some (13,none),some (14,none),some (15,none),some (16,none),some (17,none),some (18,none),some (19,none),some (20,none),some (21,none),some (22,none),some (23,none),some (24,none),some (25,none),some (26,none),some (27,none),some (28,none),some (29,none),some (30,none)] (weak_mkO (by rfl) (by rfl) ?_)⟩
     simp (disch := omega) only [go_sem,Nat.reduceEqDiff,Nat.reduceAdd,Nat.reduceSub,Int.reduceAdd,Int.reduceSub,Int.reduceToNat,Nat.reduceBEq]
   ·try simp (disch := omega) only [go_sem,Nat.reduceEqDiff,Nat.reduceAdd,Nat.reduceSub,Int.reduceAdd,Int.reduceSub,Int.reduceToNat,Nat.reduceBEq]
    obtain ⟨q1,hq1⟩ : ∃ q,q = ansP nsB (isJB 2 2 x) w.b.now := ⟨_,rfl⟩
    refine den_joinO 23 hE (fun s => s.at [13,14,15,16,17,18,19,20,21,22,23,24,25,26,27,28,29,30,31,32,33,34,35,36,37,38,39,40,41,42,43,44,45,46,47,48,49,50,51,52,53,54,55,56,57,58,59,60,61,62,63,64,65,66,67,68,69,70,71,72,73,74,75,76,77,78,79,80,81,82] [] (endsHp w false ++ ([none,none,none,none,none,none,none,some ⟨[(worldC (⟨w.a,w.b,bag,p1,wA,wB,rA,rB,⟨keys,tags⟩,nums,nsA,q1⟩ : WorldD) 0 1 2 3 4 5 6 7 8 9 10 11 12 13 23 24 25 26 27 28 29)],61,58,true,false⟩,some ⟨l.map LetterD.cs,19,67,false,true⟩] ++ (restHp (⟨w.a,w.b,bag,p1,wA,wB,rA,rB,⟨keys,tags⟩,nums,nsA,q1⟩ : WorldD) true ++ [some ⟨[x.cs],19,67,true,false⟩])))) (by (try simp (disch := omega) only [go_sem,List.length_set,Nat.reduceEqDiff,Nat.reduceAdd,Nat.reduceSub,Int.reduceAdd,Int.reduceSub,Int.reduceToNat]) <;> omega) (by rfl) (fun N hN => run_den 401 ?_) (run_den 400 ?_)
    ·try simp (disch := omega) only [go_sem,Nat.reduceEqDiff,Nat.reduceAdd,Nat.reduceSub,Int.reduceAdd,Int.reduceSub,Int.reduceToNat]
     split <;> rename_i b2 <;> (try simp only [beq_true,beq_false,Bool.not_eq_true',Bool.not_eq_false'] at b2) <;> simp (disch := omega) only [go_sem,Nat.reduceEqDiff,Nat.reduceAdd,Nat.reduceSub,Int.reduceAdd,Int.reduceSub,Int.reduceToNat,b2] <;> (try simp only [decide_eq_true_eq,decide_eq_false_iff_not,beq_iff_eq,beq_eq_false_iff_ne,bne_iff_ne,bne_eq_false_iff_eq,ne_eq,Decidable.not_not,Bool.and_eq_true,Bool.and_eq_false_iff,Bool.or_eq_true,Bool.or_eq_false_iff,Int.ofNat_lt,Int.ofNat_le,Bool.not_eq_eq_eq_not,Bool.not_true,Bool.not_false] at b2) <;> try simp (disch := omega) only [go_sem,Nat.reduceEqDiff,Nat.reduceAdd,Nat.reduceSub,Int.reduceAdd,Int.reduceSub,Int.reduceToNat]
     ·rw [isJB_t b2] at hq1
      split <;> rename_i b3 <;> (try simp only [beq_true,beq_false,Bool.not_eq_true',Bool.not_eq_false'] at b3) <;> simp (disch := omega) only [go_sem,Nat.reduceEqDiff,Nat.reduceAdd,Nat.reduceSub,Int.reduceAdd,Int.reduceSub,Int.reduceToNat,b3] <;> (try simp only [decide_eq_true_eq,decide_eq_false_iff_not,beq_iff_eq,beq_eq_false_iff_ne,bne_iff_ne,bne_eq_false_iff_eq,ne_eq,Decidable.not_not,Bool.and_eq_true,Bool.and_eq_false_iff,Bool.or_eq_true,Bool.or_eq_false_iff,Int.ofNat_lt,Int.ofNat_le,Bool.not_eq_eq_eq_not,Bool.not_true,Bool.not_false] at b3) <;> try simp (disch := omega) only [go_sem,Nat.reduceEqDiff,Nat.reduceAdd,Nat.reduceSub,Int.reduceAdd,Int.reduceSub,Int.reduceToNat]
      ·rw [ansP_t (by omega)] at hq1
       subst hq1
       refine den_draw1 [0,1,2,3,4,5,6,7,8,9,10,11,12,13,14] (by kernel_rfl) (by (try simp (disch := omega) only [go_sem,List.length_set,Nat.reduceEqDiff,Nat.reduceAdd,Nat.reduceSub,Int.reduceAdd,Int.reduceSub,Int.reduceToNat]) <;> omega) (by kernel_rfl) (runD_den 400 ?_)
       simp (disch := omega) only [go_sem,Nat.reduceEqDiff,Nat.reduceAdd,Nat.reduceSub,Int.reduceAdd,Int.reduceSub,Int.reduceToNat]
       refine ⟨by (try simp (disch := omega) only [go_sem,List.length_set,Nat.reduceEqDiff,Nat.reduceAdd,Nat.reduceSub,Int.reduceAdd,Int.reduceSub,Int.reduceToNat]) <;> omega,run_den 400 ?_⟩
       try simp (disch := omega) only [go_sem,Nat.reduceEqDiff,Nat.reduceAdd,Nat.reduceSub,Int.reduceAdd,Int.reduceSub,Int.reduceToNat]
       refine ⟨by (try simp (disch := omega) only [go_sem,List.length_set,Nat.reduceEqDiff,Nat.reduceAdd,Nat.reduceSub,Int.reduceAdd,Int.reduceSub,Int.reduceToNat]) <;> omega,hN _ [some (0,none),some (1,none),some (2,none),some (3,none),some (4,none),some (5,none),some (6,none),some (7,none),some (8,none),some (9,none),some (10,none),some (11,none),some (12,none),some (13,none),some (14,none),some (15,none),some (16,none),some (17,none),some (18,none),some (19,none),some (20,none),some (21,none),some (22,none),some (23,none),some (24,none),some (25,none),some (26,none),some (27,none),some (28,none),some (32,none),some (30,none)] (weak_mkO (by rfl) (by rfl) ?_)⟩
       simp (disch := omega) only [go_sem,Nat.reduceEqDiff,Nat.reduceAdd,Nat.reduceSub,Int.reduceAdd,Int.reduceSub,Int.reduceToNat]
       try simp [intC]
      ·rw [ansP_f (by omega)] at hq1
       subst hq1
       try simp (disch := omega) only [go_sem,Nat.reduceEqDiff,Nat.reduceAdd,Nat.reduceSub,Int.reduceAdd,Int.reduceSub,Int.reduceToNat]
       refine ⟨by (try simp (disch := omega) only [go_sem,List.length_set,Nat.reduceEqDiff,Nat.reduceAdd,Nat.reduceSub,Int.reduceAdd,Int.reduceSub,Int.reduceToNat]) <;> omega,hN _ [some (0,none),some (1,none),some (2,none),some (3,none),some (4,none),some (5,none),some (6,none),some (7,none),some (8,none),some (9,none),some (10,none),some (11,none),some (12,none),some (13,none),some (14,none),some (15,none),some (16,none),some (17,none),some (18,none),some (19,none),some (20,none),some (21,none),some (22,none),some (23,none),some (24,none),some (25,none),some (26,none),some (27,none),some (28,none),some (29,none),some (30,none)] (weak_mkO (by rfl) (by rfl) ?_)⟩
       simp (disch := omega) only [go_sem,Nat.reduceEqDiff,Nat.reduceAdd,Nat.reduceSub,Int.reduceAdd,Int.reduceSub,Int.reduceToNat]
     ·rw [isJB_f b2,ansP_f1] at hq1
      subst hq1
      try simp (disch := omega) only [go_sem,Nat.reduceEqDiff,Nat.reduceAdd,Nat.reduceSub,Int.reduceAdd,Int.reduceSub,Int.reduceToNat]
      refine ⟨by (try simp (disch := omega) only [go_sem,List.length_set,Nat.reduceEqDiff,Nat.reduceAdd,Nat.reduceSub,Int.reduceAdd,Int.reduceSub,Int.reduceToNat]) <;> omega,hN _ [some (0,none),some (1,none),some (2,none),some (3,none),some (4,none),some (5,none),some (6,none),some (7,none),some (8,none),some (9,none),some (10,none),some (11,none),some (12,none),some (13,none),some (14,none),some (15,none),some (16,none),some (17,none),some (18,none),some (19,none),some (20,none),some (21,none),some (22,none),some (23,none),some (24,none),some (25,none),some (26,none),some (27,none),some (28,none),some (29,none),some (30,none)] (weak_mkO (by rfl) (by rfl) ?_)⟩
      simp (disch := omega) only [go_sem,Nat.reduceEqDiff,Nat.reduceAdd,Nat.reduceSub,Int.reduceAdd,Int.reduceSub,Int.reduceToNat]
    ·try simp (disch := omega) only [go_sem,Nat.reduceEqDiff,Nat.reduceAdd,Nat.reduceSub,Int.reduceAdd,Int.reduceSub,Int.reduceToNat]
     refine den_call (by (try simp (disch := omega) only [go_sem,List.length_set,Nat.reduceEqDiff,Nat.reduceAdd,Nat.reduceSub,Int.reduceAdd,Int.reduceSub,Int.reduceToNat]) <;> omega) (impl_SideAt x.to) [] (by simp only [go_sem]; repeat' first | rfl | constructor | (rw [List.map_set]; rfl) | (simp [List.map_take,List.map_drop] <;> omega)) (by rfl) (run_den 400 ?_)
     simp (disch := omega) only [go_sem,Nat.reduceEqDiff,Nat.reduceAdd,Nat.reduceSub,Int.reduceAdd,Int.reduceSub,Int.reduceToNat]
     have hoth : ansP nsA (isJB 2 1 x) w.a.now = nsA := by rw [isJB_n (by decide),ansP_f1]
     split <;> rename_i b4 <;> (try simp only [beq_true,beq_false,Bool.not_eq_true',Bool.not_eq_false'] at b4) <;> simp (disch := omega) only [go_sem,Nat.reduceEqDiff,Nat.reduceAdd,Nat.reduceSub,Int.reduceAdd,Int.reduceSub,Int.reduceToNat,b4] <;> (try simp only [decide_eq_true_eq,decide_eq_false_iff_not,beq_iff_eq,beq_eq_false_iff_ne,bne_iff_ne,bne_eq_false_iff_eq,ne_eq,Decidable.not_not,Bool.and_eq_true,Bool.and_eq_false_iff,Bool.or_eq_true,Bool.or_eq_false_iff,Int.ofNat_lt,Int.ofNat_le,Bool.not_eq_eq_eq_not,Bool.not_true,Bool.not_false] at b4) <;> try simp (disch := omega) only [go_sem,Nat.reduceEqDiff,Nat.reduceAdd,Nat.reduceSub,Int.reduceAdd,Int.reduceSub,Int.reduceToNat]
     ·have hK := impl_Learn ⟨keys,tags⟩ x.tag (by dsimp only; omega) (by dsimp only; omega)
      have hky : (learn ⟨keys,tags⟩ x.tag).keys.length ≤ 1048576 := by rw [learn_keys]; exact s3
      have hkt : (learn ⟨keys,tags⟩ x.tag).tags.length ≤ 1048576 := learn_le s4
      obtain ⟨kk,hkk⟩ : ∃ k,k = learn ⟨keys,tags⟩ x.tag := ⟨_,rfl⟩
      rw [← hkk] at hK hky hkt
      obtain ⟨k1,t1⟩ := kk
      dsimp only at hky hkt
      refine den_draw1 [0,1,2,3,4,5,6,7,8,9,10] (by kernel_rfl) (by (try simp (disch := omega) only [go_sem,List.length_set,Nat.reduceEqDiff,Nat.reduceAdd,Nat.reduceSub,Int.reduceAdd,Int.reduceSub,Int.reduceToNat]) <;> omega) (by kernel_rfl) (runD_den 400 ?_)
      simp (disch := omega) only [go_sem,Nat.reduceEqDiff,Nat.reduceAdd,Nat.reduceSub,Int.reduceAdd,Int.reduceSub,Int.reduceToNat]
      refine den_callD (by (try simp (disch := omega) only [go_sem,List.length_set,Nat.reduceEqDiff,Nat.reduceAdd,Nat.reduceSub,Int.reduceAdd,Int.reduceSub,Int.reduceToNat]) <;> omega) (hK) [some (25,none),some (26,none)] (by simp only [go_sem]; repeat' first | rfl | constructor | (rw [List.map_set]; rfl) | (simp [List.map_take,List.map_drop] <;> omega)) (by rfl) (by rfl) (runD_den 400 ?_)
      simp (disch := omega) only [go_sem,Nat.reduceEqDiff,Nat.reduceAdd,Nat.reduceSub,Int.reduceAdd,Int.reduceSub,Int.reduceToNat]
      refine ⟨by (try simp (disch := omega) only [go_sem,List.length_set,Nat.reduceEqDiff,Nat.reduceAdd,Nat.reduceSub,Int.reduceAdd,Int.reduceSub,Int.reduceToNat]) <;> omega,run_den 400 ?_⟩
      try simp (disch := omega) only [go_sem,Nat.reduceEqDiff,Nat.reduceAdd,Nat.reduceSub,Int.reduceAdd,Int.reduceSub,Int.reduceToNat]
      obtain ⟨n1,hn1⟩ : ∃ n,n = (nums3 x).foldl numP nums := ⟨_,rfl⟩
      have hn1l : n1.length ≤ 1048576 := by rw [hn1]; exact numP_le (numP_le (numP_le s5))
      refine den_lpO 23 hE (fun s (z : Nat × List Int) => s.at [2,9,14,15,16,17,18,19,20,22,23,24,25,26,27,28,29,30,31,32,33,35,36,37,38,39,40,41,42,43,45,46,47,48,49,50,51,52,53,54,55,56,57,58,59,60,61,62,63,64,65,66,67,69,70,71,72,73,74,75,76,77,78,79,80,81,82,84,85,86,87,88,89,90,91,92,93,94,95,96,97,98,99,100,101,102,103,107,108,109,110,111,112,113,114,115,116,117,118,119,120,121,122,123,124,125,126,127,128,129,130,131,132,133,134,135,136,137,138,139,141,142,143,144,145,146,147,148,149,150,151,152,153,154,155,156,157] [(106,.sc (.int .i64 (z.1 : Nat))),(104,.sc (.sl 31 0 3))] (endsHp w false ++ ([none,none,none,none,none,none,none,some ⟨[(worldC (⟨w.a,w.b,bag,p1,wA,wB,rA,rB,⟨k1,t1⟩,z.2,nsA,q1⟩ : WorldD) 0 1 2 3 4 5 6 7 8 9 10 11 12 13 23 24 25 26 27 28 29)],61,58,true,false⟩,some ⟨l.map LetterD.cs,19,67,false,true⟩] ++ (restHp (⟨w.a,w.b,bag,p1,wA,wB,rA,rB,⟨k1,t1⟩,z.2,nsA,q1⟩ : WorldD) true ++ [some ⟨[x.cs],19,67,true,false⟩] ++ [some ⟨[[.int .i64 x.nonce],[.int .i64 x.give],[.int .i64 x.sgn]],1,3,true,true⟩])))) (fun (z : Nat × List Int) => z.1 ≤ 3 ∧ z.2.length ≤ 1048576 ∧ n1 = ((nums3 x).drop z.1).foldl numP z.2) (fun (z : Nat × List Int) => 3 - z.1) (0,nums) [some (0,none),some (1,none),some (2,none),some (3,none),some (4,none),some (5,none),some (6,none),some (7,none),some (8,none),some (9,none),some (10,none),some (11,none),some (12,none),some (13,none),some (14,none),some (15,none),some (16,none),some (17,none),some (18,none),some (19,none),some (20,none),some (21,none),some (22,none),some (23,none),some (24,none),some (31,none),some (32,none),some (27,none),some (28,none),some (29,none),some (30,none),some (33,none)] (by (try simp (disch := omega) only [go_sem,List.length_set,Nat.reduceEqDiff,Nat.reduceAdd,Nat.reduceSub,Int.reduceAdd,Int.reduceSub,Int.reduceToNat]) <;> omega) (⟨Nat.zero_le _,s5,hn1⟩) (weak_mkO (by rfl) (by rfl) ?_) fun z hz N2 hN2 => ?_
      ·try simp (disch := omega) only [go_sem,Nat.reduceEqDiff,Nat.reduceAdd,Nat.reduceSub,Int.reduceAdd,Int.reduceSub,Int.reduceToNat]
      ·obtain ⟨j,m⟩ := z
       obtain ⟨hj,hm,hn⟩ := hz
       dsimp only at hj hm hn
       refine run_den 400 ?_
       try simp (disch := omega) only [go_sem,Nat.reduceEqDiff,Nat.reduceAdd,Nat.reduceSub,Int.reduceAdd,Int.reduceSub,Int.reduceToNat]
       split <;> rename_i h5 <;> (try simp only [decide_eq_true_eq,decide_eq_false_iff_not,Int.ofNat_lt] at h5)
       rotate_left
       ·have e : j = 3 := by omega
        subst e
        rw [foldN_end (by simp [nums3])] at hn
        subst hn
        try simp (disch := omega) only [go_sem,Nat.reduceEqDiff,Nat.reduceAdd,Nat.reduceSub,Int.reduceAdd,Int.reduceSub,Int.reduceToNat]
        refine ⟨by (try simp (disch := omega) only [go_sem,List.length_set,Nat.reduceEqDiff,Nat.reduceAdd,Nat.reduceSub,Int.reduceAdd,Int.reduceSub,Int.reduceToNat]) <;> omega,hN _ (i + 1,(⟨w.a,w.b,bag,p1,wA,wB,rA,rB,⟨k1,t1⟩,n1,nsA,q1⟩ : WorldD)) [some (0,none),some (1,none),some (2,none),some (3,none),some (4,none),some (5,none),some (6,none),some (7,none),some (8,none),some (9,none),some (10,none),some (11,none),some (12,none),some (13,none),some (14,none),some (15,none),some (16,none),some (17,none),some (18,none),some (19,none),some (20,none),some (21,none),some (22,none),some (23,none),some (24,none),some (25,none),some (26,none),some (27,none),some (28,none),some (29,none)] (⟨by omega,rfl,rfl,?_,?_⟩) (by (try dsimp only); omega) (weak_mkO (by rfl) (by rfl) ?_)⟩
        ·have e : post1 2 (⟨w.a,w.b,bag,past,wA,wB,rA,rB,⟨keys,tags⟩,nums,nsA,nsB⟩ : WorldD) x = (⟨w.a,w.b,bag,p1,wA,wB,rA,rB,⟨k1,t1⟩,n1,nsA,q1⟩ : WorldD) := by
          rw [post1,if_pos b4,heard,notes]
          dsimp only
          rw [← hkk,hoth,← hp1,← hq1,hn1]
          rfl
         rw [← e]
         exact post1_small hS
        ·have e : post1 2 (⟨w.a,w.b,bag,past,wA,wB,rA,rB,⟨keys,tags⟩,nums,nsA,nsB⟩ : WorldD) x = (⟨w.a,w.b,bag,p1,wA,wB,rA,rB,⟨k1,t1⟩,n1,nsA,q1⟩ : WorldD) := by
          rw [post1,if_pos b4,heard,notes]
          dsimp only
          rw [← hkk,hoth,← hp1,← hq1,hn1]
          rfl
         rw [← e]
         exact hu
        ·try simp (disch := omega) only [go_sem,Nat.reduceEqDiff,Nat.reduceAdd,Nat.reduceSub,Int.reduceAdd,Int.reduceSub,Int.reduceToNat]
       ·have h6 : j < (nums3 x).length := by simp only [nums3,List.length_cons,List.length_nil]; omega
        rw [foldN_step h6] at hn
        generalize hv : (nums3 x)[j] = v at hn
        have hg3 : ([[.int .i64 x.nonce],[.int .i64 x.give],[.int .i64 x.sgn]] : List (List Sc))[j]? = some (intC v) := by
         rw [← hv]
         rw [show ([[.int .i64 x.nonce],[.int .i64 x.give],[.int .i64 x.sgn]] : List (List Sc)) = (nums3 x).map intC from rfl]
         exact map_get h6
        simp only [intC] at hg3
        have hH := impl_hasInt m v hm
        have ht := numP_t (l := m) (n := v)
        have hf1 := numP_f1 (l := m) (n := v)
        have hf2 := numP_f2 (l := m) (n := v)
        have hf3 := numP_f3 (l := m) (n := v)
        have hvl : (numP m v).length ≤ 1048576 := numP_le hm
        generalize numP m v = m1 at *
        try simp (disch := omega) only [go_sem,Nat.reduceEqDiff,Nat.reduceAdd,Nat.reduceSub,Int.reduceAdd,Int.reduceSub,Int.reduceToNat,hg3]
        split <;> rename_i c1 <;> (try simp only [beq_true,beq_false,Bool.not_eq_true',Bool.not_eq_false'] at c1) <;> simp (disch := omega) only [go_sem,Nat.reduceEqDiff,Nat.reduceAdd,Nat.reduceSub,Int.reduceAdd,Int.reduceSub,Int.reduceToNat,c1] <;> (try simp only [decide_eq_true_eq,decide_eq_false_iff_not,beq_iff_eq,beq_eq_false_iff_ne,bne_iff_ne,bne_eq_false_iff_eq,ne_eq,Decidable.not_not,Bool.and_eq_true,Bool.and_eq_false_iff,Bool.or_eq_true,Bool.or_eq_false_iff,Int.ofNat_lt,Int.ofNat_le,Bool.not_eq_eq_eq_not,Bool.not_true,Bool.not_false] at c1) <;> try simp (disch := omega) only [go_sem,Nat.reduceEqDiff,Nat.reduceAdd,Nat.reduceSub,Int.reduceAdd,Int.reduceSub,Int.reduceToNat]
        ·refine den_call (by (try simp (disch := omega) only [go_sem,List.length_set,Nat.reduceEqDiff,Nat.reduceAdd,Nat.reduceSub,Int.reduceAdd,Int.reduceSub,Int.reduceToNat]) <;> omega) (hH) [some (27,none)] (by simp only [go_sem]; repeat' first | rfl | constructor | (rw [List.map_set]; rfl) | (simp [List.map_take,List.map_drop] <;> omega)) (by rfl) (run_den 400 ?_)
         simp (disch := omega) only [go_sem,Nat.reduceEqDiff,Nat.reduceAdd,Nat.reduceSub,Int.reduceAdd,Int.reduceSub,Int.reduceToNat]
         split <;> rename_i c2 <;> (try simp only [beq_true,beq_false,Bool.not_eq_true',Bool.not_eq_false'] at c2) <;> simp (disch := omega) only [go_sem,Nat.reduceEqDiff,Nat.reduceAdd,Nat.reduceSub,Int.reduceAdd,Int.reduceSub,Int.reduceToNat,c2] <;> (try simp only [decide_eq_true_eq,decide_eq_false_iff_not,beq_iff_eq,beq_eq_false_iff_ne,bne_iff_ne,bne_eq_false_iff_eq,ne_eq,Decidable.not_not,Bool.and_eq_true,Bool.and_eq_false_iff,Bool.or_eq_true,Bool.or_eq_false_iff,Int.ofNat_lt,Int.ofNat_le,Bool.not_eq_eq_eq_not,Bool.not_true,Bool.not_false] at c2) <;> try simp (disch := omega) only [go_sem,Nat.reduceEqDiff,Nat.reduceAdd,Nat.reduceSub,Int.reduceAdd,Int.reduceSub,Int.reduceToNat]
         ·split <;> rename_i c3 <;> (try simp only [beq_true,beq_false,Bool.not_eq_true',Bool.not_eq_false'] at c3) <;> simp (disch := omega) only [go_sem,Nat.reduceEqDiff,Nat.reduceAdd,Nat.reduceSub,Int.reduceAdd,Int.reduceSub,Int.reduceToNat,c3] <;> (try simp only [decide_eq_true_eq,decide_eq_false_iff_not,beq_iff_eq,beq_eq_false_iff_ne,bne_iff_ne,bne_eq_false_iff_eq,ne_eq,Decidable.not_not,Bool.and_eq_true,Bool.and_eq_false_iff,Bool.or_eq_true,Bool.or_eq_false_iff,Int.ofNat_lt,Int.ofNat_le,Bool.not_eq_eq_eq_not,Bool.not_true,Bool.not_false] at c3) <;> try simp (disch := omega) only [go_sem,Nat.reduceEqDiff,Nat.reduceAdd,Nat.reduceSub,Int.reduceAdd,Int.reduceSub,Int.reduceToNat]
          ·have e := ht c1 c2 (by omega)
           subst e
           try simp (disch := omega) only [go_sem,Nat.reduceEqDiff,Nat.reduceAdd,Nat.reduceSub,Int.reduceAdd,Int.reduceSub,Int.reduceToNat]
           refine ⟨by (try simp (disch := omega) only [go_sem,List.length_set,Nat.reduceEqDiff,Nat.reduceAdd,Nat.reduceSub,Int.reduceAdd,Int.reduceSub,Int.reduceToNat]) <;> omega,hN2 _ (j + 1,m ++ [v]) [some (0,none),some (1,none),some (2,none),some (3,none),some (4,none),some (5,none),some (6,none),some (7,none),some (8,none),some (9,none),some (10,none),some (11,none),some (12,none),some (13,none),some (14,none),some (15,none),some (16,none),some (17,none),some (18,none),some (19,none),some (20,none),some (21,none),some (22,none),some (23,none),some (24,none),some (25,none),some (26,none),some (33,none),some (28,none),some (29,none),some (30,none),some (31,none)] (by (try dsimp only); exact ⟨by omega,hvl,hn⟩) (by (try dsimp only); omega) (weak_mkO (by rfl) (by rfl) ?_)⟩
           try simp (disch := omega) only [go_sem,Nat.reduceEqDiff,Nat.reduceAdd,Nat.reduceSub,Int.reduceAdd,Int.reduceSub,Int.reduceToNat]
           try simp [intC]
          ·have e := hf3 (by omega)
           subst e
           try simp (disch := omega) only [go_sem,Nat.reduceEqDiff,Nat.reduceAdd,Nat.reduceSub,Int.reduceAdd,Int.reduceSub,Int.reduceToNat]
           refine ⟨by (try simp (disch := omega) only [go_sem,List.length_set,Nat.reduceEqDiff,Nat.reduceAdd,Nat.reduceSub,Int.reduceAdd,Int.reduceSub,Int.reduceToNat]) <;> omega,hN2 _ (j + 1,m1) [some (0,none),some (1,none),some (2,none),some (3,none),some (4,none),some (5,none),some (6,none),some (7,none),some (8,none),some (9,none),some (10,none),some (11,none),some (12,none),some (13,none),some (14,none),some (15,none),some (16,none),some (17,none),some (18,none),some (19,none),some (20,none),some (21,none),some (22,none),some (23,none),some (24,none),some (25,none),some (26,none),some (27,none),some (28,none),some (29,none),some (30,none),some (31,none)] (by (try dsimp only); exact ⟨by omega,hm,hn⟩) (by (try dsimp only); omega) (weak_mkO (by rfl) (by rfl) ?_)⟩
           try simp (disch := omega) only [go_sem,Nat.reduceEqDiff,Nat.reduceAdd,Nat.reduceSub,Int.reduceAdd,Int.reduceSub,Int.reduceToNat]
         ·have e := hf2 c2
          subst e
          try simp (disch := omega) only [go_sem,Nat.reduceEqDiff,Nat.reduceAdd,Nat.reduceSub,Int.reduceAdd,Int.reduceSub,Int.reduceToNat]
          refine ⟨by (try simp (disch := omega) only [go_sem,List.length_set,Nat.reduceEqDiff,Nat.reduceAdd,Nat.reduceSub,Int.reduceAdd,Int.reduceSub,Int.reduceToNat]) <;> omega,hN2 _ (j + 1,m1) [some (0,none),some (1,none),some (2,none),some (3,none),some (4,none),some (5,none),some (6,none),some (7,none),some (8,none),some (9,none),some (10,none),some (11,none),some (12,none),some (13,none),some (14,none),some (15,none),some (16,none),some (17,none),some (18,none),some (19,none),some (20,none),some (21,none),some (22,none),some (23,none),some (24,none),some (25,none),some (26,none),some (27,none),some (28,none),some (29,none),some (30,none),some (31,none)] (by (try dsimp only); exact ⟨by omega,hm,hn⟩) (by (try dsimp only); omega) (weak_mkO (by rfl) (by rfl) ?_)⟩
          try simp (disch := omega) only [go_sem,Nat.reduceEqDiff,Nat.reduceAdd,Nat.reduceSub,Int.reduceAdd,Int.reduceSub,Int.reduceToNat]
        ·have e := hf1 c1
         subst e
         try simp (disch := omega) only [go_sem,Nat.reduceEqDiff,Nat.reduceAdd,Nat.reduceSub,Int.reduceAdd,Int.reduceSub,Int.reduceToNat]
         refine ⟨by (try simp (disch := omega) only [go_sem,List.length_set,Nat.reduceEqDiff,Nat.reduceAdd,Nat.reduceSub,Int.reduceAdd,Int.reduceSub,Int.reduceToNat]) <;> omega,hN2 _ (j + 1,m1) [some (0,none),some (1,none),some (2,none),some (3,none),some (4,none),some (5,none),some (6,none),some (7,none),some (8,none),some (9,none),some (10,none),some (11,none),some (12,none),some (13,none),some (14,none),some (15,none),some (16,none),some (17,none),some (18,none),some (19,none),some (20,none),some (21,none),some (22,none),some (23,none),some (24,none),some (25,none),some (26,none),some (27,none),some (28,none),some (29,none),some (30,none),some (31,none)] (by (try dsimp only); exact ⟨by omega,hm,hn⟩) (by (try dsimp only); omega) (weak_mkO (by rfl) (by rfl) ?_)⟩
         try simp (disch := omega) only [go_sem,Nat.reduceEqDiff,Nat.reduceAdd,Nat.reduceSub,Int.reduceAdd,Int.reduceSub,Int.reduceToNat]
     ·obtain ⟨g1,hg1⟩ : ∃ g,g = bagP bag x := ⟨_,rfl⟩
      have e : post1 2 (⟨w.a,w.b,bag,past,wA,wB,rA,rB,⟨keys,tags⟩,nums,nsA,nsB⟩ : WorldD) x = (⟨w.a,w.b,g1,p1,wA,wB,rA,rB,⟨keys,tags⟩,nums,nsA,q1⟩ : WorldD) := by
       rw [post1,if_neg b4,notes]
       dsimp only
       rw [hoth,← hp1,← hq1,← hg1]
      rw [e] at hu
      have hS1 := post1_small (side := 2) (x := x) hS
      rw [e] at hS1
      split <;> rename_i b5 <;> (try simp only [beq_true,beq_false,Bool.not_eq_true',Bool.not_eq_false'] at b5) <;> simp (disch := omega) only [go_sem,Nat.reduceEqDiff,Nat.reduceAdd,Nat.reduceSub,Int.reduceAdd,Int.reduceSub,Int.reduceToNat,b5] <;> (try simp only [decide_eq_true_eq,decide_eq_false_iff_not,beq_iff_eq,beq_eq_false_iff_ne,bne_iff_ne,bne_eq_false_iff_eq,ne_eq,Decidable.not_not,Bool.and_eq_true,Bool.and_eq_false_iff,Bool.or_eq_true,Bool.or_eq_false_iff,Int.ofNat_lt,Int.ofNat_le,Bool.not_eq_eq_eq_not,Bool.not_true,Bool.not_false] at b5) <;> try simp (disch := omega) only [go_sem,Nat.reduceEqDiff,Nat.reduceAdd,Nat.reduceSub,Int.reduceAdd,Int.reduceSub,Int.reduceToNat]
      ·rw [bagP_t (by omega)] at hg1
       subst hg1
       refine den_draw1 [0,1,2,3,4,5,6,7,8,9,10] (by kernel_rfl) (by (try simp (disch := omega) only [go_sem,List.length_set,Nat.reduceEqDiff,Nat.reduceAdd,Nat.reduceSub,Int.reduceAdd,Int.reduceSub,Int.reduceToNat]) <;> omega) (by kernel_rfl) (runD_den 400 ?_)
       simp (disch := omega) only [go_sem,Nat.reduceEqDiff,Nat.reduceAdd,Nat.reduceSub,Int.reduceAdd,Int.reduceSub,Int.reduceToNat]
       refine ⟨by (try simp (disch := omega) only [go_sem,List.length_set,Nat.reduceEqDiff,Nat.reduceAdd,Nat.reduceSub,Int.reduceAdd,Int.reduceSub,Int.reduceToNat]) <;> omega,run_den 400 ?_⟩
       try simp (disch := omega) only [go_sem,Nat.reduceEqDiff,Nat.reduceAdd,Nat.reduceSub,Int.reduceAdd,Int.reduceSub,Int.reduceToNat]
       refine ⟨by (try simp (disch := omega) only [go_sem,List.length_set,Nat.reduceEqDiff,Nat.reduceAdd,Nat.reduceSub,Int.reduceAdd,Int.reduceSub,Int.reduceToNat]) <;> omega,hN _ (i + 1,(⟨w.a,w.b,(bag ++ [x]),p1,wA,wB,rA,rB,⟨keys,tags⟩,nums,nsA,q1⟩ : WorldD)) [some (0,none),some (1,none),some (2,none),some (3,none),some (4,none),some (5,none),some (6,none),some (7,none),some (8,none),some (9,none),some (10,none),some (11,none),some (12,none),some (13,none),some (14,none),some (15,none),some (16,none),some (17,none),some (18,none),some (19,none),some (20,none),some (21,none),some (22,none),some (32,none),some (24,none),some (25,none),some (26,none),some (27,none),some (28,none),some (29,none)] (by (try dsimp only); exact ⟨by omega,rfl,rfl,hS1,hu⟩) (by (try dsimp only); omega) (weak_mkO (by rfl) (by rfl) ?_)⟩
       try simp (disch := omega) only [go_sem,Nat.reduceEqDiff,Nat.reduceAdd,Nat.reduceSub,Int.reduceAdd,Int.reduceSub,Int.reduceToNat]
       try simp [LetterD.cs]
      ·rw [bagP_f (by omega)] at hg1
       subst hg1
       try simp (disch := omega) only [go_sem,Nat.reduceEqDiff,Nat.reduceAdd,Nat.reduceSub,Int.reduceAdd,Int.reduceSub,Int.reduceToNat]
       refine ⟨by (try simp (disch := omega) only [go_sem,List.length_set,Nat.reduceEqDiff,Nat.reduceAdd,Nat.reduceSub,Int.reduceAdd,Int.reduceSub,Int.reduceToNat]) <;> omega,hN _ (i + 1,(⟨w.a,w.b,g1,p1,wA,wB,rA,rB,⟨keys,tags⟩,nums,nsA,q1⟩ : WorldD)) [some (0,none),some (1,none),some (2,none),some (3,none),some (4,none),some (5,none),some (6,none),some (7,none),some (8,none),some (9,none),some (10,none),some (11,none),some (12,none),some (13,none),some (14,none),some (15,none),some (16,none),some (17,none),some (18,none),some (19,none),some (20,none),some (21,none),some (22,none),some (23,none),some (24,none),some (25,none),some (26,none),some (27,none),some (28,none),some (29,none)] (by (try dsimp only); exact ⟨by omega,rfl,rfl,hS1,hu⟩) (by (try dsimp only); omega) (weak_mkO (by rfl) (by rfl) ?_)⟩
       try simp (disch := omega) only [go_sem,Nat.reduceEqDiff,Nat.reduceAdd,Nat.reduceSub,Int.reduceAdd,Int.reduceSub,Int.reduceToNat]
end
section
open Go.RowKit

end
section
open Go.RowKit

end
section
open Go.RowKit

end
section
open Go.RowKit

end
section
open Go.RowKit

end
section
open Go.RowKit

end
section
open Go.RowKit

end
section
open Go.RowKit

end
section
open Go.RowKit

end
section
open Go.RowKit

end
section
open Go.RowKit

theorem addrsOk_lt {l : List AddrD} (h : addrsOk l = true) : ∀ (d i : Nat) (hj : i + d + 1 < l.length),l[i].id < l[i + d + 1].id
 | 0,i,hj => by
  simp only [addrsOk,Bool.and_eq_true] at h
  have := upto_at h.2 (show i + 1 < l.length by omega)
  simp only [adOk,Bool.and_eq_true,Bool.or_eq_true,beq_iff_eq,decide_eq_true_eq,Nat.add_sub_cancel] at this
  have h1 := this.1.2
  rw [adA,adA,List.getD_eq_getElem?_getD,List.getD_eq_getElem?_getD,List.getElem?_eq_getElem (show i < l.length by omega),List.getElem?_eq_getElem (show i + 1 < l.length by omega)] at h1
  simp only [Option.getD_some] at h1
  simp only [Nat.add_zero]
  omega
 | d + 1,i,hj => by
  have h1 := addrsOk_lt h 0 i (by omega)
  have h2 := addrsOk_lt h d (i + 1) (by omega)
  simp only [Nat.add_zero] at h1
  have e : i + 1 + d + 1 = i + (d + 1) + 1 := by omega
  simp only [e] at h2
  omega
theorem addrsOk_inj {l : List AddrD} (h : addrsOk l = true) {i j : Nat} (hi : i < l.length) (hj : j < l.length) (he : l[i].id = l[j].id) : i = j := by
 rcases Nat.lt_trichotomy i j with hl | hl | hl
 ·have := addrsOk_lt h (j - i - 1) i (by omega)
  have e : i + (j - i - 1) + 1 = j := by omega
  simp only [e] at this
  omega
 ·exact hl
 ·have := addrsOk_lt h (i - j - 1) j (by omega)
  have e : j + (i - j - 1) + 1 = i := by omega
  simp only [e] at this
  omega
theorem addrAt_mem {l : List AddrD} (h : addrsOk l = true) {a : AddrD} (ha : a ∈ l) : ∃ j : Nat,∃ hj : j < l.length,addrAt l a.id = (j : Int) ∧ l[j] = a := by
 obtain ⟨i,hi,rfl⟩ := List.getElem_of_mem ha
 rcases idxOf_bd (p := fun b : AddrD => b.id == l[i].id) (l := l) with h1 | ⟨h1,h2⟩
 ·exfalso
  have hx : ∀ (m : List AddrD) (k : Nat) (b : AddrD),b ∈ m → (b.id == l[i].id) = true → idxGo (fun b : AddrD => b.id == l[i].id) k m ≠ -1 := by
   intro m
   induction m with
   | nil => intro k b hb; cases hb
   | cons c m ih =>
    intro k b hb hp
    rw [idxGo]
    split
    ·omega
    ·rename_i hc
     rcases List.mem_cons.1 hb with rfl | hb
     ·exact absurd hp hc
     ·exact ih (k + 1) b hb hp
  exact hx l 0 l[i] ha (by simp) h1
 ·obtain ⟨n,hn⟩ := Int.eq_ofNat_of_zero_le h1
  obtain ⟨hl,hp⟩ := idxOf_at hn
  have hid : l[n].id = l[i].id := by simpa using hp
  obtain rfl := addrsOk_inj h hl hi hid
  exact ⟨n,hi,hn,rfl⟩
def untold (l : List AddrD) : List AddrD := l.filter fun a => !a.told
theorem ta_f {e : EndD} (h : taOk e = false) : tellAddrs e = [] := if_neg (by simp [h])
theorem ta_t {e : EndD} {k : Nat} (h : taOk e = true) (hk : (onN e.subs).headD 0 = k) (hl : k < e.subs.length) : tellAddrs e = (untold e.own).map (addrL e e.subs[k]) := by rw [tellAddrs,if_pos h,hk,subAtN_at hl]; rfl
theorem headD_get {l : List Nat} (h : 0 < l.length) : l.headD 0 = l[0] := by cases l with | nil => simp at h | cons a r => rfl
theorem spec_UntoldOf (l : List AddrD) (hl : l.length ≤ 1048576) : CallA Tryz.prog 206 [.sc (.sl 0 0 l.length)] [some ⟨l.map AddrD.cs,4,80,false,true⟩] (.sc (.sl 1 0 (untold l).length)) [some ⟨l.map AddrD.cs,4,80,false,true⟩,some ⟨((untold l).map AddrD.id).map intC,1,3,true,true⟩] := by
 obtain ⟨R,hR⟩ : ∃ R,R = untold l := ⟨_,rfl⟩
 rw [← hR]
 rw [untold] at hR
 refine qE Tryz.func206 Tryz.ntmps206 Tryz.results206 fun E hE => ?_
 refine den_lp 1 hE (fun s (x : Nat × List AddrD) => s.at [5,6,7,8,9,10,11,12,13,14,15,16,17,18,19,20,21,22,23,24,25] [(4,.sc (.int .i64 (x.1 : Nat))),(3,.sc (.sl 1 0 x.2.length))] ((s.hp.take 1) ++ [some ⟨(x.2.map AddrD.id).map intC,1,3,true,true⟩])) (fun (x : Nat × List AddrD) => x.1 ≤ l.length ∧ x.2.length ≤ x.1 ∧ R = x.2 ++ (l.drop x.1).filter (fun a => !a.told)) (fun (x : Nat × List AddrD) => l.length - x.1) (0,[]) (qA [0,1]) (qC) (⟨Nat.zero_le _,Nat.zero_le _,hR⟩) (weak_mk (by rfl) (by rfl) ?_) fun x hx N hN => ?_
 ·exact qY
 ·obtain ⟨k,acc⟩ := x
  obtain ⟨h1,h2,h3⟩ := hx
  dsimp only at h1 h2 h3
  refine qR ?_
  refine qB (fun h => ?_) fun h => ?_
  ·rw [filt_step h] at h3
   have hg := map_get (enc := AddrD.cs) h
   try simp (disch := omega) only [go_sem,Nat.reduceEqDiff,Nat.reduceAdd,Nat.reduceSub,Int.reduceAdd,Int.reduceSub,Int.reduceToNat,hg]
   cases ht : l[k].told with
   | true =>
    rw [if_neg (by simp [ht])] at h3
    try simp (disch := omega) only [go_sem,Nat.reduceEqDiff,Nat.reduceAdd,Nat.reduceSub,Int.reduceAdd,Int.reduceSub,Int.reduceToNat,ht]
    exact qN hN (k + 1,acc) (qA [0,1]) (by (try dsimp only); exact ⟨by omega,by omega,h3⟩)
   | false =>
    rw [if_pos (by simp [ht])] at h3
    try simp (disch := omega) only [go_sem,Nat.reduceEqDiff,Nat.reduceAdd,Nat.reduceSub,Int.reduceAdd,Int.reduceSub,Int.reduceToNat,ht,hg]
    refine ⟨qC,hN _ (k + 1,acc ++ [l[k]]) (qA [0,3]) (by (try dsimp only); exact ⟨by omega,by simp; omega,by simpa using h3⟩) (by (try dsimp only); omega) (weak_mk (by rfl) (by rfl) ?_)⟩
    refine qX ?_
    simp [intC]
  ·rw [filt_end (by omega),List.append_nil] at h3
   subst h3
   exact qF (qA [0,1])
theorem endOk_addrs {e : EndD} (h : endOk e = true) : addrsOk e.own = true := by
 simp only [endOk,Bool.and_eq_true] at h
 simp_all
theorem spec_TellAddrs (e : EndD) (hs : Small e) : CallA Tryz.prog 180 [.ag (e.cs 0)] (e.hp false) (.sc (.sl 7 0 (tellAddrs e).length)) (e.hp false ++ [some ⟨(tellAddrs e).map LetterD.cs,19,67,true,true⟩]) := by
 have hN := spec_OnOf e (by have := hs.subs; omega)
 have hK := spec_EndOk e (by have := hs.own; omega) (by have := hs.far; omega) (by have := hs.subs; omega) (by have := hs.halfs; omega) (by have := hs.list; omega) (by have := hs.done; omega) (by have := hs.over; omega)
 have hown := hs.own
 have hf := ta_f (e := e)
 have ht := @ta_t e
 have hok : taOk e = (endOk e && decide (e.state = 2) && !decide ((onN e.subs).length = 0)) := rfl
 obtain ⟨R,hR⟩ : ∃ R,R = tellAddrs e := ⟨_,rfl⟩
 rw [← hR] at hf ht
 rw [← hR]
 clear hR
 refine qEO Tryz.func180 Tryz.ntmps180 Tryz.results180 fun E hE => ?_
 refine qK (hN) (qA [0,1,2,3,4,5,6]) ?_
 refine qK (hK) (qA [0,1,2,3,4,5,6]) ?_
 refine qB (fun h1 => ?_) fun h1 => ?_
 ·refine qB (fun h2 => ?_) fun h2 => ?_
  ·by_cases h3 : (onN e.subs).length = 0
   ·rw [hf (by rw [hok]; simp [h3])]
    try simp (disch := omega) only [go_sem,Nat.reduceEqDiff,Nat.reduceAdd,Nat.reduceSub,Int.reduceAdd,Int.reduceSub,Int.reduceToNat,h3]
    exact qFO (qA [0,1,2,3,4,5,6,8])
   ·have hpos : 0 < (onN e.subs).length := by omega
    have hk := onN_lt hpos
    have hR := ht (by rw [hok]; simp [h1,h2,h3]) (headD_get hpos) hk
    have hgo := map_get (enc := natC) hpos
    generalize hk0 : (onN e.subs)[0] = k0 at *
    have hgs := map_get (enc := SubD.cs) hk
    generalize hss : e.subs[k0] = s0 at *
    refine qX ?_
    refine qD [0,1,2,3,4,5,6,7,8] ?_
    try simp (disch := omega) only [go_sem,Nat.reduceEqDiff,Nat.reduceAdd,Nat.reduceSub,Int.reduceAdd,Int.reduceSub,Int.reduceToNat,hgo,hk0,natC,hgs,hss]
    refine qG ?_
    have hU := spec_UntoldOf e.own hown
    have hul : (untold e.own).length ≤ e.own.length := List.length_filter_le _ _
    have hmem : ∀ a ∈ untold e.own,a ∈ e.own := fun a ha => (List.mem_filter.1 ha).1
    generalize untold e.own = U at *
    refine qK (hU) (qA [0]) ?_
    refine den_lpO 7 hE (fun s (y : Nat × List LetterD) => s.at [0,4,8,9,10,11,12,13,14,15,16,17,18,19,20,21,22,23,24,25,26,27,28,29,30,31,32,33,34,35,36,37,38,39,40,41,42,43,44,45,46,47,48,49,50,51,52,53,54,55,56,57,58,59,60,61,62,63,64,65,66,67,68,69,70,71,72,73,74,75,76] [(7,.sc (.int .i64 (y.1 : Nat))),(5,.sc (.pt 9 0 0)),(6,.sc (.sl 10 0 U.length)),(3,.sc (.sl 11 0 y.2.length))] ((s.hp.take 8) ++ (((s.hp.drop 9).take 3) ++ [some ⟨y.2.map LetterD.cs,19,67,true,true⟩]))) (fun (y : Nat × List LetterD) => y.1 ≤ U.length ∧ y.2.length ≤ y.1 ∧ R = y.2 ++ (U.drop y.1).map (addrL e s0)) (fun (y : Nat × List LetterD) => U.length - y.1) (0,[]) (qA [0,1,2,3,4,5,6,7,9,10,11,8]) (qC) (⟨Nat.zero_le _,Nat.zero_le _,hR⟩) (weak_mkO (by rfl) (by rfl) ?_) fun y hy N hN => ?_
    ·exact qY
    ·obtain ⟨i,l⟩ := y
     obtain ⟨g1,g2,g3⟩ := hy
     dsimp only at g1 g2 g3
     refine qR ?_
     refine qB (fun b => ?_) fun b => ?_
     ·rw [List.drop_eq_getElem_cons b,List.map_cons] at g3
      have hbl : i < (U.map AddrD.id).length := by simpa using b
      have hg := map_get (enc := intC) hbl
      rw [List.getElem_map] at hg
      obtain ⟨j,hj,hat,hja⟩ := addrAt_mem (endOk_addrs h1) (hmem U[i] (List.getElem_mem b))
      have hA := spec_AddrAt e.own U[i].id hown
      rw [hat] at hA
      have hgj := map_get (enc := AddrD.cs) hj
      rw [hja] at hgj
      generalize hae : U[i] = a at *
      simp only [intC] at hg
      have hel : e.own[j] = a := hja
      refine qX ?_
      refine den_drawX [(8,11),(11,9),(11,10)] [(8,9),(9,10)] [[0,1,2,3,4,5,6,7,8,11,9,10,12],[0,1,2,3,4,5,6,7,8,9,11,10,12],[0,1,2,3,4,5,6,7,8,9,10,11,12],[0,1,2,3,4,5,6,7,11,8,9,10,12]] 7 hE (fun s => s.at [42,43,44,45,46,47,48,49,50,51,52] [(8,.sc (.pt 12 0 0))] (s.hp ++ [some ⟨[a.cs],4,80,true,false⟩])) (by kernel_rfl) (qC) (by kernel_rfl) ?_ (run_den 400 ?_)
      rotate_left
      rotate_right
      simp only [allDn]
      refine ⟨runD_den 400 ?_,runD_den 400 ?_,runD_den 400 ?_,runD_den 400 ?_⟩
      ·simp (disch := omega) only [go_sem,hg,hae]
       refine qKD (hA) (qA [0]) ?_
       simp (disch := omega) only [go_sem,hgj,hel]
       refine ⟨by (try simp (disch := omega) only [go_sem,List.length_set,Nat.reduceEqDiff,Nat.reduceAdd,Nat.reduceSub,Int.reduceAdd,Int.reduceSub,Int.reduceToNat,hgj,hel]) <;> omega,(qA [0,1,2,3,4,5,6,7,8,9,10,11,12]),weak_mkO (by rfl) (by rfl) ?_⟩
       try simp (disch := omega) only [go_sem,Nat.reduceEqDiff,Nat.reduceAdd,Nat.reduceSub,Int.reduceAdd,Int.reduceSub,Int.reduceToNat]
      ·simp (disch := omega) only [go_sem,hg,hae]
       refine qKD (hA) (qA [0]) ?_
       simp (disch := omega) only [go_sem,hgj,hel]
       refine ⟨by (try simp (disch := omega) only [go_sem,List.length_set,Nat.reduceEqDiff,Nat.reduceAdd,Nat.reduceSub,Int.reduceAdd,Int.reduceSub,Int.reduceToNat,hgj,hel]) <;> omega,(qA [0,1,2,3,4,5,6,7,8,9,10,11,12]),weak_mkO (by rfl) (by rfl) ?_⟩
       try simp (disch := omega) only [go_sem,Nat.reduceEqDiff,Nat.reduceAdd,Nat.reduceSub,Int.reduceAdd,Int.reduceSub,Int.reduceToNat]
      ·simp (disch := omega) only [go_sem,hg,hae]
       refine qKD (hA) (qA [0]) ?_
       simp (disch := omega) only [go_sem,hgj,hel]
       refine ⟨by (try simp (disch := omega) only [go_sem,List.length_set,Nat.reduceEqDiff,Nat.reduceAdd,Nat.reduceSub,Int.reduceAdd,Int.reduceSub,Int.reduceToNat,hgj,hel]) <;> omega,(qA [0,1,2,3,4,5,6,7,8,9,10,11,12]),weak_mkO (by rfl) (by rfl) ?_⟩
       try simp (disch := omega) only [go_sem,Nat.reduceEqDiff,Nat.reduceAdd,Nat.reduceSub,Int.reduceAdd,Int.reduceSub,Int.reduceToNat]
      ·simp (disch := omega) only [go_sem,hg,hae]
       refine qKD (hA) (qA [0]) ?_
       simp (disch := omega) only [go_sem,hgj,hel]
       refine ⟨by (try simp (disch := omega) only [go_sem,List.length_set,Nat.reduceEqDiff,Nat.reduceAdd,Nat.reduceSub,Int.reduceAdd,Int.reduceSub,Int.reduceToNat,hgj,hel]) <;> omega,(qA [0,1,2,3,4,5,6,7,8,9,10,11,12]),weak_mkO (by rfl) (by rfl) ?_⟩
       try simp (disch := omega) only [go_sem,Nat.reduceEqDiff,Nat.reduceAdd,Nat.reduceSub,Int.reduceAdd,Int.reduceSub,Int.reduceToNat]
      refine qX ?_
      refine qD [0,1,2,3,4,5,6,7,8,9,10,11,12,13,14,15,16,17,18,19,20,21,22,23,24] ?_
      refine qKD (spec_TagAddr e.key e.peer a.id a.addr) [] ?_
      refine qKD (spec_Between s0.road { letNone with kind := 8,tag := ⟨3,e.key,e.peer,a.id,a.addr⟩,sgn := s0.give,id := a.id,addr := a.addr,spare := a.spare }) [] ?_
      refine qG ?_
      refine ⟨qC,hN _ (i + 1,l ++ [addrL e s0 a]) (qA [0,1,2,3,4,5,6,7,8,9,10,14]) (by (try dsimp only); exact ⟨by omega,by simp; omega,by simpa using g3⟩) (by (try dsimp only); omega) (weak_mkO (by rfl) (by rfl) ?_)⟩
      refine qX ?_
      rw [List.map_append]
      rfl
     ·rw [List.drop_eq_nil_of_le (by omega),List.map_nil,List.append_nil] at g3
      subst g3
      refine qX ?_
      exact qFO (qA [0,1,2,3,4,5,6,11])
  ·rw [hf (by rw [hok]; simp [h2])]
   refine qX ?_
   exact qFO (qA [0,1,2,3,4,5,6,8])
 ·rw [hf (by rw [hok]; simp [h1])]
  refine qX ?_
  exact qFO (qA [0,1,2,3,4,5,6,8])
end
section
open Go.RowKit

def stepN {α : Type} (f : α → α) (l : List α) (k : Nat) : List α := (l.take k).map f ++ l.drop k
theorem stepN_len {α : Type} {f : α → α} {l : List α} {k : Nat} : (stepN f l k).length = l.length := by simp [stepN]; omega
theorem stepN_at {α : Type} {f : α → α} {l : List α} {k : Nat} (h : k < l.length) : (stepN f l k)[k]? = some l[k] := by
 have h1 : ((l.take k).map f).length = k := by simp; omega
 rw [stepN,List.getElem?_append_right (by omega),List.drop_eq_getElem_cons h,h1]
 simp
theorem stepN_get {α : Type} {f : α → α} {l : List α} {k : Nat} (h : k < l.length) : ∀ p : k < (stepN f l k).length,(stepN f l k)[k]'p = l[k] := by
 intro p
 have hq := stepN_at (f := f) h
 rw [List.getElem?_eq_getElem p] at hq
 exact Option.some.inj hq
theorem stepN_set {α : Type} {f : α → α} {l : List α} {k : Nat} (h : k < l.length) : (stepN f l k).set k (f l[k]) = stepN f l (k + 1) := by
 have h1 : ((l.take k).map f).length = k := by simp; omega
 rw [stepN,stepN,List.set_append_right _ _ (by omega),List.take_succ_eq_append_getElem h,List.map_append,h1]
 simp
 rw [List.drop_eq_getElem_cons h]
 rfl
theorem stepN_same {α : Type} {f : α → α} {l : List α} {k : Nat} (h : k < l.length) (hs : f l[k] = l[k]) : stepN f l (k + 1) = stepN f l k := by
 rw [stepN,stepN,List.take_succ_eq_append_getElem h,List.map_append,List.drop_eq_getElem_cons h]
 simp [hs]
theorem stepN_zero {α : Type} {f : α → α} {l : List α} : stepN f l 0 = l := by simp [stepN]
theorem stepN_all {α : Type} {f : α → α} {l : List α} : stepN f l l.length = l.map f := by simp [stepN]
theorem do_f {e : EndD} {n : Int} (h : doOk e n = false) : dropOwn e n = (e,[]) := if_neg (by simp [h])
theorem do_t {e : EndD} {n : Int} {i : Nat} (h : doOk e n = true) (hi : addrAt e.own n = (i : Int)) (hl : i < e.own.length) :
  dropOwn e n = ({ e with own := (dropAddr e.own n).1,done := putI e.done n,subs := e.subs.map (goneO e.own[i].addr) },(onN (e.subs.map (goneO e.own[i].addr))).map fun k => goneL n (subAtN (e.subs.map (goneO e.own[i].addr)) k)) := by
 rw [dropOwn,if_pos h,dropSubs,hi,Int.toNat_natCast,adAtN_at hl]
theorem endOk_done {e : EndD} (h : endOk e = true) : e.done.length ≤ 256 := (endOk_ids h).1
theorem spec_DropOwn (e : EndD) (n : Int) (hs : Small e) : CallA Tryz.prog 191 [.ag (e.cs 0),.sc (.int .i64 n)] (e.hp false) (.tu [.ag ((dropOwn e n).1.cs 7),.sc (.sl 14 0 (dropOwn e n).2.length)])
  (e.hp false ++ ((dropOwn e n).1.hp true ++ [some ⟨(dropOwn e n).2.map LetterD.cs,19,67,true,true⟩])) := by
 have hC := spec_l17Copy e (by have := hs.own; omega) (by have := hs.far; omega) (by have := hs.subs; omega) (by have := hs.halfs; omega) (by have := hs.list; omega) (by have := hs.done; omega) (by have := hs.over; omega)
 have hK := spec_EndOk e (by have := hs.own; omega) (by have := hs.far; omega) (by have := hs.subs; omega) (by have := hs.halfs; omega) (by have := hs.list; omega) (by have := hs.done; omega) (by have := hs.over; omega)
 have hA := spec_AddrAt e.own n (by have := hs.own; omega)
 have hD := spec_DropAddr e.own n (by have := hs.own; omega)
 have hsb := hs.subs
 have hso := hs.own
 have hbd := addrAt_bd e.own n
 have hf := do_f (e := e) (n := n)
 have ht := @do_t e n
 have hok : doOk e n = (endOk e && decide (e.state = 2) && decide (0 ≤ addrAt e.own n)) := rfl
 obtain ⟨R,hR⟩ : ∃ R,R = dropOwn e n := ⟨_,rfl⟩
 rw [← hR] at hf ht
 rw [← hR]
 clear hR
 refine qEO Tryz.func191 Tryz.ntmps191 Tryz.results191 fun E hE => ?_
 refine qK (hC) (qA [0,1,2,3,4,5,6]) ?_
 refine qK (hA) (qA [0]) ?_
 rcases hbd with hi0 | ⟨hi0,hi1⟩
 ·rw [hf (by rw [hok,hi0]; simp)]
  rw [hi0]
  refine qX ?_
  refine qK (hK) (qA [0,1,2,3,4,5,6]) ?_
  refine qB (fun h1 => ?_) fun h1 => ?_
  ·refine qB (fun h2 => ?_) fun h2 => ?_
   ·refine qX ?_
    exact qFO (qA [0,1,2,3,4,5,6,9,10,11,12,13,14,15,17])
   ·refine qX ?_
    exact qFO (qA [0,1,2,3,4,5,6,9,10,11,12,13,14,15,17])
  ·refine qX ?_
   exact qFO (qA [0,1,2,3,4,5,6,9,10,11,12,13,14,15,17])
 ·obtain ⟨i,hi⟩ := Int.eq_ofNat_of_zero_le hi0
  have hil : i < e.own.length := by omega
  rw [hi]
  refine qX ?_
  refine qK (hK) (qA [0,1,2,3,4,5,6]) ?_
  refine qB (fun h1 => ?_) fun h1 => ?_
  ·refine qB (fun h2 => ?_) fun h2 => ?_
   ·have hR := ht (by rw [hok,h1,h2,hi]; simp) hi hil
    have hdl : (dropAddr e.own n).1.length ≤ e.own.length := by rw [dropAddr_t hi]; simp; omega
    have hgo := map_get (enc := AddrD.cs) hil
    generalize hv : e.own[i].addr = v at hR
    try simp (disch := omega) only [go_sem,Nat.reduceEqDiff,Nat.reduceAdd,Nat.reduceSub,Int.reduceAdd,Int.reduceSub,Int.reduceToNat,hgo,hv]
    refine qK (spec_l17Put e.done n (by have := endOk_done h1; omega)) (qA [5]) ?_
    refine qK (hD) (qA [0]) ?_
    refine den_lpO 7 hE (fun s (k : Nat) => s.at [0,13,14,15,16,17,18,19,20,21,22,23,24,25,26,27,28,29,30,31,32,33,34,35,36,37,38,39,40,41,42,43,44,45,46,47,48,49,50,51,52,53,54,55,56,57,58,59,60,61,62,63,64,65,66,67,68,69,70,71,72] [(9,.sc (.int .i64 (k : Nat)))] (s.hp.set 11 (some ⟨(stepN (goneO v) e.subs k).map SubD.cs,10,78,true,true⟩))) (fun (k : Nat) => k ≤ e.subs.length) (fun (k : Nat) => e.subs.length - k) 0 (qA [0,1,2,3,4,5,6,7,8,9,10,11,12,13,14,15,16,17,18,19]) (qC) (Nat.zero_le _) (weak_mkO (by rfl) (by rfl) ?_) fun k hk N hN => ?_
    ·refine qX ?_
     rw [stepN_zero]
    ·refine run_den 400 ?_
     have hgl : (stepN (goneO v) e.subs k).length = e.subs.length := stepN_len
     refine qX ?_
     refine qB (fun h => ?_) fun h => ?_
     ·have hg := stepN_get (f := goneO v) h
      try simp (disch := omega) only [go_sem,Nat.reduceEqDiff,Nat.reduceAdd,Nat.reduceSub,Int.reduceAdd,Int.reduceSub,Int.reduceToNat,hg]
      refine qD [0,1,2,3,4,5,6,7,8,9,10,11,12,13] ?_
      refine ⟨qC,run_den 400 ?_⟩
      try simp (disch := omega) only [go_sem,Nat.reduceEqDiff,Nat.reduceAdd,Nat.reduceSub,Int.reduceAdd,Int.reduceSub,Int.reduceToNat,hg,hgo,hv]
      refine qB (fun h9 => ?_) fun h9 => ?_
      ·refine qX ?_
       refine ⟨qC,hN _ (k + 1) (qA [0,1,2,3,4,5,6,7,8,9,10,11,12,13,14,15,16,17,18,19]) (by (try dsimp only); exact by omega) (by (try dsimp only); omega) (weak_mkO (by rfl) (by rfl) ?_)⟩
       refine qX ?_
       rw [← stepN_set h,List.map_set]
       simp [goneO,h9,hg,SubD.cs]
      ·refine qX ?_
       refine ⟨qC,hN _ (k + 1) (qA [0,1,2,3,4,5,6,7,8,9,10,11,12,13,14,15,16,17,18,19]) (by (try dsimp only); exact by omega) (by (try dsimp only); omega) (weak_mkO (by rfl) (by rfl) ?_)⟩
       refine qX ?_
       rw [stepN_same h (by rw [goneO,if_neg h9])]
     ·have hkl : k = e.subs.length := by omega
      subst hkl
      rw [stepN_all]
      have hdl2 : (e.subs.map (goneO v)).length ≤ 1048576 := by rw [List.length_map]; exact hsb
      have hO := spec_OnOf { e with own := (dropAddr e.own n).1,done := putI e.done n,subs := e.subs.map (goneO v) } hdl2
      have hlen : (e.subs.map (goneO v)).length = e.subs.length := List.length_map ..
      generalize hDD : e.subs.map (goneO v) = D at *
      clear hDD
      rw [← hlen]
      refine qX ?_
      refine qK (hO) (qA [19,10,11,12,13,18,15]) ?_
      have honl := onN_len D
      refine den_lpO 7 hE (fun s (y : Nat × List LetterD) => s.at [0,2,8,9,12,13,14,15,16,17,18,19,20,21,22,23,24,25,26,27,28,29,30,31,32,33,34,35,36,37,38,39,40,41,42,43,44,45,46,47,48,49,50,51,52,53,54,55,56,57,58,59,60,61,62,63,64,65,66,67,68,69,70,71,72,73,74,75,76,77,78,79,80,81,82,83,84,85,86,87,88,89,90,91,92,93,94,95,96,97,98] [(11,.sc (.int .i64 (y.1 : Nat))),(7,.sc (.sl 17 0 y.2.length))] (s.hp.set 17 (some ⟨y.2.map LetterD.cs,19,67,true,true⟩))) (fun (y : Nat × List LetterD) => y.1 ≤ (onN D).length ∧ y.2.length ≤ y.1 ∧ R = ({ e with own := (dropAddr e.own n).1,done := putI e.done n,subs := D },y.2 ++ ((onN D).drop y.1).map fun k => goneL n (subAtN D k))) (fun (y : Nat × List LetterD) => (onN D).length - y.1) (0,[]) (qA [0,1,2,3,4,5,6,7,8,9,10,11,12,13,14,15,16,17,18,19,20]) (qC) (⟨Nat.zero_le _,Nat.zero_le _,hR⟩) (weak_mkO (by rfl) (by rfl) ?_) fun y hy N2 hN2 => ?_
      ·exact qY
      ·obtain ⟨q,l⟩ := y
       obtain ⟨g1,g2,g3⟩ := hy
       dsimp only at g1 g2 g3
       refine qR ?_
       refine qB (fun b => ?_) fun b => ?_
       ·have hkq := onN_lt b
        rw [List.drop_eq_getElem_cons b,List.map_cons] at g3
        have hgq := map_get (enc := natC) b
        generalize hk0 : (onN D)[q] = k0 at *
        rw [subAtN_at hkq] at g3
        have hgs := map_get (enc := SubD.cs) hkq
        generalize hss : D[k0] = s0 at *
        have hB := spec_Between s0.road { letNone with kind := 10,sgn := s0.give,id := n }
        refine qX ?_
        refine qD [0,1,2,3,4,5,6,7,8,9] ?_
        try simp (disch := omega) only [go_sem,Nat.reduceEqDiff,Nat.reduceAdd,Nat.reduceSub,Int.reduceAdd,Int.reduceSub,Int.reduceToNat,hgq,hk0,natC,hgs,hss]
        refine qG ?_
        refine qK (hB) [] ?_
        refine ⟨qC,hN2 _ (q + 1,l ++ [goneL n s0]) (qA [0,1,2,3,4,5,6,7,8,9,10,11,12,13,14,15,16,23,18,19,20]) (by (try dsimp only); exact ⟨by omega,by simp; omega,by simpa using g3⟩) (by (try dsimp only); omega) (weak_mkO (by rfl) (by rfl) ?_)⟩
        refine qX ?_
        rw [List.map_append]
        rfl
       ·rw [List.drop_eq_nil_of_le (by omega),List.map_nil,List.append_nil] at g3
        subst g3
        refine qX ?_
        exact qFO (qA [0,1,2,3,4,5,6,19,10,11,12,13,18,15,17])
   ·rw [hf (by rw [hok]; simp [h2])]
    refine qX ?_
    exact qFO (qA [0,1,2,3,4,5,6,9,10,11,12,13,14,15,17])
  ·rw [hf (by rw [hok]; simp [h1])]
   refine qX ?_
   exact qFO (qA [0,1,2,3,4,5,6,9,10,11,12,13,14,15,17])
end
section
open Go.RowKit

theorem allD_step {α : Type} {p : α → Bool} {l : List α} {k : Nat} (h : k < l.length) : (l.drop k).all p = (p l[k] && (l.drop (k + 1)).all p) := by
 rw [List.drop_eq_getElem_cons h,List.all_cons]
theorem flatD_step {α β : Type} {f : α → List β} {l : List α} {k : Nat} (h : k < l.length) : (l.drop k).flatMap f = f l[k] ++ (l.drop (k + 1)).flatMap f := by
 rw [List.drop_eq_getElem_cons h,List.flatMap_cons]
theorem tickL_one (e : EndD) (s : SubD) : (tickL e s).length ≤ 1 := by
 rw [tickL]; split
 ·split
  ·simp
  ·split
   ·simp
   ·split <;> simp
 ·simp
theorem flat_le {α β : Type} {f : α → List β} (hf : ∀ a,(f a).length ≤ 1) : ∀ (l : List α),(l.flatMap f).length ≤ l.length
 | [] => by simp
 | a :: l => by
  have h1 := hf a
  have h2 := flat_le hf l
  rw [List.flatMap_cons,List.length_append,List.length_cons]
  omega
theorem younger_le (l : List HalfD) (n : Int) : (younger l n).length ≤ l.length := List.length_filter_le _ _
theorem tellAddrs_le (e : EndD) : (tellAddrs e).length ≤ e.own.length := by
 rw [tellAddrs]; split
 ·rw [List.length_map]; exact List.length_filter_le _ _
 ·simp
theorem endOk_sub {e : EndD} (h : endOk e = true) {k : Nat} (hk : k < e.subs.length) : 1 ≤ e.subs[k].state ∧ e.subs[k].state ≤ 4 ∧ 0 ≤ e.subs[k].tries ∧ e.subs[k].tries ≤ 1000000000 := by
 have h1 : upto (suOk e.subs) e.subs.length = true := by
  simp only [endOk,Bool.and_eq_true] at h
  simp_all
 have h2 := upto_at h1 hk
 simp only [suOk,subAtN_at hk,inR,isN,List.all_cons,List.all_nil,Bool.and_eq_true,decide_eq_true_eq] at h2
 omega
theorem tick_f {e : EndD} (h : tkE e = false) : tick e = (e,[]) := if_neg (by simp [h])
theorem tick_o {e : EndD} (h : tkE e = true) (h2 : e.state = 2) : tick e = tickEnd { tick0 e with subs := e.subs.map tickS } (e.subs.flatMap (tickL e)) := by rw [tick,if_pos h,if_pos h2]
theorem tick_i {e : EndD} (h : tkE e = true) (h2 : ¬ e.state = 2) : tick e = tickEnd (tick0 e) [] := by rw [tick,if_pos h,if_neg h2]
theorem tick_u {e : EndD} {tk : SubD → SubD} {tl : SubD → List LetterD} (h : tkE e = true) (h1 : tk = fun s => if e.state = 2 then tickS s else s) (h2 : tl = fun s => if e.state = 2 then tickL e s else []) :
  tick e = tickEnd { e with now := e.now + 1,bucket := filled e.bucket,halfs := younger e.halfs (e.now + 1),out := anew e.out,subs := e.subs.map tk } (e.subs.flatMap tl) := by
 by_cases hs : e.state = 2
 ·have a1 : tk = tickS := by rw [h1]; funext s; exact if_pos hs
  have a2 : tl = tickL e := by rw [h2]; funext s; exact if_pos hs
  rw [tick_o h hs,a1,a2]; rfl
 ·have a1 : tk = fun s => s := by rw [h1]; funext s; exact if_neg hs
  have a2 : tl = fun s => [] := by rw [h2]; funext s; exact if_neg hs
  have e1 : e.subs.flatMap (fun s : SubD => ([] : List LetterD)) = [] := by simp
  have e2 : e.subs.map (fun s : SubD => s) = e.subs := by simp
  rw [tick_i h hs,a1,a2,e1,e2]; rfl
theorem stepN_id {f : SubD → SubD} (h : ∀ s,f s = s) (l : List SubD) (k : Nat) : stepN f l k = l := by
 have hf : f = fun s => s := funext h
 rw [stepN,hf]; simp
theorem tickS_same {s : SubD} (h : ¬ (s.state = 1 ∨ s.state = 2)) : tickS s = s := if_neg h
theorem tickL_none {e : EndD} {s : SubD} (h : ¬ (s.state = 1 ∨ s.state = 2)) : tickL e s = [] := if_neg h
theorem tickS_gone {s : SubD} (h : s.state = 2) (h2 : 9 ≤ s.tries + 1) : tickS s = { s with tries := s.tries + 1,state := 4 } := by rw [tickS,if_pos (.inr h),if_pos ⟨h,h2⟩]
theorem tickL_gone {e : EndD} {s : SubD} (h : s.state = 2) (h2 : 9 ≤ s.tries + 1) : tickL e s = [] := by rw [tickL,if_pos (.inr h),if_pos ⟨h,h2⟩]
theorem tickS_on {s : SubD} (h : s.state = 1 ∨ s.state = 2) (h2 : ¬ (s.state = 2 ∧ 9 ≤ s.tries + 1)) : tickS s = { s with tries := s.tries + 1 } := by rw [tickS,if_pos h,if_neg h2]
theorem tickL_wait {e : EndD} {s : SubD} (h : s.state = 1 ∨ s.state = 2) (h2 : ¬ (s.state = 2 ∧ 9 ≤ s.tries + 1)) (h3 : ¬ (s.tries + 1).tmod 3 = 0) : tickL e s = [] := by rw [tickL,if_pos h,if_neg h2,if_pos h3]
theorem tickL_ask {e : EndD} {s : SubD} (h : s.state = 1) (h3 : (s.tries + 1).tmod 3 = 0) : tickL e s = [joinL' e s] := by rw [tickL,if_pos (.inl h),if_neg (by omega),if_neg (by simp [h3]),if_pos h]
theorem tickL_prove {e : EndD} {s : SubD} (h : s.state = 2) (h2 : ¬ 9 ≤ s.tries + 1) (h3 : (s.tries + 1).tmod 3 = 0) : tickL e s = [doneLetter e s] := by rw [tickL,if_pos (.inr h),if_neg (by omega),if_neg (by simp [h3]),if_neg (by omega)]
end
section
open Go.RowKit

def nums4 (x : LetterD) : List Int := [x.key,x.nonce,x.give,x.sgn]
def okNum (w : WorldD) (n : Int) : Bool := decide (n < 1000) || hasI w.nums n
theorem mayInject_eq (w : WorldD) (x : LetterD) : mayInject w x = (letOk x && !decide (sideAt x.to = 0) && canMake w.known x.tag && (nums4 x).all (okNum w)) := rfl
theorem spec_MayInject (w : WorldD) (x : LetterD) (h0 : w.known.keys.length ≤ 1048576) (h1 : w.known.tags.length ≤ 1048576) (h2 : w.nums.length ≤ 1048576) : CallA Tryz.prog 168 [.ag (w.cs 0),.ag x.cs] (w.hp false) (.sc (.bo (mayInject w x))) (w.hp false) := by
 have hL := spec_LetterOk x
 have hS := spec_SideAt x.to
 have hK := spec_CanMake w.known x.tag h0 h1
 obtain ⟨R,hR⟩ : ∃ R,R = mayInject w x := ⟨_,rfl⟩
 rw [← hR]
 rw [mayInject_eq] at hR
 refine qE Tryz.func168 Tryz.ntmps168 Tryz.results168 fun E hE => ?_
 refine qK (hL) [] ?_
 refine qB (fun c1 => ?_) fun c1 => ?_
 ·refine qK (hS) [] ?_
  refine qB (fun c2 => ?_) fun c2 => ?_
  ·refine qK (hK) (qA [16,17]) ?_
   refine qB (fun c3 => ?_) fun c3 => ?_
   ·rw [c3] at hR
    simp only [Bool.and_false,Bool.false_and] at hR
    subst hR
    refine qX ?_
    exact qF (qA [0,1,2,3,4,5,6,7,8,9,10,11,12,13,14,15,16,17,18,19,20])
   ·rw [c1,c3,decide_eq_false c2] at hR
    simp only [Bool.not_false,Bool.true_and,Bool.and_true] at hR
    refine qX ?_
    refine den_lp 21 hE (fun s (i : Nat) => s.at [0,1,3,4,7,8,9,10,11,12,13,14,15,16,17,18,19,20,21,22,23,24,25,26,27,28,29,30,31,32,33,34,35,36,37,38,39,40,41,42,43,44,45,46,47,48,49,50,51,52,53] [(6,.sc (.int .i64 (i : Nat)))] (s.hp)) (fun (i : Nat) => i ≤ 4 ∧ R = ((nums4 x).drop i).all (okNum w)) (fun (i : Nat) => 4 - i) 0 (qA [0,1,2,3,4,5,6,7,8,9,10,11,12,13,14,15,16,17,18,19,20,21,22,23]) (qC) (⟨by omega,hR⟩) (weak_mk (by rfl) (by rfl) ?_) fun i hi N hN => ?_
    ·exact qY
    ·obtain ⟨g1,g2⟩ := hi
     refine qR ?_
     split <;> rename_i b <;> (try simp only [decide_eq_true_eq,decide_eq_false_iff_not,Int.ofNat_lt] at b)
     rotate_left
     ·rw [List.drop_eq_nil_of_le (by simp only [nums4,List.length_cons,List.length_nil]; omega),List.all_nil] at g2
      subst g2
      refine qX ?_
      exact qF (qA [0,1,2,3,4,5,6,7,8,9,10,11,12,13,14,15,16,17,18,19,20])
     have hi4 : i < (nums4 x).length := by simp only [nums4,List.length_cons,List.length_nil]; omega
     rw [allD_step hi4] at g2
     generalize hv : (nums4 x)[i] = v at g2
     have hg : ([[.int .i64 x.key],[.int .i64 x.nonce],[.int .i64 x.give],[.int .i64 x.sgn]] : List (List Sc))[i]? = some (intC v) := by
      rw [← hv]
      rw [show ([[.int .i64 x.key],[.int .i64 x.nonce],[.int .i64 x.give],[.int .i64 x.sgn]] : List (List Sc)) = (nums4 x).map intC from rfl]
      exact map_get hi4
     simp only [intC] at hg
     have hH := spec_l15Has w.nums v h2
     refine qX ?_
     refine qD [0,1,2,3,4,5,6,7,8,9,10,11,12,13,14] ?_
     try simp (disch := omega) only [go_sem,Nat.reduceEqDiff,Nat.reduceAdd,Nat.reduceSub,Int.reduceAdd,Int.reduceSub,Int.reduceToNat,hg]
     refine qB (fun b1 => ?_) fun b1 => ?_
     ·try simp (disch := omega) only [go_sem,Nat.reduceEqDiff,Nat.reduceAdd,Nat.reduceSub,Int.reduceAdd,Int.reduceSub,Int.reduceToNat,hg]
      refine qKD (hH) (qA [18]) ?_
      refine qG ?_
      refine qB (fun b2 => ?_) fun b2 => ?_
      ·rw [show okNum w v = false by rw [okNum,b2,decide_eq_false (by omega)]; rfl,Bool.false_and] at g2
       subst g2
       refine qX ?_
       exact qF (qA [0,1,2,3,4,5,6,7,8,9,10,11,12,13,14,15,16,17,18,19,20])
      ·rw [show okNum w v = true by rw [okNum,b2,Bool.or_true],Bool.true_and] at g2
       refine qX ?_
       exact qN hN (i + 1) (qA [0,1,2,3,4,5,6,7,8,9,10,11,12,13,14,15,16,17,18,19,20,21,22,23]) (by (try dsimp only); exact ⟨by omega,g2⟩)
     ·rw [show okNum w v = true by rw [okNum,decide_eq_true (by omega)]; rfl,Bool.true_and] at g2
      refine qG ?_
      exact qN hN (i + 1) (qA [0,1,2,3,4,5,6,7,8,9,10,11,12,13,14,15,16,17,18,19,20,21,22,23]) (by (try dsimp only); exact ⟨by omega,g2⟩)
  ·rw [decide_eq_true c2] at hR
   simp only [Bool.not_true,Bool.and_false,Bool.false_and] at hR
   subst hR
   refine qX ?_
   exact qF (qA [0,1,2,3,4,5,6,7,8,9,10,11,12,13,14,15,16,17,18,19,20])
 ·rw [c1] at hR
  simp only [Bool.false_and] at hR
  subst hR
  refine qX ?_
  exact qF (qA [0,1,2,3,4,5,6,7,8,9,10,11,12,13,14,15,16,17,18,19,20])
def wroteB (w : WorldD) (side : Int) (t u : List UInt8) : WorldD := if side = 1 then { w with wroteA := w.wroteA ++ t,readA := w.readA ++ u } else { w with wroteB := w.wroteB ++ t,readB := w.readB ++ u }
theorem wroteB_1 (w : WorldD) (side : Int) (t : List UInt8) : wroteB w side t [] = wrote w side t := by
 rw [wroteB,wrote]; split <;> simp
theorem wroteB_2 (w : WorldD) (side : Int) (t : List UInt8) : wroteB w side [] t = gotRead w side t := by
 rw [wroteB,gotRead]; split <;> simp
structure SmallS (w : WorldD) : Prop where
 wa : w.wroteA.length ≤ 1099511627776
 wb : w.wroteB.length ≤ 1099511627776
 ra : w.readA.length ≤ 1099511627776
 rb : w.readB.length ≤ 1099511627776
theorem spec_l24Wrote (w : WorldD) (side : Int) (t u : List UInt8) (h : SmallS w) (ht : t.length ≤ 1048576) (hu : u.length ≤ 1048576) : CallA Tryz.prog 190 [.ag (w.cs 0),.sc (.int .i64 side),.sc (.st t),.sc (.st u)] (w.hp false) (.ag ((wroteB w side t u).cs 0)) (w.hp false) := by
 have h1 := h.wa
 have h2 := h.wb
 have h3 := h.ra
 have h4 := h.rb
 obtain ⟨R,hR⟩ : ∃ R,R = wroteB w side t u := ⟨_,rfl⟩
 rw [← hR]
 rw [wroteB] at hR
 refine qE Tryz.func190 Tryz.ntmps190 Tryz.results190 fun E hE => ?_
 refine qB (fun b => ?_) fun b => ?_
 ·rw [if_pos b] at hR
  subst hR
  refine qX ?_
  exact qF (qA [0,1,2,3,4,5,6,7,8,9,10,11,12,13,14,15,16,17,18,19,20])
 ·rw [if_neg b] at hR
  subst hR
  refine qX ?_
  exact qF (qA [0,1,2,3,4,5,6,7,8,9,10,11,12,13,14,15,16,17,18,19,20])
theorem spec_l24Out (l : List LetterD) (k : Nat) (hl : l.length ≤ 1048576) (hk : k < l.length) : CallA Tryz.prog 195 [.sc (.sl 0 0 l.length),.sc (.int .i64 (k : Nat))] [some ⟨l.map LetterD.cs,19,67,false,true⟩] (.sc (.sl 1 0 (l.length - 1))) [some ⟨l.map LetterD.cs,19,67,false,true⟩,some ⟨(l.take k ++ l.drop (k + 1)).map LetterD.cs,19,67,true,true⟩] := by
 have hlt : (l.take k).length = k := by simp; omega
 have hlt2 : (List.take k (List.map LetterD.cs l)).length = k := by simp; omega
 refine qE Tryz.func195 Tryz.ntmps195 Tryz.results195 fun E hE => ?_
 refine qX ?_
 refine den_fin (qA [0,3]) (qC) _ (by simp only [go_sem]; rfl) (by rfl) (by rfl) ?_
 simp (disch := omega) only [go_sem,Nat.reduceEqDiff,Nat.reduceAdd,Nat.reduceSub,Int.reduceAdd,Int.reduceSub,Int.reduceToNat]
 try rw [← List.map_take]
 exact ⟨by omega,(del_cells hk).2⟩
end
section
open Go.RowKit

theorem rs_t {e : EndD} {k : Int} {n : Nat} (h : rsOk e k = true) (hk : k = (n : Int)) (hn : n < e.subs.length) :
  resetE e k = ({ e with subs := setState e.subs n 4 },[between e.subs[n].road { letNone with kind := 13,sgn := e.subs[n].give }]) := by
 rw [resetE,if_pos h,hk,Int.toNat_natCast,subAtN_at hn]
theorem rs_f {e : EndD} {k : Int} (h : rsOk e k = false) : resetE e k = (e,[]) := by rw [resetE,if_neg (by simp [h])]
theorem rs_at {e : EndD} {n : Nat} (hn : n < e.subs.length) : rsOk e (n : Int) = (endOk e && decide (e.subs[n].state = 3)) := by
 rw [rsOk,Int.toNat_natCast,subAtN_at hn,show inR (n : Int) 0 ((e.subs.length : Int) - 1) = true by simp only [inR,Bool.and_eq_true,decide_eq_true_eq]; omega,Bool.and_true]
theorem rs_out {e : EndD} {k : Int} (h : inR k 0 ((e.subs.length : Int) - 1) = false) : rsOk e k = false := by simp [rsOk,h]
theorem endOk_own {e : EndD} (h : endOk e = true) : e.own.length ≤ 6 := by
 simp only [endOk,Bool.and_eq_true] at h
 exact addrsOk_le (by simp_all)
theorem ao_f {e : EndD} {a : AddrD} (h : aoOk e a = false) : addOwn e a = (e,false) := by rw [addOwn,if_neg (by simp [h])]
theorem ao_t {e : EndD} {a : AddrD} (h : aoOk e a = true) : addOwn e a = ({ e with own := (putAddr e.own { a with told := false }).1 },(putAddr e.own { a with told := false }).2) := by rw [addOwn,if_pos h]
theorem ao_t2 {e : EndD} {a : AddrD} (h : (putAddr e.own { a with told := false }).2 = false) : addOwn e a = (e,false) := by
 rw [addOwn]; split
 ·have : putAddr e.own { a with told := false } = (e.own,false) := by
   rw [putAddr] at h ⊢; split
   ·rename_i hh; rw [if_pos hh] at h; cases h
   ·rfl
  rw [this]
 ·rfl
theorem spec_Reset (e : EndD) (k : Int) (hs : Small e) : CallA Tryz.prog 192 [.ag (e.cs 0),.sc (.int .i64 k)] (e.hp false) (.tu [.ag ((resetE e k).1.cs 7),.sc (.sl 14 0 (resetE e k).2.length)])
  (e.hp false ++ ((resetE e k).1.hp true ++ [some ⟨(resetE e k).2.map LetterD.cs,19,67,true,true⟩])) := by
 have hC := spec_l17Copy e (by have := hs.own; omega) (by have := hs.far; omega) (by have := hs.subs; omega) (by have := hs.halfs; omega) (by have := hs.list; omega) (by have := hs.done; omega) (by have := hs.over; omega)
 have hK := spec_EndOk e (by have := hs.own; omega) (by have := hs.far; omega) (by have := hs.subs; omega) (by have := hs.halfs; omega) (by have := hs.list; omega) (by have := hs.done; omega) (by have := hs.over; omega)
 have hsub := hs.subs
 have hf := rs_f (e := e) (k := k)
 have ht := @rs_t e k
 have hI := spec_l01In k 0 ((e.subs.length : Int) - 1)
 refine qEO Tryz.func192 Tryz.ntmps192 Tryz.results192 fun E hE => ?_
 refine qK (hC) (qA [0,1,2,3,4,5,6]) ?_
 refine qK (hK) (qA [0,1,2,3,4,5,6]) ?_
 refine qB (fun b1 => ?_) fun b1 => ?_
 ·refine qK (hI) [] ?_
  cases hin : inR k 0 ((e.subs.length : Int) - 1) with
  | false =>
   rw [hf (rs_out hin)]
   refine qX ?_
   exact qFO (qA [0,1,2,3,4,5,6,9,10,11,12,13,14,15,17])
  | true =>
   simp only [inR,Bool.and_eq_true,decide_eq_true_eq] at hin
   obtain ⟨n,rfl⟩ := Int.eq_ofNat_of_zero_le hin.1
   have hn : n < e.subs.length := by omega
   have hg := map_get (enc := SubD.cs) hn
   have hok := rs_at (e := e) hn
   rw [b1,Bool.true_and] at hok
   try simp (disch := omega) only [go_sem,Nat.reduceEqDiff,Nat.reduceAdd,Nat.reduceSub,Int.reduceAdd,Int.reduceSub,Int.reduceToNat,hg]
   refine qB (fun b2 => ?_) fun b2 => ?_
   ·rw [hf (by rw [hok]; simp [b2])]
    refine qX ?_
    exact qFO (qA [0,1,2,3,4,5,6,9,10,11,12,13,14,15,17])
   ·rw [ht (by rw [hok]; simp [b2]) rfl hn]
    have hset : setState e.subs n 4 = e.subs.set n { e.subs[n] with state := 4 } := by rw [setState,subAtN_at hn]
    rw [hset]
    have hms := map_set' (f := SubD.cs) (l := e.subs) (k := n) (v := { e.subs[n] with state := 4 }) rfl
    simp only [SubD.cs] at hms
    try simp (disch := omega) only [go_sem,Nat.reduceEqDiff,Nat.reduceAdd,Nat.reduceSub,Int.reduceAdd,Int.reduceSub,Int.reduceToNat,hg]
    refine den_drawX [(0,17),(15,0),(16,0)] [(15,16),(15,17),(16,17)] [[1,2,3,4,5,6,7,8,9,10,11,12,13,14,15,16,0,17,18,19],[1,2,3,4,5,6,7,8,9,10,11,12,13,14,15,0,16,17,18,19],[1,2,3,4,5,6,7,8,9,10,11,12,13,14,0,15,16,17,18,19],[1,2,3,4,5,6,7,8,9,10,11,12,13,14,15,16,17,0,18,19]] 7 hE (fun s => s.at [7,39,40,41,42,43,44,45,46,47,48,49,50,51,52,53,54,55,56] [(5,.sc (.sl 18 0 1))] (((s.hp.set 8 (some ⟨[[.int .i64 e.side,.int .i64 e.state,.int .i64 e.key,.int .i64 e.peer,.int .i64 e.policy.kind,.int .i64 e.policy.many,.sl 9 0 e.own.length,.sl 10 0 e.far.length,.sl 11 0 e.subs.length,.sl 12 0 e.halfs.length,.int .i64 e.bucket.rate,.int .i64 e.bucket.burst,.int .i64 e.bucket.cur,.st e.out.text,.int .i64 e.out.base,.int .i64 e.out.sent,.int .i64 e.out.room,.int .i64 e.inp.read,.st e.inp.ready,.sl 13 0 e.inp.list.length,.sl 14 0 e.done.length,.sl 15 0 e.over.length,.int .i64 e.draw,.int .i64 e.now,.int .i64 e.pick]],25,38,true,false⟩)).set 17 none) ++ [some ⟨[(between e.subs[n].road { letNone with kind := 13,sgn := e.subs[n].give }).cs],19,67,true,true⟩])) (by kernel_rfl) (qC) (by kernel_rfl) ?_ (run_den 400 ?_)
    rotate_left
    rotate_right
    simp only [allDn]
    refine ⟨runD_den 400 ?_,runD_den 400 ?_,runD_den 400 ?_,runD_den 400 ?_⟩
    ·simp (disch := omega) only [go_sem,hg]
     refine qKD (spec_Between e.subs[n].road { letNone with kind := 13,sgn := e.subs[n].give }) [] ?_
     refine ⟨qC,(qA [0,1,2,3,4,5,6,7,8,9,10,11,12,13,14,15,16,17,19]),weak_mkO (by rfl) (by rfl) ?_⟩
     try simp (disch := omega) only [go_sem,Nat.reduceEqDiff,Nat.reduceAdd,Nat.reduceSub,Int.reduceAdd,Int.reduceSub,Int.reduceToNat]
     try rfl
    ·simp (disch := omega) only [go_sem,hg]
     refine qKD (spec_Between e.subs[n].road { letNone with kind := 13,sgn := e.subs[n].give }) [] ?_
     refine ⟨qC,(qA [0,1,2,3,4,5,6,7,8,9,10,11,12,13,14,15,16,17,19]),weak_mkO (by rfl) (by rfl) ?_⟩
     try simp (disch := omega) only [go_sem,Nat.reduceEqDiff,Nat.reduceAdd,Nat.reduceSub,Int.reduceAdd,Int.reduceSub,Int.reduceToNat]
     try rfl
    ·simp (disch := omega) only [go_sem,hg]
     refine qKD (spec_Between e.subs[n].road { letNone with kind := 13,sgn := e.subs[n].give }) [] ?_
     refine ⟨qC,(qA [0,1,2,3,4,5,6,7,8,9,10,11,12,13,14,15,16,17,19]),weak_mkO (by rfl) (by rfl) ?_⟩
     try simp (disch := omega) only [go_sem,Nat.reduceEqDiff,Nat.reduceAdd,Nat.reduceSub,Int.reduceAdd,Int.reduceSub,Int.reduceToNat]
     try rfl
    ·simp (disch := omega) only [go_sem,hg]
     refine qKD (spec_Between e.subs[n].road { letNone with kind := 13,sgn := e.subs[n].give }) [] ?_
     refine ⟨qC,(qA [0,1,2,3,4,5,6,7,8,9,10,11,12,13,14,15,16,17,19]),weak_mkO (by rfl) (by rfl) ?_⟩
     try simp (disch := omega) only [go_sem,Nat.reduceEqDiff,Nat.reduceAdd,Nat.reduceSub,Int.reduceAdd,Int.reduceSub,Int.reduceToNat]
     try rfl
    refine qX ?_
    refine den_finO (qA [0,1,2,3,4,5,6,9,10,11,12,13,14,15,18]) (qC) _ (by simp only [go_sem]; rfl) (by rfl) (by rfl) ?_
    simp (disch := omega) only [go_sem,Nat.reduceEqDiff,Nat.reduceAdd,Nat.reduceSub,Int.reduceAdd,Int.reduceSub,Int.reduceToNat]
    exact ⟨by simp,hms⟩
 ·rw [hf (by simp [rsOk,b1])]
  refine qX ?_
  exact qFO (qA [0,1,2,3,4,5,6,9,10,11,12,13,14,15,17])
theorem spec_AddOwn (e : EndD) (a : AddrD) (hs : Small e) : CallA Tryz.prog 153 [.ag (e.cs 0),.ag a.cs] (e.hp false) (.tu [.ag ((addOwn e a).1.cs 7),.sc (.bo (addOwn e a).2)]) (e.hp false ++ (addOwn e a).1.hp true) := by
 have hC := spec_l17Copy e (by have := hs.own; omega) (by have := hs.far; omega) (by have := hs.subs; omega) (by have := hs.halfs; omega) (by have := hs.list; omega) (by have := hs.done; omega) (by have := hs.over; omega)
 have hK := spec_EndOk e (by have := hs.own; omega) (by have := hs.far; omega) (by have := hs.subs; omega) (by have := hs.halfs; omega) (by have := hs.list; omega) (by have := hs.done; omega) (by have := hs.over; omega)
 have hA := spec_AddrAt e.own a.id (by have := hs.own; omega)
 have hH := spec_l15Has e.done a.id (by have := hs.done; omega)
 have hP := fun h => spec_PutAddr e.own { a with told := false } h
 have hf := ao_f (e := e) (a := a)
 have ht := ao_t (e := e) (a := a)
 have ht2 := ao_t2 (e := e) (a := a)
 have hok : aoOk e a = (endOk e && decide (addrAt e.own a.id < 0) && !hasI e.done a.id) := rfl
 generalize addOwn e a = R at *
 generalize putAddr e.own { a with told := false } = pa at *
 obtain ⟨own1,ok1⟩ := pa
 dsimp only at hP ht ht2
 refine qEO Tryz.func153 Tryz.ntmps153 Tryz.results153 fun E hE => ?_
 refine qK (hC) (qA [0,1,2,3,4,5,6]) ?_
 refine qK (hP (by have := hs.own; omega)) (qA [0]) ?_
 refine qK (hK) (qA [0,1,2,3,4,5,6]) ?_
 refine qB (fun b1 => ?_) fun b1 => ?_
 ·cases ok1 with
  | false =>
   rw [ht2 rfl]
   refine qX ?_
   exact qFO (qA [0,1,2,3,4,5,6,10,11,12,13,14,15,16])
  | true =>
   refine qX ?_
   refine qK (hA) (qA [0]) ?_
   refine qB (fun b2 => ?_) fun b2 => ?_
   ·refine qK (hH) (qA [5]) ?_
    refine qB (fun b3 => ?_) fun b3 => ?_
    ·rw [hf (by rw [hok]; simp [b3])]
     refine qX ?_
     exact qFO (qA [0,1,2,3,4,5,6,10,11,12,13,14,15,16])
    ·rw [ht (by rw [hok,b1,decide_eq_true (by omega),b3]; rfl)]
     refine qX ?_
     exact qFO (qA [0,1,2,3,4,5,6,18,11,12,13,14,15,16])
   ·rw [hf (by rw [hok,decide_eq_false (by omega)]; simp)]
    refine qX ?_
    exact qFO (qA [0,1,2,3,4,5,6,10,11,12,13,14,15,16])
 ·rw [hf (by simp [hok,b1])]
  refine qX ?_
  exact qFO (qA [0,1,2,3,4,5,6,10,11,12,13,14,15,16])
end
section
open Go.RowKit

theorem writeAll_len (e : EndD) (t : List UInt8) : (writeAll e t).2.length ≤ 3 := pushN_len
theorem write_small {e : EndD} {t : List UInt8} (hs : Small e) : Small (write e t).1 := by
 rw [write]; split
 ·exact ⟨hs.own,hs.far,hs.subs,hs.halfs,hs.list,hs.done,hs.over⟩
 ·exact hs
theorem writeAll_small {e : EndD} {t : List UInt8} (hs : Small e) : Small (writeAll e t).1 := pushN_small (write_small hs)
theorem readE_small {e : EndD} {m : Int} (hs : Small e) : Small (readE e m).1 := by
 rw [readE]; split
 ·refine ⟨hs.own,hs.far,hs.subs,hs.halfs,?_,hs.done,hs.over⟩
  dsimp only
  rw [takeReady]; split <;> exact hs.list
 ·exact hs
theorem addOwn_small {e : EndD} {a : AddrD} (hs : Small e) : Small (addOwn e a).1 := by
 rw [addOwn]; split
 ·exact ⟨putAddr_le hs.own,hs.far,hs.subs,hs.halfs,hs.list,hs.done,hs.over⟩
 ·exact hs
theorem resetE_small {e : EndD} {k : Int} (hs : Small e) : Small (resetE e k).1 := by
 rw [resetE]; split
 ·exact ⟨hs.own,hs.far,by simpa only [setState,List.length_set] using hs.subs,hs.halfs,hs.list,hs.done,hs.over⟩
 ·exact hs
theorem resetE_len (e : EndD) (k : Int) : (resetE e k).2.length ≤ 1 := by rw [resetE]; split <;> simp
theorem dropOwn_small {e : EndD} {n : Int} (hs : Small e) : Small (dropOwn e n).1 := by
 rw [dropOwn]; split
 ·rename_i h
  simp only [doOk,Bool.and_eq_true] at h
  have := (endOk_ids h.1.1).1
  exact ⟨dropAddr_le hs.own,hs.far,by simpa only [dropSubs,List.length_map] using hs.subs,hs.halfs,hs.list,by have := putI_len e.done n; dsimp only; omega,hs.over⟩
 ·exact hs
theorem dropOwn_len (e : EndD) (n : Int) (hs : Small e) : (dropOwn e n).2.length ≤ 1048576 := by
 rw [dropOwn]; split
 ·rw [List.length_map]
  have := onN_len (dropSubs e n)
  have h2 : (dropSubs e n).length = e.subs.length := by rw [dropSubs,List.length_map]
  have := hs.subs
  omega
 ·simp
theorem manGo_small {far : List AddrD} : ∀ {l : List RoadD} {e : EndD},Small e → Small (manGo far e l).1
 | [],_,h => h
 | r :: l,e,h => manGo_small (l := l) (join_small h)
theorem manGo_len {far : List AddrD} : ∀ {l : List RoadD} {e : EndD},(manGo far e l).2.length ≤ l.length
 | [],_ => Nat.le_refl _
 | r :: l,e => by
  have h1 := join_one e r (spareOf far r.far)
  have h2 := manGo_len (far := far) (l := l) (e := (join e r (spareOf far r.far)).1)
  rw [show (manGo far e (r :: l)).2 = (join e r (spareOf far r.far)).2 ++ (manGo far (join e r (spareOf far r.far)).1 l).2 from rfl,List.length_append,List.length_cons]
  omega
theorem manage_small {e : EndD} (hs : Small e) : Small (manage e).1 := by
 rw [manage]; split
 ·exact manGo_small hs
 ·exact hs
theorem manage_len (e : EndD) : (manage e).2.length ≤ 64 := by
 rw [manage]; split
 ·exact Nat.le_trans manGo_len (missing_le64 _ _)
 ·simp
theorem tick_small {e : EndD} (hs : Small e) : Small (tick e).1 := by
 have hy := younger_le e.halfs (e.now + 1)
 have := hs.halfs
 rw [tick]; split
 ·split
  ·rw [tickEnd]; exact pushN_small ⟨hs.own,hs.far,by dsimp only; rw [List.length_map]; exact hs.subs,by dsimp only [tick0]; omega,hs.list,hs.done,hs.over⟩
  ·rw [tickEnd]; exact pushN_small ⟨hs.own,hs.far,hs.subs,by dsimp only [tick0]; omega,hs.list,hs.done,hs.over⟩
 ·exact hs
theorem tickEnd_len (e : EndD) (l : List LetterD) : (tickEnd e l).2.length ≤ l.length + e.own.length + 3 := by
 have h1 := tellAddrs_le e
 have h2 := pushN_len (k := 3) (e := e)
 rw [tickEnd]
 simp only [List.length_append]
 omega
theorem tick_len (e : EndD) : (tick e).2.length ≤ 64 := by
 rw [tick]; split
 ·rename_i h
  simp only [tkE,Bool.and_eq_true] at h
  have h8 := endOk_subs h.1.1
  have h6 := endOk_own h.1.1
  have hfl : (e.subs.flatMap (tickL e)).length ≤ e.subs.length := flat_le (tickL_one e) _
  split
  ·refine Nat.le_trans (tickEnd_len _ _) ?_
   show (e.subs.flatMap (tickL e)).length + e.own.length + 3 ≤ 64
   omega
  ·refine Nat.le_trans (tickEnd_len _ _) ?_
   show 0 + e.own.length + 3 ≤ 64
   omega
 ·simp
structure SmallD (w : WorldD) : Prop where
 p : SmallWP w
 s : SmallS w
 oa : w.a.out.text.length ≤ 1048576
 ob : w.b.out.text.length ≤ 1048576
theorem write_text {e : EndD} {t : List UInt8} (h : e.out.text.length ≤ 1048576) : (write e t).1.out.text.length ≤ 1048576 := by
 rw [write]; split
 ·dsimp only
  rw [accept]; split
  ·rename_i ho
   simp only [accOk,Bool.and_eq_true] at ho
   have F := outOk_fine ho.1
   have := accN_room (t := t) F
   have := F.room
   dsimp only
   rw [List.length_append,List.length_take]
   omega
  ·exact h
 ·exact h
theorem readE_len {e : EndD} {m : Int} (h : SmallP e.inp) : (readE e m).2.length ≤ 1048576 := by
 have := h.ready
 rw [readE]; split
 ·dsimp only
  rw [takeReady]; split
  ·dsimp only; rw [List.length_take]; omega
  ·simp
 ·simp
end
section
open Go.RowKit

end
section
open Go.RowKit

theorem GoodE.io {e e' : EndD} (h : GoodE e) (hs : Small e') (hi : e'.inp = e.inp) (ho : e'.out.text = e.out.text) : GoodE e' := ⟨hs,by rw [hi]; exact h.p,by rw [ho]; exact h.o⟩
theorem pushN_good {k : Nat} {e : EndD} (h : GoodE e) : GoodE (pushN k e).1 := h.io (pushN_small h.s) pushN_inp pushN_text
theorem write_inp (e : EndD) (t : List UInt8) : (write e t).1.inp = e.inp := by rw [write]; split <;> rfl
theorem writeAll_good {e : EndD} {t : List UInt8} (h : GoodE e) : GoodE (writeAll e t).1 := by
 rw [writeAll]
 exact pushN_good ⟨write_small h.s,by rw [write_inp]; exact h.p,write_text h.o⟩
theorem take_small {p : PiecesD} {m : Int} (h : SmallP p) : SmallP (takeReady p m).1 := by
 rw [takeReady]; split
 ·exact ⟨h.list,by have := h.ready; simp only [List.length_drop]; omega,h.texts⟩
 ·exact h
theorem readE_good {e : EndD} {m : Int} (h : GoodE e) : GoodE (readE e m).1 := by
 have hs := readE_small (m := m) h.s
 rw [readE] at hs ⊢; split at hs
 ·rename_i hk; rw [if_pos hk]; exact ⟨hs,take_small h.p,h.o⟩
 ·rename_i hk; rw [if_neg hk]; exact h
theorem anew_text (o : OutD) : (anew o).text = o.text := by rw [anew]; split <;> rfl
theorem tick_good {e : EndD} (h : GoodE e) : GoodE (tick e).1 := by
 have hs := tick_small h.s
 refine h.io hs ?_ ?_
 ·rw [tick]; split
  ·split
   ·rw [tickEnd]; exact pushN_inp
   ·rw [tickEnd]; exact pushN_inp
  ·rfl
 ·rw [tick]; split
  ·split
   ·rw [tickEnd]; exact pushN_text.trans (anew_text _)
   ·rw [tickEnd]; exact pushN_text.trans (anew_text _)
  ·rfl
theorem join_io (e : EndD) (r : RoadD) (b : Bool) : (join e r b).1.inp = e.inp ∧ (join e r b).1.out = e.out := by rw [join]; split <;> exact ⟨rfl,rfl⟩
theorem manGo_io {far : List AddrD} : ∀ {l : List RoadD} {e : EndD},(manGo far e l).1.inp = e.inp ∧ (manGo far e l).1.out = e.out
 | [],e => ⟨rfl,rfl⟩
 | r :: l,e => by
  have h1 := join_io e r (spareOf far r.far)
  have h2 := manGo_io (far := far) (l := l) (e := (join e r (spareOf far r.far)).1)
  exact ⟨h2.1.trans h1.1,h2.2.trans h1.2⟩
theorem manage_good {e : EndD} (h : GoodE e) : GoodE (manage e).1 := by
 have hs := manage_small h.s
 have hio : (manage e).1.inp = e.inp ∧ (manage e).1.out = e.out := by
  rw [manage]; split
  ·exact manGo_io
  ·exact ⟨rfl,rfl⟩
 exact h.io hs hio.1 (by rw [hio.2])
theorem addOwn_good {e : EndD} {a : AddrD} (h : GoodE e) : GoodE (addOwn e a).1 := by
 refine h.io (addOwn_small h.s) ?_ ?_ <;> (rw [addOwn]; split <;> rfl)
theorem resetE_good {e : EndD} {k : Int} (h : GoodE e) : GoodE (resetE e k).1 := by
 refine h.io (resetE_small h.s) ?_ ?_ <;> (rw [resetE]; split <;> rfl)
theorem dropOwn_good {e : EndD} {n : Int} (h : GoodE e) : GoodE (dropOwn e n).1 := by
 refine h.io (dropOwn_small h.s) ?_ ?_ <;> (rw [dropOwn]; split <;> rfl)
theorem actE_good {e : EndD} {a : ActD} (h : GoodE e) : GoodE (actE e a).1 := by
 rw [actE]
 split
 ·exact writeAll_good h
 split
 ·exact readE_good h
 split
 ·exact tick_good h
 split
 ·exact manage_good h
 split
 ·exact addOwn_good h
 split
 ·exact dropOwn_good h
 ·exact resetE_good h
structure GoodW (w : WorldD) (k : Nat) : Prop where
 a : GoodE w.a
 b : GoodE w.b
 r : SmallP2 w
 wa : w.wroteA.length ≤ 2000000 * k
 wb : w.wroteB.length ≤ 2000000 * k
 ra : w.readA.length ≤ 2000000 * k
 rb : w.readB.length ≤ 2000000 * k
theorem GoodW.s {w : WorldD} {k : Nat} (h : GoodW w k) : SmallW w := ⟨h.a.s,h.b.s,h.r.bag,h.r.past,h.r.keys,h.r.tags,h.r.nums,h.r.ansA,h.r.ansB⟩
theorem GoodW.d {w : WorldD} {k : Nat} (h : GoodW w k) (hk : k ≤ 1000) : SmallD w :=
 ⟨⟨h.s,h.a.p,h.b.p⟩,⟨by have := h.wa; omega,by have := h.wb; omega,by have := h.ra; omega,by have := h.rb; omega⟩,h.a.o,h.b.o⟩
theorem GoodW.up {w : WorldD} {k : Nat} (h : GoodW w k) : GoodW w (k + 1) := ⟨h.a,h.b,h.r,by have := h.wa; omega,by have := h.wb; omega,by have := h.ra; omega,by have := h.rb; omega⟩
theorem postL_ends2 {side : Int} : ∀ {l : List LetterD} {w : WorldD},(postL side w l).a = w.a ∧ (postL side w l).b = w.b ∧ (postL side w l).wroteA = w.wroteA ∧ (postL side w l).wroteB = w.wroteB ∧ (postL side w l).readA = w.readA ∧ (postL side w l).readB = w.readB
 | [],w => ⟨rfl,rfl,rfl,rfl,rfl,rfl⟩
 | x :: l,w => by
  obtain ⟨h1,h2,h3,h4,h5,h6⟩ := postL_ends2 (side := side) (l := l) (w := post1 side w x)
  obtain ⟨g1,g2,g3,g4,g5,g6⟩ := post1_ends (side := side) (w := w) (x := x)
  exact ⟨h1.trans g1,h2.trans g2,h3.trans g3,h4.trans g4,h5.trans g5,h6.trans g6⟩
theorem postL_good {side : Int} {l : List LetterD} {w : WorldD} {k : Nat} (h : GoodW w k) : GoodW (postL side w l) k := by
 obtain ⟨h1,h2,h3,h4,h5,h6⟩ := postL_ends2 (side := side) (l := l) (w := w)
 exact ⟨by rw [h1]; exact h.a,by rw [h2]; exact h.b,postL_small h.r,by rw [h3]; exact h.wa,by rw [h4]; exact h.wb,by rw [h5]; exact h.ra,by rw [h6]; exact h.rb⟩
theorem setEnd_good {w : WorldD} {s : Int} {e : EndD} {k : Nat} (h : GoodW w k) (he : GoodE e) : GoodW (setEnd w s e) k := by
 unfold setEnd; split
 ·exact ⟨he,h.b,⟨h.r.bag,h.r.past,h.r.keys,h.r.tags,h.r.nums,h.r.ansA,h.r.ansB⟩,h.wa,h.wb,h.ra,h.rb⟩
 ·exact ⟨h.a,he,⟨h.r.bag,h.r.past,h.r.keys,h.r.tags,h.r.nums,h.r.ansA,h.r.ansB⟩,h.wa,h.wb,h.ra,h.rb⟩
theorem endZero_good : GoodE endZero := ⟨⟨by decide,by decide,by decide,by decide,by decide,by decide,by decide⟩,⟨by decide,by decide,fun x hx => by simp [endZero] at hx⟩,by decide⟩
theorem endAt_good {w : WorldD} {s : Int} {k : Nat} (h : GoodW w k) : GoodE (endAt w s) := by
 unfold endAt; repeat' split
 ·exact h.a
 ·exact h.b
 ·exact endZero_good
theorem posted_good {side : Int} {l : List LetterD} {w : WorldD} {k : Nat} (h : GoodW w k) : GoodW (posted w side l) k := by
 rw [posted]; split
 ·exact postL_good h
 ·exact h
theorem lands_good {w : WorldD} {x : LetterD} {k : Nat} (h : GoodW w k) : GoodW (lands w x) k := by
 rw [lands]; split
 ·exact h
 ·exact posted_good (setEnd_good h (hear_good (endAt_good h)))
theorem bag_good {w : WorldD} {b : List LetterD} {k : Nat} (h : GoodW w k) (hb : b.length ≤ 1048576) : GoodW { w with bag := b } k :=
 ⟨h.a,h.b,⟨hb,h.r.past,h.r.keys,h.r.tags,h.r.nums,h.r.ansA,h.r.ansB⟩,h.wa,h.wb,h.ra,h.rb⟩
theorem bagOut_le2 (l : List LetterD) (n : Int) (h : l.length ≤ 1048576) : (bagOut l n).length ≤ 1048576 := by
 simp only [bagOut,List.length_append,List.length_take,List.length_drop]; omega
theorem actW_good {w : WorldD} {a : ActD} {k : Nat} (h : GoodW w k) (ha : a.text.length ≤ 1048576) : GoodW (actW w a) (k + 1) := by
 have hr := readE_len (m := a.many) (endAt_good (s := a.side) h).p
 have h1 := h.wa
 have h2 := h.wb
 have h3 := h.ra
 have h4 := h.rb
 have hu := h.up
 unfold actW wrote gotRead; repeat' split
 ·exact ⟨h.a,h.b,⟨h.r.bag,h.r.past,h.r.keys,h.r.tags,h.r.nums,h.r.ansA,h.r.ansB⟩,by simp only [List.length_append,List.length_take]; omega,hu.wb,hu.ra,hu.rb⟩
 ·exact ⟨h.a,h.b,⟨h.r.bag,h.r.past,h.r.keys,h.r.tags,h.r.nums,h.r.ansA,h.r.ansB⟩,hu.wa,by simp only [List.length_append,List.length_take]; omega,hu.ra,hu.rb⟩
 ·exact ⟨h.a,h.b,⟨h.r.bag,h.r.past,h.r.keys,h.r.tags,h.r.nums,h.r.ansA,h.r.ansB⟩,hu.wa,hu.wb,by simp only [List.length_append]; omega,hu.rb⟩
 ·exact ⟨h.a,h.b,⟨h.r.bag,h.r.past,h.r.keys,h.r.tags,h.r.nums,h.r.ansA,h.r.ansB⟩,hu.wa,hu.wb,hu.ra,by simp only [List.length_append]; omega⟩
 ·exact hu
theorem doneW_good {w : WorldD} {a : ActD} {k : Nat} (h : GoodW w k) (ha : a.text.length ≤ 1048576) : GoodW (doneW w a).1 (k + 1) := by
 have hb := bagOut_le2 w.bag a.pos h.r.bag
 have hl := h.r.bag
 unfold doneW; split
 ·split
  ·unfold acts; split
   ·exact h.up
   ·exact postL_good (setEnd_good (actW_good h ha) (actE_good (endAt_good h)))
  ·unfold moves; repeat' split
   all_goals first
    | exact h.up
    | exact (lands_good (bag_good h hb)).up
    | exact (bag_good h hb).up
    | exact (bag_good h (by simp only [List.length_append,List.length_singleton]; omega)).up
 ·exact h.up
end
section
open Go.RowKit

def FewE (e : EndD) : Prop := e.subs.length ≤ 100 ∧ e.far.length ≤ 100
theorem putAddr_few {l : List AddrD} {a : AddrD} (hl : l.length ≤ 100) : (putAddr l a).1.length ≤ 100 := by
 rw [putAddr]; split
 ·rename_i hh; have := addrsOk_le hh; dsimp only; omega
 ·exact hl
theorem dropAddr_few {l : List AddrD} {n : Int} (hl : l.length ≤ 100) : (dropAddr l n).1.length ≤ 100 := by
 rw [dropAddr]; split
 ·exact hl
 ·simp only [List.length_append,List.length_take,List.length_drop]; omega
theorem hear_few {e : EndD} {x : LetterD} (h : FewE e) : FewE (hear e x).1 := by
 obtain ⟨h1,h2⟩ := h
 refine hear_all (Q := fun r => FewE r.1) ⟨h1,h2⟩ ?_ ?_ ?_ ?_ ?_ ?_ ?_ ?_ ?_ ?_ ?_ ?_
 ·rw [hearHello]; split
  ·rename_i hk
   simp only [helloOk,Bool.and_eq_true,decide_eq_true_eq] at hk
   exact ⟨by simp only [List.length_append,List.length_singleton]; omega,by simp [farOne]⟩
  ·exact ⟨h1,h2⟩
 ·rw [hearBack]; split
  ·exact ⟨by simpa only [List.length_set] using h1,by simp [farOne]⟩
  ·exact ⟨h1,h2⟩
 ·rw [hearJoin]; split
  ·split <;> exact ⟨h1,h2⟩
  ·exact ⟨h1,h2⟩
 ·rw [hearJoinBack]; split
  ·exact ⟨by simpa only [List.length_set] using h1,h2⟩
  ·exact ⟨h1,h2⟩
 ·rw [hearJoinDone]; split
  ·split
   ·rename_i hk
    simp only [jdA,Bool.and_eq_true,decide_eq_true_eq] at hk
    refine ⟨?_,h2⟩
    dsimp only
    split <;> simp only [setState,List.length_append,List.length_set,List.length_singleton] <;> omega
   ·split <;> exact ⟨h1,h2⟩
  ·exact ⟨h1,h2⟩
 ·rw [hearJoinAck]; dsimp only; split
  ·exact ⟨by simpa only [setState,List.length_set] using h1,h2⟩
  ·exact ⟨h1,h2⟩
 ·rw [hearAddr]; split
  ·exact ⟨h1,putAddr_few h2⟩
  ·exact ⟨h1,h2⟩
 ·rw [hearEcho]; dsimp only; split <;> exact ⟨h1,h2⟩
 ·rw [hearGone]; dsimp only; split
  ·exact ⟨by simpa only [List.length_map] using h1,dropAddr_few h2⟩
  ·exact ⟨h1,h2⟩
 ·rw [hearData]; split <;> exact ⟨h1,h2⟩
 ·rw [hearCame]; dsimp only; split <;> exact ⟨h1,h2⟩
 ·rw [hearReset]; dsimp only; split
  ·exact ⟨by simpa only [setState,List.length_set] using h1,h2⟩
  ·exact ⟨h1,h2⟩
theorem push_few {e : EndD} (h : FewE e) : FewE (push e).1 := by
 rw [push]; split <;> exact h
theorem pushN_few : ∀ {k : Nat} {e : EndD},FewE e → FewE (pushN k e).1
 | 0,_,h => h
 | k + 1,e,h => pushN_few (k := k) (push_few h)
theorem write_few {e : EndD} {t : List UInt8} (h : FewE e) : FewE (write e t).1 := by
 rw [write]; split <;> exact h
theorem readE_few {e : EndD} {m : Int} (h : FewE e) : FewE (readE e m).1 := by
 rw [readE]; split <;> exact h
theorem tick_few {e : EndD} (h : FewE e) : FewE (tick e).1 := by
 obtain ⟨h1,h2⟩ := h
 rw [tick]; split
 ·split
  ·rw [tickEnd]; exact pushN_few ⟨by dsimp only; rw [List.length_map]; exact h1,h2⟩
  ·rw [tickEnd]; exact pushN_few ⟨h1,h2⟩
 ·exact ⟨h1,h2⟩
theorem join_few {e : EndD} {r : RoadD} {b : Bool} (h : FewE e) : FewE (join e r b).1 := by
 obtain ⟨h1,h2⟩ := h
 rw [join]; split
 ·rename_i hk
  simp only [jnOk,Bool.and_eq_true,decide_eq_true_eq] at hk
  exact ⟨by simp only [List.length_append,List.length_singleton]; omega,h2⟩
 ·exact ⟨h1,h2⟩
theorem manGo_few {far : List AddrD} : ∀ {l : List RoadD} {e : EndD},FewE e → FewE (manGo far e l).1
 | [],_,h => h
 | r :: l,e,h => manGo_few (l := l) (join_few h)
theorem manage_few {e : EndD} (h : FewE e) : FewE (manage e).1 := by
 rw [manage]; split
 ·exact manGo_few h
 ·exact h
theorem addOwn_few {e : EndD} {a : AddrD} (h : FewE e) : FewE (addOwn e a).1 := by
 rw [addOwn]; split <;> exact h
theorem resetE_few {e : EndD} {k : Int} (h : FewE e) : FewE (resetE e k).1 := by
 rw [resetE]; split
 ·exact ⟨by simpa only [setState,List.length_set] using h.1,h.2⟩
 ·exact h
theorem dropOwn_few {e : EndD} {n : Int} (h : FewE e) : FewE (dropOwn e n).1 := by
 rw [dropOwn]; split
 ·exact ⟨by simpa only [dropSubs,List.length_map] using h.1,h.2⟩
 ·exact h
theorem actE_few {e : EndD} {a : ActD} (h : FewE e) : FewE (actE e a).1 := by
 rw [actE]
 split
 ·rw [writeAll]; exact pushN_few (write_few h)
 split
 ·exact readE_few h
 split
 ·exact tick_few h
 split
 ·exact manage_few h
 split
 ·exact addOwn_few h
 split
 ·exact dropOwn_few h
 ·exact resetE_few h
def FewW (w : WorldD) : Prop := FewE w.a ∧ FewE w.b
theorem endZero_few : FewE endZero := ⟨by decide,by decide⟩
theorem endAt_few {w : WorldD} {s : Int} (h : FewW w) : FewE (endAt w s) := by
 unfold endAt; repeat' split
 ·exact h.1
 ·exact h.2
 ·exact endZero_few
theorem setEnd_few {w : WorldD} {s : Int} {e : EndD} (h : FewW w) (he : FewE e) : FewW (setEnd w s e) := by
 unfold setEnd; split
 ·exact ⟨he,h.2⟩
 ·exact ⟨h.1,he⟩
theorem postL_few {side : Int} {l : List LetterD} {w : WorldD} (h : FewW w) : FewW (postL side w l) := by
 obtain ⟨h1,h2,_⟩ := postL_ends2 (side := side) (l := l) (w := w)
 exact ⟨by rw [h1]; exact h.1,by rw [h2]; exact h.2⟩
theorem lands_few {w : WorldD} {x : LetterD} (h : FewW w) : FewW (lands w x) := by
 rw [lands]; split
 ·exact h
 ·rw [posted]; split
  ·exact postL_few (setEnd_few h (hear_few (endAt_few h)))
  ·exact setEnd_few h (hear_few (endAt_few h))
theorem actW_few {w : WorldD} {a : ActD} (h : FewW w) : FewW (actW w a) := by
 unfold actW wrote gotRead; repeat' split
 all_goals exact h
theorem doneW_few {w : WorldD} {a : ActD} (h : FewW w) : FewW (doneW w a).1 := by
 unfold doneW; split
 ·split
  ·unfold acts; split
   ·exact h
   ·exact postL_few (setEnd_few (actW_few h) (actE_few (endAt_few h)))
  ·unfold moves; repeat' split
   all_goals first
    | exact h
    | exact lands_few (w := { w with bag := bagOut w.bag a.pos }) h
 ·exact h
end
section
open Go.RowKit

theorem leAt_get {l : List LetterD} {p : Nat} (h : p < l.length) : leAtN l (Int.toNat (p : Int)) = l[p] := by simp [leAtN,h]
theorem bagOut_eq (l : List LetterD) (p : Nat) : bagOut l (p : Int) = l.take p ++ l.drop (p + 1) := rfl
theorem bagOut_len {l : List LetterD} {p : Nat} (h : p < l.length) : (bagOut l (p : Int)).length = l.length - 1 := by
 rw [bagOut_eq,List.length_append,List.length_take,List.length_drop]; omega
theorem mv8_f {w : WorldD} {s m : Int} {p : Nat} {t : List UInt8} {ad : AddrD} {le : LetterD} (h : ¬ p < w.bag.length) : moves w ⟨8,s,(p : Nat),m,t,ad,le⟩ = (w,1) := by
 unfold moves; dsimp only; rw [if_pos (.inl rfl),if_pos (by omega)]
theorem mv8_t {w : WorldD} {s m : Int} {p : Nat} {t : List UInt8} {ad : AddrD} {le : LetterD} (h : p < w.bag.length) : moves w ⟨8,s,(p : Nat),m,t,ad,le⟩ = (lands { w with bag := bagOut w.bag (p : Nat) } w.bag[p],0) := by
 unfold moves; dsimp only; rw [if_pos (.inl rfl),if_neg (by omega),if_pos rfl,leAt_get h]
theorem mv9_f {w : WorldD} {s m : Int} {p : Nat} {t : List UInt8} {ad : AddrD} {le : LetterD} (h : ¬ p < w.bag.length) : moves w ⟨9,s,(p : Nat),m,t,ad,le⟩ = (w,1) := by
 unfold moves; dsimp only; rw [if_pos (.inr rfl),if_pos (by omega)]
theorem mv9_t {w : WorldD} {s m : Int} {p : Nat} {t : List UInt8} {ad : AddrD} {le : LetterD} (h : p < w.bag.length) : moves w ⟨9,s,(p : Nat),m,t,ad,le⟩ = ({ w with bag := bagOut w.bag (p : Nat) },0) := by
 unfold moves; dsimp only; rw [if_pos (.inr rfl),if_neg (by omega),if_neg (by omega)]
theorem mv10_f {w : WorldD} {s m : Int} {p : Nat} {t : List UInt8} {ad : AddrD} {le : LetterD} (h : ¬ p < w.bag.length ∨ 40 ≤ w.bag.length) : moves w ⟨10,s,(p : Nat),m,t,ad,le⟩ = (w,1) := by
 unfold moves; dsimp only; rw [if_neg (by omega),if_pos rfl,if_pos (by omega)]
theorem mv10_t {w : WorldD} {s m : Int} {p : Nat} {t : List UInt8} {ad : AddrD} {le : LetterD} (h : p < w.bag.length) (h2 : ¬ 40 ≤ w.bag.length) : moves w ⟨10,s,(p : Nat),m,t,ad,le⟩ = ({ w with bag := w.bag ++ [w.bag[p]] },0) := by
 unfold moves; dsimp only; rw [if_neg (by omega),if_pos rfl,if_neg (by omega),leAt_get h]
theorem mv11_f {w : WorldD} {s m p : Int} {t : List UInt8} {ad : AddrD} {le : LetterD} (h : mayInject w le = false) : moves w ⟨11,s,p,m,t,ad,le⟩ = (w,2) := by
 unfold moves; dsimp only; rw [if_neg (by omega),if_neg (by omega),if_pos rfl,if_pos h]
theorem mv11_b {w : WorldD} {s m p : Int} {t : List UInt8} {ad : AddrD} {le : LetterD} (h : mayInject w le = true) (h2 : 40 ≤ w.bag.length) : moves w ⟨11,s,p,m,t,ad,le⟩ = (w,1) := by
 unfold moves; dsimp only; rw [if_neg (by omega),if_neg (by omega),if_pos rfl,if_neg (by simp [h]),if_pos h2]
theorem mv11_t {w : WorldD} {s m p : Int} {t : List UInt8} {ad : AddrD} {le : LetterD} (h : mayInject w le = true) (h2 : ¬ 40 ≤ w.bag.length) : moves w ⟨11,s,p,m,t,ad,le⟩ = ({ w with bag := w.bag ++ [le] },0) := by
 unfold moves; dsimp only; rw [if_neg (by omega),if_neg (by omega),if_pos rfl,if_neg (by simp [h]),if_neg h2]
theorem mv12_f {w : WorldD} {s m : Int} {p : Nat} {t : List UInt8} {ad : AddrD} {le : LetterD} (h : ¬ p < w.past.length) : moves w ⟨12,s,(p : Nat),m,t,ad,le⟩ = (w,1) := by
 unfold moves; dsimp only; rw [if_neg (by omega),if_neg (by omega),if_neg (by omega),if_pos (.inl (by omega))]
theorem mv12_b {w : WorldD} {s m : Int} {p : Nat} {t : List UInt8} {ad : AddrD} {le : LetterD} (h : p < w.past.length) (h2 : sideAt w.past[p].to = 0 ∨ 40 ≤ w.bag.length) : moves w ⟨12,s,(p : Nat),m,t,ad,le⟩ = (w,1) := by
 unfold moves; dsimp only; rw [if_neg (by omega),if_neg (by omega),if_neg (by omega),leAt_get h,if_pos (.inr h2)]
theorem mv12_t {w : WorldD} {s m : Int} {p : Nat} {t : List UInt8} {ad : AddrD} {le : LetterD} (h : p < w.past.length) (h1 : ¬ sideAt w.past[p].to = 0) (h2 : ¬ 40 ≤ w.bag.length) : moves w ⟨12,s,(p : Nat),m,t,ad,le⟩ = ({ w with bag := w.bag ++ [w.past[p]] },0) := by
 unfold moves; dsimp only; rw [if_neg (by omega),if_neg (by omega),if_neg (by omega),leAt_get h,if_neg (by omega)]
end
section
open Go.RowKit

theorem spec_l24Bag8 (w : WorldD) (side many : Int) (p : Nat) (text : List UInt8) (ad : AddrD) (le : LetterD) (hw : SmallD w) :
  CallA Tryz.prog 169 [.ag (w.cs 0),.ag (ActD.cs ⟨8,side,(p : Nat),many,text,ad,le⟩)] (w.hp true) (.tu [.ag (WorldD.cs (moves w ⟨8,side,(p : Nat),many,text,ad,le⟩).1 21),.sc (.int .i64 (moves w ⟨8,side,(p : Nat),many,text,ad,le⟩).2)])
  ([none,none,none,none,none,none,none,none,none,none,none,none,none,none,none,none,none,none,none,none,none] ++ WorldD.hp (moves w ⟨8,side,(p : Nat),many,text,ad,le⟩).1 true) := by
 have hbag := hw.p.s.bag
 obtain ⟨R,hR⟩ : ∃ R,R = moves w ⟨8,side,(p : Nat),many,text,ad,le⟩ := ⟨_,rfl⟩
 rw [← hR]
 by_cases hp : p < w.bag.length
 ·rw [mv8_t hp] at hR
  have hO := spec_l24Out w.bag p hbag hp
  rw [← bagOut_len hp,← bagOut_eq] at hO
  obtain ⟨B,hBe⟩ : ∃ B,B = bagOut w.bag (p : Nat) := ⟨_,rfl⟩
  have hB : B.length ≤ 1048576 := by rw [hBe,bagOut_len hp]; omega
  have hx := map_get (enc := LetterD.cs) hp
  rw [← hBe] at hR hO
  clear hBe
  generalize hxx : w.bag[p] = x at *
  have hL := spec_Lands { w with bag := B } x ⟨⟨hw.p.s.a,hw.p.s.b,hB,hw.p.s.past,hw.p.s.keys,hw.p.s.tags,hw.p.s.nums,hw.p.s.ansA,hw.p.s.ansB⟩,hw.p.pa,hw.p.pb⟩
  obtain ⟨L,hLe⟩ : ∃ L,L = lands { w with bag := B } x := ⟨_,rfl⟩
  rw [← hLe] at hL hR
  clear hLe
  subst hR
  dsimp only
  refine qEO Tryz.func169 Tryz.ntmps169 Tryz.results169 fun E hE => ?_
  try simp (disch := omega) only [go_sem,Nat.reduceEqDiff,Nat.reduceAdd,Nat.reduceSub,Int.reduceAdd,Int.reduceSub,Int.reduceToNat,hx,hxx]
  refine qK (hO) (qA [14]) ?_
  refine qK (hL) (qA [0,1,2,3,4,5,6,7,8,9,10,11,12,13,25,15,16,17,18,19,20]) ?_
  exact qFO (qA [0,1,2,3,4,5,6,7,8,9,10,11,12,13,14,15,16,17,18,19,20,26,27,28,29,30,31,32,33,34,35,36,37,38,39,40,41,42,43,44,45,46])
 ·rw [mv8_f hp] at hR
  subst hR
  dsimp only
  refine qEO Tryz.func169 Tryz.ntmps169 Tryz.results169 fun E hE => ?_
  exact qFO (qA [0,1,2,3,4,5,6,7,8,9,10,11,12,13,14,15,16,17,18,19,20,0,1,2,3,4,5,6,7,8,9,10,11,12,13,14,15,16,17,18,19,20])
theorem spec_l24Bag9 (w : WorldD) (side many : Int) (p : Nat) (text : List UInt8) (ad : AddrD) (le : LetterD) (hw : SmallD w) :
  CallA Tryz.prog 169 [.ag (w.cs 0),.ag (ActD.cs ⟨9,side,(p : Nat),many,text,ad,le⟩)] (w.hp true) (.tu [.ag (WorldD.cs (moves w ⟨9,side,(p : Nat),many,text,ad,le⟩).1 21),.sc (.int .i64 (moves w ⟨9,side,(p : Nat),many,text,ad,le⟩).2)])
  ([none,none,none,none,none,none,none,none,none,none,none,none,none,none,none,none,none,none,none,none,none] ++ WorldD.hp (moves w ⟨9,side,(p : Nat),many,text,ad,le⟩).1 true) := by
 have hbag := hw.p.s.bag
 obtain ⟨R,hR⟩ : ∃ R,R = moves w ⟨9,side,(p : Nat),many,text,ad,le⟩ := ⟨_,rfl⟩
 rw [← hR]
 by_cases hp : p < w.bag.length
 ·rw [mv9_t hp] at hR
  have hO := spec_l24Out w.bag p hbag hp
  rw [← bagOut_len hp,← bagOut_eq] at hO
  obtain ⟨B,hBe⟩ : ∃ B,B = bagOut w.bag (p : Nat) := ⟨_,rfl⟩
  have hB : B.length ≤ 1048576 := by rw [hBe,bagOut_len hp]; omega
  have hx := map_get (enc := LetterD.cs) hp
  rw [← hBe] at hR hO
  clear hBe
  generalize hxx : w.bag[p] = x at *
  subst hR
  dsimp only
  refine qEO Tryz.func169 Tryz.ntmps169 Tryz.results169 fun E hE => ?_
  try simp (disch := omega) only [go_sem,Nat.reduceEqDiff,Nat.reduceAdd,Nat.reduceSub,Int.reduceAdd,Int.reduceSub,Int.reduceToNat,hx,hxx]
  refine qK (hO) (qA [14]) ?_
  exact qFO (qA [0,1,2,3,4,5,6,7,8,9,10,11,12,13,14,15,16,17,18,19,20,0,1,2,3,4,5,6,7,8,9,10,11,12,13,25,15,16,17,18,19,20])
 ·rw [mv9_f hp] at hR
  subst hR
  dsimp only
  refine qEO Tryz.func169 Tryz.ntmps169 Tryz.results169 fun E hE => ?_
  exact qFO (qA [0,1,2,3,4,5,6,7,8,9,10,11,12,13,14,15,16,17,18,19,20,0,1,2,3,4,5,6,7,8,9,10,11,12,13,14,15,16,17,18,19,20])
theorem spec_l24Bag10 (w : WorldD) (side many : Int) (p : Nat) (text : List UInt8) (ad : AddrD) (le : LetterD) (hw : SmallD w) :
  CallA Tryz.prog 169 [.ag (w.cs 0),.ag (ActD.cs ⟨10,side,(p : Nat),many,text,ad,le⟩)] (w.hp true) (.tu [.ag (WorldD.cs (moves w ⟨10,side,(p : Nat),many,text,ad,le⟩).1 21),.sc (.int .i64 (moves w ⟨10,side,(p : Nat),many,text,ad,le⟩).2)])
  ([none,none,none,none,none,none,none,none,none,none,none,none,none,none,none,none,none,none,none,none,none] ++ WorldD.hp (moves w ⟨10,side,(p : Nat),many,text,ad,le⟩).1 true) := by
 have hbag := hw.p.s.bag
 obtain ⟨R,hR⟩ : ∃ R,R = moves w ⟨10,side,(p : Nat),many,text,ad,le⟩ := ⟨_,rfl⟩
 rw [← hR]
 by_cases hp : p < w.bag.length ∧ ¬ 40 ≤ w.bag.length
 ·obtain ⟨hp,h4⟩ := hp
  rw [mv10_t hp h4] at hR
  have hx := map_get (enc := LetterD.cs) hp
  generalize hxx : w.bag[p] = x at *
  subst hR
  dsimp only
  refine qEO Tryz.func169 Tryz.ntmps169 Tryz.results169 fun E hE => ?_
  try simp (disch := omega) only [go_sem,Nat.reduceEqDiff,Nat.reduceAdd,Nat.reduceSub,Int.reduceAdd,Int.reduceSub,Int.reduceToNat,hx,hxx]
  refine den_finO (qA [0,1,2,3,4,5,6,7,8,9,10,11,12,13,14,15,16,17,18,19,20,0,1,2,3,4,5,6,7,8,9,10,11,12,13,26,15,16,17,18,19,20]) (qC) _ (by simp only [go_sem]; rfl) (by rfl) (by rfl) ?_
  simp (disch := omega) only [go_sem,Nat.reduceEqDiff,Nat.reduceAdd,Nat.reduceSub,Int.reduceAdd,Int.reduceSub,Int.reduceToNat]
  simp [LetterD.cs]
 ·rw [mv10_f (by omega)] at hR
  subst hR
  dsimp only
  by_cases hq : p < w.bag.length
  ·have h4 : 40 ≤ w.bag.length := by omega
   have hx := map_get (enc := LetterD.cs) hq
   generalize hxx : w.bag[p] = x at *
   refine qEO Tryz.func169 Tryz.ntmps169 Tryz.results169 fun E hE => ?_
   try simp (disch := omega) only [go_sem,Nat.reduceEqDiff,Nat.reduceAdd,Nat.reduceSub,Int.reduceAdd,Int.reduceSub,Int.reduceToNat,hx,hxx]
   exact qFO (qA [0,1,2,3,4,5,6,7,8,9,10,11,12,13,14,15,16,17,18,19,20,0,1,2,3,4,5,6,7,8,9,10,11,12,13,14,15,16,17,18,19,20])
  ·refine qEO Tryz.func169 Tryz.ntmps169 Tryz.results169 fun E hE => ?_
   exact qFO (qA [0,1,2,3,4,5,6,7,8,9,10,11,12,13,14,15,16,17,18,19,20,0,1,2,3,4,5,6,7,8,9,10,11,12,13,14,15,16,17,18,19,20])
end
section
open Go.RowKit

end
section
open Go.RowKit

end
section
open Go.RowKit

theorem spec_Tick (e : EndD) (hs : Small e) (ht : e.out.text.length ≤ 1048576) : CallA Tryz.prog 154 [.ag (e.cs 0)] (e.hp false) (.tu [.ag ((tick e).1.cs 7),.sc (.sl 14 0 (tick e).2.length)])
  (e.hp false ++ ((tick e).1.hp true ++ [some ⟨(tick e).2.map LetterD.cs,19,67,true,true⟩])) := by
 have hC := spec_l17Copy e (by have := hs.own; omega) (by have := hs.far; omega) (by have := hs.subs; omega) (by have := hs.halfs; omega) (by have := hs.list; omega) (by have := hs.done; omega) (by have := hs.over; omega)
 have hK := spec_EndOk e (by have := hs.own; omega) (by have := hs.far; omega) (by have := hs.subs; omega) (by have := hs.halfs; omega) (by have := hs.list; omega) (by have := hs.done; omega) (by have := hs.over; omega)
 have hsb := hs.subs
 have hso := hs.own
 have hsh := hs.halfs
 have hF := spec_Filled e.bucket
 have hY := spec_Younger e.halfs (e.now + 1) hs.halfs
 have hAn := spec_Anew e.out
 have hyl := younger_le e.halfs (e.now + 1)
 have hat : (anew e.out).text.length ≤ 1048576 := by rw [anew]; split <;> exact ht
 have hf := tick_f (e := e)
 have hto := tick_o (e := e)
 have hti := tick_i (e := e)
 have htu := @tick_u e
 have hok : tkE e = (endOk e && decide (e.now < 1000000000) && e.subs.all fun s => decide (s.tries < 1000000000)) := rfl
 have hsm0 : Small { e with now := e.now + 1,bucket := filled e.bucket,halfs := younger e.halfs (e.now + 1),out := anew e.out } := ⟨hs.own,hs.far,hs.subs,by dsimp only; omega,hs.list,hs.done,hs.over⟩
 have hsm1 : Small { e with now := e.now + 1,bucket := filled e.bucket,halfs := younger e.halfs (e.now + 1),out := anew e.out,subs := e.subs.map tickS } := ⟨hs.own,hs.far,by dsimp only; rw [List.length_map]; exact hs.subs,by dsimp only; omega,hs.list,hs.done,hs.over⟩
 have hfl : (e.subs.flatMap (tickL e)).length ≤ e.subs.length := flat_le (tickL_one e) _
 obtain ⟨R,hR⟩ : ∃ R,R = tick e := ⟨_,rfl⟩
 rw [← hR] at hf hto hti
 simp only [← hR] at htu
 rw [← hR]
 clear hR
 refine qEO Tryz.func154 Tryz.ntmps154 Tryz.results154 fun E hE => ?_
 refine qK (hC) (qA [0,1,2,3,4,5,6]) ?_
 refine qK (hK) (qA [0,1,2,3,4,5,6]) ?_
 refine qB (fun h1 => ?_) fun h1 => ?_
 ·have hnow := endOk_now h1
  by_cases h2 : e.now < 1000000000
  ·refine qX ?_
   refine den_lpO 7 hE (fun s (i : Nat) => s.at [0,3,11,12,13,14,15,16,17,18,19,20,21,22,23,24,25,26,27,28,29,30,31,32,33,34,35,36,37,38,39] [(6,.sc (.int .i64 (i : Nat)))] (s.hp)) (fun (i : Nat) => i ≤ e.subs.length ∧ (e.subs.drop i).all (fun s => decide (s.tries < 1000000000)) = e.subs.all (fun s => decide (s.tries < 1000000000))) (fun (i : Nat) => e.subs.length - i) 0 (qA [0,1,2,3,4,5,6,7,8,9,10,11,12,13,14,15,16,17]) (qC) (⟨Nat.zero_le _,rfl⟩) (weak_mkO (by rfl) (by rfl) ?_) fun i hi N hN => ?_
   ·exact qY
   ·obtain ⟨g1,g2⟩ := hi
    refine qR ?_
    refine qB (fun b => ?_) fun b => ?_
    ·rw [allD_step b] at g2
     have hg := map_get (enc := SubD.cs) b
     have hsub := endOk_sub h1 b
     try simp (disch := omega) only [go_sem,Nat.reduceEqDiff,Nat.reduceAdd,Nat.reduceSub,Int.reduceAdd,Int.reduceSub,Int.reduceToNat,hg]
     refine qB (fun b2 => ?_) fun b2 => ?_
     ·rw [decide_eq_false (by omega),Bool.false_and] at g2
      rw [hf (by rw [hok,← g2]; simp)]
      refine qX ?_
      exact qFO (qA [0,1,2,3,4,5,6,9,10,11,12,13,14,15,17])
     ·rw [decide_eq_true (by omega),Bool.true_and] at g2
      refine qX ?_
      exact qNO hN (i + 1) (qA [0,1,2,3,4,5,6,7,8,9,10,11,12,13,14,15,16,17]) (by (try dsimp only); exact ⟨by omega,g2⟩)
    ·rw [List.drop_eq_nil_of_le (by omega),List.all_nil] at g2
     have hall := g2.symm
     have hall2 : ∀ (k : Nat) (hk : k < e.subs.length),e.subs[k].tries < 1000000000 := fun k hk => by
      have := List.all_eq_true.1 hall e.subs[k] (List.getElem_mem hk)
      simpa using this
     have htk : tkE e = true := by rw [hok,h1,decide_eq_true h2,hall]; rfl
     refine qX ?_
     refine qK (hF) [] ?_
     refine qK (hY) (qA [3]) ?_
     refine qK (hAn) [] ?_
     obtain ⟨tk,htk1⟩ : ∃ f : SubD → SubD,f = fun s => if e.state = 2 then tickS s else s := ⟨_,rfl⟩
     obtain ⟨tl,htl1⟩ : ∃ f : SubD → List LetterD,f = fun s => if e.state = 2 then tickL e s else [] := ⟨_,rfl⟩
     have hR := htu htk htk1 htl1
     have hsmu : Small { e with now := e.now + 1,bucket := filled e.bucket,halfs := younger e.halfs (e.now + 1),out := anew e.out,subs := e.subs.map tk } := ⟨hs.own,hs.far,by dsimp only; rw [List.length_map]; exact hs.subs,by dsimp only; omega,hs.list,hs.done,hs.over⟩
     have hflu : (e.subs.flatMap tl).length ≤ e.subs.length := flat_le (fun s => by rw [htl1]; dsimp only; split; exact tickL_one e s; simp) _
     obtain ⟨LL,hLL⟩ : ∃ L,L = e.subs.flatMap tl := ⟨_,rfl⟩
     rw [← hLL] at hR hflu
     clear htu hto hti hf
     refine qX ?_
     refine den_lpO 7 hE (fun s (y : Nat × List LetterD) => s.at [0,6,8,11,12,13,14,15,16,17,18,19,20,21,22,23,24,25,26,27,28,29,30,31,32,33,34,35,36,37,38,39,40,41,42,43,44,45,46,47,48,49,50,51,52,53,54,55,56,57,58,59,60,61,62,63,64,65,66,67,68,69,70,71,72,73,74,75,76,77,78,79,80,81,82,83,84,85,86,87,88,89,90,91,92,93,94,95,96,97,98,99,100,101,102,103,104,105,106,107,108,109,110,111,112,113,114,115,116,117,118,119,120,121,122,123,124,125,126,127,128,129,130] [(7,.sc (.int .i64 (y.1 : Nat))),(5,.sc (.sl 17 0 y.2.length))] ((s.hp.set 11 (some ⟨(stepN tk e.subs y.1).map SubD.cs,10,78,true,true⟩)).set 17 (some ⟨y.2.map LetterD.cs,19,67,true,true⟩))) (fun (y : Nat × List LetterD) => y.1 ≤ e.subs.length ∧ y.2.length ≤ y.1 ∧ LL = y.2 ++ (e.subs.drop y.1).flatMap tl) (fun (y : Nat × List LetterD) => e.subs.length - y.1) (0,[]) (qA [0,1,2,3,4,5,6,7,8,9,10,11,12,13,14,15,16,17,18]) (qC) (⟨Nat.zero_le _,Nat.zero_le _,hLL⟩) (weak_mkO (by rfl) (by rfl) ?_) fun y hy N2 hN2 => ?_
     ·try simp (disch := omega) only [go_sem,Nat.reduceEqDiff,Nat.reduceAdd,Nat.reduceSub,Int.reduceAdd,Int.reduceSub,Int.reduceToNat]
      try rw [stepN_zero]
     ·obtain ⟨k,l⟩ := y
      obtain ⟨f1,f2,f3⟩ := hy
      dsimp only at f1 f2 f3
      refine run_den 400 ?_
      have hgl : (stepN tk e.subs k).length = e.subs.length := stepN_len
      refine qX ?_
      by_cases hopen : k < e.subs.length ∧ e.state = 2
      ·obtain ⟨b,h2s⟩ := hopen
       have etk : tk = tickS := by rw [htk1]; funext s; exact if_pos h2s
       have etl : tl = tickL e := by rw [htl1]; funext s; exact if_pos h2s
       clear htk1 htl1
       subst etk etl
       refine qX ?_
       have hg := stepN_get (f := tickS) b
       have hsub := endOk_sub h1 b
       have htr := hall2 k b
       rw [flatD_step b] at f3
       have hset := stepN_set (f := tickS) b
       have hsame := stepN_same (f := tickS) b
       obtain ⟨s0,hs0⟩ : ∃ s,s = e.subs[k] := ⟨_,rfl⟩
       rw [← hs0] at hsub htr f3 hset hsame
       have hg' : ∀ p : k < (stepN tickS e.subs k).length,(stepN tickS e.subs k)[k]'p = s0 := fun p => by rw [hg p,hs0]
       clear hg
       by_cases c1 : s0.state = 1 ∨ s0.state = 2
       ·by_cases c2 : s0.state = 2 ∧ 9 ≤ s0.tries + 1
        ·have tS := tickS_gone c2.1 c2.2
         rw [tickL_gone c2.1 c2.2,List.nil_append] at f3
         obtain ⟨c3,c4⟩ := c2
         try simp (disch := omega) only [go_sem,Nat.reduceEqDiff,Nat.reduceAdd,Nat.reduceSub,Int.reduceAdd,Int.reduceSub,Int.reduceToNat,hg',c3]
         refine ⟨qC,hN2 _ (k + 1,l) (qA [0,1,2,3,4,5,6,7,8,9,10,11,12,13,14,15,16,17,18]) (by (try dsimp only); exact ⟨by omega,by omega,f3⟩) (by (try dsimp only); omega) (weak_mkO (by rfl) (by rfl) ?_)⟩
         refine qX ?_
         rw [← hset,tS,List.map_set]
         try simp [SubD.cs,c3]
        ·have tS := tickS_on c1 c2
         by_cases c5 : (s0.tries + 1).tmod 3 = 0
         ·rcases c1 with c1 | c1
          ·rw [tickL_ask c1 c5] at f3
           have hL : CallA Tryz.prog 178 [.ag (EndD.cs { e with now := e.now + 1,bucket := filled e.bucket,halfs := younger e.halfs (e.now + 1),out := anew e.out,subs := (stepN tickS e.subs k).set k { s0 with tries := s0.tries + 1,state := 1 } } 0),.ag (SubD.cs { s0 with state := 1 })] (EndD.hp { e with now := e.now + 1,bucket := filled e.bucket,halfs := younger e.halfs (e.now + 1),out := anew e.out,subs := (stepN tickS e.subs k).set k { s0 with tries := s0.tries + 1,state := 1 } } false) (.ag (joinL' e s0).cs) (EndD.hp { e with now := e.now + 1,bucket := filled e.bucket,halfs := younger e.halfs (e.now + 1),out := anew e.out,subs := (stepN tickS e.subs k).set k { s0 with tries := s0.tries + 1,state := 1 } } false) := spec_l19Asks _ _ (show inR e.side 1 2 = true from endOk_side h1)
           try simp (disch := omega) only [go_sem,Nat.reduceEqDiff,Nat.reduceAdd,Nat.reduceSub,Int.reduceAdd,Int.reduceSub,Int.reduceToNat,hg',c1,c5]
           refine qK (hL) (qA [9,10,11,18,13,14,15]) ?_
           refine ⟨qC,hN2 _ (k + 1,l ++ [joinL' e s0]) (qA [0,1,2,3,4,5,6,7,8,9,10,11,12,13,14,15,16,21,18]) (by (try dsimp only); exact ⟨by omega,by simp; omega,by simpa using f3⟩) (by (try dsimp only); omega) (weak_mkO (by rfl) (by rfl) ?_)⟩
           refine qX ?_
           rw [← hset,tS,List.map_set]
           try simp [SubD.cs,c1,LetterD.cs]
          ·rw [tickL_prove c1 (by omega) c5] at f3
           have hL : CallA Tryz.prog 179 [.ag (EndD.cs { e with now := e.now + 1,bucket := filled e.bucket,halfs := younger e.halfs (e.now + 1),out := anew e.out,subs := (stepN tickS e.subs k).set k { s0 with tries := s0.tries + 1,state := 2 } } 0),.ag (SubD.cs { s0 with state := 2 })] (EndD.hp { e with now := e.now + 1,bucket := filled e.bucket,halfs := younger e.halfs (e.now + 1),out := anew e.out,subs := (stepN tickS e.subs k).set k { s0 with tries := s0.tries + 1,state := 2 } } false) (.ag (doneLetter e s0).cs) (EndD.hp { e with now := e.now + 1,bucket := filled e.bucket,halfs := younger e.halfs (e.now + 1),out := anew e.out,subs := (stepN tickS e.subs k).set k { s0 with tries := s0.tries + 1,state := 2 } } false) := spec_l19Proves _ _
           try simp (disch := omega) only [go_sem,Nat.reduceEqDiff,Nat.reduceAdd,Nat.reduceSub,Int.reduceAdd,Int.reduceSub,Int.reduceToNat,hg',c1,c5]
           refine qK (hL) (qA [9,10,11,18,13,14,15]) ?_
           refine ⟨qC,hN2 _ (k + 1,l ++ [doneLetter e s0]) (qA [0,1,2,3,4,5,6,7,8,9,10,11,12,13,14,15,16,21,18]) (by (try dsimp only); exact ⟨by omega,by simp; omega,by simpa using f3⟩) (by (try dsimp only); omega) (weak_mkO (by rfl) (by rfl) ?_)⟩
           refine qX ?_
           rw [← hset,tS,List.map_set]
           try simp [SubD.cs,c1,LetterD.cs]
         ·rw [tickL_wait c1 c2 c5,List.nil_append] at f3
          have c6 : 0 < (s0.tries + 1).tmod 3 := by have := Int.tmod_nonneg 3 (show 0 ≤ s0.tries + 1 by omega); omega
          rcases c1 with c1 | c1
          ·try simp (disch := omega) only [go_sem,Nat.reduceEqDiff,Nat.reduceAdd,Nat.reduceSub,Int.reduceAdd,Int.reduceSub,Int.reduceToNat,hg',c1]
           refine ⟨qC,hN2 _ (k + 1,l) (qA [0,1,2,3,4,5,6,7,8,9,10,11,12,13,14,15,16,17,18]) (by (try dsimp only); exact ⟨by omega,by omega,f3⟩) (by (try dsimp only); omega) (weak_mkO (by rfl) (by rfl) ?_)⟩
           refine qX ?_
           rw [← hset,tS,List.map_set]
           try simp [SubD.cs,c1]
          ·try simp (disch := omega) only [go_sem,Nat.reduceEqDiff,Nat.reduceAdd,Nat.reduceSub,Int.reduceAdd,Int.reduceSub,Int.reduceToNat,hg',c1]
           refine ⟨qC,hN2 _ (k + 1,l) (qA [0,1,2,3,4,5,6,7,8,9,10,11,12,13,14,15,16,17,18]) (by (try dsimp only); exact ⟨by omega,by omega,f3⟩) (by (try dsimp only); omega) (weak_mkO (by rfl) (by rfl) ?_)⟩
           refine qX ?_
           rw [← hset,tS,List.map_set]
           try simp [SubD.cs,c1]
       ·rw [tickL_none c1,List.nil_append] at f3
        try simp (disch := omega) only [go_sem,Nat.reduceEqDiff,Nat.reduceAdd,Nat.reduceSub,Int.reduceAdd,Int.reduceSub,Int.reduceToNat,hg']
        refine ⟨qC,hN2 _ (k + 1,l) (qA [0,1,2,3,4,5,6,7,8,9,10,11,12,13,14,15,16,17,18]) (by (try dsimp only); exact ⟨by omega,by omega,f3⟩) (by (try dsimp only); omega) (weak_mkO (by rfl) (by rfl) ?_)⟩
        refine qX ?_
        rw [hsame (tickS_same c1)]
      ·have hst : stepN tk e.subs k = e.subs.map tk := by
        by_cases h2s : e.state = 2
        ·rw [show k = e.subs.length by omega,stepN_all]
        ·have hid : ∀ s,tk s = s := fun s => by rw [htk1]; exact if_neg h2s
         have hf2 : tk = fun s => s := funext hid
         rw [stepN_id hid,hf2]; simp
       have hlf : LL = l := by
        by_cases h2s : e.state = 2
        ·rw [f3,List.drop_eq_nil_of_le (by omega),List.flatMap_nil,List.append_nil]
        ·have hf2 : tl = fun s => [] := by rw [htl1]; funext s; exact if_neg h2s
         rw [f3,hf2]; simp
       rw [hst]
       subst hlf
       by_cases b : k < e.subs.length
       all_goals
        have hT := spec_TellAddrs { e with now := e.now + 1,bucket := filled e.bucket,halfs := younger e.halfs (e.now + 1),out := anew e.out,subs := e.subs.map tk } hsmu
        have hTl := tellAddrs_le { e with now := e.now + 1,bucket := filled e.bucket,halfs := younger e.halfs (e.now + 1),out := anew e.out,subs := e.subs.map tk }
        have hml : (e.subs.map tk).length = e.subs.length := List.length_map ..
        rw [tickEnd] at hR
        obtain ⟨EX,hEX⟩ : ∃ E,E = { e with now := e.now + 1,bucket := filled e.bucket,halfs := younger e.halfs (e.now + 1),out := anew e.out,subs := e.subs.map tk } := ⟨_,rfl⟩
        rw [← hEX] at hR
        have hsx : Small EX := by rw [hEX]; exact hsmu
        have hatx : EX.out.text.length ≤ 1048576 := by rw [hEX]; exact hat
        obtain ⟨TT,hTT⟩ : ∃ T,T = tellAddrs EX := ⟨_,rfl⟩
        rw [← hTT] at hR
        rw [← hEX,← hTT] at hTl
        rw [show tellAddrs { e with now := e.now + 1,bucket := filled e.bucket,halfs := younger e.halfs (e.now + 1),out := anew e.out,subs := e.subs.map tk } = TT by rw [hTT,hEX]] at hT
        have hxo : EX.own.length ≤ 1048576 := hsx.own
        refine qX ?_
        refine qK (hT) (qA [9,10,11,18,13,14,15]) ?_
        refine den_lpO 7 hE (fun s (y : Nat × EndD × List LetterD) => s.at [0,1,6,7,8,10,11,12,13,14,15,16,17,18,19,20,21,22,23,24,25,26,27,28,29,30,31,32,33,34,35,36,37,38,39,40,41,42,43,44,45,46,47,48,49,50,51,52,53,54,55,56,57,58,59,60,61,62,63,64,65,66,67,68,69,70,71,72,73,74,75,76,77,78,79,80,81,82,83,84,85,86,87,88,89,90,91,92,93,94,95,96,97,98,99,100,101,102,103,104,105,106,107,108,109,110,111,112,113,114,115,116,117,118,119,120,121,122,123,124,125,126,127,128,129,130,131,132,133,134,135,136,137,138,139,140,141,142,143,144,145,146,147] [(9,.sc (.int .i64 (y.1 : Nat))),(5,.sc (.sl 17 0 y.2.2.length))] ((s.hp.take 9) ++ (y.2.1.hp true ++ [some ⟨[y.2.1.cs 9],25,38,true,false⟩,some ⟨y.2.2.map LetterD.cs,19,67,true,true⟩]))) (fun (y : Nat × EndD × List LetterD) => y.1 ≤ 3 ∧ Small y.2.1 ∧ y.2.1.out.text.length ≤ 1048576 ∧ y.2.2.length ≤ 2097152 + y.1 ∧ R = ((pushN (3 - y.1) y.2.1).1,y.2.2 ++ (pushN (3 - y.1) y.2.1).2)) (fun (y : Nat × EndD × List LetterD) => 3 - y.1) (0,EX,LL ++ TT) (qA [0,1,2,3,4,5,6,7,8,9,10,11,18,13,14,15,16,20]) (qC) (⟨by omega,hsx,hatx,by simp only [List.length_append]; omega,hR⟩) (weak_mkO (by rfl) (by rfl) ?_) fun y hy N2 hN2 => ?_
        ·rw [hEX]
         try simp (disch := omega) only [go_sem,Nat.reduceEqDiff,Nat.reduceAdd,Nat.reduceSub,Int.reduceAdd,Int.reduceSub,Int.reduceToNat]
         try simp
        ·obtain ⟨n,e1,l⟩ := y
         obtain ⟨h1',h2',h3',h4',h5'⟩ := hy
         dsimp only at h1' h2' h3' h4' h5'
         have hP := spec_Push e1 h2' h3'
         have hp1 := push_one e1
         have hps := push_small h2'
         have hpt : (push e1).1.out.text.length ≤ 1048576 := by rw [push_text]; exact h3'
         refine qR ?_
         refine qB (fun b3 => ?_) fun b3 => ?_
         ·rw [pushN_step (by omega)] at h5'
          obtain ⟨pr,hpr⟩ : ∃ p,p = push e1 := ⟨_,rfl⟩
          rw [← hpr] at hP hp1 hps hpt h5'
          obtain ⟨e2,l2⟩ := pr
          dsimp only at hP hp1 hps hpt h5'
          rw [← List.append_assoc] at h5'
          refine qX ?_
          refine qK (hP) (qA [9,10,11,12,13,14,15]) ?_
          refine ⟨qC,hN2 _ (n + 1,e2,l ++ l2) (qA [0,1,2,3,4,5,6,7,8,19,20,21,22,23,24,25,16,27]) (by (try dsimp only); exact ⟨by omega,hps,hpt,by simp only [List.length_append]; omega,h5'⟩) (by (try dsimp only); omega) (weak_mkO (by rfl) (by rfl) ?_)⟩
          try simp (disch := omega) only [go_sem,Nat.reduceEqDiff,Nat.reduceAdd,Nat.reduceSub,Int.reduceAdd,Int.reduceSub,Int.reduceToNat]
          try simp
         ·have e3 : n = 3 := by omega
          subst e3
          simp only [Nat.sub_self,pushN,List.append_nil] at h5'
          subst h5'
          refine qX ?_
          exact qFO (qA [0,1,2,3,4,5,6,9,10,11,12,13,14,15,17])
  ·rw [hf (by rw [hok]; simp [h2])]
   refine qX ?_
   exact qFO (qA [0,1,2,3,4,5,6,9,10,11,12,13,14,15,17])
 ·rw [hf (by rw [hok]; simp [h1])]
  refine qX ?_
  exact qFO (qA [0,1,2,3,4,5,6,9,10,11,12,13,14,15,17])
end
section
open Go.RowKit

theorem spec_l24End1_1 (w : WorldD) (pos many : Int) (text : List UInt8) (ad : AddrD) (le : LetterD) (hw : SmallD w) (htx : text.length ≤ 1048576) :
  CallA Tryz.prog 167 [.ag (w.cs 0),.ag (ActD.cs ⟨1,1,pos,many,text,ad,le⟩)] (w.hp false) (.tu [.ag (WorldD.cs (postL 1 { w with wroteA := w.wroteA ++ text.take (write w.a text).2,a := (writeAll w.a text).1 } (writeAll w.a text).2) 21),.sc (.int .i64 0)]) (w.hp false ++ WorldD.hp (postL 1 { w with wroteA := w.wroteA ++ text.take (write w.a text).2,a := (writeAll w.a text).1 } (writeAll w.a text).2) true) := by
 have hX := spec_WriteAll w.a text hw.p.s.a htx (write_text hw.oa)
 have hsm := writeAll_small (t := text) hw.p.s.a
 have hlen := writeAll_len w.a text
 have hEA : CallA Tryz.prog 189 [.ag (w.cs 0),.sc (.int .i64 1)] (w.hp false) (.ag (w.a.cs 21)) (w.hp false ++ w.a.hp true) := spec_EndAt w 1 hw.p.s.a.own hw.p.s.a.far hw.p.s.a.subs hw.p.s.a.halfs hw.p.s.a.list hw.p.s.a.done hw.p.s.a.over hw.p.s.b.own hw.p.s.b.far hw.p.s.b.subs hw.p.s.b.halfs hw.p.s.b.list hw.p.s.b.done hw.p.s.b.over
 have hX2 := spec_Write w.a text hw.p.s.a htx
 have hwl := write_le w.a text
 obtain ⟨wr,hwr⟩ : ∃ p,p = write w.a text := ⟨_,rfl⟩
 rw [← hwr] at hX2 hwl ⊢
 obtain ⟨e0,n0⟩ := wr
 dsimp only at hX2 hwl ⊢
 obtain ⟨pr,hpr⟩ : ∃ p,p = writeAll w.a text := ⟨_,rfl⟩
 rw [← hpr] at hX hsm hlen ⊢
 obtain ⟨e1,l1⟩ := pr
 dsimp only at hX hsm hlen ⊢
 have hset := spec_l23Set1 { w with wroteA := w.wroteA ++ text.take n0 } e1
 have hpost := spec_Posted1 { w with wroteA := w.wroteA ++ text.take n0,a := e1 } l1 ⟨hsm,hw.p.s.b,hw.p.s.bag,hw.p.s.past,hw.p.s.keys,hw.p.s.tags,hw.p.s.nums,hw.p.s.ansA,hw.p.s.ansB⟩ (by first | omega | simp)
 have hends := postL_ends (side := 1) (l := l1) (w := { w with wroteA := w.wroteA ++ text.take n0,a := e1 })
 obtain ⟨R,hR⟩ : ∃ R,R = postL 1 { w with wroteA := w.wroteA ++ text.take n0,a := e1 } l1 := ⟨_,rfl⟩
 rw [← hR] at hpost hends ⊢
 clear hR
 obtain ⟨ra,rb,bag,past,wA,wB,rA,rB,known,nums,nsA,nsB⟩ := R
 obtain ⟨keys,tags⟩ := known
 dsimp only at hends
 obtain ⟨g1,g2,g3,g4,g5,g6⟩ := hends
 replace g1 := g1.symm
 replace g2 := g2.symm
 replace g3 := g3.symm
 replace g4 := g4.symm
 replace g5 := g5.symm
 replace g6 := g6.symm
 subst g1 g2 g3 g4 g5 g6
 have htk : (text.take n0).length ≤ 1048576 := by rw [List.length_take]; omega
 have hWr := spec_l24Wrote w 1 (text.take n0) [] hw.s htk (by simp)
 rw [wroteB_1] at hWr
 refine qEO Tryz.func167 Tryz.ntmps167 Tryz.results167 fun E hE => ?_
 refine qK (hEA) (qA [0,1,2,3,4,5,6,7,8,9,10,11,12,13,14,15,16,17,18,19,20]) ?_
 refine qK (hX2) (qA [24,25,26,27,28,29,30]) ?_
 refine qD [0,1,2,3,4,5,6,7,8] ?_
 refine qKD (hWr) (qA [0,1,2,3,4,5,6,7,8,9,10,11,12,13,14,15,16,17,18,19,20]) ?_
 refine ⟨qC,run_den 400 ?_⟩
 try simp (disch := omega) only [go_sem,Nat.reduceEqDiff,Nat.reduceAdd,Nat.reduceSub,Int.reduceAdd,Int.reduceSub,Int.reduceToNat,wrote,gotRead]
 refine qK (hX) (qA [24,25,26,27,28,29,30]) ?_
 refine qD [0,1,2,3,5,6,7,4,8,9,10] ?_
 refine qKD (hset) (qA [0,1,2,3,4,5,6,7,8,9,10,11,12,13,14,15,16,17,18,19,20,41,42,43,44,45,46,47]) ?_
 refine qKD (hpost) (qA [41,42,43,44,45,46,47,7,8,9,10,11,12,13,14,15,16,17,18,19,20,48]) ?_
 refine qG ?_
 exact qFO (qA [0,1,2,3,4,5,6,7,8,9,10,11,12,13,14,15,16,17,18,19,20,49,50,51,52,53,54,55,56,57,58,59,60,61,62,63,64,65,66,67,68,69])
theorem spec_l24End2_1 (w : WorldD) (pos many : Int) (text : List UInt8) (ad : AddrD) (le : LetterD) (hw : SmallD w) (htx : text.length ≤ 1048576) :
  CallA Tryz.prog 167 [.ag (w.cs 0),.ag (ActD.cs ⟨2,1,pos,many,text,ad,le⟩)] (w.hp false) (.tu [.ag (WorldD.cs (postL 1 { w with readA := w.readA ++ (readE w.a many).2,a := ((readE w.a many).1,([] : List LetterD)).1 } ((readE w.a many).1,([] : List LetterD)).2) 21),.sc (.int .i64 0)]) (w.hp false ++ WorldD.hp (postL 1 { w with readA := w.readA ++ (readE w.a many).2,a := ((readE w.a many).1,([] : List LetterD)).1 } ((readE w.a many).1,([] : List LetterD)).2) true) := by
 have hX := spec_Read w.a many hw.p.s.a hw.p.pa
 have hsm := readE_small (m := many) hw.p.s.a
 have hEA : CallA Tryz.prog 189 [.ag (w.cs 0),.sc (.int .i64 1)] (w.hp false) (.ag (w.a.cs 21)) (w.hp false ++ w.a.hp true) := spec_EndAt w 1 hw.p.s.a.own hw.p.s.a.far hw.p.s.a.subs hw.p.s.a.halfs hw.p.s.a.list hw.p.s.a.done hw.p.s.a.over hw.p.s.b.own hw.p.s.b.far hw.p.s.b.subs hw.p.s.b.halfs hw.p.s.b.list hw.p.s.b.done hw.p.s.b.over
 obtain ⟨pr,hpr⟩ : ∃ p,p = readE w.a many := ⟨_,rfl⟩
 have hrl : (readE w.a many).2.length ≤ 1048576 := readE_len hw.p.pa
 rw [← hpr] at hX hsm hrl ⊢
 obtain ⟨e1,t1⟩ := pr
 dsimp only at hX hsm hrl ⊢
 obtain ⟨l1,hl1⟩ : ∃ l : List LetterD,l = [] := ⟨_,rfl⟩
 have hlen : l1.length ≤ 1 := by rw [hl1]; simp
 have hset := spec_l23Set1 { w with readA := w.readA ++ t1 } e1
 have hpost := spec_Posted1 { w with readA := w.readA ++ t1,a := e1 } [] ⟨hsm,hw.p.s.b,hw.p.s.bag,hw.p.s.past,hw.p.s.keys,hw.p.s.tags,hw.p.s.nums,hw.p.s.ansA,hw.p.s.ansB⟩ (by first | omega | simp)
 have hends := postL_ends (side := 1) (l := []) (w := { w with readA := w.readA ++ t1,a := e1 })
 obtain ⟨R,hR⟩ : ∃ R,R = postL 1 { w with readA := w.readA ++ t1,a := e1 } [] := ⟨_,rfl⟩
 rw [← hR] at hpost hends ⊢
 clear hR
 obtain ⟨ra,rb,bag,past,wA,wB,rA,rB,known,nums,nsA,nsB⟩ := R
 obtain ⟨keys,tags⟩ := known
 dsimp only at hends
 obtain ⟨g1,g2,g3,g4,g5,g6⟩ := hends
 replace g1 := g1.symm
 replace g2 := g2.symm
 replace g3 := g3.symm
 replace g4 := g4.symm
 replace g5 := g5.symm
 replace g6 := g6.symm
 subst g1 g2 g3 g4 g5 g6
 have hWr := spec_l24Wrote w 1 [] t1 hw.s (by simp) hrl
 rw [wroteB_2] at hWr
 refine qEO Tryz.func167 Tryz.ntmps167 Tryz.results167 fun E hE => ?_
 refine qK (hEA) (qA [0,1,2,3,4,5,6,7,8,9,10,11,12,13,14,15,16,17,18,19,20]) ?_
 refine qK (hX) (qA [24,25,26,27,28,29,30]) ?_
 refine qK (hWr) (qA [0,1,2,3,4,5,6,7,8,9,10,11,12,13,14,15,16,17,18,19,20]) ?_
 try simp (disch := omega) only [go_sem,Nat.reduceEqDiff,Nat.reduceAdd,Nat.reduceSub,Int.reduceAdd,Int.reduceSub,Int.reduceToNat,wrote,gotRead]
 refine qD [0,1,2,3,5,6,7,4,8,9,10] ?_
 refine qKD (hset) (qA [0,1,2,3,4,5,6,7,8,9,10,11,12,13,14,15,16,17,18,19,20,33,34,35,36,37,38,39]) ?_
 refine qKD (hpost) (qA [33,34,35,36,37,38,39,7,8,9,10,11,12,13,14,15,16,17,18,19,20,32]) ?_
 refine qG ?_
 exact qFO (qA [0,1,2,3,4,5,6,7,8,9,10,11,12,13,14,15,16,17,18,19,20,40,41,42,43,44,45,46,47,48,49,50,51,52,53,54,55,56,57,58,59,60])
theorem spec_l24End4_1 (w : WorldD) (pos many : Int) (text : List UInt8) (ad : AddrD) (le : LetterD) (hw : SmallD w) (htx : text.length ≤ 1048576) :
  CallA Tryz.prog 167 [.ag (w.cs 0),.ag (ActD.cs ⟨4,1,pos,many,text,ad,le⟩)] (w.hp false) (.tu [.ag (WorldD.cs (postL 1 { w with a := (manage w.a).1 } (manage w.a).2) 21),.sc (.int .i64 0)]) (w.hp false ++ WorldD.hp (postL 1 { w with a := (manage w.a).1 } (manage w.a).2) true) := by
 have hX := spec_Manage w.a hw.p.s.a
 have hsm := manage_small hw.p.s.a
 have hlen := manage_len w.a
 have hEA : CallA Tryz.prog 189 [.ag (w.cs 0),.sc (.int .i64 1)] (w.hp false) (.ag (w.a.cs 21)) (w.hp false ++ w.a.hp true) := spec_EndAt w 1 hw.p.s.a.own hw.p.s.a.far hw.p.s.a.subs hw.p.s.a.halfs hw.p.s.a.list hw.p.s.a.done hw.p.s.a.over hw.p.s.b.own hw.p.s.b.far hw.p.s.b.subs hw.p.s.b.halfs hw.p.s.b.list hw.p.s.b.done hw.p.s.b.over
 obtain ⟨pr,hpr⟩ : ∃ p,p = manage w.a := ⟨_,rfl⟩
 rw [← hpr] at hX hsm hlen ⊢
 obtain ⟨e1,l1⟩ := pr
 dsimp only at hX hsm hlen ⊢
 have hset := spec_l23Set1 w e1
 have hpost := spec_Posted1 { w with a := e1 } l1 ⟨hsm,hw.p.s.b,hw.p.s.bag,hw.p.s.past,hw.p.s.keys,hw.p.s.tags,hw.p.s.nums,hw.p.s.ansA,hw.p.s.ansB⟩ (by first | omega | simp)
 have hends := postL_ends (side := 1) (l := l1) (w := { w with a := e1 })
 obtain ⟨R,hR⟩ : ∃ R,R = postL 1 { w with a := e1 } l1 := ⟨_,rfl⟩
 rw [← hR] at hpost hends ⊢
 clear hR
 obtain ⟨ra,rb,bag,past,wA,wB,rA,rB,known,nums,nsA,nsB⟩ := R
 obtain ⟨keys,tags⟩ := known
 dsimp only at hends
 obtain ⟨g1,g2,g3,g4,g5,g6⟩ := hends
 replace g1 := g1.symm
 replace g2 := g2.symm
 replace g3 := g3.symm
 replace g4 := g4.symm
 replace g5 := g5.symm
 replace g6 := g6.symm
 subst g1 g2 g3 g4 g5 g6
 refine qEO Tryz.func167 Tryz.ntmps167 Tryz.results167 fun E hE => ?_
 refine qK (hEA) (qA [0,1,2,3,4,5,6,7,8,9,10,11,12,13,14,15,16,17,18,19,20]) ?_
 refine qK (hX) (qA [24,25,26,27,28,29,30]) ?_
 refine qD [0,1,2,3,5,6,7,4,8,9,10] ?_
 refine qKD (hset) (qA [0,1,2,3,4,5,6,7,8,9,10,11,12,13,14,15,16,17,18,19,20,33,34,35,36,37,38,39]) ?_
 refine qKD (hpost) (qA [33,34,35,36,37,38,39,7,8,9,10,11,12,13,14,15,16,17,18,19,20,40]) ?_
 refine qG ?_
 exact qFO (qA [0,1,2,3,4,5,6,7,8,9,10,11,12,13,14,15,16,17,18,19,20,41,42,43,44,45,46,47,48,49,50,51,52,53,54,55,56,57,58,59,60,61])
theorem spec_l24End5_1 (w : WorldD) (pos many : Int) (text : List UInt8) (ad : AddrD) (le : LetterD) (hw : SmallD w) (htx : text.length ≤ 1048576) (hsd : sideAt ad.addr = 1) (hgood : (addOwn w.a ad).2 = true) :
  CallA Tryz.prog 167 [.ag (w.cs 0),.ag (ActD.cs ⟨5,1,pos,many,text,ad,le⟩)] (w.hp false) (.tu [.ag (WorldD.cs (postL 1 { w with a := ((addOwn w.a ad).1,([] : List LetterD)).1 } ((addOwn w.a ad).1,([] : List LetterD)).2) 21),.sc (.int .i64 0)]) (w.hp false ++ WorldD.hp (postL 1 { w with a := ((addOwn w.a ad).1,([] : List LetterD)).1 } ((addOwn w.a ad).1,([] : List LetterD)).2) true) := by
 have hX := spec_AddOwn w.a ad hw.p.s.a
 have hsm := addOwn_small (a := ad) hw.p.s.a
 have hEA : CallA Tryz.prog 189 [.ag (w.cs 0),.sc (.int .i64 1)] (w.hp false) (.ag (w.a.cs 21)) (w.hp false ++ w.a.hp true) := spec_EndAt w 1 hw.p.s.a.own hw.p.s.a.far hw.p.s.a.subs hw.p.s.a.halfs hw.p.s.a.list hw.p.s.a.done hw.p.s.a.over hw.p.s.b.own hw.p.s.b.far hw.p.s.b.subs hw.p.s.b.halfs hw.p.s.b.list hw.p.s.b.done hw.p.s.b.over
 obtain ⟨pr,hpr⟩ : ∃ p,p = addOwn w.a ad := ⟨_,rfl⟩
 rw [← hpr] at hX hsm hgood ⊢
 obtain ⟨e1,ok1⟩ := pr
 dsimp only at hX hsm hgood ⊢
 subst hgood
 obtain ⟨l1,hl1⟩ : ∃ l : List LetterD,l = [] := ⟨_,rfl⟩
 have hlen : l1.length ≤ 1 := by rw [hl1]; simp
 have hset := spec_l23Set1 w e1
 have hpost := spec_Posted1 { w with a := e1 } [] ⟨hsm,hw.p.s.b,hw.p.s.bag,hw.p.s.past,hw.p.s.keys,hw.p.s.tags,hw.p.s.nums,hw.p.s.ansA,hw.p.s.ansB⟩ (by first | omega | simp)
 have hends := postL_ends (side := 1) (l := []) (w := { w with a := e1 })
 obtain ⟨R,hR⟩ : ∃ R,R = postL 1 { w with a := e1 } [] := ⟨_,rfl⟩
 rw [← hR] at hpost hends ⊢
 clear hR
 obtain ⟨ra,rb,bag,past,wA,wB,rA,rB,known,nums,nsA,nsB⟩ := R
 obtain ⟨keys,tags⟩ := known
 dsimp only at hends
 obtain ⟨g1,g2,g3,g4,g5,g6⟩ := hends
 replace g1 := g1.symm
 replace g2 := g2.symm
 replace g3 := g3.symm
 replace g4 := g4.symm
 replace g5 := g5.symm
 replace g6 := g6.symm
 subst g1 g2 g3 g4 g5 g6
 have hSd := spec_SideAt ad.addr
 rw [hsd] at hSd
 refine qEO Tryz.func167 Tryz.ntmps167 Tryz.results167 fun E hE => ?_
 refine qK (hEA) (qA [0,1,2,3,4,5,6,7,8,9,10,11,12,13,14,15,16,17,18,19,20]) ?_
 refine qK (hX) (qA [24,25,26,27,28,29,30]) ?_
 refine qD [0,1,2,3,4,5,7,8,6,9,10] ?_
 refine qKD (hSd) [] ?_
 refine qG ?_
 refine qD [0,1,2,3,5,6,7,4,8,9,10] ?_
 refine qKD (hset) (qA [0,1,2,3,4,5,6,7,8,9,10,11,12,13,14,15,16,17,18,19,20,33,34,35,36,37,38,39]) ?_
 refine qKD (hpost) (qA [33,34,35,36,37,38,39,7,8,9,10,11,12,13,14,15,16,17,18,19,20,32]) ?_
 refine qG ?_
 exact qFO (qA [0,1,2,3,4,5,6,7,8,9,10,11,12,13,14,15,16,17,18,19,20,40,41,42,43,44,45,46,47,48,49,50,51,52,53,54,55,56,57,58,59,60])
theorem spec_l24End6_1 (w : WorldD) (pos many : Int) (text : List UInt8) (ad : AddrD) (le : LetterD) (hw : SmallD w) (htx : text.length ≤ 1048576) :
  CallA Tryz.prog 167 [.ag (w.cs 0),.ag (ActD.cs ⟨6,1,pos,many,text,ad,le⟩)] (w.hp false) (.tu [.ag (WorldD.cs (postL 1 { w with a := (dropOwn w.a pos).1 } (dropOwn w.a pos).2) 21),.sc (.int .i64 0)]) (w.hp false ++ WorldD.hp (postL 1 { w with a := (dropOwn w.a pos).1 } (dropOwn w.a pos).2) true) := by
 have hX := spec_DropOwn w.a pos hw.p.s.a
 have hsm := dropOwn_small (n := pos) hw.p.s.a
 have hlen := dropOwn_len w.a pos hw.p.s.a
 have hEA : CallA Tryz.prog 189 [.ag (w.cs 0),.sc (.int .i64 1)] (w.hp false) (.ag (w.a.cs 21)) (w.hp false ++ w.a.hp true) := spec_EndAt w 1 hw.p.s.a.own hw.p.s.a.far hw.p.s.a.subs hw.p.s.a.halfs hw.p.s.a.list hw.p.s.a.done hw.p.s.a.over hw.p.s.b.own hw.p.s.b.far hw.p.s.b.subs hw.p.s.b.halfs hw.p.s.b.list hw.p.s.b.done hw.p.s.b.over
 obtain ⟨pr,hpr⟩ : ∃ p,p = dropOwn w.a pos := ⟨_,rfl⟩
 rw [← hpr] at hX hsm hlen ⊢
 obtain ⟨e1,l1⟩ := pr
 dsimp only at hX hsm hlen ⊢
 have hset := spec_l23Set1 w e1
 have hpost := spec_Posted1 { w with a := e1 } l1 ⟨hsm,hw.p.s.b,hw.p.s.bag,hw.p.s.past,hw.p.s.keys,hw.p.s.tags,hw.p.s.nums,hw.p.s.ansA,hw.p.s.ansB⟩ (by first | omega | simp)
 have hends := postL_ends (side := 1) (l := l1) (w := { w with a := e1 })
 obtain ⟨R,hR⟩ : ∃ R,R = postL 1 { w with a := e1 } l1 := ⟨_,rfl⟩
 rw [← hR] at hpost hends ⊢
 clear hR
 obtain ⟨ra,rb,bag,past,wA,wB,rA,rB,known,nums,nsA,nsB⟩ := R
 obtain ⟨keys,tags⟩ := known
 dsimp only at hends
 obtain ⟨g1,g2,g3,g4,g5,g6⟩ := hends
 replace g1 := g1.symm
 replace g2 := g2.symm
 replace g3 := g3.symm
 replace g4 := g4.symm
 replace g5 := g5.symm
 replace g6 := g6.symm
 subst g1 g2 g3 g4 g5 g6
 refine qEO Tryz.func167 Tryz.ntmps167 Tryz.results167 fun E hE => ?_
 refine qK (hEA) (qA [0,1,2,3,4,5,6,7,8,9,10,11,12,13,14,15,16,17,18,19,20]) ?_
 refine qK (hX) (qA [24,25,26,27,28,29,30]) ?_
 refine qD [0,1,2,3,5,6,7,4,8,9,10] ?_
 refine qKD (hset) (qA [0,1,2,3,4,5,6,7,8,9,10,11,12,13,14,15,16,17,18,19,20,33,34,35,36,37,38,39]) ?_
 refine qKD (hpost) (qA [33,34,35,36,37,38,39,7,8,9,10,11,12,13,14,15,16,17,18,19,20,40]) ?_
 refine qG ?_
 exact qFO (qA [0,1,2,3,4,5,6,7,8,9,10,11,12,13,14,15,16,17,18,19,20,41,42,43,44,45,46,47,48,49,50,51,52,53,54,55,56,57,58,59,60,61])
theorem spec_l24End7_1 (w : WorldD) (pos many : Int) (text : List UInt8) (ad : AddrD) (le : LetterD) (hw : SmallD w) (htx : text.length ≤ 1048576) :
  CallA Tryz.prog 167 [.ag (w.cs 0),.ag (ActD.cs ⟨7,1,pos,many,text,ad,le⟩)] (w.hp false) (.tu [.ag (WorldD.cs (postL 1 { w with a := (resetE w.a pos).1 } (resetE w.a pos).2) 21),.sc (.int .i64 0)]) (w.hp false ++ WorldD.hp (postL 1 { w with a := (resetE w.a pos).1 } (resetE w.a pos).2) true) := by
 have hX := spec_Reset w.a pos hw.p.s.a
 have hsm := resetE_small (k := pos) hw.p.s.a
 have hlen := resetE_len w.a pos
 have hEA : CallA Tryz.prog 189 [.ag (w.cs 0),.sc (.int .i64 1)] (w.hp false) (.ag (w.a.cs 21)) (w.hp false ++ w.a.hp true) := spec_EndAt w 1 hw.p.s.a.own hw.p.s.a.far hw.p.s.a.subs hw.p.s.a.halfs hw.p.s.a.list hw.p.s.a.done hw.p.s.a.over hw.p.s.b.own hw.p.s.b.far hw.p.s.b.subs hw.p.s.b.halfs hw.p.s.b.list hw.p.s.b.done hw.p.s.b.over
 obtain ⟨pr,hpr⟩ : ∃ p,p = resetE w.a pos := ⟨_,rfl⟩
 rw [← hpr] at hX hsm hlen ⊢
 obtain ⟨e1,l1⟩ := pr
 dsimp only at hX hsm hlen ⊢
 have hset := spec_l23Set1 w e1
 have hpost := spec_Posted1 { w with a := e1 } l1 ⟨hsm,hw.p.s.b,hw.p.s.bag,hw.p.s.past,hw.p.s.keys,hw.p.s.tags,hw.p.s.nums,hw.p.s.ansA,hw.p.s.ansB⟩ (by first | omega | simp)
 have hends := postL_ends (side := 1) (l := l1) (w := { w with a := e1 })
 obtain ⟨R,hR⟩ : ∃ R,R = postL 1 { w with a := e1 } l1 := ⟨_,rfl⟩
 rw [← hR] at hpost hends ⊢
 clear hR
 obtain ⟨ra,rb,bag,past,wA,wB,rA,rB,known,nums,nsA,nsB⟩ := R
 obtain ⟨keys,tags⟩ := known
 dsimp only at hends
 obtain ⟨g1,g2,g3,g4,g5,g6⟩ := hends
 replace g1 := g1.symm
 replace g2 := g2.symm
 replace g3 := g3.symm
 replace g4 := g4.symm
 replace g5 := g5.symm
 replace g6 := g6.symm
 subst g1 g2 g3 g4 g5 g6
 refine qEO Tryz.func167 Tryz.ntmps167 Tryz.results167 fun E hE => ?_
 refine qK (hEA) (qA [0,1,2,3,4,5,6,7,8,9,10,11,12,13,14,15,16,17,18,19,20]) ?_
 refine qK (hX) (qA [24,25,26,27,28,29,30]) ?_
 refine qD [0,1,2,3,5,6,7,4,8,9,10] ?_
 refine qKD (hset) (qA [0,1,2,3,4,5,6,7,8,9,10,11,12,13,14,15,16,17,18,19,20,33,34,35,36,37,38,39]) ?_
 refine qKD (hpost) (qA [33,34,35,36,37,38,39,7,8,9,10,11,12,13,14,15,16,17,18,19,20,40]) ?_
 refine qG ?_
 exact qFO (qA [0,1,2,3,4,5,6,7,8,9,10,11,12,13,14,15,16,17,18,19,20,41,42,43,44,45,46,47,48,49,50,51,52,53,54,55,56,57,58,59,60,61])
theorem spec_l24End1_2 (w : WorldD) (pos many : Int) (text : List UInt8) (ad : AddrD) (le : LetterD) (hw : SmallD w) (htx : text.length ≤ 1048576) :
  CallA Tryz.prog 167 [.ag (w.cs 0),.ag (ActD.cs ⟨1,2,pos,many,text,ad,le⟩)] (w.hp false) (.tu [.ag (WorldD.cs (postL 2 { w with wroteB := w.wroteB ++ text.take (write w.b text).2,b := (writeAll w.b text).1 } (writeAll w.b text).2) 21),.sc (.int .i64 0)]) (w.hp false ++ WorldD.hp (postL 2 { w with wroteB := w.wroteB ++ text.take (write w.b text).2,b := (writeAll w.b text).1 } (writeAll w.b text).2) true) := by
 have hX := spec_WriteAll w.b text hw.p.s.b htx (write_text hw.ob)
 have hsm := writeAll_small (t := text) hw.p.s.b
 have hlen := writeAll_len w.b text
 have hEA : CallA Tryz.prog 189 [.ag (w.cs 0),.sc (.int .i64 2)] (w.hp false) (.ag (w.b.cs 21)) (w.hp false ++ w.b.hp true) := spec_EndAt w 2 hw.p.s.a.own hw.p.s.a.far hw.p.s.a.subs hw.p.s.a.halfs hw.p.s.a.list hw.p.s.a.done hw.p.s.a.over hw.p.s.b.own hw.p.s.b.far hw.p.s.b.subs hw.p.s.b.halfs hw.p.s.b.list hw.p.s.b.done hw.p.s.b.over
 have hX2 := spec_Write w.b text hw.p.s.b htx
 have hwl := write_le w.b text
 obtain ⟨wr,hwr⟩ : ∃ p,p = write w.b text := ⟨_,rfl⟩
 rw [← hwr] at hX2 hwl ⊢
 obtain ⟨e0,n0⟩ := wr
 dsimp only at hX2 hwl ⊢
 obtain ⟨pr,hpr⟩ : ∃ p,p = writeAll w.b text := ⟨_,rfl⟩
 rw [← hpr] at hX hsm hlen ⊢
 obtain ⟨e1,l1⟩ := pr
 dsimp only at hX hsm hlen ⊢
 have hset := spec_l23Set2 { w with wroteB := w.wroteB ++ text.take n0 } e1
 have hpost := spec_Posted2 { w with wroteB := w.wroteB ++ text.take n0,b := e1 } l1 ⟨hw.p.s.a,hsm,hw.p.s.bag,hw.p.s.past,hw.p.s.keys,hw.p.s.tags,hw.p.s.nums,hw.p.s.ansA,hw.p.s.ansB⟩ (by first | omega | simp)
 have hends := postL_ends (side := 2) (l := l1) (w := { w with wroteB := w.wroteB ++ text.take n0,b := e1 })
 obtain ⟨R,hR⟩ : ∃ R,R = postL 2 { w with wroteB := w.wroteB ++ text.take n0,b := e1 } l1 := ⟨_,rfl⟩
 rw [← hR] at hpost hends ⊢
 clear hR
 obtain ⟨ra,rb,bag,past,wA,wB,rA,rB,known,nums,nsA,nsB⟩ := R
 obtain ⟨keys,tags⟩ := known
 dsimp only at hends
 obtain ⟨g1,g2,g3,g4,g5,g6⟩ := hends
 replace g1 := g1.symm
 replace g2 := g2.symm
 replace g3 := g3.symm
 replace g4 := g4.symm
 replace g5 := g5.symm
 replace g6 := g6.symm
 subst g1 g2 g3 g4 g5 g6
 have htk : (text.take n0).length ≤ 1048576 := by rw [List.length_take]; omega
 have hWr := spec_l24Wrote w 2 (text.take n0) [] hw.s htk (by simp)
 rw [wroteB_1] at hWr
 refine qEO Tryz.func167 Tryz.ntmps167 Tryz.results167 fun E hE => ?_
 refine qK (hEA) (qA [0,1,2,3,4,5,6,7,8,9,10,11,12,13,14,15,16,17,18,19,20]) ?_
 refine qK (hX2) (qA [24,25,26,27,28,29,30]) ?_
 refine qD [0,1,2,3,4,5,6,7,8] ?_
 refine qKD (hWr) (qA [0,1,2,3,4,5,6,7,8,9,10,11,12,13,14,15,16,17,18,19,20]) ?_
 refine ⟨qC,run_den 400 ?_⟩
 try simp (disch := omega) only [go_sem,Nat.reduceEqDiff,Nat.reduceAdd,Nat.reduceSub,Int.reduceAdd,Int.reduceSub,Int.reduceToNat,wrote,gotRead]
 refine qK (hX) (qA [24,25,26,27,28,29,30]) ?_
 refine qD [0,1,2,3,5,6,7,4,8,9,10] ?_
 refine qKD (hset) (qA [0,1,2,3,4,5,6,7,8,9,10,11,12,13,14,15,16,17,18,19,20,41,42,43,44,45,46,47]) ?_
 refine qKD (hpost) (qA [0,1,2,3,4,5,6,41,42,43,44,45,46,47,14,15,16,17,18,19,20,48]) ?_
 refine qG ?_
 exact qFO (qA [0,1,2,3,4,5,6,7,8,9,10,11,12,13,14,15,16,17,18,19,20,49,50,51,52,53,54,55,56,57,58,59,60,61,62,63,64,65,66,67,68,69])
theorem spec_l24End2_2 (w : WorldD) (pos many : Int) (text : List UInt8) (ad : AddrD) (le : LetterD) (hw : SmallD w) (htx : text.length ≤ 1048576) :
  CallA Tryz.prog 167 [.ag (w.cs 0),.ag (ActD.cs ⟨2,2,pos,many,text,ad,le⟩)] (w.hp false) (.tu [.ag (WorldD.cs (postL 2 { w with readB := w.readB ++ (readE w.b many).2,b := ((readE w.b many).1,([] : List LetterD)).1 } ((readE w.b many).1,([] : List LetterD)).2) 21),.sc (.int .i64 0)]) (w.hp false ++ WorldD.hp (postL 2 { w with readB := w.readB ++ (readE w.b many).2,b := ((readE w.b many).1,([] : List LetterD)).1 } ((readE w.b many).1,([] : List LetterD)).2) true) := by
 have hX := spec_Read w.b many hw.p.s.b hw.p.pb
 have hsm := readE_small (m := many) hw.p.s.b
 have hEA : CallA Tryz.prog 189 [.ag (w.cs 0),.sc (.int .i64 2)] (w.hp false) (.ag (w.b.cs 21)) (w.hp false ++ w.b.hp true) := spec_EndAt w 2 hw.p.s.a.own hw.p.s.a.far hw.p.s.a.subs hw.p.s.a.halfs hw.p.s.a.list hw.p.s.a.done hw.p.s.a.over hw.p.s.b.own hw.p.s.b.far hw.p.s.b.subs hw.p.s.b.halfs hw.p.s.b.list hw.p.s.b.done hw.p.s.b.over
 obtain ⟨pr,hpr⟩ : ∃ p,p = readE w.b many := ⟨_,rfl⟩
 have hrl : (readE w.b many).2.length ≤ 1048576 := readE_len hw.p.pb
 rw [← hpr] at hX hsm hrl ⊢
 obtain ⟨e1,t1⟩ := pr
 dsimp only at hX hsm hrl ⊢
 obtain ⟨l1,hl1⟩ : ∃ l : List LetterD,l = [] := ⟨_,rfl⟩
 have hlen : l1.length ≤ 1 := by rw [hl1]; simp
 have hset := spec_l23Set2 { w with readB := w.readB ++ t1 } e1
 have hpost := spec_Posted2 { w with readB := w.readB ++ t1,b := e1 } [] ⟨hw.p.s.a,hsm,hw.p.s.bag,hw.p.s.past,hw.p.s.keys,hw.p.s.tags,hw.p.s.nums,hw.p.s.ansA,hw.p.s.ansB⟩ (by first | omega | simp)
 have hends := postL_ends (side := 2) (l := []) (w := { w with readB := w.readB ++ t1,b := e1 })
 obtain ⟨R,hR⟩ : ∃ R,R = postL 2 { w with readB := w.readB ++ t1,b := e1 } [] := ⟨_,rfl⟩
 rw [← hR] at hpost hends ⊢
 clear hR
 obtain ⟨ra,rb,bag,past,wA,wB,rA,rB,known,nums,nsA,nsB⟩ := R
 obtain ⟨keys,tags⟩ := known
 dsimp only at hends
 obtain ⟨g1,g2,g3,g4,g5,g6⟩ := hends
 replace g1 := g1.symm
 replace g2 := g2.symm
 replace g3 := g3.symm
 replace g4 := g4.symm
 replace g5 := g5.symm
 replace g6 := g6.symm
 subst g1 g2 g3 g4 g5 g6
 have hWr := spec_l24Wrote w 2 [] t1 hw.s (by simp) hrl
 rw [wroteB_2] at hWr
 refine qEO Tryz.func167 Tryz.ntmps167 Tryz.results167 fun E hE => ?_
 refine qK (hEA) (qA [0,1,2,3,4,5,6,7,8,9,10,11,12,13,14,15,16,17,18,19,20]) ?_
 refine qK (hX) (qA [24,25,26,27,28,29,30]) ?_
 refine qK (hWr) (qA [0,1,2,3,4,5,6,7,8,9,10,11,12,13,14,15,16,17,18,19,20]) ?_
 try simp (disch := omega) only [go_sem,Nat.reduceEqDiff,Nat.reduceAdd,Nat.reduceSub,Int.reduceAdd,Int.reduceSub,Int.reduceToNat,wrote,gotRead]
 refine qD [0,1,2,3,5,6,7,4,8,9,10] ?_
 refine qKD (hset) (qA [0,1,2,3,4,5,6,7,8,9,10,11,12,13,14,15,16,17,18,19,20,33,34,35,36,37,38,39]) ?_
 refine qKD (hpost) (qA [0,1,2,3,4,5,6,33,34,35,36,37,38,39,14,15,16,17,18,19,20,32]) ?_
 refine qG ?_
 exact qFO (qA [0,1,2,3,4,5,6,7,8,9,10,11,12,13,14,15,16,17,18,19,20,40,41,42,43,44,45,46,47,48,49,50,51,52,53,54,55,56,57,58,59,60])
theorem spec_l24End4_2 (w : WorldD) (pos many : Int) (text : List UInt8) (ad : AddrD) (le : LetterD) (hw : SmallD w) (htx : text.length ≤ 1048576) :
  CallA Tryz.prog 167 [.ag (w.cs 0),.ag (ActD.cs ⟨4,2,pos,many,text,ad,le⟩)] (w.hp false) (.tu [.ag (WorldD.cs (postL 2 { w with b := (manage w.b).1 } (manage w.b).2) 21),.sc (.int .i64 0)]) (w.hp false ++ WorldD.hp (postL 2 { w with b := (manage w.b).1 } (manage w.b).2) true) := by
 have hX := spec_Manage w.b hw.p.s.b
 have hsm := manage_small hw.p.s.b
 have hlen := manage_len w.b
 have hEA : CallA Tryz.prog 189 [.ag (w.cs 0),.sc (.int .i64 2)] (w.hp false) (.ag (w.b.cs 21)) (w.hp false ++ w.b.hp true) := spec_EndAt w 2 hw.p.s.a.own hw.p.s.a.far hw.p.s.a.subs hw.p.s.a.halfs hw.p.s.a.list hw.p.s.a.done hw.p.s.a.over hw.p.s.b.own hw.p.s.b.far hw.p.s.b.subs hw.p.s.b.halfs hw.p.s.b.list hw.p.s.b.done hw.p.s.b.over
 obtain ⟨pr,hpr⟩ : ∃ p,p = manage w.b := ⟨_,rfl⟩
 rw [← hpr] at hX hsm hlen ⊢
 obtain ⟨e1,l1⟩ := pr
 dsimp only at hX hsm hlen ⊢
 have hset := spec_l23Set2 w e1
 have hpost := spec_Posted2 { w with b := e1 } l1 ⟨hw.p.s.a,hsm,hw.p.s.bag,hw.p.s.past,hw.p.s.keys,hw.p.s.tags,hw.p.s.nums,hw.p.s.ansA,hw.p.s.ansB⟩ (by first | omega | simp)
 have hends := postL_ends (side := 2) (l := l1) (w := { w with b := e1 })
 obtain ⟨R,hR⟩ : ∃ R,R = postL 2 { w with b := e1 } l1 := ⟨_,rfl⟩
 rw [← hR] at hpost hends ⊢
 clear hR
 obtain ⟨ra,rb,bag,past,wA,wB,rA,rB,known,nums,nsA,nsB⟩ := R
 obtain ⟨keys,tags⟩ := known
 dsimp only at hends
 obtain ⟨g1,g2,g3,g4,g5,g6⟩ := hends
 replace g1 := g1.symm
 replace g2 := g2.symm
 replace g3 := g3.symm
 replace g4 := g4.symm
 replace g5 := g5.symm
 replace g6 := g6.symm
 subst g1 g2 g3 g4 g5 g6
 refine qEO Tryz.func167 Tryz.ntmps167 Tryz.results167 fun E hE => ?_
 refine qK (hEA) (qA [0,1,2,3,4,5,6,7,8,9,10,11,12,13,14,15,16,17,18,19,20]) ?_
 refine qK (hX) (qA [24,25,26,27,28,29,30]) ?_
 refine qD [0,1,2,3,5,6,7,4,8,9,10] ?_
 refine qKD (hset) (qA [0,1,2,3,4,5,6,7,8,9,10,11,12,13,14,15,16,17,18,19,20,33,34,35,36,37,38,39]) ?_
 refine qKD (hpost) (qA [0,1,2,3,4,5,6,33,34,35,36,37,38,39,14,15,16,17,18,19,20,40]) ?_
 refine qG ?_
 exact qFO (qA [0,1,2,3,4,5,6,7,8,9,10,11,12,13,14,15,16,17,18,19,20,41,42,43,44,45,46,47,48,49,50,51,52,53,54,55,56,57,58,59,60,61])
theorem spec_l24End5_2 (w : WorldD) (pos many : Int) (text : List UInt8) (ad : AddrD) (le : LetterD) (hw : SmallD w) (htx : text.length ≤ 1048576) (hsd : sideAt ad.addr = 2) (hgood : (addOwn w.b ad).2 = true) :
  CallA Tryz.prog 167 [.ag (w.cs 0),.ag (ActD.cs ⟨5,2,pos,many,text,ad,le⟩)] (w.hp false) (.tu [.ag (WorldD.cs (postL 2 { w with b := ((addOwn w.b ad).1,([] : List LetterD)).1 } ((addOwn w.b ad).1,([] : List LetterD)).2) 21),.sc (.int .i64 0)]) (w.hp false ++ WorldD.hp (postL 2 { w with b := ((addOwn w.b ad).1,([] : List LetterD)).1 } ((addOwn w.b ad).1,([] : List LetterD)).2) true) := by
 have hX := spec_AddOwn w.b ad hw.p.s.b
 have hsm := addOwn_small (a := ad) hw.p.s.b
 have hEA : CallA Tryz.prog 189 [.ag (w.cs 0),.sc (.int .i64 2)] (w.hp false) (.ag (w.b.cs 21)) (w.hp false ++ w.b.hp true) := spec_EndAt w 2 hw.p.s.a.own hw.p.s.a.far hw.p.s.a.subs hw.p.s.a.halfs hw.p.s.a.list hw.p.s.a.done hw.p.s.a.over hw.p.s.b.own hw.p.s.b.far hw.p.s.b.subs hw.p.s.b.halfs hw.p.s.b.list hw.p.s.b.done hw.p.s.b.over
 obtain ⟨pr,hpr⟩ : ∃ p,p = addOwn w.b ad := ⟨_,rfl⟩
 rw [← hpr] at hX hsm hgood ⊢
 obtain ⟨e1,ok1⟩ := pr
 dsimp only at hX hsm hgood ⊢
 subst hgood
 obtain ⟨l1,hl1⟩ : ∃ l : List LetterD,l = [] := ⟨_,rfl⟩
 have hlen : l1.length ≤ 1 := by rw [hl1]; simp
 have hset := spec_l23Set2 w e1
 have hpost := spec_Posted2 { w with b := e1 } [] ⟨hw.p.s.a,hsm,hw.p.s.bag,hw.p.s.past,hw.p.s.keys,hw.p.s.tags,hw.p.s.nums,hw.p.s.ansA,hw.p.s.ansB⟩ (by first | omega | simp)
 have hends := postL_ends (side := 2) (l := []) (w := { w with b := e1 })
 obtain ⟨R,hR⟩ : ∃ R,R = postL 2 { w with b := e1 } [] := ⟨_,rfl⟩
 rw [← hR] at hpost hends ⊢
 clear hR
 obtain ⟨ra,rb,bag,past,wA,wB,rA,rB,known,nums,nsA,nsB⟩ := R
 obtain ⟨keys,tags⟩ := known
 dsimp only at hends
 obtain ⟨g1,g2,g3,g4,g5,g6⟩ := hends
 replace g1 := g1.symm
 replace g2 := g2.symm
 replace g3 := g3.symm
 replace g4 := g4.symm
 replace g5 := g5.symm
 replace g6 := g6.symm
 subst g1 g2 g3 g4 g5 g6
 have hSd := spec_SideAt ad.addr
 rw [hsd] at hSd
 refine qEO Tryz.func167 Tryz.ntmps167 Tryz.results167 fun E hE => ?_
 refine qK (hEA) (qA [0,1,2,3,4,5,6,7,8,9,10,11,12,13,14,15,16,17,18,19,20]) ?_
 refine qK (hX) (qA [24,25,26,27,28,29,30]) ?_
 refine qD [0,1,2,3,4,5,7,8,6,9,10] ?_
 refine qKD (hSd) [] ?_
 refine qG ?_
 refine qD [0,1,2,3,5,6,7,4,8,9,10] ?_
 refine qKD (hset) (qA [0,1,2,3,4,5,6,7,8,9,10,11,12,13,14,15,16,17,18,19,20,33,34,35,36,37,38,39]) ?_
 refine qKD (hpost) (qA [0,1,2,3,4,5,6,33,34,35,36,37,38,39,14,15,16,17,18,19,20,32]) ?_
 refine qG ?_
 exact qFO (qA [0,1,2,3,4,5,6,7,8,9,10,11,12,13,14,15,16,17,18,19,20,40,41,42,43,44,45,46,47,48,49,50,51,52,53,54,55,56,57,58,59,60])
theorem spec_l24End6_2 (w : WorldD) (pos many : Int) (text : List UInt8) (ad : AddrD) (le : LetterD) (hw : SmallD w) (htx : text.length ≤ 1048576) :
  CallA Tryz.prog 167 [.ag (w.cs 0),.ag (ActD.cs ⟨6,2,pos,many,text,ad,le⟩)] (w.hp false) (.tu [.ag (WorldD.cs (postL 2 { w with b := (dropOwn w.b pos).1 } (dropOwn w.b pos).2) 21),.sc (.int .i64 0)]) (w.hp false ++ WorldD.hp (postL 2 { w with b := (dropOwn w.b pos).1 } (dropOwn w.b pos).2) true) := by
 have hX := spec_DropOwn w.b pos hw.p.s.b
 have hsm := dropOwn_small (n := pos) hw.p.s.b
 have hlen := dropOwn_len w.b pos hw.p.s.b
 have hEA : CallA Tryz.prog 189 [.ag (w.cs 0),.sc (.int .i64 2)] (w.hp false) (.ag (w.b.cs 21)) (w.hp false ++ w.b.hp true) := spec_EndAt w 2 hw.p.s.a.own hw.p.s.a.far hw.p.s.a.subs hw.p.s.a.halfs hw.p.s.a.list hw.p.s.a.done hw.p.s.a.over hw.p.s.b.own hw.p.s.b.far hw.p.s.b.subs hw.p.s.b.halfs hw.p.s.b.list hw.p.s.b.done hw.p.s.b.over
 obtain ⟨pr,hpr⟩ : ∃ p,p = dropOwn w.b pos := ⟨_,rfl⟩
 rw [← hpr] at hX hsm hlen ⊢
 obtain ⟨e1,l1⟩ := pr
 dsimp only at hX hsm hlen ⊢
 have hset := spec_l23Set2 w e1
 have hpost := spec_Posted2 { w with b := e1 } l1 ⟨hw.p.s.a,hsm,hw.p.s.bag,hw.p.s.past,hw.p.s.keys,hw.p.s.tags,hw.p.s.nums,hw.p.s.ansA,hw.p.s.ansB⟩ (by first | omega | simp)
 have hends := postL_ends (side := 2) (l := l1) (w := { w with b := e1 })
 obtain ⟨R,hR⟩ : ∃ R,R = postL 2 { w with b := e1 } l1 := ⟨_,rfl⟩
 rw [← hR] at hpost hends ⊢
 clear hR
 obtain ⟨ra,rb,bag,past,wA,wB,rA,rB,known,nums,nsA,nsB⟩ := R
 obtain ⟨keys,tags⟩ := known
 dsimp only at hends
 obtain ⟨g1,g2,g3,g4,g5,g6⟩ := hends
 replace g1 := g1.symm
 replace g2 := g2.symm
 replace g3 := g3.symm
 replace g4 := g4.symm
 replace g5 := g5.symm
 replace g6 := g6.symm
 subst g1 g2 g3 g4 g5 g6
 refine qEO Tryz.func167 Tryz.ntmps167 Tryz.results167 fun E hE => ?_
 refine qK (hEA) (qA [0,1,2,3,4,5,6,7,8,9,10,11,12,13,14,15,16,17,18,19,20]) ?_
 refine qK (hX) (qA [24,25,26,27,28,29,30]) ?_
 refine qD [0,1,2,3,5,6,7,4,8,9,10] ?_
 refine qKD (hset) (qA [0,1,2,3,4,5,6,7,8,9,10,11,12,13,14,15,16,17,18,19,20,33,34,35,36,37,38,39]) ?_
 refine qKD (hpost) (qA [0,1,2,3,4,5,6,33,34,35,36,37,38,39,14,15,16,17,18,19,20,40]) ?_
 refine qG ?_
 exact qFO (qA [0,1,2,3,4,5,6,7,8,9,10,11,12,13,14,15,16,17,18,19,20,41,42,43,44,45,46,47,48,49,50,51,52,53,54,55,56,57,58,59,60,61])
theorem spec_l24End7_2 (w : WorldD) (pos many : Int) (text : List UInt8) (ad : AddrD) (le : LetterD) (hw : SmallD w) (htx : text.length ≤ 1048576) :
  CallA Tryz.prog 167 [.ag (w.cs 0),.ag (ActD.cs ⟨7,2,pos,many,text,ad,le⟩)] (w.hp false) (.tu [.ag (WorldD.cs (postL 2 { w with b := (resetE w.b pos).1 } (resetE w.b pos).2) 21),.sc (.int .i64 0)]) (w.hp false ++ WorldD.hp (postL 2 { w with b := (resetE w.b pos).1 } (resetE w.b pos).2) true) := by
 have hX := spec_Reset w.b pos hw.p.s.b
 have hsm := resetE_small (k := pos) hw.p.s.b
 have hlen := resetE_len w.b pos
 have hEA : CallA Tryz.prog 189 [.ag (w.cs 0),.sc (.int .i64 2)] (w.hp false) (.ag (w.b.cs 21)) (w.hp false ++ w.b.hp true) := spec_EndAt w 2 hw.p.s.a.own hw.p.s.a.far hw.p.s.a.subs hw.p.s.a.halfs hw.p.s.a.list hw.p.s.a.done hw.p.s.a.over hw.p.s.b.own hw.p.s.b.far hw.p.s.b.subs hw.p.s.b.halfs hw.p.s.b.list hw.p.s.b.done hw.p.s.b.over
 obtain ⟨pr,hpr⟩ : ∃ p,p = resetE w.b pos := ⟨_,rfl⟩
 rw [← hpr] at hX hsm hlen ⊢
 obtain ⟨e1,l1⟩ := pr
 dsimp only at hX hsm hlen ⊢
 have hset := spec_l23Set2 w e1
 have hpost := spec_Posted2 { w with b := e1 } l1 ⟨hw.p.s.a,hsm,hw.p.s.bag,hw.p.s.past,hw.p.s.keys,hw.p.s.tags,hw.p.s.nums,hw.p.s.ansA,hw.p.s.ansB⟩ (by first | omega | simp)
 have hends := postL_ends (side := 2) (l := l1) (w := { w with b := e1 })
 obtain ⟨R,hR⟩ : ∃ R,R = postL 2 { w with b := e1 } l1 := ⟨_,rfl⟩
 rw [← hR] at hpost hends ⊢
 clear hR
 obtain ⟨ra,rb,bag,past,wA,wB,rA,rB,known,nums,nsA,nsB⟩ := R
 obtain ⟨keys,tags⟩ := known
 dsimp only at hends
 obtain ⟨g1,g2,g3,g4,g5,g6⟩ := hends
 replace g1 := g1.symm
 replace g2 := g2.symm
 replace g3 := g3.symm
 replace g4 := g4.symm
 replace g5 := g5.symm
 replace g6 := g6.symm
 subst g1 g2 g3 g4 g5 g6
 refine qEO Tryz.func167 Tryz.ntmps167 Tryz.results167 fun E hE => ?_
 refine qK (hEA) (qA [0,1,2,3,4,5,6,7,8,9,10,11,12,13,14,15,16,17,18,19,20]) ?_
 refine qK (hX) (qA [24,25,26,27,28,29,30]) ?_
 refine qD [0,1,2,3,5,6,7,4,8,9,10] ?_
 refine qKD (hset) (qA [0,1,2,3,4,5,6,7,8,9,10,11,12,13,14,15,16,17,18,19,20,33,34,35,36,37,38,39]) ?_
 refine qKD (hpost) (qA [0,1,2,3,4,5,6,33,34,35,36,37,38,39,14,15,16,17,18,19,20,40]) ?_
 refine qG ?_
 exact qFO (qA [0,1,2,3,4,5,6,7,8,9,10,11,12,13,14,15,16,17,18,19,20,41,42,43,44,45,46,47,48,49,50,51,52,53,54,55,56,57,58,59,60,61])
end
section
open Go.RowKit

theorem spec_l24End3_1 (w : WorldD) (pos many : Int) (text : List UInt8) (ad : AddrD) (le : LetterD) (hw : SmallD w) (htx : text.length ≤ 1048576) :
  CallA Tryz.prog 167 [.ag (w.cs 0),.ag (ActD.cs ⟨3,1,pos,many,text,ad,le⟩)] (w.hp false) (.tu [.ag (WorldD.cs (postL 1 { w with a := (tick w.a).1 } (tick w.a).2) 21),.sc (.int .i64 0)]) (w.hp false ++ WorldD.hp (postL 1 { w with a := (tick w.a).1 } (tick w.a).2) true) := by
 have hX := spec_Tick w.a hw.p.s.a hw.oa
 have hsm := tick_small hw.p.s.a
 have hlen := tick_len w.a
 have hEA : CallA Tryz.prog 189 [.ag (w.cs 0),.sc (.int .i64 1)] (w.hp false) (.ag (w.a.cs 21)) (w.hp false ++ w.a.hp true) := spec_EndAt w 1 hw.p.s.a.own hw.p.s.a.far hw.p.s.a.subs hw.p.s.a.halfs hw.p.s.a.list hw.p.s.a.done hw.p.s.a.over hw.p.s.b.own hw.p.s.b.far hw.p.s.b.subs hw.p.s.b.halfs hw.p.s.b.list hw.p.s.b.done hw.p.s.b.over
 obtain ⟨pr,hpr⟩ : ∃ p,p = tick w.a := ⟨_,rfl⟩
 rw [← hpr] at hX hsm hlen ⊢
 obtain ⟨e1,l1⟩ := pr
 dsimp only at hX hsm hlen ⊢
 have hset := spec_l23Set1 w e1
 have hpost := spec_Posted1 { w with a := e1 } l1 ⟨hsm,hw.p.s.b,hw.p.s.bag,hw.p.s.past,hw.p.s.keys,hw.p.s.tags,hw.p.s.nums,hw.p.s.ansA,hw.p.s.ansB⟩ (by first | omega | simp)
 have hends := postL_ends (side := 1) (l := l1) (w := { w with a := e1 })
 obtain ⟨R,hR⟩ : ∃ R,R = postL 1 { w with a := e1 } l1 := ⟨_,rfl⟩
 rw [← hR] at hpost hends ⊢
 clear hR
 obtain ⟨ra,rb,bag,past,wA,wB,rA,rB,known,nums,nsA,nsB⟩ := R
 obtain ⟨keys,tags⟩ := known
 dsimp only at hends
 obtain ⟨g1,g2,g3,g4,g5,g6⟩ := hends
 replace g1 := g1.symm
 replace g2 := g2.symm
 replace g3 := g3.symm
 replace g4 := g4.symm
 replace g5 := g5.symm
 replace g6 := g6.symm
 subst g1 g2 g3 g4 g5 g6
 refine qEO Tryz.func167 Tryz.ntmps167 Tryz.results167 fun E hE => ?_
 refine qK (hEA) (qA [0,1,2,3,4,5,6,7,8,9,10,11,12,13,14,15,16,17,18,19,20]) ?_
 refine qK (hX) (qA [24,25,26,27,28,29,30]) ?_
 refine qD [0,1,2,3,5,6,7,4,8,9,10] ?_
 refine qKD (hset) (qA [0,1,2,3,4,5,6,7,8,9,10,11,12,13,14,15,16,17,18,19,20,33,34,35,36,37,38,39]) ?_
 refine qKD (hpost) (qA [33,34,35,36,37,38,39,7,8,9,10,11,12,13,14,15,16,17,18,19,20,40]) ?_
 refine qG ?_
 exact qFO (qA [0,1,2,3,4,5,6,7,8,9,10,11,12,13,14,15,16,17,18,19,20,41,42,43,44,45,46,47,48,49,50,51,52,53,54,55,56,57,58,59,60,61])
theorem spec_l24End3_2 (w : WorldD) (pos many : Int) (text : List UInt8) (ad : AddrD) (le : LetterD) (hw : SmallD w) (htx : text.length ≤ 1048576) :
  CallA Tryz.prog 167 [.ag (w.cs 0),.ag (ActD.cs ⟨3,2,pos,many,text,ad,le⟩)] (w.hp false) (.tu [.ag (WorldD.cs (postL 2 { w with b := (tick w.b).1 } (tick w.b).2) 21),.sc (.int .i64 0)]) (w.hp false ++ WorldD.hp (postL 2 { w with b := (tick w.b).1 } (tick w.b).2) true) := by
 have hX := spec_Tick w.b hw.p.s.b hw.ob
 have hsm := tick_small hw.p.s.b
 have hlen := tick_len w.b
 have hEA : CallA Tryz.prog 189 [.ag (w.cs 0),.sc (.int .i64 2)] (w.hp false) (.ag (w.b.cs 21)) (w.hp false ++ w.b.hp true) := spec_EndAt w 2 hw.p.s.a.own hw.p.s.a.far hw.p.s.a.subs hw.p.s.a.halfs hw.p.s.a.list hw.p.s.a.done hw.p.s.a.over hw.p.s.b.own hw.p.s.b.far hw.p.s.b.subs hw.p.s.b.halfs hw.p.s.b.list hw.p.s.b.done hw.p.s.b.over
 obtain ⟨pr,hpr⟩ : ∃ p,p = tick w.b := ⟨_,rfl⟩
 rw [← hpr] at hX hsm hlen ⊢
 obtain ⟨e1,l1⟩ := pr
 dsimp only at hX hsm hlen ⊢
 have hset := spec_l23Set2 w e1
 have hpost := spec_Posted2 { w with b := e1 } l1 ⟨hw.p.s.a,hsm,hw.p.s.bag,hw.p.s.past,hw.p.s.keys,hw.p.s.tags,hw.p.s.nums,hw.p.s.ansA,hw.p.s.ansB⟩ (by first | omega | simp)
 have hends := postL_ends (side := 2) (l := l1) (w := { w with b := e1 })
 obtain ⟨R,hR⟩ : ∃ R,R = postL 2 { w with b := e1 } l1 := ⟨_,rfl⟩
 rw [← hR] at hpost hends ⊢
 clear hR
 obtain ⟨ra,rb,bag,past,wA,wB,rA,rB,known,nums,nsA,nsB⟩ := R
 obtain ⟨keys,tags⟩ := known
 dsimp only at hends
 obtain ⟨g1,g2,g3,g4,g5,g6⟩ := hends
 replace g1 := g1.symm
 replace g2 := g2.symm
 replace g3 := g3.symm
 replace g4 := g4.symm
 replace g5 := g5.symm
 replace g6 := g6.symm
 subst g1 g2 g3 g4 g5 g6
 refine qEO Tryz.func167 Tryz.ntmps167 Tryz.results167 fun E hE => ?_
 refine qK (hEA) (qA [0,1,2,3,4,5,6,7,8,9,10,11,12,13,14,15,16,17,18,19,20]) ?_
 refine qK (hX) (qA [24,25,26,27,28,29,30]) ?_
 refine qD [0,1,2,3,5,6,7,4,8,9,10] ?_
 refine qKD (hset) (qA [0,1,2,3,4,5,6,7,8,9,10,11,12,13,14,15,16,17,18,19,20,33,34,35,36,37,38,39]) ?_
 refine qKD (hpost) (qA [0,1,2,3,4,5,6,33,34,35,36,37,38,39,14,15,16,17,18,19,20,40]) ?_
 refine qG ?_
 exact qFO (qA [0,1,2,3,4,5,6,7,8,9,10,11,12,13,14,15,16,17,18,19,20,41,42,43,44,45,46,47,48,49,50,51,52,53,54,55,56,57,58,59,60,61])
end
end Go.Proofs.YtfakgekanapbnaaGreat
