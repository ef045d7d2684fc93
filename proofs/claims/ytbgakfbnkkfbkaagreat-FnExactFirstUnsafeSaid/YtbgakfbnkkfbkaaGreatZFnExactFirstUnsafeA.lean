/-
  Texts merged for this claim by shake.py: what its proof needs.
-/
import Derived.Tactics
import Derived.Below
import Derived.Laws.AppendOwn
import Derived.Laws.OwnMore
import Derived.Laws.Slices
import Derived.Laws.Small
import Derived.Laws.Strings
import Derived.KernelRfl
import Derived.Laws.MakeOwn
import Derived.Laws.BytesString
import Derived.Laws.BytesArg
import Derived.Laws.Build
import Derived.Laws.Concat
import Derived.Laws.StructEq
import Derived.Lib.ConvBytes
import Derived.Orders
import Derived.WalkKit
import Derived.ProofKit
import Derived.ShutString
import Derived.OpenShut
import Derived.ChangeOld
import Derived.Carry
import Derived.Test.YtbgakfbnkkfbkaaGreatChecked
import Derived.Laws.BitsLemmas
import Derived.JoinedOf
import Derived.Test.YtbgakfbnkkfbkaaGreatRows
import Derived.Test.YtbgakfbnkkfbkaaGreatZFnExactLivedA
set_option maxHeartbeats 16000000
set_option maxRecDepth 100000
set_option linter.unusedVariables false
set_option linter.unusedSimpArgs false
namespace Go.Proofs.YtbgakfbnkkfbkaaGreat
section
open Go.RowKit
section
variable {P:Program} {β:Be} {s:S} {a:Act} {w:World} {o:Oper} {r:OpR} {ty:TypeId}
end
end
section
open Go.RowKit
section
variable {P:Program} {β:Be} {s:S} {a:Act} {w:World} {o:Oper} {r:OpR} {ty:TypeId}
end
end
section
open Go.RowKit
section
variable {P:Program} {β:Be} {s:S} {a:Act} {w:World} {o:Oper} {r:OpR} {ty:TypeId}
end
end
section
open Go.RowKit
section
variable {P:Program} {β:Be} {s:S} {a:Act} {w:World} {o:Oper} {r:OpR} {ty:TypeId}
end
end
section
open Go.RowKit
section
variable {P:Program} {β:Be} {s:S} {a:Act} {w:World} {o:Oper} {r:OpR} {ty:TypeId}
end
end
section
open Go.RowKit
section
variable {β β0':Be} {ρ:Rho} {N:Nat}
end
end
section
open Go.RowKit
section
variable {P:Program} {β:Be} {s:S} {w:World} {tm:Array Value}
end
end
section
open Go.RowKit
section
variable {P:Program} {E:Entry} {F:S→Prop} {c q:Prop}
end
end
section
open Go.ChangeShapes Go.WideShapes Go.ChangeAt Go.RowKit
section
variable {H:Type} {enc:TypeId×Value→H} {P:Program} {w:World} {base:Nat} {held:Bool}
end
end
section
theorem cn {α:Type} {p:α→Bool} {l:List α} {k:Nat} (h:l.length≤k):(l.drop k).all p=true:=by
 rw [List.drop_eq_nil_of_le h,List.all_nil]
def a7 (side:Int) (s:SubD):Bool:=aZ s.road.own == side && aZ s.road.far == IntKind.i64.wrap (3 - side)
def a9 (e:EndD):Bool:=e.subs.all (a7 e.side)
def c5 (b:EndD) (f:AddrD):Bool:=gH b.own f.addr || lY b.done f.id
def hT (a b:EndD):Bool:=a.far.all (c5 b)
def ev (w:WorldD):Bool:=hT w.a w.b && hT w.b w.a
theorem ex {l:List SubD} {p:SubD→Bool}:∀ {r:List SubD} {k:Nat},r=l.drop k→(km k r).all (fun n=>p (bq l n))=r.all fun s=>s.state != 3 || p s
 |[],k,hr=>by simp [km]
 |s::r,k,hr=>by
  have hk:k < l.length:=by
   have:=congrArg List.length hr
   simp at this;omega
  rw [List.drop_eq_getElem_cons hk] at hr
  obtain⟨h1,h2⟩:=List.cons.inj hr
  rw [km,List.all_cons]
  split
  ·rename_i hs
   rw [List.all_cons,ex h2,ii hk,←h1]
   simp [hs]
  rename_i hs
  rw [ex h2]
  simp [hs]
theorem hX {l:List SubD} {p:SubD→Bool}:(gz l).all (fun n=>p (bq l n))=l.all fun s=>s.state != 3 || p s:=ex (by simp)
def bp (s:SubD) (on:Bool) (t:SubD):Bool:=(t.road.own == s.road.far && (t.road.far == s.road.own && t.road.port == s.road.port)) && t.take == s.give && t.give == s.take && (!on || t.state == 3)
def b7 (b:List SubD) (on:Bool) (s:SubD):Bool:=b.any (bp s on)
def c6 (a b:EndD):Bool:=a.subs.all fun s=>s.state != 3 || b7 b.subs false s
def a8 (w:WorldD):Bool:=ZI w.wroteA (w.readB++w.b.inp.ready) && ZI w.wroteB (w.readA++w.a.inp.ready)
end
section
open Go.RowKit
theorem c0 (e:EndD) (hl:e.subs.length≤1048576):ae Tryz.prog 76 [.ag (e.cs 0)] (e.hp false) (.sc (.bo (a9 e))) (e.hp false):=by
 refine qE Tryz.func76 Tryz.ntmps76 Tryz.results76 fun E hE=>?_
 refine an 7 hE (fun s (k:Nat)=>s.at (qU [0,1,2,1,4,29]) [(3,.sc (.int .i64 (k:Nat)))] (s.hp)) (fun (k:Nat)=>k≤e.subs.length∧(e.subs.drop k).all (a7 e.side)=a9 e) (fun (k:Nat)=>e.subs.length - k) 0 (qI 0 8) (qC) (⟨Nat.zero_le _,rfl⟩) (af (by rfl) (by rfl) ?_) fun k hk N hN=>?_
 ·exact qY
 obtain⟨hk1,hk2⟩:=hk
 refine qR ?_
 refine qB (fun h=>?_) fun h=>?_
 ·rw [Ez h] at hk2
  refine qX ?_
  refine qD [0,1,3,4,2,5,6,7,8,10,11,12,9,13,14] ?_
  refine az (dD _) [] ?_
  refine qB (fun h2=>?_) fun h2=>?_
  ·refine az (dD _) [] ?_
   refine qG ?_
   refine qB (fun h3=>?_) fun h3=>?_
   ·have hp:a7 e.side e.subs[k]=false:=by simp [a7,h2,h3]
    rw [hp] at hk2
    refine qJ (qI 0 7) ?_
    exact hk2
   have hp:a7 e.side e.subs[k]=true:=by simp [a7,h2,h3]
   rw [hp] at hk2
   exact qN hN (k+1) (qI 0 8) (by (try dsimp only);exact⟨by omega,hk2⟩)
  have hp:a7 e.side e.subs[k]=false:=by simp [a7,h2]
  rw [hp] at hk2
  refine qG ?_
  refine qJ (qI 0 7) ?_
  exact hk2
 rw [cn (by omega)] at hk2
 refine qJ (qI 0 7) ?_
 exact hk2
theorem b8 (a b:EndD) (h1:a.far.length≤1048576) (h2:b.own.length≤1048576) (h3:b.done.length≤1048576):ae Tryz.prog 191 [.ag (a.cs 0),.ag (b.cs 7)] (a.hp false++b.hp false) (.sc (.bo (hT a b))) (a.hp false++b.hp false):=by
 refine qE Tryz.func191 Tryz.ntmps191 Tryz.results191 fun E hE=>?_
 refine an 14 hE (fun s (k:Nat)=>s.at (qU [0,3,4,1,6,2,11,17]) [(10,.sc (.int .i64 (k:Nat)))] (s.hp)) (fun (k:Nat)=>k≤a.far.length∧(a.far.drop k).all (c5 b)=hT a b) (fun (k:Nat)=>a.far.length - k) 0 (qI 0 16) (qC) (⟨Nat.zero_le _,rfl⟩) (af (by rfl) (by rfl) ?_) fun k hk N hN=>?_
 ·exact qY
 obtain⟨hk1,hk2⟩:=hk
 refine qR ?_
 refine qB (fun h=>?_) fun h=>?_
 ·rw [Ez h] at hk2
  refine qX ?_
  refine qK (gB b _ h2) (qI 7 7) ?_
  refine qB (fun h4=>?_) fun h4=>?_
  ·refine qK (eH b.done _ h3) (qI 12 1) ?_
   refine qX ?_
   refine qX ?_
   refine qB (fun h5=>?_) fun h5=>?_
   ·have hp:c5 b a.far[k]=false:=by simp [c5,h4,h5]
    rw [hp] at hk2
    refine qJ (qI 0 14) ?_
    exact hk2
   have hp:c5 b a.far[k]=true:=by simp [c5,h5]
   rw [hp] at hk2
   exact qN hN (k+1) (qI 0 16) (by (try dsimp only);exact⟨by omega,hk2⟩)
  have hp:c5 b a.far[k]=true:=by simp [c5,h4]
  rw [hp] at hk2
  exact qN hN (k+1) (qI 0 16) (by (try dsimp only);exact⟨by omega,hk2⟩)
 rw [cn (by omega)] at hk2
 refine qJ (qI 0 14) ?_
 exact hk2
theorem em (a b:EndD) (h1:a.far.length≤1048576) (h2:b.own.length≤1048576) (h3:b.done.length≤1048576):ae Tryz.prog 174 [.ag (a.cs 0),.ag (b.cs 7)] (a.hp false++b.hp false) (.sc (.bo (hT a b))) (a.hp false++b.hp false):=by
 refine qE Tryz.func174 Tryz.ntmps174 Tryz.results174 fun E hE=>?_
 refine an 14 hE (fun s (k:Nat)=>s.at (qU [0,2,4,1,6,28]) [(5,.sc (.int .i64 (k:Nat)))] (s.hp)) (fun (k:Nat)=>k≤a.far.length∧(a.far.drop k).all (c5 b)=hT a b) (fun (k:Nat)=>a.far.length - k) 0 (qI 0 16) (qC) (⟨Nat.zero_le _,rfl⟩) (af (by rfl) (by rfl) ?_) fun k hk N hN=>?_
 ·exact qY
 obtain⟨hk1,hk2⟩:=hk
 refine qR ?_
 refine qB (fun h=>?_) fun h=>?_
 ·rw [Ez h] at hk2
  refine qX ?_
  refine qD [0,1,2,3,4,5,6,7,8,9,10,11,12,13,14,15,16,17,18,19,20] ?_
  refine az (gC b _ h2) (qI 7 7) ?_
  refine qB (fun h4=>?_) fun h4=>?_
  ·refine az (fF b.done _ h3) (qI 12 1) ?_
   refine qG ?_
   refine qB (fun h5=>?_) fun h5=>?_
   ·have hp:c5 b a.far[k]=false:=by simp [c5,h4,h5]
    rw [hp] at hk2
    refine qJ (qI 0 14) ?_
    exact hk2
   have hp:c5 b a.far[k]=true:=by simp [c5,h5]
   rw [hp] at hk2
   exact qN hN (k+1) (qI 0 16) (by (try dsimp only);exact⟨by omega,hk2⟩)
  have hp:c5 b a.far[k]=true:=by simp [c5,h4]
  rw [hp] at hk2
  refine qG ?_
  exact qN hN (k+1) (qI 0 16) (by (try dsimp only);exact⟨by omega,hk2⟩)
 rw [cn (by omega)] at hk2
 refine qJ (qI 0 14) ?_
 exact hk2
end
section
open Go.RowKit
theorem g7 {s t:SubD} {on:Bool} (h:¬ t.road.own=s.road.far∨¬ t.road.far=s.road.own∨¬ t.road.port=s.road.port):bp s on t=false:=by
 rw [bp]
 rcases h with h|h|h<;>simp [h]
theorem g8 {s t:SubD} {on:Bool} (h:¬ t.take=s.give):bp s on t=false:=by simp [bp,h]
theorem g9 {s t:SubD} {on:Bool} (h:¬ t.give=s.take):bp s on t=false:=by simp [bp,h]
theorem hU {s t:SubD} (h:¬ t.state=3):bp s true t=false:=by simp [bp,h]
theorem gl {s t:SubD} {on:Bool} (h1:t.road.own=s.road.far∧t.road.far=s.road.own∧t.road.port=s.road.port) (h2:t.take=s.give) (h3:t.give=s.take) (h4:on=false∨t.state=3):bp s on t=true:=by
 rw [bp]
 obtain⟨a,b,c⟩:=h1
 rcases h4 with h4|h4<;>simp [a,b,c,h2,h3,h4]
theorem fx (r:RoadD):ae Tryz.prog 269 [.ag r.cs] [] (.ag (RoadD.cs ⟨r.far,r.own,r.port⟩)) []:=by
 refine qE Tryz.func269 Tryz.ntmps269 Tryz.results269 fun E hE=>?_
 exact qF []
theorem fz (r:RoadD):ae Tryz.prog 172 [.ag r.cs] [] (.ag (RoadD.cs ⟨r.far,r.own,r.port⟩)) []:=by
 refine qE Tryz.func172 Tryz.ntmps172 Tryz.results172 fun E hE=>?_
 exact qF []
theorem go (s:SubD) (b:EndD) (on:Bool) (hl:b.subs.length≤1048576):ae Tryz.prog 189 [.ag s.cs,.ag (b.cs 0),.sc (.bo on)] (b.hp false) (.sc (.bo (b7 b.subs on s))) (b.hp false):=by
 refine qE Tryz.func189 Tryz.ntmps189 Tryz.results189 fun E hE=>?_
 refine an 7 hE (fun s (k:Nat)=>s.at (qU [0,2,4,1,6,1,8,2,13,33]) [(12,.sc (.int .i64 (k:Nat)))] (s.hp)) (fun (k:Nat)=>k≤b.subs.length∧(b.subs.drop k).any (bp s on)=b7 b.subs on s) (fun (k:Nat)=>b.subs.length - k) 0 (qI 0 9) (qC) (⟨Nat.zero_le _,rfl⟩) (af (by rfl) (by rfl) ?_) fun k hk N hN=>?_
 ·exact qY
 obtain⟨hk1,hk2⟩:=hk
 refine qR ?_
 refine qB (fun h=>?_) fun h=>?_
 ·rw [eB h] at hk2
  refine qD [0,1,2,3,4,5,6,7,8,9,10,11,12,13,14,15,16,17,18,19,20,21,22,23,24,25,26,27,28] ?_
  refine az (fx s.road) [] ?_
  refine qB (fun h2=>?_) fun h2=>?_
  ·refine qB (fun h3=>?_) fun h3=>?_
   ·refine qB (fun h4=>?_) fun h4=>?_
    ·cases on with
     |true=>
      refine qX ?_
      refine qG ?_
      refine qB (fun h5=>?_) fun h5=>?_
      ·rw [gl h2 h3 h4 (.inr h5)] at hk2
       refine qJ (qI 0 7) ?_
       exact hk2
      rw [hU h5] at hk2
      exact qN hN (k+1) (qI 0 9) (by (try dsimp only);exact⟨by omega,hk2⟩)
     |false=>
      rw [gl h2 h3 h4 (.inl rfl)] at hk2
      refine qX ?_
      refine qG ?_
      refine qJ (qI 0 7) ?_
      exact hk2
    rw [g9 h4] at hk2
    refine qG ?_
    exact qN hN (k+1) (qI 0 9) (by (try dsimp only);exact⟨by omega,hk2⟩)
   rw [g8 h3] at hk2
   refine qG ?_
   exact qN hN (k+1) (qI 0 9) (by (try dsimp only);exact⟨by omega,hk2⟩)
  rw [g7 h2] at hk2
  refine qG ?_
  exact qN hN (k+1) (qI 0 9) (by (try dsimp only);exact⟨by omega,hk2⟩)
 rw [d7 (by omega)] at hk2
 refine qJ (qI 0 7) ?_
 exact hk2
theorem en (a b:EndD) (h1:a.subs.length≤1048576) (h2:b.subs.length≤1048576):ae Tryz.prog 81 [.ag (a.cs 0),.ag (b.cs 7)] (a.hp false++b.hp false) (.sc (.bo (c6 a b))) (a.hp false++b.hp false):=by
 have hon:=jx a.subs
 refine qE Tryz.func81 Tryz.ntmps81 Tryz.results81 fun E hE=>?_
 refine qK (nL a h1) (qI 0 7) ?_
 refine an 14 hE (fun s (k:Nat)=>s.at (qU [0,2,4,1,6,2,11,12]) [(10,.sc (.int .i64 (k:Nat)))] (s.hp)) (fun (k:Nat)=>k≤(gz a.subs).length∧((gz a.subs).drop k).all (fun n=>b7 b.subs false (bq a.subs n))=c6 a b) (fun (k:Nat)=>(gz a.subs).length - k) 0 (qI 0 17) (qC) (⟨Nat.zero_le _,hX⟩) (af (by rfl) (by rfl) ?_) fun k hk N hN=>?_
 ·exact qY
 obtain⟨hk1,hk2⟩:=hk
 refine qR ?_
 refine qB (fun h=>?_) fun h=>?_
 ·rw [Ez h] at hk2
  have hlt:=nH h
  rw [ii hlt] at hk2
  refine qX ?_
  refine qD [0,1,2,3,4,5,6,7] ?_
  refine az (go a.subs[(gz a.subs)[k]] b false h2) (qI 7 7) ?_
  refine qG ?_
  refine qB (fun h3=>?_) fun h3=>?_
  ·rw [h3] at hk2
   refine qJ (qI 0 14) ?_
   exact hk2
  rw [h3] at hk2
  exact qN hN (k+1) (qI 0 17) (by (try dsimp only);exact⟨by omega,hk2⟩)
 rw [cn (by omega)] at hk2
 refine qJ (qI 0 14) ?_
 exact hk2
theorem hh {P:SubD→Bool} {l:List SubD} {k:Nat} {r:Bool} (h:k < l.length) (hr:(false || (l.drop k).any P)=r):(P l[k] || (l.drop (k+1)).any P)=r:=by
 rw [←hr,eB h,Bool.false_or]
theorem eo (a b:EndD) (h1:a.subs.length≤1048576) (h2:b.subs.length≤1048576):ae Tryz.prog 74 [.ag (a.cs 0),.ag (b.cs 7)] (a.hp false++b.hp false) (.sc (.bo (c6 a b))) (a.hp false++b.hp false):=by
 refine e_ Tryz.func74 (by kernel_rfl) rfl fun E hE=>ac 400 ?_
 simp (disch:=omega) only [Tryz.ntmps74,Tryz.results74,go_sem,Nat.reduceEqDiff,Nat.reduceAdd,Nat.reduceSub,Int.reduceAdd,Int.reduceSub,Int.reduceToNat]
 refine an 14 hE (fun s (k:Nat)=>s.at (qU [0,2,4,1,6,57]) [(5,.sc (.int .i64 (k:Nat)))] (s.hp)) (fun (k:Nat)=>k≤a.subs.length∧(a.subs.drop k).all (fun s=>s.state != 3 || b7 b.subs false s)=c6 a b) (fun (k:Nat)=>a.subs.length - k) 0 (qI 0 16) (qC) (⟨Nat.zero_le _,rfl⟩) (af (by rfl) (by rfl) ?_) fun k hk N hN=>?_
 ·try simp (disch:=omega) only [go_sem,Nat.reduceEqDiff,Nat.reduceAdd,Nat.reduceSub,Int.reduceAdd,Int.reduceSub,Int.reduceToNat]
 obtain⟨hk1,hk2⟩:=hk
 refine ac 400 ?_
 try simp (disch:=omega) only [go_sem,Nat.reduceEqDiff,Nat.reduceAdd,Nat.reduceSub,Int.reduceAdd,Int.reduceSub,Int.reduceToNat]
 split<;>rename_i h<;>(try simp only [beq_true,beq_false,Bool.not_eq_true',Bool.not_eq_false'] at h)<;>simp (disch:=omega) only [go_sem,Nat.reduceEqDiff,Nat.reduceAdd,Nat.reduceSub,Int.reduceAdd,Int.reduceSub,Int.reduceToNat,h]<;>(try simp only [decide_eq_true_eq,decide_eq_false_iff_not,beq_iff_eq,beq_eq_false_iff_ne,bne_iff_ne,bne_eq_false_iff_eq,ne_eq,Decidable.not_not,Bool.and_eq_true,Bool.and_eq_false_iff,Bool.or_eq_true,Bool.or_eq_false_iff,Int.ofNat_lt,Int.ofNat_le,Bool.not_eq_eq_eq_not,Bool.not_true,Bool.not_false] at h)<;>try simp (disch:=omega) only [go_sem,Nat.reduceEqDiff,Nat.reduceAdd,Nat.reduceSub,Int.reduceAdd,Int.reduceSub,Int.reduceToNat]
 ·rw [Ez h] at hk2
  generalize hR:(a.subs[k].state != 3 || b7 b.subs false a.subs[k])=r at hk2
  obtain⟨q,hq⟩:∃ q,q=(a.subs[k].state != 3):=⟨_,rfl⟩
  try simp (disch:=omega) only [go_sem,Nat.reduceEqDiff,Nat.reduceAdd,Nat.reduceSub,Int.reduceAdd,Int.reduceSub,Int.reduceToNat]
  try rw [←hq]
  refine an 14 hE (fun s (y:Nat×Bool)=>s.at (qU [0,2,9,5,15,47]) [(8,.sc (.int .i64 (y.1:Nat))),(7,.sc (.bo y.2))] (s.hp)) (fun (y:Nat×Bool)=>y.1≤b.subs.length∧(y.2 || (b.subs.drop y.1).any (bp a.subs[k] false))=r) (fun (y:Nat×Bool)=>b.subs.length - y.1) (0,q) (qI 0 17) (qC) (⟨Nat.zero_le _,by rw [hq];exact hR⟩) (af (by rfl) (by rfl) ?_) fun y hy N2 hN2=>?_
  ·try simp (disch:=omega) only [go_sem,Nat.reduceEqDiff,Nat.reduceAdd,Nat.reduceSub,Int.reduceAdd,Int.reduceSub,Int.reduceToNat]
   try exact⟨rfl,hq⟩
  obtain⟨j,has⟩:=y
  obtain⟨hy1,hy2⟩:=hy
  dsimp only at hy1 hy2
  refine ac 400 ?_
  cases has with
  |true=>
   rw [Bool.true_or] at hy2
   subst hy2
   have hkk:(true && (List.drop (k+1) a.subs).all fun s=>s.state != 3 || b7 b.subs false s)=c6 a b:=hk2
   try simp (disch:=omega) only [go_sem,Nat.reduceEqDiff,Nat.reduceAdd,Nat.reduceSub,Int.reduceAdd,Int.reduceSub,Int.reduceToNat]
   split<;>rename_i h4<;>(try simp only [beq_true,beq_false,Bool.not_eq_true',Bool.not_eq_false'] at h4)<;>simp (disch:=omega) only [go_sem,Nat.reduceEqDiff,Nat.reduceAdd,Nat.reduceSub,Int.reduceAdd,Int.reduceSub,Int.reduceToNat,h4]<;>(try simp only [decide_eq_true_eq,decide_eq_false_iff_not,beq_iff_eq,beq_eq_false_iff_ne,bne_iff_ne,bne_eq_false_iff_eq,ne_eq,Decidable.not_not,Bool.and_eq_true,Bool.and_eq_false_iff,Bool.or_eq_true,Bool.or_eq_false_iff,Int.ofNat_lt,Int.ofNat_le,Bool.not_eq_eq_eq_not,Bool.not_true,Bool.not_false] at h4)<;>try simp (disch:=omega) only [go_sem,Nat.reduceEqDiff,Nat.reduceAdd,Nat.reduceSub,Int.reduceAdd,Int.reduceSub,Int.reduceToNat]
   ·refine⟨qC,hN _ (k+1) (qI 0 16) (by (try dsimp only);exact⟨by omega,hkk⟩) (by (try dsimp only);omega) (af (by rfl) (by rfl) ?_)⟩
    try simp (disch:=omega) only [go_sem,Nat.reduceEqDiff,Nat.reduceAdd,Nat.reduceSub,Int.reduceAdd,Int.reduceSub,Int.reduceToNat]
   refine⟨qC,hN _ (k+1) (qI 0 16) (by (try dsimp only);exact⟨by omega,hkk⟩) (by (try dsimp only);omega) (af (by rfl) (by rfl) ?_)⟩
   try simp (disch:=omega) only [go_sem,Nat.reduceEqDiff,Nat.reduceAdd,Nat.reduceSub,Int.reduceAdd,Int.reduceSub,Int.reduceToNat]
  |false=>
   try simp (disch:=omega) only [go_sem,Nat.reduceEqDiff,Nat.reduceAdd,Nat.reduceSub,Int.reduceAdd,Int.reduceSub,Int.reduceToNat]
   split<;>rename_i h4<;>(try simp only [beq_true,beq_false,Bool.not_eq_true',Bool.not_eq_false'] at h4)<;>simp (disch:=omega) only [go_sem,Nat.reduceEqDiff,Nat.reduceAdd,Nat.reduceSub,Int.reduceAdd,Int.reduceSub,Int.reduceToNat,h4]<;>(try simp only [decide_eq_true_eq,decide_eq_false_iff_not,beq_iff_eq,beq_eq_false_iff_ne,bne_iff_ne,bne_eq_false_iff_eq,ne_eq,Decidable.not_not,Bool.and_eq_true,Bool.and_eq_false_iff,Bool.or_eq_true,Bool.or_eq_false_iff,Int.ofNat_lt,Int.ofNat_le,Bool.not_eq_eq_eq_not,Bool.not_true,Bool.not_false] at h4)<;>try simp (disch:=omega) only [go_sem,Nat.reduceEqDiff,Nat.reduceAdd,Nat.reduceSub,Int.reduceAdd,Int.reduceSub,Int.reduceToNat]
   ·have hy3:=hh h4 hy2
    refine ar (qU [0,21]) (by kernel_rfl) (qC) (by kernel_rfl) (aa 400 ?_)
    simp (disch:=omega) only [go_sem,Nat.reduceEqDiff,Nat.reduceAdd,Nat.reduceSub,Int.reduceAdd,Int.reduceSub,Int.reduceToNat]
    refine am (qC) (fz a.subs[k].road) [] qM (by rfl) (by rfl) (aa 400 ?_)
    simp (disch:=omega) only [go_sem,Nat.reduceEqDiff,Nat.reduceAdd,Nat.reduceSub,Int.reduceAdd,Int.reduceSub,Int.reduceToNat]
    split<;>rename_i h5<;>(try simp only [beq_true,beq_false,Bool.not_eq_true',Bool.not_eq_false'] at h5)<;>simp (disch:=omega) only [go_sem,Nat.reduceEqDiff,Nat.reduceAdd,Nat.reduceSub,Int.reduceAdd,Int.reduceSub,Int.reduceToNat,h5]<;>(try simp only [decide_eq_true_eq,decide_eq_false_iff_not,beq_iff_eq,beq_eq_false_iff_ne,bne_iff_ne,bne_eq_false_iff_eq,ne_eq,Decidable.not_not,Bool.and_eq_true,Bool.and_eq_false_iff,Bool.or_eq_true,Bool.or_eq_false_iff,Int.ofNat_lt,Int.ofNat_le,Bool.not_eq_eq_eq_not,Bool.not_true,Bool.not_false] at h5)<;>try simp (disch:=omega) only [go_sem,Nat.reduceEqDiff,Nat.reduceAdd,Nat.reduceSub,Int.reduceAdd,Int.reduceSub,Int.reduceToNat]
    ·split<;>rename_i h6<;>(try simp only [beq_true,beq_false,Bool.not_eq_true',Bool.not_eq_false'] at h6)<;>simp (disch:=omega) only [go_sem,Nat.reduceEqDiff,Nat.reduceAdd,Nat.reduceSub,Int.reduceAdd,Int.reduceSub,Int.reduceToNat,h6]<;>(try simp only [decide_eq_true_eq,decide_eq_false_iff_not,beq_iff_eq,beq_eq_false_iff_ne,bne_iff_ne,bne_eq_false_iff_eq,ne_eq,Decidable.not_not,Bool.and_eq_true,Bool.and_eq_false_iff,Bool.or_eq_true,Bool.or_eq_false_iff,Int.ofNat_lt,Int.ofNat_le,Bool.not_eq_eq_eq_not,Bool.not_true,Bool.not_false] at h6)<;>try simp (disch:=omega) only [go_sem,Nat.reduceEqDiff,Nat.reduceAdd,Nat.reduceSub,Int.reduceAdd,Int.reduceSub,Int.reduceToNat]
     ·refine⟨qC,ac 400 ?_⟩
      try simp (disch:=omega) only [go_sem,Nat.reduceEqDiff,Nat.reduceAdd,Nat.reduceSub,Int.reduceAdd,Int.reduceSub,Int.reduceToNat]
      cases hg:(b.subs[j].give == a.subs[k].take) with
      |true=>
       have hg':b.subs[j].give=a.subs[k].take:=by simpa using hg
       rw [gl h5 h6 hg' (.inl rfl)] at hy3
       try simp (disch:=omega) only [go_sem,Nat.reduceEqDiff,Nat.reduceAdd,Nat.reduceSub,Int.reduceAdd,Int.reduceSub,Int.reduceToNat,hg]
       refine⟨qC,hN2 _ (j+1,true) (qI 0 17) (by (try dsimp only);exact⟨by omega,hy3⟩) (by (try dsimp only);omega) (af (by rfl) (by rfl) ?_)⟩
       try simp (disch:=omega) only [go_sem,Nat.reduceEqDiff,Nat.reduceAdd,Nat.reduceSub,Int.reduceAdd,Int.reduceSub,Int.reduceToNat,hg]
      |false=>
       have hg':¬ b.subs[j].give=a.subs[k].take:=by simpa using hg
       rw [g9 hg'] at hy3
       try simp (disch:=omega) only [go_sem,Nat.reduceEqDiff,Nat.reduceAdd,Nat.reduceSub,Int.reduceAdd,Int.reduceSub,Int.reduceToNat,hg]
       refine⟨qC,hN2 _ (j+1,false) (qI 0 17) (by (try dsimp only);exact⟨by omega,hy3⟩) (by (try dsimp only);omega) (af (by rfl) (by rfl) ?_)⟩
       try simp (disch:=omega) only [go_sem,Nat.reduceEqDiff,Nat.reduceAdd,Nat.reduceSub,Int.reduceAdd,Int.reduceSub,Int.reduceToNat,hg]
     rw [g8 h6] at hy3
     refine⟨qC,ac 400 ?_⟩
     try simp (disch:=omega) only [go_sem,Nat.reduceEqDiff,Nat.reduceAdd,Nat.reduceSub,Int.reduceAdd,Int.reduceSub,Int.reduceToNat]
     refine⟨qC,hN2 _ (j+1,false) (qI 0 17) (by (try dsimp only);exact⟨by omega,hy3⟩) (by (try dsimp only);omega) (af (by rfl) (by rfl) ?_)⟩
     try simp (disch:=omega) only [go_sem,Nat.reduceEqDiff,Nat.reduceAdd,Nat.reduceSub,Int.reduceAdd,Int.reduceSub,Int.reduceToNat]
    rw [g7 h5] at hy3
    refine⟨qC,ac 400 ?_⟩
    try simp (disch:=omega) only [go_sem,Nat.reduceEqDiff,Nat.reduceAdd,Nat.reduceSub,Int.reduceAdd,Int.reduceSub,Int.reduceToNat]
    refine⟨qC,hN2 _ (j+1,false) (qI 0 17) (by (try dsimp only);exact⟨by omega,hy3⟩) (by (try dsimp only);omega) (af (by rfl) (by rfl) ?_)⟩
    try simp (disch:=omega) only [go_sem,Nat.reduceEqDiff,Nat.reduceAdd,Nat.reduceSub,Int.reduceAdd,Int.reduceSub,Int.reduceToNat]
   rw [d7 (by omega)] at hy2
   rw [←hy2] at hk2
   refine ah (qI 0 14) (qC) _ (by simp only [go_sem];rfl) (by rfl) (by rfl) ?_
   simp (disch:=omega) only [go_sem,Nat.reduceEqDiff,Nat.reduceAdd,Nat.reduceSub,Int.reduceAdd,Int.reduceSub,Int.reduceToNat]
   exact hk2
 rw [cn (by omega)] at hk2
 refine ah (qI 0 14) (qC) _ (by simp only [go_sem];rfl) (by rfl) (by rfl) ?_
 simp (disch:=omega) only [go_sem,Nat.reduceEqDiff,Nat.reduceAdd,Nat.reduceSub,Int.reduceAdd,Int.reduceSub,Int.reduceToNat]
 exact hk2
end
section
open Go.RowKit
section
variable {P:Program} {β:Be}
end
end
section
open Go.RowKit
theorem b9 (t h:List UInt8):ae Tryz.prog 190 [.sc (.st t),.sc (.st h)] ([]) (.sc (.bo (ZI t h))) ([]):=by
 refine qE Tryz.func190 Tryz.ntmps190 Tryz.results190 fun E hE=>?_
 refine qB (fun h1=>?_) fun h1=>?_
 ·skip
  refine qJ [] ?_
  simp [ZI,h1]
 refine qJ [] ?_
 simp [ZI,h1]
theorem e3 (w:WorldD) (s1:w.readB.length+w.b.inp.ready.length≤4611686018427387904) (s2:w.readA.length+w.a.inp.ready.length≤4611686018427387904):ae Tryz.prog 82 [.ag (w.cs 0)] (w.hp false) (.sc (.bo (a8 w))) (w.hp false):=by
 refine qE Tryz.func82 Tryz.ntmps82 Tryz.results82 fun E hE=>?_
 refine qK (b9 _ _) [] ?_
 refine qB (fun h1=>?_) fun h1=>?_
 ·skip
  refine qK (b9 _ _) [] ?_
  refine qJ (qI 0 21) ?_
  simp [a8,h1]
 refine qJ (qI 0 21) ?_
 simp [a8,h1]
theorem hI (w:WorldD) (a1:w.a.far.length≤1048576) (a2:w.b.own.length≤1048576) (a3:w.b.done.length≤1048576) (b1:w.b.far.length≤1048576) (b2:w.a.own.length≤1048576) (b3:w.a.done.length≤1048576):ae Tryz.prog 84 [.ag (w.cs 0)] (w.hp false) (.sc (.bo (ev w))) (w.hp false):=by
 refine qE Tryz.func84 Tryz.ntmps84 Tryz.results84 fun E hE=>?_
 refine qK (b8 w.a w.b a1 a2 a3) (qI 0 14) ?_
 refine qB (fun h1=>?_) fun h1=>?_
 ·skip
  refine qK (b8 w.b w.a b1 b2 b3) (qI 7 7++qI 0 7) ?_
  refine qJ (qI 0 21) ?_
  simp [ev,h1]
 refine qJ (qI 0 21) ?_
 simp [ev,h1]
theorem ch (t h:List UInt8):ae Tryz.prog 173 [.sc (.st t),.sc (.st h)] ([]) (.sc (.bo (ZI t h))) ([]):=by
 refine qE Tryz.func173 Tryz.ntmps173 Tryz.results173 fun E hE=>?_
 refine qB (fun h1=>?_) fun h1=>?_
 ·skip
  refine qJ [] ?_
  simp [ZI,h1]
 refine qJ [] ?_
 simp [ZI,h1]
theorem e4 (w:WorldD) (s1:w.readB.length+w.b.inp.ready.length≤4611686018427387904) (s2:w.readA.length+w.a.inp.ready.length≤4611686018427387904):ae Tryz.prog 75 [.ag (w.cs 0)] (w.hp false) (.sc (.bo (a8 w))) (w.hp false):=by
 refine qE Tryz.func75 Tryz.ntmps75 Tryz.results75 fun E hE=>?_
 refine qK (ch _ _) [] ?_
 refine qB (fun h1=>?_) fun h1=>?_
 ·skip
  refine qK (ch _ _) [] ?_
  refine qJ (qI 0 21) ?_
  simp [a8,h1]
 refine qJ (qI 0 21) ?_
 simp [a8,h1]
theorem hJ (w:WorldD) (a1:w.a.far.length≤1048576) (a2:w.b.own.length≤1048576) (a3:w.b.done.length≤1048576) (b1:w.b.far.length≤1048576) (b2:w.a.own.length≤1048576) (b3:w.a.done.length≤1048576):ae Tryz.prog 77 [.ag (w.cs 0)] (w.hp false) (.sc (.bo (ev w))) (w.hp false):=by
 refine qE Tryz.func77 Tryz.ntmps77 Tryz.results77 fun E hE=>?_
 refine qK (em w.a w.b a1 a2 a3) (qI 0 14) ?_
 refine qB (fun h1=>?_) fun h1=>?_
 ·skip
  refine qK (em w.b w.a b1 b2 b3) (qI 7 7++qI 0 7) ?_
  refine qJ (qI 0 21) ?_
  simp [ev,h1]
 refine qJ (qI 0 21) ?_
 simp [ev,h1]
end
section
open Go.RowKit
def ap (w:WorldD):Bool:=aj w.a && aj w.b && c6 w.a w.b && c6 w.b w.a && a8 w && a9 w.a && a9 w.b && ev w
theorem rOw (e:EndD) (hl:e.subs.length≤1048576):ae Tryz.prog 83 [.ag (e.cs 0)] (e.hp false) (.sc (.bo (a9 e))) (e.hp false):=by
 refine qE Tryz.func83 Tryz.ntmps83 Tryz.results83 fun E hE=>?_
 refine an 7 hE (fun s (k:Nat)=>s.at (qU [0,1,2,1,4,2,9,21]) [(8,.sc (.int .i64 (k:Nat)))] (s.hp)) (fun (k:Nat)=>k≤e.subs.length∧(e.subs.drop k).all (a7 e.side)=a9 e) (fun (k:Nat)=>e.subs.length - k) 0 (qI 0 8) (qC) (⟨Nat.zero_le _,rfl⟩) (af (by rfl) (by rfl) ?_) fun k hk N hN=>?_
 ·exact qY
 obtain⟨hk1,hk2⟩:=hk
 refine qR ?_
 refine qB (fun h=>?_) fun h=>?_
 ·rw [Ez h] at hk2
  refine qX ?_
  refine qD [0,1,2,4,5,3,6,7,8,9,10,12,13,14,11,15,16] ?_
  refine az (dC _) [] ?_
  refine qB (fun h2=>?_) fun h2=>?_
  ·refine az (dC _) [] ?_
   refine qG ?_
   refine qB (fun h3=>?_) fun h3=>?_
   ·have hp:a7 e.side e.subs[k]=false:=by simp [a7,h2,h3]
    rw [hp] at hk2
    refine qJ (qI 0 7) ?_
    exact hk2
   have hp:a7 e.side e.subs[k]=true:=by simp [a7,h2,h3]
   rw [hp] at hk2
   exact qN hN (k+1) (qI 0 8) (by (try dsimp only);exact⟨by omega,hk2⟩)
  have hp:a7 e.side e.subs[k]=false:=by simp [a7,h2]
  rw [hp] at hk2
  refine qG ?_
  refine qJ (qI 0 7) ?_
  exact hk2
 rw [cn (by omega)] at hk2
 refine qJ (qI 0 7) ?_
 exact hk2
theorem fl (w:WorldD) (a0:w.a.own.length≤1048576) (a1:w.a.far.length≤1048576) (a2:w.a.subs.length≤1048576) (a3:w.a.halfs.length≤1048576) (a4:w.a.inp.list.length≤1048576) (a5:w.a.done.length≤1048576) (a6:w.a.over.length≤1048576) (b0:w.b.own.length≤1048576) (b1:w.b.far.length≤1048576) (b2:w.b.subs.length≤1048576) (b3:w.b.halfs.length≤1048576) (b4:w.b.inp.list.length≤1048576) (b5:w.b.done.length≤1048576) (b6:w.b.over.length≤1048576) (s1:w.readB.length+w.b.inp.ready.length≤4611686018427387904) (s2:w.readA.length+w.a.inp.ready.length≤4611686018427387904):ae Tryz.prog 36 [.ag (w.cs 0)] (w.hp false) (.sc (.bo (ap w))) (w.hp false):=by
 refine qE Tryz.func36 Tryz.ntmps36 Tryz.results36 fun E hE=>?_
 refine qK (bf w.a a0 a1 a2 a3 a4 a5 a6) (qI 0 7) ?_
 refine qB (fun g0=>?_) fun g0=>?_
 ·skip
  refine qK (bf w.b b0 b1 b2 b3 b4 b5 b6) (qI 7 7) ?_
  refine qB (fun g1=>?_) fun g1=>?_
  ·skip
   refine qK (en w.a w.b a2 b2) (qI 0 14) ?_
   refine qB (fun g2=>?_) fun g2=>?_
   ·skip
    refine qK (en w.b w.a b2 a2) (qI 7 7++qI 0 7) ?_
    refine qB (fun g3=>?_) fun g3=>?_
    ·skip
     refine qK (e3 w s1 s2) (qI 0 21) ?_
     refine qB (fun g4=>?_) fun g4=>?_
     ·skip
      refine qK (rOw w.a a2) (qI 0 7) ?_
      refine qB (fun g5=>?_) fun g5=>?_
      ·skip
       refine qK (rOw w.b b2) (qI 7 7) ?_
       refine qB (fun g6=>?_) fun g6=>?_
       ·skip
        refine qK (hI w a1 b0 b5 b1 a0 a5) (qI 0 21) ?_
        refine qJ (qI 0 21) ?_
        simp [ap,g0,g1,g2,g3,g4,g5,g6]
       refine qJ (qI 0 21) ?_
       simp [ap,g6]
      refine qJ (qI 0 21) ?_
      simp [ap,g5]
     refine qJ (qI 0 21) ?_
     simp [ap,g4]
    refine qJ (qI 0 21) ?_
    simp [ap,g3]
   refine qJ (qI 0 21) ?_
   simp [ap,g2]
  refine qJ (qI 0 21) ?_
  simp [ap,g1]
 refine qJ (qI 0 21) ?_
 simp [ap,g0]
theorem fs (w:WorldD) (a0:w.a.own.length≤1048576) (a1:w.a.far.length≤1048576) (a2:w.a.subs.length≤1048576) (a3:w.a.halfs.length≤1048576) (a4:w.a.inp.list.length≤1048576) (a5:w.a.done.length≤1048576) (a6:w.a.over.length≤1048576) (b0:w.b.own.length≤1048576) (b1:w.b.far.length≤1048576) (b2:w.b.subs.length≤1048576) (b3:w.b.halfs.length≤1048576) (b4:w.b.inp.list.length≤1048576) (b5:w.b.done.length≤1048576) (b6:w.b.over.length≤1048576) (s1:w.readB.length+w.b.inp.ready.length≤4611686018427387904) (s2:w.readA.length+w.a.inp.ready.length≤4611686018427387904):ae Tryz.prog 34 [.ag (w.cs 0)] (w.hp false) (.sc (.bo (ap w))) (w.hp false):=by
 refine qE Tryz.func34 Tryz.ntmps34 Tryz.results34 fun E hE=>?_
 refine qK (be w.a a0 a1 a2 a3 a4 a5 a6) (qI 0 7) ?_
 refine qB (fun g0=>?_) fun g0=>?_
 ·skip
  refine qK (be w.b b0 b1 b2 b3 b4 b5 b6) (qI 7 7) ?_
  refine qB (fun g1=>?_) fun g1=>?_
  ·skip
   refine qK (eo w.a w.b a2 b2) (qI 0 14) ?_
   refine qB (fun g2=>?_) fun g2=>?_
   ·skip
    refine qK (eo w.b w.a b2 a2) (qI 7 7++qI 0 7) ?_
    refine qB (fun g3=>?_) fun g3=>?_
    ·skip
     refine qK (e4 w s1 s2) (qI 0 21) ?_
     refine qB (fun g4=>?_) fun g4=>?_
     ·skip
      refine qK (c0 w.a a2) (qI 0 7) ?_
      refine qB (fun g5=>?_) fun g5=>?_
      ·skip
       refine qK (c0 w.b b2) (qI 7 7) ?_
       refine qB (fun g6=>?_) fun g6=>?_
       ·skip
        refine qK (hJ w a1 b0 b5 b1 a0 a5) (qI 0 21) ?_
        refine qJ (qI 0 21) ?_
        simp [ap,g0,g1,g2,g3,g4,g5,g6]
       refine qJ (qI 0 21) ?_
       simp [ap,g6]
      refine qJ (qI 0 21) ?_
      simp [ap,g5]
     refine qJ (qI 0 21) ?_
     simp [ap,g4]
    refine qJ (qI 0 21) ?_
    simp [ap,g3]
   refine qJ (qI 0 21) ?_
   simp [ap,g2]
  refine qJ (qI 0 21) ?_
  simp [ap,g1]
 refine qJ (qI 0 21) ?_
 simp [ap,g0]
end
section
open Go.RowKit
def ft:WorldD→Nat→List ActD→Int
 |w,k,[]=>if ap w then -1 else (k:Int)
 |w,k,a::l=>if ap w then ft (ff w a).1 (k+1) l else (k:Int)
theorem hj {w:WorldD} {k:Nat} {l:List ActD} (h:ap w=false):ft w k l=(k:Int):=by
 cases l<;>rw [ft,if_neg (by rw [h];simp)]
theorem hF {w:WorldD} {k:Nat} {l:List ActD} (h:ap w=true) (hk:l.length≤k):ft w k (l.drop k)= -1:=by
 rw [List.drop_eq_nil_of_le hk,ft,if_pos h]
theorem f0 {w:WorldD} {k:Nat} {l:List ActD} (h:ap w=true) (hk:k < l.length):ft w k (l.drop k)=ft (ff w l[k]).1 (k+1) (l.drop (k+1)):=by
 rw [List.drop_eq_getElem_cons hk,ft,if_pos h]
def av (p:PolicyD) (l:List ActD):Int:=if gd p=true∧l.length≤120 then ft (e7 p).1 0 l else -1
theorem dd (p:PolicyD) (l:List ActD) (hl:l.length≤1048576) (ha:∀ a∈l,a.text.length≤1048576):ae Tryz.prog 12 [.ag p.cs,.sc (.sl 0 0 l.length)] [some ⟨l.map ActD.cs,28,93,false,true⟩] (.sc (.int .i64 (av p l))) [some ⟨l.map ActD.cs,28,93,false,true⟩]:=by
 have hW:=aae p
 by_cases hp:gd p=true
 ·have h0:=(ZQ hp).g
  rw [r6 hp] at hW h0
  dsimp only at hW h0
  by_cases h120:l.length≤120
  ·obtain⟨R,hR⟩:∃ R,R=av p l:=⟨_,rfl⟩
   rw [←hR]
   rw [av,if_pos ⟨hp,h120⟩,r6 hp] at hR
   dsimp only at hR
   generalize r2 (r5 (eg 1 p) (eg 2 p)).1 (r5 (eg 1 p) (eg 2 p)).2.1=w0 at hW h0 hR
   refine ga Tryz.func12 Tryz.ntmps12 Tryz.results12 fun E hE=>?_
   refine qK (hW) [] ?_
   refine cE 1 hE (fun s (y:Nat×WorldD)=>s.at (qU [0,1,2,1,4,1,6,1,8,31]) [(7,.sc (.int .i64 (y.1:Nat)))] ((s.hp.take 2)++(y.2.hp true++[some ⟨[WorldD.cs y.2 2],61,51,true,false⟩]))) (fun (y:Nat×WorldD)=>y.1≤l.length∧GoodW y.2 y.1∧ft y.2 y.1 (l.drop y.1)=R) (fun (y:Nat×WorldD)=>l.length - y.1) (0,w0) (qI 0 24) (qC) (⟨Nat.zero_le _,h0,hR.symm⟩) (ab (by rfl) (by rfl) ?_) fun y hy N hN=>?_
   ·exact qY
   obtain⟨k,w⟩:=y
   obtain⟨f1,f2,f3⟩:=hy
   dsimp only at f1 f2 f3
   have s:=f2.s
   have hS:=fl w s.a.own s.a.far s.a.subs s.a.halfs s.a.list s.a.done s.a.over s.b.own s.b.far s.b.subs s.b.halfs s.b.list s.b.done s.b.over (by have:=f2.rb;have:=f2.b.p.ready;omega) (by have:=f2.ra;have:=f2.a.p.ready;omega)
   refine qR ?_
   refine qK (hS) (qI 2 21) ?_
   cases hs:ap w with
   |false=>
    rw [hj hs] at f3
    subst f3
    refine qX ?_
    exact cc (qI 0 1)
   |true=>
    by_cases hk:k < l.length
    ·refine qX ?_
     rw [f0 hs hk] at f3
     have hak:=ha l[k] (List.getElem_mem hk)
     have hD:=Bi w l[k] (f2.d (by omega))
     have hG:=w7 f2 (a:=l[k]) hak
     generalize hx:l[k]=x at*
     obtain⟨Q,hQ⟩:∃ Q,Q=ff w x:=⟨_,rfl⟩
     rw [←hQ] at hD hG f3
     try simp (disch:=omega) only [go_sem,seval,hx]
     refine qD [0,1,2,3,4,5,6,7,8,9] ?_
     try simp (disch:=omega) only [go_sem,seval,hx]
     refine az (hD) (qI 2 21) ?_
     refine qG ?_
     exact UH hN (k+1,Q.1) (qI 0 2++qI 24 21++qI 23 1) (by (try dsimp only);exact⟨by omega,hG,f3⟩)
    refine qX ?_
    rw [hF hs (by omega)] at f3
    subst f3
    exact cc (qI 0 1)
  rw [av,if_neg (fun hc=>h120 hc.2)]
  generalize r2 (r5 (eg 1 p) (eg 2 p)).1 (r5 (eg 1 p) (eg 2 p)).2.1=w0 at hW h0
  refine ga Tryz.func12 Tryz.ntmps12 Tryz.results12 fun E hE=>?_
  refine qK (hW) [] ?_
  exact cc (qI 0 1)
 have hp:gd p=false:=by simpa using hp
 rw [t9 hp] at hW
 dsimp only at hW
 rw [av,if_neg (fun hc=>by rw [hp] at hc;cases hc.1)]
 refine ga Tryz.func12 Tryz.ntmps12 Tryz.results12 fun E hE=>?_
 refine qK (hW) [] ?_
 exact cc (qI 0 1)
theorem ek (p:PolicyD) (l:List ActD) (hl:l.length≤1048576) (ha:∀ a∈l,a.text.length≤1048576):ae Tryz.prog 9 [.ag p.cs,.sc (.sl 0 0 l.length)] [some ⟨l.map ActD.cs,28,93,false,true⟩] (.sc (.int .i64 (av p l))) [some ⟨l.map ActD.cs,28,93,false,true⟩]:=by
 have hW:=aaf p
 by_cases hp:gd p=true
 ·have h0:=(ZQ hp).g
  rw [r6 hp] at hW h0
  dsimp only at hW h0
  by_cases h120:l.length≤120
  ·obtain⟨R,hR⟩:∃ R,R=av p l:=⟨_,rfl⟩
   rw [←hR]
   rw [av,if_pos ⟨hp,h120⟩,r6 hp] at hR
   dsimp only at hR
   generalize r2 (r5 (eg 1 p) (eg 2 p)).1 (r5 (eg 1 p) (eg 2 p)).2.1=w0 at hW h0 hR
   refine ga Tryz.func9 Tryz.ntmps9 Tryz.results9 fun E hE=>?_
   refine qK (hW) [] ?_
   refine cE 1 hE (fun s (y:Nat×WorldD)=>s.at (qU [0,1,2,1,4,1,6,1,8,35]) [(7,.sc (.int .i64 (y.1:Nat)))] ((s.hp.take 2)++(y.2.hp true++[some ⟨[WorldD.cs y.2 2],61,51,true,false⟩]))) (fun (y:Nat×WorldD)=>y.1≤l.length+1∧GoodW y.2 y.1∧(if y.1≤l.length then ft y.2 y.1 (l.drop y.1) else -1)=R) (fun (y:Nat×WorldD)=>l.length+1 - y.1) (0,w0) (qI 0 24) (qC) (⟨Nat.zero_le _,h0,by rw [if_pos (Nat.zero_le _)];exact hR.symm⟩) (ab (by rfl) (by rfl) ?_) fun y hy N hN=>?_
   ·exact qY
   obtain⟨k,w⟩:=y
   obtain⟨f1,f2,f3⟩:=hy
   dsimp only at f1 f2 f3
   have s:=f2.s
   have hS:=fs w s.a.own s.a.far s.a.subs s.a.halfs s.a.list s.a.done s.a.over s.b.own s.b.far s.b.subs s.b.halfs s.b.list s.b.done s.b.over (by have:=f2.rb;have:=f2.b.p.ready;omega) (by have:=f2.ra;have:=f2.a.p.ready;omega)
   refine qR ?_
   by_cases hkl:¬ k≤l.length
   ·rw [if_neg hkl] at f3
    subst f3
    refine qX ?_
    exact cc (qI 0 1)
   rw [Decidable.not_not] at hkl
   rw [if_pos hkl] at f3
   refine qX ?_
   refine qK (hS) (qI 2 21) ?_
   cases hs:ap w with
   |false=>
    rw [hj hs] at f3
    subst f3
    refine qX ?_
    exact cc (qI 0 1)
   |true=>
    by_cases hk:k < l.length
    ·refine qX ?_
     rw [f0 hs hk] at f3
     have hak:=ha l[k] (List.getElem_mem hk)
     have hD:=Bj w l[k] (f2.d (by omega))
     have hG:=w7 f2 (a:=l[k]) hak
     generalize hx:l[k]=x at*
     obtain⟨Q,hQ⟩:∃ Q,Q=ff w x:=⟨_,rfl⟩
     rw [←hQ] at hD hG f3
     try simp (disch:=omega) only [go_sem,seval,hx]
     refine qD [0,1,2,3,4,5,6,7,8,9] ?_
     try simp (disch:=omega) only [go_sem,seval,hx]
     refine az (hD) (qI 2 21) ?_
     refine qG ?_
     exact UH hN (k+1,Q.1) (qI 0 2++qI 24 21++qI 23 1) (by (try dsimp only);exact⟨by omega,hG,by rw [if_pos (by omega)];exact f3⟩)
    refine qX ?_
    rw [hF hs (by omega)] at f3
    exact UH hN (k+1,w) (qI 0 24) (by (try dsimp only);exact⟨by omega,f2.up,by rw [if_neg (by omega)];exact f3⟩)
  rw [av,if_neg (fun hc=>h120 hc.2)]
  generalize r2 (r5 (eg 1 p) (eg 2 p)).1 (r5 (eg 1 p) (eg 2 p)).2.1=w0 at hW h0
  refine ga Tryz.func9 Tryz.ntmps9 Tryz.results9 fun E hE=>?_
  refine qK (hW) [] ?_
  exact cc (qI 0 1)
 have hp:gd p=false:=by simpa using hp
 rw [t9 hp] at hW
 dsimp only at hW
 rw [av,if_neg (fun hc=>by rw [hp] at hc;cases hc.1)]
 refine ga Tryz.func9 Tryz.ntmps9 Tryz.results9 fun E hE=>?_
 refine qK (hW) [] ?_
 exact cc (qI 0 1)
end
section
open Go.RowKit
theorem ep (a0:PolicyD) (w0:a0.wf) (a1:List ActD) (n1:a1.length≤maxLen) (w1:∀ x∈a1,x.wf):ae Tryz.prog 3 [.ag a0.cs,.sc (.sl 0 0 a1.length)] [some ⟨a1.map ActD.cs,28,82,false,true⟩] (.sc (.bo true)) [some ⟨a1.map ActD.cs,28,82,false,true⟩]:=by
 simp only [maxLen] at n1
 refine qE Tryz.func3 Tryz.ntmps3 Tryz.results3 fun E hE=>?_
 refine qK (aax a1 1048576 w1 (by omega) (by omega) (by omega)) (qI 0 1) ?_
 generalize hr:aU 1048576 (r9 a1)=r
 have hb:=bL (by omega) (aac a1) hr
 refine qB (fun h1=>?_) fun h1=>?_
 ·exact qF (qI 0 1)
 have hn:0≤r:=by omega
 obtain⟨l1,l2⟩:=aaV (by omega) (by omega) hr hn
 have hSp:=ek a0 a1 l1 l2
 have hIm:=dd a0 a1 l1 l2
 generalize av a0 a1=W at hSp hIm
 refine qK (sK a0) [] ?_
 refine qK (t6 a1 l1) (qI 0 1) ?_
 refine qK (hSp) (qI 2 1) ?_
 refine qK (t6 a1 l1) (qI 0 1) ?_
 refine qK (sK a0) [] ?_
 refine qK (hIm) (qI 3 1) ?_
 refine qK (t6 a1 l1) (qI 0 1) ?_
 refine qK (aao a1 (by omega)) (qI 3 2) ?_
 exact qF (qI 0 1)
end
end Go.Proofs.YtbgakfbnkkfbkaaGreat
