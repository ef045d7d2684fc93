/-
  Texts merged for this claim by shake.py: what its proof needs.
-/
import Derived.Tactics
import Derived.Below
import Derived.Laws.AppendOwn
import Derived.Laws.OwnMore
import Derived.Laws.Slices
import Derived.Laws.Small
import Derived.Laws.Strings
import Derived.KernelRfl
import Derived.Laws.MakeOwn
import Derived.Laws.BytesString
import Derived.Laws.BytesArg
import Derived.Laws.Build
import Derived.Laws.Concat
import Derived.Laws.StructEq
import Derived.Lib.ConvBytes
import Derived.Orders
import Derived.WalkKit
import Derived.ProofKit
import Derived.ShutString
import Derived.OpenShut
import Derived.ChangeOld
import Derived.Carry
import Derived.Test.YtbgakfbnkkfbkaaGreatChecked
import Derived.Laws.BitsLemmas
import Derived.JoinedOf
import Derived.Test.YtbgakfbnkkfbkaaGreatZFnBaseA
import Derived.Test.YtbgakfbnkkfbkaaGreatZFnBaseB
import Derived.Test.YtbgakfbnkkfbkaaGreatZFnBaseD
import Derived.Test.YtbgakfbnkkfbkaaGreatZFnBaseF
import Derived.Test.YtbgakfbnkkfbkaaGreatZFnBaseG
set_option maxHeartbeats 16000000
set_option maxRecDepth 100000
set_option linter.unusedVariables false
set_option linter.unusedSimpArgs false
namespace Go.Proofs.YtbgakfbnkkfbkaaGreat
section
open Go.RowKit
theorem YV {e:EndD} {k:Int} {n:Nat} (h:we e k=true) (hk:k=(n:Int)) (hn:n < e.subs.length):
  br e k=({ e with subs:=cS e.subs n 4 },[bc e.subs[n].road { aw with kind:=13,sgn:=e.subs[n].give }]):=by
 rw [br,if_pos h,hk,Int.toNat_natCast,bR hn]
theorem YW {e:EndD} {k:Int} (h:we e k=false):br e k=(e,[]):=by rw [br,if_neg (by simp [h])]
theorem NK {e:EndD} {n:Nat} (hn:n < e.subs.length):we e (n:Int)=(aj e && decide (e.subs[n].state=3)):=by
 rw [we,Int.toNat_natCast,bR hn,show cr (n:Int) 0 ((e.subs.length:Int) - 1)=true by simp only [cr,Bool.and_eq_true,decide_eq_true_eq];omega,Bool.and_true]
theorem E5 {e:EndD} {k:Int} (h:cr k 0 ((e.subs.length:Int) - 1)=false):we e k=false:=by simp [we,h]
theorem uM {e:EndD} (h:aj e=true):e.own.length≤6:=by
 simp only [aj,Bool.and_eq_true] at h
 exact jF (by simp_all)
theorem YX {e:EndD} {a:AddrD} (h:EW e a=false):aB e a=(e,false):=by rw [aB,if_neg (by simp [h])]
theorem YY {e:EndD} {a:AddrD} (h:EW e a=true):aB e a=({ e with own:=(bn e.own { a with told:=false }).1 },(bn e.own { a with told:=false }).2):=by rw [aB,if_pos h]
theorem NL {e:EndD} {a:AddrD} (h:(bn e.own { a with told:=false }).2=false):aB e a=(e,false):=by
 rw [aB];split
 ·have:bn e.own { a with told:=false }=(e.own,false):=by
   rw [bn] at h⊢;split
   ·rename_i hh;rw [if_pos hh] at h;cases h
   rfl
  rw [this]
 rfl
theorem si (e:EndD) (k:Int) (hs:Small e):ae Tryz.prog 153 [.ag (e.cs 0),.sc (.int .i64 k)] (e.hp false) (.tu [.ag ((br e k).1.cs 7),.sc (.sl 14 0 (br e k).2.length)])
  (e.hp false++((br e k).1.hp true++[some ⟨(br e k).2.map LetterD.cs,19,91,true,true⟩])):=by
 have hC:=(qH (aK e))
 have hK:=(qH (bf e))
 have hsub:=hs.subs
 have hf:=YW (e:=e) (k:=k)
 have ht:= @YV e k
 have hI:=aO k 0 ((e.subs.length:Int) - 1)
 refine ga Tryz.func153 Tryz.ntmps153 Tryz.results153 fun E hE=>?_
 refine qK (hC) (qI 0 7) ?_
 refine qK (hK) (qI 0 7) ?_
 refine qB (fun b1=>?_) fun b1=>?_
 ·refine qK (hI) [] ?_
  cases hin:cr k 0 ((e.subs.length:Int) - 1) with
  |false=>
   rw [hf (E5 hin)]
   refine qX ?_
   exact cc (qI 0 7++qI 9 7++qO 1)
  |true=>
   simp only [cr,Bool.and_eq_true,decide_eq_true_eq] at hin
   obtain⟨n,rfl⟩:=Int.eq_ofNat_of_zero_le hin.1
   have hn:n < e.subs.length:=by omega
   have hg:=ao (enc:=SubD.cs) hn
   have hok:=NK (e:=e) hn
   rw [b1,Bool.true_and] at hok
   try simp (disch:=omega) only [go_sem,seval,hg]
   refine qB (fun b2=>?_) fun b2=>?_
   ·rw [hf (by rw [hok];simp [b2])]
    refine qX ?_
    exact cc (qI 0 7++qI 9 7++qO 1)
   rw [ht (by rw [hok];simp [b2]) rfl hn]
   have hset:cS e.subs n 4=e.subs.set n { e.subs[n] with state:=4 }:=by rw [cS,bR hn]
   rw [hset]
   have hms:=bl (f:=SubD.cs) (l:=e.subs) (k:=n) (v:={ e.subs[n] with state:=4 }) rfl
   simp only [SubD.cs] at hms
   try simp (disch:=omega) only [go_sem,seval,hg]
   refine aI [(15,16)] [] [(qU [0,18]),(qU [0,15,16,1,15,1,17,1])] 7 hE (fun s=>s.at (qU [36,16]) [(5,.sc (.sl 17 0 1))] ((s.hp.set 8 (some ⟨[[.int .i64 e.side,.int .i64 e.state,.int .i64 e.key,.int .i64 e.peer,.int .i64 e.policy.kind,.int .i64 e.policy.many,.sl 9 0 e.own.length,.sl 10 0 e.far.length,.sl 11 0 e.subs.length,.sl 12 0 e.halfs.length,.int .i64 e.bucket.rate,.int .i64 e.bucket.burst,.int .i64 e.bucket.cur,.st e.out.text,.int .i64 e.out.base,.int .i64 e.out.sent,.int .i64 e.out.room,.int .i64 e.inp.read,.st e.inp.ready,.sl 13 0 e.inp.list.length,.sl 14 0 e.done.length,.sl 15 0 e.over.length,.int .i64 e.draw,.int .i64 e.now,.int .i64 e.pick]],25,45,true,false⟩))++[some ⟨[(bc e.subs[n].road { aw with kind:=13,sgn:=e.subs[n].give }).cs],19,91,true,true⟩])) (by kernel_rfl) (qC) (by kernel_rfl) ?_ (ac 400 ?_)
   rotate_left
   rotate_right
   simp only [aQ]
   refine⟨aa 400 ?_,aa 400 ?_⟩
   ·simp (disch:=omega) only [go_sem,hg]
    refine az (bg e.subs[n].road { aw with kind:=13,sgn:=e.subs[n].give }) [] ?_
    refine⟨qC,(qI 0 18),ab (by rfl) (by rfl) ?_⟩
    try simp (disch:=omega) only [go_sem,seval]
    try rfl
   ·simp (disch:=omega) only [go_sem,hg]
    refine az (bg e.subs[n].road { aw with kind:=13,sgn:=e.subs[n].give }) [] ?_
    refine⟨qC,(qI 0 18),ab (by rfl) (by rfl) ?_⟩
    try simp (disch:=omega) only [go_sem,seval]
    try rfl
   refine qX ?_
   refine aA (qI 0 7++qI 9 7++qI 17 1) (qC) _ (by simp only [go_sem];rfl) (by rfl) (by rfl) ?_
   simp (disch:=omega) only [go_sem,seval]
   exact⟨by simp,hms⟩
 rw [hf (by simp [we,b1])]
 refine qX ?_
 exact cc (qI 0 7++qI 9 7++qO 1)
theorem i4 (e:EndD) (a:AddrD) (hs:Small e):ae Tryz.prog 150 [.ag (e.cs 0),.ag a.cs] (e.hp false) (.tu [.ag ((aB e a).1.cs 7),.sc (.bo (aB e a).2)]) (e.hp false++(aB e a).1.hp true):=by
 have hC:=(qH (aK e))
 have hK:=(qH (bf e))
 have hA:=d4 e.own a.id (by have:=hs.own;omega)
 have hH:=eH e.done a.id (by have:=hs.done;omega)
 have hP:=fun h=>jG e.own { a with told:=false } h
 have hf:=YX (e:=e) (a:=a)
 have ht:=YY (e:=e) (a:=a)
 have ht2:=NL (e:=e) (a:=a)
 have hok:EW e a=(aj e && decide (bv e.own a.id < 0) && !lY e.done a.id):=rfl
 generalize aB e a=R at*
 generalize bn e.own { a with told:=false }=pa at*
 obtain⟨own1,ok1⟩:=pa
 dsimp only at hP ht ht2
 refine ga Tryz.func150 Tryz.ntmps150 Tryz.results150 fun E hE=>?_
 refine qK (hC) (qI 0 7) ?_
 refine qK (hK) (qI 0 7) ?_
 refine qB (fun b1=>?_) fun b1=>?_
 ·refine qK (hA) (qI 0 1) ?_
  refine qB (fun b2=>?_) fun b2=>?_
  ·refine qK (hH) (qI 5 1) ?_
   refine qB (fun b3=>?_) fun b3=>?_
   ·rw [hf (by rw [hok];simp [b3])]
    refine qX ?_
    exact cc (qI 0 7++qI 10 7)
   rw [ht (by rw [hok,b1,decide_eq_true (by omega),b3];rfl)]
   have hP:=hP (by have:=uM b1;omega)
   refine qX ?_
   refine qK (hP) (qI 0 1) ?_
   exact cc (qI 0 7++qI 18 1++qI 11 6)
  rw [hf (by rw [hok,decide_eq_false (by omega)];simp)]
  refine qX ?_
  exact cc (qI 0 7++qI 10 7)
 rw [hf (by simp [hok,b1])]
 refine qX ?_
 exact cc (qI 0 7++qI 10 7)
theorem sj (e:EndD) (k:Int) (hs:Small e):ae Tryz.prog 122 [.ag (e.cs 0),.sc (.int .i64 k)] (e.hp false) (.tu [.ag ((br e k).1.cs 7),.sc (.sl 14 0 (br e k).2.length)])
  (e.hp false++((br e k).1.hp true++[some ⟨(br e k).2.map LetterD.cs,19,91,true,true⟩])):=by
 have hC:=(qH (aD e))
 have hK:=(qH (be e))
 have hsub:=hs.subs
 have hf:=YW (e:=e) (k:=k)
 have ht:= @YV e k
 have hI:=aM k 0 ((e.subs.length:Int) - 1)
 refine ga Tryz.func122 Tryz.ntmps122 Tryz.results122 fun E hE=>?_
 refine qK (hC) (qI 0 7) ?_
 refine qK (hK) (qI 0 7) ?_
 refine qB (fun b1=>?_) fun b1=>?_
 ·refine qK (hI) [] ?_
  cases hin:cr k 0 ((e.subs.length:Int) - 1) with
  |false=>
   rw [hf (E5 hin)]
   refine qX ?_
   exact cc (qI 0 7++qI 9 7++qI 17 1)
  |true=>
   simp only [cr,Bool.and_eq_true,decide_eq_true_eq] at hin
   obtain⟨n,rfl⟩:=Int.eq_ofNat_of_zero_le hin.1
   have hn:n < e.subs.length:=by omega
   have hg:=ao (enc:=SubD.cs) hn
   have hok:=NK (e:=e) hn
   rw [b1,Bool.true_and] at hok
   try simp (disch:=omega) only [go_sem,seval,hg]
   refine qB (fun b2=>?_) fun b2=>?_
   ·rw [hf (by rw [hok];simp [b2])]
    refine qX ?_
    exact cc (qI 0 7++qI 9 7++qI 17 1)
   rw [ht (by rw [hok];simp [b2]) rfl hn]
   have hset:cS e.subs n 4=e.subs.set n { e.subs[n] with state:=4 }:=by rw [cS,bR hn]
   rw [hset]
   have hms:=bl (f:=SubD.cs) (l:=e.subs) (k:=n) (v:={ e.subs[n] with state:=4 }) rfl
   simp only [SubD.cs] at hms
   try simp (disch:=omega) only [go_sem,seval,hg]
   refine aI [(0,17),(15,0),(16,0)] [(15,16),(15,17),(16,17)] [(qU [1,16,0,1,17,3]),(qU [1,15,0,1,16,4]),(qU [1,14,0,1,15,5]),(qU [1,17,0,1,18,2])] 7 hE (fun s=>s.at (qU [7,1,39,18]) [(5,.sc (.sl 18 0 1))] (((s.hp.set 8 (some ⟨[[.int .i64 e.side,.int .i64 e.state,.int .i64 e.key,.int .i64 e.peer,.int .i64 e.policy.kind,.int .i64 e.policy.many,.sl 9 0 e.own.length,.sl 10 0 e.far.length,.sl 11 0 e.subs.length,.sl 12 0 e.halfs.length,.int .i64 e.bucket.rate,.int .i64 e.bucket.burst,.int .i64 e.bucket.cur,.st e.out.text,.int .i64 e.out.base,.int .i64 e.out.sent,.int .i64 e.out.room,.int .i64 e.inp.read,.st e.inp.ready,.sl 13 0 e.inp.list.length,.sl 14 0 e.done.length,.sl 15 0 e.over.length,.int .i64 e.draw,.int .i64 e.now,.int .i64 e.pick]],25,45,true,false⟩)).set 17 none)++[some ⟨[(bc e.subs[n].road { aw with kind:=13,sgn:=e.subs[n].give }).cs],19,91,true,true⟩])) (by kernel_rfl) (qC) (by kernel_rfl) ?_ (ac 400 ?_)
   rotate_left
   rotate_right
   simp only [aQ]
   refine⟨aa 400 ?_,aa 400 ?_,aa 400 ?_,aa 400 ?_⟩
   ·simp (disch:=omega) only [go_sem,hg]
    refine az (aX e.subs[n].road { aw with kind:=13,sgn:=e.subs[n].give }) [] ?_
    refine⟨qC,(qI 0 18++qI 19 1),ab (by rfl) (by rfl) ?_⟩
    try simp (disch:=omega) only [go_sem,seval]
    try rfl
   ·simp (disch:=omega) only [go_sem,hg]
    refine az (aX e.subs[n].road { aw with kind:=13,sgn:=e.subs[n].give }) [] ?_
    refine⟨qC,(qI 0 18++qI 19 1),ab (by rfl) (by rfl) ?_⟩
    try simp (disch:=omega) only [go_sem,seval]
    try rfl
   ·simp (disch:=omega) only [go_sem,hg]
    refine az (aX e.subs[n].road { aw with kind:=13,sgn:=e.subs[n].give }) [] ?_
    refine⟨qC,(qI 0 18++qI 19 1),ab (by rfl) (by rfl) ?_⟩
    try simp (disch:=omega) only [go_sem,seval]
    try rfl
   ·simp (disch:=omega) only [go_sem,hg]
    refine az (aX e.subs[n].road { aw with kind:=13,sgn:=e.subs[n].give }) [] ?_
    refine⟨qC,(qI 0 18++qI 19 1),ab (by rfl) (by rfl) ?_⟩
    try simp (disch:=omega) only [go_sem,seval]
    try rfl
   refine qX ?_
   refine aA (qI 0 7++qI 9 7++qI 18 1) (qC) _ (by simp only [go_sem];rfl) (by rfl) (by rfl) ?_
   simp (disch:=omega) only [go_sem,seval]
   exact⟨by simp,hms⟩
 rw [hf (by simp [we,b1])]
 refine qX ?_
 exact cc (qI 0 7++qI 9 7++qI 17 1)
theorem i5 (e:EndD) (a:AddrD) (hs:Small e):ae Tryz.prog 120 [.ag (e.cs 0),.ag a.cs] (e.hp false) (.tu [.ag ((aB e a).1.cs 7),.sc (.bo (aB e a).2)]) (e.hp false++(aB e a).1.hp true):=by
 have hC:=(qH (aD e))
 have hK:=(qH (be e))
 have hA:=dh e.own a.id (by have:=hs.own;omega)
 have hH:=fF e.done a.id (by have:=hs.done;omega)
 have hP:=fun h=>jH e.own { a with told:=false } h
 have hf:=YX (e:=e) (a:=a)
 have ht:=YY (e:=e) (a:=a)
 have ht2:=NL (e:=e) (a:=a)
 have hok:EW e a=(aj e && decide (bv e.own a.id < 0) && !lY e.done a.id):=rfl
 generalize aB e a=R at*
 generalize bn e.own { a with told:=false }=pa at*
 obtain⟨own1,ok1⟩:=pa
 dsimp only at hP ht ht2
 refine ga Tryz.func120 Tryz.ntmps120 Tryz.results120 fun E hE=>?_
 refine qK (hC) (qI 0 7) ?_
 refine qK (hP (by have:=hs.own;omega)) (qI 0 1) ?_
 refine qK (hK) (qI 0 7) ?_
 refine qB (fun b1=>?_) fun b1=>?_
 ·cases ok1 with
  |false=>
   rw [ht2 rfl]
   refine qX ?_
   exact cc (qI 0 7++qI 10 7)
  |true=>
   refine qX ?_
   refine qK (hA) (qI 0 1) ?_
   refine qB (fun b2=>?_) fun b2=>?_
   ·refine qK (hH) (qI 5 1) ?_
    refine qB (fun b3=>?_) fun b3=>?_
    ·rw [hf (by rw [hok];simp [b3])]
     refine qX ?_
     exact cc (qI 0 7++qI 10 7)
    rw [ht (by rw [hok,b1,decide_eq_true (by omega),b3];rfl)]
    refine qX ?_
    exact cc (qI 0 7++qI 18 1++qI 11 6)
   rw [hf (by rw [hok,decide_eq_false (by omega)];simp)]
   refine qX ?_
   exact cc (qI 0 7++qI 10 7)
 rw [hf (by simp [hok,b1])]
 refine qX ?_
 exact cc (qI 0 7++qI 10 7)
end
section
open Go.RowKit
def t7 (e:EndD) (to:Int):RoadD:=⟨(e.own.getD 0 default).addr,to,0⟩
def ZO (e:EndD) (to:Int):Bool:=
 aj e && decide (e.state=0) && !decide (e.own.length=0) && cr to 1 65535 && decide (e.subs.length < 8) && cr e.draw 1 999999996 && decide (bO e.subs (t7 e to) < 0)
def r4 (e:EndD) (to:Int):EndD×List LetterD:=
 if ZO e to then ({ e with state:=1,key:=e.draw,subs:=e.subs++[⟨t7 e to,1,false,0,0,0,e.draw+2,0⟩],draw:=e.draw+4 },
  [bc (t7 e to) { aw with kind:=1,key:=e.draw,give:=e.draw+2 }]) else (e,[])
def r7 (a:EndD):List LetterD→EndD→EndD×EndD
 |[],b=>(a,b)
 |x::l,b=>r7 ((bX b x).2.foldl (fun a y=>(cf a y).1) a) l (bX b x).1
def Z1 (a b:EndD):Bool:=decide (a.state=2) && decide (b.state=2) && decide (a.peer=b.key) && decide (b.peer=a.key)
def r5 (a b:EndD):EndD×EndD×Bool:=
 if b.own.length=0 then (a,b,false)
 else
  let r:=r7 (r4 a (b.own.getD 0 default).addr).1 (r4 a (b.own.getD 0 default).addr).2 b
  (r.1,r.2,Z1 r.1 r.2)
end
end Go.Proofs.YtbgakfbnkkfbkaaGreat
