/-
  Texts merged for this claim by shake.py: what its proof needs.
-/
import Derived.Test.YtjghbknhneffjaaGreatZFnBaseL
import Derived.Test.YtjghbknhneffjaaGreatZFnBaseM
import Derived.Test.YtjghbknhneffjaaGreatZFnBaseN
set_option maxHeartbeats 16000000
set_option maxRecDepth 100000
set_option linter.unusedVariables false
set_option linter.unusedSimpArgs false
namespace Go.Proofs.YtjghbknhneffjaaGreat
section
open Go.RowKit
section
variable {P:Program} {β:Be} {s:S} {w:World} {tm:Array Value}
end
end
section
open Go.RowKit
end
section
open Go.ChangeShapes Go.WideShapes Go.ChangeAt Go.RowKit
end
section
open Go.ChangeShapes Go.WideShapes Go.ChangeAt Go.RowKit
end
section
open Go.ChangeShapes Go.WideShapes Go.ChangeAt Go.RowKit
end
section
open Go.RowKit
theorem Gk {α:Type} {f:α->List Sc} {l:List α} {k:Nat} {v:α} {w:List Sc} (h:f v=w):(l.map f).set k w=(l.set k v).map f:=by rw [List.map_set,h]
end
section
end
section
open Go.RowKit
theorem Il {e:EndD} {k:Int} {n:Nat} (h:EE e k=true) (hk:k=(n:Int)) (hn:n < e.subs.length):
  ks e k=({ e with subs:=bP e.subs n 4 },[aq e.subs[n].road { ah with kind:=13,sgn:=e.subs[n].give }]):=by
 rw [ks,if_pos h,hk,Int.toNat_natCast,bW hn]
theorem Im {e:EndD} {k:Int} (h:EE e k=false):ks e k=(e,[]):=by rw [ks,if_neg (by simp [h])]
theorem H5 {e:EndD} {n:Nat} (hn:n < e.subs.length):EE e (n:Int)=(af e && decide (e.subs[n].state=3)):=by
 rw [EE,Int.toNat_natCast,bW hn,show bj (n:Int) 0 ((e.subs.length:Int) - 1)=true by simp only [bj,Bool.and_eq_true,decide_eq_true_eq];omega,Bool.and_true]
theorem Hv {e:EndD} {k:Int} (h:bj k 0 ((e.subs.length:Int) - 1)=false):EE e k=false:=by simp [EE,h]
theorem Fh (e:EndD) (k:Int) (hs:Small e):aP 256 [.ag (e.cs 0),.sc (.int .i64 k)] (e.hp false) (.tu [.ag ((ks e k).1.cs 7),.sc (.sl 14 0 (ks e k).2.length)])
  (e.hp false++((ks e k).1.hp true++[some ⟨(ks e k).2.map LetterD.cs,19,48,true,true⟩])):=by
 have hC:=(qH (aj e))
 have hK:=(qH (au e))
 have hsub:=hs.subs
 have hf:=Im (e:=e) (k:=k)
 have ht:= @Il e k
 have hI:=ak k 0 ((e.subs.length:Int) - 1)
 refine gU Tryz.func256 Tryz.ntmps256 Tryz.results256 fun E hE=>?_
 refine qK (hC) (qI 0 7) ?_
 refine qK (hK) (qI 0 7) ?_
 refine qB (fun b1=>?_) fun b1=>?_
 ·refine qK (hI) [] ?_
  cases hin:bj k 0 ((e.subs.length:Int) - 1) with
  |false=>
   rw [hf (Hv hin)]
   refine qX ?_
   exact dk (qI 0 7++qI 9 7++qI 17 1)
  |true=>
   simp only [bj,Bool.and_eq_true,decide_eq_true_eq] at hin
   obtain⟨n,rfl⟩:=Int.eq_ofNat_of_zero_le hin.1
   have hn:n < e.subs.length:=by omega
   have hg:=aT (enc:=SubD.cs) hn
   have hok:=H5 (e:=e) hn
   rw [b1,Bool.true_and] at hok
   try simp (disch:=omega) only [go_sem,seval,hg]
   refine qB (fun b2=>?_) fun b2=>?_
   ·rw [hf (by rw [hok];simp [b2])]
    refine qX ?_
    exact dk (qI 0 7++qI 9 7++qI 17 1)
   rw [ht (by rw [hok];simp [b2]) rfl hn]
   have hset:bP e.subs n 4=e.subs.set n { e.subs[n] with state:=4 }:=by rw [bP,bW hn]
   rw [hset]
   have hms:=Gk (f:=SubD.cs) (l:=e.subs) (k:=n) (v:={ e.subs[n] with state:=4 }) rfl
   simp only [SubD.cs] at hms
   try simp (disch:=omega) only [go_sem,seval,hg]
   refine cG [(0,17),(15,0),(16,0)] [(15,16),(15,17),(16,17)] [(qU [1,16,0,1,17,3]),(qU [1,15,0,1,16,4]),(qU [1,14,0,1,15,5]),(qU [1,17,0,1,18,2])] 7 hE (fun s=>s.at (qU [7,1,39,18]) [(5,.sc (.sl 18 0 1))] (((s.hp.set 8 (some ⟨[[.int .i64 e.side,.int .i64 e.state,.int .i64 e.key,.int .i64 e.peer,.int .i64 e.policy.kind,.int .i64 e.policy.many,.sl 9 0 e.own.length,.sl 10 0 e.far.length,.sl 11 0 e.subs.length,.sl 12 0 e.halfs.length,.int .i64 e.bucket.rate,.int .i64 e.bucket.burst,.int .i64 e.bucket.cur,.st e.out.text,.int .i64 e.out.base,.int .i64 e.out.sent,.int .i64 e.out.room,.int .i64 e.inp.read,.st e.inp.ready,.sl 13 0 e.inp.list.length,.sl 14 0 e.done.length,.sl 15 0 e.over.length,.int .i64 e.draw,.int .i64 e.now,.int .i64 e.pick]],25,38,true,false⟩)).set 17 none)++[some ⟨[(aq e.subs[n].road { ah with kind:=13,sgn:=e.subs[n].give }).cs],19,48,true,true⟩])) (by kernel_rfl) (qC) (by kernel_rfl) ?_ (ac 400 ?_)
   rotate_left
   rotate_right
   simp only [bm]
   refine⟨aa 400 ?_,aa 400 ?_,aa 400 ?_,aa 400 ?_⟩
   ·simp (disch:=omega) only [go_sem,hg]
    refine aQ (aw e.subs[n].road { ah with kind:=13,sgn:=e.subs[n].give }) [] ?_
    refine⟨qC,(qI 0 18++qI 19 1),ab (by rfl) (by rfl) ?_⟩
    try simp (disch:=omega) only [go_sem,seval]
    try rfl
   ·simp (disch:=omega) only [go_sem,hg]
    refine aQ (aw e.subs[n].road { ah with kind:=13,sgn:=e.subs[n].give }) [] ?_
    refine⟨qC,(qI 0 18++qI 19 1),ab (by rfl) (by rfl) ?_⟩
    try simp (disch:=omega) only [go_sem,seval]
    try rfl
   ·simp (disch:=omega) only [go_sem,hg]
    refine aQ (aw e.subs[n].road { ah with kind:=13,sgn:=e.subs[n].give }) [] ?_
    refine⟨qC,(qI 0 18++qI 19 1),ab (by rfl) (by rfl) ?_⟩
    try simp (disch:=omega) only [go_sem,seval]
    try rfl
   ·simp (disch:=omega) only [go_sem,hg]
    refine aQ (aw e.subs[n].road { ah with kind:=13,sgn:=e.subs[n].give }) [] ?_
    refine⟨qC,(qI 0 18++qI 19 1),ab (by rfl) (by rfl) ?_⟩
    try simp (disch:=omega) only [go_sem,seval]
    try rfl
   refine qX ?_
   refine fL (qI 0 7++qI 9 7++qI 18 1) (qC) _ (by simp only [go_sem];rfl) (by rfl) (by rfl) ?_
   simp (disch:=omega) only [go_sem,seval]
   exact⟨by simp,hms⟩
 rw [hf (by simp [EE,b1])]
 refine qX ?_
 exact dk (qI 0 7++qI 9 7++qI 17 1)
end
end Go.Proofs.YtjghbknhneffjaaGreat
