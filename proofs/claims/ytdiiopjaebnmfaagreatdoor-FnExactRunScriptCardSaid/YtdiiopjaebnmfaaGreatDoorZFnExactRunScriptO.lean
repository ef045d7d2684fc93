/- Lemmas of this claim. -/
import Derived.Test.YtdiiopjaebnmfaaGreatDoorZFnExactRunScriptE
import Derived.Test.YtdiiopjaebnmfaaGreatDoorZFnExactRunScriptF
import Derived.Test.YtdiiopjaebnmfaaGreatDoorZFnExactRunScriptG
set_option maxHeartbeats 16000000
set_option maxRecDepth 100000
set_option linter.unusedVariables false
set_option linter.unusedSimpArgs false
namespace Go.Proofs.YtdiiopjaebnmfaaGreatDoor
open _root_.Go.Proofs.Tryz
open _root_.Bool renaming and_eq_true->zk,true_and->zG
section
open Go.RowKit
theorem Pb {e:EndD} {k:Int} {n:Nat} (h:yr e k=true) (hk:k=(n:Int)) (hn:n < e.subs.length):
  bI e k=({ e with subs:=cE e.subs n 4 },[bc e.subs[n].road { ac with kind:=13,sgn:=e.subs[n].give }]):=by
 rw [bI,if_pos h,hk,Int.toNat_natCast,bQ hn]
theorem Pc {e:EndD} {k:Int} (h:yr e k=false):bI e k=(e,[]):=by rw [bI,if_neg (by simp [h])]
theorem Nd {e:EndD} {n:Nat} (hn:n < e.subs.length):yr e (n:Int)=(aq e && decide (e.subs[n].state=3)):=by
 rw [yr,Int.toNat_natCast,bQ hn,show bU (n:Int) 0 ((e.subs.length:Int) - 1)=true by simp only [bU,zk,decide_eq_true_eq];omega,Bool.and_true]
theorem KW {e:EndD} {k:Int} (h:bU k 0 ((e.subs.length:Int) - 1)=false):yr e k=false:=by simp [yr,h]
theorem By {e:EndD} (h:aq e=true):e.own.length<=6:=by
 simp only [aq,zk] at h
 exact mS (by simp_all)
theorem Pd {e:EndD} {a:AddrD} (h:IT e a=false):aK e a=(e,false):=by rw [aK,if_neg (by simp [h])]
theorem Pe {e:EndD} {a:AddrD} (h:IT e a=true):aK e a=({ e with own:=(bu e.own { a with told:=false }).1 },(bu e.own { a with told:=false }).2):=by rw [aK,if_pos h]
theorem Nf {e:EndD} {a:AddrD} (h:(bu e.own { a with told:=false }).2=false):aK e a=(e,false):=by
 rw [aK];split
 ·have:bu e.own { a with told:=false }=(e.own,false):=by
   rw [bu] at h⊢;split
   ·rename_i hh;rw [if_pos hh] at h;cases h
   rfl
  rw [this]
 rfl
theorem yM (e:EndD) (k:Int) (hs:Small e):aP 99 [.ag (e.cs 0),.sc (.int .i64 k)] (e.hp false) (.tu [.ag ((bI e k).1.cs 7),.sc (.sl 14 0 (bI e k).2.length)])
  (e.hp false++((bI e k).1.hp true++[some ⟨(bI e k).2.map LetterD.cs,19,36,true,true⟩])):=by
 have hC:=(qH (aG e))
 have hK:=(qH (bA e))
 have hsub:=hs.subs
 have hf:=Pc (e:=e) (k:=k)
 have ht:= @Pb e k
 have hI:=aS k 0 ((e.subs.length:Int) - 1)
 refine ix func99 ntmps99 results99 fun E hE=>?_
 refine qK (hC) (qI 0 7) ?_
 refine qK (hK) (qI 0 7) ?_
 refine qB (fun b1=>?_) fun b1=>?_
 ·refine qK (hI) [] ?_
  cases hin:bU k 0 ((e.subs.length:Int) - 1) with
  |false=>
   rw [hf (KW hin)]
   refine qX ?_
   exact cP (qI 0 7++qI 9 7++qO 1)
  |true=>
   simp only [bU,zk,decide_eq_true_eq] at hin
   obtain⟨n,rfl⟩:=Int.eq_ofNat_of_zero_le hin.1
   have hn:n < e.subs.length:=zO
   have hg:=aC (enc:=SubD.cs) hn
   have hok:=Nd (e:=e) hn
   rw [b1,zG] at hok
   try simp (disch:=omega) only [go_sem,seval,hg]
   refine qB (fun b2=>?_) fun b2=>?_
   ·rw [hf (by rw [hok];simp [b2])]
    refine qX ?_
    exact cP (qI 0 7++qI 9 7++qO 1)
   rw [ht (by rw [hok];simp [b2]) rfl hn]
   have hset:cE e.subs n 4=e.subs.set n { e.subs[n] with state:=4 }:=by rw [cE,bQ hn]
   rw [hset]
   have hms:=su (f:=SubD.cs) (l:=e.subs) (k:=n) (v:={ e.subs[n] with state:=4 }) rfl
   simp only [SubD.cs] at hms
   try simp (disch:=omega) only [go_sem,seval,hg]
   refine aR [(15,16)] [] [(qU [0,18]),(qU [0,15,16,1,15,1,17,1])] 7 hE (fun s=>s.at (qU [36,16]) [(5,.sc (.sl 17 0 1))] ((s.hp.set 8 (some ⟨[[.int .i64 e.side,.int .i64 e.state,.int .i64 e.key,.int .i64 e.peer,.int .i64 e.policy.kind,.int .i64 e.policy.many,.sl 9 0 e.own.length,.sl 10 0 e.far.length,.sl 11 0 e.subs.length,.sl 12 0 e.halfs.length,.int .i64 e.bucket.rate,.int .i64 e.bucket.burst,.int .i64 e.bucket.cur,.st e.out.text,.int .i64 e.out.base,.int .i64 e.out.sent,.int .i64 e.out.room,.int .i64 e.inp.read,.st e.inp.ready,.sl 13 0 e.inp.list.length,.sl 14 0 e.done.length,.sl 15 0 e.over.length,.int .i64 e.draw,.int .i64 e.now,.int .i64 e.pick]],25,54,true,false⟩))++[some ⟨[(bc e.subs[n].road { ac with kind:=13,sgn:=e.subs[n].give }).cs],19,36,true,true⟩])) zXk (qC) zXk ?_ (ab 400 ?_)
   rotate_left
   rotate_right
   simp only [aM]
   refine⟨aa 400 ?_,aa 400 ?_⟩
   ·simp (disch:=omega) only [go_sem,hg]
    refine aE (bB e.subs[n].road { ac with kind:=13,sgn:=e.subs[n].give }) [] ?_
    refine⟨qC,(qI 0 18),ae zF zF ?_⟩
    try simp (disch:=omega) only [go_sem,seval]
    try rfl
   ·simp (disch:=omega) only [go_sem,hg]
    refine aE (bB e.subs[n].road { ac with kind:=13,sgn:=e.subs[n].give }) [] ?_
    refine⟨qC,(qI 0 18),ae zF zF ?_⟩
    try simp (disch:=omega) only [go_sem,seval]
    try rfl
   refine qX ?_
   refine aO (qI 0 7++qI 9 7++qI 17 1) (qC) _ zXg zF zF ?_
   simp (disch:=omega) only [go_sem,seval]
   exact⟨zP,hms⟩
 rw [hf (by simp [yr,b1])]
 refine qX ?_
 exact cP (qI 0 7++qI 9 7++qO 1)
theorem lI (e:EndD) (a:AddrD) (hs:Small e):aP 96 [.ag (e.cs 0),.ag a.cs] (e.hp false) (.tu [.ag ((aK e a).1.cs 7),.sc (.bo (aK e a).2)]) (e.hp false++(aK e a).1.hp true):=by
 have hC:=(qH (aG e))
 have hK:=(qH (bA e))
 have hA:=fN e.own a.id (by have:=hs.own;omega)
 have hH:=gH e.done a.id (by have:=hs.done;omega)
 have hP:=fun h=>mT e.own { a with told:=false } h
 have hf:=Pd (e:=e) (a:=a)
 have ht:=Pe (e:=e) (a:=a)
 have ht2:=Nf (e:=e) (a:=a)
 have hok:IT e a=(aq e && decide (bs e.own a.id < 0) && !nF e.done a.id):=rfl
 generalize aK e a=R at*
 generalize bu e.own { a with told:=false }=pa at*
 obtain⟨own1,ok1⟩:=pa
 dsimp only at hP ht ht2
 refine ix func96 ntmps96 results96 fun E hE=>?_
 refine qK (hC) (qI 0 7) ?_
 refine qK (hK) (qI 0 7) ?_
 refine qB (fun b1=>?_) fun b1=>?_
 ·refine qK (hA) (qI 0 1) ?_
  refine qB (fun b2=>?_) fun b2=>?_
  ·refine qK (hH) (qI 5 1) ?_
   refine qB (fun b3=>?_) fun b3=>?_
   ·rw [hf (by rw [hok];simp [b3])]
    refine qX ?_
    exact cP (qI 0 7++qI 10 7)
   rw [ht (by rw [hok,b1,decide_eq_true zO,b3];rfl)]
   have hP:=hP (by have:=By b1;omega)
   refine qX ?_
   refine qK (hP) (qI 0 1) ?_
   exact cP (qI 0 7++qI 18 1++qI 11 6)
  rw [hf (by rw [hok,decide_eq_false zO];simp)]
  refine qX ?_
  exact cP (qI 0 7++qI 10 7)
 rw [hf (by simp [hok,b1])]
 refine qX ?_
 exact cP (qI 0 7++qI 10 7)
theorem yN (e:EndD) (k:Int) (hs:Small e):aP 177 [.ag (e.cs 0),.sc (.int .i64 k)] (e.hp false) (.tu [.ag ((bI e k).1.cs 7),.sc (.sl 14 0 (bI e k).2.length)])
  (e.hp false++((bI e k).1.hp true++[some ⟨(bI e k).2.map LetterD.cs,19,36,true,true⟩])):=by
 have hC:=(qH (aF e))
 have hK:=(qH (bz e))
 have hsub:=hs.subs
 have hf:=Pc (e:=e) (k:=k)
 have ht:= @Pb e k
 have hI:=aJ k 0 ((e.subs.length:Int) - 1)
 refine ix func177 ntmps177 results177 fun E hE=>?_
 refine qK (hC) (qI 0 7) ?_
 refine qK (hK) (qI 0 7) ?_
 refine qB (fun b1=>?_) fun b1=>?_
 ·refine qK (hI) [] ?_
  cases hin:bU k 0 ((e.subs.length:Int) - 1) with
  |false=>
   rw [hf (KW hin)]
   refine qX ?_
   exact cP (qI 0 7++qI 9 7++qI 17 1)
  |true=>
   simp only [bU,zk,decide_eq_true_eq] at hin
   obtain⟨n,rfl⟩:=Int.eq_ofNat_of_zero_le hin.1
   have hn:n < e.subs.length:=zO
   have hg:=aC (enc:=SubD.cs) hn
   have hok:=Nd (e:=e) hn
   rw [b1,zG] at hok
   try simp (disch:=omega) only [go_sem,seval,hg]
   refine qB (fun b2=>?_) fun b2=>?_
   ·rw [hf (by rw [hok];simp [b2])]
    refine qX ?_
    exact cP (qI 0 7++qI 9 7++qI 17 1)
   rw [ht (by rw [hok];simp [b2]) rfl hn]
   have hset:cE e.subs n 4=e.subs.set n { e.subs[n] with state:=4 }:=by rw [cE,bQ hn]
   rw [hset]
   have hms:=su (f:=SubD.cs) (l:=e.subs) (k:=n) (v:={ e.subs[n] with state:=4 }) rfl
   simp only [SubD.cs] at hms
   try simp (disch:=omega) only [go_sem,seval,hg]
   refine aR [(0,17),(15,0),(16,0)] [(15,16),(15,17),(16,17)] [(qU [1,16,0,1,17,3]),(qU [1,15,0,1,16,4]),(qU [1,14,0,1,15,5]),(qU [1,17,0,1,18,2])] 7 hE (fun s=>s.at (qU [7,1,39,18]) [(5,.sc (.sl 18 0 1))] (((s.hp.set 8 (some ⟨[[.int .i64 e.side,.int .i64 e.state,.int .i64 e.key,.int .i64 e.peer,.int .i64 e.policy.kind,.int .i64 e.policy.many,.sl 9 0 e.own.length,.sl 10 0 e.far.length,.sl 11 0 e.subs.length,.sl 12 0 e.halfs.length,.int .i64 e.bucket.rate,.int .i64 e.bucket.burst,.int .i64 e.bucket.cur,.st e.out.text,.int .i64 e.out.base,.int .i64 e.out.sent,.int .i64 e.out.room,.int .i64 e.inp.read,.st e.inp.ready,.sl 13 0 e.inp.list.length,.sl 14 0 e.done.length,.sl 15 0 e.over.length,.int .i64 e.draw,.int .i64 e.now,.int .i64 e.pick]],25,54,true,false⟩)).set 17 none)++[some ⟨[(bc e.subs[n].road { ac with kind:=13,sgn:=e.subs[n].give }).cs],19,36,true,true⟩])) zXk (qC) zXk ?_ (ab 400 ?_)
   rotate_left
   rotate_right
   simp only [aM]
   refine⟨aa 400 ?_,aa 400 ?_,aa 400 ?_,aa 400 ?_⟩
   ·simp (disch:=omega) only [go_sem,hg]
    refine aE (a_ e.subs[n].road { ac with kind:=13,sgn:=e.subs[n].give }) [] ?_
    refine⟨qC,(qI 0 18++qI 19 1),ae zF zF ?_⟩
    try simp (disch:=omega) only [go_sem,seval]
    try rfl
   ·simp (disch:=omega) only [go_sem,hg]
    refine aE (a_ e.subs[n].road { ac with kind:=13,sgn:=e.subs[n].give }) [] ?_
    refine⟨qC,(qI 0 18++qI 19 1),ae zF zF ?_⟩
    try simp (disch:=omega) only [go_sem,seval]
    try rfl
   ·simp (disch:=omega) only [go_sem,hg]
    refine aE (a_ e.subs[n].road { ac with kind:=13,sgn:=e.subs[n].give }) [] ?_
    refine⟨qC,(qI 0 18++qI 19 1),ae zF zF ?_⟩
    try simp (disch:=omega) only [go_sem,seval]
    try rfl
   ·simp (disch:=omega) only [go_sem,hg]
    refine aE (a_ e.subs[n].road { ac with kind:=13,sgn:=e.subs[n].give }) [] ?_
    refine⟨qC,(qI 0 18++qI 19 1),ae zF zF ?_⟩
    try simp (disch:=omega) only [go_sem,seval]
    try rfl
   refine qX ?_
   refine aO (qI 0 7++qI 9 7++qI 18 1) (qC) _ zXg zF zF ?_
   simp (disch:=omega) only [go_sem,seval]
   exact⟨zP,hms⟩
 rw [hf (by simp [yr,b1])]
 refine qX ?_
 exact cP (qI 0 7++qI 9 7++qI 17 1)
theorem lJ (e:EndD) (a:AddrD) (hs:Small e):aP 175 [.ag (e.cs 0),.ag a.cs] (e.hp false) (.tu [.ag ((aK e a).1.cs 7),.sc (.bo (aK e a).2)]) (e.hp false++(aK e a).1.hp true):=by
 have hC:=(qH (aF e))
 have hK:=(qH (bz e))
 have hA:=eF e.own a.id (by have:=hs.own;omega)
 have hH:=iK e.done a.id (by have:=hs.done;omega)
 have hP:=fun h=>kA e.own { a with told:=false } h
 have hf:=Pd (e:=e) (a:=a)
 have ht:=Pe (e:=e) (a:=a)
 have ht2:=Nf (e:=e) (a:=a)
 have hok:IT e a=(aq e && decide (bs e.own a.id < 0) && !nF e.done a.id):=rfl
 generalize aK e a=R at*
 generalize bu e.own { a with told:=false }=pa at*
 obtain⟨own1,ok1⟩:=pa
 dsimp only at hP ht ht2
 refine ix func175 ntmps175 results175 fun E hE=>?_
 refine qK (hC) (qI 0 7) ?_
 refine qK (hP (by have:=hs.own;omega)) (qI 0 1) ?_
 refine qK (hK) (qI 0 7) ?_
 refine qB (fun b1=>?_) fun b1=>?_
 ·cases ok1 with
  |false=>
   rw [ht2 rfl]
   refine qX ?_
   exact cP (qI 0 7++qI 10 7)
  |true=>
   refine qX ?_
   refine qK (hA) (qI 0 1) ?_
   refine qB (fun b2=>?_) fun b2=>?_
   ·refine qK (hH) (qI 5 1) ?_
    refine qB (fun b3=>?_) fun b3=>?_
    ·rw [hf (by rw [hok];simp [b3])]
     refine qX ?_
     exact cP (qI 0 7++qI 10 7)
    rw [ht (by rw [hok,b1,decide_eq_true zO,b3];rfl)]
    refine qX ?_
    exact cP (qI 0 7++qI 18 1++qI 11 6)
   rw [hf (by rw [hok,decide_eq_false zO];simp)]
   refine qX ?_
   exact cP (qI 0 7++qI 10 7)
 rw [hf (by simp [hok,b1])]
 refine qX ?_
 exact cP (qI 0 7++qI 10 7)
theorem zi {a:ActD} (h:dN a=true):a.side=1\/a.side=2:=by
 simp only [dN,bU,zk,decide_eq_true_eq] at h
 omega
end
end Go.Proofs.YtdiiopjaebnmfaaGreatDoor
