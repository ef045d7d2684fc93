/-
  Texts merged for this claim by shake.py: what its proof needs.
-/
import Derived.Tactics
import Derived.Below
import Derived.Laws.AppendOwn
import Derived.Laws.OwnMore
import Derived.Laws.Slices
import Derived.Laws.Small
import Derived.Laws.Strings
import Derived.KernelRfl
import Derived.Laws.MakeOwn
import Derived.Laws.BytesString
import Derived.Laws.BytesArg
import Derived.Laws.Build
import Derived.Laws.Concat
import Derived.Laws.StructEq
import Derived.Lib.ConvBytes
import Derived.Orders
import Derived.WalkKit
import Derived.ProofKit
import Derived.ShutString
import Derived.OpenShut
import Derived.ChangeOld
import Derived.Carry
import Derived.Test.YtbgakfbnkkfbkaaGreatChecked
import Derived.Laws.BitsLemmas
import Derived.JoinedOf
import Derived.Test.YtbgakfbnkkfbkaaGreatRows
import Derived.Test.YtbgakfbnkkfbkaaGreatZFnExactDoneD
set_option maxHeartbeats 16000000
set_option maxRecDepth 100000
set_option linter.unusedVariables false
set_option linter.unusedSimpArgs false
namespace Go.Proofs.YtbgakfbnkkfbkaaGreat
section
open Go.RowKit
theorem jN {e:EndD} (hs:Small e):Small (eX e).1:=by
 rw [eX];split
 ·exact⟨hs.own,hs.far,hs.subs,hs.halfs,hs.list,hs.done,hs.over⟩
 exact hs
theorem nf (e:EndD):(eX e).2.length≤1:=by
 rw [eX];split<;>simp
theorem n5 (e:EndD):(eX e).1.out.text=e.out.text:=by
 rw [eX];split
 ·dsimp only;rw [wd];split<;>rfl
 rfl
theorem Bb (e:EndD) (hs:Small e) (ht:e.out.text.length≤1048576):ae Tryz.prog 295 [.ag (e.cs 0)] (e.hp false) (.tu [.ag ((eX e).1.cs 7),.sc (.sl 14 0 (eX e).2.length)])
  (e.hp false++((eX e).1.hp true++[some ⟨(eX e).2.map LetterD.cs,19,91,true,true⟩])):=by
 have hC:=(qH (aK e))
 have hN:=kF e.out ht
 have hX:=(qH (vZ e))
 have hf:=EU (e:=e)
 have hpt:= @EV e
 have hpk:f7 e.out=true→cX e.out=(⟨e.out.sent,cB e.out⟩,true):=A7
 have hpf:f7 e.out=false→cX e.out=(⟨0,[]⟩,false):=Np
 have hW:=fun h=>wg e.out ht h
 have hcase:=lN e
 have hpo:kD e=(f7 e.out && decide (0≤bk e)):=rfl
 have hpick:0≤bk e→0≤e.pick∧e.pick≤1000000000:=fun h=>by
  rw [bk] at h
  split at h
  ·rename_i hh;exact iD hh.1
  omega
 generalize eX e=R at*
 generalize cX e.out=np at*
 obtain⟨⟨npos,ntext⟩,nok⟩:=np
 refine ga Tryz.func295 Tryz.ntmps295 Tryz.results295 fun E hE=>?_
 refine qK (hC) (qI 0 7) ?_
 refine qK (hN) [] ?_
 refine qK (hX) (qI 0 7) ?_
 by_cases h1:f7 e.out=true∧0≤bk e
 ·obtain⟨h1,h2⟩:=h1
  have hok:nok=true:=by have:=hpk h1;simp only [Prod.mk.injEq] at this;exact this.2
  have hps:npos=e.out.sent:=by have:=hpk h1;simp only [Prod.mk.injEq,PieceD.mk.injEq] at this;exact this.1.1
  have htx:ntext=cB e.out:=by have:=hpk h1;simp only [Prod.mk.injEq,PieceD.mk.injEq] at this;exact this.1.2
  subst hok hps htx
  have hW:=hW h1
  have hpick:=hpick (by omega)
  obtain⟨n,hn,hk⟩:∃ m:Nat,m < e.subs.length∧bk e=(m:Int):=by rcases hcase with h|h;omega;exact h
  rw [hpt (by rw [hpo,h1,decide_eq_true (by omega)];rfl) hk hn]
  have hg:=ao (enc:=SubD.cs) hn
  generalize bk e=z at*
  subst hk
  refine qX ?_
  refine qK (hW) [] ?_
  refine qK (tx e.pick (by simp only [I64];omega)) [] ?_
  try simp (disch:=omega) only [go_sem,seval,hg]
  refine aI [(11,12)] [] [(qU [0,14]),(qU [0,11,12,1,11,1,13,1])] 7 hE (fun s=>s.at (qU [39,12]) [(3,.sc (.sl 19 0 1))] ((s.hp.set 8 (some ⟨[[.int .i64 e.side,.int .i64 e.state,.int .i64 e.key,.int .i64 e.peer,.int .i64 e.policy.kind,.int .i64 e.policy.many,.sl 9 0 e.own.length,.sl 10 0 e.far.length,.sl 11 0 e.subs.length,.sl 12 0 e.halfs.length,.int .i64 e.bucket.rate,.int .i64 e.bucket.burst,.int .i64 e.bucket.cur,.st e.out.text,.int .i64 e.out.base,.int .i64 (e.out.sent+((cB e.out).length:Int)),.int .i64 e.out.room,.int .i64 e.inp.read,.st e.inp.ready,.sl 13 0 e.inp.list.length,.sl 14 0 e.done.length,.sl 15 0 e.over.length,.int .i64 e.draw,.int .i64 e.now,.int .i64 (iE e.pick)]],25,45,true,false⟩))++[some ⟨[(z9 e.subs[n] e.out).cs],19,91,true,true⟩])) (by kernel_rfl) (qC) (by kernel_rfl) ?_ (ac 400 ?_)
  rotate_left
  rotate_right
  simp only [aQ]
  refine⟨aa 400 ?_,aa 400 ?_⟩
  ·simp (disch:=omega) only [go_sem]
   refine az (bg e.subs[n].road { aw with kind:=11,sgn:=e.subs[n].give,pos:=e.out.sent,text:=cB e.out }) [] ?_
   refine⟨qC,(qI 0 20),ab (by rfl) (by rfl) ?_⟩
   try simp (disch:=omega) only [go_sem,seval]
   try rfl
  ·simp (disch:=omega) only [go_sem]
   refine az (bg e.subs[n].road { aw with kind:=11,sgn:=e.subs[n].give,pos:=e.out.sent,text:=cB e.out }) [] ?_
   refine⟨qC,(qI 0 20),ab (by rfl) (by rfl) ?_⟩
   try simp (disch:=omega) only [go_sem,seval]
   try rfl
  refine qX ?_
  exact cc (qI 0 7++qI 9 7++qI 19 1)
 have hpn:kD e=false:=by
  rw [hpo]
  by_cases h3:f7 e.out=true
  ·rw [h3,decide_eq_false (fun h=>h1 ⟨h3,h⟩)];rfl
  rw [Bool.not_eq_true] at h3;rw [h3];rfl
 rw [hf hpn]
 have hno:nok=false∨bk e= -1:=by
  by_cases h3:f7 e.out=true
  ·right;rcases hcase with h|⟨m,_,h⟩
   ·exact h
   exact absurd ⟨h3,by omega⟩ h1
  left;have:=hpf (by simpa using h3);simp only [Prod.mk.injEq] at this;exact this.2
 rcases hno with hno|hno
 ·subst hno
  refine qX ?_
  exact cc (qI 0 7++qI 9 7++qO 1)
 rw [hno] at*
 cases nok with
 |false=>
  refine qX ?_
  exact cc (qI 0 7++qI 9 7++qO 1)
 |true=>
  refine qX ?_
  exact cc (qI 0 7++qI 9 7++qO 1)
theorem uG (e:EndD) (hs:Small e) (ht:e.out.text.length≤1048576):ae Tryz.prog 201 [.ag (e.cs 0)] (e.hp false) (.tu [.ag ((eX e).1.cs 7),.sc (.sl 14 0 (eX e).2.length)])
  (e.hp false++((eX e).1.hp true++[some ⟨(eX e).2.map LetterD.cs,19,91,true,true⟩])):=by
 have hC:=(qH (aD e))
 have hN:=kG e.out ht
 have hX:=(qH (v_ e))
 have hf:=EU (e:=e)
 have hpt:= @EV e
 have hpk:f7 e.out=true→cX e.out=(⟨e.out.sent,cB e.out⟩,true):=A7
 have hpf:f7 e.out=false→cX e.out=(⟨0,[]⟩,false):=Np
 have hW:=fun h=>wh e.out ht h
 have hcase:=lN e
 have hpo:kD e=(f7 e.out && decide (0≤bk e)):=rfl
 have hpick:0≤bk e→0≤e.pick∧e.pick≤1000000000:=fun h=>by
  rw [bk] at h
  split at h
  ·rename_i hh;exact iD hh.1
  omega
 generalize eX e=R at*
 generalize cX e.out=np at*
 obtain⟨⟨npos,ntext⟩,nok⟩:=np
 refine ga Tryz.func201 Tryz.ntmps201 Tryz.results201 fun E hE=>?_
 refine qK (hC) (qI 0 7) ?_
 refine qK (hX) (qI 0 7) ?_
 refine qK (hN) [] ?_
 by_cases h1:f7 e.out=true∧0≤bk e
 ·obtain⟨h1,h2⟩:=h1
  have hok:nok=true:=by have:=hpk h1;simp only [Prod.mk.injEq] at this;exact this.2
  have hps:npos=e.out.sent:=by have:=hpk h1;simp only [Prod.mk.injEq,PieceD.mk.injEq] at this;exact this.1.1
  have htx:ntext=cB e.out:=by have:=hpk h1;simp only [Prod.mk.injEq,PieceD.mk.injEq] at this;exact this.1.2
  subst hok hps htx
  have hW:=hW h1
  have hpick:=hpick (by omega)
  obtain⟨n,hn,hk⟩:∃ m:Nat,m < e.subs.length∧bk e=(m:Int):=by rcases hcase with h|h;omega;exact h
  rw [hpt (by rw [hpo,h1,decide_eq_true (by omega)];rfl) hk hn]
  have hg:=ao (enc:=SubD.cs) hn
  generalize bk e=z at*
  subst hk
  have hpk2:iE e.pick=if 1000000000 < e.pick+1 then 0 else e.pick+1:=by rw [iE];split<;>split<;>omega
  refine qX ?_
  refine ZN 39 (hW) [] ?_
  refine dP 7 hE (fun s=>s.at (qU [8,1,10,31]) [] (s.hp.set 16 (some ⟨[[.int .i64 e.side,.int .i64 e.state,.int .i64 e.key,.int .i64 e.peer,.int .i64 e.policy.kind,.int .i64 e.policy.many,.sl 9 0 e.own.length,.sl 10 0 e.far.length,.sl 11 0 e.subs.length,.sl 12 0 e.halfs.length,.int .i64 e.bucket.rate,.int .i64 e.bucket.burst,.int .i64 e.bucket.cur,.st e.out.text,.int .i64 e.out.base,.int .i64 (e.out.sent+((cB e.out).length:Int)),.int .i64 e.out.room,.int .i64 e.inp.read,.st e.inp.ready,.sl 13 0 e.inp.list.length,.sl 14 0 e.done.length,.sl 15 0 e.over.length,.int .i64 e.draw,.int .i64 e.now,.int .i64 (iE e.pick)]],25,45,true,false⟩))) (qC) (by rfl) (fun N hN=>ac 401 ?_) (dm 39 400 ?_)
  ·refine qX ?_
   refine qB (fun b9=>?_) fun b9=>?_
   ·rw [if_pos (by omega)] at hpk2
    refine qX ?_
    refine⟨qC,hN _ (qI 0 19) (ab (by rfl) (by rfl) ?_)⟩
    simp (disch:=omega) only [go_sem,seval]
    exact hpk2.symm
   rw [if_neg (by omega)] at hpk2
   refine qX ?_
   refine⟨qC,hN _ (qI 0 19) (ab (by rfl) (by rfl) ?_)⟩
   simp (disch:=omega) only [go_sem,seval]
   exact hpk2.symm
  try simp (disch:=omega) only [go_sem,seval,hg]
  refine aI [(0,13),(11,0),(12,0)] [(11,12),(11,13),(12,13)] [(qU [1,12,0,1,13,3]),(qU [1,11,0,1,12,4]),(qU [1,10,0,1,11,5]),(qU [1,13,0,1,14,2])] 7 hE (fun s=>s.at (qU [5,1,46,14]) [(3,.sc (.sl 20 0 1))] (((s.hp.set 8 (some ⟨[[.int .i64 e.side,.int .i64 e.state,.int .i64 e.key,.int .i64 e.peer,.int .i64 e.policy.kind,.int .i64 e.policy.many,.sl 9 0 e.own.length,.sl 10 0 e.far.length,.sl 11 0 e.subs.length,.sl 12 0 e.halfs.length,.int .i64 e.bucket.rate,.int .i64 e.bucket.burst,.int .i64 e.bucket.cur,.st e.out.text,.int .i64 e.out.base,.int .i64 (e.out.sent+((cB e.out).length:Int)),.int .i64 e.out.room,.int .i64 e.inp.read,.st e.inp.ready,.sl 13 0 e.inp.list.length,.sl 14 0 e.done.length,.sl 15 0 e.over.length,.int .i64 e.draw,.int .i64 e.now,.int .i64 (iE e.pick)]],25,45,true,false⟩)).set 17 none)++[some ⟨[(z9 e.subs[n] e.out).cs],19,91,true,true⟩])) (by kernel_rfl) (qC) (by kernel_rfl) ?_ (ac 400 ?_)
  rotate_left
  rotate_right
  simp only [aQ]
  refine⟨aa 400 ?_,aa 400 ?_,aa 400 ?_,aa 400 ?_⟩
  ·simp (disch:=omega) only [go_sem]
   refine az (aX e.subs[n].road { aw with kind:=11,sgn:=e.subs[n].give,pos:=e.out.sent,text:=cB e.out }) [] ?_
   refine⟨qC,(qI 0 20++qI 21 1),ab (by rfl) (by rfl) ?_⟩
   try simp (disch:=omega) only [go_sem,seval]
   try rfl
  ·simp (disch:=omega) only [go_sem]
   refine az (aX e.subs[n].road { aw with kind:=11,sgn:=e.subs[n].give,pos:=e.out.sent,text:=cB e.out }) [] ?_
   refine⟨qC,(qI 0 20++qI 21 1),ab (by rfl) (by rfl) ?_⟩
   try simp (disch:=omega) only [go_sem,seval]
   try rfl
  ·simp (disch:=omega) only [go_sem]
   refine az (aX e.subs[n].road { aw with kind:=11,sgn:=e.subs[n].give,pos:=e.out.sent,text:=cB e.out }) [] ?_
   refine⟨qC,(qI 0 20++qI 21 1),ab (by rfl) (by rfl) ?_⟩
   try simp (disch:=omega) only [go_sem,seval]
   try rfl
  ·simp (disch:=omega) only [go_sem]
   refine az (aX e.subs[n].road { aw with kind:=11,sgn:=e.subs[n].give,pos:=e.out.sent,text:=cB e.out }) [] ?_
   refine⟨qC,(qI 0 20++qI 21 1),ab (by rfl) (by rfl) ?_⟩
   try simp (disch:=omega) only [go_sem,seval]
   try rfl
  refine qX ?_
  exact cc (qI 0 7++qI 9 7++qI 20 1)
 have hpn:kD e=false:=by
  rw [hpo]
  by_cases h3:f7 e.out=true
  ·rw [h3,decide_eq_false (fun h=>h1 ⟨h3,h⟩)];rfl
  rw [Bool.not_eq_true] at h3;rw [h3];rfl
 rw [hf hpn]
 have hno:nok=false∨bk e= -1:=by
  by_cases h3:f7 e.out=true
  ·right;rcases hcase with h|⟨m,_,h⟩
   ·exact h
   exact absurd ⟨h3,by omega⟩ h1
  left;have:=hpf (by simpa using h3);simp only [Prod.mk.injEq] at this;exact this.2
 rcases hno with hno|hno
 ·subst hno
  refine qX ?_
  rcases hcase with h|⟨m,_,h⟩
  ·try simp (disch:=omega) only [go_sem,seval,h]
   exact cc (qI 0 7++qI 9 7++qI 17 1)
  try simp (disch:=omega) only [go_sem,seval,h]
  exact cc (qI 0 7++qI 9 7++qI 17 1)
 rw [hno] at*
 refine qX ?_
 exact cc (qI 0 7++qI 9 7++qI 17 1)
end
section
open Go.RowKit
theorem mg {n:Nat} {e:EndD} (h:n < 3):dU (3 - n) e=((dU (3 - (n+1)) (eX e).1).1,(eX e).2++(dU (3 - (n+1)) (eX e).1).2):=by
 rw [show 3 - n=(3 - (n+1))+1 by omega];rfl
theorem i3:∀ {k:Nat} {e:EndD},Small e→Small (dU k e).1
 |0,_,h=>h
 |k+1,e,h=>i3 (k:=k) (jN h)
theorem kV:∀ {k:Nat} {e:EndD},(dU k e).2.length≤k
 |0,_=>Nat.le_refl _
 |k+1,e=>by
  have h1:=nf e
  have h2:=kV (k:=k) (e:=(eX e).1)
  rw [show (dU (k+1) e).2=(eX e).2++(dU k (eX e).1).2 from rfl,List.length_append]
  omega
theorem lO (e:EndD) (hs:Small e) (ht:e.out.text.length≤1048576):ae Tryz.prog 228 [.ag (e.cs 0)] (e.hp true) (.tu [.ag ((dU 3 e).1.cs 7),.sc (.sl 14 0 (dU 3 e).2.length)])
  ([none,none,none,none,none,none,none]++((dU 3 e).1.hp true++[some ⟨(dU 3 e).2.map LetterD.cs,19,91,true,true⟩])):=by
 obtain⟨R,hR⟩:∃ R,R=dU 3 e:=⟨_,rfl⟩
 rw [←hR]
 refine ga Tryz.func228 Tryz.ntmps228 Tryz.results228 fun E hE=>?_
 refine cE 7 hE (fun s (y:Nat×EndD×List LetterD)=>s.at (qU [0,1,6,15]) [(5,.sc (.int .i64 (y.1:Nat))),(4,.sc (.sl 16 0 y.2.2.length))] ([none,none,none,none,none,none,none,some ⟨[y.2.1.cs 9],25,45,true,false⟩]++(((s.hp.drop 8).take 1)++(y.2.1.hp true++[some ⟨y.2.2.map LetterD.cs,19,91,true,true⟩])))) (fun (y:Nat×EndD×List LetterD)=>y.1≤3∧Small y.2.1∧y.2.1.out.text.length≤1048576∧y.2.2.length≤y.1∧R=((dU (3 - y.1) y.2.1).1,y.2.2++(dU (3 - y.1) y.2.1).2)) (fun (y:Nat×EndD×List LetterD)=>3 - y.1) (0,e,[]) (qI 0 9++qI 0 7++qO 1) (qC) (⟨by omega,hs,ht,Nat.le_refl _,hR⟩) (ab (by rfl) (by rfl) ?_) fun y hy N hN=>?_
 ·exact qY
 obtain⟨n,e1,l⟩:=y
 obtain⟨h1,h2,h3,h4,h5⟩:=hy
 dsimp only at h1 h2 h3 h4 h5
 have hP:=Bb e1 h2 h3
 have hp1:=nf e1
 have hps:=jN h2
 have hpt:(eX e1).1.out.text.length≤1048576:=by rw [n5];exact h3
 refine qR ?_
 refine qB (fun b=>?_) fun b=>?_
 ·rw [mg (by omega)] at h5
  obtain⟨pr,hpr⟩:∃ p,p=eX e1:=⟨_,rfl⟩
  rw [←hpr] at hP hp1 hps hpt h5
  obtain⟨e2,l2⟩:=pr
  dsimp only at hP hp1 hps hpt h5
  rw [←List.append_assoc] at h5
  refine qX ?_
  refine qK (hP) (qI 9 7) ?_
  refine⟨qC,hN _ (n+1,e2,l++l2) (qI 0 9++qI 17 7++qI 26 1) (by (try dsimp only);exact⟨by omega,hps,hpt,by simp only [List.length_append];omega,h5⟩) (by (try dsimp only);omega) (ab (by rfl) (by rfl) ?_)⟩
  try simp (disch:=omega) only [go_sem,seval]
  try simp
 have e3:n=3:=by omega
 subst e3
 simp only [Nat.sub_self,dU,List.append_nil] at h5
 subst h5
 refine qX ?_
 exact cc (qI 0 7++qI 9 8)
theorem lP (e:EndD) (t:List UInt8) (hs:Small e) (ht:t.length≤1048576) (ho:(cp e t).1.out.text.length≤1048576):ae Tryz.prog 146 [.ag (e.cs 0),.sc (.st t)] (e.hp false) (.tu [.ag ((aS e t).1.cs 7),.sc (.sl 14 0 (aS e t).2.length)])
  (e.hp false++((aS e t).1.hp true++[some ⟨(aS e t).2.map LetterD.cs,19,91,true,true⟩])):=by
 have hW:=me e t hs ht
 have hsw:Small (cp e t).1:=by
  rw [cp];split
  ·exact⟨hs.own,hs.far,hs.subs,hs.halfs,hs.list,hs.done,hs.over⟩
  exact hs
 have hP:=lO (cp e t).1 hsw ho
 obtain⟨R,hR⟩:∃ R,R=aS e t:=⟨_,rfl⟩
 rw [←hR]
 rw [aS] at hR
 rw [←hR] at hP
 clear hR
 generalize cp e t=w1 at*
 obtain⟨e1,n1⟩:=w1
 dsimp only at hP hsw ho hW
 refine ga Tryz.func146 Tryz.ntmps146 Tryz.results146 fun E hE=>?_
 refine qK (hW) (qI 0 7) ?_
 refine qK (hP) (qI 9 7) ?_
 exact cc (qI 0 7++qI 17 8)
theorem lQ (e:EndD) (t:List UInt8) (hs:Small e) (ht:t.length≤1048576) (ho:(cp e t).1.out.text.length≤1048576):ae Tryz.prog 116 [.ag (e.cs 0),.sc (.st t)] (e.hp false) (.tu [.ag ((aS e t).1.cs 7),.sc (.sl 14 0 (aS e t).2.length)])
  (e.hp false++((aS e t).1.hp true++[some ⟨(aS e t).2.map LetterD.cs,19,91,true,true⟩])):=by
 have hW:=mf e t hs ht
 have hsw:Small (cp e t).1:=by
  rw [cp];split
  ·exact⟨hs.own,hs.far,hs.subs,hs.halfs,hs.list,hs.done,hs.over⟩
  exact hs
 obtain⟨R,hR⟩:∃ R,R=aS e t:=⟨_,rfl⟩
 rw [←hR]
 rw [aS] at hR
 generalize cp e t=w1 at*
 obtain⟨e0,n1⟩:=w1
 dsimp only at hsw ho hW hR
 refine ga Tryz.func116 Tryz.ntmps116 Tryz.results116 fun E hE=>?_
 refine qK (hW) (qI 0 7) ?_
 refine cE 7 hE (fun s (y:Nat×EndD×List LetterD)=>s.at (qU [0,3,7,1,10,21]) [(9,.sc (.int .i64 (y.1:Nat))),(8,.sc (.sl 17 0 y.2.2.length))] ((s.hp.take 9)++(y.2.1.hp true++[some ⟨[y.2.1.cs 9],25,45,true,false⟩,some ⟨y.2.2.map LetterD.cs,19,91,true,true⟩]))) (fun (y:Nat×EndD×List LetterD)=>y.1≤3∧Small y.2.1∧y.2.1.out.text.length≤1048576∧y.2.2.length≤y.1∧R=((dU (3 - y.1) y.2.1).1,y.2.2++(dU (3 - y.1) y.2.1).2)) (fun (y:Nat×EndD×List LetterD)=>3 - y.1) (0,e0,[]) (qI 0 18) (qC) (⟨by omega,hsw,ho,Nat.le_refl _,hR⟩) (ab (by rfl) (by rfl) ?_) fun y hy N hN=>?_
 ·exact qY
 obtain⟨n,e1,l⟩:=y
 obtain⟨h1,h2,h3,h4,h5⟩:=hy
 dsimp only at h1 h2 h3 h4 h5
 have hP:=uG e1 h2 h3
 have hp1:=nf e1
 have hps:=jN h2
 have hpt:(eX e1).1.out.text.length≤1048576:=by rw [n5];exact h3
 refine qR ?_
 refine qB (fun b=>?_) fun b=>?_
 ·rw [mg (by omega)] at h5
  obtain⟨pr,hpr⟩:∃ p,p=eX e1:=⟨_,rfl⟩
  rw [←hpr] at hP hp1 hps hpt h5
  obtain⟨e2,l2⟩:=pr
  dsimp only at hP hp1 hps hpt h5
  rw [←List.append_assoc] at h5
  refine qX ?_
  refine qK (hP) (qI 9 7) ?_
  refine⟨qC,hN _ (n+1,e2,l++l2) (qI 0 9++qI 19 7++qI 16 1++qI 27 1) (by (try dsimp only);exact⟨by omega,hps,hpt,by simp only [List.length_append];omega,h5⟩) (by (try dsimp only);omega) (ab (by rfl) (by rfl) ?_)⟩
  try simp (disch:=omega) only [go_sem,seval]
  try simp
 have e3:n=3:=by omega
 subst e3
 simp only [Nat.sub_self,dU,List.append_nil] at h5
 subst h5
 refine qX ?_
 exact cc (qI 0 7++qI 9 7++qI 17 1)
end
section
open Go.RowKit
theorem im {α:Type} {l:List α} {p:α→Bool} {k:Nat} (h:k < l.length):(l.drop k).filter p=if p l[k] then l[k]::(l.drop (k+1)).filter p else (l.drop (k+1)).filter p:=by
 rw [List.drop_eq_getElem_cons h,List.filter_cons]
theorem jn {α:Type} {l:List α} {p:α→Bool} {k:Nat} (h:l.length≤k):(l.drop k).filter p=[]:=by
 rw [List.drop_eq_nil_of_le h];rfl
theorem lR {b:BucketD} (h:cP b=true):0≤b.rate∧b.rate≤100∧1≤b.burst∧b.burst≤100∧0≤b.cur∧b.cur≤b.burst:=by
 simp only [cP,cr,Bool.and_eq_true,decide_eq_true_eq] at h
 omega
theorem x1 {b:BucketD} (h:cP b=true):c8 b={ b with cur:=min b.burst (b.cur+b.rate) }:=if_pos h
theorem x2 {b:BucketD} (h:cP b=false):c8 b=b:=if_neg (by simp [h])
theorem x3 (b:BucketD):ae Tryz.prog 230 [.ag b.cs,.sc (.int .i64 1)] [] (.ag (c8 b).cs) []:=by
 have hK:=i_ b
 have hN:=cu [1] (by simp)
 have hf:=x2 (b:=b)
 have ht:=x1 (b:=b)
 generalize c8 b=R at*
 refine qE Tryz.func230 Tryz.ntmps230 Tryz.results230 fun E hE=>?_
 refine qK (hK) [] ?_
 refine qB (fun b1=>?_) fun b1=>?_
 ·have F:=lR b1
  rw [show ([1]:List Int).all iQ=true from rfl] at hN
  refine qK (hN) (qI 2 1) ?_
  rw [ht b1]
  by_cases hm:b.cur+b.rate < b.burst
  ·rw [show min b.burst (b.cur+b.rate)=b.cur+b.rate by omega]
   try simp (disch:=omega) only [go_sem,seval,Int.mul_one,hm]
   refine ah [] (qC) _ (by simp only [go_sem];rfl) (by rfl) (by rfl) ?_
   simp (disch:=omega) only [go_sem,seval]
   try simp [hm]
  rw [show min b.burst (b.cur+b.rate)=b.burst by omega]
  try simp (disch:=omega) only [go_sem,seval,Int.mul_one,hm]
  refine ah [] (qC) _ (by simp only [go_sem];rfl) (by rfl) (by rfl) ?_
  simp (disch:=omega) only [go_sem,seval]
  try simp [hm]
 rw [hf b1]
 refine qX ?_
 exact qF []
theorem x4 (b:BucketD):ae Tryz.prog 203 [.ag b.cs,.sc (.int .i64 1)] [] (.ag (c8 b).cs) []:=by
 have hK:=ja b
 have hN:=aM 1 0 1000000000
 have hf:=x2 (b:=b)
 have ht:=x1 (b:=b)
 generalize c8 b=R at*
 refine qE Tryz.func203 Tryz.ntmps203 Tryz.results203 fun E hE=>?_
 refine qK (hK) [] ?_
 refine qB (fun b1=>?_) fun b1=>?_
 ·have F:=lR b1
  rw [show cr 1 0 1000000000=true from rfl] at hN
  refine qK (hN) [] ?_
  rw [ht b1]
  have hB:ae Tryz.prog 276 [.sc (.int .i64 (b.cur+b.rate)),.sc (.int .i64 0),.sc (.int .i64 b.burst)] [] (.sc (.int .i64 (min b.burst (b.cur+b.rate)))) []:=by
   refine qE Tryz.func276 Tryz.ntmps276 Tryz.results276 fun E hE=>?_
   refine qB (fun c1=>?_) fun c1=>?_
   ·rw [show min b.burst (b.cur+b.rate)=b.burst by omega]
    refine qX ?_
    exact qF []
   rw [show min b.burst (b.cur+b.rate)=b.cur+b.rate by omega]
   refine qX ?_
   exact qF []
  try simp (disch:=omega) only [go_sem,seval,Int.mul_one]
  refine qK (hB) [] ?_
  exact qF []
 rw [hf b1]
 refine qX ?_
 exact qF []
theorem wi (l:List HalfD) (now:Int) (hl:l.length≤1048576):ae Tryz.prog 231 [.sc (.sl 0 0 l.length),.sc (.int .i64 now)] [some ⟨l.map HalfD.cs,8,213,false,true⟩] (.sc (.sl 1 0 (bM l now).length)) [some ⟨l.map HalfD.cs,8,213,false,true⟩,some ⟨(bM l now).map HalfD.cs,8,213,true,true⟩]:=by
 obtain⟨R,hR⟩:∃ R,R=bM l now:=⟨_,rfl⟩
 rw [←hR]
 rw [bM] at hR
 refine qE Tryz.func231 Tryz.ntmps231 Tryz.results231 fun E hE=>?_
 refine an 1 hE (fun s (x:Nat×List HalfD)=>s.at (qU [0,1,7,1,11,12]) [(10,.sc (.int .i64 (x.1:Nat))),(5,.sc (.sl 1 0 x.2.length))] (s.hp++[some ⟨x.2.map HalfD.cs,8,213,true,true⟩])) (fun (x:Nat×List HalfD)=>x.1≤l.length∧x.2.length≤x.1∧R=x.2++(l.drop x.1).filter (fun h=>decide (now < h.till))) (fun (x:Nat×List HalfD)=>l.length - x.1) (0,[]) (qI 0 1++qO 1) (qC) (⟨Nat.zero_le _,Nat.zero_le _,hR⟩) (af (by rfl) (by rfl) ?_) fun x hx N hN=>?_
 ·exact qY
 obtain⟨k,acc⟩:=x
 obtain⟨h1,h2,h3⟩:=hx
 dsimp only at h1 h2 h3
 refine qR ?_
 refine qB (fun h=>?_) fun h=>?_
 ·rw [im h] at h3
  have hg:=ao (enc:=HalfD.cs) h
  try simp (disch:=omega) only [go_sem,seval,hg]
  refine qB (fun b2=>?_) fun b2=>?_
  ·rw [if_pos (by simpa using b2)] at h3
   refine⟨qC,hN _ (k+1,acc++[l[k]]) (qI 0 1++qI 4 1) (by (try dsimp only);exact⟨by omega,by simp;omega,by simpa using h3⟩) (by (try dsimp only);omega) (af (by rfl) (by rfl) ?_)⟩
   refine qX ?_
   simp [HalfD.cs]
  rw [if_neg (by simpa using b2)] at h3
  exact qN hN (k+1,acc) (qI 0 2) (by (try dsimp only);exact⟨by omega,by omega,h3⟩)
 rw [jn (by omega),List.append_nil] at h3
 subst h3
 exact qF (qI 0 2)
theorem wj (l:List HalfD) (now:Int) (hl:l.length≤1048576):ae Tryz.prog 204 [.sc (.sl 0 0 l.length),.sc (.int .i64 now)] [some ⟨l.map HalfD.cs,8,213,false,true⟩] (.sc (.sl 1 0 (bM l now).length)) [some ⟨l.map HalfD.cs,8,213,false,true⟩,some ⟨(bM l now).map HalfD.cs,8,213,true,true⟩]:=by
 obtain⟨R,hR⟩:∃ R,R=bM l now:=⟨_,rfl⟩
 rw [←hR]
 rw [bM] at hR
 refine qE Tryz.func204 Tryz.ntmps204 Tryz.results204 fun E hE=>?_
 refine an 1 hE (fun s (x:Nat×List HalfD)=>s.at (qU [7,21]) [(6,.sc (.int .i64 (x.1:Nat))),(5,.sc (.sl 1 0 x.2.length))] ((s.hp.take 1)++[some ⟨x.2.map HalfD.cs,8,213,true,true⟩])) (fun (x:Nat×List HalfD)=>x.1≤l.length∧x.2.length≤x.1∧R=x.2++(l.drop x.1).filter (fun h=>decide (now < h.till))) (fun (x:Nat×List HalfD)=>l.length - x.1) (0,[]) (qI 0 2) (qC) (⟨Nat.zero_le _,Nat.zero_le _,hR⟩) (af (by rfl) (by rfl) ?_) fun x hx N hN=>?_
 ·exact qY
 obtain⟨k,acc⟩:=x
 obtain⟨h1,h2,h3⟩:=hx
 dsimp only at h1 h2 h3
 refine qR ?_
 refine qB (fun h=>?_) fun h=>?_
 ·rw [im h] at h3
  have hg:=ao (enc:=HalfD.cs) h
  try simp (disch:=omega) only [go_sem,seval,hg]
  refine qB (fun b2=>?_) fun b2=>?_
  ·rw [if_pos (by simpa using b2)] at h3
   try simp (disch:=omega) only [go_sem,seval,hg]
   refine⟨qC,hN _ (k+1,acc++[l[k]]) (qI 0 1++qI 3 1) (by (try dsimp only);exact⟨by omega,by simp;omega,by simpa using h3⟩) (by (try dsimp only);omega) (af (by rfl) (by rfl) ?_)⟩
   refine qX ?_
   simp [HalfD.cs]
  rw [if_neg (by simpa using b2)] at h3
  exact qN hN (k+1,acc) (qI 0 2) (by (try dsimp only);exact⟨by omega,by omega,h3⟩)
 rw [jn (by omega),List.append_nil] at h3
 subst h3
 exact qF (qI 0 2)
theorem j4 (e:EndD) (s:SubD) (h:cr e.side 1 2=true):ae Tryz.prog 234 [.ag (e.cs 0),.ag s.cs] (e.hp false) (.ag (fv e s).cs) (e.hp false):=by
 have hT:=lC (3 - e.side)
 have hB:ae Tryz.prog 246 [.ag s.road.cs,.ag (LetterD.cs { aw with kind:=4,token:=dB (3 - e.side),nonce:=s.mine,give:=s.take,spare:=s.spare })] [] (.ag (fv e s).cs) []:=bg s.road { aw with kind:=4,token:=dB (3 - e.side),nonce:=s.mine,give:=s.take,spare:=s.spare }
 simp only [cr,Bool.and_eq_true,decide_eq_true_eq] at h
 refine qE Tryz.func234 Tryz.ntmps234 Tryz.results234 fun E hE=>?_
 refine qD [0,1,2,3,4,6,7,8,9,10,11,5,12,13,14] ?_
 refine az (hT) [] ?_
 refine az (hB) [] ?_
 refine qG ?_
 refine ah (qI 0 7) (qC) _ (by simp only [go_sem];rfl) (by rfl) (by rfl) ?_
 simp (disch:=omega) only [go_sem,seval]
 try rfl
theorem ng (e:EndD) (s:SubD) (h:cr e.side 1 2=true):ae Tryz.prog 206 [.ag (e.cs 0),.ag s.cs] (e.hp false) (.ag (fv e s).cs) (e.hp false):=by
 have hT:=lD (3 - e.side)
 have hB:ae Tryz.prog 217 [.ag s.road.cs,.ag (LetterD.cs { aw with kind:=4,token:=dB (3 - e.side),nonce:=s.mine,give:=s.take,spare:=s.spare })] [] (.ag (fv e s).cs) []:=aX s.road { aw with kind:=4,token:=dB (3 - e.side),nonce:=s.mine,give:=s.take,spare:=s.spare }
 simp only [cr,Bool.and_eq_true,decide_eq_true_eq] at h
 refine qE Tryz.func206 Tryz.ntmps206 Tryz.results206 fun E hE=>?_
 refine qD [0,1,2,3,4,6,7,8,9,10,11,5,12,13,14] ?_
 refine az (hT) [] ?_
 refine az (hB) [] ?_
 refine qG ?_
 refine ah (qI 0 7) (qC) _ (by simp only [go_sem];rfl) (by rfl) (by rfl) ?_
 simp (disch:=omega) only [go_sem,seval]
 try rfl
theorem x5 (e:EndD) (hl:e.subs.length≤1048576):ae Tryz.prog 238 [.ag (e.cs 0)] (e.hp false) (.sc (.sl 7 0 (eq e.subs).length)) (e.hp false++[some ⟨(eq e.subs).map RoadD.cs,3,199,true,true⟩]):=by
 obtain⟨R,hR⟩:∃ R,R=eq e.subs:=⟨_,rfl⟩
 rw [←hR]
 rw [eq] at hR
 refine qE Tryz.func238 Tryz.ntmps238 Tryz.results238 fun E hE=>?_
 refine an 7 hE (fun s (x:Nat×List RoadD)=>s.at (qU [0,2,5,2,10,12]) [(9,.sc (.int .i64 (x.1:Nat))),(3,.sc (.sl 8 0 x.2.length))] ((s.hp.take 8)++[some ⟨x.2.map RoadD.cs,3,199,true,true⟩])) (fun (x:Nat×List RoadD)=>x.1≤e.subs.length∧x.2.length≤x.1∧R=x.2++((e.subs.drop x.1).filter (fun s=>s.state != 4)).map SubD.road) (fun (x:Nat×List RoadD)=>e.subs.length - x.1) (0,[]) (qI 0 8++qO 1) (qC) (⟨Nat.zero_le _,Nat.zero_le _,hR⟩) (af (by rfl) (by rfl) ?_) fun x hx N hN=>?_
 ·exact qY
 obtain⟨k,acc⟩:=x
 obtain⟨h1,h2,h3⟩:=hx
 dsimp only at h1 h2 h3
 refine qR ?_
 refine qB (fun h=>?_) fun h=>?_
 ·rw [im h] at h3
  have hg:=ao (enc:=SubD.cs) h
  try simp (disch:=omega) only [go_sem,seval,hg]
  refine qB (fun b2=>?_) fun b2=>?_
  ·rw [if_pos (by simpa using b2),List.map_cons] at h3
   try simp (disch:=omega) only [go_sem,seval,hg]
   refine⟨qC,hN _ (k+1,acc++[e.subs[k].road]) (qI 0 8++qI 11 1) (by (try dsimp only);exact⟨by omega,by simp;omega,by simpa using h3⟩) (by (try dsimp only);omega) (af (by rfl) (by rfl) ?_)⟩
   refine qX ?_
   simp [RoadD.cs]
  rw [if_neg (by simpa using b2)] at h3
  exact qN hN (k+1,acc) (qI 0 9) (by (try dsimp only);exact⟨by omega,by omega,h3⟩)
 rw [jn (by omega),List.map_nil,List.append_nil] at h3
 subst h3
 exact qF (qI 0 7++qI 8 1)
theorem x6 (e:EndD) (hl:e.subs.length≤1048576):ae Tryz.prog 211 [.ag (e.cs 0)] (e.hp false) (.sc (.sl 7 0 (eq e.subs).length)) (e.hp false++[some ⟨(eq e.subs).map RoadD.cs,3,199,true,true⟩]):=by
 obtain⟨R,hR⟩:∃ R,R=eq e.subs:=⟨_,rfl⟩
 rw [←hR]
 rw [eq] at hR
 refine qE Tryz.func211 Tryz.ntmps211 Tryz.results211 fun E hE=>?_
 refine an 7 hE (fun s (x:Nat×List RoadD)=>s.at (qU [0,1,5,24]) [(4,.sc (.int .i64 (x.1:Nat))),(3,.sc (.sl 8 0 x.2.length))] ((s.hp.take 8)++[some ⟨x.2.map RoadD.cs,3,199,true,true⟩])) (fun (x:Nat×List RoadD)=>x.1≤e.subs.length∧x.2.length≤x.1∧R=x.2++((e.subs.drop x.1).filter (fun s=>s.state != 4)).map SubD.road) (fun (x:Nat×List RoadD)=>e.subs.length - x.1) (0,[]) (qI 0 9) (qC) (⟨Nat.zero_le _,Nat.zero_le _,hR⟩) (af (by rfl) (by rfl) ?_) fun x hx N hN=>?_
 ·exact qY
 obtain⟨k,acc⟩:=x
 obtain⟨h1,h2,h3⟩:=hx
 dsimp only at h1 h2 h3
 refine qR ?_
 refine qB (fun h=>?_) fun h=>?_
 ·rw [im h] at h3
  have hg:=ao (enc:=SubD.cs) h
  try simp (disch:=omega) only [go_sem,seval,hg]
  refine qB (fun b2=>?_) fun b2=>?_
  ·rw [if_pos (by simpa using b2),List.map_cons] at h3
   try simp (disch:=omega) only [go_sem,seval,hg]
   refine⟨qC,hN _ (k+1,acc++[e.subs[k].road]) (qI 0 8++qI 10 1) (by (try dsimp only);exact⟨by omega,by simp;omega,by simpa using h3⟩) (by (try dsimp only);omega) (af (by rfl) (by rfl) ?_)⟩
   refine qX ?_
   simp [RoadD.cs]
  rw [if_neg (by simpa using b2)] at h3
  exact qN hN (k+1,acc) (qI 0 9) (by (try dsimp only);exact⟨by omega,by omega,h3⟩)
 rw [jn (by omega),List.map_nil,List.append_nil] at h3
 subst h3
 exact qF (qI 0 7++qI 8 1)
end
section
open Go.RowKit
def kH (l:List AddrD) (n:Int):Nat→Int
 |0=> -1
 |k+1=>if (oO l k).addr=n then (k:Int) else kH l n k
theorem x7 {l:List AddrD} {n:Int} {k:Nat} (h:k < l.length):gv (l.take (k+1)) n=(gv (l.take k) n || l[k].addr == n):=by
 rw [gv,List.take_succ_eq_append_getElem h,List.any_append];simp [gv]
theorem nh {l:List AddrD} {n:Int} {k:Nat} (h:k < l.length):bS (l.take (k+1)) n=if l[k].addr=n then l[k].spare else bS (l.take k) n:=by
 rw [bS,List.take_succ_eq_append_getElem h,List.foldl_append];rfl
theorem ni {l:List AddrD} {n:Int}:∀ (k:Nat),k≤l.length→(kH l n k= -1∧gv (l.take k) n=false∧bS (l.take k) n=false)∨∃ j:Nat,∃ hj:j < l.length,j < k∧kH l n k=(j:Int)∧gv (l.take k) n=true∧bS (l.take k) n=l[j].spare
 |0,_=>.inl ⟨rfl,by simp [gv],by simp [bS]⟩
 |k+1,h=>by
  have hk:k < l.length:=by omega
  rw [x7 hk,nh hk,kH,iz hk]
  by_cases he:l[k].addr=n
  ·right
   exact⟨k,hk,Nat.lt_succ_self k,by rw [if_pos he],by rw [Bool.or_eq_true];exact .inr (by simpa using he),by rw [if_pos he]⟩
  rw [if_neg he,if_neg he]
  have hb:(l[k].addr == n)=false:=by simpa using he
  rw [hb,Bool.or_false]
  rcases ni (l:=l) (n:=n) k (by omega) with h1|⟨j,hj,h2,h3⟩
  ·exact .inl h1
  exact .inr ⟨j,hj,Nat.lt_succ_of_lt h2,h3⟩
def x8 (l:List AddrD) (n:Int):Int:=kH l n l.length
theorem kI (l:List AddrD) (n:Int):(x8 l n= -1∧gv l n=false∧bS l n=false)∨∃ j:Nat,∃ hj:j < l.length,x8 l n=(j:Int)∧gv l n=true∧bS l n=l[j].spare:=by
 have:=ni (l:=l) (n:=n) l.length (Nat.le_refl _)
 rw [List.take_length] at this
 rcases this with h|⟨j,hj,_,h⟩
 ·exact .inl h
 exact .inr ⟨j,hj,h⟩
theorem rR (e:EndD) (n:Int) (hl:e.far.length≤1048576):ae Tryz.prog 239 [.ag (e.cs 0),.sc (.int .i64 n)] (e.hp false) (.sc (.int .i64 (x8 e.far n))) (e.hp false):=by
 obtain⟨R,hR⟩:∃ R,R=x8 e.far n:=⟨_,rfl⟩
 rw [←hR]
 rw [x8] at hR
 refine e_ Tryz.func239 (by kernel_rfl) rfl fun E hE=>ac 400 ?_
 simp (disch:=omega) only [Tryz.ntmps239,Tryz.results239,go_sem,Nat.reduceEqDiff,Nat.reduceAdd,Nat.reduceSub,Int.reduceAdd,Int.reduceSub,Int.reduceToNat]
 refine an 7 hE (fun s (k:Nat)=>s.at (qU [0,1,4,1,6,17]) [(5,.sc (.int .i64 ((k:Int) - 1)))] (s.hp)) (fun (k:Nat)=>k≤e.far.length∧R=kH e.far n k) (fun (k:Nat)=>k) e.far.length (qI 0 8) (qC) (⟨Nat.le_refl _,hR⟩) (af (by rfl) (by rfl) ?_) fun k hk N hN=>?_
 ·try simp (disch:=omega) only [go_sem,Nat.reduceEqDiff,Nat.reduceAdd,Nat.reduceSub,Int.reduceAdd,Int.reduceSub,Int.reduceToNat]
 obtain⟨h1,h2⟩:=hk
 refine ac 400 ?_
 cases k with
 |zero=>
  rw [kH] at h2
  subst h2
  try simp (disch:=omega) only [go_sem,Nat.reduceEqDiff,Nat.reduceAdd,Nat.reduceSub,Int.reduceAdd,Int.reduceSub,Int.reduceToNat]
  refine ah (qI 0 7) (qC) _ (by simp only [go_sem];rfl) (by rfl) (by rfl) ?_
  simp (disch:=omega) only [go_sem,Nat.reduceEqDiff,Nat.reduceAdd,Nat.reduceSub,Int.reduceAdd,Int.reduceSub,Int.reduceToNat]
 |succ j=>
  have hj:j < e.far.length:=by omega
  have hg:=ao (enc:=AddrD.cs) hj
  have e1:((j+1:Nat):Int) - 1=(j:Int):=by omega
  have e2:(j:Int)+1 - 1=(j:Int):=by omega
  rw [kH,iz hj] at h2
  try simp (disch:=omega) only [go_sem,Nat.reduceEqDiff,Nat.reduceAdd,Nat.reduceSub,Int.reduceAdd,Int.reduceSub,Int.reduceToNat,e1,e2,hg]
  split<;>rename_i b<;>(try simp only [beq_true,beq_false,Bool.not_eq_true',Bool.not_eq_false'] at b)<;>simp (disch:=omega) only [go_sem,Nat.reduceEqDiff,Nat.reduceAdd,Nat.reduceSub,Int.reduceAdd,Int.reduceSub,Int.reduceToNat,b]<;>(try simp only [decide_eq_true_eq,decide_eq_false_iff_not,beq_iff_eq,beq_eq_false_iff_ne,bne_iff_ne,bne_eq_false_iff_eq,ne_eq,Decidable.not_not,Bool.and_eq_true,Bool.and_eq_false_iff,Bool.or_eq_true,Bool.or_eq_false_iff,Int.ofNat_lt,Int.ofNat_le,Bool.not_eq_eq_eq_not,Bool.not_true,Bool.not_false] at b)<;>try simp (disch:=omega) only [go_sem,Nat.reduceEqDiff,Nat.reduceAdd,Nat.reduceSub,Int.reduceAdd,Int.reduceSub,Int.reduceToNat]
  ·rw [if_pos b] at h2
   subst h2
   try simp (disch:=omega) only [go_sem,Nat.reduceEqDiff,Nat.reduceAdd,Nat.reduceSub,Int.reduceAdd,Int.reduceSub,Int.reduceToNat]
   refine ah (qI 0 7) (qC) _ (by simp only [go_sem];rfl) (by rfl) (by rfl) ?_
   simp (disch:=omega) only [go_sem,Nat.reduceEqDiff,Nat.reduceAdd,Nat.reduceSub,Int.reduceAdd,Int.reduceSub,Int.reduceToNat]
  rw [if_neg b] at h2
  refine⟨qC,hN _ j (qI 0 8) (by (try dsimp only);exact⟨by omega,h2⟩) (by (try dsimp only);omega) (af (by rfl) (by rfl) ?_)⟩
  try simp (disch:=omega) only [go_sem,Nat.reduceEqDiff,Nat.reduceAdd,Nat.reduceSub,Int.reduceAdd,Int.reduceSub,Int.reduceToNat]
theorem x9 (e:EndD) (n:Int) (hl:e.far.length≤1048576):ae Tryz.prog 282 [.ag (e.cs 0),.sc (.int .i64 n)] (e.hp false) (.sc (.bo (gv e.far n))) (e.hp false):=by
 obtain⟨R,hR⟩:∃ R,R=gv e.far n:=⟨_,rfl⟩
 rw [←hR]
 rw [gv] at hR
 refine qE Tryz.func282 Tryz.ntmps282 Tryz.results282 fun E hE=>?_
 refine an 7 hE (fun s (k:Nat)=>s.at (qU [0,1,4,1,6,15]) [(5,.sc (.int .i64 (k:Nat)))] (s.hp)) (fun (k:Nat)=>k≤e.far.length∧R=(e.far.drop k).any (fun a=>a.addr == n)) (fun (k:Nat)=>e.far.length - k) 0 (qI 0 8) (qC) (⟨Nat.zero_le _,hR⟩) (af (by rfl) (by rfl) ?_) fun k hk N hN=>?_
 ·exact qY
 obtain⟨h1,h2⟩:=hk
 refine qR ?_
 refine qB (fun h=>?_) fun h=>?_
 ·rw [eB h] at h2
  have hg:=ao (enc:=AddrD.cs) h
  try simp (disch:=omega) only [go_sem,seval,hg]
  refine qB (fun b=>?_) fun b=>?_
  ·rw [show (e.far[k].addr == n)=true by simpa using b,Bool.true_or] at h2
   subst h2
   refine qX ?_
   exact qF (qI 0 7)
  rw [show (e.far[k].addr == n)=false by simpa using b,Bool.false_or] at h2
  exact qN hN (k+1) (qI 0 8) (by (try dsimp only);exact⟨by omega,h2⟩)
 rw [d7 (by omega)] at h2
 subst h2
 refine qX ?_
 exact qF (qI 0 7)
theorem YP {e:EndD} {r:RoadD} {b:Bool} (h:A9 e r=false):gw e r b=(e,[]):=if_neg (by simp [h])
theorem YQ {e:EndD} {r:RoadD} {b:Bool} (h:A9 e r=true):gw e r b=({ e with subs:=e.subs++[fw e r b],draw:=e.draw+4 },[fv e (fw e r b)]):=if_pos h
theorem jO {e:EndD} (h:aj e=true):cr e.side 1 2=true:=by
 simp only [aj,Bool.and_eq_true] at h
 simp_all
theorem Bc (e:EndD) (r:RoadD) (sp:Bool) (hs:Small e):ae Tryz.prog 240 [.ag (e.cs 0),.ag r.cs,.sc (.bo sp)] (e.hp false) (.tu [.ag ((gw e r sp).1.cs 7),.sc (.sl 14 0 (gw e r sp).2.length)])
  (e.hp false++((gw e r sp).1.hp true++[some ⟨(gw e r sp).2.map LetterD.cs,19,91,true,true⟩])):=by
 have hC:=(qH (aK e))
 have hK:=(qH (bf e))
 have hO:=gB e r.own (by have:=hs.own;omega)
 have hS:=eI e r (by have:=hs.subs;omega)
 have hsub:=hs.subs
 have hF:=rR e r.far (by have:=hs.far;omega)
 have hcase:=kI e.far r.far
 have hf:=YP (e:=e) (r:=r) (b:=sp)
 have ht:=YQ (e:=e) (r:=r) (b:=sp)
 have hk:=A9.eq_1 e r
 generalize gw e r sp=R at*
 refine ga Tryz.func240 Tryz.ntmps240 Tryz.results240 fun E hE=>?_
 refine qK (hC) (qI 0 7) ?_
 refine qK (hK) (qI 0 7) ?_
 refine qB (fun h1=>?_) fun h1=>?_
 ·refine qB (fun h2=>?_) fun h2=>?_
  ·refine qK (fW r) [] ?_
   refine qB (fun h3=>?_) fun h3=>?_
   ·refine qK (hS) (qI 0 7) ?_
    refine qB (fun h4=>?_) fun h4=>?_
    ·refine qK (hO) (qI 0 7) ?_
     refine qB (fun h5=>?_) fun h5=>?_
     ·refine qK (hF) (qI 0 7) ?_
      rcases hcase with⟨q1,q2,_⟩|⟨j,hj,q1,q2,_⟩
      ·rw [hf (by rw [hk];simp [q2])]
       try simp (disch:=omega) only [go_sem,seval,q1]
       exact cc (qI 0 7++qI 10 7++qO 1)
      try simp (disch:=omega) only [go_sem,seval,q1]
      refine qB (fun h7=>?_) fun h7=>?_
      ·refine qK (fk e) (qI 0 7) ?_
       refine qB (fun h8=>?_) fun h8=>?_
       ·rw [hf (by rw [hk];simp [h8])]
        refine qX ?_
        exact cc (qI 0 7++qI 10 7++qO 1)
       rw [ht (by rw [hk];simp [h1,h2,h3,h5,h8,q2];omega)]
       have h8':=h8
       simp only [cr,Bool.and_eq_true,decide_eq_true_eq] at h8'
       have hJ:=j4 e (fw e r sp) (jO h1)
       refine qX ?_
       refine qK (f6 e h8) (qI 10 8) ?_
       refine aI [(4,5)] [] [(qU [0,7]),[0,1,2,3,5,4,6]] 7 hE (fun s=>s.at (qU [74,5,68,6]) [(7,.sc (.sl 21 0 1))] ((s.hp.set 9 (some ⟨[[.int .i64 e.side,.int .i64 e.state,.int .i64 e.key,.int .i64 e.peer,.int .i64 e.policy.kind,.int .i64 e.policy.many,.sl 10 0 e.own.length,.sl 11 0 e.far.length,.sl 20 0 (e.subs.length+1),.sl 13 0 e.halfs.length,.int .i64 e.bucket.rate,.int .i64 e.bucket.burst,.int .i64 e.bucket.cur,.st e.out.text,.int .i64 e.out.base,.int .i64 e.out.sent,.int .i64 e.out.room,.int .i64 e.inp.read,.st e.inp.ready,.sl 14 0 e.inp.list.length,.sl 15 0 e.done.length,.sl 16 0 e.over.length,.int .i64 (e.draw+4),.int .i64 e.now,.int .i64 e.pick]],25,45,true,false⟩))++[some ⟨[(fv e (fw e r sp)).cs],19,91,true,true⟩])) (by kernel_rfl) (qC) (by kernel_rfl) ?_ (ac 400 ?_)
       rotate_left
       rotate_right
       simp only [aQ]
       refine⟨aa 400 ?_,aa 400 ?_⟩
       ·simp (disch:=omega) only [go_sem]
        refine az (hJ) (qI 0 7) ?_
        refine⟨qC,(qI 0 22),ab (by rfl) (by rfl) ?_⟩
        try simp (disch:=omega) only [go_sem,seval]
        try rfl
       ·simp (disch:=omega) only [go_sem]
        refine az (hJ) (qI 0 7) ?_
        refine⟨qC,(qI 0 22),ab (by rfl) (by rfl) ?_⟩
        try simp (disch:=omega) only [go_sem,seval]
        try rfl
       refine qX ?_
       refine aA (qI 0 7++qI 10 2++qI 20 1++qI 13 4++qI 21 1) (qC) _ (by simp only [go_sem];rfl) (by rfl) (by rfl) ?_
       simp (disch:=omega) only [go_sem,seval]
       try simp [SubD.cs,fw]
       try omega
      rw [hf (by rw [hk];first|(simp [h7];done)|(simp [h7];intros;omega))]
      refine qX ?_
      exact cc (qI 0 7++qI 10 7++qO 1)
     rw [hf (by rw [hk];first|(simp [h5];done)|(simp [h5];intros;omega))]
     refine qX ?_
     exact cc (qI 0 7++qI 10 7++qO 1)
    rw [hf (by rw [hk];first|(simp [h4];done)|(simp [h4];intros;omega))]
    refine qX ?_
    exact cc (qI 0 7++qI 10 7++qO 1)
   rw [hf (by rw [hk];first|(simp [h3];done)|(simp [h3];intros;omega))]
   refine qX ?_
   exact cc (qI 0 7++qI 10 7++qO 1)
  rw [hf (by rw [hk];first|(simp [h2];done)|(simp [h2];intros;omega))]
  refine qX ?_
  exact cc (qI 0 7++qI 10 7++qO 1)
 rw [hf (by rw [hk];first|(simp [h1];done)|(simp [h1];intros;omega))]
 refine qX ?_
 exact cc (qI 0 7++qI 10 7++qO 1)
theorem Bd (e:EndD) (r:RoadD) (sp:Bool) (hs:Small e):ae Tryz.prog 212 [.ag (e.cs 0),.ag r.cs,.sc (.bo sp)] (e.hp false) (.tu [.ag ((gw e r sp).1.cs 7),.sc (.sl 14 0 (gw e r sp).2.length)])
  (e.hp false++((gw e r sp).1.hp true++[some ⟨(gw e r sp).2.map LetterD.cs,19,91,true,true⟩])):=by
 have hC:=(qH (aD e))
 have hK:=(qH (be e))
 have hO:=gC e r.own (by have:=hs.own;omega)
 have hS:=eJ e r (by have:=hs.subs;omega)
 have hsub:=hs.subs
 have hF:=x9 e r.far (by have:=hs.far;omega)
 have hcase:=kI e.far r.far
 have hf:=YP (e:=e) (r:=r) (b:=sp)
 have ht:=YQ (e:=e) (r:=r) (b:=sp)
 have hk:=A9.eq_1 e r
 generalize gw e r sp=R at*
 refine ga Tryz.func212 Tryz.ntmps212 Tryz.results212 fun E hE=>?_
 refine qK (hC) (qI 0 7) ?_
 refine qK (hK) (qI 0 7) ?_
 refine qB (fun h1=>?_) fun h1=>?_
 ·refine qB (fun h2=>?_) fun h2=>?_
  ·refine qK (g_ r) [] ?_
   refine qB (fun h3=>?_) fun h3=>?_
   ·refine qK (hS) (qI 0 7) ?_
    refine qB (fun h4=>?_) fun h4=>?_
    ·refine qK (hO) (qI 0 7) ?_
     refine qB (fun h5=>?_) fun h5=>?_
     ·refine qK (hF) (qI 0 7) ?_
      refine qB (fun h6=>?_) fun h6=>?_
      ·refine qB (fun h7=>?_) fun h7=>?_
       ·refine qK (gD e) (qI 0 7) ?_
        refine qB (fun h8=>?_) fun h8=>?_
        ·rw [hf (by rw [hk];simp [h8])]
         refine qX ?_
         exact cc (qI 0 7++qI 10 7++qI 18 1)
        rw [ht (by rw [hk];have:=dr h1;simp [h1,h2,h3,h5,h6,h8];omega)]
        have h8':=h8
        simp only [cr,Bool.and_eq_true,decide_eq_true_eq] at h8'
        have hd1:cr e.draw 1 999999998=true:=by simp only [cr,Bool.and_eq_true,decide_eq_true_eq];omega
        have hd2:cr (e.draw+2) 1 999999998=true:=by simp only [cr,Bool.and_eq_true,decide_eq_true_eq];omega
        have hJ:ae Tryz.prog 206 [.ag (EndD.cs { e with draw:=e.draw+2+2,subs:=e.subs++[fw e r sp] } 0),.ag (fw e r sp).cs] (EndD.hp { e with draw:=e.draw+2+2,subs:=e.subs++[fw e r sp] } false) (.ag (fv e (fw e r sp)).cs) (EndD.hp { e with draw:=e.draw+2+2,subs:=e.subs++[fw e r sp] } false):=ng _ _ (show cr e.side 1 2=true from jO h1)
        refine qX ?_
        refine qK (cO e hs hd1) (qI 10 7) ?_
        refine qK (cO { e with draw:=e.draw+2 } ⟨hs.own,hs.far,hs.subs,hs.halfs,hs.list,hs.done,hs.over⟩ hd2) (qI 19 7) ?_
        refine qK (iU { e with draw:=e.draw+2+2 } (fw e r sp) (by have:=dr h1;dsimp only;omega)) (qI 26 7) ?_
        refine aI [(0,6),(4,0),(5,0)] [(4,5),(4,6),(5,6)] [[1,2,3,4,5,0,6,7,8],[1,2,3,4,0,5,6,7,8],[1,2,3,0,4,5,6,7,8],[1,2,3,4,5,6,0,7,8]] 7 hE (fun s=>s.at (qU [9,1,62,25]) [(7,.sc (.sl 35 0 1))] (((s.hp.set 9 (some ⟨[[.int .i64 e.side,.int .i64 e.state,.int .i64 e.key,.int .i64 e.peer,.int .i64 e.policy.kind,.int .i64 e.policy.many,.sl 26 0 e.own.length,.sl 27 0 e.far.length,.sl 34 0 (e.subs.length+1),.sl 29 0 e.halfs.length,.int .i64 e.bucket.rate,.int .i64 e.bucket.burst,.int .i64 e.bucket.cur,.st e.out.text,.int .i64 e.out.base,.int .i64 e.out.sent,.int .i64 e.out.room,.int .i64 e.inp.read,.st e.inp.ready,.sl 30 0 e.inp.list.length,.sl 31 0 e.done.length,.sl 32 0 e.over.length,.int .i64 (e.draw+2+2),.int .i64 e.now,.int .i64 e.pick]],25,45,true,false⟩)).set 18 none)++[some ⟨[(fv e (fw e r sp)).cs],19,91,true,true⟩])) (by kernel_rfl) (qC) (by kernel_rfl) ?_ (ac 400 ?_)
        rotate_left
        rotate_right
        simp only [aQ]
        refine⟨aa 400 ?_,aa 400 ?_,aa 400 ?_,aa 400 ?_⟩
        ·simp (disch:=omega) only [go_sem]
         refine az (hJ) (qI 26 2++qI 34 1++qI 29 4) ?_
         refine⟨qC,(qI 0 35++qI 36 1),ab (by rfl) (by rfl) ?_⟩
         try simp (disch:=omega) only [go_sem,seval]
         try rfl
        ·simp (disch:=omega) only [go_sem]
         refine az (hJ) (qI 26 2++qI 34 1++qI 29 4) ?_
         refine⟨qC,(qI 0 35++qI 36 1),ab (by rfl) (by rfl) ?_⟩
         try simp (disch:=omega) only [go_sem,seval]
         try rfl
        ·simp (disch:=omega) only [go_sem]
         refine az (hJ) (qI 26 2++qI 34 1++qI 29 4) ?_
         refine⟨qC,(qI 0 35++qI 36 1),ab (by rfl) (by rfl) ?_⟩
         try simp (disch:=omega) only [go_sem,seval]
         try rfl
        ·simp (disch:=omega) only [go_sem]
         refine az (hJ) (qI 26 2++qI 34 1++qI 29 4) ?_
         refine⟨qC,(qI 0 35++qI 36 1),ab (by rfl) (by rfl) ?_⟩
         try simp (disch:=omega) only [go_sem,seval]
         try rfl
        refine qX ?_
        refine aA (qI 0 7++qI 26 2++qI 34 1++qI 29 4++qI 35 1) (qC) _ (by simp only [go_sem];rfl) (by rfl) (by rfl) ?_
        simp (disch:=omega) only [go_sem,seval]
        try simp [SubD.cs,fw]
        try omega
       rw [hf (by rw [hk];first|(simp [h7];done)|(simp [h7];intros;omega))]
       refine qX ?_
       exact cc (qI 0 7++qI 10 7++qI 18 1)
      rw [hf (by rw [hk];simp [h6])]
      refine qX ?_
      exact cc (qI 0 7++qI 10 7++qI 18 1)
     rw [hf (by rw [hk];first|(simp [h5];done)|(simp [h5];intros;omega))]
     refine qX ?_
     exact cc (qI 0 7++qI 10 7++qI 18 1)
    rw [hf (by rw [hk];first|(simp [h4];done)|(simp [h4];intros;omega))]
    refine qX ?_
    exact cc (qI 0 7++qI 10 7++qI 18 1)
   rw [hf (by rw [hk];first|(simp [h3];done)|(simp [h3];intros;omega))]
   refine qX ?_
   exact cc (qI 0 7++qI 10 7++qI 18 1)
  rw [hf (by rw [hk];first|(simp [h2];done)|(simp [h2];intros;omega))]
  refine qX ?_
  exact cc (qI 0 7++qI 10 7++qI 18 1)
 rw [hf (by rw [hk];first|(simp [h1];done)|(simp [h1];intros;omega))]
 refine qX ?_
 exact cc (qI 0 7++qI 10 7++qI 18 1)
end
section
open Go.RowKit
def T1 (a b:AddrD):RoadD:=⟨a.addr,b.addr,0⟩
theorem oV {far l:List AddrD} {acc:List RoadD} {k:Nat} (h:k < l.length):iu far acc (l.drop k)=iu far ((acc++far.map (T1 l[k])).take 8) (l.drop (k+1)):=by
 rw [List.drop_eq_getElem_cons h,iu]
 rfl
theorem x_ {acc:List RoadD} {far:List AddrD} {f:AddrD→RoadD} {j:Nat} {r:List RoadD} (h:j < far.length) (hr:r=(acc++(far.take j).map f).take 8) (hl:r.length < 8):r++[f far[j]]=(acc++(far.take (j+1)).map f).take 8:=by
 have h1:(acc++(far.take j).map f).length < 8:=by
  rw [hr,List.length_take] at hl
  omega
 rw [List.take_of_length_le (by omega)] at hr
 rw [List.take_succ_eq_append_getElem h,List.map_append,←List.append_assoc,←hr,List.map_singleton,List.take_of_length_le]
 rw [←hr] at h1
 simp
 omega
theorem ya {acc:List RoadD} {far:List AddrD} {f:AddrD→RoadD} {j i:Nat} {r:List RoadD} (hji:j≤i) (hi:i≤far.length) (hr:r=(acc++(far.take j).map f).take 8) (hl:¬ r.length < 8):r=(acc++(far.take i).map f).take 8:=by
 have h1:8≤(acc++(far.take j).map f).length:=by
  rw [hr,List.length_take] at hl
  omega
 have e:far.take i=far.take j++(far.take i).drop j:=by
  conv=>lhs;rw [←List.take_append_drop j (far.take i)]
  rw [List.take_take,Nat.min_eq_left hji]
 rw [e,List.map_append,←List.append_assoc,List.take_append_of_le_length h1,hr]
theorem mh (o f:Int) (n:Nat):ko o f (n+1)=ko o f n++[⟨o,f,(n:Int)⟩]:=by
 simp [ko,List.range_succ]
theorem gx (o f:Int) (n:Nat):(ko o f n).length=n:=by simp [ko]
theorem rS {far:List AddrD}:∀ {l:List AddrD} {acc:List RoadD},acc.length≤8→(iu far acc l).length≤8
 |[],acc,h=>h
 |a::r,acc,h=>by
  rw [iu]
  exact rS (by rw [List.length_take];omega)
theorem nj {l:List AddrD} (h:0 < l.length):EA l=l[0].addr:=by
 cases l with
 |nil=>simp at h
 |cons a r=>rfl
theorem rT (p:PolicyD) (own far:List AddrD):(wanted p own far).length≤8:=by
 rw [wanted]
 split
 ·rename_i h
  split
  ·exact rS (Nat.zero_le _)
  rw [gx]
  split
  ·rename_i h2
   have h1:=h.1
   rw [gd,if_pos h2] at h1
   simp only [cr,Bool.and_eq_true,decide_eq_true_eq] at h1
   omega
  omega
 simp
theorem tA (p:PolicyD) (own far:List AddrD) (hp:p.wf) (h1:own.length≤1048576) (h2:far.length≤1048576):ae Tryz.prog 237 [.ag p.cs,.sc (.sl 0 0 own.length),.sc (.sl 1 0 far.length)] [some ⟨own.map AddrD.cs,4,88,false,true⟩,some ⟨far.map AddrD.cs,4,88,false,true⟩] (.sc (.sl 2 0 (wanted p own far).length)) [some ⟨own.map AddrD.cs,4,88,false,true⟩,some ⟨far.map AddrD.cs,4,88,false,true⟩,some ⟨(wanted p own far).map RoadD.cs,3,199,true,true⟩]:=by
 obtain⟨m,hm⟩:∃ m,m=wanted p own far:=⟨_,rfl⟩
 rw [←hm]
 rw [wanted] at hm
 refine qE Tryz.func237 Tryz.ntmps237 Tryz.results237 fun E hE=>?_
 refine qK (lw p) [] ?_
 refine qB (fun g1=>?_) fun g1=>?_
 ·refine qK (aO _ _ _) [] ?_
  refine qB (fun g2=>?_) fun g2=>?_
  ·refine qK (aO _ _ _) [] ?_
   refine qB (fun g3=>?_) fun g3=>?_
   ·rw [if_neg (by simp [g3])] at hm
    subst hm
    exact qF (qI 0 2++qO 1)
   have g2':=g2
   have g3':=g3
   simp only [cr,Bool.and_eq_true,decide_eq_true_eq] at g2' g3'
   rw [if_pos ⟨g1,g2,g3⟩] at hm
   refine qX ?_
   refine qB (fun g4=>?_) fun g4=>?_
   ·rw [if_pos g4] at hm
    refine qX ?_
    refine an 2 hE (fun s (x:Nat×List RoadD)=>s.at (qU [0,1,9,1,11,1,13,18,34,22]) [(33,.sc (.int .i64 (x.1:Nat))),(7,.sc (.sl 3 0 x.2.length))] ([some ⟨own.map AddrD.cs,4,88,false,true⟩,some ⟨far.map AddrD.cs,4,88,false,true⟩,some ⟨[p.cs],2,27,true,false⟩,some ⟨x.2.map RoadD.cs,3,199,true,true⟩])) (fun (x:Nat×List RoadD)=>x.1≤own.length∧x.2.length≤8∧iu far x.2 (own.drop x.1)=m) (fun (x:Nat×List RoadD)=>own.length - x.1) (0,[]) (qI 0 3++qO 1) (qC) (⟨Nat.zero_le _,Nat.zero_le _,hm.symm⟩) (af (by rfl) (by rfl) ?_) fun x hx N hN=>?_
    ·exact qY
    obtain⟨k,acc⟩:=x
    obtain⟨hk1,hk2,hk3⟩:=hx
    dsimp only at hk1 hk2 hk3
    refine qR ?_
    refine qB (fun h=>?_) fun h=>?_
    ·rw [oV h] at hk3
     refine qX ?_
     refine an 2 hE (fun s (y:Nat×List RoadD)=>s.at (qU [0,1,11,1,13,18,35,2,40,16]) [(39,.sc (.int .i64 (y.1:Nat))),(7,.sc (.sl 3 0 y.2.length))] ([some ⟨own.map AddrD.cs,4,88,false,true⟩,some ⟨far.map AddrD.cs,4,88,false,true⟩,some ⟨[p.cs],2,27,true,false⟩,some ⟨y.2.map RoadD.cs,3,199,true,true⟩,some ⟨[AddrD.cs own[k]],4,88,true,false⟩])) (fun (y:Nat×List RoadD)=>y.1≤far.length∧y.2.length≤8∧y.2=(acc++(far.take y.1).map (T1 own[k])).take 8) (fun (y:Nat×List RoadD)=>far.length - y.1) (0,acc) (qI 0 5) (qC) (⟨Nat.zero_le _,hk2,by simp;rw [List.take_of_length_le hk2]⟩) (af (by rfl) (by rfl) ?_) fun y hy N2 hN2=>?_
     ·exact qY
     obtain⟨j,r⟩:=y
     obtain⟨hy1,hy2,hy3⟩:=hy
     dsimp only at hy1 hy2 hy3
     refine qR ?_
     refine qB (fun h5=>?_) fun h5=>?_
     ·refine qX ?_
      refine qB (fun h6=>?_) fun h6=>?_
      ·have hl8:r.length < 8:=by omega
       have ht:=x_ h5 hy3 hl8
       refine⟨qC,hN2 _ (j+1,r++[T1 own[k] far[j]]) (qI 0 3++qI 7 1++qI 4 1) (by (try dsimp only);exact⟨by omega,by simp;omega,ht⟩) (by (try dsimp only);omega) (af (by rfl) (by rfl) ?_)⟩
       refine qX ?_
       simp [T1,RoadD.cs]
      have ht:=ya (i:=j+1) (by omega) (by omega) hy3 (by omega)
      exact qN hN2 (j+1,r) (qI 0 5) (by (try dsimp only);exact⟨by omega,hy2,ht⟩)
     have e:j=far.length:=by omega
     subst e
     rw [List.take_length] at hy3
     rw [←hy3] at hk3
     exact qN hN (k+1,r) (qI 0 4) (by (try dsimp only);exact⟨by omega,hy2,hk3⟩)
    rw [List.drop_eq_nil_of_le (by omega),iu] at hk3
    subst hk3
    exact qF (qI 0 2++qI 3 1)
   rw [if_neg g4] at hm
   have ho:0 < own.length:=by omega
   have hf:0 < far.length:=by omega
   rw [nj ho,nj hf] at hm
   obtain⟨c,hc,hc0,hc8⟩:∃ c:Nat,m=ko own[0].addr far[0].addr c∧(if 1 < p.many then p.many else 1)=(c:Int)∧c≤8:=by
    by_cases h2:p.kind=2
    ·have h:=g1
     rw [gd,if_pos h2] at h
     simp only [cr,Bool.and_eq_true,decide_eq_true_eq] at h
     rw [if_pos h2] at hm
     exact⟨p.many.toNat,hm,by split<;>omega,by omega⟩
    rw [if_neg h2] at hm
    have h:=g1
    rw [gd,if_neg h2] at h
    simp only [Bool.and_eq_true,beq_iff_eq] at h
    exact⟨1,hm,by rw [if_neg (by omega)];rfl,by omega⟩
   refine qX ?_
   refine an 2 hE (fun s (x:Nat)=>s.at (qU [0,1,9,1,11,1,13,64]) [(12,.sc (.int .i64 (x:Nat))),(7,.sc (.sl 3 0 x))] ([some ⟨own.map AddrD.cs,4,88,false,true⟩,some ⟨far.map AddrD.cs,4,88,false,true⟩,some ⟨[p.cs],2,27,true,false⟩,some ⟨(ko own[0].addr far[0].addr x).map RoadD.cs,3,199,true,true⟩])) (fun (x:Nat)=>x≤c) (fun (x:Nat)=>c - x) 0 (qI 0 3++qO 1) (qC) (Nat.zero_le _) (af (by rfl) (by rfl) ?_) fun x hx N hN=>?_
   ·try simp (disch:=omega) only [go_sem,seval]
    try rfl
   refine ac 400 ?_
   have hml:=gx own[0].addr far[0].addr x
   try simp (disch:=omega) only [go_sem,seval,hc0]
   refine qB (fun h=>?_) fun h=>?_
   ·refine qD [0,1,2,3,4,5,6,7,8,9,10,11,12,13] ?_
    refine qG ?_
    refine⟨qC,hN _ (x+1) (qI 0 3++qI 5 1) (by (try dsimp only);exact (by omega)) (by (try dsimp only);omega) (af (by rfl) (by rfl) ?_)⟩
    try simp (disch:=omega) only [go_sem,seval]
    try simp [mh,RoadD.cs]
   have e:x=c:=by omega
   subst e
   subst hc
   rw [gx]
   exact qF (qI 0 2++qI 3 1)
  rw [if_neg (by simp [g2])] at hm
  subst hm
  exact qF (qI 0 2++qO 1)
 rw [if_neg (by simp [g1])] at hm
 subst hm
 exact qF (qI 0 2++qO 1)
theorem tB (p:PolicyD) (own far:List AddrD) (hp:p.wf) (h1:own.length≤1048576) (h2:far.length≤1048576):ae Tryz.prog 210 [.ag p.cs,.sc (.sl 0 0 own.length),.sc (.sl 1 0 far.length)] [some ⟨own.map AddrD.cs,4,88,false,true⟩,some ⟨far.map AddrD.cs,4,88,false,true⟩] (.sc (.sl 2 0 (wanted p own far).length)) [some ⟨own.map AddrD.cs,4,88,false,true⟩,some ⟨far.map AddrD.cs,4,88,false,true⟩,some ⟨(wanted p own far).map RoadD.cs,3,199,true,true⟩]:=by
 obtain⟨m,hm⟩:∃ m,m=wanted p own far:=⟨_,rfl⟩
 rw [←hm]
 rw [wanted] at hm
 refine qE Tryz.func210 Tryz.ntmps210 Tryz.results210 fun E hE=>?_
 refine qK (lx p) [] ?_
 refine qB (fun g1=>?_) fun g1=>?_
 ·refine qK (aM _ _ _) [] ?_
  refine qB (fun g2=>?_) fun g2=>?_
  ·refine qK (aM _ _ _) [] ?_
   refine qB (fun g3=>?_) fun g3=>?_
   ·rw [if_neg (by simp [g3])] at hm
    subst hm
    exact qF (qI 0 2++qI 3 1)
   have g2':=g2
   have g3':=g3
   simp only [cr,Bool.and_eq_true,decide_eq_true_eq] at g2' g3'
   rw [if_pos ⟨g1,g2,g3⟩] at hm
   refine qX ?_
   refine qB (fun g4=>?_) fun g4=>?_
   ·rw [if_pos g4] at hm
    refine qX ?_
    refine an 2 hE (fun s (x:Nat×List RoadD)=>s.at (qU [0,1,9,1,12,51]) [(8,.sc (.int .i64 (x.1:Nat))),(7,.sc (.sl 3 0 x.2.length))] ([some ⟨own.map AddrD.cs,4,88,false,true⟩,some ⟨far.map AddrD.cs,4,88,false,true⟩,some ⟨[p.cs],2,27,true,false⟩,some ⟨x.2.map RoadD.cs,3,199,true,true⟩])) (fun (x:Nat×List RoadD)=>x.1≤own.length∧x.2.length≤8∧iu far x.2 (own.drop x.1)=m) (fun (x:Nat×List RoadD)=>own.length - x.1) (0,[]) (qI 0 4) (qC) (⟨Nat.zero_le _,Nat.zero_le _,hm.symm⟩) (af (by rfl) (by rfl) ?_) fun x hx N hN=>?_
    ·exact qY
    obtain⟨k,acc⟩:=x
    obtain⟨hk1,hk2,hk3⟩:=hx
    dsimp only at hk1 hk2 hk3
    refine qR ?_
    refine qB (fun h=>?_) fun h=>?_
    ·rw [oV h] at hk3
     refine qX ?_
     refine an 2 hE (fun s (y:Nat×List RoadD)=>s.at (qU [0,1,12,23,36,27]) [(9,.sc (.int .i64 (y.1:Nat))),(7,.sc (.sl 3 0 y.2.length))] ([some ⟨own.map AddrD.cs,4,88,false,true⟩,some ⟨far.map AddrD.cs,4,88,false,true⟩,some ⟨[p.cs],2,27,true,false⟩,some ⟨y.2.map RoadD.cs,3,199,true,true⟩])) (fun (y:Nat×List RoadD)=>y.1≤far.length∧y.2.length≤8∧y.2=(acc++(far.take y.1).map (T1 own[k])).take 8) (fun (y:Nat×List RoadD)=>far.length - y.1) (0,acc) (qI 0 4) (qC) (⟨Nat.zero_le _,hk2,by simp;rw [List.take_of_length_le hk2]⟩) (af (by rfl) (by rfl) ?_) fun y hy N2 hN2=>?_
     ·exact qY
     obtain⟨j,r⟩:=y
     obtain⟨hy1,hy2,hy3⟩:=hy
     dsimp only at hy1 hy2 hy3
     refine qR ?_
     refine qB (fun h5=>?_) fun h5=>?_
     ·refine qX ?_
      refine qB (fun h6=>?_) fun h6=>?_
      ·have hl8:r.length < 8:=by omega
       have ht:=x_ h5 hy3 hl8
       refine qD [0,1,2,3,4,5,6,7,8,9,10,11,12,13,14] ?_
       refine qG ?_
       refine⟨qC,hN2 _ (j+1,r++[T1 own[k] far[j]]) (qI 0 3++qI 5 1) (by (try dsimp only);exact⟨by omega,by simp;omega,ht⟩) (by (try dsimp only);omega) (af (by rfl) (by rfl) ?_)⟩
       refine qX ?_
       simp [T1,RoadD.cs]
      have ht:=ya (i:=far.length) hy1 (Nat.le_refl _) hy3 (by omega)
      rw [List.take_length] at ht
      rw [←ht] at hk3
      exact qN hN (k+1,r) (qI 0 4) (by (try dsimp only);exact⟨by omega,hy2,hk3⟩)
     have e:j=far.length:=by omega
     subst e
     rw [List.take_length] at hy3
     rw [←hy3] at hk3
     exact qN hN (k+1,r) (qI 0 4) (by (try dsimp only);exact⟨by omega,hy2,hk3⟩)
    rw [List.drop_eq_nil_of_le (by omega),iu] at hk3
    subst hk3
    exact qF (qI 0 2++qI 3 1)
   rw [if_neg g4] at hm
   have ho:0 < own.length:=by omega
   have hf:0 < far.length:=by omega
   rw [nj ho,nj hf] at hm
   obtain⟨c,hc,hc0,hc8⟩:∃ c:Nat,m=ko own[0].addr far[0].addr c∧(if p.kind=2 then p.many else 1)=(c:Int)∧c≤8:=by
    by_cases h2:p.kind=2
    ·have h:=g1
     rw [gd,if_pos h2] at h
     simp only [cr,Bool.and_eq_true,decide_eq_true_eq] at h
     rw [if_pos h2] at hm
     exact⟨p.many.toNat,hm,by rw [if_pos h2];omega,by omega⟩
    rw [if_neg h2] at hm
    exact⟨1,hm,by rw [if_neg h2];rfl,by omega⟩
   refine qX ?_
   refine qB (fun g5=>?_) fun g5=>?_
   ·rw [if_pos g5] at hc0
    rw [hc0]
    refine qX ?_
    refine an 2 hE (fun s (x:Nat)=>s.at (qU [0,1,3,1,8,2,12,75]) [(11,.sc (.int .i64 (x:Nat))),(7,.sc (.sl 3 0 x))] ([some ⟨own.map AddrD.cs,4,88,false,true⟩,some ⟨far.map AddrD.cs,4,88,false,true⟩,some ⟨[p.cs],2,27,true,false⟩,some ⟨(ko own[0].addr far[0].addr x).map RoadD.cs,3,199,true,true⟩])) (fun (x:Nat)=>x≤c) (fun (x:Nat)=>c - x) 0 (qI 0 4) (qC) (Nat.zero_le _) (af (by rfl) (by rfl) ?_) fun x hx N hN=>?_
    ·refine qX ?_
     first|rfl|exact⟨hc0.symm,rfl⟩|skip
    refine ac 400 ?_
    have hml:=gx own[0].addr far[0].addr x
    refine qX ?_
    refine qB (fun h=>?_) fun h=>?_
    ·refine qD [0,1,2,3,4,5,6,7,8,9,10,11,12,13] ?_
     refine qG ?_
     refine⟨qC,hN _ (x+1) (qI 0 3++qI 5 1) (by (try dsimp only);exact (by omega)) (by (try dsimp only);omega) (af (by rfl) (by rfl) ?_)⟩
     try simp (disch:=omega) only [go_sem,seval]
     try simp [mh,RoadD.cs]
    have e:x=c:=by omega
    subst e
    subst hc
    rw [gx]
    exact qF (qI 0 2++qI 3 1)
   rw [if_neg g5] at hc0
   have hc1:c=1:=by omega
   subst hc1
   refine an 2 hE (fun s (x:Nat)=>s.at (qU [0,1,3,1,8,2,12,75]) [(11,.sc (.int .i64 (x:Nat))),(7,.sc (.sl 3 0 x))] ([some ⟨own.map AddrD.cs,4,88,false,true⟩,some ⟨far.map AddrD.cs,4,88,false,true⟩,some ⟨[p.cs],2,27,true,false⟩,some ⟨(ko own[0].addr far[0].addr x).map RoadD.cs,3,199,true,true⟩])) (fun (x:Nat)=>x≤1) (fun (x:Nat)=>1 - x) 0 (qI 0 4) (qC) (Nat.zero_le _) (af (by rfl) (by rfl) ?_) fun x hx N hN=>?_
   ·refine qX ?_
    first|rfl|exact⟨hc0.symm,rfl⟩|skip
   refine ac 400 ?_
   have hml:=gx own[0].addr far[0].addr x
   refine qX ?_
   refine qB (fun h=>?_) fun h=>?_
   ·refine qD [0,1,2,3,4,5,6,7,8,9,10,11,12,13] ?_
    refine qG ?_
    refine⟨qC,hN _ (x+1) (qI 0 3++qI 5 1) (by (try dsimp only);exact (by omega)) (by (try dsimp only);omega) (af (by rfl) (by rfl) ?_)⟩
    try simp (disch:=omega) only [go_sem,seval]
    try simp [mh,RoadD.cs]
   have e:x=1:=by omega
   subst e
   subst hc
   rw [gx]
   exact qF (qI 0 2++qI 3 1)
  rw [if_neg (by simp [g2])] at hm
  subst hm
  exact qF (qI 0 2++qI 3 1)
 rw [if_neg (by simp [g1])] at hm
 subst hm
 exact qF (qI 0 2++qI 3 1)
end
section
open Go.RowKit
theorem mi {e:EndD} {r:RoadD} {b:Bool} (hs:Small e):Small (gw e r b).1:=by
 rw [gw];split
 ·rename_i h
  simp only [A9,Bool.and_eq_true,decide_eq_true_eq] at h
  exact⟨hs.own,hs.far,by simp only [List.length_append,List.length_singleton];omega,hs.halfs,hs.list,hs.done,hs.over⟩
 exact hs
theorem rU (e:EndD) (r:RoadD) (b:Bool):(gw e r b).2.length≤1:=by
 rw [gw];split<;>simp
theorem rV {far:List AddrD} {e:EndD} {l:List RoadD} {k:Nat} (h:k < l.length):gY far e (l.drop k)=
  ((gY far (gw e l[k] (bS far l[k].far)).1 (l.drop (k+1))).1,(gw e l[k] (bS far l[k].far)).2++(gY far (gw e l[k] (bS far l[k].far)).1 (l.drop (k+1))).2):=by
 rw [List.drop_eq_getElem_cons h];rfl
theorem uH {far:List AddrD} {e:EndD} {l:List RoadD} {k:Nat} (h:l.length≤k):gY far e (l.drop k)=(e,[]):=by
 rw [List.drop_eq_nil_of_le h];rfl
theorem NI {e:EndD} (h:¬ (aj e=true∧e.side=1)):bs e=(e,[]):=if_neg h
theorem NJ {e:EndD} (h:aj e=true∧e.side=1):bs e=gY e.far e (d8 (wanted e.policy e.own e.far) (eq e.subs)):=if_pos h
theorem jP (a b:List RoadD):(d8 a b).length≤64:=by
 rw [d8];split
 ·rename_i h;exact Nat.le_trans (List.length_filter_le _ _) h.1
 simp
theorem uI {e:EndD} (h:aj e=true):e.policy.wf:=by
 have hp:gd e.policy=true:=by simp only [aj,Bool.and_eq_true] at h;simp_all
 rw [gd] at hp
 split at hp
 ·rename_i hk
  simp only [cr,Bool.and_eq_true,decide_eq_true_eq] at hp
  exact⟨⟨by omega,by omega⟩,⟨by omega,by omega⟩⟩
 simp only [Bool.and_eq_true,Bool.or_eq_true,beq_iff_eq] at hp
 exact⟨⟨by omega,by omega⟩,⟨by omega,by omega⟩⟩
theorem uJ (l:List SubD):(eq l).length≤l.length:=by
 rw [eq,List.length_map];exact List.length_filter_le _ _
theorem oW (e:EndD) (hs:Small e):ae Tryz.prog 149 [.ag (e.cs 0)] (e.hp false) (.tu [.ag ((bs e).1.cs 7),.sc (.sl 14 0 (bs e).2.length)])
  (e.hp false++((bs e).1.hp true++[some ⟨(bs e).2.map LetterD.cs,19,91,true,true⟩])):=by
 have hC:=(qH (aK e))
 have hK:=(qH (bf e))
 have hsub:=hs.subs
 have hsf:=hs.far
 have hso:=hs.own
 have hf:=NI (e:=e)
 have ht:=NJ (e:=e)
 have hH:=x5 e hs.subs
 have hhl:=uJ e.subs
 have hM64:=jP (wanted e.policy e.own e.far) (eq e.subs)
 obtain⟨R,hR⟩:∃ R,R=bs e:=⟨_,rfl⟩
 rw [←hR] at hf ht
 rw [←hR]
 clear hR
 refine aN Tryz.func149 (by kernel_rfl) rfl fun E hE=>ac 400 ?_
 simp (disch:=omega) only [Tryz.ntmps149,Tryz.results149,go_sem,Nat.reduceEqDiff,Nat.reduceAdd,Nat.reduceSub,Int.reduceAdd,Int.reduceSub,Int.reduceToNat]
 refine al (qC) (hC) (qI 0 7) qM (by rfl) (ac 400 ?_)
 simp (disch:=omega) only [go_sem,Nat.reduceEqDiff,Nat.reduceAdd,Nat.reduceSub,Int.reduceAdd,Int.reduceSub,Int.reduceToNat]
 refine al (qC) (hK) (qI 0 7) qM (by rfl) (ac 400 ?_)
 simp (disch:=omega) only [go_sem,Nat.reduceEqDiff,Nat.reduceAdd,Nat.reduceSub,Int.reduceAdd,Int.reduceSub,Int.reduceToNat]
 split<;>rename_i h1<;>(try simp only [beq_true,beq_false,Bool.not_eq_true',Bool.not_eq_false'] at h1)<;>simp (disch:=omega) only [go_sem,Nat.reduceEqDiff,Nat.reduceAdd,Nat.reduceSub,Int.reduceAdd,Int.reduceSub,Int.reduceToNat,h1]<;>(try simp only [decide_eq_true_eq,decide_eq_false_iff_not,beq_iff_eq,beq_eq_false_iff_ne,bne_iff_ne,bne_eq_false_iff_eq,ne_eq,Decidable.not_not,Bool.and_eq_true,Bool.and_eq_false_iff,Bool.or_eq_true,Bool.or_eq_false_iff,Int.ofNat_lt,Int.ofNat_le,Bool.not_eq_eq_eq_not,Bool.not_true,Bool.not_false] at h1)<;>try simp (disch:=omega) only [go_sem,Nat.reduceEqDiff,Nat.reduceAdd,Nat.reduceSub,Int.reduceAdd,Int.reduceSub,Int.reduceToNat]
 ·split<;>rename_i h2<;>(try simp only [beq_true,beq_false,Bool.not_eq_true',Bool.not_eq_false'] at h2)<;>simp (disch:=omega) only [go_sem,Nat.reduceEqDiff,Nat.reduceAdd,Nat.reduceSub,Int.reduceAdd,Int.reduceSub,Int.reduceToNat,h2]<;>(try simp only [decide_eq_true_eq,decide_eq_false_iff_not,beq_iff_eq,beq_eq_false_iff_ne,bne_iff_ne,bne_eq_false_iff_eq,ne_eq,Decidable.not_not,Bool.and_eq_true,Bool.and_eq_false_iff,Bool.or_eq_true,Bool.or_eq_false_iff,Int.ofNat_lt,Int.ofNat_le,Bool.not_eq_eq_eq_not,Bool.not_true,Bool.not_false] at h2)<;>try simp (disch:=omega) only [go_sem,Nat.reduceEqDiff,Nat.reduceAdd,Nat.reduceSub,Int.reduceAdd,Int.reduceSub,Int.reduceToNat]
  rotate_left
  ·have hR:=ht ⟨h1,h2⟩
   have hWa:=tA e.policy e.own e.far (uI h1) (by omega) (by omega)
   have hMi:=qh (wanted e.policy e.own e.far) (eq e.subs) (by have:=rT e.policy e.own e.far;omega) (by omega)
   generalize hMM:d8 (wanted e.policy e.own e.far) (eq e.subs)=M at*
   clear hMM
   refine ar [0,1,2,3,4,5,7,11,6,8,9,10] (by kernel_rfl) (qC) (by kernel_rfl) (aa 400 ?_)
   simp (disch:=omega) only [go_sem,Nat.reduceEqDiff,Nat.reduceAdd,Nat.reduceSub,Int.reduceAdd,Int.reduceSub,Int.reduceToNat]
   refine am (qC) (hWa) (qI 0 2) qM (by rfl) (by rfl) (aa 400 ?_)
   simp (disch:=omega) only [go_sem,Nat.reduceEqDiff,Nat.reduceAdd,Nat.reduceSub,Int.reduceAdd,Int.reduceSub,Int.reduceToNat]
   refine am (qC) (hH) (qI 0 7) qM (by rfl) (by rfl) (aa 400 ?_)
   simp (disch:=omega) only [go_sem,Nat.reduceEqDiff,Nat.reduceAdd,Nat.reduceSub,Int.reduceAdd,Int.reduceSub,Int.reduceToNat]
   refine am (qC) (hMi) (qI 17 2) qM (by rfl) (by rfl) (aa 400 ?_)
   simp (disch:=omega) only [go_sem,Nat.reduceEqDiff,Nat.reduceAdd,Nat.reduceSub,Int.reduceAdd,Int.reduceSub,Int.reduceToNat]
   refine⟨qC,ac 400 ?_⟩
   try simp (disch:=omega) only [go_sem,Nat.reduceEqDiff,Nat.reduceAdd,Nat.reduceSub,Int.reduceAdd,Int.reduceSub,Int.reduceToNat]
   refine cE 7 hE (fun s (y:Nat×EndD×List LetterD)=>s.at (qU [0,1,7,24,34,28]) [(33,.sc (.int .i64 (y.1:Nat))),(31,.sc (.sl 17 0 M.length)),(32,.sc (.int .i64 (M.length:Nat))),(5,.sc (.sl 18 0 y.2.2.length))] ((s.hp.take 9)++(y.2.1.hp true++[some ⟨[y.2.1.cs 9],25,45,true,false⟩,some ⟨M.map RoadD.cs,3,199,true,true⟩,some ⟨y.2.2.map LetterD.cs,19,91,true,true⟩]))) (fun (y:Nat×EndD×List LetterD)=>y.1≤M.length∧Small y.2.1∧y.2.2.length≤y.1∧R=((gY e.far y.2.1 (M.drop y.1)).1,y.2.2++(gY e.far y.2.1 (M.drop y.1)).2)) (fun (y:Nat×EndD×List LetterD)=>M.length - y.1) (0,e,[]) (qI 0 17++qI 19 1++qO 1) (qC) (⟨Nat.zero_le _,hs,Nat.le_refl _,hR⟩) (ab (by rfl) (by rfl) ?_) fun y hy N hN=>?_
   ·try simp (disch:=omega) only [go_sem,Nat.reduceEqDiff,Nat.reduceAdd,Nat.reduceSub,Int.reduceAdd,Int.reduceSub,Int.reduceToNat]
   obtain⟨i,e1,l⟩:=y
   obtain⟨g1,g2,g3,g4⟩:=hy
   dsimp only at g1 g2 g3 g4
   refine ac 400 ?_
   try simp (disch:=omega) only [go_sem,Nat.reduceEqDiff,Nat.reduceAdd,Nat.reduceSub,Int.reduceAdd,Int.reduceSub,Int.reduceToNat]
   split<;>rename_i b<;>(try simp only [beq_true,beq_false,Bool.not_eq_true',Bool.not_eq_false'] at b)<;>simp (disch:=omega) only [go_sem,Nat.reduceEqDiff,Nat.reduceAdd,Nat.reduceSub,Int.reduceAdd,Int.reduceSub,Int.reduceToNat,b]<;>(try simp only [decide_eq_true_eq,decide_eq_false_iff_not,beq_iff_eq,beq_eq_false_iff_ne,bne_iff_ne,bne_eq_false_iff_eq,ne_eq,Decidable.not_not,Bool.and_eq_true,Bool.and_eq_false_iff,Bool.or_eq_true,Bool.or_eq_false_iff,Int.ofNat_lt,Int.ofNat_le,Bool.not_eq_eq_eq_not,Bool.not_true,Bool.not_false] at b)<;>try simp (disch:=omega) only [go_sem,Nat.reduceEqDiff,Nat.reduceAdd,Nat.reduceSub,Int.reduceAdd,Int.reduceSub,Int.reduceToNat]
   ·rw [rV b] at g4
    have hg:=ao (enc:=RoadD.cs) b
    generalize hr:M[i]=r at*
    have hJ:=Bc e1 r (bS e.far r.far) g2
    have hj1:=rU e1 r (bS e.far r.far)
    have hjs:=mi (r:=r) (b:=bS e.far r.far) g2
    obtain⟨pr,hpr⟩:∃ p,p=gw e1 r (bS e.far r.far):=⟨_,rfl⟩
    rw [←hpr] at hJ hj1 hjs g4
    obtain⟨e2,l2⟩:=pr
    dsimp only at hJ hj1 hjs g4
    rw [←List.append_assoc] at g4
    try simp (disch:=omega) only [go_sem,Nat.reduceEqDiff,Nat.reduceAdd,Nat.reduceSub,Int.reduceAdd,Int.reduceSub,Int.reduceToNat,hg,hr]
    refine al (qC) (rR e r.far hsf) (qI 0 7) qM (by rfl) (ac 400 ?_)
    simp (disch:=omega) only [go_sem,Nat.reduceEqDiff,Nat.reduceAdd,Nat.reduceSub,Int.reduceAdd,Int.reduceSub,Int.reduceToNat]
    rcases kI e.far r.far with⟨q1,q2,q3⟩|⟨j,hj,q1,q2,q3⟩
    ·rw [q3] at hJ
     try simp (disch:=omega) only [go_sem,Nat.reduceEqDiff,Nat.reduceAdd,Nat.reduceSub,Int.reduceAdd,Int.reduceSub,Int.reduceToNat,q1]
     refine aI [(12,16)] [] [(qU [0,19]),(qU [0,12,16,1,12,4,17,2])] 7 hE (fun s=>s.at (qU [41,16]) [(9,.sc (.pt 28 0 0)),(10,.sc (.sl 27 0 l2.length))] (s.hp++(e2.hp true++[some ⟨l2.map LetterD.cs,19,91,true,true⟩,some ⟨[e2.cs 20],25,45,true,false⟩]))) (by kernel_rfl) (qC) (by kernel_rfl) ?_ (ac 400 ?_)
     rotate_left
     rotate_right
     simp only [aQ]
     refine⟨aa 400 ?_,aa 400 ?_⟩
     ·simp (disch:=omega) only [go_sem,q1]
      refine am (qC) (hJ) (qI 9 7) qM (by rfl) (by rfl) (aa 400 ?_)
      simp (disch:=omega) only [go_sem,Nat.reduceEqDiff,Nat.reduceAdd,Nat.reduceSub,Int.reduceAdd,Int.reduceSub,Int.reduceToNat]
      refine⟨qC,(qI 0 29),ab (by rfl) (by rfl) ?_⟩
      try simp (disch:=omega) only [go_sem,Nat.reduceEqDiff,Nat.reduceAdd,Nat.reduceSub,Int.reduceAdd,Int.reduceSub,Int.reduceToNat]
     ·simp (disch:=omega) only [go_sem,q1]
      refine am (qC) (hJ) (qI 9 7) qM (by rfl) (by rfl) (aa 400 ?_)
      simp (disch:=omega) only [go_sem,Nat.reduceEqDiff,Nat.reduceAdd,Nat.reduceSub,Int.reduceAdd,Int.reduceSub,Int.reduceToNat]
      refine⟨qC,(qI 0 20++qI 21 8++qI 20 1),ab (by rfl) (by rfl) ?_⟩
      try simp (disch:=omega) only [go_sem,Nat.reduceEqDiff,Nat.reduceAdd,Nat.reduceSub,Int.reduceAdd,Int.reduceSub,Int.reduceToNat]
     try simp (disch:=omega) only [go_sem,Nat.reduceEqDiff,Nat.reduceAdd,Nat.reduceSub,Int.reduceAdd,Int.reduceSub,Int.reduceToNat]
     refine⟨qC,hN _ (i+1,e2,l++l2) (qI 0 9++qI 20 7++qI 16 2++qI 29 1) (by (try dsimp only);exact⟨by omega,hjs,by simp only [List.length_append];omega,g4⟩) (by (try dsimp only);omega) (ab (by rfl) (by rfl) ?_)⟩
     try simp (disch:=omega) only [go_sem,Nat.reduceEqDiff,Nat.reduceAdd,Nat.reduceSub,Int.reduceAdd,Int.reduceSub,Int.reduceToNat]
     try simp
    rw [q3] at hJ
    have hgf:=ao (enc:=AddrD.cs) hj
    try simp (disch:=omega) only [go_sem,Nat.reduceEqDiff,Nat.reduceAdd,Nat.reduceSub,Int.reduceAdd,Int.reduceSub,Int.reduceToNat,q1]
    refine aI [(12,16)] [] [(qU [0,19]),(qU [0,12,16,1,12,4,17,2])] 7 hE (fun s=>s.at (qU [41,16]) [(9,.sc (.pt 28 0 0)),(10,.sc (.sl 27 0 l2.length))] (s.hp++(e2.hp true++[some ⟨l2.map LetterD.cs,19,91,true,true⟩,some ⟨[e2.cs 20],25,45,true,false⟩]))) (by kernel_rfl) (qC) (by kernel_rfl) ?_ (ac 400 ?_)
    rotate_left
    rotate_right
    simp only [aQ]
    refine⟨aa 400 ?_,aa 400 ?_⟩
    ·simp (disch:=omega) only [go_sem,q1,hgf]
     refine am (qC) (hJ) (qI 9 7) qM (by rfl) (by rfl) (aa 400 ?_)
     simp (disch:=omega) only [go_sem,Nat.reduceEqDiff,Nat.reduceAdd,Nat.reduceSub,Int.reduceAdd,Int.reduceSub,Int.reduceToNat]
     refine⟨qC,(qI 0 29),ab (by rfl) (by rfl) ?_⟩
     try simp (disch:=omega) only [go_sem,Nat.reduceEqDiff,Nat.reduceAdd,Nat.reduceSub,Int.reduceAdd,Int.reduceSub,Int.reduceToNat]
    ·simp (disch:=omega) only [go_sem,q1,hgf]
     refine am (qC) (hJ) (qI 9 7) qM (by rfl) (by rfl) (aa 400 ?_)
     simp (disch:=omega) only [go_sem,Nat.reduceEqDiff,Nat.reduceAdd,Nat.reduceSub,Int.reduceAdd,Int.reduceSub,Int.reduceToNat]
     refine⟨qC,(qI 0 20++qI 21 8++qI 20 1),ab (by rfl) (by rfl) ?_⟩
     try simp (disch:=omega) only [go_sem,Nat.reduceEqDiff,Nat.reduceAdd,Nat.reduceSub,Int.reduceAdd,Int.reduceSub,Int.reduceToNat]
    try simp (disch:=omega) only [go_sem,Nat.reduceEqDiff,Nat.reduceAdd,Nat.reduceSub,Int.reduceAdd,Int.reduceSub,Int.reduceToNat]
    refine⟨qC,hN _ (i+1,e2,l++l2) (qI 0 9++qI 20 7++qI 16 2++qI 29 1) (by (try dsimp only);exact⟨by omega,hjs,by simp only [List.length_append];omega,g4⟩) (by (try dsimp only);omega) (ab (by rfl) (by rfl) ?_)⟩
    try simp (disch:=omega) only [go_sem,Nat.reduceEqDiff,Nat.reduceAdd,Nat.reduceSub,Int.reduceAdd,Int.reduceSub,Int.reduceToNat]
    try simp
   rw [uH (by omega),List.append_nil] at g4
   subst g4
   try simp (disch:=omega) only [go_sem,Nat.reduceEqDiff,Nat.reduceAdd,Nat.reduceSub,Int.reduceAdd,Int.reduceSub,Int.reduceToNat]
   refine aA (qI 0 7++qI 9 7++qI 18 1) (qC) _ (by simp only [go_sem];rfl) (by rfl) (by rfl) ?_
   simp (disch:=omega) only [go_sem,Nat.reduceEqDiff,Nat.reduceAdd,Nat.reduceSub,Int.reduceAdd,Int.reduceSub,Int.reduceToNat]
  rw [hf (fun h=>h2 h.2)]
  try simp (disch:=omega) only [go_sem,Nat.reduceEqDiff,Nat.reduceAdd,Nat.reduceSub,Int.reduceAdd,Int.reduceSub,Int.reduceToNat]
  refine aA (qI 0 7++qI 9 7++qO 1) (qC) _ (by simp only [go_sem];rfl) (by rfl) (by rfl) ?_
  simp (disch:=omega) only [go_sem,Nat.reduceEqDiff,Nat.reduceAdd,Nat.reduceSub,Int.reduceAdd,Int.reduceSub,Int.reduceToNat]
 rw [hf (fun h=>by rw [h1] at h;cases h.1)]
 try simp (disch:=omega) only [go_sem,Nat.reduceEqDiff,Nat.reduceAdd,Nat.reduceSub,Int.reduceAdd,Int.reduceSub,Int.reduceToNat]
 refine aA (qI 0 7++qI 9 7++qO 1) (qC) _ (by simp only [go_sem];rfl) (by rfl) (by rfl) ?_
 simp (disch:=omega) only [go_sem,Nat.reduceEqDiff,Nat.reduceAdd,Nat.reduceSub,Int.reduceAdd,Int.reduceSub,Int.reduceToNat]
theorem oX (e:EndD) (hs:Small e):ae Tryz.prog 119 [.ag (e.cs 0)] (e.hp false) (.tu [.ag ((bs e).1.cs 7),.sc (.sl 14 0 (bs e).2.length)])
  (e.hp false++((bs e).1.hp true++[some ⟨(bs e).2.map LetterD.cs,19,91,true,true⟩])):=by
 have hC:=(qH (aD e))
 have hK:=(qH (be e))
 have hsub:=hs.subs
 have hsf:=hs.far
 have hso:=hs.own
 have hf:=NI (e:=e)
 have ht:=NJ (e:=e)
 have hH:=x6 e hs.subs
 have hhl:=uJ e.subs
 have hM64:=jP (wanted e.policy e.own e.far) (eq e.subs)
 obtain⟨R,hR⟩:∃ R,R=bs e:=⟨_,rfl⟩
 rw [←hR] at hf ht
 rw [←hR]
 clear hR
 refine ga Tryz.func119 Tryz.ntmps119 Tryz.results119 fun E hE=>?_
 refine qK (hC) (qI 0 7) ?_
 refine qK (hK) (qI 0 7) ?_
 refine qB (fun h1=>?_) fun h1=>?_
 ·refine qB (fun h2=>?_) fun h2=>?_
  rotate_left
  ·have hR:=ht ⟨h1,h2⟩
   have hWa:=tB e.policy e.own e.far (uI h1) (by omega) (by omega)
   have hMi:=qi (wanted e.policy e.own e.far) (eq e.subs) (by have:=rT e.policy e.own e.far;omega) (by omega)
   generalize hMM:d8 (wanted e.policy e.own e.far) (eq e.subs)=M at*
   clear hMM
   refine qD [0,1,2,3,4,5,7,6,8,9,10] ?_
   refine az (hWa) (qI 0 2) ?_
   refine az (hH) (qI 0 7) ?_
   refine az (hMi) (qI 18 2) ?_
   refine qG ?_
   refine cE 7 hE (fun s (y:Nat×EndD×List LetterD)=>s.at (qU [0,1,8,71]) [(7,.sc (.int .i64 (y.1:Nat))),(6,.sc (.sl 17 0 M.length)),(5,.sc (.sl 18 0 y.2.2.length))] ((s.hp.take 9)++(y.2.1.hp true++[some ⟨[y.2.1.cs 9],25,45,true,false⟩,some ⟨M.map RoadD.cs,3,199,true,true⟩,some ⟨y.2.2.map LetterD.cs,19,91,true,true⟩]))) (fun (y:Nat×EndD×List LetterD)=>y.1≤M.length∧Small y.2.1∧y.2.2.length≤y.1∧R=((gY e.far y.2.1 (M.drop y.1)).1,y.2.2++(gY e.far y.2.1 (M.drop y.1)).2)) (fun (y:Nat×EndD×List LetterD)=>M.length - y.1) (0,e,[]) (qI 0 17++qI 20 1++qI 17 1) (qC) (⟨Nat.zero_le _,hs,Nat.le_refl _,hR⟩) (ab (by rfl) (by rfl) ?_) fun y hy N hN=>?_
   ·exact qY
   obtain⟨i,e1,l⟩:=y
   obtain⟨g1,g2,g3,g4⟩:=hy
   dsimp only at g1 g2 g3 g4
   refine qR ?_
   refine qB (fun b=>?_) fun b=>?_
   ·rw [rV b] at g4
    have hg:=ao (enc:=RoadD.cs) b
    generalize hr:M[i]=r at*
    have hJ:=Bd e1 r (bS e.far r.far) g2
    have hj1:=rU e1 r (bS e.far r.far)
    have hjs:=mi (r:=r) (b:=bS e.far r.far) g2
    obtain⟨pr,hpr⟩:∃ p,p=gw e1 r (bS e.far r.far):=⟨_,rfl⟩
    rw [←hpr] at hJ hj1 hjs g4
    obtain⟨e2,l2⟩:=pr
    dsimp only at hJ hj1 hjs g4
    rw [←List.append_assoc] at g4
    try simp (disch:=omega) only [go_sem,seval,hg,hr]
    refine cE 7 hE (fun s (z:Nat×Bool)=>s.at (qU [0,1,11,26,38,41]) [(9,.sc (.int .i64 (z.1:Nat))),(8,.sc (.bo z.2))] (s.hp)) (fun (z:Nat×Bool)=>z.1≤e.far.length∧z.2=bS (e.far.take z.1) r.far) (fun (z:Nat×Bool)=>e.far.length - z.1) (0,false) (qI 0 19) (qC) (⟨Nat.zero_le _,rfl⟩) (ab (by rfl) (by rfl) ?_) fun z hz N2 hN2=>?_
    ·exact qY
    obtain⟨k,sb⟩:=z
    obtain⟨f1,f2⟩:=hz
    dsimp only at f1 f2
    refine qR ?_
    refine qB (fun c1=>?_) fun c1=>?_
    ·have hgf:=ao (enc:=AddrD.cs) c1
     have hsn:=nh (n:=r.far) c1
     rw [←f2] at hsn
     refine qD [0,1,2,3,4,5,6,7,8,9,10,11] ?_
     try simp (disch:=omega) only [go_sem,seval,hgf,hg,hr]
     refine qG ?_
     refine qB (fun c2=>?_) fun c2=>?_
     ·rw [if_pos c2] at hsn
      try simp (disch:=omega) only [go_sem,seval,hgf]
      exact UH hN2 (k+1,e.far[k].spare) (qI 0 19) (by (try dsimp only);exact⟨by omega,hsn.symm⟩)
     rw [if_neg c2] at hsn
     refine qX ?_
     exact UH hN2 (k+1,sb) (qI 0 19) (by (try dsimp only);exact⟨by omega,hsn.symm⟩)
    have e3:k=e.far.length:=by omega
    subst e3
    rw [List.take_length] at f2
    subst f2
    refine qX ?_
    refine qD [0,1,2,3,4,5,6,7,8,9,10,11] ?_
    try simp (disch:=omega) only [go_sem,seval,hg,hr]
    refine az (hJ) (qI 9 7) ?_
    refine qG ?_
    refine⟨qC,hN _ (i+1,e2,l++l2) (qI 0 9++qI 20 7++qI 16 2++qI 28 1) (by (try dsimp only);exact⟨by omega,hjs,by simp only [List.length_append];omega,g4⟩) (by (try dsimp only);omega) (ab (by rfl) (by rfl) ?_)⟩
    try simp (disch:=omega) only [go_sem,seval]
    try simp
   rw [uH (by omega),List.append_nil] at g4
   subst g4
   refine qX ?_
   exact cc (qI 0 7++qI 9 7++qI 18 1)
  rw [hf (fun h=>h2 h.2)]
  refine qX ?_
  exact cc (qI 0 7++qI 9 7++qI 17 1)
 rw [hf (fun h=>by rw [h1] at h;cases h.1)]
 refine qX ?_
 exact cc (qI 0 7++qI 9 7++qI 17 1)
end
section
open Go.RowKit
theorem jQ {l:List AddrD} (h:cw l=true):∀ (d i:Nat) (hj:i+d+1 < l.length),l[i].id < l[i+d+1].id
 |0,i,hj=>by
  simp only [cw,Bool.and_eq_true] at h
  have:=mY h.2 (show i+1 < l.length by omega)
  simp only [fO,Bool.and_eq_true,Bool.or_eq_true,beq_iff_eq,decide_eq_true_eq,Nat.add_sub_cancel] at this
  have h1:=this.1.2
  rw [Ni,Ni,List.getD_eq_getElem?_getD,List.getD_eq_getElem?_getD,List.getElem?_eq_getElem (show i < l.length by omega),List.getElem?_eq_getElem (show i+1 < l.length by omega)] at h1
  simp only [Option.getD_some] at h1
  simp only [Nat.add_zero]
  omega
 |d+1,i,hj=>by
  have h1:=jQ h 0 i (by omega)
  have h2:=jQ h d (i+1) (by omega)
  simp only [Nat.add_zero] at h1
  have e:i+1+d+1=i+(d+1)+1:=by omega
  simp only [e] at h2
  omega
theorem yb {l:List AddrD} (h:cw l=true) {i j:Nat} (hi:i < l.length) (hj:j < l.length) (he:l[i].id=l[j].id):i=j:=by
 rcases Nat.lt_trichotomy i j with hl|hl|hl
 ·have:=jQ h (j - i - 1) i (by omega)
  have e:i+(j - i - 1)+1=j:=by omega
  simp only [e] at this
  omega
 ·exact hl
 have:=jQ h (i - j - 1) j (by omega)
 have e:j+(i - j - 1)+1=i:=by omega
 simp only [e] at this
 omega
theorem zj {l:List AddrD} (h:cw l=true) {a:AddrD} (ha:a∈l):∃ j:Nat,∃ hj:j < l.length,bv l a.id=(j:Int)∧l[j]=a:=by
 obtain⟨i,hi,rfl⟩:=List.getElem_of_mem ha
 rcases mH (p:=fun b:AddrD=>b.id == l[i].id) (l:=l) with h1|⟨h1,h2⟩
 ·exfalso
  have hx:∀ (m:List AddrD) (k:Nat) (b:AddrD),b∈m→(b.id == l[i].id)=true→dX (fun b:AddrD=>b.id == l[i].id) k m≠ -1:=by
   intro m
   induction m with
   |nil=>intro k b hb;cases hb
   |cons c m ih=>
    intro k b hb hp
    rw [dX]
    split
    ·omega
    rename_i hc
    rcases List.mem_cons.1 hb with rfl|hb
    ·exact absurd hp hc
    exact ih (k+1) b hb hp
  exact hx l 0 l[i] ha (by simp) h1
 obtain⟨n,hn⟩:=Int.eq_ofNat_of_zero_le h1
 obtain⟨hl,hp⟩:=qw hn
 have hid:l[n].id=l[i].id:=by simpa using hp
 obtain rfl:=yb h hl hi hid
 exact⟨n,hi,hn,rfl⟩
def kJ (l:List AddrD):List AddrD:=l.filter fun a=> !a.told
theorem YR {e:EndD} (h:EY e=false):cI e=[]:=if_neg (by simp [h])
theorem YS {e:EndD} {k:Nat} (h:EY e=true) (hk:(gz e.subs).headD 0=k) (hl:k < e.subs.length):cI e=(kJ e.own).map (uB e e.subs[k]):=by rw [cI,if_pos h,hk,bR hl];rfl
theorem uK {l:List Nat} (h:0 < l.length):l.headD 0=l[0]:=by cases l with|nil=>simp at h|cons a r=>rfl
theorem tC (l:List AddrD) (hl:l.length≤1048576):ae Tryz.prog 279 [.sc (.sl 0 0 l.length)] [some ⟨l.map AddrD.cs,4,88,false,true⟩] (.sc (.sl 1 0 (kJ l).length)) [some ⟨l.map AddrD.cs,4,88,false,true⟩,some ⟨((kJ l).map AddrD.id).map aC,1,3,true,true⟩]:=by
 obtain⟨R,hR⟩:∃ R,R=kJ l:=⟨_,rfl⟩
 rw [←hR]
 rw [kJ] at hR
 refine qE Tryz.func279 Tryz.ntmps279 Tryz.results279 fun E hE=>?_
 refine an 1 hE (fun s (x:Nat×List AddrD)=>s.at (qU [5,21]) [(4,.sc (.int .i64 (x.1:Nat))),(3,.sc (.sl 1 0 x.2.length))] ((s.hp.take 1)++[some ⟨(x.2.map AddrD.id).map aC,1,3,true,true⟩])) (fun (x:Nat×List AddrD)=>x.1≤l.length∧x.2.length≤x.1∧R=x.2++(l.drop x.1).filter (fun a=> !a.told)) (fun (x:Nat×List AddrD)=>l.length - x.1) (0,[]) (qI 0 2) (qC) (⟨Nat.zero_le _,Nat.zero_le _,hR⟩) (af (by rfl) (by rfl) ?_) fun x hx N hN=>?_
 ·exact qY
 obtain⟨k,acc⟩:=x
 obtain⟨h1,h2,h3⟩:=hx
 dsimp only at h1 h2 h3
 refine qR ?_
 refine qB (fun h=>?_) fun h=>?_
 ·rw [im h] at h3
  have hg:=ao (enc:=AddrD.cs) h
  try simp (disch:=omega) only [go_sem,seval,hg]
  cases ht:l[k].told with
  |true=>
   rw [if_neg (by simp [ht])] at h3
   try simp (disch:=omega) only [go_sem,seval,ht]
   exact qN hN (k+1,acc) (qI 0 2) (by (try dsimp only);exact⟨by omega,by omega,h3⟩)
  |false=>
   rw [if_pos (by simp [ht])] at h3
   try simp (disch:=omega) only [go_sem,seval,ht,hg]
   refine⟨qC,hN _ (k+1,acc++[l[k]]) (qI 0 1++qI 3 1) (by (try dsimp only);exact⟨by omega,by simp;omega,by simpa using h3⟩) (by (try dsimp only);omega) (af (by rfl) (by rfl) ?_)⟩
   refine qX ?_
   simp [aC]
 rw [jn (by omega),List.append_nil] at h3
 subst h3
 exact qF (qI 0 2)
theorem yc {e:EndD} (h:aj e=true):cw e.own=true:=by
 simp only [aj,Bool.and_eq_true] at h
 simp_all
theorem rW (e:EndD) (hs:Small e):ae Tryz.prog 296 [.ag (e.cs 0)] (e.hp false) (.sc (.sl 7 0 (cI e).length)) (e.hp false++[some ⟨(cI e).map LetterD.cs,19,91,true,true⟩]):=by
 have hN:=nL e (by have:=hs.subs;omega)
 have hK:=(qH (bf e))
 have hown:=hs.own
 have hf:=YR (e:=e)
 have ht:= @YS e
 have hok:EY e=(aj e && decide (e.state=2) && !decide ((gz e.subs).length=0)):=rfl
 obtain⟨R,hR⟩:∃ R,R=cI e:=⟨_,rfl⟩
 rw [←hR] at hf ht
 rw [←hR]
 clear hR
 refine ga Tryz.func296 Tryz.ntmps296 Tryz.results296 fun E hE=>?_
 refine qK (hN) (qI 0 7) ?_
 refine qK (hK) (qI 0 7) ?_
 refine qB (fun h1=>?_) fun h1=>?_
 ·refine qB (fun h2=>?_) fun h2=>?_
  ·by_cases h3:(gz e.subs).length=0
   ·rw [hf (by rw [hok];simp [h3])]
    try simp (disch:=omega) only [go_sem,seval,h3]
    exact cc (qI 0 7++qO 1)
   have hpos:0 < (gz e.subs).length:=by omega
   have hk:=nH hpos
   have hR:=ht (by rw [hok];simp [h1,h2,h3]) (uK hpos) hk
   have hgo:=ao (enc:=iK) hpos
   generalize hk0:(gz e.subs)[0]=k0 at*
   have hgs:=ao (enc:=SubD.cs) hk
   generalize hss:e.subs[k0]=s0 at*
   refine qX ?_
   refine qD [0,1,2,3,4,5,6,7,8] ?_
   try simp (disch:=omega) only [go_sem,seval,hgo,hk0,iK,hgs,hss]
   refine qG ?_
   refine cE 7 hE (fun s (y:Nat×List LetterD)=>s.at (qU [0,1,3,1,7,24,34,31]) [(33,.sc (.int .i64 (y.1:Nat))),(5,.sc (.sl 10 0 y.2.length))] ((s.hp.take 10)++[some ⟨y.2.map LetterD.cs,19,91,true,true⟩])) (fun (y:Nat×List LetterD)=>y.1≤e.own.length∧y.2.length≤y.1∧R=y.2++((e.own.drop y.1).filter (fun a=> !a.told)).map (uB e s0)) (fun (y:Nat×List LetterD)=>e.own.length - y.1) (0,[]) (qI 0 10++qO 1) (qC) (⟨Nat.zero_le _,Nat.zero_le _,hR⟩) (ab (by rfl) (by rfl) ?_) fun y hy N hN=>?_
   ·exact qY
   obtain⟨i,l⟩:=y
   obtain⟨g1,g2,g3⟩:=hy
   dsimp only at g1 g2 g3
   refine qR ?_
   refine qB (fun b=>?_) fun b=>?_
   ·rw [im b] at g3
    have hg:=ao (enc:=AddrD.cs) b
    generalize hae:e.own[i]=a at*
    try simp (disch:=omega) only [go_sem,seval,hg,hae]
    cases htd:a.told with
    |true=>
     rw [if_neg (by simp [htd])] at g3
     try simp (disch:=omega) only [go_sem,seval,htd]
     exact UH hN (i+1,l) (qI 0 11) (by (try dsimp only);exact⟨by omega,by omega,g3⟩)
    |false=>
     rw [if_pos (by simp [htd]),List.map_cons] at g3
     try simp (disch:=omega) only [go_sem,seval,htd]
     refine qD [0,1,2,3,4,5,6,7,8,9,10,11,12,13,14,15,16,17,18,19,20,21,22,23,24] ?_
     refine az (mP e.key e.peer a.id a.addr) [] ?_
     refine az (bg s0.road { aw with kind:=8,tag:=⟨3,e.key,e.peer,a.id,a.addr⟩,sgn:=s0.give,id:=a.id,addr:=a.addr,spare:=a.spare }) [] ?_
     refine qG ?_
     refine⟨qC,hN _ (i+1,l++[uB e s0 a]) (qI 0 10++qI 13 1) (by (try dsimp only);exact⟨by omega,by simp;omega,by simpa using g3⟩) (by (try dsimp only);omega) (ab (by rfl) (by rfl) ?_)⟩
     refine qX ?_
     rw [List.map_append]
     rfl
   rw [jn (by omega),List.map_nil,List.append_nil] at g3
   subst g3
   refine qX ?_
   exact cc (qI 0 7++qI 10 1)
  rw [hf (by rw [hok];simp [h2])]
  refine qX ?_
  exact cc (qI 0 7++qO 1)
 rw [hf (by rw [hok];simp [h1])]
 refine qX ?_
 exact cc (qI 0 7++qO 1)
theorem rX (e:EndD) (hs:Small e):ae Tryz.prog 208 [.ag (e.cs 0)] (e.hp false) (.sc (.sl 7 0 (cI e).length)) (e.hp false++[some ⟨(cI e).map LetterD.cs,19,91,true,true⟩]):=by
 have hN:=nM e (by have:=hs.subs;omega)
 have hK:=(qH (be e))
 have hown:=hs.own
 have hf:=YR (e:=e)
 have ht:= @YS e
 have hok:EY e=(aj e && decide (e.state=2) && !decide ((gz e.subs).length=0)):=rfl
 obtain⟨R,hR⟩:∃ R,R=cI e:=⟨_,rfl⟩
 rw [←hR] at hf ht
 rw [←hR]
 clear hR
 refine ga Tryz.func208 Tryz.ntmps208 Tryz.results208 fun E hE=>?_
 refine qK (hN) (qI 0 7) ?_
 refine qK (hK) (qI 0 7) ?_
 refine qB (fun h1=>?_) fun h1=>?_
 ·refine qB (fun h2=>?_) fun h2=>?_
  ·by_cases h3:(gz e.subs).length=0
   ·rw [hf (by rw [hok];simp [h3])]
    try simp (disch:=omega) only [go_sem,seval,h3]
    exact cc (qI 0 7++qI 8 1)
   have hpos:0 < (gz e.subs).length:=by omega
   have hk:=nH hpos
   have hR:=ht (by rw [hok];simp [h1,h2,h3]) (uK hpos) hk
   have hgo:=ao (enc:=iK) hpos
   generalize hk0:(gz e.subs)[0]=k0 at*
   have hgs:=ao (enc:=SubD.cs) hk
   generalize hss:e.subs[k0]=s0 at*
   refine qX ?_
   refine qD [0,1,2,3,4,5,6,7,8] ?_
   try simp (disch:=omega) only [go_sem,seval,hgo,hk0,iK,hgs,hss]
   refine qG ?_
   have hU:=tC e.own hown
   have hul:(kJ e.own).length≤e.own.length:=List.length_filter_le _ _
   have hmem:∀ a∈kJ e.own,a∈e.own:=fun a ha=>(List.mem_filter.1 ha).1
   generalize kJ e.own=U at*
   refine qK (hU) (qI 0 1) ?_
   refine cE 7 hE (fun s (y:Nat×List LetterD)=>s.at (qU [0,1,4,1,8,69]) [(7,.sc (.int .i64 (y.1:Nat))),(5,.sc (.pt 9 0 0)),(6,.sc (.sl 10 0 U.length)),(3,.sc (.sl 11 0 y.2.length))] ((s.hp.take 8)++(((s.hp.drop 9).take 3)++[some ⟨y.2.map LetterD.cs,19,91,true,true⟩]))) (fun (y:Nat×List LetterD)=>y.1≤U.length∧y.2.length≤y.1∧R=y.2++(U.drop y.1).map (uB e s0)) (fun (y:Nat×List LetterD)=>U.length - y.1) (0,[]) (qI 0 8++qI 9 3++qI 8 1) (qC) (⟨Nat.zero_le _,Nat.zero_le _,hR⟩) (ab (by rfl) (by rfl) ?_) fun y hy N hN=>?_
   ·exact qY
   obtain⟨i,l⟩:=y
   obtain⟨g1,g2,g3⟩:=hy
   dsimp only at g1 g2 g3
   refine qR ?_
   refine qB (fun b=>?_) fun b=>?_
   ·rw [List.drop_eq_getElem_cons b,List.map_cons] at g3
    have hbl:i < (U.map AddrD.id).length:=by simpa using b
    have hg:=ao (enc:=aC) hbl
    rw [List.getElem_map] at hg
    obtain⟨j,hj,hat,hja⟩:=zj (yc h1) (hmem U[i] (List.getElem_mem b))
    have hA:=dh e.own U[i].id hown
    rw [hat] at hA
    have hgj:=ao (enc:=AddrD.cs) hj
    rw [hja] at hgj
    generalize hae:U[i]=a at*
    simp only [aC] at hg
    have hel:e.own[j]=a:=hja
    refine qX ?_
    refine aI [(8,11),(11,9),(11,10)] [(8,9),(9,10)] [(qU [0,9,11,1,9,2,12,1]),(qU [0,10,11,1,10,1,12,1]),(qU [0,13]),(qU [0,8,11,1,8,3,12,1])] 7 hE (fun s=>s.at (qU [42,11]) [(8,.sc (.pt 12 0 0))] (s.hp++[some ⟨[a.cs],4,88,true,false⟩])) (by kernel_rfl) (qC) (by kernel_rfl) ?_ (ac 400 ?_)
    rotate_left
    rotate_right
    simp only [aQ]
    refine⟨aa 400 ?_,aa 400 ?_,aa 400 ?_,aa 400 ?_⟩
    ·simp (disch:=omega) only [go_sem,hg,hae]
     refine az (hA) (qI 0 1) ?_
     simp (disch:=omega) only [go_sem,hgj,hel]
     refine⟨by (try simp (disch:=omega) only [go_sem,List.length_set,seval,hgj,hel])<;>omega,(qI 0 13),ab (by rfl) (by rfl) ?_⟩
     try simp (disch:=omega) only [go_sem,seval]
    ·simp (disch:=omega) only [go_sem,hg,hae]
     refine az (hA) (qI 0 1) ?_
     simp (disch:=omega) only [go_sem,hgj,hel]
     refine⟨by (try simp (disch:=omega) only [go_sem,List.length_set,seval,hgj,hel])<;>omega,(qI 0 13),ab (by rfl) (by rfl) ?_⟩
     try simp (disch:=omega) only [go_sem,seval]
    ·simp (disch:=omega) only [go_sem,hg,hae]
     refine az (hA) (qI 0 1) ?_
     simp (disch:=omega) only [go_sem,hgj,hel]
     refine⟨by (try simp (disch:=omega) only [go_sem,List.length_set,seval,hgj,hel])<;>omega,(qI 0 13),ab (by rfl) (by rfl) ?_⟩
     try simp (disch:=omega) only [go_sem,seval]
    ·simp (disch:=omega) only [go_sem,hg,hae]
     refine az (hA) (qI 0 1) ?_
     simp (disch:=omega) only [go_sem,hgj,hel]
     refine⟨by (try simp (disch:=omega) only [go_sem,List.length_set,seval,hgj,hel])<;>omega,(qI 0 13),ab (by rfl) (by rfl) ?_⟩
     try simp (disch:=omega) only [go_sem,seval]
    refine qX ?_
    refine qD [0,1,2,3,4,5,6,7,8,9,10,11,12,13,14,15,16,17,18,19,20,21,22,23,24] ?_
    refine az (mQ e.key e.peer a.id a.addr) [] ?_
    refine az (aX s0.road { aw with kind:=8,tag:=⟨3,e.key,e.peer,a.id,a.addr⟩,sgn:=s0.give,id:=a.id,addr:=a.addr,spare:=a.spare }) [] ?_
    refine qG ?_
    refine⟨qC,hN _ (i+1,l++[uB e s0 a]) (qI 0 11++qI 14 1) (by (try dsimp only);exact⟨by omega,by simp;omega,by simpa using g3⟩) (by (try dsimp only);omega) (ab (by rfl) (by rfl) ?_)⟩
    refine qX ?_
    rw [List.map_append]
    rfl
   rw [List.drop_eq_nil_of_le (by omega),List.map_nil,List.append_nil] at g3
   subst g3
   refine qX ?_
   exact cc (qI 0 7++qI 11 1)
  rw [hf (by rw [hok];simp [h2])]
  refine qX ?_
  exact cc (qI 0 7++qI 8 1)
 rw [hf (by rw [hok];simp [h1])]
 refine qX ?_
 exact cc (qI 0 7++qI 8 1)
end
section
open Go.RowKit
def cy {α:Type} (f:α→α) (l:List α) (k:Nat):List α:=(l.take k).map f++l.drop k
theorem kW {α:Type} {f:α→α} {l:List α} {k:Nat}:(cy f l k).length=l.length:=by simp [cy];omega
theorem E1 {α:Type} {f:α→α} {l:List α} {k:Nat} (h:k < l.length):(cy f l k)[k]? =some l[k]:=by
 have h1:((l.take k).map f).length=k:=by simp;omega
 rw [cy,List.getElem?_append_right (by omega),List.drop_eq_getElem_cons h,h1]
 simp
theorem kX {α:Type} {f:α→α} {l:List α} {k:Nat} (h:k < l.length):∀ p:k < (cy f l k).length,(cy f l k)[k]'p=l[k]:=by
 intro p
 have hq:=E1 (f:=f) h
 rw [List.getElem?_eq_getElem p] at hq
 exact Option.some.inj hq
theorem kY {α:Type} {f:α→α} {l:List α} {k:Nat} (h:k < l.length):(cy f l k).set k (f l[k])=cy f l (k+1):=by
 have h1:((l.take k).map f).length=k:=by simp;omega
 rw [cy,cy,List.set_append_right _ _ (by omega),List.take_succ_eq_append_getElem h,List.map_append,h1]
 simp
 rw [List.drop_eq_getElem_cons h]
 rfl
theorem jR {α:Type} {f:α→α} {l:List α} {k:Nat} (h:k < l.length) (hs:f l[k]=l[k]):cy f l (k+1)=cy f l k:=by
 rw [cy,cy,List.take_succ_eq_append_getElem h,List.map_append,List.drop_eq_getElem_cons h]
 simp [hs]
theorem jS {α:Type} {f:α→α} {l:List α}:cy f l 0=l:=by simp [cy]
theorem kZ {α:Type} {f:α→α} {l:List α}:cy f l l.length=l.map f:=by simp [cy]
theorem YT {e:EndD} {n:Int} (h:A8 e n=false):bb e n=(e,[]):=if_neg (by simp [h])
theorem YU {e:EndD} {n:Int} {i:Nat} (h:A8 e n=true) (hi:bv e.own n=(i:Int)) (hl:i < e.own.length):
  bb e n=({ e with own:=(bz e.own n).1,done:=iL e.done n,subs:=e.subs.map (eZ e.own[i].addr) },(gz (e.subs.map (eZ e.own[i].addr))).map fun k=>uC n (bq (e.subs.map (eZ e.own[i].addr)) k)):=by
 rw [bb,if_pos h,gO,hi,Int.toNat_natCast,iz hl]
theorem rY {e:EndD} (h:aj e=true):e.done.length≤256:=(nU h).1
theorem nk (e:EndD) (n:Int) (hs:Small e):ae Tryz.prog 152 [.ag (e.cs 0),.sc (.int .i64 n)] (e.hp false) (.tu [.ag ((bb e n).1.cs 7),.sc (.sl 14 0 (bb e n).2.length)])
  (e.hp false++((bb e n).1.hp true++[some ⟨(bb e n).2.map LetterD.cs,19,91,true,true⟩])):=by
 have hC:=(qH (aK e))
 have hK:=(qH (bf e))
 have hA:=d4 e.own n (by have:=hs.own;omega)
 have hD:=lE e.own n (by have:=hs.own;omega)
 have hsb:=hs.subs
 have hso:=hs.own
 have hbd:=dv e.own n
 have hf:=YT (e:=e) (n:=n)
 have ht:= @YU e n
 have hok:A8 e n=(aj e && decide (e.state=2) && decide (0≤bv e.own n)):=rfl
 obtain⟨R,hR⟩:∃ R,R=bb e n:=⟨_,rfl⟩
 rw [←hR] at hf ht
 rw [←hR]
 clear hR
 refine ga Tryz.func152 Tryz.ntmps152 Tryz.results152 fun E hE=>?_
 refine qK (hC) (qI 0 7) ?_
 refine qK (hA) (qI 0 1) ?_
 rcases hbd with hi0|⟨hi0,hi1⟩
 ·rw [hf (by rw [hok,hi0];simp)]
  rw [hi0]
  refine qX ?_
  refine qK (hK) (qI 0 7) ?_
  refine qB (fun h1=>?_) fun h1=>?_
  ·refine qB (fun h2=>?_) fun h2=>?_
   ·refine qX ?_
    exact cc (qI 0 7++qI 9 7++qO 1)
   refine qX ?_
   exact cc (qI 0 7++qI 9 7++qO 1)
  refine qX ?_
  exact cc (qI 0 7++qI 9 7++qO 1)
 obtain⟨i,hi⟩:=Int.eq_ofNat_of_zero_le hi0
 have hil:i < e.own.length:=by omega
 rw [hi]
 refine qX ?_
 refine qK (hK) (qI 0 7) ?_
 refine qB (fun h1=>?_) fun h1=>?_
 ·refine qB (fun h2=>?_) fun h2=>?_
  ·have hR:=ht (by rw [hok,h1,h2,hi];simp) hi hil
   have hdl:(bz e.own n).1.length≤e.own.length:=by rw [gt hi];simp;omega
   have hgo:=ao (enc:=AddrD.cs) hil
   generalize hv:e.own[i].addr=v at hR
   try simp (disch:=omega) only [go_sem,seval,hgo,hv]
   refine qK (hD) (qI 0 1) ?_
   refine qK (xH e.done n (by have:=rY h1;omega)) (qI 5 1) ?_
   refine cE 7 hE (fun s (k:Nat)=>s.at (qU [0,1,2,1,7,1,9,1,13,40,55,17]) [(54,.sc (.int .i64 (k:Nat)))] (s.hp.set 11 (some ⟨(cy (eZ v) e.subs k).map SubD.cs,10,201,true,true⟩))) (fun (k:Nat)=>k≤e.subs.length) (fun (k:Nat)=>e.subs.length - k) 0 (qI 0 19) (qC) (Nat.zero_le _) (ab (by rfl) (by rfl) ?_) fun k hk N hN=>?_
   ·refine qX ?_
    rw [jS]
   refine ac 400 ?_
   have hgl:(cy (eZ v) e.subs k).length=e.subs.length:=kW
   refine qX ?_
   refine qB (fun h=>?_) fun h=>?_
   ·have hg:=kX (f:=eZ v) h
    try simp (disch:=omega) only [go_sem,seval,hg]
    refine qB (fun h9=>?_) fun h9=>?_
    ·refine qX ?_
     refine⟨qC,hN _ (k+1) (qI 0 19) (by (try dsimp only);exact by omega) (by (try dsimp only);omega) (ab (by rfl) (by rfl) ?_)⟩
     refine qX ?_
     rw [←kY h,List.map_set]
     simp [eZ,h9,hg,SubD.cs]
    refine qX ?_
    refine⟨qC,hN _ (k+1) (qI 0 19) (by (try dsimp only);exact by omega) (by (try dsimp only);omega) (ab (by rfl) (by rfl) ?_)⟩
    refine qX ?_
    rw [jR h (by rw [eZ,if_neg h9])]
   have hkl:k=e.subs.length:=by omega
   subst hkl
   rw [kZ]
   have hdl2:(e.subs.map (eZ v)).length≤1048576:=by rw [List.length_map];exact hsb
   have hO:=nL { e with own:=(bz e.own n).1,done:=iL e.done n,subs:=e.subs.map (eZ v) } hdl2
   have hlen:(e.subs.map (eZ v)).length=e.subs.length:=List.length_map ..
   generalize hDD:e.subs.map (eZ v)=D at*
   clear hDD
   rw [←hlen]
   refine qX ?_
   refine qK (hO) (qI 17 1++qI 10 4++qI 18 1++qI 15 1) ?_
   have honl:=jx D
   refine cE 7 hE (fun s (y:Nat×List LetterD)=>s.at (qU [0,1,2,1,7,3,12,61,76,22]) [(75,.sc (.int .i64 (y.1:Nat))),(10,.sc (.sl 20 0 y.2.length))] ((s.hp.take 20)++[some ⟨y.2.map LetterD.cs,19,91,true,true⟩])) (fun (y:Nat×List LetterD)=>y.1≤(gz D).length∧y.2.length≤y.1∧R=({ e with own:=(bz e.own n).1,done:=iL e.done n,subs:=D },y.2++((gz D).drop y.1).map fun k=>uC n (bq D k))) (fun (y:Nat×List LetterD)=>(gz D).length - y.1) (0,[]) (qI 0 20++qO 1) (qC) (⟨Nat.zero_le _,Nat.zero_le _,hR⟩) (ab (by rfl) (by rfl) ?_) fun y hy N2 hN2=>?_
   ·exact qY
   obtain⟨q,l⟩:=y
   obtain⟨g1,g2,g3⟩:=hy
   dsimp only at g1 g2 g3
   refine qR ?_
   refine qB (fun b=>?_) fun b=>?_
   ·have hkq:=nH b
    rw [List.drop_eq_getElem_cons b,List.map_cons] at g3
    have hgq:=ao (enc:=iK) b
    generalize hk0:(gz D)[q]=k0 at*
    rw [bR hkq] at g3
    have hgs:=ao (enc:=SubD.cs) hkq
    generalize hss:D[k0]=s0 at*
    have hB:=bg s0.road { aw with kind:=10,sgn:=s0.give,id:=n }
    try simp (disch:=omega) only [go_sem,seval,hgq,hk0,iK]
    refine qD [0,1,2,3,4,5,6,7,8,9,10,11,12,13,14,15,16,17,18] ?_
    try simp (disch:=omega) only [go_sem,seval,hgs,hss]
    refine az (hB) [] ?_
    refine qG ?_
    refine⟨qC,hN2 _ (q+1,l++[uC n s0]) (qI 0 20++qI 22 1) (by (try dsimp only);exact⟨by omega,by simp;omega,by simpa using g3⟩) (by (try dsimp only);omega) (ab (by rfl) (by rfl) ?_)⟩
    refine qX ?_
    rw [List.map_append]
    rfl
   rw [List.drop_eq_nil_of_le (by omega),List.map_nil,List.append_nil] at g3
   subst g3
   refine qX ?_
   exact cc (qI 0 7++qI 17 1++qI 10 4++qI 18 1++qI 15 1++qI 20 1)
  rw [hf (by rw [hok];simp [h2])]
  refine qX ?_
  exact cc (qI 0 7++qI 9 7++qO 1)
 rw [hf (by rw [hok];simp [h1])]
 refine qX ?_
 exact cc (qI 0 7++qI 9 7++qO 1)
theorem nl (e:EndD) (n:Int) (hs:Small e):ae Tryz.prog 121 [.ag (e.cs 0),.sc (.int .i64 n)] (e.hp false) (.tu [.ag ((bb e n).1.cs 7),.sc (.sl 14 0 (bb e n).2.length)])
  (e.hp false++((bb e n).1.hp true++[some ⟨(bb e n).2.map LetterD.cs,19,91,true,true⟩])):=by
 have hC:=(qH (aD e))
 have hK:=(qH (be e))
 have hA:=dh e.own n (by have:=hs.own;omega)
 have hD:=lF e.own n (by have:=hs.own;omega)
 have hsb:=hs.subs
 have hso:=hs.own
 have hbd:=dv e.own n
 have hf:=YT (e:=e) (n:=n)
 have ht:= @YU e n
 have hok:A8 e n=(aj e && decide (e.state=2) && decide (0≤bv e.own n)):=rfl
 obtain⟨R,hR⟩:∃ R,R=bb e n:=⟨_,rfl⟩
 rw [←hR] at hf ht
 rw [←hR]
 clear hR
 refine ga Tryz.func121 Tryz.ntmps121 Tryz.results121 fun E hE=>?_
 refine qK (hC) (qI 0 7) ?_
 refine qK (hA) (qI 0 1) ?_
 rcases hbd with hi0|⟨hi0,hi1⟩
 ·rw [hf (by rw [hok,hi0];simp)]
  rw [hi0]
  refine qX ?_
  refine qK (hK) (qI 0 7) ?_
  refine qB (fun h1=>?_) fun h1=>?_
  ·refine qB (fun h2=>?_) fun h2=>?_
   ·refine qX ?_
    exact cc (qI 0 7++qI 9 7++qI 17 1)
   refine qX ?_
   exact cc (qI 0 7++qI 9 7++qI 17 1)
  refine qX ?_
  exact cc (qI 0 7++qI 9 7++qI 17 1)
 obtain⟨i,hi⟩:=Int.eq_ofNat_of_zero_le hi0
 have hil:i < e.own.length:=by omega
 rw [hi]
 refine qX ?_
 refine qK (hK) (qI 0 7) ?_
 refine qB (fun h1=>?_) fun h1=>?_
 ·refine qB (fun h2=>?_) fun h2=>?_
  ·have hR:=ht (by rw [hok,h1,h2,hi];simp) hi hil
   have hdl:(bz e.own n).1.length≤e.own.length:=by rw [gt hi];simp;omega
   have hgo:=ao (enc:=AddrD.cs) hil
   generalize hv:e.own[i].addr=v at hR
   try simp (disch:=omega) only [go_sem,seval,hgo,hv]
   refine qK (oN e.done n (by have:=rY h1;omega)) (qI 5 1) ?_
   refine qK (hD) (qI 0 1) ?_
   refine cE 7 hE (fun s (k:Nat)=>s.at (qU [0,1,13,60]) [(9,.sc (.int .i64 (k:Nat)))] (s.hp.set 11 (some ⟨(cy (eZ v) e.subs k).map SubD.cs,10,201,true,true⟩))) (fun (k:Nat)=>k≤e.subs.length) (fun (k:Nat)=>e.subs.length - k) 0 (qI 0 20) (qC) (Nat.zero_le _) (ab (by rfl) (by rfl) ?_) fun k hk N hN=>?_
   ·refine qX ?_
    rw [jS]
   refine ac 400 ?_
   have hgl:(cy (eZ v) e.subs k).length=e.subs.length:=kW
   refine qX ?_
   refine qB (fun h=>?_) fun h=>?_
   ·have hg:=kX (f:=eZ v) h
    try simp (disch:=omega) only [go_sem,seval,hg]
    refine qD [0,1,2,3,4,5,6,7,8,9,10,11,12,13] ?_
    refine⟨qC,ac 400 ?_⟩
    try simp (disch:=omega) only [go_sem,seval,hg,hgo,hv]
    refine qB (fun h9=>?_) fun h9=>?_
    ·refine qX ?_
     refine⟨qC,hN _ (k+1) (qI 0 20) (by (try dsimp only);exact by omega) (by (try dsimp only);omega) (ab (by rfl) (by rfl) ?_)⟩
     refine qX ?_
     rw [←kY h,List.map_set]
     simp [eZ,h9,hg,SubD.cs]
    refine qX ?_
    refine⟨qC,hN _ (k+1) (qI 0 20) (by (try dsimp only);exact by omega) (by (try dsimp only);omega) (ab (by rfl) (by rfl) ?_)⟩
    refine qX ?_
    rw [jR h (by rw [eZ,if_neg h9])]
   have hkl:k=e.subs.length:=by omega
   subst hkl
   rw [kZ]
   have hdl2:(e.subs.map (eZ v)).length≤1048576:=by rw [List.length_map];exact hsb
   have hO:=nM { e with own:=(bz e.own n).1,done:=iL e.done n,subs:=e.subs.map (eZ v) } hdl2
   have hlen:(e.subs.map (eZ v)).length=e.subs.length:=List.length_map ..
   generalize hDD:e.subs.map (eZ v)=D at*
   clear hDD
   rw [←hlen]
   refine qX ?_
   refine qK (hO) (qI 19 1++qI 10 4++qI 18 1++qI 15 1) ?_
   have honl:=jx D
   refine cE 7 hE (fun s (y:Nat×List LetterD)=>s.at (qU [0,1,2,1,8,2,12,87]) [(11,.sc (.int .i64 (y.1:Nat))),(7,.sc (.sl 17 0 y.2.length))] (s.hp.set 17 (some ⟨y.2.map LetterD.cs,19,91,true,true⟩))) (fun (y:Nat×List LetterD)=>y.1≤(gz D).length∧y.2.length≤y.1∧R=({ e with own:=(bz e.own n).1,done:=iL e.done n,subs:=D },y.2++((gz D).drop y.1).map fun k=>uC n (bq D k))) (fun (y:Nat×List LetterD)=>(gz D).length - y.1) (0,[]) (qI 0 21) (qC) (⟨Nat.zero_le _,Nat.zero_le _,hR⟩) (ab (by rfl) (by rfl) ?_) fun y hy N2 hN2=>?_
   ·exact qY
   obtain⟨q,l⟩:=y
   obtain⟨g1,g2,g3⟩:=hy
   dsimp only at g1 g2 g3
   refine qR ?_
   refine qB (fun b=>?_) fun b=>?_
   ·have hkq:=nH b
    rw [List.drop_eq_getElem_cons b,List.map_cons] at g3
    have hgq:=ao (enc:=iK) b
    generalize hk0:(gz D)[q]=k0 at*
    rw [bR hkq] at g3
    have hgs:=ao (enc:=SubD.cs) hkq
    generalize hss:D[k0]=s0 at*
    have hB:=aX s0.road { aw with kind:=10,sgn:=s0.give,id:=n }
    refine qX ?_
    refine qD [0,1,2,3,4,5,6,7,8,9] ?_
    try simp (disch:=omega) only [go_sem,seval,hgq,hk0,iK,hgs,hss]
    refine qG ?_
    refine qK (hB) [] ?_
    refine⟨qC,hN2 _ (q+1,l++[uC n s0]) (qI 0 17++qI 23 1++qI 18 3) (by (try dsimp only);exact⟨by omega,by simp;omega,by simpa using g3⟩) (by (try dsimp only);omega) (ab (by rfl) (by rfl) ?_)⟩
    refine qX ?_
    rw [List.map_append]
    rfl
   rw [List.drop_eq_nil_of_le (by omega),List.map_nil,List.append_nil] at g3
   subst g3
   refine qX ?_
   exact cc (qI 0 7++qI 19 1++qI 10 4++qI 18 1++qI 15 1++qI 17 1)
  rw [hf (by rw [hok];simp [h2])]
  refine qX ?_
  exact cc (qI 0 7++qI 9 7++qI 17 1)
 rw [hf (by rw [hok];simp [h1])]
 refine qX ?_
 exact cc (qI 0 7++qI 9 7++qI 17 1)
end
section
open Go.RowKit
theorem k_ {α:Type} {p:α→Bool} {l:List α} {k:Nat} (h:k < l.length):(l.drop k).all p=(p l[k] && (l.drop (k+1)).all p):=by
 rw [List.drop_eq_getElem_cons h,List.all_cons]
theorem rZ {α β:Type} {f:α→List β} {l:List α} {k:Nat} (h:k < l.length):(l.drop k).flatMap f=f l[k]++(l.drop (k+1)).flatMap f:=by
 rw [List.drop_eq_getElem_cons h,List.flatMap_cons]
theorem lc (e:EndD) (s:SubD):(eP e s).length≤1:=by
 rw [eP];split
 ·split
  ·simp
  split
  ·simp
  split<;>simp
 simp
theorem nm {α β:Type} {f:α→List β} (hf:∀ a,(f a).length≤1):∀ (l:List α),(l.flatMap f).length≤l.length
 |[]=>by simp
 |a::l=>by
  have h1:=hf a
  have h2:=nm hf l
  rw [List.flatMap_cons,List.length_append,List.length_cons]
  omega
theorem mj (l:List HalfD) (n:Int):(bM l n).length≤l.length:=List.length_filter_le _ _
theorem jT (e:EndD):(cI e).length≤e.own.length:=by
 rw [cI];split
 ·rw [List.length_map];exact List.length_filter_le _ _
 simp
theorem ld {e:EndD} (h:aj e=true) {k:Nat} (hk:k < e.subs.length):1≤e.subs[k].state∧e.subs[k].state≤4∧0≤e.subs[k].tries∧e.subs[k].tries≤1000000000:=by
 have h1:eE (cH e.subs) e.subs.length=true:=by
  simp only [aj,Bool.and_eq_true] at h
  simp_all
 have h2:=mY h1 hk
 simp only [cH,bR hk,cr,iQ,List.all_cons,List.all_nil,Bool.and_eq_true,decide_eq_true_eq] at h2
 omega
theorem E2 {e:EndD} (h:Fl e=false):dt e=(e,[]):=if_neg (by simp [h])
theorem zk {e:EndD} (h:Fl e=true) (h2:e.state=2):dt e=ea { oU e with subs:=e.subs.map da } (e.subs.flatMap (eP e)):=by rw [dt,if_pos h,if_pos h2]
theorem zl {e:EndD} (h:Fl e=true) (h2:¬ e.state=2):dt e=ea (oU e) []:=by rw [dt,if_pos h,if_neg h2]
theorem E3 {e:EndD} {tk:SubD→SubD} {tl:SubD→List LetterD} (h:Fl e=true) (h1:tk=fun s=>if e.state=2 then da s else s) (h2:tl=fun s=>if e.state=2 then eP e s else []):
  dt e=ea { e with now:=e.now+1,bucket:=c8 e.bucket,halfs:=bM e.halfs (e.now+1),out:=fu e.out,subs:=e.subs.map tk } (e.subs.flatMap tl):=by
 by_cases hs:e.state=2
 ·have a1:tk=da:=by rw [h1];funext s;exact if_pos hs
  have a2:tl=eP e:=by rw [h2];funext s;exact if_pos hs
  rw [zk h hs,a1,a2];rfl
 have a1:tk=fun s=>s:=by rw [h1];funext s;exact if_neg hs
 have a2:tl=fun s=>[]:=by rw [h2];funext s;exact if_neg hs
 have e1:e.subs.flatMap (fun s:SubD=>([]:List LetterD))=[]:=by simp
 have e2:e.subs.map (fun s:SubD=>s)=e.subs:=by simp
 rw [zl h hs,a1,a2,e1,e2];rfl
theorem E4 {f:SubD→SubD} (h:∀ s,f s=s) (l:List SubD) (k:Nat):cy f l k=l:=by
 have hf:f=fun s=>s:=funext h
 rw [cy,hf];simp
theorem r_ {s:SubD} (h:¬ (s.state=1∨s.state=2)):da s=s:=if_neg h
theorem sa {e:EndD} {s:SubD} (h:¬ (s.state=1∨s.state=2)):eP e s=[]:=if_neg h
theorem se {s:SubD} (h:s.state=2) (h2:9≤s.tries+1):da s={ s with tries:=s.tries+1,state:=4 }:=by rw [da,if_pos (.inr h),if_pos ⟨h,h2⟩]
theorem sf {e:EndD} {s:SubD} (h:s.state=2) (h2:9≤s.tries+1):eP e s=[]:=by rw [eP,if_pos (.inr h),if_pos ⟨h,h2⟩]
theorem yd {s:SubD} (h:s.state=1∨s.state=2) (h2:¬ (s.state=2∧9≤s.tries+1)):da s={ s with tries:=s.tries+1 }:=by rw [da,if_pos h,if_neg h2]
theorem sg {e:EndD} {s:SubD} (h:s.state=1∨s.state=2) (h2:¬ (s.state=2∧9≤s.tries+1)) (h3:¬ (s.tries+1).tmod 3=0):eP e s=[]:=by rw [eP,if_pos h,if_neg h2,if_pos h3]
theorem uL {e:EndD} {s:SubD} (h:s.state=1) (h3:(s.tries+1).tmod 3=0):eP e s=[fv e s]:=by rw [eP,if_pos (.inl h),if_neg (by omega),if_neg (by simp [h3]),if_pos h]
theorem oY {e:EndD} {s:SubD} (h:s.state=2) (h2:¬ 9≤s.tries+1) (h3:(s.tries+1).tmod 3=0):eP e s=[cx e s]:=by rw [eP,if_pos (.inr h),if_neg (by omega),if_neg (by simp [h3]),if_neg (by omega)]
theorem nn (e:EndD) (l:List LetterD) (hs:Small e) (ht:e.out.text.length≤1048576) (hl:l.length≤1048576):ae Tryz.prog 233 [.ag (e.cs 0),.sc (.sl 7 0 l.length)] (e.hp true++[some ⟨l.map LetterD.cs,19,91,true,true⟩])
  (.tu [.ag ((ea e l).1.cs 8),.sc (.sl 15 0 (ea e l).2.length)]) ([none,none,none,none,none,none,none,none]++((ea e l).1.hp true++[some ⟨(ea e l).2.map LetterD.cs,19,91,true,true⟩])):=by
 have hT:=rW e hs
 have hTl:=jT e
 have hso:=hs.own
 have hP:=lO e hs ht
 have hPl:=kV (k:=3) (e:=e)
 rw [ea]
 generalize cI e=T at*
 generalize dU 3 e=Q at*
 obtain⟨e1,l1⟩:=Q
 dsimp only at hP hPl⊢
 refine ga Tryz.func233 Tryz.ntmps233 Tryz.results233 fun E hE=>?_
 refine qK (hT) (qI 0 7) ?_
 refine qK (hP) (qI 0 7) ?_
 refine aI [(0,3)] [] [[1,2,0,3,4,5],[1,2,3,0,4,5]] 8 hE (fun s=>s.at (qU [1,1,7,6,15,6]) [(5,.sc (.sl 21 0 (l.length+T.length+l1.length)))] (((s.hp.set 9 (some ⟨[[.int .i64 e1.side,.int .i64 e1.state,.int .i64 e1.key,.int .i64 e1.peer,.int .i64 e1.policy.kind,.int .i64 e1.policy.many,.sl 12 0 e1.own.length,.sl 13 0 e1.far.length,.sl 14 0 e1.subs.length,.sl 15 0 e1.halfs.length,.int .i64 e1.bucket.rate,.int .i64 e1.bucket.burst,.int .i64 e1.bucket.cur,.st e1.out.text,.int .i64 e1.out.base,.int .i64 e1.out.sent,.int .i64 e1.out.room,.int .i64 e1.inp.read,.st e1.inp.ready,.sl 16 0 e1.inp.list.length,.sl 17 0 e1.done.length,.sl 18 0 e1.over.length,.int .i64 e1.draw,.int .i64 e1.now,.int .i64 e1.pick]],25,45,true,false⟩)).set 11 none)++[some ⟨(l++T++l1).map LetterD.cs,19,91,true,true⟩])) (by kernel_rfl) (qC) (by kernel_rfl) ?_ (ac 400 ?_)
 rotate_left
 rotate_right
 simp only [aQ]
 refine⟨aa 400 ?_,aa 400 ?_⟩
 ·simp (disch:=omega) only [go_sem]
  refine⟨qC,(qI 0 22),ab (by rfl) (by rfl) ?_⟩
  try simp (disch:=omega) only [go_sem,seval]
  repeat' first|rfl|constructor|(intro _;rfl)|(simp only [List.map_append,List.append_assoc,List.length_append,Nat.add_assoc];done)
 ·simp (disch:=omega) only [go_sem]
  refine⟨qC,(qI 0 22),ab (by rfl) (by rfl) ?_⟩
  try simp (disch:=omega) only [go_sem,seval]
  repeat' first|rfl|constructor|(intro _;rfl)|(simp only [List.map_append,List.append_assoc,List.length_append,Nat.add_assoc];done)
 refine qX ?_
 refine aA (qI 0 8++qI 12 7++qI 21 1) (qC) _ (by simp only [go_sem];rfl) (by rfl) (by rfl) ?_
 simp (disch:=omega) only [go_sem,seval]
 try simp
 try omega
end
section
open Go.RowKit
def jo (x:LetterD):List Int:=[x.key,x.nonce,x.give,x.sgn]
def iF (w:WorldD) (n:Int):Bool:=decide (n < 1000) || lY w.nums n
theorem no (w:WorldD) (x:LetterD):dV w x=(eb x && !decide (aZ x.to=0) && fU w.known x.tag && (jo x).all (iF w)):=rfl
theorem iG (w:WorldD) (x:LetterD) (h0:w.known.keys.length≤1048576) (h1:w.known.tags.length≤1048576) (h2:w.nums.length≤1048576):ae Tryz.prog 157 [.ag (w.cs 0),.ag x.cs] (w.hp false) (.sc (.bo (dV w x))) (w.hp false):=by
 have hL:=bt x
 have hS:=dC x.to
 have hK:=m_ w.known x.tag h0 h1
 obtain⟨R,hR⟩:∃ R,R=dV w x:=⟨_,rfl⟩
 rw [←hR]
 rw [no] at hR
 refine qE Tryz.func157 Tryz.ntmps157 Tryz.results157 fun E hE=>?_
 refine qK (hL) [] ?_
 refine qB (fun c1=>?_) fun c1=>?_
 ·refine qK (hS) [] ?_
  refine qB (fun c2=>?_) fun c2=>?_
  ·refine qK (hK) (qI 16 2) ?_
   refine qB (fun c3=>?_) fun c3=>?_
   ·rw [c3] at hR
    simp only [Bool.and_false,Bool.false_and] at hR
    subst hR
    refine qX ?_
    exact qF (qI 0 21)
   rw [c1,c3,decide_eq_false c2] at hR
   simp only [Bool.not_false,Bool.true_and,Bool.and_true] at hR
   refine qX ?_
   refine an 21 hE (fun s (i:Nat)=>s.at (qU [0,2,3,2,6,26,35,13]) [(34,.sc (.int .i64 (i:Nat)))] (s.hp)) (fun (i:Nat)=>i≤4∧R=((jo x).drop i).all (iF w)) (fun (i:Nat)=>4 - i) 0 (qI 0 24) (qC) (⟨by omega,hR⟩) (af (by rfl) (by rfl) ?_) fun i hi N hN=>?_
   ·exact qY
   obtain⟨g1,g2⟩:=hi
   refine qR ?_
   split<;>rename_i b<;>(try simp only [decide_eq_true_eq,decide_eq_false_iff_not,Int.ofNat_lt] at b)
   rotate_left
   ·rw [List.drop_eq_nil_of_le (by simp only [jo,List.length_cons,List.length_nil];omega),List.all_nil] at g2
    subst g2
    refine qX ?_
    exact qF (qI 0 21)
   have hi4:i < (jo x).length:=by simp only [jo,List.length_cons,List.length_nil];omega
   rw [k_ hi4] at g2
   generalize hv:(jo x)[i]=v at g2
   have hg:([[.int .i64 x.key],[.int .i64 x.nonce],[.int .i64 x.give],[.int .i64 x.sgn]]:List (List Sc))[i]? =some (aC v):=by
    rw [←hv]
    rw [show ([[.int .i64 x.key],[.int .i64 x.nonce],[.int .i64 x.give],[.int .i64 x.sgn]]:List (List Sc))=(jo x).map aC from rfl]
    exact ao hi4
   simp only [aC] at hg
   have hH:=eH w.nums v h2
   try simp (disch:=omega) only [go_sem,seval,hg]
   refine qB (fun b1=>?_) fun b1=>?_
   ·refine qK (hH) (qI 18 1) ?_
    refine qB (fun b2=>?_) fun b2=>?_
    ·rw [show iF w v=false by rw [iF,b2,decide_eq_false (by omega)];rfl,Bool.false_and] at g2
     subst g2
     refine qX ?_
     exact qF (qI 0 21)
    rw [show iF w v=true by rw [iF,b2,Bool.or_true],Bool.true_and] at g2
    refine qX ?_
    exact qN hN (i+1) (qI 0 24) (by (try dsimp only);exact⟨by omega,g2⟩)
   rw [show iF w v=true by rw [iF,decide_eq_true (by omega)];rfl,Bool.true_and] at g2
   refine qX ?_
   exact qN hN (i+1) (qI 0 24) (by (try dsimp only);exact⟨by omega,g2⟩)
  rw [decide_eq_true c2] at hR
  simp only [Bool.not_true,Bool.and_false,Bool.false_and] at hR
  subst hR
  refine qX ?_
  exact qF (qI 0 21)
 rw [c1] at hR
 simp only [Bool.false_and] at hR
 subst hR
 refine qX ?_
 exact qF (qI 0 21)
theorem sh (w:WorldD) (x:LetterD) (h0:w.known.keys.length≤1048576) (h1:w.known.tags.length≤1048576) (h2:w.nums.length≤1048576):ae Tryz.prog 57 [.ag (w.cs 0),.ag x.cs] (w.hp false) (.sc (.bo (dV w x))) (w.hp false):=by
 have hL:=cL x
 have hS:=dD x.to
 have hK:=na w.known x.tag h0 h1
 obtain⟨R,hR⟩:∃ R,R=dV w x:=⟨_,rfl⟩
 rw [←hR]
 rw [no] at hR
 refine qE Tryz.func57 Tryz.ntmps57 Tryz.results57 fun E hE=>?_
 refine qK (hL) [] ?_
 refine qB (fun c1=>?_) fun c1=>?_
 ·refine qK (hS) [] ?_
  refine qB (fun c2=>?_) fun c2=>?_
  ·refine qK (hK) (qI 16 2) ?_
   refine qB (fun c3=>?_) fun c3=>?_
   ·rw [c3] at hR
    simp only [Bool.and_false,Bool.false_and] at hR
    subst hR
    refine qX ?_
    exact qF (qI 0 21)
   rw [c1,c3,decide_eq_false c2] at hR
   simp only [Bool.not_false,Bool.true_and,Bool.and_true] at hR
   refine qX ?_
   refine an 21 hE (fun s (i:Nat)=>s.at (qU [0,2,3,2,7,47]) [(6,.sc (.int .i64 (i:Nat)))] (s.hp)) (fun (i:Nat)=>i≤4∧R=((jo x).drop i).all (iF w)) (fun (i:Nat)=>4 - i) 0 (qI 0 24) (qC) (⟨by omega,hR⟩) (af (by rfl) (by rfl) ?_) fun i hi N hN=>?_
   ·exact qY
   obtain⟨g1,g2⟩:=hi
   refine qR ?_
   split<;>rename_i b<;>(try simp only [decide_eq_true_eq,decide_eq_false_iff_not,Int.ofNat_lt] at b)
   rotate_left
   ·rw [List.drop_eq_nil_of_le (by simp only [jo,List.length_cons,List.length_nil];omega),List.all_nil] at g2
    subst g2
    refine qX ?_
    exact qF (qI 0 21)
   have hi4:i < (jo x).length:=by simp only [jo,List.length_cons,List.length_nil];omega
   rw [k_ hi4] at g2
   generalize hv:(jo x)[i]=v at g2
   have hg:([[.int .i64 x.key],[.int .i64 x.nonce],[.int .i64 x.give],[.int .i64 x.sgn]]:List (List Sc))[i]? =some (aC v):=by
    rw [←hv]
    rw [show ([[.int .i64 x.key],[.int .i64 x.nonce],[.int .i64 x.give],[.int .i64 x.sgn]]:List (List Sc))=(jo x).map aC from rfl]
    exact ao hi4
   simp only [aC] at hg
   have hH:=fF w.nums v h2
   refine qX ?_
   refine qD [0,1,2,3,4,5,6,7,8,9,10,11,12,13,14] ?_
   try simp (disch:=omega) only [go_sem,seval,hg]
   refine qB (fun b1=>?_) fun b1=>?_
   ·try simp (disch:=omega) only [go_sem,seval,hg]
    refine az (hH) (qI 18 1) ?_
    refine qG ?_
    refine qB (fun b2=>?_) fun b2=>?_
    ·rw [show iF w v=false by rw [iF,b2,decide_eq_false (by omega)];rfl,Bool.false_and] at g2
     subst g2
     refine qX ?_
     exact qF (qI 0 21)
    rw [show iF w v=true by rw [iF,b2,Bool.or_true],Bool.true_and] at g2
    refine qX ?_
    exact qN hN (i+1) (qI 0 24) (by (try dsimp only);exact⟨by omega,g2⟩)
   rw [show iF w v=true by rw [iF,decide_eq_true (by omega)];rfl,Bool.true_and] at g2
   refine qG ?_
   exact qN hN (i+1) (qI 0 24) (by (try dsimp only);exact⟨by omega,g2⟩)
  rw [decide_eq_true c2] at hR
  simp only [Bool.not_true,Bool.and_false,Bool.false_and] at hR
  subst hR
  refine qX ?_
  exact qF (qI 0 21)
 rw [c1] at hR
 simp only [Bool.false_and] at hR
 subst hR
 refine qX ?_
 exact qF (qI 0 21)
def wroteB (w:WorldD) (side:Int) (t u:List UInt8):WorldD:=if side=1 then { w with wroteA:=w.wroteA++t,readA:=w.readA++u } else { w with wroteB:=w.wroteB++t,readB:=w.readB++u }
theorem ye (w:WorldD) (side:Int) (t:List UInt8):wroteB w side t []=e8 w side t:=by
 rw [wroteB,e8];split<;>simp
theorem yf (w:WorldD) (side:Int) (t:List UInt8):wroteB w side [] t=cF w side t:=by
 rw [wroteB,cF];split<;>simp
structure SmallS (w:WorldD):Prop where
 wa:w.wroteA.length≤1099511627776
 wb:w.wroteB.length≤1099511627776
 ra:w.readA.length≤1099511627776
 rb:w.readB.length≤1099511627776
theorem gE (w:WorldD) (side:Int) (t u:List UInt8) (h:SmallS w) (ht:t.length≤1048576) (hu:u.length≤1048576):ae Tryz.prog 115 [.ag (w.cs 0),.sc (.int .i64 side),.sc (.st t),.sc (.st u)] (w.hp false) (.ag ((wroteB w side t u).cs 0)) (w.hp false):=by
 have h1:=h.wa
 have h2:=h.wb
 have h3:=h.ra
 have h4:=h.rb
 obtain⟨R,hR⟩:∃ R,R=wroteB w side t u:=⟨_,rfl⟩
 rw [←hR]
 rw [wroteB] at hR
 refine qE Tryz.func115 Tryz.ntmps115 Tryz.results115 fun E hE=>?_
 refine qB (fun b=>?_) fun b=>?_
 ·rw [if_pos b] at hR
  subst hR
  refine qX ?_
  exact qF (qI 0 21)
 rw [if_neg b] at hR
 subst hR
 refine qX ?_
 exact qF (qI 0 21)
theorem oZ (l:List LetterD) (k:Nat) (hl:l.length≤1048576) (hk:k < l.length):ae Tryz.prog 128 [.sc (.sl 0 0 l.length),.sc (.int .i64 (k:Nat))] [some ⟨l.map LetterD.cs,19,91,false,true⟩] (.sc (.sl 1 0 (l.length - 1))) [some ⟨l.map LetterD.cs,19,91,false,true⟩,some ⟨(l.take k++l.drop (k+1)).map LetterD.cs,19,91,true,true⟩]:=by
 have hlt:(l.take k).length=k:=by simp;omega
 have hlt2:(List.take k (List.map LetterD.cs l)).length=k:=by simp;omega
 refine qE Tryz.func128 Tryz.ntmps128 Tryz.results128 fun E hE=>?_
 refine qX ?_
 refine ah (qI 0 1++qI 3 1) (qC) _ (by simp only [go_sem];rfl) (by rfl) (by rfl) ?_
 simp (disch:=omega) only [go_sem,seval]
 try rw [←List.map_take]
 exact⟨by omega,(jl hk).2⟩
end
section
open Go.RowKit
theorem YV {e:EndD} {k:Int} {n:Nat} (h:we e k=true) (hk:k=(n:Int)) (hn:n < e.subs.length):
  br e k=({ e with subs:=cS e.subs n 4 },[bc e.subs[n].road { aw with kind:=13,sgn:=e.subs[n].give }]):=by
 rw [br,if_pos h,hk,Int.toNat_natCast,bR hn]
theorem YW {e:EndD} {k:Int} (h:we e k=false):br e k=(e,[]):=by rw [br,if_neg (by simp [h])]
theorem NK {e:EndD} {n:Nat} (hn:n < e.subs.length):we e (n:Int)=(aj e && decide (e.subs[n].state=3)):=by
 rw [we,Int.toNat_natCast,bR hn,show cr (n:Int) 0 ((e.subs.length:Int) - 1)=true by simp only [cr,Bool.and_eq_true,decide_eq_true_eq];omega,Bool.and_true]
theorem E5 {e:EndD} {k:Int} (h:cr k 0 ((e.subs.length:Int) - 1)=false):we e k=false:=by simp [we,h]
theorem uM {e:EndD} (h:aj e=true):e.own.length≤6:=by
 simp only [aj,Bool.and_eq_true] at h
 exact jF (by simp_all)
theorem YX {e:EndD} {a:AddrD} (h:EW e a=false):aB e a=(e,false):=by rw [aB,if_neg (by simp [h])]
theorem YY {e:EndD} {a:AddrD} (h:EW e a=true):aB e a=({ e with own:=(bn e.own { a with told:=false }).1 },(bn e.own { a with told:=false }).2):=by rw [aB,if_pos h]
theorem NL {e:EndD} {a:AddrD} (h:(bn e.own { a with told:=false }).2=false):aB e a=(e,false):=by
 rw [aB];split
 ·have:bn e.own { a with told:=false }=(e.own,false):=by
   rw [bn] at h⊢;split
   ·rename_i hh;rw [if_pos hh] at h;cases h
   rfl
  rw [this]
 rfl
theorem si (e:EndD) (k:Int) (hs:Small e):ae Tryz.prog 153 [.ag (e.cs 0),.sc (.int .i64 k)] (e.hp false) (.tu [.ag ((br e k).1.cs 7),.sc (.sl 14 0 (br e k).2.length)])
  (e.hp false++((br e k).1.hp true++[some ⟨(br e k).2.map LetterD.cs,19,91,true,true⟩])):=by
 have hC:=(qH (aK e))
 have hK:=(qH (bf e))
 have hsub:=hs.subs
 have hf:=YW (e:=e) (k:=k)
 have ht:= @YV e k
 have hI:=aO k 0 ((e.subs.length:Int) - 1)
 refine ga Tryz.func153 Tryz.ntmps153 Tryz.results153 fun E hE=>?_
 refine qK (hC) (qI 0 7) ?_
 refine qK (hK) (qI 0 7) ?_
 refine qB (fun b1=>?_) fun b1=>?_
 ·refine qK (hI) [] ?_
  cases hin:cr k 0 ((e.subs.length:Int) - 1) with
  |false=>
   rw [hf (E5 hin)]
   refine qX ?_
   exact cc (qI 0 7++qI 9 7++qO 1)
  |true=>
   simp only [cr,Bool.and_eq_true,decide_eq_true_eq] at hin
   obtain⟨n,rfl⟩:=Int.eq_ofNat_of_zero_le hin.1
   have hn:n < e.subs.length:=by omega
   have hg:=ao (enc:=SubD.cs) hn
   have hok:=NK (e:=e) hn
   rw [b1,Bool.true_and] at hok
   try simp (disch:=omega) only [go_sem,seval,hg]
   refine qB (fun b2=>?_) fun b2=>?_
   ·rw [hf (by rw [hok];simp [b2])]
    refine qX ?_
    exact cc (qI 0 7++qI 9 7++qO 1)
   rw [ht (by rw [hok];simp [b2]) rfl hn]
   have hset:cS e.subs n 4=e.subs.set n { e.subs[n] with state:=4 }:=by rw [cS,bR hn]
   rw [hset]
   have hms:=bl (f:=SubD.cs) (l:=e.subs) (k:=n) (v:={ e.subs[n] with state:=4 }) rfl
   simp only [SubD.cs] at hms
   try simp (disch:=omega) only [go_sem,seval,hg]
   refine aI [(15,16)] [] [(qU [0,18]),(qU [0,15,16,1,15,1,17,1])] 7 hE (fun s=>s.at (qU [36,16]) [(5,.sc (.sl 17 0 1))] ((s.hp.set 8 (some ⟨[[.int .i64 e.side,.int .i64 e.state,.int .i64 e.key,.int .i64 e.peer,.int .i64 e.policy.kind,.int .i64 e.policy.many,.sl 9 0 e.own.length,.sl 10 0 e.far.length,.sl 11 0 e.subs.length,.sl 12 0 e.halfs.length,.int .i64 e.bucket.rate,.int .i64 e.bucket.burst,.int .i64 e.bucket.cur,.st e.out.text,.int .i64 e.out.base,.int .i64 e.out.sent,.int .i64 e.out.room,.int .i64 e.inp.read,.st e.inp.ready,.sl 13 0 e.inp.list.length,.sl 14 0 e.done.length,.sl 15 0 e.over.length,.int .i64 e.draw,.int .i64 e.now,.int .i64 e.pick]],25,45,true,false⟩))++[some ⟨[(bc e.subs[n].road { aw with kind:=13,sgn:=e.subs[n].give }).cs],19,91,true,true⟩])) (by kernel_rfl) (qC) (by kernel_rfl) ?_ (ac 400 ?_)
   rotate_left
   rotate_right
   simp only [aQ]
   refine⟨aa 400 ?_,aa 400 ?_⟩
   ·simp (disch:=omega) only [go_sem,hg]
    refine az (bg e.subs[n].road { aw with kind:=13,sgn:=e.subs[n].give }) [] ?_
    refine⟨qC,(qI 0 18),ab (by rfl) (by rfl) ?_⟩
    try simp (disch:=omega) only [go_sem,seval]
    try rfl
   ·simp (disch:=omega) only [go_sem,hg]
    refine az (bg e.subs[n].road { aw with kind:=13,sgn:=e.subs[n].give }) [] ?_
    refine⟨qC,(qI 0 18),ab (by rfl) (by rfl) ?_⟩
    try simp (disch:=omega) only [go_sem,seval]
    try rfl
   refine qX ?_
   refine aA (qI 0 7++qI 9 7++qI 17 1) (qC) _ (by simp only [go_sem];rfl) (by rfl) (by rfl) ?_
   simp (disch:=omega) only [go_sem,seval]
   exact⟨by simp,hms⟩
 rw [hf (by simp [we,b1])]
 refine qX ?_
 exact cc (qI 0 7++qI 9 7++qO 1)
theorem i4 (e:EndD) (a:AddrD) (hs:Small e):ae Tryz.prog 150 [.ag (e.cs 0),.ag a.cs] (e.hp false) (.tu [.ag ((aB e a).1.cs 7),.sc (.bo (aB e a).2)]) (e.hp false++(aB e a).1.hp true):=by
 have hC:=(qH (aK e))
 have hK:=(qH (bf e))
 have hA:=d4 e.own a.id (by have:=hs.own;omega)
 have hH:=eH e.done a.id (by have:=hs.done;omega)
 have hP:=fun h=>jG e.own { a with told:=false } h
 have hf:=YX (e:=e) (a:=a)
 have ht:=YY (e:=e) (a:=a)
 have ht2:=NL (e:=e) (a:=a)
 have hok:EW e a=(aj e && decide (bv e.own a.id < 0) && !lY e.done a.id):=rfl
 generalize aB e a=R at*
 generalize bn e.own { a with told:=false }=pa at*
 obtain⟨own1,ok1⟩:=pa
 dsimp only at hP ht ht2
 refine ga Tryz.func150 Tryz.ntmps150 Tryz.results150 fun E hE=>?_
 refine qK (hC) (qI 0 7) ?_
 refine qK (hK) (qI 0 7) ?_
 refine qB (fun b1=>?_) fun b1=>?_
 ·refine qK (hA) (qI 0 1) ?_
  refine qB (fun b2=>?_) fun b2=>?_
  ·refine qK (hH) (qI 5 1) ?_
   refine qB (fun b3=>?_) fun b3=>?_
   ·rw [hf (by rw [hok];simp [b3])]
    refine qX ?_
    exact cc (qI 0 7++qI 10 7)
   rw [ht (by rw [hok,b1,decide_eq_true (by omega),b3];rfl)]
   have hP:=hP (by have:=uM b1;omega)
   refine qX ?_
   refine qK (hP) (qI 0 1) ?_
   exact cc (qI 0 7++qI 18 1++qI 11 6)
  rw [hf (by rw [hok,decide_eq_false (by omega)];simp)]
  refine qX ?_
  exact cc (qI 0 7++qI 10 7)
 rw [hf (by simp [hok,b1])]
 refine qX ?_
 exact cc (qI 0 7++qI 10 7)
theorem sj (e:EndD) (k:Int) (hs:Small e):ae Tryz.prog 122 [.ag (e.cs 0),.sc (.int .i64 k)] (e.hp false) (.tu [.ag ((br e k).1.cs 7),.sc (.sl 14 0 (br e k).2.length)])
  (e.hp false++((br e k).1.hp true++[some ⟨(br e k).2.map LetterD.cs,19,91,true,true⟩])):=by
 have hC:=(qH (aD e))
 have hK:=(qH (be e))
 have hsub:=hs.subs
 have hf:=YW (e:=e) (k:=k)
 have ht:= @YV e k
 have hI:=aM k 0 ((e.subs.length:Int) - 1)
 refine ga Tryz.func122 Tryz.ntmps122 Tryz.results122 fun E hE=>?_
 refine qK (hC) (qI 0 7) ?_
 refine qK (hK) (qI 0 7) ?_
 refine qB (fun b1=>?_) fun b1=>?_
 ·refine qK (hI) [] ?_
  cases hin:cr k 0 ((e.subs.length:Int) - 1) with
  |false=>
   rw [hf (E5 hin)]
   refine qX ?_
   exact cc (qI 0 7++qI 9 7++qI 17 1)
  |true=>
   simp only [cr,Bool.and_eq_true,decide_eq_true_eq] at hin
   obtain⟨n,rfl⟩:=Int.eq_ofNat_of_zero_le hin.1
   have hn:n < e.subs.length:=by omega
   have hg:=ao (enc:=SubD.cs) hn
   have hok:=NK (e:=e) hn
   rw [b1,Bool.true_and] at hok
   try simp (disch:=omega) only [go_sem,seval,hg]
   refine qB (fun b2=>?_) fun b2=>?_
   ·rw [hf (by rw [hok];simp [b2])]
    refine qX ?_
    exact cc (qI 0 7++qI 9 7++qI 17 1)
   rw [ht (by rw [hok];simp [b2]) rfl hn]
   have hset:cS e.subs n 4=e.subs.set n { e.subs[n] with state:=4 }:=by rw [cS,bR hn]
   rw [hset]
   have hms:=bl (f:=SubD.cs) (l:=e.subs) (k:=n) (v:={ e.subs[n] with state:=4 }) rfl
   simp only [SubD.cs] at hms
   try simp (disch:=omega) only [go_sem,seval,hg]
   refine aI [(0,17),(15,0),(16,0)] [(15,16),(15,17),(16,17)] [(qU [1,16,0,1,17,3]),(qU [1,15,0,1,16,4]),(qU [1,14,0,1,15,5]),(qU [1,17,0,1,18,2])] 7 hE (fun s=>s.at (qU [7,1,39,18]) [(5,.sc (.sl 18 0 1))] (((s.hp.set 8 (some ⟨[[.int .i64 e.side,.int .i64 e.state,.int .i64 e.key,.int .i64 e.peer,.int .i64 e.policy.kind,.int .i64 e.policy.many,.sl 9 0 e.own.length,.sl 10 0 e.far.length,.sl 11 0 e.subs.length,.sl 12 0 e.halfs.length,.int .i64 e.bucket.rate,.int .i64 e.bucket.burst,.int .i64 e.bucket.cur,.st e.out.text,.int .i64 e.out.base,.int .i64 e.out.sent,.int .i64 e.out.room,.int .i64 e.inp.read,.st e.inp.ready,.sl 13 0 e.inp.list.length,.sl 14 0 e.done.length,.sl 15 0 e.over.length,.int .i64 e.draw,.int .i64 e.now,.int .i64 e.pick]],25,45,true,false⟩)).set 17 none)++[some ⟨[(bc e.subs[n].road { aw with kind:=13,sgn:=e.subs[n].give }).cs],19,91,true,true⟩])) (by kernel_rfl) (qC) (by kernel_rfl) ?_ (ac 400 ?_)
   rotate_left
   rotate_right
   simp only [aQ]
   refine⟨aa 400 ?_,aa 400 ?_,aa 400 ?_,aa 400 ?_⟩
   ·simp (disch:=omega) only [go_sem,hg]
    refine az (aX e.subs[n].road { aw with kind:=13,sgn:=e.subs[n].give }) [] ?_
    refine⟨qC,(qI 0 18++qI 19 1),ab (by rfl) (by rfl) ?_⟩
    try simp (disch:=omega) only [go_sem,seval]
    try rfl
   ·simp (disch:=omega) only [go_sem,hg]
    refine az (aX e.subs[n].road { aw with kind:=13,sgn:=e.subs[n].give }) [] ?_
    refine⟨qC,(qI 0 18++qI 19 1),ab (by rfl) (by rfl) ?_⟩
    try simp (disch:=omega) only [go_sem,seval]
    try rfl
   ·simp (disch:=omega) only [go_sem,hg]
    refine az (aX e.subs[n].road { aw with kind:=13,sgn:=e.subs[n].give }) [] ?_
    refine⟨qC,(qI 0 18++qI 19 1),ab (by rfl) (by rfl) ?_⟩
    try simp (disch:=omega) only [go_sem,seval]
    try rfl
   ·simp (disch:=omega) only [go_sem,hg]
    refine az (aX e.subs[n].road { aw with kind:=13,sgn:=e.subs[n].give }) [] ?_
    refine⟨qC,(qI 0 18++qI 19 1),ab (by rfl) (by rfl) ?_⟩
    try simp (disch:=omega) only [go_sem,seval]
    try rfl
   refine qX ?_
   refine aA (qI 0 7++qI 9 7++qI 18 1) (qC) _ (by simp only [go_sem];rfl) (by rfl) (by rfl) ?_
   simp (disch:=omega) only [go_sem,seval]
   exact⟨by simp,hms⟩
 rw [hf (by simp [we,b1])]
 refine qX ?_
 exact cc (qI 0 7++qI 9 7++qI 17 1)
theorem i5 (e:EndD) (a:AddrD) (hs:Small e):ae Tryz.prog 120 [.ag (e.cs 0),.ag a.cs] (e.hp false) (.tu [.ag ((aB e a).1.cs 7),.sc (.bo (aB e a).2)]) (e.hp false++(aB e a).1.hp true):=by
 have hC:=(qH (aD e))
 have hK:=(qH (be e))
 have hA:=dh e.own a.id (by have:=hs.own;omega)
 have hH:=fF e.done a.id (by have:=hs.done;omega)
 have hP:=fun h=>jH e.own { a with told:=false } h
 have hf:=YX (e:=e) (a:=a)
 have ht:=YY (e:=e) (a:=a)
 have ht2:=NL (e:=e) (a:=a)
 have hok:EW e a=(aj e && decide (bv e.own a.id < 0) && !lY e.done a.id):=rfl
 generalize aB e a=R at*
 generalize bn e.own { a with told:=false }=pa at*
 obtain⟨own1,ok1⟩:=pa
 dsimp only at hP ht ht2
 refine ga Tryz.func120 Tryz.ntmps120 Tryz.results120 fun E hE=>?_
 refine qK (hC) (qI 0 7) ?_
 refine qK (hP (by have:=hs.own;omega)) (qI 0 1) ?_
 refine qK (hK) (qI 0 7) ?_
 refine qB (fun b1=>?_) fun b1=>?_
 ·cases ok1 with
  |false=>
   rw [ht2 rfl]
   refine qX ?_
   exact cc (qI 0 7++qI 10 7)
  |true=>
   refine qX ?_
   refine qK (hA) (qI 0 1) ?_
   refine qB (fun b2=>?_) fun b2=>?_
   ·refine qK (hH) (qI 5 1) ?_
    refine qB (fun b3=>?_) fun b3=>?_
    ·rw [hf (by rw [hok];simp [b3])]
     refine qX ?_
     exact cc (qI 0 7++qI 10 7)
    rw [ht (by rw [hok,b1,decide_eq_true (by omega),b3];rfl)]
    refine qX ?_
    exact cc (qI 0 7++qI 18 1++qI 11 6)
   rw [hf (by rw [hok,decide_eq_false (by omega)];simp)]
   refine qX ?_
   exact cc (qI 0 7++qI 10 7)
 rw [hf (by simp [hok,b1])]
 refine qX ?_
 exact cc (qI 0 7++qI 10 7)
end
section
open Go.RowKit
theorem ie (e:EndD) (t:List UInt8):(aS e t).2.length≤3:=kV
theorem yg {e:EndD} {t:List UInt8} (hs:Small e):Small (cp e t).1:=by
 rw [cp];split
 ·exact⟨hs.own,hs.far,hs.subs,hs.halfs,hs.list,hs.done,hs.over⟩
 exact hs
theorem eQ {e:EndD} {t:List UInt8} (hs:Small e):Small (aS e t).1:=i3 (yg hs)
theorem gP {e:EndD} {m:Int} (hs:Small e):Small (bu e m).1:=by
 rw [bu];split
 ·refine⟨hs.own,hs.far,hs.subs,hs.halfs,?_,hs.done,hs.over⟩
  dsimp only
  rw [cz];split<;>exact hs.list
 exact hs
theorem df {e:EndD} {a:AddrD} (hs:Small e):Small (aB e a).1:=by
 rw [aB];split
 ·exact⟨rx hs.own,hs.far,hs.subs,hs.halfs,hs.list,hs.done,hs.over⟩
 exact hs
theorem f8 {e:EndD} {k:Int} (hs:Small e):Small (br e k).1:=by
 rw [br];split
 ·exact⟨hs.own,hs.far,by simpa only [cS,List.length_set] using hs.subs,hs.halfs,hs.list,hs.done,hs.over⟩
 exact hs
theorem jU (e:EndD) (k:Int):(br e k).2.length≤1:=by rw [br];split<;>simp
theorem fg {e:EndD} {n:Int} (hs:Small e):Small (bb e n).1:=by
 rw [bb];split
 ·rename_i h
  simp only [A8,Bool.and_eq_true] at h
  have:=(nU h.1.1).1
  exact⟨oT hs.own,hs.far,by simpa only [gO,List.length_map] using hs.subs,hs.halfs,hs.list,by have:=ky e.done n;dsimp only;omega,hs.over⟩
 exact hs
theorem i6 (e:EndD) (n:Int) (hs:Small e):(bb e n).2.length≤1048576:=by
 rw [bb];split
 ·rw [List.length_map]
  have:=jx (gO e n)
  have h2:(gO e n).length=e.subs.length:=by rw [gO,List.length_map]
  have:=hs.subs
  omega
 simp
theorem o0 {far:List AddrD}:∀ {l:List RoadD} {e:EndD},Small e→Small (gY far e l).1
 |[],_,h=>h
 |r::l,e,h=>o0 (l:=l) (mi h)
theorem uN {far:List AddrD}:∀ {l:List RoadD} {e:EndD},(gY far e l).2.length≤l.length
 |[],_=>Nat.le_refl _
 |r::l,e=>by
  have h1:=rU e r (bS far r.far)
  have h2:=uN (far:=far) (l:=l) (e:=(gw e r (bS far r.far)).1)
  rw [show (gY far e (r::l)).2=(gw e r (bS far r.far)).2++(gY far (gw e r (bS far r.far)).1 l).2 from rfl,List.length_append,List.length_cons]
  omega
theorem f9 {e:EndD} (hs:Small e):Small (bs e).1:=by
 rw [bs];split
 ·exact o0 hs
 exact hs
theorem jV (e:EndD):(bs e).2.length≤64:=by
 rw [bs];split
 ·exact Nat.le_trans uN (jP _ _)
 simp
theorem iH {e:EndD} (hs:Small e):Small (dt e).1:=by
 have hy:=mj e.halfs (e.now+1)
 have:=hs.halfs
 rw [dt];split
 ·split
  ·rw [ea];exact i3 ⟨hs.own,hs.far,by dsimp only;rw [List.length_map];exact hs.subs,by dsimp only [oU];omega,hs.list,hs.done,hs.over⟩
  rw [ea];exact i3 ⟨hs.own,hs.far,hs.subs,by dsimp only [oU];omega,hs.list,hs.done,hs.over⟩
 exact hs
theorem o1 (e:EndD) (l:List LetterD):(ea e l).2.length≤l.length+e.own.length+3:=by
 have h1:=jT e
 have h2:=kV (k:=3) (e:=e)
 rw [ea]
 simp only [List.length_append]
 omega
theorem nq (e:EndD):(dt e).2.length≤64:=by
 rw [dt];split
 ·rename_i h
  simp only [Fl,Bool.and_eq_true] at h
  have h8:=dr h.1.1
  have h6:=uM h.1.1
  have hfl:(e.subs.flatMap (eP e)).length≤e.subs.length:=nm (lc e) _
  split
  ·refine Nat.le_trans (o1 _ _) ?_
   show (e.subs.flatMap (eP e)).length+e.own.length+3≤64
   omega
  refine Nat.le_trans (o1 _ _) ?_
  show 0+e.own.length+3≤64
  omega
 simp
structure SmallD (w:WorldD):Prop where
 p:SmallWP w
 s:SmallS w
 oa:w.a.out.text.length≤1048576
 ob:w.b.out.text.length≤1048576
theorem jW {e:EndD} {t:List UInt8} (h:e.out.text.length≤1048576):(cp e t).1.out.text.length≤1048576:=by
 rw [cp];split
 ·dsimp only
  rw [fr];split
  ·rename_i ho
   simp only [i2,Bool.and_eq_true] at ho
   have F:=fq ho.1
   have:=nZ (t:=t) F
   have:=F.room
   dsimp only
   rw [List.length_append,List.length_take]
   omega
  exact h
 exact h
theorem lf {e:EndD} {m:Int} (h:SmallP e.inp):(bu e m).2.length≤1048576:=by
 have:=h.ready
 rw [bu];split
 ·dsimp only
  rw [cz];split
  ·dsimp only;rw [List.length_take];omega
  simp
 simp
theorem wk (w:WorldD) (pos many:Int) (text:List UInt8) (ad:AddrD) (le:LetterD) (hw:SmallD w) (htx:text.length≤1048576):
  ae Tryz.prog 68 [.sc (.pt 21 0 0),.ag (ActD.cs ⟨1,1,pos,many,text,ad,le⟩)] (w.hp true++[some ⟨[w.cs 0],61,51,true,false⟩]) (.sc (.int .i64 0))
  ([none,none,none,none,none,none,none,none,none,none,none,none,none,none,none,none,none,none,none,none,none,some ⟨[WorldD.cs (aq 1 { w with wroteA:=w.wroteA++text.take (cp w.a text).2,a:=(aS w.a text).1 } (aS w.a text).2) 22],61,51,true,false⟩]++WorldD.hp (aq 1 { w with wroteA:=w.wroteA++text.take (cp w.a text).2,a:=(aS w.a text).1 } (aS w.a text).2) true):=by
 have q1:=hw.s.wa
 have q2:=hw.s.wb
 have q3:=hw.s.ra
 have q4:=hw.s.rb
 have hX:=lP w.a text hw.p.s.a htx (jW hw.oa)
 have hsm:=eQ (t:=text) hw.p.s.a
 have hlen:=ie w.a text
 have hEA:ae Tryz.prog 144 [.ag (w.cs 0),.sc (.int .i64 1)] (w.hp false) (.ag (w.a.cs 21)) (w.hp false++w.a.hp true):=bF w 1 hw.p.s.a.own hw.p.s.a.far hw.p.s.a.subs hw.p.s.a.halfs hw.p.s.a.list hw.p.s.a.done hw.p.s.a.over hw.p.s.b.own hw.p.s.b.far hw.p.s.b.subs hw.p.s.b.halfs hw.p.s.b.list hw.p.s.b.done hw.p.s.b.over
 have hX2:=me w.a text hw.p.s.a htx
 have hwl:=ne w.a text
 obtain⟨wr,hwr⟩:∃ p,p=cp w.a text:=⟨_,rfl⟩
 rw [←hwr] at hX2 hwl⊢
 obtain⟨e0,n0⟩:=wr
 dsimp only at hX2 hwl⊢
 obtain⟨pr,hpr⟩:∃ p,p=aS w.a text:=⟨_,rfl⟩
 rw [←hpr] at hX hsm hlen⊢
 obtain⟨e1,l1⟩:=pr
 dsimp only at hX hsm hlen⊢
 have hset:=fL { w with wroteA:=w.wroteA++text.take n0 } e1
 have hpost:=eM { w with wroteA:=w.wroteA++text.take n0,a:=e1 } l1 ⟨hw.p.s.bag,hw.p.s.past,hw.p.s.keys,hw.p.s.tags,hw.p.s.nums,hw.p.s.ansA,hw.p.s.ansB⟩ (by first|omega|simp)
 have hends:=aE (side:=1) (l:=l1) (w:={ w with wroteA:=w.wroteA++text.take n0,a:=e1 })
 obtain⟨R,hR⟩:∃ R,R=aq 1 { w with wroteA:=w.wroteA++text.take n0,a:=e1 } l1:=⟨_,rfl⟩
 rw [←hR] at hpost hends⊢
 clear hR
 obtain⟨ra,rb,bag,past,wA,wB,rA,rB,known,nums,nsA,nsB⟩:=R
 obtain⟨keys,tags⟩:=known
 dsimp only at hends
 obtain⟨g1,g2,g3,g4,g5,g6⟩:=hends
 replace g1:=g1.symm
 replace g2:=g2.symm
 replace g3:=g3.symm
 replace g4:=g4.symm
 replace g5:=g5.symm
 replace g6:=g6.symm
 subst g1 g2 g3 g4 g5 g6
 have htk:(text.take n0).length=n0:=by rw [List.length_take];omega
 refine aN Tryz.func68 (by kernel_rfl) rfl fun E hE=>ac 400 ?_
 simp (disch:=omega) only [Tryz.ntmps68,Tryz.results68,go_sem,Nat.reduceEqDiff,Nat.reduceAdd,Nat.reduceSub,Int.reduceAdd,Int.reduceSub,Int.reduceToNat]
 refine aI [(5,6)] [] [(qU [0,8]),[0,1,2,3,4,6,5,7]] 22 hE (fun s=>s.at (qU [13,6]) [(5,.sc (.pt 30 0 0))] (s.hp++(w.a.hp true++[some ⟨[w.a.cs 23],25,45,true,false⟩]))) (by kernel_rfl) (qC) (by kernel_rfl) ?_ (ac 400 ?_)
 rotate_left
 rotate_right
 simp only [aQ]
 refine⟨aa 400 ?_,aa 400 ?_⟩
 ·simp (disch:=omega) only [go_sem]
  refine am (qC) (hEA) (qI 0 21) qM (by rfl) (by rfl) (aa 400 ?_)
  simp (disch:=omega) only [go_sem,Nat.reduceEqDiff,Nat.reduceAdd,Nat.reduceSub,Int.reduceAdd,Int.reduceSub,Int.reduceToNat]
  refine⟨qC,(qI 0 31),ab (by rfl) (by rfl) ?_⟩
  try simp (disch:=omega) only [go_sem,Nat.reduceEqDiff,Nat.reduceAdd,Nat.reduceSub,Int.reduceAdd,Int.reduceSub,Int.reduceToNat]
 ·simp (disch:=omega) only [go_sem]
  refine am (qC) (hEA) (qI 0 21) qM (by rfl) (by rfl) (aa 400 ?_)
  simp (disch:=omega) only [go_sem,Nat.reduceEqDiff,Nat.reduceAdd,Nat.reduceSub,Int.reduceAdd,Int.reduceSub,Int.reduceToNat]
  refine⟨qC,(qI 0 23++qI 24 7++qI 23 1),ab (by rfl) (by rfl) ?_⟩
  try simp (disch:=omega) only [go_sem,Nat.reduceEqDiff,Nat.reduceAdd,Nat.reduceSub,Int.reduceAdd,Int.reduceSub,Int.reduceToNat]
 try simp (disch:=omega) only [go_sem,Nat.reduceEqDiff,Nat.reduceAdd,Nat.reduceSub,Int.reduceAdd,Int.reduceSub,Int.reduceToNat]
 refine al (qC) (hX2) (qI 23 7) qM (by rfl) (ac 400 ?_)
 simp (disch:=omega) only [go_sem,Nat.reduceEqDiff,Nat.reduceAdd,Nat.reduceSub,Int.reduceAdd,Int.reduceSub,Int.reduceToNat]
 refine al (qC) (hX) (qI 23 7) qM (by rfl) (ac 400 ?_)
 simp (disch:=omega) only [go_sem,Nat.reduceEqDiff,Nat.reduceAdd,Nat.reduceSub,Int.reduceAdd,Int.reduceSub,Int.reduceToNat]
 refine ar (qU [0,12]) (by kernel_rfl) (qC) (by kernel_rfl) (aa 400 ?_)
 simp (disch:=omega) only [go_sem,Nat.reduceEqDiff,Nat.reduceAdd,Nat.reduceSub,Int.reduceAdd,Int.reduceSub,Int.reduceToNat]
 refine⟨qC,ac 400 ?_⟩
 try simp (disch:=omega) only [go_sem,Nat.reduceEqDiff,Nat.reduceAdd,Nat.reduceSub,Int.reduceAdd,Int.reduceSub,Int.reduceToNat]
 refine al (qC) (hset) (qI 0 21++qI 39 7++qI 21 1) qM (by rfl) (ac 400 ?_)
 simp (disch:=omega) only [go_sem,Nat.reduceEqDiff,Nat.reduceAdd,Nat.reduceSub,Int.reduceAdd,Int.reduceSub,Int.reduceToNat]
 refine al (qC) (hpost) (qI 39 7++qI 7 15++qI 46 1) qM (by rfl) (ac 400 ?_)
 simp (disch:=omega) only [go_sem,Nat.reduceEqDiff,Nat.reduceAdd,Nat.reduceSub,Int.reduceAdd,Int.reduceSub,Int.reduceToNat]
 refine aA (qI 0 22++qI 39 7++qI 7 7++qI 47 7) (qC) _ (by simp only [go_sem];rfl) (by rfl) (by rfl) ?_
 simp (disch:=omega) only [go_sem,Nat.reduceEqDiff,Nat.reduceAdd,Nat.reduceSub,Int.reduceAdd,Int.reduceSub,Int.reduceToNat]
theorem wl (w:WorldD) (pos many:Int) (text:List UInt8) (ad:AddrD) (le:LetterD) (hw:SmallD w) (htx:text.length≤1048576):
  ae Tryz.prog 68 [.sc (.pt 21 0 0),.ag (ActD.cs ⟨2,1,pos,many,text,ad,le⟩)] (w.hp true++[some ⟨[w.cs 0],61,51,true,false⟩]) (.sc (.int .i64 0))
  ([none,none,none,none,none,none,none,none,none,none,none,none,none,none,none,none,none,none,none,none,none,some ⟨[WorldD.cs (aq 1 { w with readA:=w.readA++(bu w.a many).2,a:=((bu w.a many).1,([]:List LetterD)).1 } ((bu w.a many).1,([]:List LetterD)).2) 22],61,51,true,false⟩]++WorldD.hp (aq 1 { w with readA:=w.readA++(bu w.a many).2,a:=((bu w.a many).1,([]:List LetterD)).1 } ((bu w.a many).1,([]:List LetterD)).2) true):=by
 have q1:=hw.s.wa
 have q2:=hw.s.wb
 have q3:=hw.s.ra
 have q4:=hw.s.rb
 have hX:=uE w.a many hw.p.s.a hw.p.pa
 have hsm:=gP (m:=many) hw.p.s.a
 have hEA:ae Tryz.prog 144 [.ag (w.cs 0),.sc (.int .i64 1)] (w.hp false) (.ag (w.a.cs 21)) (w.hp false++w.a.hp true):=bF w 1 hw.p.s.a.own hw.p.s.a.far hw.p.s.a.subs hw.p.s.a.halfs hw.p.s.a.list hw.p.s.a.done hw.p.s.a.over hw.p.s.b.own hw.p.s.b.far hw.p.s.b.subs hw.p.s.b.halfs hw.p.s.b.list hw.p.s.b.done hw.p.s.b.over
 obtain⟨pr,hpr⟩:∃ p,p=bu w.a many:=⟨_,rfl⟩
 have hrl:(bu w.a many).2.length≤1048576:=lf hw.p.pa
 rw [←hpr] at hX hsm hrl⊢
 obtain⟨e1,t1⟩:=pr
 dsimp only at hX hsm hrl⊢
 obtain⟨l1,hl1⟩:∃ l:List LetterD,l=[]:=⟨_,rfl⟩
 have hlen:l1.length≤1:=by rw [hl1];simp
 have hset:=fL { w with readA:=w.readA++t1 } e1
 have hpost:=eM { w with readA:=w.readA++t1,a:=e1 } [] ⟨hw.p.s.bag,hw.p.s.past,hw.p.s.keys,hw.p.s.tags,hw.p.s.nums,hw.p.s.ansA,hw.p.s.ansB⟩ (by first|omega|simp)
 have hends:=aE (side:=1) (l:=[]) (w:={ w with readA:=w.readA++t1,a:=e1 })
 obtain⟨R,hR⟩:∃ R,R=aq 1 { w with readA:=w.readA++t1,a:=e1 } []:=⟨_,rfl⟩
 rw [←hR] at hpost hends⊢
 clear hR
 obtain⟨ra,rb,bag,past,wA,wB,rA,rB,known,nums,nsA,nsB⟩:=R
 obtain⟨keys,tags⟩:=known
 dsimp only at hends
 obtain⟨g1,g2,g3,g4,g5,g6⟩:=hends
 replace g1:=g1.symm
 replace g2:=g2.symm
 replace g3:=g3.symm
 replace g4:=g4.symm
 replace g5:=g5.symm
 replace g6:=g6.symm
 subst g1 g2 g3 g4 g5 g6
 refine aN Tryz.func68 (by kernel_rfl) rfl fun E hE=>ac 400 ?_
 simp (disch:=omega) only [Tryz.ntmps68,Tryz.results68,go_sem,Nat.reduceEqDiff,Nat.reduceAdd,Nat.reduceSub,Int.reduceAdd,Int.reduceSub,Int.reduceToNat]
 refine aI [(5,6)] [] [(qU [0,8]),[0,1,2,3,4,6,5,7]] 22 hE (fun s=>s.at (qU [13,6]) [(5,.sc (.pt 30 0 0))] (s.hp++(w.a.hp true++[some ⟨[w.a.cs 23],25,45,true,false⟩]))) (by kernel_rfl) (qC) (by kernel_rfl) ?_ (ac 400 ?_)
 rotate_left
 rotate_right
 simp only [aQ]
 refine⟨aa 400 ?_,aa 400 ?_⟩
 ·simp (disch:=omega) only [go_sem]
  refine am (qC) (hEA) (qI 0 21) qM (by rfl) (by rfl) (aa 400 ?_)
  simp (disch:=omega) only [go_sem,Nat.reduceEqDiff,Nat.reduceAdd,Nat.reduceSub,Int.reduceAdd,Int.reduceSub,Int.reduceToNat]
  refine⟨qC,(qI 0 31),ab (by rfl) (by rfl) ?_⟩
  try simp (disch:=omega) only [go_sem,Nat.reduceEqDiff,Nat.reduceAdd,Nat.reduceSub,Int.reduceAdd,Int.reduceSub,Int.reduceToNat]
 ·simp (disch:=omega) only [go_sem]
  refine am (qC) (hEA) (qI 0 21) qM (by rfl) (by rfl) (aa 400 ?_)
  simp (disch:=omega) only [go_sem,Nat.reduceEqDiff,Nat.reduceAdd,Nat.reduceSub,Int.reduceAdd,Int.reduceSub,Int.reduceToNat]
  refine⟨qC,(qI 0 23++qI 24 7++qI 23 1),ab (by rfl) (by rfl) ?_⟩
  try simp (disch:=omega) only [go_sem,Nat.reduceEqDiff,Nat.reduceAdd,Nat.reduceSub,Int.reduceAdd,Int.reduceSub,Int.reduceToNat]
 try simp (disch:=omega) only [go_sem,Nat.reduceEqDiff,Nat.reduceAdd,Nat.reduceSub,Int.reduceAdd,Int.reduceSub,Int.reduceToNat]
 refine al (qC) (hX) (qI 23 7) qM (by rfl) (ac 400 ?_)
 simp (disch:=omega) only [go_sem,Nat.reduceEqDiff,Nat.reduceAdd,Nat.reduceSub,Int.reduceAdd,Int.reduceSub,Int.reduceToNat]
 refine al (qC) (hset) (qI 0 21++qI 31 7++qI 21 1) qM (by rfl) (ac 400 ?_)
 simp (disch:=omega) only [go_sem,Nat.reduceEqDiff,Nat.reduceAdd,Nat.reduceSub,Int.reduceAdd,Int.reduceSub,Int.reduceToNat]
 refine al (qC) (hpost) (qI 31 7++qI 7 15++qO 1) qM (by rfl) (ac 400 ?_)
 simp (disch:=omega) only [go_sem,Nat.reduceEqDiff,Nat.reduceAdd,Nat.reduceSub,Int.reduceAdd,Int.reduceSub,Int.reduceToNat]
 refine aA (qI 0 22++qI 31 7++qI 7 7++qI 39 7) (qC) _ (by simp only [go_sem];rfl) (by rfl) (by rfl) ?_
 simp (disch:=omega) only [go_sem,Nat.reduceEqDiff,Nat.reduceAdd,Nat.reduceSub,Int.reduceAdd,Int.reduceSub,Int.reduceToNat]
theorem wm (w:WorldD) (pos many:Int) (text:List UInt8) (ad:AddrD) (le:LetterD) (hw:SmallD w) (htx:text.length≤1048576):
  ae Tryz.prog 68 [.sc (.pt 21 0 0),.ag (ActD.cs ⟨4,1,pos,many,text,ad,le⟩)] (w.hp true++[some ⟨[w.cs 0],61,51,true,false⟩]) (.sc (.int .i64 0))
  ([none,none,none,none,none,none,none,none,none,none,none,none,none,none,none,none,none,none,none,none,none,some ⟨[WorldD.cs (aq 1 { w with a:=(bs w.a).1 } (bs w.a).2) 22],61,51,true,false⟩]++WorldD.hp (aq 1 { w with a:=(bs w.a).1 } (bs w.a).2) true):=by
 have q1:=hw.s.wa
 have q2:=hw.s.wb
 have q3:=hw.s.ra
 have q4:=hw.s.rb
 have hX:=oW w.a hw.p.s.a
 have hsm:=f9 hw.p.s.a
 have hlen:=jV w.a
 have hEA:ae Tryz.prog 144 [.ag (w.cs 0),.sc (.int .i64 1)] (w.hp false) (.ag (w.a.cs 21)) (w.hp false++w.a.hp true):=bF w 1 hw.p.s.a.own hw.p.s.a.far hw.p.s.a.subs hw.p.s.a.halfs hw.p.s.a.list hw.p.s.a.done hw.p.s.a.over hw.p.s.b.own hw.p.s.b.far hw.p.s.b.subs hw.p.s.b.halfs hw.p.s.b.list hw.p.s.b.done hw.p.s.b.over
 obtain⟨pr,hpr⟩:∃ p,p=bs w.a:=⟨_,rfl⟩
 rw [←hpr] at hX hsm hlen⊢
 obtain⟨e1,l1⟩:=pr
 dsimp only at hX hsm hlen⊢
 have hset:=fL w e1
 have hpost:=eM { w with a:=e1 } l1 ⟨hw.p.s.bag,hw.p.s.past,hw.p.s.keys,hw.p.s.tags,hw.p.s.nums,hw.p.s.ansA,hw.p.s.ansB⟩ (by first|omega|simp)
 have hends:=aE (side:=1) (l:=l1) (w:={ w with a:=e1 })
 obtain⟨R,hR⟩:∃ R,R=aq 1 { w with a:=e1 } l1:=⟨_,rfl⟩
 rw [←hR] at hpost hends⊢
 clear hR
 obtain⟨ra,rb,bag,past,wA,wB,rA,rB,known,nums,nsA,nsB⟩:=R
 obtain⟨keys,tags⟩:=known
 dsimp only at hends
 obtain⟨g1,g2,g3,g4,g5,g6⟩:=hends
 replace g1:=g1.symm
 replace g2:=g2.symm
 replace g3:=g3.symm
 replace g4:=g4.symm
 replace g5:=g5.symm
 replace g6:=g6.symm
 subst g1 g2 g3 g4 g5 g6
 refine aN Tryz.func68 (by kernel_rfl) rfl fun E hE=>ac 400 ?_
 simp (disch:=omega) only [Tryz.ntmps68,Tryz.results68,go_sem,Nat.reduceEqDiff,Nat.reduceAdd,Nat.reduceSub,Int.reduceAdd,Int.reduceSub,Int.reduceToNat]
 refine aI [(5,6)] [] [(qU [0,8]),[0,1,2,3,4,6,5,7]] 22 hE (fun s=>s.at (qU [13,6]) [(5,.sc (.pt 30 0 0))] (s.hp++(w.a.hp true++[some ⟨[w.a.cs 23],25,45,true,false⟩]))) (by kernel_rfl) (qC) (by kernel_rfl) ?_ (ac 400 ?_)
 rotate_left
 rotate_right
 simp only [aQ]
 refine⟨aa 400 ?_,aa 400 ?_⟩
 ·simp (disch:=omega) only [go_sem]
  refine am (qC) (hEA) (qI 0 21) qM (by rfl) (by rfl) (aa 400 ?_)
  simp (disch:=omega) only [go_sem,Nat.reduceEqDiff,Nat.reduceAdd,Nat.reduceSub,Int.reduceAdd,Int.reduceSub,Int.reduceToNat]
  refine⟨qC,(qI 0 31),ab (by rfl) (by rfl) ?_⟩
  try simp (disch:=omega) only [go_sem,Nat.reduceEqDiff,Nat.reduceAdd,Nat.reduceSub,Int.reduceAdd,Int.reduceSub,Int.reduceToNat]
 ·simp (disch:=omega) only [go_sem]
  refine am (qC) (hEA) (qI 0 21) qM (by rfl) (by rfl) (aa 400 ?_)
  simp (disch:=omega) only [go_sem,Nat.reduceEqDiff,Nat.reduceAdd,Nat.reduceSub,Int.reduceAdd,Int.reduceSub,Int.reduceToNat]
  refine⟨qC,(qI 0 23++qI 24 7++qI 23 1),ab (by rfl) (by rfl) ?_⟩
  try simp (disch:=omega) only [go_sem,Nat.reduceEqDiff,Nat.reduceAdd,Nat.reduceSub,Int.reduceAdd,Int.reduceSub,Int.reduceToNat]
 try simp (disch:=omega) only [go_sem,Nat.reduceEqDiff,Nat.reduceAdd,Nat.reduceSub,Int.reduceAdd,Int.reduceSub,Int.reduceToNat]
 refine al (qC) (hX) (qI 23 7) qM (by rfl) (ac 400 ?_)
 simp (disch:=omega) only [go_sem,Nat.reduceEqDiff,Nat.reduceAdd,Nat.reduceSub,Int.reduceAdd,Int.reduceSub,Int.reduceToNat]
 refine al (qC) (hset) (qI 0 21++qI 31 7++qI 21 1) qM (by rfl) (ac 400 ?_)
 simp (disch:=omega) only [go_sem,Nat.reduceEqDiff,Nat.reduceAdd,Nat.reduceSub,Int.reduceAdd,Int.reduceSub,Int.reduceToNat]
 refine al (qC) (hpost) (qI 31 7++qI 7 15++qI 38 1) qM (by rfl) (ac 400 ?_)
 simp (disch:=omega) only [go_sem,Nat.reduceEqDiff,Nat.reduceAdd,Nat.reduceSub,Int.reduceAdd,Int.reduceSub,Int.reduceToNat]
 refine aA (qI 0 22++qI 31 7++qI 7 7++qI 39 7) (qC) _ (by simp only [go_sem];rfl) (by rfl) (by rfl) ?_
 simp (disch:=omega) only [go_sem,Nat.reduceEqDiff,Nat.reduceAdd,Nat.reduceSub,Int.reduceAdd,Int.reduceSub,Int.reduceToNat]
theorem wn (w:WorldD) (pos many:Int) (text:List UInt8) (ad:AddrD) (le:LetterD) (hw:SmallD w) (htx:text.length≤1048576) (hsd:aZ ad.addr=1) (hgood:(aB w.a ad).2=true):
  ae Tryz.prog 68 [.sc (.pt 21 0 0),.ag (ActD.cs ⟨5,1,pos,many,text,ad,le⟩)] (w.hp true++[some ⟨[w.cs 0],61,51,true,false⟩]) (.sc (.int .i64 0))
  ([none,none,none,none,none,none,none,none,none,none,none,none,none,none,none,none,none,none,none,none,none,some ⟨[WorldD.cs (aq 1 { w with a:=((aB w.a ad).1,([]:List LetterD)).1 } ((aB w.a ad).1,([]:List LetterD)).2) 22],61,51,true,false⟩]++WorldD.hp (aq 1 { w with a:=((aB w.a ad).1,([]:List LetterD)).1 } ((aB w.a ad).1,([]:List LetterD)).2) true):=by
 have q1:=hw.s.wa
 have q2:=hw.s.wb
 have q3:=hw.s.ra
 have q4:=hw.s.rb
 have hX:=i4 w.a ad hw.p.s.a
 have hsm:=df (a:=ad) hw.p.s.a
 have hEA:ae Tryz.prog 144 [.ag (w.cs 0),.sc (.int .i64 1)] (w.hp false) (.ag (w.a.cs 21)) (w.hp false++w.a.hp true):=bF w 1 hw.p.s.a.own hw.p.s.a.far hw.p.s.a.subs hw.p.s.a.halfs hw.p.s.a.list hw.p.s.a.done hw.p.s.a.over hw.p.s.b.own hw.p.s.b.far hw.p.s.b.subs hw.p.s.b.halfs hw.p.s.b.list hw.p.s.b.done hw.p.s.b.over
 obtain⟨pr,hpr⟩:∃ p,p=aB w.a ad:=⟨_,rfl⟩
 rw [←hpr] at hX hsm hgood⊢
 obtain⟨e1,ok1⟩:=pr
 dsimp only at hX hsm hgood⊢
 subst hgood
 obtain⟨l1,hl1⟩:∃ l:List LetterD,l=[]:=⟨_,rfl⟩
 have hlen:l1.length≤1:=by rw [hl1];simp
 have hset:=fL w e1
 have hpost:=eM { w with a:=e1 } [] ⟨hw.p.s.bag,hw.p.s.past,hw.p.s.keys,hw.p.s.tags,hw.p.s.nums,hw.p.s.ansA,hw.p.s.ansB⟩ (by first|omega|simp)
 have hends:=aE (side:=1) (l:=[]) (w:={ w with a:=e1 })
 obtain⟨R,hR⟩:∃ R,R=aq 1 { w with a:=e1 } []:=⟨_,rfl⟩
 rw [←hR] at hpost hends⊢
 clear hR
 obtain⟨ra,rb,bag,past,wA,wB,rA,rB,known,nums,nsA,nsB⟩:=R
 obtain⟨keys,tags⟩:=known
 dsimp only at hends
 obtain⟨g1,g2,g3,g4,g5,g6⟩:=hends
 replace g1:=g1.symm
 replace g2:=g2.symm
 replace g3:=g3.symm
 replace g4:=g4.symm
 replace g5:=g5.symm
 replace g6:=g6.symm
 subst g1 g2 g3 g4 g5 g6
 have hSd:=dC ad.addr
 rw [hsd] at hSd
 refine aN Tryz.func68 (by kernel_rfl) rfl fun E hE=>ac 400 ?_
 simp (disch:=omega) only [Tryz.ntmps68,Tryz.results68,go_sem,Nat.reduceEqDiff,Nat.reduceAdd,Nat.reduceSub,Int.reduceAdd,Int.reduceSub,Int.reduceToNat]
 refine aI [(5,6)] [] [(qU [0,8]),[0,1,2,3,4,6,5,7]] 22 hE (fun s=>s.at (qU [13,6]) [(5,.sc (.pt 30 0 0))] (s.hp++(w.a.hp true++[some ⟨[w.a.cs 23],25,45,true,false⟩]))) (by kernel_rfl) (qC) (by kernel_rfl) ?_ (ac 400 ?_)
 rotate_left
 rotate_right
 simp only [aQ]
 refine⟨aa 400 ?_,aa 400 ?_⟩
 ·simp (disch:=omega) only [go_sem]
  refine am (qC) (hEA) (qI 0 21) qM (by rfl) (by rfl) (aa 400 ?_)
  simp (disch:=omega) only [go_sem,Nat.reduceEqDiff,Nat.reduceAdd,Nat.reduceSub,Int.reduceAdd,Int.reduceSub,Int.reduceToNat]
  refine⟨qC,(qI 0 31),ab (by rfl) (by rfl) ?_⟩
  try simp (disch:=omega) only [go_sem,Nat.reduceEqDiff,Nat.reduceAdd,Nat.reduceSub,Int.reduceAdd,Int.reduceSub,Int.reduceToNat]
 ·simp (disch:=omega) only [go_sem]
  refine am (qC) (hEA) (qI 0 21) qM (by rfl) (by rfl) (aa 400 ?_)
  simp (disch:=omega) only [go_sem,Nat.reduceEqDiff,Nat.reduceAdd,Nat.reduceSub,Int.reduceAdd,Int.reduceSub,Int.reduceToNat]
  refine⟨qC,(qI 0 23++qI 24 7++qI 23 1),ab (by rfl) (by rfl) ?_⟩
  try simp (disch:=omega) only [go_sem,Nat.reduceEqDiff,Nat.reduceAdd,Nat.reduceSub,Int.reduceAdd,Int.reduceSub,Int.reduceToNat]
 try simp (disch:=omega) only [go_sem,Nat.reduceEqDiff,Nat.reduceAdd,Nat.reduceSub,Int.reduceAdd,Int.reduceSub,Int.reduceToNat]
 refine al (qC) (hX) (qI 23 7) qM (by rfl) (ac 400 ?_)
 simp (disch:=omega) only [go_sem,Nat.reduceEqDiff,Nat.reduceAdd,Nat.reduceSub,Int.reduceAdd,Int.reduceSub,Int.reduceToNat]
 refine ar (qU [0,3,4,2,3,1,6,5]) (by kernel_rfl) (qC) (by kernel_rfl) (aa 400 ?_)
 simp (disch:=omega) only [go_sem,Nat.reduceEqDiff,Nat.reduceAdd,Nat.reduceSub,Int.reduceAdd,Int.reduceSub,Int.reduceToNat]
 refine am (qC) (hSd) [] qM (by rfl) (by rfl) (aa 400 ?_)
 simp (disch:=omega) only [go_sem,Nat.reduceEqDiff,Nat.reduceAdd,Nat.reduceSub,Int.reduceAdd,Int.reduceSub,Int.reduceToNat]
 refine⟨qC,ac 400 ?_⟩
 try simp (disch:=omega) only [go_sem,Nat.reduceEqDiff,Nat.reduceAdd,Nat.reduceSub,Int.reduceAdd,Int.reduceSub,Int.reduceToNat]
 refine al (qC) (hset) (qI 0 21++qI 31 7++qI 21 1) qM (by rfl) (ac 400 ?_)
 simp (disch:=omega) only [go_sem,Nat.reduceEqDiff,Nat.reduceAdd,Nat.reduceSub,Int.reduceAdd,Int.reduceSub,Int.reduceToNat]
 refine al (qC) (hpost) (qI 31 7++qI 7 15++qO 1) qM (by rfl) (ac 400 ?_)
 simp (disch:=omega) only [go_sem,Nat.reduceEqDiff,Nat.reduceAdd,Nat.reduceSub,Int.reduceAdd,Int.reduceSub,Int.reduceToNat]
 refine aA (qI 0 22++qI 31 7++qI 7 7++qI 39 7) (qC) _ (by simp only [go_sem];rfl) (by rfl) (by rfl) ?_
 simp (disch:=omega) only [go_sem,Nat.reduceEqDiff,Nat.reduceAdd,Nat.reduceSub,Int.reduceAdd,Int.reduceSub,Int.reduceToNat]
theorem wo (w:WorldD) (pos many:Int) (text:List UInt8) (ad:AddrD) (le:LetterD) (hw:SmallD w) (htx:text.length≤1048576):
  ae Tryz.prog 68 [.sc (.pt 21 0 0),.ag (ActD.cs ⟨6,1,pos,many,text,ad,le⟩)] (w.hp true++[some ⟨[w.cs 0],61,51,true,false⟩]) (.sc (.int .i64 0))
  ([none,none,none,none,none,none,none,none,none,none,none,none,none,none,none,none,none,none,none,none,none,some ⟨[WorldD.cs (aq 1 { w with a:=(bb w.a pos).1 } (bb w.a pos).2) 22],61,51,true,false⟩]++WorldD.hp (aq 1 { w with a:=(bb w.a pos).1 } (bb w.a pos).2) true):=by
 have q1:=hw.s.wa
 have q2:=hw.s.wb
 have q3:=hw.s.ra
 have q4:=hw.s.rb
 have hX:=nk w.a pos hw.p.s.a
 have hsm:=fg (n:=pos) hw.p.s.a
 have hlen:=i6 w.a pos hw.p.s.a
 have hEA:ae Tryz.prog 144 [.ag (w.cs 0),.sc (.int .i64 1)] (w.hp false) (.ag (w.a.cs 21)) (w.hp false++w.a.hp true):=bF w 1 hw.p.s.a.own hw.p.s.a.far hw.p.s.a.subs hw.p.s.a.halfs hw.p.s.a.list hw.p.s.a.done hw.p.s.a.over hw.p.s.b.own hw.p.s.b.far hw.p.s.b.subs hw.p.s.b.halfs hw.p.s.b.list hw.p.s.b.done hw.p.s.b.over
 obtain⟨pr,hpr⟩:∃ p,p=bb w.a pos:=⟨_,rfl⟩
 rw [←hpr] at hX hsm hlen⊢
 obtain⟨e1,l1⟩:=pr
 dsimp only at hX hsm hlen⊢
 have hset:=fL w e1
 have hpost:=eM { w with a:=e1 } l1 ⟨hw.p.s.bag,hw.p.s.past,hw.p.s.keys,hw.p.s.tags,hw.p.s.nums,hw.p.s.ansA,hw.p.s.ansB⟩ (by first|omega|simp)
 have hends:=aE (side:=1) (l:=l1) (w:={ w with a:=e1 })
 obtain⟨R,hR⟩:∃ R,R=aq 1 { w with a:=e1 } l1:=⟨_,rfl⟩
 rw [←hR] at hpost hends⊢
 clear hR
 obtain⟨ra,rb,bag,past,wA,wB,rA,rB,known,nums,nsA,nsB⟩:=R
 obtain⟨keys,tags⟩:=known
 dsimp only at hends
 obtain⟨g1,g2,g3,g4,g5,g6⟩:=hends
 replace g1:=g1.symm
 replace g2:=g2.symm
 replace g3:=g3.symm
 replace g4:=g4.symm
 replace g5:=g5.symm
 replace g6:=g6.symm
 subst g1 g2 g3 g4 g5 g6
 refine aN Tryz.func68 (by kernel_rfl) rfl fun E hE=>ac 400 ?_
 simp (disch:=omega) only [Tryz.ntmps68,Tryz.results68,go_sem,Nat.reduceEqDiff,Nat.reduceAdd,Nat.reduceSub,Int.reduceAdd,Int.reduceSub,Int.reduceToNat]
 refine aI [(5,6)] [] [(qU [0,8]),[0,1,2,3,4,6,5,7]] 22 hE (fun s=>s.at (qU [13,6]) [(5,.sc (.pt 30 0 0))] (s.hp++(w.a.hp true++[some ⟨[w.a.cs 23],25,45,true,false⟩]))) (by kernel_rfl) (qC) (by kernel_rfl) ?_ (ac 400 ?_)
 rotate_left
 rotate_right
 simp only [aQ]
 refine⟨aa 400 ?_,aa 400 ?_⟩
 ·simp (disch:=omega) only [go_sem]
  refine am (qC) (hEA) (qI 0 21) qM (by rfl) (by rfl) (aa 400 ?_)
  simp (disch:=omega) only [go_sem,Nat.reduceEqDiff,Nat.reduceAdd,Nat.reduceSub,Int.reduceAdd,Int.reduceSub,Int.reduceToNat]
  refine⟨qC,(qI 0 31),ab (by rfl) (by rfl) ?_⟩
  try simp (disch:=omega) only [go_sem,Nat.reduceEqDiff,Nat.reduceAdd,Nat.reduceSub,Int.reduceAdd,Int.reduceSub,Int.reduceToNat]
 ·simp (disch:=omega) only [go_sem]
  refine am (qC) (hEA) (qI 0 21) qM (by rfl) (by rfl) (aa 400 ?_)
  simp (disch:=omega) only [go_sem,Nat.reduceEqDiff,Nat.reduceAdd,Nat.reduceSub,Int.reduceAdd,Int.reduceSub,Int.reduceToNat]
  refine⟨qC,(qI 0 23++qI 24 7++qI 23 1),ab (by rfl) (by rfl) ?_⟩
  try simp (disch:=omega) only [go_sem,Nat.reduceEqDiff,Nat.reduceAdd,Nat.reduceSub,Int.reduceAdd,Int.reduceSub,Int.reduceToNat]
 try simp (disch:=omega) only [go_sem,Nat.reduceEqDiff,Nat.reduceAdd,Nat.reduceSub,Int.reduceAdd,Int.reduceSub,Int.reduceToNat]
 refine al (qC) (hX) (qI 23 7) qM (by rfl) (ac 400 ?_)
 simp (disch:=omega) only [go_sem,Nat.reduceEqDiff,Nat.reduceAdd,Nat.reduceSub,Int.reduceAdd,Int.reduceSub,Int.reduceToNat]
 refine al (qC) (hset) (qI 0 21++qI 31 7++qI 21 1) qM (by rfl) (ac 400 ?_)
 simp (disch:=omega) only [go_sem,Nat.reduceEqDiff,Nat.reduceAdd,Nat.reduceSub,Int.reduceAdd,Int.reduceSub,Int.reduceToNat]
 refine al (qC) (hpost) (qI 31 7++qI 7 15++qI 38 1) qM (by rfl) (ac 400 ?_)
 simp (disch:=omega) only [go_sem,Nat.reduceEqDiff,Nat.reduceAdd,Nat.reduceSub,Int.reduceAdd,Int.reduceSub,Int.reduceToNat]
 refine aA (qI 0 22++qI 31 7++qI 7 7++qI 39 7) (qC) _ (by simp only [go_sem];rfl) (by rfl) (by rfl) ?_
 simp (disch:=omega) only [go_sem,Nat.reduceEqDiff,Nat.reduceAdd,Nat.reduceSub,Int.reduceAdd,Int.reduceSub,Int.reduceToNat]
theorem wq (w:WorldD) (pos many:Int) (text:List UInt8) (ad:AddrD) (le:LetterD) (hw:SmallD w) (htx:text.length≤1048576):
  ae Tryz.prog 68 [.sc (.pt 21 0 0),.ag (ActD.cs ⟨7,1,pos,many,text,ad,le⟩)] (w.hp true++[some ⟨[w.cs 0],61,51,true,false⟩]) (.sc (.int .i64 0))
  ([none,none,none,none,none,none,none,none,none,none,none,none,none,none,none,none,none,none,none,none,none,some ⟨[WorldD.cs (aq 1 { w with a:=(br w.a pos).1 } (br w.a pos).2) 22],61,51,true,false⟩]++WorldD.hp (aq 1 { w with a:=(br w.a pos).1 } (br w.a pos).2) true):=by
 have q1:=hw.s.wa
 have q2:=hw.s.wb
 have q3:=hw.s.ra
 have q4:=hw.s.rb
 have hX:=si w.a pos hw.p.s.a
 have hsm:=f8 (k:=pos) hw.p.s.a
 have hlen:=jU w.a pos
 have hEA:ae Tryz.prog 144 [.ag (w.cs 0),.sc (.int .i64 1)] (w.hp false) (.ag (w.a.cs 21)) (w.hp false++w.a.hp true):=bF w 1 hw.p.s.a.own hw.p.s.a.far hw.p.s.a.subs hw.p.s.a.halfs hw.p.s.a.list hw.p.s.a.done hw.p.s.a.over hw.p.s.b.own hw.p.s.b.far hw.p.s.b.subs hw.p.s.b.halfs hw.p.s.b.list hw.p.s.b.done hw.p.s.b.over
 obtain⟨pr,hpr⟩:∃ p,p=br w.a pos:=⟨_,rfl⟩
 rw [←hpr] at hX hsm hlen⊢
 obtain⟨e1,l1⟩:=pr
 dsimp only at hX hsm hlen⊢
 have hset:=fL w e1
 have hpost:=eM { w with a:=e1 } l1 ⟨hw.p.s.bag,hw.p.s.past,hw.p.s.keys,hw.p.s.tags,hw.p.s.nums,hw.p.s.ansA,hw.p.s.ansB⟩ (by first|omega|simp)
 have hends:=aE (side:=1) (l:=l1) (w:={ w with a:=e1 })
 obtain⟨R,hR⟩:∃ R,R=aq 1 { w with a:=e1 } l1:=⟨_,rfl⟩
 rw [←hR] at hpost hends⊢
 clear hR
 obtain⟨ra,rb,bag,past,wA,wB,rA,rB,known,nums,nsA,nsB⟩:=R
 obtain⟨keys,tags⟩:=known
 dsimp only at hends
 obtain⟨g1,g2,g3,g4,g5,g6⟩:=hends
 replace g1:=g1.symm
 replace g2:=g2.symm
 replace g3:=g3.symm
 replace g4:=g4.symm
 replace g5:=g5.symm
 replace g6:=g6.symm
 subst g1 g2 g3 g4 g5 g6
 refine aN Tryz.func68 (by kernel_rfl) rfl fun E hE=>ac 400 ?_
 simp (disch:=omega) only [Tryz.ntmps68,Tryz.results68,go_sem,Nat.reduceEqDiff,Nat.reduceAdd,Nat.reduceSub,Int.reduceAdd,Int.reduceSub,Int.reduceToNat]
 refine aI [(5,6)] [] [(qU [0,8]),[0,1,2,3,4,6,5,7]] 22 hE (fun s=>s.at (qU [13,6]) [(5,.sc (.pt 30 0 0))] (s.hp++(w.a.hp true++[some ⟨[w.a.cs 23],25,45,true,false⟩]))) (by kernel_rfl) (qC) (by kernel_rfl) ?_ (ac 400 ?_)
 rotate_left
 rotate_right
 simp only [aQ]
 refine⟨aa 400 ?_,aa 400 ?_⟩
 ·simp (disch:=omega) only [go_sem]
  refine am (qC) (hEA) (qI 0 21) qM (by rfl) (by rfl) (aa 400 ?_)
  simp (disch:=omega) only [go_sem,Nat.reduceEqDiff,Nat.reduceAdd,Nat.reduceSub,Int.reduceAdd,Int.reduceSub,Int.reduceToNat]
  refine⟨qC,(qI 0 31),ab (by rfl) (by rfl) ?_⟩
  try simp (disch:=omega) only [go_sem,Nat.reduceEqDiff,Nat.reduceAdd,Nat.reduceSub,Int.reduceAdd,Int.reduceSub,Int.reduceToNat]
 ·simp (disch:=omega) only [go_sem]
  refine am (qC) (hEA) (qI 0 21) qM (by rfl) (by rfl) (aa 400 ?_)
  simp (disch:=omega) only [go_sem,Nat.reduceEqDiff,Nat.reduceAdd,Nat.reduceSub,Int.reduceAdd,Int.reduceSub,Int.reduceToNat]
  refine⟨qC,(qI 0 23++qI 24 7++qI 23 1),ab (by rfl) (by rfl) ?_⟩
  try simp (disch:=omega) only [go_sem,Nat.reduceEqDiff,Nat.reduceAdd,Nat.reduceSub,Int.reduceAdd,Int.reduceSub,Int.reduceToNat]
 try simp (disch:=omega) only [go_sem,Nat.reduceEqDiff,Nat.reduceAdd,Nat.reduceSub,Int.reduceAdd,Int.reduceSub,Int.reduceToNat]
 refine al (qC) (hX) (qI 23 7) qM (by rfl) (ac 400 ?_)
 simp (disch:=omega) only [go_sem,Nat.reduceEqDiff,Nat.reduceAdd,Nat.reduceSub,Int.reduceAdd,Int.reduceSub,Int.reduceToNat]
 refine al (qC) (hset) (qI 0 21++qI 31 7++qI 21 1) qM (by rfl) (ac 400 ?_)
 simp (disch:=omega) only [go_sem,Nat.reduceEqDiff,Nat.reduceAdd,Nat.reduceSub,Int.reduceAdd,Int.reduceSub,Int.reduceToNat]
 refine al (qC) (hpost) (qI 31 7++qI 7 15++qI 38 1) qM (by rfl) (ac 400 ?_)
 simp (disch:=omega) only [go_sem,Nat.reduceEqDiff,Nat.reduceAdd,Nat.reduceSub,Int.reduceAdd,Int.reduceSub,Int.reduceToNat]
 refine aA (qI 0 22++qI 31 7++qI 7 7++qI 39 7) (qC) _ (by simp only [go_sem];rfl) (by rfl) (by rfl) ?_
 simp (disch:=omega) only [go_sem,Nat.reduceEqDiff,Nat.reduceAdd,Nat.reduceSub,Int.reduceAdd,Int.reduceSub,Int.reduceToNat]
theorem wt (w:WorldD) (pos many:Int) (text:List UInt8) (ad:AddrD) (le:LetterD) (hw:SmallD w) (htx:text.length≤1048576):
  ae Tryz.prog 68 [.sc (.pt 21 0 0),.ag (ActD.cs ⟨1,2,pos,many,text,ad,le⟩)] (w.hp true++[some ⟨[w.cs 0],61,51,true,false⟩]) (.sc (.int .i64 0))
  ([none,none,none,none,none,none,none,none,none,none,none,none,none,none,none,none,none,none,none,none,none,some ⟨[WorldD.cs (aq 2 { w with wroteB:=w.wroteB++text.take (cp w.b text).2,b:=(aS w.b text).1 } (aS w.b text).2) 22],61,51,true,false⟩]++WorldD.hp (aq 2 { w with wroteB:=w.wroteB++text.take (cp w.b text).2,b:=(aS w.b text).1 } (aS w.b text).2) true):=by
 have q1:=hw.s.wa
 have q2:=hw.s.wb
 have q3:=hw.s.ra
 have q4:=hw.s.rb
 have hX:=lP w.b text hw.p.s.b htx (jW hw.ob)
 have hsm:=eQ (t:=text) hw.p.s.b
 have hlen:=ie w.b text
 have hEA:ae Tryz.prog 144 [.ag (w.cs 0),.sc (.int .i64 2)] (w.hp false) (.ag (w.b.cs 21)) (w.hp false++w.b.hp true):=bF w 2 hw.p.s.a.own hw.p.s.a.far hw.p.s.a.subs hw.p.s.a.halfs hw.p.s.a.list hw.p.s.a.done hw.p.s.a.over hw.p.s.b.own hw.p.s.b.far hw.p.s.b.subs hw.p.s.b.halfs hw.p.s.b.list hw.p.s.b.done hw.p.s.b.over
 have hX2:=me w.b text hw.p.s.b htx
 have hwl:=ne w.b text
 obtain⟨wr,hwr⟩:∃ p,p=cp w.b text:=⟨_,rfl⟩
 rw [←hwr] at hX2 hwl⊢
 obtain⟨e0,n0⟩:=wr
 dsimp only at hX2 hwl⊢
 obtain⟨pr,hpr⟩:∃ p,p=aS w.b text:=⟨_,rfl⟩
 rw [←hpr] at hX hsm hlen⊢
 obtain⟨e1,l1⟩:=pr
 dsimp only at hX hsm hlen⊢
 have hset:=fM { w with wroteB:=w.wroteB++text.take n0 } e1
 have hpost:=eN { w with wroteB:=w.wroteB++text.take n0,b:=e1 } l1 ⟨hw.p.s.bag,hw.p.s.past,hw.p.s.keys,hw.p.s.tags,hw.p.s.nums,hw.p.s.ansA,hw.p.s.ansB⟩ (by first|omega|simp)
 have hends:=aE (side:=2) (l:=l1) (w:={ w with wroteB:=w.wroteB++text.take n0,b:=e1 })
 obtain⟨R,hR⟩:∃ R,R=aq 2 { w with wroteB:=w.wroteB++text.take n0,b:=e1 } l1:=⟨_,rfl⟩
 rw [←hR] at hpost hends⊢
 clear hR
 obtain⟨ra,rb,bag,past,wA,wB,rA,rB,known,nums,nsA,nsB⟩:=R
 obtain⟨keys,tags⟩:=known
 dsimp only at hends
 obtain⟨g1,g2,g3,g4,g5,g6⟩:=hends
 replace g1:=g1.symm
 replace g2:=g2.symm
 replace g3:=g3.symm
 replace g4:=g4.symm
 replace g5:=g5.symm
 replace g6:=g6.symm
 subst g1 g2 g3 g4 g5 g6
 have htk:(text.take n0).length=n0:=by rw [List.length_take];omega
 refine aN Tryz.func68 (by kernel_rfl) rfl fun E hE=>ac 400 ?_
 simp (disch:=omega) only [Tryz.ntmps68,Tryz.results68,go_sem,Nat.reduceEqDiff,Nat.reduceAdd,Nat.reduceSub,Int.reduceAdd,Int.reduceSub,Int.reduceToNat]
 refine aI [(5,6)] [] [(qU [0,8]),[0,1,2,3,4,6,5,7]] 22 hE (fun s=>s.at (qU [13,6]) [(5,.sc (.pt 30 0 0))] (s.hp++(w.b.hp true++[some ⟨[w.b.cs 23],25,45,true,false⟩]))) (by kernel_rfl) (qC) (by kernel_rfl) ?_ (ac 400 ?_)
 rotate_left
 rotate_right
 simp only [aQ]
 refine⟨aa 400 ?_,aa 400 ?_⟩
 ·simp (disch:=omega) only [go_sem]
  refine am (qC) (hEA) (qI 0 21) qM (by rfl) (by rfl) (aa 400 ?_)
  simp (disch:=omega) only [go_sem,Nat.reduceEqDiff,Nat.reduceAdd,Nat.reduceSub,Int.reduceAdd,Int.reduceSub,Int.reduceToNat]
  refine⟨qC,(qI 0 31),ab (by rfl) (by rfl) ?_⟩
  try simp (disch:=omega) only [go_sem,Nat.reduceEqDiff,Nat.reduceAdd,Nat.reduceSub,Int.reduceAdd,Int.reduceSub,Int.reduceToNat]
 ·simp (disch:=omega) only [go_sem]
  refine am (qC) (hEA) (qI 0 21) qM (by rfl) (by rfl) (aa 400 ?_)
  simp (disch:=omega) only [go_sem,Nat.reduceEqDiff,Nat.reduceAdd,Nat.reduceSub,Int.reduceAdd,Int.reduceSub,Int.reduceToNat]
  refine⟨qC,(qI 0 23++qI 24 7++qI 23 1),ab (by rfl) (by rfl) ?_⟩
  try simp (disch:=omega) only [go_sem,Nat.reduceEqDiff,Nat.reduceAdd,Nat.reduceSub,Int.reduceAdd,Int.reduceSub,Int.reduceToNat]
 try simp (disch:=omega) only [go_sem,Nat.reduceEqDiff,Nat.reduceAdd,Nat.reduceSub,Int.reduceAdd,Int.reduceSub,Int.reduceToNat]
 refine al (qC) (hX2) (qI 23 7) qM (by rfl) (ac 400 ?_)
 simp (disch:=omega) only [go_sem,Nat.reduceEqDiff,Nat.reduceAdd,Nat.reduceSub,Int.reduceAdd,Int.reduceSub,Int.reduceToNat]
 refine al (qC) (hX) (qI 23 7) qM (by rfl) (ac 400 ?_)
 simp (disch:=omega) only [go_sem,Nat.reduceEqDiff,Nat.reduceAdd,Nat.reduceSub,Int.reduceAdd,Int.reduceSub,Int.reduceToNat]
 refine ar (qU [0,12]) (by kernel_rfl) (qC) (by kernel_rfl) (aa 400 ?_)
 simp (disch:=omega) only [go_sem,Nat.reduceEqDiff,Nat.reduceAdd,Nat.reduceSub,Int.reduceAdd,Int.reduceSub,Int.reduceToNat]
 refine⟨qC,ac 400 ?_⟩
 try simp (disch:=omega) only [go_sem,Nat.reduceEqDiff,Nat.reduceAdd,Nat.reduceSub,Int.reduceAdd,Int.reduceSub,Int.reduceToNat]
 refine al (qC) (hset) (qI 0 21++qI 39 7++qI 21 1) qM (by rfl) (ac 400 ?_)
 simp (disch:=omega) only [go_sem,Nat.reduceEqDiff,Nat.reduceAdd,Nat.reduceSub,Int.reduceAdd,Int.reduceSub,Int.reduceToNat]
 refine al (qC) (hpost) (qI 0 7++qI 39 7++qI 14 8++qI 46 1) qM (by rfl) (ac 400 ?_)
 simp (disch:=omega) only [go_sem,Nat.reduceEqDiff,Nat.reduceAdd,Nat.reduceSub,Int.reduceAdd,Int.reduceSub,Int.reduceToNat]
 refine aA (qI 0 22++qI 0 7++qI 39 7++qI 47 7) (qC) _ (by simp only [go_sem];rfl) (by rfl) (by rfl) ?_
 simp (disch:=omega) only [go_sem,Nat.reduceEqDiff,Nat.reduceAdd,Nat.reduceSub,Int.reduceAdd,Int.reduceSub,Int.reduceToNat]
theorem wu (w:WorldD) (pos many:Int) (text:List UInt8) (ad:AddrD) (le:LetterD) (hw:SmallD w) (htx:text.length≤1048576):
  ae Tryz.prog 68 [.sc (.pt 21 0 0),.ag (ActD.cs ⟨2,2,pos,many,text,ad,le⟩)] (w.hp true++[some ⟨[w.cs 0],61,51,true,false⟩]) (.sc (.int .i64 0))
  ([none,none,none,none,none,none,none,none,none,none,none,none,none,none,none,none,none,none,none,none,none,some ⟨[WorldD.cs (aq 2 { w with readB:=w.readB++(bu w.b many).2,b:=((bu w.b many).1,([]:List LetterD)).1 } ((bu w.b many).1,([]:List LetterD)).2) 22],61,51,true,false⟩]++WorldD.hp (aq 2 { w with readB:=w.readB++(bu w.b many).2,b:=((bu w.b many).1,([]:List LetterD)).1 } ((bu w.b many).1,([]:List LetterD)).2) true):=by
 have q1:=hw.s.wa
 have q2:=hw.s.wb
 have q3:=hw.s.ra
 have q4:=hw.s.rb
 have hX:=uE w.b many hw.p.s.b hw.p.pb
 have hsm:=gP (m:=many) hw.p.s.b
 have hEA:ae Tryz.prog 144 [.ag (w.cs 0),.sc (.int .i64 2)] (w.hp false) (.ag (w.b.cs 21)) (w.hp false++w.b.hp true):=bF w 2 hw.p.s.a.own hw.p.s.a.far hw.p.s.a.subs hw.p.s.a.halfs hw.p.s.a.list hw.p.s.a.done hw.p.s.a.over hw.p.s.b.own hw.p.s.b.far hw.p.s.b.subs hw.p.s.b.halfs hw.p.s.b.list hw.p.s.b.done hw.p.s.b.over
 obtain⟨pr,hpr⟩:∃ p,p=bu w.b many:=⟨_,rfl⟩
 have hrl:(bu w.b many).2.length≤1048576:=lf hw.p.pb
 rw [←hpr] at hX hsm hrl⊢
 obtain⟨e1,t1⟩:=pr
 dsimp only at hX hsm hrl⊢
 obtain⟨l1,hl1⟩:∃ l:List LetterD,l=[]:=⟨_,rfl⟩
 have hlen:l1.length≤1:=by rw [hl1];simp
 have hset:=fM { w with readB:=w.readB++t1 } e1
 have hpost:=eN { w with readB:=w.readB++t1,b:=e1 } [] ⟨hw.p.s.bag,hw.p.s.past,hw.p.s.keys,hw.p.s.tags,hw.p.s.nums,hw.p.s.ansA,hw.p.s.ansB⟩ (by first|omega|simp)
 have hends:=aE (side:=2) (l:=[]) (w:={ w with readB:=w.readB++t1,b:=e1 })
 obtain⟨R,hR⟩:∃ R,R=aq 2 { w with readB:=w.readB++t1,b:=e1 } []:=⟨_,rfl⟩
 rw [←hR] at hpost hends⊢
 clear hR
 obtain⟨ra,rb,bag,past,wA,wB,rA,rB,known,nums,nsA,nsB⟩:=R
 obtain⟨keys,tags⟩:=known
 dsimp only at hends
 obtain⟨g1,g2,g3,g4,g5,g6⟩:=hends
 replace g1:=g1.symm
 replace g2:=g2.symm
 replace g3:=g3.symm
 replace g4:=g4.symm
 replace g5:=g5.symm
 replace g6:=g6.symm
 subst g1 g2 g3 g4 g5 g6
 refine aN Tryz.func68 (by kernel_rfl) rfl fun E hE=>ac 400 ?_
 simp (disch:=omega) only [Tryz.ntmps68,Tryz.results68,go_sem,Nat.reduceEqDiff,Nat.reduceAdd,Nat.reduceSub,Int.reduceAdd,Int.reduceSub,Int.reduceToNat]
 refine aI [(5,6)] [] [(qU [0,8]),[0,1,2,3,4,6,5,7]] 22 hE (fun s=>s.at (qU [13,6]) [(5,.sc (.pt 30 0 0))] (s.hp++(w.b.hp true++[some ⟨[w.b.cs 23],25,45,true,false⟩]))) (by kernel_rfl) (qC) (by kernel_rfl) ?_ (ac 400 ?_)
 rotate_left
 rotate_right
 simp only [aQ]
 refine⟨aa 400 ?_,aa 400 ?_⟩
 ·simp (disch:=omega) only [go_sem]
  refine am (qC) (hEA) (qI 0 21) qM (by rfl) (by rfl) (aa 400 ?_)
  simp (disch:=omega) only [go_sem,Nat.reduceEqDiff,Nat.reduceAdd,Nat.reduceSub,Int.reduceAdd,Int.reduceSub,Int.reduceToNat]
  refine⟨qC,(qI 0 31),ab (by rfl) (by rfl) ?_⟩
  try simp (disch:=omega) only [go_sem,Nat.reduceEqDiff,Nat.reduceAdd,Nat.reduceSub,Int.reduceAdd,Int.reduceSub,Int.reduceToNat]
 ·simp (disch:=omega) only [go_sem]
  refine am (qC) (hEA) (qI 0 21) qM (by rfl) (by rfl) (aa 400 ?_)
  simp (disch:=omega) only [go_sem,Nat.reduceEqDiff,Nat.reduceAdd,Nat.reduceSub,Int.reduceAdd,Int.reduceSub,Int.reduceToNat]
  refine⟨qC,(qI 0 23++qI 24 7++qI 23 1),ab (by rfl) (by rfl) ?_⟩
  try simp (disch:=omega) only [go_sem,Nat.reduceEqDiff,Nat.reduceAdd,Nat.reduceSub,Int.reduceAdd,Int.reduceSub,Int.reduceToNat]
 try simp (disch:=omega) only [go_sem,Nat.reduceEqDiff,Nat.reduceAdd,Nat.reduceSub,Int.reduceAdd,Int.reduceSub,Int.reduceToNat]
 refine al (qC) (hX) (qI 23 7) qM (by rfl) (ac 400 ?_)
 simp (disch:=omega) only [go_sem,Nat.reduceEqDiff,Nat.reduceAdd,Nat.reduceSub,Int.reduceAdd,Int.reduceSub,Int.reduceToNat]
 refine al (qC) (hset) (qI 0 21++qI 31 7++qI 21 1) qM (by rfl) (ac 400 ?_)
 simp (disch:=omega) only [go_sem,Nat.reduceEqDiff,Nat.reduceAdd,Nat.reduceSub,Int.reduceAdd,Int.reduceSub,Int.reduceToNat]
 refine al (qC) (hpost) (qI 0 7++qI 31 7++qI 14 8++qO 1) qM (by rfl) (ac 400 ?_)
 simp (disch:=omega) only [go_sem,Nat.reduceEqDiff,Nat.reduceAdd,Nat.reduceSub,Int.reduceAdd,Int.reduceSub,Int.reduceToNat]
 refine aA (qI 0 22++qI 0 7++qI 31 7++qI 39 7) (qC) _ (by simp only [go_sem];rfl) (by rfl) (by rfl) ?_
 simp (disch:=omega) only [go_sem,Nat.reduceEqDiff,Nat.reduceAdd,Nat.reduceSub,Int.reduceAdd,Int.reduceSub,Int.reduceToNat]
theorem wv (w:WorldD) (pos many:Int) (text:List UInt8) (ad:AddrD) (le:LetterD) (hw:SmallD w) (htx:text.length≤1048576):
  ae Tryz.prog 68 [.sc (.pt 21 0 0),.ag (ActD.cs ⟨4,2,pos,many,text,ad,le⟩)] (w.hp true++[some ⟨[w.cs 0],61,51,true,false⟩]) (.sc (.int .i64 0))
  ([none,none,none,none,none,none,none,none,none,none,none,none,none,none,none,none,none,none,none,none,none,some ⟨[WorldD.cs (aq 2 { w with b:=(bs w.b).1 } (bs w.b).2) 22],61,51,true,false⟩]++WorldD.hp (aq 2 { w with b:=(bs w.b).1 } (bs w.b).2) true):=by
 have q1:=hw.s.wa
 have q2:=hw.s.wb
 have q3:=hw.s.ra
 have q4:=hw.s.rb
 have hX:=oW w.b hw.p.s.b
 have hsm:=f9 hw.p.s.b
 have hlen:=jV w.b
 have hEA:ae Tryz.prog 144 [.ag (w.cs 0),.sc (.int .i64 2)] (w.hp false) (.ag (w.b.cs 21)) (w.hp false++w.b.hp true):=bF w 2 hw.p.s.a.own hw.p.s.a.far hw.p.s.a.subs hw.p.s.a.halfs hw.p.s.a.list hw.p.s.a.done hw.p.s.a.over hw.p.s.b.own hw.p.s.b.far hw.p.s.b.subs hw.p.s.b.halfs hw.p.s.b.list hw.p.s.b.done hw.p.s.b.over
 obtain⟨pr,hpr⟩:∃ p,p=bs w.b:=⟨_,rfl⟩
 rw [←hpr] at hX hsm hlen⊢
 obtain⟨e1,l1⟩:=pr
 dsimp only at hX hsm hlen⊢
 have hset:=fM w e1
 have hpost:=eN { w with b:=e1 } l1 ⟨hw.p.s.bag,hw.p.s.past,hw.p.s.keys,hw.p.s.tags,hw.p.s.nums,hw.p.s.ansA,hw.p.s.ansB⟩ (by first|omega|simp)
 have hends:=aE (side:=2) (l:=l1) (w:={ w with b:=e1 })
 obtain⟨R,hR⟩:∃ R,R=aq 2 { w with b:=e1 } l1:=⟨_,rfl⟩
 rw [←hR] at hpost hends⊢
 clear hR
 obtain⟨ra,rb,bag,past,wA,wB,rA,rB,known,nums,nsA,nsB⟩:=R
 obtain⟨keys,tags⟩:=known
 dsimp only at hends
 obtain⟨g1,g2,g3,g4,g5,g6⟩:=hends
 replace g1:=g1.symm
 replace g2:=g2.symm
 replace g3:=g3.symm
 replace g4:=g4.symm
 replace g5:=g5.symm
 replace g6:=g6.symm
 subst g1 g2 g3 g4 g5 g6
 refine aN Tryz.func68 (by kernel_rfl) rfl fun E hE=>ac 400 ?_
 simp (disch:=omega) only [Tryz.ntmps68,Tryz.results68,go_sem,Nat.reduceEqDiff,Nat.reduceAdd,Nat.reduceSub,Int.reduceAdd,Int.reduceSub,Int.reduceToNat]
 refine aI [(5,6)] [] [(qU [0,8]),[0,1,2,3,4,6,5,7]] 22 hE (fun s=>s.at (qU [13,6]) [(5,.sc (.pt 30 0 0))] (s.hp++(w.b.hp true++[some ⟨[w.b.cs 23],25,45,true,false⟩]))) (by kernel_rfl) (qC) (by kernel_rfl) ?_ (ac 400 ?_)
 rotate_left
 rotate_right
 simp only [aQ]
 refine⟨aa 400 ?_,aa 400 ?_⟩
 ·simp (disch:=omega) only [go_sem]
  refine am (qC) (hEA) (qI 0 21) qM (by rfl) (by rfl) (aa 400 ?_)
  simp (disch:=omega) only [go_sem,Nat.reduceEqDiff,Nat.reduceAdd,Nat.reduceSub,Int.reduceAdd,Int.reduceSub,Int.reduceToNat]
  refine⟨qC,(qI 0 31),ab (by rfl) (by rfl) ?_⟩
  try simp (disch:=omega) only [go_sem,Nat.reduceEqDiff,Nat.reduceAdd,Nat.reduceSub,Int.reduceAdd,Int.reduceSub,Int.reduceToNat]
 ·simp (disch:=omega) only [go_sem]
  refine am (qC) (hEA) (qI 0 21) qM (by rfl) (by rfl) (aa 400 ?_)
  simp (disch:=omega) only [go_sem,Nat.reduceEqDiff,Nat.reduceAdd,Nat.reduceSub,Int.reduceAdd,Int.reduceSub,Int.reduceToNat]
  refine⟨qC,(qI 0 23++qI 24 7++qI 23 1),ab (by rfl) (by rfl) ?_⟩
  try simp (disch:=omega) only [go_sem,Nat.reduceEqDiff,Nat.reduceAdd,Nat.reduceSub,Int.reduceAdd,Int.reduceSub,Int.reduceToNat]
 try simp (disch:=omega) only [go_sem,Nat.reduceEqDiff,Nat.reduceAdd,Nat.reduceSub,Int.reduceAdd,Int.reduceSub,Int.reduceToNat]
 refine al (qC) (hX) (qI 23 7) qM (by rfl) (ac 400 ?_)
 simp (disch:=omega) only [go_sem,Nat.reduceEqDiff,Nat.reduceAdd,Nat.reduceSub,Int.reduceAdd,Int.reduceSub,Int.reduceToNat]
 refine al (qC) (hset) (qI 0 21++qI 31 7++qI 21 1) qM (by rfl) (ac 400 ?_)
 simp (disch:=omega) only [go_sem,Nat.reduceEqDiff,Nat.reduceAdd,Nat.reduceSub,Int.reduceAdd,Int.reduceSub,Int.reduceToNat]
 refine al (qC) (hpost) (qI 0 7++qI 31 7++qI 14 8++qI 38 1) qM (by rfl) (ac 400 ?_)
 simp (disch:=omega) only [go_sem,Nat.reduceEqDiff,Nat.reduceAdd,Nat.reduceSub,Int.reduceAdd,Int.reduceSub,Int.reduceToNat]
 refine aA (qI 0 22++qI 0 7++qI 31 7++qI 39 7) (qC) _ (by simp only [go_sem];rfl) (by rfl) (by rfl) ?_
 simp (disch:=omega) only [go_sem,Nat.reduceEqDiff,Nat.reduceAdd,Nat.reduceSub,Int.reduceAdd,Int.reduceSub,Int.reduceToNat]
theorem ww (w:WorldD) (pos many:Int) (text:List UInt8) (ad:AddrD) (le:LetterD) (hw:SmallD w) (htx:text.length≤1048576) (hsd:aZ ad.addr=2) (hgood:(aB w.b ad).2=true):
  ae Tryz.prog 68 [.sc (.pt 21 0 0),.ag (ActD.cs ⟨5,2,pos,many,text,ad,le⟩)] (w.hp true++[some ⟨[w.cs 0],61,51,true,false⟩]) (.sc (.int .i64 0))
  ([none,none,none,none,none,none,none,none,none,none,none,none,none,none,none,none,none,none,none,none,none,some ⟨[WorldD.cs (aq 2 { w with b:=((aB w.b ad).1,([]:List LetterD)).1 } ((aB w.b ad).1,([]:List LetterD)).2) 22],61,51,true,false⟩]++WorldD.hp (aq 2 { w with b:=((aB w.b ad).1,([]:List LetterD)).1 } ((aB w.b ad).1,([]:List LetterD)).2) true):=by
 have q1:=hw.s.wa
 have q2:=hw.s.wb
 have q3:=hw.s.ra
 have q4:=hw.s.rb
 have hX:=i4 w.b ad hw.p.s.b
 have hsm:=df (a:=ad) hw.p.s.b
 have hEA:ae Tryz.prog 144 [.ag (w.cs 0),.sc (.int .i64 2)] (w.hp false) (.ag (w.b.cs 21)) (w.hp false++w.b.hp true):=bF w 2 hw.p.s.a.own hw.p.s.a.far hw.p.s.a.subs hw.p.s.a.halfs hw.p.s.a.list hw.p.s.a.done hw.p.s.a.over hw.p.s.b.own hw.p.s.b.far hw.p.s.b.subs hw.p.s.b.halfs hw.p.s.b.list hw.p.s.b.done hw.p.s.b.over
 obtain⟨pr,hpr⟩:∃ p,p=aB w.b ad:=⟨_,rfl⟩
 rw [←hpr] at hX hsm hgood⊢
 obtain⟨e1,ok1⟩:=pr
 dsimp only at hX hsm hgood⊢
 subst hgood
 obtain⟨l1,hl1⟩:∃ l:List LetterD,l=[]:=⟨_,rfl⟩
 have hlen:l1.length≤1:=by rw [hl1];simp
 have hset:=fM w e1
 have hpost:=eN { w with b:=e1 } [] ⟨hw.p.s.bag,hw.p.s.past,hw.p.s.keys,hw.p.s.tags,hw.p.s.nums,hw.p.s.ansA,hw.p.s.ansB⟩ (by first|omega|simp)
 have hends:=aE (side:=2) (l:=[]) (w:={ w with b:=e1 })
 obtain⟨R,hR⟩:∃ R,R=aq 2 { w with b:=e1 } []:=⟨_,rfl⟩
 rw [←hR] at hpost hends⊢
 clear hR
 obtain⟨ra,rb,bag,past,wA,wB,rA,rB,known,nums,nsA,nsB⟩:=R
 obtain⟨keys,tags⟩:=known
 dsimp only at hends
 obtain⟨g1,g2,g3,g4,g5,g6⟩:=hends
 replace g1:=g1.symm
 replace g2:=g2.symm
 replace g3:=g3.symm
 replace g4:=g4.symm
 replace g5:=g5.symm
 replace g6:=g6.symm
 subst g1 g2 g3 g4 g5 g6
 have hSd:=dC ad.addr
 rw [hsd] at hSd
 refine aN Tryz.func68 (by kernel_rfl) rfl fun E hE=>ac 400 ?_
 simp (disch:=omega) only [Tryz.ntmps68,Tryz.results68,go_sem,Nat.reduceEqDiff,Nat.reduceAdd,Nat.reduceSub,Int.reduceAdd,Int.reduceSub,Int.reduceToNat]
 refine aI [(5,6)] [] [(qU [0,8]),[0,1,2,3,4,6,5,7]] 22 hE (fun s=>s.at (qU [13,6]) [(5,.sc (.pt 30 0 0))] (s.hp++(w.b.hp true++[some ⟨[w.b.cs 23],25,45,true,false⟩]))) (by kernel_rfl) (qC) (by kernel_rfl) ?_ (ac 400 ?_)
 rotate_left
 rotate_right
 simp only [aQ]
 refine⟨aa 400 ?_,aa 400 ?_⟩
 ·simp (disch:=omega) only [go_sem]
  refine am (qC) (hEA) (qI 0 21) qM (by rfl) (by rfl) (aa 400 ?_)
  simp (disch:=omega) only [go_sem,Nat.reduceEqDiff,Nat.reduceAdd,Nat.reduceSub,Int.reduceAdd,Int.reduceSub,Int.reduceToNat]
  refine⟨qC,(qI 0 31),ab (by rfl) (by rfl) ?_⟩
  try simp (disch:=omega) only [go_sem,Nat.reduceEqDiff,Nat.reduceAdd,Nat.reduceSub,Int.reduceAdd,Int.reduceSub,Int.reduceToNat]
 ·simp (disch:=omega) only [go_sem]
  refine am (qC) (hEA) (qI 0 21) qM (by rfl) (by rfl) (aa 400 ?_)
  simp (disch:=omega) only [go_sem,Nat.reduceEqDiff,Nat.reduceAdd,Nat.reduceSub,Int.reduceAdd,Int.reduceSub,Int.reduceToNat]
  refine⟨qC,(qI 0 23++qI 24 7++qI 23 1),ab (by rfl) (by rfl) ?_⟩
  try simp (disch:=omega) only [go_sem,Nat.reduceEqDiff,Nat.reduceAdd,Nat.reduceSub,Int.reduceAdd,Int.reduceSub,Int.reduceToNat]
 try simp (disch:=omega) only [go_sem,Nat.reduceEqDiff,Nat.reduceAdd,Nat.reduceSub,Int.reduceAdd,Int.reduceSub,Int.reduceToNat]
 refine al (qC) (hX) (qI 23 7) qM (by rfl) (ac 400 ?_)
 simp (disch:=omega) only [go_sem,Nat.reduceEqDiff,Nat.reduceAdd,Nat.reduceSub,Int.reduceAdd,Int.reduceSub,Int.reduceToNat]
 refine ar (qU [0,3,4,2,3,1,6,5]) (by kernel_rfl) (qC) (by kernel_rfl) (aa 400 ?_)
 simp (disch:=omega) only [go_sem,Nat.reduceEqDiff,Nat.reduceAdd,Nat.reduceSub,Int.reduceAdd,Int.reduceSub,Int.reduceToNat]
 refine am (qC) (hSd) [] qM (by rfl) (by rfl) (aa 400 ?_)
 simp (disch:=omega) only [go_sem,Nat.reduceEqDiff,Nat.reduceAdd,Nat.reduceSub,Int.reduceAdd,Int.reduceSub,Int.reduceToNat]
 refine⟨qC,ac 400 ?_⟩
 try simp (disch:=omega) only [go_sem,Nat.reduceEqDiff,Nat.reduceAdd,Nat.reduceSub,Int.reduceAdd,Int.reduceSub,Int.reduceToNat]
 refine al (qC) (hset) (qI 0 21++qI 31 7++qI 21 1) qM (by rfl) (ac 400 ?_)
 simp (disch:=omega) only [go_sem,Nat.reduceEqDiff,Nat.reduceAdd,Nat.reduceSub,Int.reduceAdd,Int.reduceSub,Int.reduceToNat]
 refine al (qC) (hpost) (qI 0 7++qI 31 7++qI 14 8++qO 1) qM (by rfl) (ac 400 ?_)
 simp (disch:=omega) only [go_sem,Nat.reduceEqDiff,Nat.reduceAdd,Nat.reduceSub,Int.reduceAdd,Int.reduceSub,Int.reduceToNat]
 refine aA (qI 0 22++qI 0 7++qI 31 7++qI 39 7) (qC) _ (by simp only [go_sem];rfl) (by rfl) (by rfl) ?_
 simp (disch:=omega) only [go_sem,Nat.reduceEqDiff,Nat.reduceAdd,Nat.reduceSub,Int.reduceAdd,Int.reduceSub,Int.reduceToNat]
theorem wx (w:WorldD) (pos many:Int) (text:List UInt8) (ad:AddrD) (le:LetterD) (hw:SmallD w) (htx:text.length≤1048576):
  ae Tryz.prog 68 [.sc (.pt 21 0 0),.ag (ActD.cs ⟨6,2,pos,many,text,ad,le⟩)] (w.hp true++[some ⟨[w.cs 0],61,51,true,false⟩]) (.sc (.int .i64 0))
  ([none,none,none,none,none,none,none,none,none,none,none,none,none,none,none,none,none,none,none,none,none,some ⟨[WorldD.cs (aq 2 { w with b:=(bb w.b pos).1 } (bb w.b pos).2) 22],61,51,true,false⟩]++WorldD.hp (aq 2 { w with b:=(bb w.b pos).1 } (bb w.b pos).2) true):=by
 have q1:=hw.s.wa
 have q2:=hw.s.wb
 have q3:=hw.s.ra
 have q4:=hw.s.rb
 have hX:=nk w.b pos hw.p.s.b
 have hsm:=fg (n:=pos) hw.p.s.b
 have hlen:=i6 w.b pos hw.p.s.b
 have hEA:ae Tryz.prog 144 [.ag (w.cs 0),.sc (.int .i64 2)] (w.hp false) (.ag (w.b.cs 21)) (w.hp false++w.b.hp true):=bF w 2 hw.p.s.a.own hw.p.s.a.far hw.p.s.a.subs hw.p.s.a.halfs hw.p.s.a.list hw.p.s.a.done hw.p.s.a.over hw.p.s.b.own hw.p.s.b.far hw.p.s.b.subs hw.p.s.b.halfs hw.p.s.b.list hw.p.s.b.done hw.p.s.b.over
 obtain⟨pr,hpr⟩:∃ p,p=bb w.b pos:=⟨_,rfl⟩
 rw [←hpr] at hX hsm hlen⊢
 obtain⟨e1,l1⟩:=pr
 dsimp only at hX hsm hlen⊢
 have hset:=fM w e1
 have hpost:=eN { w with b:=e1 } l1 ⟨hw.p.s.bag,hw.p.s.past,hw.p.s.keys,hw.p.s.tags,hw.p.s.nums,hw.p.s.ansA,hw.p.s.ansB⟩ (by first|omega|simp)
 have hends:=aE (side:=2) (l:=l1) (w:={ w with b:=e1 })
 obtain⟨R,hR⟩:∃ R,R=aq 2 { w with b:=e1 } l1:=⟨_,rfl⟩
 rw [←hR] at hpost hends⊢
 clear hR
 obtain⟨ra,rb,bag,past,wA,wB,rA,rB,known,nums,nsA,nsB⟩:=R
 obtain⟨keys,tags⟩:=known
 dsimp only at hends
 obtain⟨g1,g2,g3,g4,g5,g6⟩:=hends
 replace g1:=g1.symm
 replace g2:=g2.symm
 replace g3:=g3.symm
 replace g4:=g4.symm
 replace g5:=g5.symm
 replace g6:=g6.symm
 subst g1 g2 g3 g4 g5 g6
 refine aN Tryz.func68 (by kernel_rfl) rfl fun E hE=>ac 400 ?_
 simp (disch:=omega) only [Tryz.ntmps68,Tryz.results68,go_sem,Nat.reduceEqDiff,Nat.reduceAdd,Nat.reduceSub,Int.reduceAdd,Int.reduceSub,Int.reduceToNat]
 refine aI [(5,6)] [] [(qU [0,8]),[0,1,2,3,4,6,5,7]] 22 hE (fun s=>s.at (qU [13,6]) [(5,.sc (.pt 30 0 0))] (s.hp++(w.b.hp true++[some ⟨[w.b.cs 23],25,45,true,false⟩]))) (by kernel_rfl) (qC) (by kernel_rfl) ?_ (ac 400 ?_)
 rotate_left
 rotate_right
 simp only [aQ]
 refine⟨aa 400 ?_,aa 400 ?_⟩
 ·simp (disch:=omega) only [go_sem]
  refine am (qC) (hEA) (qI 0 21) qM (by rfl) (by rfl) (aa 400 ?_)
  simp (disch:=omega) only [go_sem,Nat.reduceEqDiff,Nat.reduceAdd,Nat.reduceSub,Int.reduceAdd,Int.reduceSub,Int.reduceToNat]
  refine⟨qC,(qI 0 31),ab (by rfl) (by rfl) ?_⟩
  try simp (disch:=omega) only [go_sem,Nat.reduceEqDiff,Nat.reduceAdd,Nat.reduceSub,Int.reduceAdd,Int.reduceSub,Int.reduceToNat]
 ·simp (disch:=omega) only [go_sem]
  refine am (qC) (hEA) (qI 0 21) qM (by rfl) (by rfl) (aa 400 ?_)
  simp (disch:=omega) only [go_sem,Nat.reduceEqDiff,Nat.reduceAdd,Nat.reduceSub,Int.reduceAdd,Int.reduceSub,Int.reduceToNat]
  refine⟨qC,(qI 0 23++qI 24 7++qI 23 1),ab (by rfl) (by rfl) ?_⟩
  try simp (disch:=omega) only [go_sem,Nat.reduceEqDiff,Nat.reduceAdd,Nat.reduceSub,Int.reduceAdd,Int.reduceSub,Int.reduceToNat]
 try simp (disch:=omega) only [go_sem,Nat.reduceEqDiff,Nat.reduceAdd,Nat.reduceSub,Int.reduceAdd,Int.reduceSub,Int.reduceToNat]
 refine al (qC) (hX) (qI 23 7) qM (by rfl) (ac 400 ?_)
 simp (disch:=omega) only [go_sem,Nat.reduceEqDiff,Nat.reduceAdd,Nat.reduceSub,Int.reduceAdd,Int.reduceSub,Int.reduceToNat]
 refine al (qC) (hset) (qI 0 21++qI 31 7++qI 21 1) qM (by rfl) (ac 400 ?_)
 simp (disch:=omega) only [go_sem,Nat.reduceEqDiff,Nat.reduceAdd,Nat.reduceSub,Int.reduceAdd,Int.reduceSub,Int.reduceToNat]
 refine al (qC) (hpost) (qI 0 7++qI 31 7++qI 14 8++qI 38 1) qM (by rfl) (ac 400 ?_)
 simp (disch:=omega) only [go_sem,Nat.reduceEqDiff,Nat.reduceAdd,Nat.reduceSub,Int.reduceAdd,Int.reduceSub,Int.reduceToNat]
 refine aA (qI 0 22++qI 0 7++qI 31 7++qI 39 7) (qC) _ (by simp only [go_sem];rfl) (by rfl) (by rfl) ?_
 simp (disch:=omega) only [go_sem,Nat.reduceEqDiff,Nat.reduceAdd,Nat.reduceSub,Int.reduceAdd,Int.reduceSub,Int.reduceToNat]
theorem wy (w:WorldD) (pos many:Int) (text:List UInt8) (ad:AddrD) (le:LetterD) (hw:SmallD w) (htx:text.length≤1048576):
  ae Tryz.prog 68 [.sc (.pt 21 0 0),.ag (ActD.cs ⟨7,2,pos,many,text,ad,le⟩)] (w.hp true++[some ⟨[w.cs 0],61,51,true,false⟩]) (.sc (.int .i64 0))
  ([none,none,none,none,none,none,none,none,none,none,none,none,none,none,none,none,none,none,none,none,none,some ⟨[WorldD.cs (aq 2 { w with b:=(br w.b pos).1 } (br w.b pos).2) 22],61,51,true,false⟩]++WorldD.hp (aq 2 { w with b:=(br w.b pos).1 } (br w.b pos).2) true):=by
 have q1:=hw.s.wa
 have q2:=hw.s.wb
 have q3:=hw.s.ra
 have q4:=hw.s.rb
 have hX:=si w.b pos hw.p.s.b
 have hsm:=f8 (k:=pos) hw.p.s.b
 have hlen:=jU w.b pos
 have hEA:ae Tryz.prog 144 [.ag (w.cs 0),.sc (.int .i64 2)] (w.hp false) (.ag (w.b.cs 21)) (w.hp false++w.b.hp true):=bF w 2 hw.p.s.a.own hw.p.s.a.far hw.p.s.a.subs hw.p.s.a.halfs hw.p.s.a.list hw.p.s.a.done hw.p.s.a.over hw.p.s.b.own hw.p.s.b.far hw.p.s.b.subs hw.p.s.b.halfs hw.p.s.b.list hw.p.s.b.done hw.p.s.b.over
 obtain⟨pr,hpr⟩:∃ p,p=br w.b pos:=⟨_,rfl⟩
 rw [←hpr] at hX hsm hlen⊢
 obtain⟨e1,l1⟩:=pr
 dsimp only at hX hsm hlen⊢
 have hset:=fM w e1
 have hpost:=eN { w with b:=e1 } l1 ⟨hw.p.s.bag,hw.p.s.past,hw.p.s.keys,hw.p.s.tags,hw.p.s.nums,hw.p.s.ansA,hw.p.s.ansB⟩ (by first|omega|simp)
 have hends:=aE (side:=2) (l:=l1) (w:={ w with b:=e1 })
 obtain⟨R,hR⟩:∃ R,R=aq 2 { w with b:=e1 } l1:=⟨_,rfl⟩
 rw [←hR] at hpost hends⊢
 clear hR
 obtain⟨ra,rb,bag,past,wA,wB,rA,rB,known,nums,nsA,nsB⟩:=R
 obtain⟨keys,tags⟩:=known
 dsimp only at hends
 obtain⟨g1,g2,g3,g4,g5,g6⟩:=hends
 replace g1:=g1.symm
 replace g2:=g2.symm
 replace g3:=g3.symm
 replace g4:=g4.symm
 replace g5:=g5.symm
 replace g6:=g6.symm
 subst g1 g2 g3 g4 g5 g6
 refine aN Tryz.func68 (by kernel_rfl) rfl fun E hE=>ac 400 ?_
 simp (disch:=omega) only [Tryz.ntmps68,Tryz.results68,go_sem,Nat.reduceEqDiff,Nat.reduceAdd,Nat.reduceSub,Int.reduceAdd,Int.reduceSub,Int.reduceToNat]
 refine aI [(5,6)] [] [(qU [0,8]),[0,1,2,3,4,6,5,7]] 22 hE (fun s=>s.at (qU [13,6]) [(5,.sc (.pt 30 0 0))] (s.hp++(w.b.hp true++[some ⟨[w.b.cs 23],25,45,true,false⟩]))) (by kernel_rfl) (qC) (by kernel_rfl) ?_ (ac 400 ?_)
 rotate_left
 rotate_right
 simp only [aQ]
 refine⟨aa 400 ?_,aa 400 ?_⟩
 ·simp (disch:=omega) only [go_sem]
  refine am (qC) (hEA) (qI 0 21) qM (by rfl) (by rfl) (aa 400 ?_)
  simp (disch:=omega) only [go_sem,Nat.reduceEqDiff,Nat.reduceAdd,Nat.reduceSub,Int.reduceAdd,Int.reduceSub,Int.reduceToNat]
  refine⟨qC,(qI 0 31),ab (by rfl) (by rfl) ?_⟩
  try simp (disch:=omega) only [go_sem,Nat.reduceEqDiff,Nat.reduceAdd,Nat.reduceSub,Int.reduceAdd,Int.reduceSub,Int.reduceToNat]
 ·simp (disch:=omega) only [go_sem]
  refine am (qC) (hEA) (qI 0 21) qM (by rfl) (by rfl) (aa 400 ?_)
  simp (disch:=omega) only [go_sem,Nat.reduceEqDiff,Nat.reduceAdd,Nat.reduceSub,Int.reduceAdd,Int.reduceSub,Int.reduceToNat]
  refine⟨qC,(qI 0 23++qI 24 7++qI 23 1),ab (by rfl) (by rfl) ?_⟩
  try simp (disch:=omega) only [go_sem,Nat.reduceEqDiff,Nat.reduceAdd,Nat.reduceSub,Int.reduceAdd,Int.reduceSub,Int.reduceToNat]
 try simp (disch:=omega) only [go_sem,Nat.reduceEqDiff,Nat.reduceAdd,Nat.reduceSub,Int.reduceAdd,Int.reduceSub,Int.reduceToNat]
 refine al (qC) (hX) (qI 23 7) qM (by rfl) (ac 400 ?_)
 simp (disch:=omega) only [go_sem,Nat.reduceEqDiff,Nat.reduceAdd,Nat.reduceSub,Int.reduceAdd,Int.reduceSub,Int.reduceToNat]
 refine al (qC) (hset) (qI 0 21++qI 31 7++qI 21 1) qM (by rfl) (ac 400 ?_)
 simp (disch:=omega) only [go_sem,Nat.reduceEqDiff,Nat.reduceAdd,Nat.reduceSub,Int.reduceAdd,Int.reduceSub,Int.reduceToNat]
 refine al (qC) (hpost) (qI 0 7++qI 31 7++qI 14 8++qI 38 1) qM (by rfl) (ac 400 ?_)
 simp (disch:=omega) only [go_sem,Nat.reduceEqDiff,Nat.reduceAdd,Nat.reduceSub,Int.reduceAdd,Int.reduceSub,Int.reduceToNat]
 refine aA (qI 0 22++qI 0 7++qI 31 7++qI 39 7) (qC) _ (by simp only [go_sem];rfl) (by rfl) (by rfl) ?_
 simp (disch:=omega) only [go_sem,Nat.reduceEqDiff,Nat.reduceAdd,Nat.reduceSub,Int.reduceAdd,Int.reduceSub,Int.reduceToNat]
end
section
open Go.RowKit
theorem nr {l:List LetterD} {p:Nat} (h:p < l.length):uD l (Int.toNat (p:Int))=l[p]:=by simp [uD,h]
theorem n6 (l:List LetterD) (p:Nat):gU l (p:Int)=l.take p++l.drop (p+1):=rfl
theorem gy {l:List LetterD} {p:Nat} (h:p < l.length):(gU l (p:Int)).length=l.length - 1:=by
 rw [n6,List.length_append,List.length_take,List.length_drop];omega
theorem NM {w:WorldD} {s m:Int} {p:Nat} {t:List UInt8} {ad:AddrD} {le:LetterD} (h:¬ p < w.bag.length):a_ w ⟨8,s,(p:Nat),m,t,ad,le⟩=(w,1):=by
 unfold a_;dsimp only;rw [if_pos (.inl rfl),if_pos (by omega)]
theorem NN {w:WorldD} {s m:Int} {p:Nat} {t:List UInt8} {ad:AddrD} {le:LetterD} (h:p < w.bag.length):a_ w ⟨8,s,(p:Nat),m,t,ad,le⟩=(gN { w with bag:=gU w.bag (p:Nat) } w.bag[p],0):=by
 unfold a_;dsimp only;rw [if_pos (.inl rfl),if_neg (by omega),if_pos rfl,nr h]
theorem NO {w:WorldD} {s m:Int} {p:Nat} {t:List UInt8} {ad:AddrD} {le:LetterD} (h:¬ p < w.bag.length):a_ w ⟨9,s,(p:Nat),m,t,ad,le⟩=(w,1):=by
 unfold a_;dsimp only;rw [if_pos (.inr rfl),if_pos (by omega)]
theorem NP {w:WorldD} {s m:Int} {p:Nat} {t:List UInt8} {ad:AddrD} {le:LetterD} (h:p < w.bag.length):a_ w ⟨9,s,(p:Nat),m,t,ad,le⟩=({ w with bag:=gU w.bag (p:Nat) },0):=by
 unfold a_;dsimp only;rw [if_pos (.inr rfl),if_neg (by omega),if_neg (by omega)]
theorem E6 {w:WorldD} {s m:Int} {p:Nat} {t:List UInt8} {ad:AddrD} {le:LetterD} (h:¬ p < w.bag.length∨40≤w.bag.length):a_ w ⟨10,s,(p:Nat),m,t,ad,le⟩=(w,1):=by
 unfold a_;dsimp only;rw [if_neg (by omega),if_pos rfl,if_pos (by omega)]
theorem E7 {w:WorldD} {s m:Int} {p:Nat} {t:List UInt8} {ad:AddrD} {le:LetterD} (h:p < w.bag.length) (h2:¬ 40≤w.bag.length):a_ w ⟨10,s,(p:Nat),m,t,ad,le⟩=({ w with bag:=w.bag++[w.bag[p]] },0):=by
 unfold a_;dsimp only;rw [if_neg (by omega),if_pos rfl,if_neg (by omega),nr h]
theorem E8 {w:WorldD} {s m p:Int} {t:List UInt8} {ad:AddrD} {le:LetterD} (h:dV w le=false):a_ w ⟨11,s,p,m,t,ad,le⟩=(w,2):=by
 unfold a_;dsimp only;rw [if_neg (by omega),if_neg (by omega),if_pos rfl,if_pos h]
theorem E9 {w:WorldD} {s m p:Int} {t:List UInt8} {ad:AddrD} {le:LetterD} (h:dV w le=true) (h2:40≤w.bag.length):a_ w ⟨11,s,p,m,t,ad,le⟩=(w,1):=by
 unfold a_;dsimp only;rw [if_neg (by omega),if_neg (by omega),if_pos rfl,if_neg (by simp [h]),if_pos h2]
theorem E_ {w:WorldD} {s m p:Int} {t:List UInt8} {ad:AddrD} {le:LetterD} (h:dV w le=true) (h2:¬ 40≤w.bag.length):a_ w ⟨11,s,p,m,t,ad,le⟩=({ w with bag:=w.bag++[le] },0):=by
 unfold a_;dsimp only;rw [if_neg (by omega),if_neg (by omega),if_pos rfl,if_neg (by simp [h]),if_neg h2]
theorem Fa {w:WorldD} {s m:Int} {p:Nat} {t:List UInt8} {ad:AddrD} {le:LetterD} (h:¬ p < w.past.length):a_ w ⟨12,s,(p:Nat),m,t,ad,le⟩=(w,1):=by
 unfold a_;dsimp only;rw [if_neg (by omega),if_neg (by omega),if_neg (by omega),if_pos (.inl (by omega))]
theorem Fb {w:WorldD} {s m:Int} {p:Nat} {t:List UInt8} {ad:AddrD} {le:LetterD} (h:p < w.past.length) (h2:aZ w.past[p].to=0∨40≤w.bag.length):a_ w ⟨12,s,(p:Nat),m,t,ad,le⟩=(w,1):=by
 unfold a_;dsimp only;rw [if_neg (by omega),if_neg (by omega),if_neg (by omega),nr h,if_pos (.inr h2)]
theorem Fc {w:WorldD} {s m:Int} {p:Nat} {t:List UInt8} {ad:AddrD} {le:LetterD} (h:p < w.past.length) (h1:¬ aZ w.past[p].to=0) (h2:¬ 40≤w.bag.length):a_ w ⟨12,s,(p:Nat),m,t,ad,le⟩=({ w with bag:=w.bag++[w.past[p]] },0):=by
 unfold a_;dsimp only;rw [if_neg (by omega),if_neg (by omega),if_neg (by omega),nr h,if_neg (by omega)]
theorem yh (w:WorldD) (side many:Int) (p:Nat) (text:List UInt8) (ad:AddrD) (le:LetterD) (hw:SmallD w):
  ae Tryz.prog 69 [.sc (.pt 21 0 0),.ag (ActD.cs ⟨8,side,(p:Nat),many,text,ad,le⟩)] (w.hp true++[some ⟨[w.cs 0],61,51,true,false⟩]) (.sc (.int .i64 (a_ w ⟨8,side,(p:Nat),many,text,ad,le⟩).2))
  ([none,none,none,none,none,none,none,none,none,none,none,none,none,none,none,none,none,none,none,none,none,some ⟨[WorldD.cs (a_ w ⟨8,side,(p:Nat),many,text,ad,le⟩).1 22],61,51,true,false⟩]++WorldD.hp (a_ w ⟨8,side,(p:Nat),many,text,ad,le⟩).1 true):=by
 have hbag:=hw.p.s.bag
 have hpast:=hw.p.s.past
 obtain⟨R,hR⟩:∃ R,R=a_ w ⟨8,side,(p:Nat),many,text,ad,le⟩:=⟨_,rfl⟩
 rw [←hR]
 by_cases hp:p < w.bag.length
 ·rw [NN hp] at hR
  obtain⟨B,hBe⟩:∃ B,B=gU w.bag (p:Nat):=⟨_,rfl⟩
  have e2:p+(w.bag.length - (p+1))=B.length:=by rw [hBe,gy hp];omega
  have e1:(w.bag.take p).map LetterD.cs++((w.bag.map LetterD.cs).drop (p+1)).take (w.bag.length - (p+1))=B.map LetterD.cs:=by rw [hBe];exact (jl hp).2
  have hB:B.length≤1048576:=by omega
  have hlt:(w.bag.take p).length=p:=by simp;omega
  have hlt2:(List.take p (List.map LetterD.cs w.bag)).length=p:=by simp;omega
  have hC:=eV (w.bag.take p) (by omega)
  rw [hlt] at hC
  have hx:=ao (enc:=LetterD.cs) hp
  rw [←hBe] at hR
  clear hBe
  generalize hxx:w.bag[p]=x at*
  have hL:=zg { w with bag:=B } x ⟨⟨hw.p.s.a,hw.p.s.b,hB,hw.p.s.past,hw.p.s.keys,hw.p.s.tags,hw.p.s.nums,hw.p.s.ansA,hw.p.s.ansB⟩,hw.p.pa,hw.p.pb⟩
  obtain⟨L,hLe⟩:∃ L,L=gN { w with bag:=B } x:=⟨_,rfl⟩
  rw [←hLe] at hL hR
  clear hLe
  subst hR
  dsimp only
  refine aN Tryz.func69 (by kernel_rfl) rfl fun E hE=>ac 400 ?_
  simp (disch:=omega) only [Tryz.ntmps69,Tryz.results69,go_sem,Nat.reduceEqDiff,Nat.reduceAdd,Nat.reduceSub,Int.reduceAdd,Int.reduceSub,Int.reduceToNat]
  refine ar (qU [0,9]) (by kernel_rfl) (qC) (by kernel_rfl) (aa 400 ?_)
  simp (disch:=omega) only [go_sem,Nat.reduceEqDiff,Nat.reduceAdd,Nat.reduceSub,Int.reduceAdd,Int.reduceSub,Int.reduceToNat]
  refine⟨qC,ac 400 ?_⟩
  try simp (disch:=omega) only [go_sem,Nat.reduceEqDiff,Nat.reduceAdd,Nat.reduceSub,Int.reduceAdd,Int.reduceSub,Int.reduceToNat]
  refine ar (qU [0,10]) (by kernel_rfl) (qC) (by kernel_rfl) (aa 400 ?_)
  simp (disch:=omega) only [go_sem,Nat.reduceEqDiff,Nat.reduceAdd,Nat.reduceSub,Int.reduceAdd,Int.reduceSub,Int.reduceToNat]
  refine⟨qC,ac 400 ?_⟩
  try simp (disch:=omega) only [go_sem,Nat.reduceEqDiff,Nat.reduceAdd,Nat.reduceSub,Int.reduceAdd,Int.reduceSub,Int.reduceToNat,hx,hxx]
  refine ar (qU [0,8,9,8,8,1,17,4]) (by kernel_rfl) (qC) (by kernel_rfl) (aa 400 ?_)
  simp (disch:=omega) only [go_sem,Nat.reduceEqDiff,Nat.reduceAdd,Nat.reduceSub,Int.reduceAdd,Int.reduceSub,Int.reduceToNat]
  refine am (qC) (hC) [some (14,some 0)] qM (by rfl) (by rfl) (aa 400 ?_)
  simp (disch:=omega) only [go_sem,Nat.reduceEqDiff,Nat.reduceAdd,Nat.reduceSub,Int.reduceAdd,Int.reduceSub,Int.reduceToNat]
  refine⟨qC,ac 400 ?_⟩
  try simp (disch:=omega) only [go_sem,Nat.reduceEqDiff,Nat.reduceAdd,Nat.reduceSub,Int.reduceAdd,Int.reduceSub,Int.reduceToNat,e1,e2]
  refine ar (qU [0,8]) (by kernel_rfl) (qC) (by kernel_rfl) (aa 400 ?_)
  simp (disch:=omega) only [go_sem,Nat.reduceEqDiff,Nat.reduceAdd,Nat.reduceSub,Int.reduceAdd,Int.reduceSub,Int.reduceToNat]
  refine am (qC) (hL) (qI 0 14++qI 25 1++qI 15 6) qM (by rfl) (by rfl) (aa 400 ?_)
  simp (disch:=omega) only [go_sem,Nat.reduceEqDiff,Nat.reduceAdd,Nat.reduceSub,Int.reduceAdd,Int.reduceSub,Int.reduceToNat]
  refine⟨qC,ac 400 ?_⟩
  try simp (disch:=omega) only [go_sem,Nat.reduceEqDiff,Nat.reduceAdd,Nat.reduceSub,Int.reduceAdd,Int.reduceSub,Int.reduceToNat]
  refine aA (qI 0 22++qI 26 21) (qC) _ (by simp only [go_sem];rfl) (by rfl) (by rfl) ?_
  simp (disch:=omega) only [go_sem,Nat.reduceEqDiff,Nat.reduceAdd,Nat.reduceSub,Int.reduceAdd,Int.reduceSub,Int.reduceToNat]
 rw [NM hp] at hR
 subst hR
 dsimp only
 refine aN Tryz.func69 (by kernel_rfl) rfl fun E hE=>ac 400 ?_
 simp (disch:=omega) only [Tryz.ntmps69,Tryz.results69,go_sem,Nat.reduceEqDiff,Nat.reduceAdd,Nat.reduceSub,Int.reduceAdd,Int.reduceSub,Int.reduceToNat]
 refine ar (qU [0,9]) (by kernel_rfl) (qC) (by kernel_rfl) (aa 400 ?_)
 simp (disch:=omega) only [go_sem,Nat.reduceEqDiff,Nat.reduceAdd,Nat.reduceSub,Int.reduceAdd,Int.reduceSub,Int.reduceToNat]
 refine⟨qC,ac 400 ?_⟩
 try simp (disch:=omega) only [go_sem,Nat.reduceEqDiff,Nat.reduceAdd,Nat.reduceSub,Int.reduceAdd,Int.reduceSub,Int.reduceToNat]
 refine aA (qI 0 22++qI 0 21) (qC) _ (by simp only [go_sem];rfl) (by rfl) (by rfl) ?_
 simp (disch:=omega) only [go_sem,Nat.reduceEqDiff,Nat.reduceAdd,Nat.reduceSub,Int.reduceAdd,Int.reduceSub,Int.reduceToNat]
theorem yi (w:WorldD) (side many:Int) (p:Nat) (text:List UInt8) (ad:AddrD) (le:LetterD) (hw:SmallD w):
  ae Tryz.prog 69 [.sc (.pt 21 0 0),.ag (ActD.cs ⟨9,side,(p:Nat),many,text,ad,le⟩)] (w.hp true++[some ⟨[w.cs 0],61,51,true,false⟩]) (.sc (.int .i64 (a_ w ⟨9,side,(p:Nat),many,text,ad,le⟩).2))
  ([none,none,none,none,none,none,none,none,none,none,none,none,none,none,none,none,none,none,none,none,none,some ⟨[WorldD.cs (a_ w ⟨9,side,(p:Nat),many,text,ad,le⟩).1 22],61,51,true,false⟩]++WorldD.hp (a_ w ⟨9,side,(p:Nat),many,text,ad,le⟩).1 true):=by
 have hbag:=hw.p.s.bag
 have hpast:=hw.p.s.past
 obtain⟨R,hR⟩:∃ R,R=a_ w ⟨9,side,(p:Nat),many,text,ad,le⟩:=⟨_,rfl⟩
 rw [←hR]
 by_cases hp:p < w.bag.length
 ·rw [NP hp] at hR
  obtain⟨B,hBe⟩:∃ B,B=gU w.bag (p:Nat):=⟨_,rfl⟩
  have e2:p+(w.bag.length - (p+1))=B.length:=by rw [hBe,gy hp];omega
  have e1:(w.bag.take p).map LetterD.cs++((w.bag.map LetterD.cs).drop (p+1)).take (w.bag.length - (p+1))=B.map LetterD.cs:=by rw [hBe];exact (jl hp).2
  have hB:B.length≤1048576:=by omega
  have hlt:(w.bag.take p).length=p:=by simp;omega
  have hlt2:(List.take p (List.map LetterD.cs w.bag)).length=p:=by simp;omega
  have hC:=eV (w.bag.take p) (by omega)
  rw [hlt] at hC
  have hx:=ao (enc:=LetterD.cs) hp
  rw [←hBe] at hR
  clear hBe
  generalize hxx:w.bag[p]=x at*
  subst hR
  dsimp only
  refine aN Tryz.func69 (by kernel_rfl) rfl fun E hE=>ac 400 ?_
  simp (disch:=omega) only [Tryz.ntmps69,Tryz.results69,go_sem,Nat.reduceEqDiff,Nat.reduceAdd,Nat.reduceSub,Int.reduceAdd,Int.reduceSub,Int.reduceToNat]
  refine ar (qU [0,9]) (by kernel_rfl) (qC) (by kernel_rfl) (aa 400 ?_)
  simp (disch:=omega) only [go_sem,Nat.reduceEqDiff,Nat.reduceAdd,Nat.reduceSub,Int.reduceAdd,Int.reduceSub,Int.reduceToNat]
  refine⟨qC,ac 400 ?_⟩
  try simp (disch:=omega) only [go_sem,Nat.reduceEqDiff,Nat.reduceAdd,Nat.reduceSub,Int.reduceAdd,Int.reduceSub,Int.reduceToNat]
  refine ar (qU [0,10]) (by kernel_rfl) (qC) (by kernel_rfl) (aa 400 ?_)
  simp (disch:=omega) only [go_sem,Nat.reduceEqDiff,Nat.reduceAdd,Nat.reduceSub,Int.reduceAdd,Int.reduceSub,Int.reduceToNat]
  refine⟨qC,ac 400 ?_⟩
  try simp (disch:=omega) only [go_sem,Nat.reduceEqDiff,Nat.reduceAdd,Nat.reduceSub,Int.reduceAdd,Int.reduceSub,Int.reduceToNat,hx,hxx]
  refine ar (qU [0,8,9,8,8,1,17,4]) (by kernel_rfl) (qC) (by kernel_rfl) (aa 400 ?_)
  simp (disch:=omega) only [go_sem,Nat.reduceEqDiff,Nat.reduceAdd,Nat.reduceSub,Int.reduceAdd,Int.reduceSub,Int.reduceToNat]
  refine am (qC) (hC) [some (14,some 0)] qM (by rfl) (by rfl) (aa 400 ?_)
  simp (disch:=omega) only [go_sem,Nat.reduceEqDiff,Nat.reduceAdd,Nat.reduceSub,Int.reduceAdd,Int.reduceSub,Int.reduceToNat]
  refine⟨qC,ac 400 ?_⟩
  try simp (disch:=omega) only [go_sem,Nat.reduceEqDiff,Nat.reduceAdd,Nat.reduceSub,Int.reduceAdd,Int.reduceSub,Int.reduceToNat,e1,e2]
  refine aA (qI 0 22++qI 0 14++qI 25 1++qI 15 6) (qC) _ (by simp only [go_sem];rfl) (by rfl) (by rfl) ?_
  simp (disch:=omega) only [go_sem,Nat.reduceEqDiff,Nat.reduceAdd,Nat.reduceSub,Int.reduceAdd,Int.reduceSub,Int.reduceToNat]
 rw [NO hp] at hR
 subst hR
 dsimp only
 refine aN Tryz.func69 (by kernel_rfl) rfl fun E hE=>ac 400 ?_
 simp (disch:=omega) only [Tryz.ntmps69,Tryz.results69,go_sem,Nat.reduceEqDiff,Nat.reduceAdd,Nat.reduceSub,Int.reduceAdd,Int.reduceSub,Int.reduceToNat]
 refine ar (qU [0,9]) (by kernel_rfl) (qC) (by kernel_rfl) (aa 400 ?_)
 simp (disch:=omega) only [go_sem,Nat.reduceEqDiff,Nat.reduceAdd,Nat.reduceSub,Int.reduceAdd,Int.reduceSub,Int.reduceToNat]
 refine⟨qC,ac 400 ?_⟩
 try simp (disch:=omega) only [go_sem,Nat.reduceEqDiff,Nat.reduceAdd,Nat.reduceSub,Int.reduceAdd,Int.reduceSub,Int.reduceToNat]
 refine aA (qI 0 22++qI 0 21) (qC) _ (by simp only [go_sem];rfl) (by rfl) (by rfl) ?_
 simp (disch:=omega) only [go_sem,Nat.reduceEqDiff,Nat.reduceAdd,Nat.reduceSub,Int.reduceAdd,Int.reduceSub,Int.reduceToNat]
theorem wz (w:WorldD) (side many:Int) (p:Nat) (text:List UInt8) (ad:AddrD) (le:LetterD) (hw:SmallD w):
  ae Tryz.prog 69 [.sc (.pt 21 0 0),.ag (ActD.cs ⟨10,side,(p:Nat),many,text,ad,le⟩)] (w.hp true++[some ⟨[w.cs 0],61,51,true,false⟩]) (.sc (.int .i64 (a_ w ⟨10,side,(p:Nat),many,text,ad,le⟩).2))
  ([none,none,none,none,none,none,none,none,none,none,none,none,none,none,none,none,none,none,none,none,none,some ⟨[WorldD.cs (a_ w ⟨10,side,(p:Nat),many,text,ad,le⟩).1 22],61,51,true,false⟩]++WorldD.hp (a_ w ⟨10,side,(p:Nat),many,text,ad,le⟩).1 true):=by
 have hbag:=hw.p.s.bag
 have hpast:=hw.p.s.past
 obtain⟨R,hR⟩:∃ R,R=a_ w ⟨10,side,(p:Nat),many,text,ad,le⟩:=⟨_,rfl⟩
 rw [←hR]
 by_cases hp:p < w.bag.length∧¬ 40≤w.bag.length
 ·obtain⟨hp,h4⟩:=hp
  rw [E7 hp h4] at hR
  have hx:=ao (enc:=LetterD.cs) hp
  generalize hxx:w.bag[p]=x at*
  subst hR
  dsimp only
  refine aN Tryz.func69 (by kernel_rfl) rfl fun E hE=>ac 400 ?_
  simp (disch:=omega) only [Tryz.ntmps69,Tryz.results69,go_sem,Nat.reduceEqDiff,Nat.reduceAdd,Nat.reduceSub,Int.reduceAdd,Int.reduceSub,Int.reduceToNat]
  refine ar (qU [0,9]) (by kernel_rfl) (qC) (by kernel_rfl) (aa 400 ?_)
  simp (disch:=omega) only [go_sem,Nat.reduceEqDiff,Nat.reduceAdd,Nat.reduceSub,Int.reduceAdd,Int.reduceSub,Int.reduceToNat]
  refine⟨qC,ac 400 ?_⟩
  try simp (disch:=omega) only [go_sem,Nat.reduceEqDiff,Nat.reduceAdd,Nat.reduceSub,Int.reduceAdd,Int.reduceSub,Int.reduceToNat]
  refine ar (qU [0,18]) (by kernel_rfl) (qC) (by kernel_rfl) (aa 400 ?_)
  simp (disch:=omega) only [go_sem,Nat.reduceEqDiff,Nat.reduceAdd,Nat.reduceSub,Int.reduceAdd,Int.reduceSub,Int.reduceToNat]
  refine⟨qC,ac 400 ?_⟩
  try simp (disch:=omega) only [go_sem,Nat.reduceEqDiff,Nat.reduceAdd,Nat.reduceSub,Int.reduceAdd,Int.reduceSub,Int.reduceToNat,hx,hxx]
  refine aA (qI 0 22++qI 0 14++qI 24 1++qI 15 6) (qC) _ (by simp only [go_sem];rfl) (by rfl) (by rfl) ?_
  simp (disch:=omega) only [go_sem,Nat.reduceEqDiff,Nat.reduceAdd,Nat.reduceSub,Int.reduceAdd,Int.reduceSub,Int.reduceToNat]
  simp [LetterD.cs]
 rw [E6 (by omega)] at hR
 subst hR
 dsimp only
 by_cases hq:p < w.bag.length
 ·have h4:40≤w.bag.length:=by omega
  refine aN Tryz.func69 (by kernel_rfl) rfl fun E hE=>ac 400 ?_
  simp (disch:=omega) only [Tryz.ntmps69,Tryz.results69,go_sem,Nat.reduceEqDiff,Nat.reduceAdd,Nat.reduceSub,Int.reduceAdd,Int.reduceSub,Int.reduceToNat]
  refine ar (qU [0,9]) (by kernel_rfl) (qC) (by kernel_rfl) (aa 400 ?_)
  simp (disch:=omega) only [go_sem,Nat.reduceEqDiff,Nat.reduceAdd,Nat.reduceSub,Int.reduceAdd,Int.reduceSub,Int.reduceToNat]
  refine⟨qC,ac 400 ?_⟩
  try simp (disch:=omega) only [go_sem,Nat.reduceEqDiff,Nat.reduceAdd,Nat.reduceSub,Int.reduceAdd,Int.reduceSub,Int.reduceToNat]
  refine aA (qI 0 22++qI 0 21) (qC) _ (by simp only [go_sem];rfl) (by rfl) (by rfl) ?_
  simp (disch:=omega) only [go_sem,Nat.reduceEqDiff,Nat.reduceAdd,Nat.reduceSub,Int.reduceAdd,Int.reduceSub,Int.reduceToNat]
 refine aN Tryz.func69 (by kernel_rfl) rfl fun E hE=>ac 400 ?_
 simp (disch:=omega) only [Tryz.ntmps69,Tryz.results69,go_sem,Nat.reduceEqDiff,Nat.reduceAdd,Nat.reduceSub,Int.reduceAdd,Int.reduceSub,Int.reduceToNat]
 refine ar (qU [0,9]) (by kernel_rfl) (qC) (by kernel_rfl) (aa 400 ?_)
 simp (disch:=omega) only [go_sem,Nat.reduceEqDiff,Nat.reduceAdd,Nat.reduceSub,Int.reduceAdd,Int.reduceSub,Int.reduceToNat]
 refine⟨qC,ac 400 ?_⟩
 try simp (disch:=omega) only [go_sem,Nat.reduceEqDiff,Nat.reduceAdd,Nat.reduceSub,Int.reduceAdd,Int.reduceSub,Int.reduceToNat]
 refine aA (qI 0 22++qI 0 21) (qC) _ (by simp only [go_sem];rfl) (by rfl) (by rfl) ?_
 simp (disch:=omega) only [go_sem,Nat.reduceEqDiff,Nat.reduceAdd,Nat.reduceSub,Int.reduceAdd,Int.reduceSub,Int.reduceToNat]
theorem wC (w:WorldD) (side many:Int) (p:Int) (text:List UInt8) (ad:AddrD) (le:LetterD) (hw:SmallD w):
  ae Tryz.prog 69 [.sc (.pt 21 0 0),.ag (ActD.cs ⟨11,side,p,many,text,ad,le⟩)] (w.hp true++[some ⟨[w.cs 0],61,51,true,false⟩]) (.sc (.int .i64 (a_ w ⟨11,side,p,many,text,ad,le⟩).2))
  ([none,none,none,none,none,none,none,none,none,none,none,none,none,none,none,none,none,none,none,none,none,some ⟨[WorldD.cs (a_ w ⟨11,side,p,many,text,ad,le⟩).1 22],61,51,true,false⟩]++WorldD.hp (a_ w ⟨11,side,p,many,text,ad,le⟩).1 true):=by
 have hbag:=hw.p.s.bag
 have hpast:=hw.p.s.past
 obtain⟨R,hR⟩:∃ R,R=a_ w ⟨11,side,p,many,text,ad,le⟩:=⟨_,rfl⟩
 rw [←hR]
 cases hm:dV w le with
 |false=>
  rw [E8 hm] at hR
  subst hR
  dsimp only
  have hM:=iG w le hw.p.s.keys hw.p.s.tags hw.p.s.nums
  rw [hm] at hM
  refine aN Tryz.func69 (by kernel_rfl) rfl fun E hE=>ac 400 ?_
  simp (disch:=omega) only [Tryz.ntmps69,Tryz.results69,go_sem,Nat.reduceEqDiff,Nat.reduceAdd,Nat.reduceSub,Int.reduceAdd,Int.reduceSub,Int.reduceToNat]
  refine ar (qU [0,9]) (by kernel_rfl) (qC) (by kernel_rfl) (aa 400 ?_)
  simp (disch:=omega) only [go_sem,Nat.reduceEqDiff,Nat.reduceAdd,Nat.reduceSub,Int.reduceAdd,Int.reduceSub,Int.reduceToNat]
  refine⟨qC,ac 400 ?_⟩
  try simp (disch:=omega) only [go_sem,Nat.reduceEqDiff,Nat.reduceAdd,Nat.reduceSub,Int.reduceAdd,Int.reduceSub,Int.reduceToNat]
  refine ar (qU [0,7]) (by kernel_rfl) (qC) (by kernel_rfl) (aa 400 ?_)
  simp (disch:=omega) only [go_sem,Nat.reduceEqDiff,Nat.reduceAdd,Nat.reduceSub,Int.reduceAdd,Int.reduceSub,Int.reduceToNat]
  refine am (qC) (hM) (qI 0 21) qM (by rfl) (by rfl) (aa 400 ?_)
  simp (disch:=omega) only [go_sem,Nat.reduceEqDiff,Nat.reduceAdd,Nat.reduceSub,Int.reduceAdd,Int.reduceSub,Int.reduceToNat]
  refine⟨qC,ac 400 ?_⟩
  try simp (disch:=omega) only [go_sem,Nat.reduceEqDiff,Nat.reduceAdd,Nat.reduceSub,Int.reduceAdd,Int.reduceSub,Int.reduceToNat]
  refine aA (qI 0 22++qI 0 21) (qC) _ (by simp only [go_sem];rfl) (by rfl) (by rfl) ?_
  simp (disch:=omega) only [go_sem,Nat.reduceEqDiff,Nat.reduceAdd,Nat.reduceSub,Int.reduceAdd,Int.reduceSub,Int.reduceToNat]
 |true=>
  by_cases h4:40≤w.bag.length
  ·rw [E9 hm h4] at hR
   subst hR
   dsimp only
   have hM:=iG w le hw.p.s.keys hw.p.s.tags hw.p.s.nums
   rw [hm] at hM
   refine aN Tryz.func69 (by kernel_rfl) rfl fun E hE=>ac 400 ?_
   simp (disch:=omega) only [Tryz.ntmps69,Tryz.results69,go_sem,Nat.reduceEqDiff,Nat.reduceAdd,Nat.reduceSub,Int.reduceAdd,Int.reduceSub,Int.reduceToNat]
   refine ar (qU [0,9]) (by kernel_rfl) (qC) (by kernel_rfl) (aa 400 ?_)
   simp (disch:=omega) only [go_sem,Nat.reduceEqDiff,Nat.reduceAdd,Nat.reduceSub,Int.reduceAdd,Int.reduceSub,Int.reduceToNat]
   refine⟨qC,ac 400 ?_⟩
   try simp (disch:=omega) only [go_sem,Nat.reduceEqDiff,Nat.reduceAdd,Nat.reduceSub,Int.reduceAdd,Int.reduceSub,Int.reduceToNat]
   refine ar (qU [0,7]) (by kernel_rfl) (qC) (by kernel_rfl) (aa 400 ?_)
   simp (disch:=omega) only [go_sem,Nat.reduceEqDiff,Nat.reduceAdd,Nat.reduceSub,Int.reduceAdd,Int.reduceSub,Int.reduceToNat]
   refine am (qC) (hM) (qI 0 21) qM (by rfl) (by rfl) (aa 400 ?_)
   simp (disch:=omega) only [go_sem,Nat.reduceEqDiff,Nat.reduceAdd,Nat.reduceSub,Int.reduceAdd,Int.reduceSub,Int.reduceToNat]
   refine⟨qC,ac 400 ?_⟩
   try simp (disch:=omega) only [go_sem,Nat.reduceEqDiff,Nat.reduceAdd,Nat.reduceSub,Int.reduceAdd,Int.reduceSub,Int.reduceToNat]
   refine aA (qI 0 22++qI 0 21) (qC) _ (by simp only [go_sem];rfl) (by rfl) (by rfl) ?_
   simp (disch:=omega) only [go_sem,Nat.reduceEqDiff,Nat.reduceAdd,Nat.reduceSub,Int.reduceAdd,Int.reduceSub,Int.reduceToNat]
  rw [E_ hm h4] at hR
  subst hR
  dsimp only
  have hM:=iG w le hw.p.s.keys hw.p.s.tags hw.p.s.nums
  rw [hm] at hM
  refine aN Tryz.func69 (by kernel_rfl) rfl fun E hE=>ac 400 ?_
  simp (disch:=omega) only [Tryz.ntmps69,Tryz.results69,go_sem,Nat.reduceEqDiff,Nat.reduceAdd,Nat.reduceSub,Int.reduceAdd,Int.reduceSub,Int.reduceToNat]
  refine ar (qU [0,9]) (by kernel_rfl) (qC) (by kernel_rfl) (aa 400 ?_)
  simp (disch:=omega) only [go_sem,Nat.reduceEqDiff,Nat.reduceAdd,Nat.reduceSub,Int.reduceAdd,Int.reduceSub,Int.reduceToNat]
  refine⟨qC,ac 400 ?_⟩
  try simp (disch:=omega) only [go_sem,Nat.reduceEqDiff,Nat.reduceAdd,Nat.reduceSub,Int.reduceAdd,Int.reduceSub,Int.reduceToNat]
  refine ar (qU [0,7]) (by kernel_rfl) (qC) (by kernel_rfl) (aa 400 ?_)
  simp (disch:=omega) only [go_sem,Nat.reduceEqDiff,Nat.reduceAdd,Nat.reduceSub,Int.reduceAdd,Int.reduceSub,Int.reduceToNat]
  refine am (qC) (hM) (qI 0 21) qM (by rfl) (by rfl) (aa 400 ?_)
  simp (disch:=omega) only [go_sem,Nat.reduceEqDiff,Nat.reduceAdd,Nat.reduceSub,Int.reduceAdd,Int.reduceSub,Int.reduceToNat]
  refine⟨qC,ac 400 ?_⟩
  try simp (disch:=omega) only [go_sem,Nat.reduceEqDiff,Nat.reduceAdd,Nat.reduceSub,Int.reduceAdd,Int.reduceSub,Int.reduceToNat]
  refine ar (qU [0,12]) (by kernel_rfl) (qC) (by kernel_rfl) (aa 400 ?_)
  simp (disch:=omega) only [go_sem,Nat.reduceEqDiff,Nat.reduceAdd,Nat.reduceSub,Int.reduceAdd,Int.reduceSub,Int.reduceToNat]
  refine⟨qC,ac 400 ?_⟩
  try simp (disch:=omega) only [go_sem,Nat.reduceEqDiff,Nat.reduceAdd,Nat.reduceSub,Int.reduceAdd,Int.reduceSub,Int.reduceToNat]
  refine aA (qI 0 22++qI 0 14++qI 24 1++qI 15 6) (qC) _ (by simp only [go_sem];rfl) (by rfl) (by rfl) ?_
  simp (disch:=omega) only [go_sem,Nat.reduceEqDiff,Nat.reduceAdd,Nat.reduceSub,Int.reduceAdd,Int.reduceSub,Int.reduceToNat]
  simp [LetterD.cs]
theorem wD (w:WorldD) (side many:Int) (p:Nat) (text:List UInt8) (ad:AddrD) (le:LetterD) (hw:SmallD w):
  ae Tryz.prog 69 [.sc (.pt 21 0 0),.ag (ActD.cs ⟨12,side,(p:Nat),many,text,ad,le⟩)] (w.hp true++[some ⟨[w.cs 0],61,51,true,false⟩]) (.sc (.int .i64 (a_ w ⟨12,side,(p:Nat),many,text,ad,le⟩).2))
  ([none,none,none,none,none,none,none,none,none,none,none,none,none,none,none,none,none,none,none,none,none,some ⟨[WorldD.cs (a_ w ⟨12,side,(p:Nat),many,text,ad,le⟩).1 22],61,51,true,false⟩]++WorldD.hp (a_ w ⟨12,side,(p:Nat),many,text,ad,le⟩).1 true):=by
 have hbag:=hw.p.s.bag
 have hpast:=hw.p.s.past
 obtain⟨R,hR⟩:∃ R,R=a_ w ⟨12,side,(p:Nat),many,text,ad,le⟩:=⟨_,rfl⟩
 rw [←hR]
 by_cases hp:p < w.past.length
 ·have hx:=ao (enc:=LetterD.cs) hp
  have hq1:= @Fb w side many p text ad le hp
  have hq2:= @Fc w side many p text ad le hp
  rw [←hR] at hq1 hq2
  generalize hxx:w.past[p]=x at*
  have hS:=dC x.to
  have hSb:=kT x.to
  generalize aZ x.to=sd at*
  by_cases h0:sd=0
  ·rw [hq1 (.inl h0)]
   dsimp only
   refine aN Tryz.func69 (by kernel_rfl) rfl fun E hE=>ac 400 ?_
   simp (disch:=omega) only [Tryz.ntmps69,Tryz.results69,go_sem,Nat.reduceEqDiff,Nat.reduceAdd,Nat.reduceSub,Int.reduceAdd,Int.reduceSub,Int.reduceToNat]
   refine ar (qU [0,9]) (by kernel_rfl) (qC) (by kernel_rfl) (aa 400 ?_)
   simp (disch:=omega) only [go_sem,Nat.reduceEqDiff,Nat.reduceAdd,Nat.reduceSub,Int.reduceAdd,Int.reduceSub,Int.reduceToNat]
   refine⟨qC,ac 400 ?_⟩
   try simp (disch:=omega) only [go_sem,Nat.reduceEqDiff,Nat.reduceAdd,Nat.reduceSub,Int.reduceAdd,Int.reduceSub,Int.reduceToNat]
   refine ar (qU [0,24]) (by kernel_rfl) (qC) (by kernel_rfl) (aa 400 ?_)
   simp (disch:=omega) only [go_sem,Nat.reduceEqDiff,Nat.reduceAdd,Nat.reduceSub,Int.reduceAdd,Int.reduceSub,Int.reduceToNat]
   try simp (disch:=omega) only [go_sem,hx,hxx]
   refine am (qC) (hS) [] qM (by rfl) (by rfl) (aa 400 ?_)
   simp (disch:=omega) only [go_sem,Nat.reduceEqDiff,Nat.reduceAdd,Nat.reduceSub,Int.reduceAdd,Int.reduceSub,Int.reduceToNat]
   refine⟨qC,ac 400 ?_⟩
   try simp (disch:=omega) only [go_sem,Nat.reduceEqDiff,Nat.reduceAdd,Nat.reduceSub,Int.reduceAdd,Int.reduceSub,Int.reduceToNat,hx,hxx]
   refine aA (qI 0 22++qI 0 21) (qC) _ (by simp only [go_sem];rfl) (by rfl) (by rfl) ?_
   simp (disch:=omega) only [go_sem,Nat.reduceEqDiff,Nat.reduceAdd,Nat.reduceSub,Int.reduceAdd,Int.reduceSub,Int.reduceToNat]
  by_cases h4:40≤w.bag.length
  ·rw [hq1 (.inr h4)]
   dsimp only
   refine aN Tryz.func69 (by kernel_rfl) rfl fun E hE=>ac 400 ?_
   simp (disch:=omega) only [Tryz.ntmps69,Tryz.results69,go_sem,Nat.reduceEqDiff,Nat.reduceAdd,Nat.reduceSub,Int.reduceAdd,Int.reduceSub,Int.reduceToNat]
   refine ar (qU [0,9]) (by kernel_rfl) (qC) (by kernel_rfl) (aa 400 ?_)
   simp (disch:=omega) only [go_sem,Nat.reduceEqDiff,Nat.reduceAdd,Nat.reduceSub,Int.reduceAdd,Int.reduceSub,Int.reduceToNat]
   refine⟨qC,ac 400 ?_⟩
   try simp (disch:=omega) only [go_sem,Nat.reduceEqDiff,Nat.reduceAdd,Nat.reduceSub,Int.reduceAdd,Int.reduceSub,Int.reduceToNat]
   refine ar (qU [0,24]) (by kernel_rfl) (qC) (by kernel_rfl) (aa 400 ?_)
   simp (disch:=omega) only [go_sem,Nat.reduceEqDiff,Nat.reduceAdd,Nat.reduceSub,Int.reduceAdd,Int.reduceSub,Int.reduceToNat]
   try simp (disch:=omega) only [go_sem,hx,hxx]
   refine am (qC) (hS) [] qM (by rfl) (by rfl) (aa 400 ?_)
   simp (disch:=omega) only [go_sem,Nat.reduceEqDiff,Nat.reduceAdd,Nat.reduceSub,Int.reduceAdd,Int.reduceSub,Int.reduceToNat]
   refine⟨qC,ac 400 ?_⟩
   try simp (disch:=omega) only [go_sem,Nat.reduceEqDiff,Nat.reduceAdd,Nat.reduceSub,Int.reduceAdd,Int.reduceSub,Int.reduceToNat,hx,hxx]
   refine aA (qI 0 22++qI 0 21) (qC) _ (by simp only [go_sem];rfl) (by rfl) (by rfl) ?_
   simp (disch:=omega) only [go_sem,Nat.reduceEqDiff,Nat.reduceAdd,Nat.reduceSub,Int.reduceAdd,Int.reduceSub,Int.reduceToNat]
  rw [hq2 h0 h4]
  dsimp only
  refine aN Tryz.func69 (by kernel_rfl) rfl fun E hE=>ac 400 ?_
  simp (disch:=omega) only [Tryz.ntmps69,Tryz.results69,go_sem,Nat.reduceEqDiff,Nat.reduceAdd,Nat.reduceSub,Int.reduceAdd,Int.reduceSub,Int.reduceToNat]
  refine ar (qU [0,9]) (by kernel_rfl) (qC) (by kernel_rfl) (aa 400 ?_)
  simp (disch:=omega) only [go_sem,Nat.reduceEqDiff,Nat.reduceAdd,Nat.reduceSub,Int.reduceAdd,Int.reduceSub,Int.reduceToNat]
  refine⟨qC,ac 400 ?_⟩
  try simp (disch:=omega) only [go_sem,Nat.reduceEqDiff,Nat.reduceAdd,Nat.reduceSub,Int.reduceAdd,Int.reduceSub,Int.reduceToNat]
  refine ar (qU [0,24]) (by kernel_rfl) (qC) (by kernel_rfl) (aa 400 ?_)
  simp (disch:=omega) only [go_sem,Nat.reduceEqDiff,Nat.reduceAdd,Nat.reduceSub,Int.reduceAdd,Int.reduceSub,Int.reduceToNat]
  try simp (disch:=omega) only [go_sem,hx,hxx]
  refine am (qC) (hS) [] qM (by rfl) (by rfl) (aa 400 ?_)
  simp (disch:=omega) only [go_sem,Nat.reduceEqDiff,Nat.reduceAdd,Nat.reduceSub,Int.reduceAdd,Int.reduceSub,Int.reduceToNat]
  refine⟨qC,ac 400 ?_⟩
  try simp (disch:=omega) only [go_sem,Nat.reduceEqDiff,Nat.reduceAdd,Nat.reduceSub,Int.reduceAdd,Int.reduceSub,Int.reduceToNat,hx,hxx]
  refine ar (qU [0,18]) (by kernel_rfl) (qC) (by kernel_rfl) (aa 400 ?_)
  simp (disch:=omega) only [go_sem,Nat.reduceEqDiff,Nat.reduceAdd,Nat.reduceSub,Int.reduceAdd,Int.reduceSub,Int.reduceToNat]
  refine⟨qC,ac 400 ?_⟩
  try simp (disch:=omega) only [go_sem,Nat.reduceEqDiff,Nat.reduceAdd,Nat.reduceSub,Int.reduceAdd,Int.reduceSub,Int.reduceToNat,hx,hxx]
  refine aA (qI 0 22++qI 0 14++qI 24 1++qI 15 6) (qC) _ (by simp only [go_sem];rfl) (by rfl) (by rfl) ?_
  simp (disch:=omega) only [go_sem,Nat.reduceEqDiff,Nat.reduceAdd,Nat.reduceSub,Int.reduceAdd,Int.reduceSub,Int.reduceToNat]
  simp [LetterD.cs]
 rw [Fa hp] at hR
 subst hR
 dsimp only
 refine aN Tryz.func69 (by kernel_rfl) rfl fun E hE=>ac 400 ?_
 simp (disch:=omega) only [Tryz.ntmps69,Tryz.results69,go_sem,Nat.reduceEqDiff,Nat.reduceAdd,Nat.reduceSub,Int.reduceAdd,Int.reduceSub,Int.reduceToNat]
 refine ar (qU [0,9]) (by kernel_rfl) (qC) (by kernel_rfl) (aa 400 ?_)
 simp (disch:=omega) only [go_sem,Nat.reduceEqDiff,Nat.reduceAdd,Nat.reduceSub,Int.reduceAdd,Int.reduceSub,Int.reduceToNat]
 refine⟨qC,ac 400 ?_⟩
 try simp (disch:=omega) only [go_sem,Nat.reduceEqDiff,Nat.reduceAdd,Nat.reduceSub,Int.reduceAdd,Int.reduceSub,Int.reduceToNat]
 refine ar (qU [0,24]) (by kernel_rfl) (qC) (by kernel_rfl) (aa 400 ?_)
 simp (disch:=omega) only [go_sem,Nat.reduceEqDiff,Nat.reduceAdd,Nat.reduceSub,Int.reduceAdd,Int.reduceSub,Int.reduceToNat]
 refine⟨qC,ac 400 ?_⟩
 try simp (disch:=omega) only [go_sem,Nat.reduceEqDiff,Nat.reduceAdd,Nat.reduceSub,Int.reduceAdd,Int.reduceSub,Int.reduceToNat]
 refine aA (qI 0 22++qI 0 21) (qC) _ (by simp only [go_sem];rfl) (by rfl) (by rfl) ?_
 simp (disch:=omega) only [go_sem,Nat.reduceEqDiff,Nat.reduceAdd,Nat.reduceSub,Int.reduceAdd,Int.reduceSub,Int.reduceToNat]
end
section
open Go.RowKit
theorem wE (w:WorldD) (side many:Int) (p:Nat) (text:List UInt8) (ad:AddrD) (le:LetterD) (hw:SmallD w):
  ae Tryz.prog 59 [.ag (w.cs 0),.ag (ActD.cs ⟨8,side,(p:Nat),many,text,ad,le⟩)] (w.hp true) (.tu [.ag (WorldD.cs (a_ w ⟨8,side,(p:Nat),many,text,ad,le⟩).1 21),.sc (.int .i64 (a_ w ⟨8,side,(p:Nat),many,text,ad,le⟩).2)])
  ([none,none,none,none,none,none,none,none,none,none,none,none,none,none,none,none,none,none,none,none,none]++WorldD.hp (a_ w ⟨8,side,(p:Nat),many,text,ad,le⟩).1 true):=by
 have hbag:=hw.p.s.bag
 obtain⟨R,hR⟩:∃ R,R=a_ w ⟨8,side,(p:Nat),many,text,ad,le⟩:=⟨_,rfl⟩
 rw [←hR]
 by_cases hp:p < w.bag.length
 ·rw [NN hp] at hR
  have hO:=oZ w.bag p hbag hp
  rw [←gy hp,←n6] at hO
  obtain⟨B,hBe⟩:∃ B,B=gU w.bag (p:Nat):=⟨_,rfl⟩
  have hB:B.length≤1048576:=by rw [hBe,gy hp];omega
  have hx:=ao (enc:=LetterD.cs) hp
  rw [←hBe] at hR hO
  clear hBe
  generalize hxx:w.bag[p]=x at*
  have hL:=zh { w with bag:=B } x ⟨⟨hw.p.s.a,hw.p.s.b,hB,hw.p.s.past,hw.p.s.keys,hw.p.s.tags,hw.p.s.nums,hw.p.s.ansA,hw.p.s.ansB⟩,hw.p.pa,hw.p.pb⟩
  obtain⟨L,hLe⟩:∃ L,L=gN { w with bag:=B } x:=⟨_,rfl⟩
  rw [←hLe] at hL hR
  clear hLe
  subst hR
  dsimp only
  refine ga Tryz.func59 Tryz.ntmps59 Tryz.results59 fun E hE=>?_
  try simp (disch:=omega) only [go_sem,seval,hx,hxx]
  refine qK (hO) (qI 14 1) ?_
  refine qK (hL) (qI 0 14++qI 25 1++qI 15 6) ?_
  exact cc (qI 0 21++qI 26 21)
 rw [NM hp] at hR
 subst hR
 dsimp only
 refine ga Tryz.func59 Tryz.ntmps59 Tryz.results59 fun E hE=>?_
 exact cc (qI 0 21++qI 0 21)
theorem wF (w:WorldD) (side many:Int) (p:Nat) (text:List UInt8) (ad:AddrD) (le:LetterD) (hw:SmallD w):
  ae Tryz.prog 59 [.ag (w.cs 0),.ag (ActD.cs ⟨9,side,(p:Nat),many,text,ad,le⟩)] (w.hp true) (.tu [.ag (WorldD.cs (a_ w ⟨9,side,(p:Nat),many,text,ad,le⟩).1 21),.sc (.int .i64 (a_ w ⟨9,side,(p:Nat),many,text,ad,le⟩).2)])
  ([none,none,none,none,none,none,none,none,none,none,none,none,none,none,none,none,none,none,none,none,none]++WorldD.hp (a_ w ⟨9,side,(p:Nat),many,text,ad,le⟩).1 true):=by
 have hbag:=hw.p.s.bag
 obtain⟨R,hR⟩:∃ R,R=a_ w ⟨9,side,(p:Nat),many,text,ad,le⟩:=⟨_,rfl⟩
 rw [←hR]
 by_cases hp:p < w.bag.length
 ·rw [NP hp] at hR
  have hO:=oZ w.bag p hbag hp
  rw [←gy hp,←n6] at hO
  obtain⟨B,hBe⟩:∃ B,B=gU w.bag (p:Nat):=⟨_,rfl⟩
  have hB:B.length≤1048576:=by rw [hBe,gy hp];omega
  have hx:=ao (enc:=LetterD.cs) hp
  rw [←hBe] at hR hO
  clear hBe
  generalize hxx:w.bag[p]=x at*
  subst hR
  dsimp only
  refine ga Tryz.func59 Tryz.ntmps59 Tryz.results59 fun E hE=>?_
  try simp (disch:=omega) only [go_sem,seval,hx,hxx]
  refine qK (hO) (qI 14 1) ?_
  exact cc (qI 0 21++qI 0 14++qI 25 1++qI 15 6)
 rw [NO hp] at hR
 subst hR
 dsimp only
 refine ga Tryz.func59 Tryz.ntmps59 Tryz.results59 fun E hE=>?_
 exact cc (qI 0 21++qI 0 21)
theorem tD (w:WorldD) (side many:Int) (p:Nat) (text:List UInt8) (ad:AddrD) (le:LetterD) (hw:SmallD w):
  ae Tryz.prog 59 [.ag (w.cs 0),.ag (ActD.cs ⟨10,side,(p:Nat),many,text,ad,le⟩)] (w.hp true) (.tu [.ag (WorldD.cs (a_ w ⟨10,side,(p:Nat),many,text,ad,le⟩).1 21),.sc (.int .i64 (a_ w ⟨10,side,(p:Nat),many,text,ad,le⟩).2)])
  ([none,none,none,none,none,none,none,none,none,none,none,none,none,none,none,none,none,none,none,none,none]++WorldD.hp (a_ w ⟨10,side,(p:Nat),many,text,ad,le⟩).1 true):=by
 have hbag:=hw.p.s.bag
 obtain⟨R,hR⟩:∃ R,R=a_ w ⟨10,side,(p:Nat),many,text,ad,le⟩:=⟨_,rfl⟩
 rw [←hR]
 by_cases hp:p < w.bag.length∧¬ 40≤w.bag.length
 ·obtain⟨hp,h4⟩:=hp
  rw [E7 hp h4] at hR
  have hx:=ao (enc:=LetterD.cs) hp
  generalize hxx:w.bag[p]=x at*
  subst hR
  dsimp only
  refine ga Tryz.func59 Tryz.ntmps59 Tryz.results59 fun E hE=>?_
  try simp (disch:=omega) only [go_sem,seval,hx,hxx]
  refine aA (qI 0 21++qI 0 14++qI 26 1++qI 15 6) (qC) _ (by simp only [go_sem];rfl) (by rfl) (by rfl) ?_
  simp (disch:=omega) only [go_sem,seval]
  simp [LetterD.cs]
 rw [E6 (by omega)] at hR
 subst hR
 dsimp only
 by_cases hq:p < w.bag.length
 ·have h4:40≤w.bag.length:=by omega
  have hx:=ao (enc:=LetterD.cs) hq
  generalize hxx:w.bag[p]=x at*
  refine ga Tryz.func59 Tryz.ntmps59 Tryz.results59 fun E hE=>?_
  try simp (disch:=omega) only [go_sem,seval,hx,hxx]
  exact cc (qI 0 21++qI 0 21)
 refine ga Tryz.func59 Tryz.ntmps59 Tryz.results59 fun E hE=>?_
 exact cc (qI 0 21++qI 0 21)
end
section
open Go.RowKit
theorem uO (e:EndD) (hs:Small e) (ht:e.out.text.length≤1048576):ae Tryz.prog 148 [.ag (e.cs 0)] (e.hp false) (.tu [.ag ((dt e).1.cs 7),.sc (.sl 14 0 (dt e).2.length)])
  (e.hp false++((dt e).1.hp true++[some ⟨(dt e).2.map LetterD.cs,19,91,true,true⟩])):=by
 have hC:=(qH (aK e))
 have hK:=(qH (bf e))
 have hsb:=hs.subs
 have hso:=hs.own
 have hsh:=hs.halfs
 have hF:=x3 e.bucket
 have hY:=wi e.halfs (e.now+1) hs.halfs
 have hAn:=A_ e.out
 have hyl:=mj e.halfs (e.now+1)
 have hat:(fu e.out).text.length≤1048576:=by rw [fu];split<;>exact ht
 have hf:=E2 (e:=e)
 have hto:=zk (e:=e)
 have hti:=zl (e:=e)
 have htu:= @E3 e
 have hok:Fl e=(aj e && decide (e.now < 1000000000) && e.subs.all fun s=>decide (s.tries < 1000000000)):=rfl
 have hsm0:Small { e with now:=e.now+1,bucket:=c8 e.bucket,halfs:=bM e.halfs (e.now+1),out:=fu e.out }:=⟨hs.own,hs.far,hs.subs,by dsimp only;omega,hs.list,hs.done,hs.over⟩
 have hsm1:Small { e with now:=e.now+1,bucket:=c8 e.bucket,halfs:=bM e.halfs (e.now+1),out:=fu e.out,subs:=e.subs.map da }:=⟨hs.own,hs.far,by dsimp only;rw [List.length_map];exact hs.subs,by dsimp only;omega,hs.list,hs.done,hs.over⟩
 have hfl:(e.subs.flatMap (eP e)).length≤e.subs.length:=nm (lc e) _
 obtain⟨R,hR⟩:∃ R,R=dt e:=⟨_,rfl⟩
 rw [←hR] at hf hto hti
 simp only [←hR] at htu
 rw [←hR]
 clear hR
 refine ga Tryz.func148 Tryz.ntmps148 Tryz.results148 fun E hE=>?_
 refine qK (hC) (qI 0 7) ?_
 refine qK (hK) (qI 0 7) ?_
 refine qB (fun h1=>?_) fun h1=>?_
 ·have hnow:=ik h1
  by_cases h2:e.now < 1000000000
  ·refine qX ?_
   refine cE 7 hE (fun s (i:Nat)=>s.at (qU [0,1,3,1,6,1,10,12,25,8]) [(24,.sc (.int .i64 (i:Nat)))] (s.hp)) (fun (i:Nat)=>i≤e.subs.length∧(e.subs.drop i).all (fun s=>decide (s.tries < 1000000000))=e.subs.all (fun s=>decide (s.tries < 1000000000))) (fun (i:Nat)=>e.subs.length - i) 0 (qI 0 17) (qC) (⟨Nat.zero_le _,rfl⟩) (ab (by rfl) (by rfl) ?_) fun i hi N hN=>?_
   ·exact qY
   obtain⟨g1,g2⟩:=hi
   refine qR ?_
   refine qB (fun b=>?_) fun b=>?_
   ·rw [k_ b] at g2
    have hg:=ao (enc:=SubD.cs) b
    have hsub:=ld h1 b
    try simp (disch:=omega) only [go_sem,seval,hg]
    refine qB (fun b2=>?_) fun b2=>?_
    ·rw [decide_eq_false (by omega),Bool.false_and] at g2
     rw [hf (by rw [hok,←g2];simp)]
     refine qX ?_
     exact cc (qI 0 7++qI 9 7++qO 1)
    rw [decide_eq_true (by omega),Bool.true_and] at g2
    refine qX ?_
    exact UH hN (i+1) (qI 0 17) (by (try dsimp only);exact⟨by omega,g2⟩)
   rw [List.drop_eq_nil_of_le (by omega),List.all_nil] at g2
   have hall:=g2.symm
   have hall2:∀ (k:Nat) (hk:k < e.subs.length),e.subs[k].tries < 1000000000:=fun k hk=>by
    have:=List.all_eq_true.1 hall e.subs[k] (List.getElem_mem hk)
    simpa using this
   have htk:Fl e=true:=by rw [hok,h1,decide_eq_true h2,hall];rfl
   refine qX ?_
   refine qK (hF) [] ?_
   refine qK (hY) (qI 3 1) ?_
   refine qK (hAn) [] ?_
   by_cases h2s:e.state=2
   ·have hR:=hto htk h2s
    rw [oU] at hR
    obtain⟨LL,hLL⟩:∃ L,L=e.subs.flatMap (eP e):=⟨_,rfl⟩
    rw [←hLL] at hR hfl
    refine qX ?_
    refine cE 7 hE (fun s (y:Nat×List LetterD)=>s.at (qU [0,1,6,1,8,52,62,71]) [(61,.sc (.int .i64 (y.1:Nat))),(7,.sc (.sl 18 0 y.2.length))] ((s.hp.set 11 (some ⟨(cy da e.subs y.1).map SubD.cs,10,201,true,true⟩))++[some ⟨y.2.map LetterD.cs,19,91,true,true⟩])) (fun (y:Nat×List LetterD)=>y.1≤e.subs.length∧y.2.length≤y.1∧LL=y.2++(e.subs.drop y.1).flatMap (eP e)) (fun (y:Nat×List LetterD)=>e.subs.length - y.1) (0,[]) (qI 0 18++qO 1) (qC) (⟨Nat.zero_le _,Nat.zero_le _,hLL⟩) (ab (by rfl) (by rfl) ?_) fun y hy N2 hN2=>?_
    ·try simp (disch:=omega) only [go_sem,seval]
     try rw [jS]
    obtain⟨k,l⟩:=y
    obtain⟨f1,f2,f3⟩:=hy
    dsimp only at f1 f2 f3
    refine ac 400 ?_
    have hgl:(cy da e.subs k).length=e.subs.length:=kW
    refine qX ?_
    refine qB (fun b=>?_) fun b=>?_
    ·have hg:=kX (f:=da) b
     have hsub:=ld h1 b
     have htr:=hall2 k b
     rw [rZ b] at f3
     have hset:=kY (f:=da) b
     have hsame:=jR (f:=da) b
     obtain⟨s0,hs0⟩:∃ s,s=e.subs[k]:=⟨_,rfl⟩
     rw [←hs0] at hsub htr f3 hset hsame
     have hg':∀ p:k < (cy da e.subs k).length,(cy da e.subs k)[k]'p=s0:=fun p=>by rw [hg p,hs0]
     clear hg
     by_cases c1:s0.state=1∨s0.state=2
     ·by_cases c2:s0.state=2∧9≤s0.tries+1
      ·have tS:=se c2.1 c2.2
       rw [sf c2.1 c2.2,List.nil_append] at f3
       obtain⟨c3,c4⟩:=c2
       try simp (disch:=omega) only [go_sem,seval,hg',c3]
       refine⟨qC,hN2 _ (k+1,l) (qI 0 19) (by (try dsimp only);exact⟨by omega,by omega,f3⟩) (by (try dsimp only);omega) (ab (by rfl) (by rfl) ?_)⟩
       refine qX ?_
       rw [←hset,tS,List.map_set]
       try simp [SubD.cs,c3]
      have tS:=yd c1 c2
      by_cases c5:(s0.tries+1).tmod 3=0
      ·rcases c1 with c1|c1
       ·rw [uL c1 c5] at f3
        have hL:ae Tryz.prog 234 [.ag (EndD.cs e 0),.ag (SubD.cs { s0 with tries:=s0.tries+1,state:=1 })] (EndD.hp e false) (.ag (fv e s0).cs) (EndD.hp e false):=j4 _ _ (show cr e.side 1 2=true from jO h1)
        try simp (disch:=omega) only [go_sem,seval,hg',c1,c5]
        refine qD [0,1,2,3,4,5,6,7,8] ?_
        refine az (hL) (qI 0 7) ?_
        refine qG ?_
        refine⟨qC,hN2 _ (k+1,l++[fv e s0]) (qI 0 18++qI 20 1) (by (try dsimp only);exact⟨by omega,by simp;omega,by simpa using f3⟩) (by (try dsimp only);omega) (ab (by rfl) (by rfl) ?_)⟩
        refine qX ?_
        rw [←hset,tS,List.map_set]
        try simp [SubD.cs,c1,LetterD.cs]
       rw [oY c1 (by omega) c5] at f3
       have hL:ae Tryz.prog 235 [.ag (EndD.cs e 0),.ag (SubD.cs { s0 with tries:=s0.tries+1,state:=2 })] (EndD.hp e false) (.ag (cx e s0).cs) (EndD.hp e false):=j0 _ _
       try simp (disch:=omega) only [go_sem,seval,hg',c1,c5]
       refine qD [0,1,2,3,4,5,6,7,8] ?_
       refine az (hL) (qI 0 7) ?_
       refine qG ?_
       refine⟨qC,hN2 _ (k+1,l++[cx e s0]) (qI 0 18++qI 20 1) (by (try dsimp only);exact⟨by omega,by simp;omega,by simpa using f3⟩) (by (try dsimp only);omega) (ab (by rfl) (by rfl) ?_)⟩
       refine qX ?_
       rw [←hset,tS,List.map_set]
       try simp [SubD.cs,c1,LetterD.cs]
      rw [sg c1 c2 c5,List.nil_append] at f3
      have c6:0 < (s0.tries+1).tmod 3:=by have:=Int.tmod_nonneg 3 (show 0≤s0.tries+1 by omega);omega
      rcases c1 with c1|c1
      ·try simp (disch:=omega) only [go_sem,seval,hg',c1]
       refine⟨qC,hN2 _ (k+1,l) (qI 0 19) (by (try dsimp only);exact⟨by omega,by omega,f3⟩) (by (try dsimp only);omega) (ab (by rfl) (by rfl) ?_)⟩
       refine qX ?_
       rw [←hset,tS,List.map_set]
       try simp [SubD.cs,c1]
      try simp (disch:=omega) only [go_sem,seval,hg',c1]
      refine⟨qC,hN2 _ (k+1,l) (qI 0 19) (by (try dsimp only);exact⟨by omega,by omega,f3⟩) (by (try dsimp only);omega) (ab (by rfl) (by rfl) ?_)⟩
      refine qX ?_
      rw [←hset,tS,List.map_set]
      try simp [SubD.cs,c1]
     rw [sa c1,List.nil_append] at f3
     try simp (disch:=omega) only [go_sem,seval,hg']
     refine⟨qC,hN2 _ (k+1,l) (qI 0 19) (by (try dsimp only);exact⟨by omega,by omega,f3⟩) (by (try dsimp only);omega) (ab (by rfl) (by rfl) ?_)⟩
     refine qX ?_
     rw [hsame (r_ c1)]
    have hkl:k=e.subs.length:=by omega
    subst hkl
    rw [List.drop_eq_nil_of_le (Nat.le_refl _),List.flatMap_nil,List.append_nil] at f3
    subst f3
    rw [kZ]
    have hTE:=nn { e with now:=e.now+1,bucket:=c8 e.bucket,halfs:=bM e.halfs (e.now+1),out:=fu e.out,subs:=e.subs.map da } LL hsm1 hat (by omega)
    rw [←hR] at hTE
    have hml:(e.subs.map da).length=e.subs.length:=List.length_map ..
    refine qX ?_
    refine qK (hTE) (qI 9 3++qI 17 1++qI 13 3++qI 18 1) ?_
    exact cc (qI 0 7++qI 19 8)
   have hR:=hti htk h2s
   rw [oU] at hR
   have hTE:=nn { e with now:=e.now+1,bucket:=c8 e.bucket,halfs:=bM e.halfs (e.now+1),out:=fu e.out } [] hsm0 hat (by simp)
   rw [←hR] at hTE
   refine qX ?_
   refine qK (hTE) (qI 9 3++qI 17 1++qI 13 3++qO 1) ?_
   exact cc (qI 0 7++qI 18 8)
  rw [hf (by rw [hok];simp [h2])]
  refine qX ?_
  exact cc (qI 0 7++qI 9 7++qO 1)
 rw [hf (by rw [hok];simp [h1])]
 refine qX ?_
 exact cc (qI 0 7++qI 9 7++qO 1)
end
section
open Go.RowKit
theorem wG (w:WorldD) (pos many:Int) (text:List UInt8) (ad:AddrD) (le:LetterD) (hw:SmallD w) (htx:text.length≤1048576):
  ae Tryz.prog 68 [.sc (.pt 21 0 0),.ag (ActD.cs ⟨3,1,pos,many,text,ad,le⟩)] (w.hp true++[some ⟨[w.cs 0],61,51,true,false⟩]) (.sc (.int .i64 0))
  ([none,none,none,none,none,none,none,none,none,none,none,none,none,none,none,none,none,none,none,none,none,some ⟨[WorldD.cs (aq 1 { w with a:=(dt w.a).1 } (dt w.a).2) 22],61,51,true,false⟩]++WorldD.hp (aq 1 { w with a:=(dt w.a).1 } (dt w.a).2) true):=by
 have q1:=hw.s.wa
 have q2:=hw.s.wb
 have q3:=hw.s.ra
 have q4:=hw.s.rb
 have hX:=uO w.a hw.p.s.a hw.oa
 have hsm:=iH hw.p.s.a
 have hlen:=nq w.a
 have hEA:ae Tryz.prog 144 [.ag (w.cs 0),.sc (.int .i64 1)] (w.hp false) (.ag (w.a.cs 21)) (w.hp false++w.a.hp true):=bF w 1 hw.p.s.a.own hw.p.s.a.far hw.p.s.a.subs hw.p.s.a.halfs hw.p.s.a.list hw.p.s.a.done hw.p.s.a.over hw.p.s.b.own hw.p.s.b.far hw.p.s.b.subs hw.p.s.b.halfs hw.p.s.b.list hw.p.s.b.done hw.p.s.b.over
 obtain⟨pr,hpr⟩:∃ p,p=dt w.a:=⟨_,rfl⟩
 rw [←hpr] at hX hsm hlen⊢
 obtain⟨e1,l1⟩:=pr
 dsimp only at hX hsm hlen⊢
 have hset:=fL w e1
 have hpost:=eM { w with a:=e1 } l1 ⟨hw.p.s.bag,hw.p.s.past,hw.p.s.keys,hw.p.s.tags,hw.p.s.nums,hw.p.s.ansA,hw.p.s.ansB⟩ (by first|omega|simp)
 have hends:=aE (side:=1) (l:=l1) (w:={ w with a:=e1 })
 obtain⟨R,hR⟩:∃ R,R=aq 1 { w with a:=e1 } l1:=⟨_,rfl⟩
 rw [←hR] at hpost hends⊢
 clear hR
 obtain⟨ra,rb,bag,past,wA,wB,rA,rB,known,nums,nsA,nsB⟩:=R
 obtain⟨keys,tags⟩:=known
 dsimp only at hends
 obtain⟨g1,g2,g3,g4,g5,g6⟩:=hends
 replace g1:=g1.symm
 replace g2:=g2.symm
 replace g3:=g3.symm
 replace g4:=g4.symm
 replace g5:=g5.symm
 replace g6:=g6.symm
 subst g1 g2 g3 g4 g5 g6
 refine aN Tryz.func68 (by kernel_rfl) rfl fun E hE=>ac 400 ?_
 simp (disch:=omega) only [Tryz.ntmps68,Tryz.results68,go_sem,Nat.reduceEqDiff,Nat.reduceAdd,Nat.reduceSub,Int.reduceAdd,Int.reduceSub,Int.reduceToNat]
 refine aI [(5,6)] [] [(qU [0,8]),[0,1,2,3,4,6,5,7]] 22 hE (fun s=>s.at (qU [13,6]) [(5,.sc (.pt 30 0 0))] (s.hp++(w.a.hp true++[some ⟨[w.a.cs 23],25,45,true,false⟩]))) (by kernel_rfl) (qC) (by kernel_rfl) ?_ (ac 400 ?_)
 rotate_left
 rotate_right
 simp only [aQ]
 refine⟨aa 400 ?_,aa 400 ?_⟩
 ·simp (disch:=omega) only [go_sem]
  refine am (qC) (hEA) (qI 0 21) qM (by rfl) (by rfl) (aa 400 ?_)
  simp (disch:=omega) only [go_sem,Nat.reduceEqDiff,Nat.reduceAdd,Nat.reduceSub,Int.reduceAdd,Int.reduceSub,Int.reduceToNat]
  refine⟨qC,(qI 0 31),ab (by rfl) (by rfl) ?_⟩
  try simp (disch:=omega) only [go_sem,Nat.reduceEqDiff,Nat.reduceAdd,Nat.reduceSub,Int.reduceAdd,Int.reduceSub,Int.reduceToNat]
 ·simp (disch:=omega) only [go_sem]
  refine am (qC) (hEA) (qI 0 21) qM (by rfl) (by rfl) (aa 400 ?_)
  simp (disch:=omega) only [go_sem,Nat.reduceEqDiff,Nat.reduceAdd,Nat.reduceSub,Int.reduceAdd,Int.reduceSub,Int.reduceToNat]
  refine⟨qC,(qI 0 23++qI 24 7++qI 23 1),ab (by rfl) (by rfl) ?_⟩
  try simp (disch:=omega) only [go_sem,Nat.reduceEqDiff,Nat.reduceAdd,Nat.reduceSub,Int.reduceAdd,Int.reduceSub,Int.reduceToNat]
 try simp (disch:=omega) only [go_sem,Nat.reduceEqDiff,Nat.reduceAdd,Nat.reduceSub,Int.reduceAdd,Int.reduceSub,Int.reduceToNat]
 refine al (qC) (hX) (qI 23 7) qM (by rfl) (ac 400 ?_)
 simp (disch:=omega) only [go_sem,Nat.reduceEqDiff,Nat.reduceAdd,Nat.reduceSub,Int.reduceAdd,Int.reduceSub,Int.reduceToNat]
 refine al (qC) (hset) (qI 0 21++qI 31 7++qI 21 1) qM (by rfl) (ac 400 ?_)
 simp (disch:=omega) only [go_sem,Nat.reduceEqDiff,Nat.reduceAdd,Nat.reduceSub,Int.reduceAdd,Int.reduceSub,Int.reduceToNat]
 refine al (qC) (hpost) (qI 31 7++qI 7 15++qI 38 1) qM (by rfl) (ac 400 ?_)
 simp (disch:=omega) only [go_sem,Nat.reduceEqDiff,Nat.reduceAdd,Nat.reduceSub,Int.reduceAdd,Int.reduceSub,Int.reduceToNat]
 refine aA (qI 0 22++qI 31 7++qI 7 7++qI 39 7) (qC) _ (by simp only [go_sem];rfl) (by rfl) (by rfl) ?_
 simp (disch:=omega) only [go_sem,Nat.reduceEqDiff,Nat.reduceAdd,Nat.reduceSub,Int.reduceAdd,Int.reduceSub,Int.reduceToNat]
theorem wH (w:WorldD) (pos many:Int) (text:List UInt8) (ad:AddrD) (le:LetterD) (hw:SmallD w) (htx:text.length≤1048576):
  ae Tryz.prog 68 [.sc (.pt 21 0 0),.ag (ActD.cs ⟨3,2,pos,many,text,ad,le⟩)] (w.hp true++[some ⟨[w.cs 0],61,51,true,false⟩]) (.sc (.int .i64 0))
  ([none,none,none,none,none,none,none,none,none,none,none,none,none,none,none,none,none,none,none,none,none,some ⟨[WorldD.cs (aq 2 { w with b:=(dt w.b).1 } (dt w.b).2) 22],61,51,true,false⟩]++WorldD.hp (aq 2 { w with b:=(dt w.b).1 } (dt w.b).2) true):=by
 have q1:=hw.s.wa
 have q2:=hw.s.wb
 have q3:=hw.s.ra
 have q4:=hw.s.rb
 have hX:=uO w.b hw.p.s.b hw.ob
 have hsm:=iH hw.p.s.b
 have hlen:=nq w.b
 have hEA:ae Tryz.prog 144 [.ag (w.cs 0),.sc (.int .i64 2)] (w.hp false) (.ag (w.b.cs 21)) (w.hp false++w.b.hp true):=bF w 2 hw.p.s.a.own hw.p.s.a.far hw.p.s.a.subs hw.p.s.a.halfs hw.p.s.a.list hw.p.s.a.done hw.p.s.a.over hw.p.s.b.own hw.p.s.b.far hw.p.s.b.subs hw.p.s.b.halfs hw.p.s.b.list hw.p.s.b.done hw.p.s.b.over
 obtain⟨pr,hpr⟩:∃ p,p=dt w.b:=⟨_,rfl⟩
 rw [←hpr] at hX hsm hlen⊢
 obtain⟨e1,l1⟩:=pr
 dsimp only at hX hsm hlen⊢
 have hset:=fM w e1
 have hpost:=eN { w with b:=e1 } l1 ⟨hw.p.s.bag,hw.p.s.past,hw.p.s.keys,hw.p.s.tags,hw.p.s.nums,hw.p.s.ansA,hw.p.s.ansB⟩ (by first|omega|simp)
 have hends:=aE (side:=2) (l:=l1) (w:={ w with b:=e1 })
 obtain⟨R,hR⟩:∃ R,R=aq 2 { w with b:=e1 } l1:=⟨_,rfl⟩
 rw [←hR] at hpost hends⊢
 clear hR
 obtain⟨ra,rb,bag,past,wA,wB,rA,rB,known,nums,nsA,nsB⟩:=R
 obtain⟨keys,tags⟩:=known
 dsimp only at hends
 obtain⟨g1,g2,g3,g4,g5,g6⟩:=hends
 replace g1:=g1.symm
 replace g2:=g2.symm
 replace g3:=g3.symm
 replace g4:=g4.symm
 replace g5:=g5.symm
 replace g6:=g6.symm
 subst g1 g2 g3 g4 g5 g6
 refine aN Tryz.func68 (by kernel_rfl) rfl fun E hE=>ac 400 ?_
 simp (disch:=omega) only [Tryz.ntmps68,Tryz.results68,go_sem,Nat.reduceEqDiff,Nat.reduceAdd,Nat.reduceSub,Int.reduceAdd,Int.reduceSub,Int.reduceToNat]
 refine aI [(5,6)] [] [(qU [0,8]),[0,1,2,3,4,6,5,7]] 22 hE (fun s=>s.at (qU [13,6]) [(5,.sc (.pt 30 0 0))] (s.hp++(w.b.hp true++[some ⟨[w.b.cs 23],25,45,true,false⟩]))) (by kernel_rfl) (qC) (by kernel_rfl) ?_ (ac 400 ?_)
 rotate_left
 rotate_right
 simp only [aQ]
 refine⟨aa 400 ?_,aa 400 ?_⟩
 ·simp (disch:=omega) only [go_sem]
  refine am (qC) (hEA) (qI 0 21) qM (by rfl) (by rfl) (aa 400 ?_)
  simp (disch:=omega) only [go_sem,Nat.reduceEqDiff,Nat.reduceAdd,Nat.reduceSub,Int.reduceAdd,Int.reduceSub,Int.reduceToNat]
  refine⟨qC,(qI 0 31),ab (by rfl) (by rfl) ?_⟩
  try simp (disch:=omega) only [go_sem,Nat.reduceEqDiff,Nat.reduceAdd,Nat.reduceSub,Int.reduceAdd,Int.reduceSub,Int.reduceToNat]
 ·simp (disch:=omega) only [go_sem]
  refine am (qC) (hEA) (qI 0 21) qM (by rfl) (by rfl) (aa 400 ?_)
  simp (disch:=omega) only [go_sem,Nat.reduceEqDiff,Nat.reduceAdd,Nat.reduceSub,Int.reduceAdd,Int.reduceSub,Int.reduceToNat]
  refine⟨qC,(qI 0 23++qI 24 7++qI 23 1),ab (by rfl) (by rfl) ?_⟩
  try simp (disch:=omega) only [go_sem,Nat.reduceEqDiff,Nat.reduceAdd,Nat.reduceSub,Int.reduceAdd,Int.reduceSub,Int.reduceToNat]
 try simp (disch:=omega) only [go_sem,Nat.reduceEqDiff,Nat.reduceAdd,Nat.reduceSub,Int.reduceAdd,Int.reduceSub,Int.reduceToNat]
 refine al (qC) (hX) (qI 23 7) qM (by rfl) (ac 400 ?_)
 simp (disch:=omega) only [go_sem,Nat.reduceEqDiff,Nat.reduceAdd,Nat.reduceSub,Int.reduceAdd,Int.reduceSub,Int.reduceToNat]
 refine al (qC) (hset) (qI 0 21++qI 31 7++qI 21 1) qM (by rfl) (ac 400 ?_)
 simp (disch:=omega) only [go_sem,Nat.reduceEqDiff,Nat.reduceAdd,Nat.reduceSub,Int.reduceAdd,Int.reduceSub,Int.reduceToNat]
 refine al (qC) (hpost) (qI 0 7++qI 31 7++qI 14 8++qI 38 1) qM (by rfl) (ac 400 ?_)
 simp (disch:=omega) only [go_sem,Nat.reduceEqDiff,Nat.reduceAdd,Nat.reduceSub,Int.reduceAdd,Int.reduceSub,Int.reduceToNat]
 refine aA (qI 0 22++qI 0 7++qI 31 7++qI 39 7) (qC) _ (by simp only [go_sem];rfl) (by rfl) (by rfl) ?_
 simp (disch:=omega) only [go_sem,Nat.reduceEqDiff,Nat.reduceAdd,Nat.reduceSub,Int.reduceAdd,Int.reduceSub,Int.reduceToNat]
end
section
open Go.RowKit
theorem uP (e:EndD) (hs:Small e) (ht:e.out.text.length≤1048576):ae Tryz.prog 118 [.ag (e.cs 0)] (e.hp false) (.tu [.ag ((dt e).1.cs 7),.sc (.sl 14 0 (dt e).2.length)])
  (e.hp false++((dt e).1.hp true++[some ⟨(dt e).2.map LetterD.cs,19,91,true,true⟩])):=by
 have hC:=(qH (aD e))
 have hK:=(qH (be e))
 have hsb:=hs.subs
 have hso:=hs.own
 have hsh:=hs.halfs
 have hF:=x4 e.bucket
 have hY:=wj e.halfs (e.now+1) hs.halfs
 have hAn:=Ba e.out
 have hyl:=mj e.halfs (e.now+1)
 have hat:(fu e.out).text.length≤1048576:=by rw [fu];split<;>exact ht
 have hf:=E2 (e:=e)
 have hto:=zk (e:=e)
 have hti:=zl (e:=e)
 have htu:= @E3 e
 have hok:Fl e=(aj e && decide (e.now < 1000000000) && e.subs.all fun s=>decide (s.tries < 1000000000)):=rfl
 have hsm0:Small { e with now:=e.now+1,bucket:=c8 e.bucket,halfs:=bM e.halfs (e.now+1),out:=fu e.out }:=⟨hs.own,hs.far,hs.subs,by dsimp only;omega,hs.list,hs.done,hs.over⟩
 have hsm1:Small { e with now:=e.now+1,bucket:=c8 e.bucket,halfs:=bM e.halfs (e.now+1),out:=fu e.out,subs:=e.subs.map da }:=⟨hs.own,hs.far,by dsimp only;rw [List.length_map];exact hs.subs,by dsimp only;omega,hs.list,hs.done,hs.over⟩
 have hfl:(e.subs.flatMap (eP e)).length≤e.subs.length:=nm (lc e) _
 obtain⟨R,hR⟩:∃ R,R=dt e:=⟨_,rfl⟩
 rw [←hR] at hf hto hti
 simp only [←hR] at htu
 rw [←hR]
 clear hR
 refine ga Tryz.func118 Tryz.ntmps118 Tryz.results118 fun E hE=>?_
 refine qK (hC) (qI 0 7) ?_
 refine qK (hK) (qI 0 7) ?_
 refine qB (fun h1=>?_) fun h1=>?_
 ·have hnow:=ik h1
  by_cases h2:e.now < 1000000000
  ·refine qX ?_
   refine cE 7 hE (fun s (i:Nat)=>s.at (qU [0,1,3,1,11,29]) [(6,.sc (.int .i64 (i:Nat)))] (s.hp)) (fun (i:Nat)=>i≤e.subs.length∧(e.subs.drop i).all (fun s=>decide (s.tries < 1000000000))=e.subs.all (fun s=>decide (s.tries < 1000000000))) (fun (i:Nat)=>e.subs.length - i) 0 (qI 0 18) (qC) (⟨Nat.zero_le _,rfl⟩) (ab (by rfl) (by rfl) ?_) fun i hi N hN=>?_
   ·exact qY
   obtain⟨g1,g2⟩:=hi
   refine qR ?_
   refine qB (fun b=>?_) fun b=>?_
   ·rw [k_ b] at g2
    have hg:=ao (enc:=SubD.cs) b
    have hsub:=ld h1 b
    try simp (disch:=omega) only [go_sem,seval,hg]
    refine qB (fun b2=>?_) fun b2=>?_
    ·rw [decide_eq_false (by omega),Bool.false_and] at g2
     rw [hf (by rw [hok,←g2];simp)]
     refine qX ?_
     exact cc (qI 0 7++qI 9 7++qI 17 1)
    rw [decide_eq_true (by omega),Bool.true_and] at g2
    refine qX ?_
    exact UH hN (i+1) (qI 0 18) (by (try dsimp only);exact⟨by omega,g2⟩)
   rw [List.drop_eq_nil_of_le (by omega),List.all_nil] at g2
   have hall:=g2.symm
   have hall2:∀ (k:Nat) (hk:k < e.subs.length),e.subs[k].tries < 1000000000:=fun k hk=>by
    have:=List.all_eq_true.1 hall e.subs[k] (List.getElem_mem hk)
    simpa using this
   have htk:Fl e=true:=by rw [hok,h1,decide_eq_true h2,hall];rfl
   refine qX ?_
   refine qK (hF) [] ?_
   refine qK (hY) (qI 3 1) ?_
   refine qK (hAn) [] ?_
   obtain⟨tk,htk1⟩:∃ f:SubD→SubD,f=fun s=>if e.state=2 then da s else s:=⟨_,rfl⟩
   obtain⟨tl,htl1⟩:∃ f:SubD→List LetterD,f=fun s=>if e.state=2 then eP e s else []:=⟨_,rfl⟩
   have hR:=htu htk htk1 htl1
   have hsmu:Small { e with now:=e.now+1,bucket:=c8 e.bucket,halfs:=bM e.halfs (e.now+1),out:=fu e.out,subs:=e.subs.map tk }:=⟨hs.own,hs.far,by dsimp only;rw [List.length_map];exact hs.subs,by dsimp only;omega,hs.list,hs.done,hs.over⟩
   have hflu:(e.subs.flatMap tl).length≤e.subs.length:=nm (fun s=>by rw [htl1];dsimp only;split;exact lc e s;simp) _
   obtain⟨LL,hLL⟩:∃ L,L=e.subs.flatMap tl:=⟨_,rfl⟩
   rw [←hLL] at hR hflu
   clear htu hto hti hf
   refine qX ?_
   refine cE 7 hE (fun s (y:Nat×List LetterD)=>s.at (qU [0,1,6,1,8,1,11,120]) [(7,.sc (.int .i64 (y.1:Nat))),(5,.sc (.sl 17 0 y.2.length))] ((s.hp.set 11 (some ⟨(cy tk e.subs y.1).map SubD.cs,10,201,true,true⟩)).set 17 (some ⟨y.2.map LetterD.cs,19,91,true,true⟩))) (fun (y:Nat×List LetterD)=>y.1≤e.subs.length∧y.2.length≤y.1∧LL=y.2++(e.subs.drop y.1).flatMap tl) (fun (y:Nat×List LetterD)=>e.subs.length - y.1) (0,[]) (qI 0 19) (qC) (⟨Nat.zero_le _,Nat.zero_le _,hLL⟩) (ab (by rfl) (by rfl) ?_) fun y hy N2 hN2=>?_
   ·try simp (disch:=omega) only [go_sem,seval]
    try rw [jS]
   obtain⟨k,l⟩:=y
   obtain⟨f1,f2,f3⟩:=hy
   dsimp only at f1 f2 f3
   refine ac 400 ?_
   have hgl:(cy tk e.subs k).length=e.subs.length:=kW
   refine qX ?_
   by_cases hopen:k < e.subs.length∧e.state=2
   ·obtain⟨b,h2s⟩:=hopen
    have etk:tk=da:=by rw [htk1];funext s;exact if_pos h2s
    have etl:tl=eP e:=by rw [htl1];funext s;exact if_pos h2s
    clear htk1 htl1
    subst etk etl
    refine qX ?_
    have hg:=kX (f:=da) b
    have hsub:=ld h1 b
    have htr:=hall2 k b
    rw [rZ b] at f3
    have hset:=kY (f:=da) b
    have hsame:=jR (f:=da) b
    obtain⟨s0,hs0⟩:∃ s,s=e.subs[k]:=⟨_,rfl⟩
    rw [←hs0] at hsub htr f3 hset hsame
    have hg':∀ p:k < (cy da e.subs k).length,(cy da e.subs k)[k]'p=s0:=fun p=>by rw [hg p,hs0]
    clear hg
    by_cases c1:s0.state=1∨s0.state=2
    ·by_cases c2:s0.state=2∧9≤s0.tries+1
     ·have tS:=se c2.1 c2.2
      rw [sf c2.1 c2.2,List.nil_append] at f3
      obtain⟨c3,c4⟩:=c2
      try simp (disch:=omega) only [go_sem,seval,hg',c3]
      refine⟨qC,hN2 _ (k+1,l) (qI 0 19) (by (try dsimp only);exact⟨by omega,by omega,f3⟩) (by (try dsimp only);omega) (ab (by rfl) (by rfl) ?_)⟩
      refine qX ?_
      rw [←hset,tS,List.map_set]
      try simp [SubD.cs,c3]
     have tS:=yd c1 c2
     by_cases c5:(s0.tries+1).tmod 3=0
     ·rcases c1 with c1|c1
      ·rw [uL c1 c5] at f3
       have hL:ae Tryz.prog 206 [.ag (EndD.cs { e with now:=e.now+1,bucket:=c8 e.bucket,halfs:=bM e.halfs (e.now+1),out:=fu e.out,subs:=(cy da e.subs k).set k { s0 with tries:=s0.tries+1,state:=1 } } 0),.ag (SubD.cs { s0 with state:=1 })] (EndD.hp { e with now:=e.now+1,bucket:=c8 e.bucket,halfs:=bM e.halfs (e.now+1),out:=fu e.out,subs:=(cy da e.subs k).set k { s0 with tries:=s0.tries+1,state:=1 } } false) (.ag (fv e s0).cs) (EndD.hp { e with now:=e.now+1,bucket:=c8 e.bucket,halfs:=bM e.halfs (e.now+1),out:=fu e.out,subs:=(cy da e.subs k).set k { s0 with tries:=s0.tries+1,state:=1 } } false):=ng _ _ (show cr e.side 1 2=true from jO h1)
       try simp (disch:=omega) only [go_sem,seval,hg',c1,c5]
       refine qK (hL) (qI 9 3++qI 18 1++qI 13 3) ?_
       refine⟨qC,hN2 _ (k+1,l++[fv e s0]) (qI 0 17++qI 21 1++qI 18 1) (by (try dsimp only);exact⟨by omega,by simp;omega,by simpa using f3⟩) (by (try dsimp only);omega) (ab (by rfl) (by rfl) ?_)⟩
       refine qX ?_
       rw [←hset,tS,List.map_set]
       try simp [SubD.cs,c1,LetterD.cs]
      rw [oY c1 (by omega) c5] at f3
      have hL:ae Tryz.prog 207 [.ag (EndD.cs { e with now:=e.now+1,bucket:=c8 e.bucket,halfs:=bM e.halfs (e.now+1),out:=fu e.out,subs:=(cy da e.subs k).set k { s0 with tries:=s0.tries+1,state:=2 } } 0),.ag (SubD.cs { s0 with state:=2 })] (EndD.hp { e with now:=e.now+1,bucket:=c8 e.bucket,halfs:=bM e.halfs (e.now+1),out:=fu e.out,subs:=(cy da e.subs k).set k { s0 with tries:=s0.tries+1,state:=2 } } false) (.ag (cx e s0).cs) (EndD.hp { e with now:=e.now+1,bucket:=c8 e.bucket,halfs:=bM e.halfs (e.now+1),out:=fu e.out,subs:=(cy da e.subs k).set k { s0 with tries:=s0.tries+1,state:=2 } } false):=kx _ _
      try simp (disch:=omega) only [go_sem,seval,hg',c1,c5]
      refine qK (hL) (qI 9 3++qI 18 1++qI 13 3) ?_
      refine⟨qC,hN2 _ (k+1,l++[cx e s0]) (qI 0 17++qI 21 1++qI 18 1) (by (try dsimp only);exact⟨by omega,by simp;omega,by simpa using f3⟩) (by (try dsimp only);omega) (ab (by rfl) (by rfl) ?_)⟩
      refine qX ?_
      rw [←hset,tS,List.map_set]
      try simp [SubD.cs,c1,LetterD.cs]
     rw [sg c1 c2 c5,List.nil_append] at f3
     have c6:0 < (s0.tries+1).tmod 3:=by have:=Int.tmod_nonneg 3 (show 0≤s0.tries+1 by omega);omega
     rcases c1 with c1|c1
     ·try simp (disch:=omega) only [go_sem,seval,hg',c1]
      refine⟨qC,hN2 _ (k+1,l) (qI 0 19) (by (try dsimp only);exact⟨by omega,by omega,f3⟩) (by (try dsimp only);omega) (ab (by rfl) (by rfl) ?_)⟩
      refine qX ?_
      rw [←hset,tS,List.map_set]
      try simp [SubD.cs,c1]
     try simp (disch:=omega) only [go_sem,seval,hg',c1]
     refine⟨qC,hN2 _ (k+1,l) (qI 0 19) (by (try dsimp only);exact⟨by omega,by omega,f3⟩) (by (try dsimp only);omega) (ab (by rfl) (by rfl) ?_)⟩
     refine qX ?_
     rw [←hset,tS,List.map_set]
     try simp [SubD.cs,c1]
    rw [sa c1,List.nil_append] at f3
    try simp (disch:=omega) only [go_sem,seval,hg']
    refine⟨qC,hN2 _ (k+1,l) (qI 0 19) (by (try dsimp only);exact⟨by omega,by omega,f3⟩) (by (try dsimp only);omega) (ab (by rfl) (by rfl) ?_)⟩
    refine qX ?_
    rw [hsame (r_ c1)]
   have hst:cy tk e.subs k=e.subs.map tk:=by
    by_cases h2s:e.state=2
    ·rw [show k=e.subs.length by omega,kZ]
    have hid:∀ s,tk s=s:=fun s=>by rw [htk1];exact if_neg h2s
    have hf2:tk=fun s=>s:=funext hid
    rw [E4 hid,hf2];simp
   have hlf:LL=l:=by
    by_cases h2s:e.state=2
    ·rw [f3,List.drop_eq_nil_of_le (by omega),List.flatMap_nil,List.append_nil]
    have hf2:tl=fun s=>[]:=by rw [htl1];funext s;exact if_neg h2s
    rw [f3,hf2];simp
   rw [hst]
   subst hlf
   by_cases b:k < e.subs.length
   all_goals
    have hT:=rX { e with now:=e.now+1,bucket:=c8 e.bucket,halfs:=bM e.halfs (e.now+1),out:=fu e.out,subs:=e.subs.map tk } hsmu
    have hTl:=jT { e with now:=e.now+1,bucket:=c8 e.bucket,halfs:=bM e.halfs (e.now+1),out:=fu e.out,subs:=e.subs.map tk }
    have hml:(e.subs.map tk).length=e.subs.length:=List.length_map ..
    rw [ea] at hR
    obtain⟨EX,hEX⟩:∃ E,E={ e with now:=e.now+1,bucket:=c8 e.bucket,halfs:=bM e.halfs (e.now+1),out:=fu e.out,subs:=e.subs.map tk }:=⟨_,rfl⟩
    rw [←hEX] at hR
    have hsx:Small EX:=by rw [hEX];exact hsmu
    have hatx:EX.out.text.length≤1048576:=by rw [hEX];exact hat
    obtain⟨TT,hTT⟩:∃ T,T=cI EX:=⟨_,rfl⟩
    rw [←hTT] at hR
    rw [←hEX,←hTT] at hTl
    rw [show cI { e with now:=e.now+1,bucket:=c8 e.bucket,halfs:=bM e.halfs (e.now+1),out:=fu e.out,subs:=e.subs.map tk }=TT by rw [hTT,hEX]] at hT
    have hxo:EX.own.length≤1048576:=hsx.own
    refine qX ?_
    refine qK (hT) (qI 9 3++qI 18 1++qI 13 3) ?_
    refine cE 7 hE (fun s (y:Nat×EndD×List LetterD)=>s.at (qU [0,2,6,3,10,138]) [(9,.sc (.int .i64 (y.1:Nat))),(5,.sc (.sl 17 0 y.2.2.length))] ((s.hp.take 9)++(y.2.1.hp true++[some ⟨[y.2.1.cs 9],25,45,true,false⟩,some ⟨y.2.2.map LetterD.cs,19,91,true,true⟩]))) (fun (y:Nat×EndD×List LetterD)=>y.1≤3∧Small y.2.1∧y.2.1.out.text.length≤1048576∧y.2.2.length≤2097152+y.1∧R=((dU (3 - y.1) y.2.1).1,y.2.2++(dU (3 - y.1) y.2.1).2)) (fun (y:Nat×EndD×List LetterD)=>3 - y.1) (0,EX,LL++TT) (qI 0 12++qI 18 1++qI 13 4++qI 20 1) (qC) (⟨by omega,hsx,hatx,by simp only [List.length_append];omega,hR⟩) (ab (by rfl) (by rfl) ?_) fun y hy N2 hN2=>?_
    ·rw [hEX]
     try simp (disch:=omega) only [go_sem,seval]
     try simp
    obtain⟨n,e1,l⟩:=y
    obtain⟨h1',h2',h3',h4',h5'⟩:=hy
    dsimp only at h1' h2' h3' h4' h5'
    have hP:=uG e1 h2' h3'
    have hp1:=nf e1
    have hps:=jN h2'
    have hpt:(eX e1).1.out.text.length≤1048576:=by rw [n5];exact h3'
    refine qR ?_
    refine qB (fun b3=>?_) fun b3=>?_
    ·rw [mg (by omega)] at h5'
     obtain⟨pr,hpr⟩:∃ p,p=eX e1:=⟨_,rfl⟩
     rw [←hpr] at hP hp1 hps hpt h5'
     obtain⟨e2,l2⟩:=pr
     dsimp only at hP hp1 hps hpt h5'
     rw [←List.append_assoc] at h5'
     refine qX ?_
     refine qK (hP) (qI 9 7) ?_
     refine⟨qC,hN2 _ (n+1,e2,l++l2) (qI 0 9++qI 19 7++qI 16 1++qI 27 1) (by (try dsimp only);exact⟨by omega,hps,hpt,by simp only [List.length_append];omega,h5'⟩) (by (try dsimp only);omega) (ab (by rfl) (by rfl) ?_)⟩
     try simp (disch:=omega) only [go_sem,seval]
     try simp
    have e3:n=3:=by omega
    subst e3
    simp only [Nat.sub_self,dU,List.append_nil] at h5'
    subst h5'
    refine qX ?_
    exact cc (qI 0 7++qI 9 7++qI 17 1)
  rw [hf (by rw [hok];simp [h2])]
  refine qX ?_
  exact cc (qI 0 7++qI 9 7++qI 17 1)
 rw [hf (by rw [hok];simp [h1])]
 refine qX ?_
 exact cc (qI 0 7++qI 9 7++qI 17 1)
end
section
open Go.RowKit
theorem sk (w:WorldD) (pos many:Int) (text:List UInt8) (ad:AddrD) (le:LetterD) (hw:SmallD w) (htx:text.length≤1048576):
  ae Tryz.prog 56 [.ag (w.cs 0),.ag (ActD.cs ⟨1,1,pos,many,text,ad,le⟩)] (w.hp false) (.tu [.ag (WorldD.cs (aq 1 { w with wroteA:=w.wroteA++text.take (cp w.a text).2,a:=(aS w.a text).1 } (aS w.a text).2) 21),.sc (.int .i64 0)]) (w.hp false++WorldD.hp (aq 1 { w with wroteA:=w.wroteA++text.take (cp w.a text).2,a:=(aS w.a text).1 } (aS w.a text).2) true):=by
 have hX:=lQ w.a text hw.p.s.a htx (jW hw.oa)
 have hsm:=eQ (t:=text) hw.p.s.a
 have hlen:=ie w.a text
 have hEA:ae Tryz.prog 113 [.ag (w.cs 0),.sc (.int .i64 1)] (w.hp false) (.ag (w.a.cs 21)) (w.hp false++w.a.hp true):=bG w 1 hw.p.s.a.own hw.p.s.a.far hw.p.s.a.subs hw.p.s.a.halfs hw.p.s.a.list hw.p.s.a.done hw.p.s.a.over hw.p.s.b.own hw.p.s.b.far hw.p.s.b.subs hw.p.s.b.halfs hw.p.s.b.list hw.p.s.b.done hw.p.s.b.over
 have hX2:=mf w.a text hw.p.s.a htx
 have hwl:=ne w.a text
 obtain⟨wr,hwr⟩:∃ p,p=cp w.a text:=⟨_,rfl⟩
 rw [←hwr] at hX2 hwl⊢
 obtain⟨e0,n0⟩:=wr
 dsimp only at hX2 hwl⊢
 obtain⟨pr,hpr⟩:∃ p,p=aS w.a text:=⟨_,rfl⟩
 rw [←hpr] at hX hsm hlen⊢
 obtain⟨e1,l1⟩:=pr
 dsimp only at hX hsm hlen⊢
 have hset:=dF { w with wroteA:=w.wroteA++text.take n0 } e1
 have hpost:=dH { w with wroteA:=w.wroteA++text.take n0,a:=e1 } l1 ⟨hsm,hw.p.s.b,hw.p.s.bag,hw.p.s.past,hw.p.s.keys,hw.p.s.tags,hw.p.s.nums,hw.p.s.ansA,hw.p.s.ansB⟩ (by first|omega|simp)
 have hends:=aE (side:=1) (l:=l1) (w:={ w with wroteA:=w.wroteA++text.take n0,a:=e1 })
 obtain⟨R,hR⟩:∃ R,R=aq 1 { w with wroteA:=w.wroteA++text.take n0,a:=e1 } l1:=⟨_,rfl⟩
 rw [←hR] at hpost hends⊢
 clear hR
 obtain⟨ra,rb,bag,past,wA,wB,rA,rB,known,nums,nsA,nsB⟩:=R
 obtain⟨keys,tags⟩:=known
 dsimp only at hends
 obtain⟨g1,g2,g3,g4,g5,g6⟩:=hends
 replace g1:=g1.symm
 replace g2:=g2.symm
 replace g3:=g3.symm
 replace g4:=g4.symm
 replace g5:=g5.symm
 replace g6:=g6.symm
 subst g1 g2 g3 g4 g5 g6
 have htk:(text.take n0).length≤1048576:=by rw [List.length_take];omega
 have hWr:=gE w 1 (text.take n0) [] hw.s htk (by simp)
 rw [ye] at hWr
 refine ga Tryz.func56 Tryz.ntmps56 Tryz.results56 fun E hE=>?_
 refine qK (hEA) (qI 0 21) ?_
 refine qK (hX2) (qI 24 7) ?_
 refine qD [0,1,2,3,4,5,6,7,8] ?_
 refine az (hWr) (qI 0 21) ?_
 refine⟨qC,ac 400 ?_⟩
 try simp (disch:=omega) only [go_sem,seval,e8,cF]
 refine qK (hX) (qI 24 7) ?_
 refine qD [0,1,2,3,5,6,7,4,8,9,10] ?_
 refine az (hset) (qI 0 21++qI 41 7) ?_
 refine az (hpost) (qI 41 7++qI 7 14++qI 48 1) ?_
 refine qG ?_
 exact cc (qI 0 21++qI 49 21)
theorem sm (w:WorldD) (pos many:Int) (text:List UInt8) (ad:AddrD) (le:LetterD) (hw:SmallD w) (htx:text.length≤1048576):
  ae Tryz.prog 56 [.ag (w.cs 0),.ag (ActD.cs ⟨2,1,pos,many,text,ad,le⟩)] (w.hp false) (.tu [.ag (WorldD.cs (aq 1 { w with readA:=w.readA++(bu w.a many).2,a:=((bu w.a many).1,([]:List LetterD)).1 } ((bu w.a many).1,([]:List LetterD)).2) 21),.sc (.int .i64 0)]) (w.hp false++WorldD.hp (aq 1 { w with readA:=w.readA++(bu w.a many).2,a:=((bu w.a many).1,([]:List LetterD)).1 } ((bu w.a many).1,([]:List LetterD)).2) true):=by
 have hX:=uF w.a many hw.p.s.a hw.p.pa
 have hsm:=gP (m:=many) hw.p.s.a
 have hEA:ae Tryz.prog 113 [.ag (w.cs 0),.sc (.int .i64 1)] (w.hp false) (.ag (w.a.cs 21)) (w.hp false++w.a.hp true):=bG w 1 hw.p.s.a.own hw.p.s.a.far hw.p.s.a.subs hw.p.s.a.halfs hw.p.s.a.list hw.p.s.a.done hw.p.s.a.over hw.p.s.b.own hw.p.s.b.far hw.p.s.b.subs hw.p.s.b.halfs hw.p.s.b.list hw.p.s.b.done hw.p.s.b.over
 obtain⟨pr,hpr⟩:∃ p,p=bu w.a many:=⟨_,rfl⟩
 have hrl:(bu w.a many).2.length≤1048576:=lf hw.p.pa
 rw [←hpr] at hX hsm hrl⊢
 obtain⟨e1,t1⟩:=pr
 dsimp only at hX hsm hrl⊢
 obtain⟨l1,hl1⟩:∃ l:List LetterD,l=[]:=⟨_,rfl⟩
 have hlen:l1.length≤1:=by rw [hl1];simp
 have hset:=dF { w with readA:=w.readA++t1 } e1
 have hpost:=dH { w with readA:=w.readA++t1,a:=e1 } [] ⟨hsm,hw.p.s.b,hw.p.s.bag,hw.p.s.past,hw.p.s.keys,hw.p.s.tags,hw.p.s.nums,hw.p.s.ansA,hw.p.s.ansB⟩ (by first|omega|simp)
 have hends:=aE (side:=1) (l:=[]) (w:={ w with readA:=w.readA++t1,a:=e1 })
 obtain⟨R,hR⟩:∃ R,R=aq 1 { w with readA:=w.readA++t1,a:=e1 } []:=⟨_,rfl⟩
 rw [←hR] at hpost hends⊢
 clear hR
 obtain⟨ra,rb,bag,past,wA,wB,rA,rB,known,nums,nsA,nsB⟩:=R
 obtain⟨keys,tags⟩:=known
 dsimp only at hends
 obtain⟨g1,g2,g3,g4,g5,g6⟩:=hends
 replace g1:=g1.symm
 replace g2:=g2.symm
 replace g3:=g3.symm
 replace g4:=g4.symm
 replace g5:=g5.symm
 replace g6:=g6.symm
 subst g1 g2 g3 g4 g5 g6
 have hWr:=gE w 1 [] t1 hw.s (by simp) hrl
 rw [yf] at hWr
 refine ga Tryz.func56 Tryz.ntmps56 Tryz.results56 fun E hE=>?_
 refine qK (hEA) (qI 0 21) ?_
 refine qK (hX) (qI 24 7) ?_
 refine qK (hWr) (qI 0 21) ?_
 try simp (disch:=omega) only [go_sem,seval,e8,cF]
 refine qD [0,1,2,3,5,6,7,4,8,9,10] ?_
 refine az (hset) (qI 0 21++qI 33 7) ?_
 refine az (hpost) (qI 33 7++qI 7 14++qI 32 1) ?_
 refine qG ?_
 exact cc (qI 0 21++qI 40 21)
theorem sn (w:WorldD) (pos many:Int) (text:List UInt8) (ad:AddrD) (le:LetterD) (hw:SmallD w) (htx:text.length≤1048576):
  ae Tryz.prog 56 [.ag (w.cs 0),.ag (ActD.cs ⟨4,1,pos,many,text,ad,le⟩)] (w.hp false) (.tu [.ag (WorldD.cs (aq 1 { w with a:=(bs w.a).1 } (bs w.a).2) 21),.sc (.int .i64 0)]) (w.hp false++WorldD.hp (aq 1 { w with a:=(bs w.a).1 } (bs w.a).2) true):=by
 have hX:=oX w.a hw.p.s.a
 have hsm:=f9 hw.p.s.a
 have hlen:=jV w.a
 have hEA:ae Tryz.prog 113 [.ag (w.cs 0),.sc (.int .i64 1)] (w.hp false) (.ag (w.a.cs 21)) (w.hp false++w.a.hp true):=bG w 1 hw.p.s.a.own hw.p.s.a.far hw.p.s.a.subs hw.p.s.a.halfs hw.p.s.a.list hw.p.s.a.done hw.p.s.a.over hw.p.s.b.own hw.p.s.b.far hw.p.s.b.subs hw.p.s.b.halfs hw.p.s.b.list hw.p.s.b.done hw.p.s.b.over
 obtain⟨pr,hpr⟩:∃ p,p=bs w.a:=⟨_,rfl⟩
 rw [←hpr] at hX hsm hlen⊢
 obtain⟨e1,l1⟩:=pr
 dsimp only at hX hsm hlen⊢
 have hset:=dF w e1
 have hpost:=dH { w with a:=e1 } l1 ⟨hsm,hw.p.s.b,hw.p.s.bag,hw.p.s.past,hw.p.s.keys,hw.p.s.tags,hw.p.s.nums,hw.p.s.ansA,hw.p.s.ansB⟩ (by first|omega|simp)
 have hends:=aE (side:=1) (l:=l1) (w:={ w with a:=e1 })
 obtain⟨R,hR⟩:∃ R,R=aq 1 { w with a:=e1 } l1:=⟨_,rfl⟩
 rw [←hR] at hpost hends⊢
 clear hR
 obtain⟨ra,rb,bag,past,wA,wB,rA,rB,known,nums,nsA,nsB⟩:=R
 obtain⟨keys,tags⟩:=known
 dsimp only at hends
 obtain⟨g1,g2,g3,g4,g5,g6⟩:=hends
 replace g1:=g1.symm
 replace g2:=g2.symm
 replace g3:=g3.symm
 replace g4:=g4.symm
 replace g5:=g5.symm
 replace g6:=g6.symm
 subst g1 g2 g3 g4 g5 g6
 refine ga Tryz.func56 Tryz.ntmps56 Tryz.results56 fun E hE=>?_
 refine qK (hEA) (qI 0 21) ?_
 refine qK (hX) (qI 24 7) ?_
 refine qD [0,1,2,3,5,6,7,4,8,9,10] ?_
 refine az (hset) (qI 0 21++qI 33 7) ?_
 refine az (hpost) (qI 33 7++qI 7 14++qI 40 1) ?_
 refine qG ?_
 exact cc (qI 0 21++qI 41 21)
theorem so (w:WorldD) (pos many:Int) (text:List UInt8) (ad:AddrD) (le:LetterD) (hw:SmallD w) (htx:text.length≤1048576) (hsd:aZ ad.addr=1) (hgood:(aB w.a ad).2=true):
  ae Tryz.prog 56 [.ag (w.cs 0),.ag (ActD.cs ⟨5,1,pos,many,text,ad,le⟩)] (w.hp false) (.tu [.ag (WorldD.cs (aq 1 { w with a:=((aB w.a ad).1,([]:List LetterD)).1 } ((aB w.a ad).1,([]:List LetterD)).2) 21),.sc (.int .i64 0)]) (w.hp false++WorldD.hp (aq 1 { w with a:=((aB w.a ad).1,([]:List LetterD)).1 } ((aB w.a ad).1,([]:List LetterD)).2) true):=by
 have hX:=i5 w.a ad hw.p.s.a
 have hsm:=df (a:=ad) hw.p.s.a
 have hEA:ae Tryz.prog 113 [.ag (w.cs 0),.sc (.int .i64 1)] (w.hp false) (.ag (w.a.cs 21)) (w.hp false++w.a.hp true):=bG w 1 hw.p.s.a.own hw.p.s.a.far hw.p.s.a.subs hw.p.s.a.halfs hw.p.s.a.list hw.p.s.a.done hw.p.s.a.over hw.p.s.b.own hw.p.s.b.far hw.p.s.b.subs hw.p.s.b.halfs hw.p.s.b.list hw.p.s.b.done hw.p.s.b.over
 obtain⟨pr,hpr⟩:∃ p,p=aB w.a ad:=⟨_,rfl⟩
 rw [←hpr] at hX hsm hgood⊢
 obtain⟨e1,ok1⟩:=pr
 dsimp only at hX hsm hgood⊢
 subst hgood
 obtain⟨l1,hl1⟩:∃ l:List LetterD,l=[]:=⟨_,rfl⟩
 have hlen:l1.length≤1:=by rw [hl1];simp
 have hset:=dF w e1
 have hpost:=dH { w with a:=e1 } [] ⟨hsm,hw.p.s.b,hw.p.s.bag,hw.p.s.past,hw.p.s.keys,hw.p.s.tags,hw.p.s.nums,hw.p.s.ansA,hw.p.s.ansB⟩ (by first|omega|simp)
 have hends:=aE (side:=1) (l:=[]) (w:={ w with a:=e1 })
 obtain⟨R,hR⟩:∃ R,R=aq 1 { w with a:=e1 } []:=⟨_,rfl⟩
 rw [←hR] at hpost hends⊢
 clear hR
 obtain⟨ra,rb,bag,past,wA,wB,rA,rB,known,nums,nsA,nsB⟩:=R
 obtain⟨keys,tags⟩:=known
 dsimp only at hends
 obtain⟨g1,g2,g3,g4,g5,g6⟩:=hends
 replace g1:=g1.symm
 replace g2:=g2.symm
 replace g3:=g3.symm
 replace g4:=g4.symm
 replace g5:=g5.symm
 replace g6:=g6.symm
 subst g1 g2 g3 g4 g5 g6
 have hSd:=dD ad.addr
 rw [hsd] at hSd
 refine ga Tryz.func56 Tryz.ntmps56 Tryz.results56 fun E hE=>?_
 refine qK (hEA) (qI 0 21) ?_
 refine qK (hX) (qI 24 7) ?_
 refine qD [0,1,2,3,4,5,7,8,6,9,10] ?_
 refine az (hSd) [] ?_
 refine qG ?_
 refine qD [0,1,2,3,5,6,7,4,8,9,10] ?_
 refine az (hset) (qI 0 21++qI 33 7) ?_
 refine az (hpost) (qI 33 7++qI 7 14++qI 32 1) ?_
 refine qG ?_
 exact cc (qI 0 21++qI 40 21)
theorem sr (w:WorldD) (pos many:Int) (text:List UInt8) (ad:AddrD) (le:LetterD) (hw:SmallD w) (htx:text.length≤1048576):
  ae Tryz.prog 56 [.ag (w.cs 0),.ag (ActD.cs ⟨6,1,pos,many,text,ad,le⟩)] (w.hp false) (.tu [.ag (WorldD.cs (aq 1 { w with a:=(bb w.a pos).1 } (bb w.a pos).2) 21),.sc (.int .i64 0)]) (w.hp false++WorldD.hp (aq 1 { w with a:=(bb w.a pos).1 } (bb w.a pos).2) true):=by
 have hX:=nl w.a pos hw.p.s.a
 have hsm:=fg (n:=pos) hw.p.s.a
 have hlen:=i6 w.a pos hw.p.s.a
 have hEA:ae Tryz.prog 113 [.ag (w.cs 0),.sc (.int .i64 1)] (w.hp false) (.ag (w.a.cs 21)) (w.hp false++w.a.hp true):=bG w 1 hw.p.s.a.own hw.p.s.a.far hw.p.s.a.subs hw.p.s.a.halfs hw.p.s.a.list hw.p.s.a.done hw.p.s.a.over hw.p.s.b.own hw.p.s.b.far hw.p.s.b.subs hw.p.s.b.halfs hw.p.s.b.list hw.p.s.b.done hw.p.s.b.over
 obtain⟨pr,hpr⟩:∃ p,p=bb w.a pos:=⟨_,rfl⟩
 rw [←hpr] at hX hsm hlen⊢
 obtain⟨e1,l1⟩:=pr
 dsimp only at hX hsm hlen⊢
 have hset:=dF w e1
 have hpost:=dH { w with a:=e1 } l1 ⟨hsm,hw.p.s.b,hw.p.s.bag,hw.p.s.past,hw.p.s.keys,hw.p.s.tags,hw.p.s.nums,hw.p.s.ansA,hw.p.s.ansB⟩ (by first|omega|simp)
 have hends:=aE (side:=1) (l:=l1) (w:={ w with a:=e1 })
 obtain⟨R,hR⟩:∃ R,R=aq 1 { w with a:=e1 } l1:=⟨_,rfl⟩
 rw [←hR] at hpost hends⊢
 clear hR
 obtain⟨ra,rb,bag,past,wA,wB,rA,rB,known,nums,nsA,nsB⟩:=R
 obtain⟨keys,tags⟩:=known
 dsimp only at hends
 obtain⟨g1,g2,g3,g4,g5,g6⟩:=hends
 replace g1:=g1.symm
 replace g2:=g2.symm
 replace g3:=g3.symm
 replace g4:=g4.symm
 replace g5:=g5.symm
 replace g6:=g6.symm
 subst g1 g2 g3 g4 g5 g6
 refine ga Tryz.func56 Tryz.ntmps56 Tryz.results56 fun E hE=>?_
 refine qK (hEA) (qI 0 21) ?_
 refine qK (hX) (qI 24 7) ?_
 refine qD [0,1,2,3,5,6,7,4,8,9,10] ?_
 refine az (hset) (qI 0 21++qI 33 7) ?_
 refine az (hpost) (qI 33 7++qI 7 14++qI 40 1) ?_
 refine qG ?_
 exact cc (qI 0 21++qI 41 21)
theorem ss (w:WorldD) (pos many:Int) (text:List UInt8) (ad:AddrD) (le:LetterD) (hw:SmallD w) (htx:text.length≤1048576):
  ae Tryz.prog 56 [.ag (w.cs 0),.ag (ActD.cs ⟨7,1,pos,many,text,ad,le⟩)] (w.hp false) (.tu [.ag (WorldD.cs (aq 1 { w with a:=(br w.a pos).1 } (br w.a pos).2) 21),.sc (.int .i64 0)]) (w.hp false++WorldD.hp (aq 1 { w with a:=(br w.a pos).1 } (br w.a pos).2) true):=by
 have hX:=sj w.a pos hw.p.s.a
 have hsm:=f8 (k:=pos) hw.p.s.a
 have hlen:=jU w.a pos
 have hEA:ae Tryz.prog 113 [.ag (w.cs 0),.sc (.int .i64 1)] (w.hp false) (.ag (w.a.cs 21)) (w.hp false++w.a.hp true):=bG w 1 hw.p.s.a.own hw.p.s.a.far hw.p.s.a.subs hw.p.s.a.halfs hw.p.s.a.list hw.p.s.a.done hw.p.s.a.over hw.p.s.b.own hw.p.s.b.far hw.p.s.b.subs hw.p.s.b.halfs hw.p.s.b.list hw.p.s.b.done hw.p.s.b.over
 obtain⟨pr,hpr⟩:∃ p,p=br w.a pos:=⟨_,rfl⟩
 rw [←hpr] at hX hsm hlen⊢
 obtain⟨e1,l1⟩:=pr
 dsimp only at hX hsm hlen⊢
 have hset:=dF w e1
 have hpost:=dH { w with a:=e1 } l1 ⟨hsm,hw.p.s.b,hw.p.s.bag,hw.p.s.past,hw.p.s.keys,hw.p.s.tags,hw.p.s.nums,hw.p.s.ansA,hw.p.s.ansB⟩ (by first|omega|simp)
 have hends:=aE (side:=1) (l:=l1) (w:={ w with a:=e1 })
 obtain⟨R,hR⟩:∃ R,R=aq 1 { w with a:=e1 } l1:=⟨_,rfl⟩
 rw [←hR] at hpost hends⊢
 clear hR
 obtain⟨ra,rb,bag,past,wA,wB,rA,rB,known,nums,nsA,nsB⟩:=R
 obtain⟨keys,tags⟩:=known
 dsimp only at hends
 obtain⟨g1,g2,g3,g4,g5,g6⟩:=hends
 replace g1:=g1.symm
 replace g2:=g2.symm
 replace g3:=g3.symm
 replace g4:=g4.symm
 replace g5:=g5.symm
 replace g6:=g6.symm
 subst g1 g2 g3 g4 g5 g6
 refine ga Tryz.func56 Tryz.ntmps56 Tryz.results56 fun E hE=>?_
 refine qK (hEA) (qI 0 21) ?_
 refine qK (hX) (qI 24 7) ?_
 refine qD [0,1,2,3,5,6,7,4,8,9,10] ?_
 refine az (hset) (qI 0 21++qI 33 7) ?_
 refine az (hpost) (qI 33 7++qI 7 14++qI 40 1) ?_
 refine qG ?_
 exact cc (qI 0 21++qI 41 21)
theorem su (w:WorldD) (pos many:Int) (text:List UInt8) (ad:AddrD) (le:LetterD) (hw:SmallD w) (htx:text.length≤1048576):
  ae Tryz.prog 56 [.ag (w.cs 0),.ag (ActD.cs ⟨1,2,pos,many,text,ad,le⟩)] (w.hp false) (.tu [.ag (WorldD.cs (aq 2 { w with wroteB:=w.wroteB++text.take (cp w.b text).2,b:=(aS w.b text).1 } (aS w.b text).2) 21),.sc (.int .i64 0)]) (w.hp false++WorldD.hp (aq 2 { w with wroteB:=w.wroteB++text.take (cp w.b text).2,b:=(aS w.b text).1 } (aS w.b text).2) true):=by
 have hX:=lQ w.b text hw.p.s.b htx (jW hw.ob)
 have hsm:=eQ (t:=text) hw.p.s.b
 have hlen:=ie w.b text
 have hEA:ae Tryz.prog 113 [.ag (w.cs 0),.sc (.int .i64 2)] (w.hp false) (.ag (w.b.cs 21)) (w.hp false++w.b.hp true):=bG w 2 hw.p.s.a.own hw.p.s.a.far hw.p.s.a.subs hw.p.s.a.halfs hw.p.s.a.list hw.p.s.a.done hw.p.s.a.over hw.p.s.b.own hw.p.s.b.far hw.p.s.b.subs hw.p.s.b.halfs hw.p.s.b.list hw.p.s.b.done hw.p.s.b.over
 have hX2:=mf w.b text hw.p.s.b htx
 have hwl:=ne w.b text
 obtain⟨wr,hwr⟩:∃ p,p=cp w.b text:=⟨_,rfl⟩
 rw [←hwr] at hX2 hwl⊢
 obtain⟨e0,n0⟩:=wr
 dsimp only at hX2 hwl⊢
 obtain⟨pr,hpr⟩:∃ p,p=aS w.b text:=⟨_,rfl⟩
 rw [←hpr] at hX hsm hlen⊢
 obtain⟨e1,l1⟩:=pr
 dsimp only at hX hsm hlen⊢
 have hset:=dG { w with wroteB:=w.wroteB++text.take n0 } e1
 have hpost:=dI { w with wroteB:=w.wroteB++text.take n0,b:=e1 } l1 ⟨hw.p.s.a,hsm,hw.p.s.bag,hw.p.s.past,hw.p.s.keys,hw.p.s.tags,hw.p.s.nums,hw.p.s.ansA,hw.p.s.ansB⟩ (by first|omega|simp)
 have hends:=aE (side:=2) (l:=l1) (w:={ w with wroteB:=w.wroteB++text.take n0,b:=e1 })
 obtain⟨R,hR⟩:∃ R,R=aq 2 { w with wroteB:=w.wroteB++text.take n0,b:=e1 } l1:=⟨_,rfl⟩
 rw [←hR] at hpost hends⊢
 clear hR
 obtain⟨ra,rb,bag,past,wA,wB,rA,rB,known,nums,nsA,nsB⟩:=R
 obtain⟨keys,tags⟩:=known
 dsimp only at hends
 obtain⟨g1,g2,g3,g4,g5,g6⟩:=hends
 replace g1:=g1.symm
 replace g2:=g2.symm
 replace g3:=g3.symm
 replace g4:=g4.symm
 replace g5:=g5.symm
 replace g6:=g6.symm
 subst g1 g2 g3 g4 g5 g6
 have htk:(text.take n0).length≤1048576:=by rw [List.length_take];omega
 have hWr:=gE w 2 (text.take n0) [] hw.s htk (by simp)
 rw [ye] at hWr
 refine ga Tryz.func56 Tryz.ntmps56 Tryz.results56 fun E hE=>?_
 refine qK (hEA) (qI 0 21) ?_
 refine qK (hX2) (qI 24 7) ?_
 refine qD [0,1,2,3,4,5,6,7,8] ?_
 refine az (hWr) (qI 0 21) ?_
 refine⟨qC,ac 400 ?_⟩
 try simp (disch:=omega) only [go_sem,seval,e8,cF]
 refine qK (hX) (qI 24 7) ?_
 refine qD [0,1,2,3,5,6,7,4,8,9,10] ?_
 refine az (hset) (qI 0 21++qI 41 7) ?_
 refine az (hpost) (qI 0 7++qI 41 7++qI 14 7++qI 48 1) ?_
 refine qG ?_
 exact cc (qI 0 21++qI 49 21)
theorem sv (w:WorldD) (pos many:Int) (text:List UInt8) (ad:AddrD) (le:LetterD) (hw:SmallD w) (htx:text.length≤1048576):
  ae Tryz.prog 56 [.ag (w.cs 0),.ag (ActD.cs ⟨2,2,pos,many,text,ad,le⟩)] (w.hp false) (.tu [.ag (WorldD.cs (aq 2 { w with readB:=w.readB++(bu w.b many).2,b:=((bu w.b many).1,([]:List LetterD)).1 } ((bu w.b many).1,([]:List LetterD)).2) 21),.sc (.int .i64 0)]) (w.hp false++WorldD.hp (aq 2 { w with readB:=w.readB++(bu w.b many).2,b:=((bu w.b many).1,([]:List LetterD)).1 } ((bu w.b many).1,([]:List LetterD)).2) true):=by
 have hX:=uF w.b many hw.p.s.b hw.p.pb
 have hsm:=gP (m:=many) hw.p.s.b
 have hEA:ae Tryz.prog 113 [.ag (w.cs 0),.sc (.int .i64 2)] (w.hp false) (.ag (w.b.cs 21)) (w.hp false++w.b.hp true):=bG w 2 hw.p.s.a.own hw.p.s.a.far hw.p.s.a.subs hw.p.s.a.halfs hw.p.s.a.list hw.p.s.a.done hw.p.s.a.over hw.p.s.b.own hw.p.s.b.far hw.p.s.b.subs hw.p.s.b.halfs hw.p.s.b.list hw.p.s.b.done hw.p.s.b.over
 obtain⟨pr,hpr⟩:∃ p,p=bu w.b many:=⟨_,rfl⟩
 have hrl:(bu w.b many).2.length≤1048576:=lf hw.p.pb
 rw [←hpr] at hX hsm hrl⊢
 obtain⟨e1,t1⟩:=pr
 dsimp only at hX hsm hrl⊢
 obtain⟨l1,hl1⟩:∃ l:List LetterD,l=[]:=⟨_,rfl⟩
 have hlen:l1.length≤1:=by rw [hl1];simp
 have hset:=dG { w with readB:=w.readB++t1 } e1
 have hpost:=dI { w with readB:=w.readB++t1,b:=e1 } [] ⟨hw.p.s.a,hsm,hw.p.s.bag,hw.p.s.past,hw.p.s.keys,hw.p.s.tags,hw.p.s.nums,hw.p.s.ansA,hw.p.s.ansB⟩ (by first|omega|simp)
 have hends:=aE (side:=2) (l:=[]) (w:={ w with readB:=w.readB++t1,b:=e1 })
 obtain⟨R,hR⟩:∃ R,R=aq 2 { w with readB:=w.readB++t1,b:=e1 } []:=⟨_,rfl⟩
 rw [←hR] at hpost hends⊢
 clear hR
 obtain⟨ra,rb,bag,past,wA,wB,rA,rB,known,nums,nsA,nsB⟩:=R
 obtain⟨keys,tags⟩:=known
 dsimp only at hends
 obtain⟨g1,g2,g3,g4,g5,g6⟩:=hends
 replace g1:=g1.symm
 replace g2:=g2.symm
 replace g3:=g3.symm
 replace g4:=g4.symm
 replace g5:=g5.symm
 replace g6:=g6.symm
 subst g1 g2 g3 g4 g5 g6
 have hWr:=gE w 2 [] t1 hw.s (by simp) hrl
 rw [yf] at hWr
 refine ga Tryz.func56 Tryz.ntmps56 Tryz.results56 fun E hE=>?_
 refine qK (hEA) (qI 0 21) ?_
 refine qK (hX) (qI 24 7) ?_
 refine qK (hWr) (qI 0 21) ?_
 try simp (disch:=omega) only [go_sem,seval,e8,cF]
 refine qD [0,1,2,3,5,6,7,4,8,9,10] ?_
 refine az (hset) (qI 0 21++qI 33 7) ?_
 refine az (hpost) (qI 0 7++qI 33 7++qI 14 7++qI 32 1) ?_
 refine qG ?_
 exact cc (qI 0 21++qI 40 21)
theorem sw (w:WorldD) (pos many:Int) (text:List UInt8) (ad:AddrD) (le:LetterD) (hw:SmallD w) (htx:text.length≤1048576):
  ae Tryz.prog 56 [.ag (w.cs 0),.ag (ActD.cs ⟨4,2,pos,many,text,ad,le⟩)] (w.hp false) (.tu [.ag (WorldD.cs (aq 2 { w with b:=(bs w.b).1 } (bs w.b).2) 21),.sc (.int .i64 0)]) (w.hp false++WorldD.hp (aq 2 { w with b:=(bs w.b).1 } (bs w.b).2) true):=by
 have hX:=oX w.b hw.p.s.b
 have hsm:=f9 hw.p.s.b
 have hlen:=jV w.b
 have hEA:ae Tryz.prog 113 [.ag (w.cs 0),.sc (.int .i64 2)] (w.hp false) (.ag (w.b.cs 21)) (w.hp false++w.b.hp true):=bG w 2 hw.p.s.a.own hw.p.s.a.far hw.p.s.a.subs hw.p.s.a.halfs hw.p.s.a.list hw.p.s.a.done hw.p.s.a.over hw.p.s.b.own hw.p.s.b.far hw.p.s.b.subs hw.p.s.b.halfs hw.p.s.b.list hw.p.s.b.done hw.p.s.b.over
 obtain⟨pr,hpr⟩:∃ p,p=bs w.b:=⟨_,rfl⟩
 rw [←hpr] at hX hsm hlen⊢
 obtain⟨e1,l1⟩:=pr
 dsimp only at hX hsm hlen⊢
 have hset:=dG w e1
 have hpost:=dI { w with b:=e1 } l1 ⟨hw.p.s.a,hsm,hw.p.s.bag,hw.p.s.past,hw.p.s.keys,hw.p.s.tags,hw.p.s.nums,hw.p.s.ansA,hw.p.s.ansB⟩ (by first|omega|simp)
 have hends:=aE (side:=2) (l:=l1) (w:={ w with b:=e1 })
 obtain⟨R,hR⟩:∃ R,R=aq 2 { w with b:=e1 } l1:=⟨_,rfl⟩
 rw [←hR] at hpost hends⊢
 clear hR
 obtain⟨ra,rb,bag,past,wA,wB,rA,rB,known,nums,nsA,nsB⟩:=R
 obtain⟨keys,tags⟩:=known
 dsimp only at hends
 obtain⟨g1,g2,g3,g4,g5,g6⟩:=hends
 replace g1:=g1.symm
 replace g2:=g2.symm
 replace g3:=g3.symm
 replace g4:=g4.symm
 replace g5:=g5.symm
 replace g6:=g6.symm
 subst g1 g2 g3 g4 g5 g6
 refine ga Tryz.func56 Tryz.ntmps56 Tryz.results56 fun E hE=>?_
 refine qK (hEA) (qI 0 21) ?_
 refine qK (hX) (qI 24 7) ?_
 refine qD [0,1,2,3,5,6,7,4,8,9,10] ?_
 refine az (hset) (qI 0 21++qI 33 7) ?_
 refine az (hpost) (qI 0 7++qI 33 7++qI 14 7++qI 40 1) ?_
 refine qG ?_
 exact cc (qI 0 21++qI 41 21)
theorem sx (w:WorldD) (pos many:Int) (text:List UInt8) (ad:AddrD) (le:LetterD) (hw:SmallD w) (htx:text.length≤1048576) (hsd:aZ ad.addr=2) (hgood:(aB w.b ad).2=true):
  ae Tryz.prog 56 [.ag (w.cs 0),.ag (ActD.cs ⟨5,2,pos,many,text,ad,le⟩)] (w.hp false) (.tu [.ag (WorldD.cs (aq 2 { w with b:=((aB w.b ad).1,([]:List LetterD)).1 } ((aB w.b ad).1,([]:List LetterD)).2) 21),.sc (.int .i64 0)]) (w.hp false++WorldD.hp (aq 2 { w with b:=((aB w.b ad).1,([]:List LetterD)).1 } ((aB w.b ad).1,([]:List LetterD)).2) true):=by
 have hX:=i5 w.b ad hw.p.s.b
 have hsm:=df (a:=ad) hw.p.s.b
 have hEA:ae Tryz.prog 113 [.ag (w.cs 0),.sc (.int .i64 2)] (w.hp false) (.ag (w.b.cs 21)) (w.hp false++w.b.hp true):=bG w 2 hw.p.s.a.own hw.p.s.a.far hw.p.s.a.subs hw.p.s.a.halfs hw.p.s.a.list hw.p.s.a.done hw.p.s.a.over hw.p.s.b.own hw.p.s.b.far hw.p.s.b.subs hw.p.s.b.halfs hw.p.s.b.list hw.p.s.b.done hw.p.s.b.over
 obtain⟨pr,hpr⟩:∃ p,p=aB w.b ad:=⟨_,rfl⟩
 rw [←hpr] at hX hsm hgood⊢
 obtain⟨e1,ok1⟩:=pr
 dsimp only at hX hsm hgood⊢
 subst hgood
 obtain⟨l1,hl1⟩:∃ l:List LetterD,l=[]:=⟨_,rfl⟩
 have hlen:l1.length≤1:=by rw [hl1];simp
 have hset:=dG w e1
 have hpost:=dI { w with b:=e1 } [] ⟨hw.p.s.a,hsm,hw.p.s.bag,hw.p.s.past,hw.p.s.keys,hw.p.s.tags,hw.p.s.nums,hw.p.s.ansA,hw.p.s.ansB⟩ (by first|omega|simp)
 have hends:=aE (side:=2) (l:=[]) (w:={ w with b:=e1 })
 obtain⟨R,hR⟩:∃ R,R=aq 2 { w with b:=e1 } []:=⟨_,rfl⟩
 rw [←hR] at hpost hends⊢
 clear hR
 obtain⟨ra,rb,bag,past,wA,wB,rA,rB,known,nums,nsA,nsB⟩:=R
 obtain⟨keys,tags⟩:=known
 dsimp only at hends
 obtain⟨g1,g2,g3,g4,g5,g6⟩:=hends
 replace g1:=g1.symm
 replace g2:=g2.symm
 replace g3:=g3.symm
 replace g4:=g4.symm
 replace g5:=g5.symm
 replace g6:=g6.symm
 subst g1 g2 g3 g4 g5 g6
 have hSd:=dD ad.addr
 rw [hsd] at hSd
 refine ga Tryz.func56 Tryz.ntmps56 Tryz.results56 fun E hE=>?_
 refine qK (hEA) (qI 0 21) ?_
 refine qK (hX) (qI 24 7) ?_
 refine qD [0,1,2,3,4,5,7,8,6,9,10] ?_
 refine az (hSd) [] ?_
 refine qG ?_
 refine qD [0,1,2,3,5,6,7,4,8,9,10] ?_
 refine az (hset) (qI 0 21++qI 33 7) ?_
 refine az (hpost) (qI 0 7++qI 33 7++qI 14 7++qI 32 1) ?_
 refine qG ?_
 exact cc (qI 0 21++qI 40 21)
theorem sy (w:WorldD) (pos many:Int) (text:List UInt8) (ad:AddrD) (le:LetterD) (hw:SmallD w) (htx:text.length≤1048576):
  ae Tryz.prog 56 [.ag (w.cs 0),.ag (ActD.cs ⟨6,2,pos,many,text,ad,le⟩)] (w.hp false) (.tu [.ag (WorldD.cs (aq 2 { w with b:=(bb w.b pos).1 } (bb w.b pos).2) 21),.sc (.int .i64 0)]) (w.hp false++WorldD.hp (aq 2 { w with b:=(bb w.b pos).1 } (bb w.b pos).2) true):=by
 have hX:=nl w.b pos hw.p.s.b
 have hsm:=fg (n:=pos) hw.p.s.b
 have hlen:=i6 w.b pos hw.p.s.b
 have hEA:ae Tryz.prog 113 [.ag (w.cs 0),.sc (.int .i64 2)] (w.hp false) (.ag (w.b.cs 21)) (w.hp false++w.b.hp true):=bG w 2 hw.p.s.a.own hw.p.s.a.far hw.p.s.a.subs hw.p.s.a.halfs hw.p.s.a.list hw.p.s.a.done hw.p.s.a.over hw.p.s.b.own hw.p.s.b.far hw.p.s.b.subs hw.p.s.b.halfs hw.p.s.b.list hw.p.s.b.done hw.p.s.b.over
 obtain⟨pr,hpr⟩:∃ p,p=bb w.b pos:=⟨_,rfl⟩
 rw [←hpr] at hX hsm hlen⊢
 obtain⟨e1,l1⟩:=pr
 dsimp only at hX hsm hlen⊢
 have hset:=dG w e1
 have hpost:=dI { w with b:=e1 } l1 ⟨hw.p.s.a,hsm,hw.p.s.bag,hw.p.s.past,hw.p.s.keys,hw.p.s.tags,hw.p.s.nums,hw.p.s.ansA,hw.p.s.ansB⟩ (by first|omega|simp)
 have hends:=aE (side:=2) (l:=l1) (w:={ w with b:=e1 })
 obtain⟨R,hR⟩:∃ R,R=aq 2 { w with b:=e1 } l1:=⟨_,rfl⟩
 rw [←hR] at hpost hends⊢
 clear hR
 obtain⟨ra,rb,bag,past,wA,wB,rA,rB,known,nums,nsA,nsB⟩:=R
 obtain⟨keys,tags⟩:=known
 dsimp only at hends
 obtain⟨g1,g2,g3,g4,g5,g6⟩:=hends
 replace g1:=g1.symm
 replace g2:=g2.symm
 replace g3:=g3.symm
 replace g4:=g4.symm
 replace g5:=g5.symm
 replace g6:=g6.symm
 subst g1 g2 g3 g4 g5 g6
 refine ga Tryz.func56 Tryz.ntmps56 Tryz.results56 fun E hE=>?_
 refine qK (hEA) (qI 0 21) ?_
 refine qK (hX) (qI 24 7) ?_
 refine qD [0,1,2,3,5,6,7,4,8,9,10] ?_
 refine az (hset) (qI 0 21++qI 33 7) ?_
 refine az (hpost) (qI 0 7++qI 33 7++qI 14 7++qI 40 1) ?_
 refine qG ?_
 exact cc (qI 0 21++qI 41 21)
theorem sA (w:WorldD) (pos many:Int) (text:List UInt8) (ad:AddrD) (le:LetterD) (hw:SmallD w) (htx:text.length≤1048576):
  ae Tryz.prog 56 [.ag (w.cs 0),.ag (ActD.cs ⟨7,2,pos,many,text,ad,le⟩)] (w.hp false) (.tu [.ag (WorldD.cs (aq 2 { w with b:=(br w.b pos).1 } (br w.b pos).2) 21),.sc (.int .i64 0)]) (w.hp false++WorldD.hp (aq 2 { w with b:=(br w.b pos).1 } (br w.b pos).2) true):=by
 have hX:=sj w.b pos hw.p.s.b
 have hsm:=f8 (k:=pos) hw.p.s.b
 have hlen:=jU w.b pos
 have hEA:ae Tryz.prog 113 [.ag (w.cs 0),.sc (.int .i64 2)] (w.hp false) (.ag (w.b.cs 21)) (w.hp false++w.b.hp true):=bG w 2 hw.p.s.a.own hw.p.s.a.far hw.p.s.a.subs hw.p.s.a.halfs hw.p.s.a.list hw.p.s.a.done hw.p.s.a.over hw.p.s.b.own hw.p.s.b.far hw.p.s.b.subs hw.p.s.b.halfs hw.p.s.b.list hw.p.s.b.done hw.p.s.b.over
 obtain⟨pr,hpr⟩:∃ p,p=br w.b pos:=⟨_,rfl⟩
 rw [←hpr] at hX hsm hlen⊢
 obtain⟨e1,l1⟩:=pr
 dsimp only at hX hsm hlen⊢
 have hset:=dG w e1
 have hpost:=dI { w with b:=e1 } l1 ⟨hw.p.s.a,hsm,hw.p.s.bag,hw.p.s.past,hw.p.s.keys,hw.p.s.tags,hw.p.s.nums,hw.p.s.ansA,hw.p.s.ansB⟩ (by first|omega|simp)
 have hends:=aE (side:=2) (l:=l1) (w:={ w with b:=e1 })
 obtain⟨R,hR⟩:∃ R,R=aq 2 { w with b:=e1 } l1:=⟨_,rfl⟩
 rw [←hR] at hpost hends⊢
 clear hR
 obtain⟨ra,rb,bag,past,wA,wB,rA,rB,known,nums,nsA,nsB⟩:=R
 obtain⟨keys,tags⟩:=known
 dsimp only at hends
 obtain⟨g1,g2,g3,g4,g5,g6⟩:=hends
 replace g1:=g1.symm
 replace g2:=g2.symm
 replace g3:=g3.symm
 replace g4:=g4.symm
 replace g5:=g5.symm
 replace g6:=g6.symm
 subst g1 g2 g3 g4 g5 g6
 refine ga Tryz.func56 Tryz.ntmps56 Tryz.results56 fun E hE=>?_
 refine qK (hEA) (qI 0 21) ?_
 refine qK (hX) (qI 24 7) ?_
 refine qD [0,1,2,3,5,6,7,4,8,9,10] ?_
 refine az (hset) (qI 0 21++qI 33 7) ?_
 refine az (hpost) (qI 0 7++qI 33 7++qI 14 7++qI 40 1) ?_
 refine qG ?_
 exact cc (qI 0 21++qI 41 21)
end
section
open Go.RowKit
theorem sB (w:WorldD) (pos many:Int) (text:List UInt8) (ad:AddrD) (le:LetterD) (hw:SmallD w) (htx:text.length≤1048576):
  ae Tryz.prog 56 [.ag (w.cs 0),.ag (ActD.cs ⟨3,1,pos,many,text,ad,le⟩)] (w.hp false) (.tu [.ag (WorldD.cs (aq 1 { w with a:=(dt w.a).1 } (dt w.a).2) 21),.sc (.int .i64 0)]) (w.hp false++WorldD.hp (aq 1 { w with a:=(dt w.a).1 } (dt w.a).2) true):=by
 have hX:=uP w.a hw.p.s.a hw.oa
 have hsm:=iH hw.p.s.a
 have hlen:=nq w.a
 have hEA:ae Tryz.prog 113 [.ag (w.cs 0),.sc (.int .i64 1)] (w.hp false) (.ag (w.a.cs 21)) (w.hp false++w.a.hp true):=bG w 1 hw.p.s.a.own hw.p.s.a.far hw.p.s.a.subs hw.p.s.a.halfs hw.p.s.a.list hw.p.s.a.done hw.p.s.a.over hw.p.s.b.own hw.p.s.b.far hw.p.s.b.subs hw.p.s.b.halfs hw.p.s.b.list hw.p.s.b.done hw.p.s.b.over
 obtain⟨pr,hpr⟩:∃ p,p=dt w.a:=⟨_,rfl⟩
 rw [←hpr] at hX hsm hlen⊢
 obtain⟨e1,l1⟩:=pr
 dsimp only at hX hsm hlen⊢
 have hset:=dF w e1
 have hpost:=dH { w with a:=e1 } l1 ⟨hsm,hw.p.s.b,hw.p.s.bag,hw.p.s.past,hw.p.s.keys,hw.p.s.tags,hw.p.s.nums,hw.p.s.ansA,hw.p.s.ansB⟩ (by first|omega|simp)
 have hends:=aE (side:=1) (l:=l1) (w:={ w with a:=e1 })
 obtain⟨R,hR⟩:∃ R,R=aq 1 { w with a:=e1 } l1:=⟨_,rfl⟩
 rw [←hR] at hpost hends⊢
 clear hR
 obtain⟨ra,rb,bag,past,wA,wB,rA,rB,known,nums,nsA,nsB⟩:=R
 obtain⟨keys,tags⟩:=known
 dsimp only at hends
 obtain⟨g1,g2,g3,g4,g5,g6⟩:=hends
 replace g1:=g1.symm
 replace g2:=g2.symm
 replace g3:=g3.symm
 replace g4:=g4.symm
 replace g5:=g5.symm
 replace g6:=g6.symm
 subst g1 g2 g3 g4 g5 g6
 refine ga Tryz.func56 Tryz.ntmps56 Tryz.results56 fun E hE=>?_
 refine qK (hEA) (qI 0 21) ?_
 refine qK (hX) (qI 24 7) ?_
 refine qD [0,1,2,3,5,6,7,4,8,9,10] ?_
 refine az (hset) (qI 0 21++qI 33 7) ?_
 refine az (hpost) (qI 33 7++qI 7 14++qI 40 1) ?_
 refine qG ?_
 exact cc (qI 0 21++qI 41 21)
theorem sC (w:WorldD) (pos many:Int) (text:List UInt8) (ad:AddrD) (le:LetterD) (hw:SmallD w) (htx:text.length≤1048576):
  ae Tryz.prog 56 [.ag (w.cs 0),.ag (ActD.cs ⟨3,2,pos,many,text,ad,le⟩)] (w.hp false) (.tu [.ag (WorldD.cs (aq 2 { w with b:=(dt w.b).1 } (dt w.b).2) 21),.sc (.int .i64 0)]) (w.hp false++WorldD.hp (aq 2 { w with b:=(dt w.b).1 } (dt w.b).2) true):=by
 have hX:=uP w.b hw.p.s.b hw.ob
 have hsm:=iH hw.p.s.b
 have hlen:=nq w.b
 have hEA:ae Tryz.prog 113 [.ag (w.cs 0),.sc (.int .i64 2)] (w.hp false) (.ag (w.b.cs 21)) (w.hp false++w.b.hp true):=bG w 2 hw.p.s.a.own hw.p.s.a.far hw.p.s.a.subs hw.p.s.a.halfs hw.p.s.a.list hw.p.s.a.done hw.p.s.a.over hw.p.s.b.own hw.p.s.b.far hw.p.s.b.subs hw.p.s.b.halfs hw.p.s.b.list hw.p.s.b.done hw.p.s.b.over
 obtain⟨pr,hpr⟩:∃ p,p=dt w.b:=⟨_,rfl⟩
 rw [←hpr] at hX hsm hlen⊢
 obtain⟨e1,l1⟩:=pr
 dsimp only at hX hsm hlen⊢
 have hset:=dG w e1
 have hpost:=dI { w with b:=e1 } l1 ⟨hw.p.s.a,hsm,hw.p.s.bag,hw.p.s.past,hw.p.s.keys,hw.p.s.tags,hw.p.s.nums,hw.p.s.ansA,hw.p.s.ansB⟩ (by first|omega|simp)
 have hends:=aE (side:=2) (l:=l1) (w:={ w with b:=e1 })
 obtain⟨R,hR⟩:∃ R,R=aq 2 { w with b:=e1 } l1:=⟨_,rfl⟩
 rw [←hR] at hpost hends⊢
 clear hR
 obtain⟨ra,rb,bag,past,wA,wB,rA,rB,known,nums,nsA,nsB⟩:=R
 obtain⟨keys,tags⟩:=known
 dsimp only at hends
 obtain⟨g1,g2,g3,g4,g5,g6⟩:=hends
 replace g1:=g1.symm
 replace g2:=g2.symm
 replace g3:=g3.symm
 replace g4:=g4.symm
 replace g5:=g5.symm
 replace g6:=g6.symm
 subst g1 g2 g3 g4 g5 g6
 refine ga Tryz.func56 Tryz.ntmps56 Tryz.results56 fun E hE=>?_
 refine qK (hEA) (qI 0 21) ?_
 refine qK (hX) (qI 24 7) ?_
 refine qD [0,1,2,3,5,6,7,4,8,9,10] ?_
 refine az (hset) (qI 0 21++qI 33 7) ?_
 refine az (hpost) (qI 0 7++qI 33 7++qI 14 7++qI 40 1) ?_
 refine qG ?_
 exact cc (qI 0 21++qI 41 21)
end
end Go.Proofs.YtbgakfbnkkfbkaaGreat
