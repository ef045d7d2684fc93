/-
  Texts merged for this claim by shake.py: what its proof needs.
-/
import Derived.Test.YtjghbknhneffjaaGreatZFnB2K
import Derived.Test.YtjghbknhneffjaaGreatZFnB2L
set_option maxHeartbeats 16000000
set_option maxRecDepth 100000
set_option linter.unusedVariables false
set_option linter.unusedSimpArgs false
namespace Go.Proofs.YtjghbknhneffjaaGreat
section
open Go.RowKit
end
section
open Go.RowKit
section
variable {P:Program} {β:Be} {s:S} {a:Act} {w:World} {o:Oper} {r:OpR} {ty:TypeId}
end
end
section
open Go.RowKit
end
section
end
section
open Go.RowKit
end
section
end
section
open Go.ChangeShapes Go.WideShapes Go.ChangeAt Go.RowKit
end
section
open Go.RowKit
theorem Gk {α:Type} {f:α->List Sc} {l:List α} {k:Nat} {v:α} {w:List Sc} (h:f v=w):(l.map f).set k w=(l.set k v).map f:=by rw [List.map_set,h]
end
section
open Go.RowKit
section
variable {P:Program} {β:Be}
end
end
section
open Go.RowKit
theorem Hu {o:OutD} {t:List UInt8} (h:FineO o):(if o.room - (o.text.length:Int) < (t.length:Int) then o.room - (o.text.length:Int) else (t.length:Int))=(i9 o t:Int):=by
 have:=h.len
 rw [i9]
 split<;>omega
theorem Gm (o:OutD) (t:List UInt8) (ht:t.length<=1048576):aP 264 [.ag o.cs,.sc (.st t)] [] (.tu [.ag (eL o t).1.cs,.sc (.int .i64 ((eL o t).2:Nat))]) []:=by
 have hf:=zl (o:=o) (t:=t)
 have htt:=zk (o:=o) (t:=t)
 have hK:=c9 o
 generalize eL o t=R at*
 refine qE Tryz.func264 Tryz.ntmps264 Tryz.results264 fun E hE=>?_
 refine qK (hK) [] ?_
 refine qB (fun b1=>?_) fun b1=>?_
 ·rw [hf (by simp [ib,b1])]
  refine qX ?_
  exact qF []
 have F:=gp b1
 have f1:=F.base
 have f2:=F.room
 have f3:=F.len
 have f4:=F.sent
 have hm:=Hu (t:=t) F
 have hr:=oY (t:=t) F
 have hle:=vJ o t
 have htl:(t.take (i9 o t)).length=i9 o t:=by rw [List.length_take];omega
 have htt2:(t.take t.length).length=t.length:=by simp
 try simp (disch:=omega) only [go_sem,seval,hm]
 refine qB (fun b2=>?_) fun b2=>?_
 ·rw [hf (by simp only [ib,b1,Bool.true_and,decide_eq_false_iff_not];omega)]
  refine qX ?_
  exact qF []
 rw [htt (by simp only [ib,b1,Bool.true_and,decide_eq_true_eq];omega)]
 refine qX ?_
 refine qD [0,1,2,3,4,5,6,7] ?_
 refine qG ?_
 exact qF []
theorem v1 (e:EndD) (t:List UInt8) (hs:Small e) (ht:t.length<=1048576):aP 238 [.ag (e.cs 0),.sc (.st t)] (e.hp false) (.tu [.ag ((cc e t).1.cs 7),.sc (.int .i64 ((cc e t).2:Nat))]) (e.hp false++(cc e t).1.hp true):=by
 have hC:=(qH (jF e))
 have hK:=(qH (ap e))
 have hA:=Gm e.out t ht
 have hf:=AO (e:=e) (t:=t)
 have htt:=AN (e:=e) (t:=t)
 generalize cc e t=R at*
 refine qE Tryz.func238 Tryz.ntmps238 Tryz.results238 fun E hE=>?_
 refine qK (hC) (qI 0 7) ?_
 refine qK (hK) (qI 0 7) ?_
 refine qB (fun b1=>?_) fun b1=>?_
 ·rw [hf b1]
  refine qX ?_
  exact qF (qI 0 7++qI 9 7)
 rw [htt b1]
 refine qX ?_
 refine qK (hA) [] ?_
 exact qF (qI 0 7++qI 9 7)
theorem vc (e:EndD) (t:List UInt8) (hs:Small e) (ht:t.length<=1048576) (ho:(cc e t).1.out.text.length<=1048576):aP 239 [.ag (e.cs 0),.sc (.st t)] (e.hp false) (.tu [.ag ((aA e t).1.cs 7),.sc (.sl 14 0 (aA e t).2.length)])
  (e.hp false++((aA e t).1.hp true++[some ⟨(aA e t).2.map LetterD.cs,19,48,true,true⟩])):=by
 have hW:=v1 e t hs ht
 have hsw:Small (cc e t).1:=by
  rw [cc];split
  ·exact⟨hs.own,hs.far,hs.subs,hs.halfs,hs.list,hs.done,hs.over⟩
  exact hs
 have hP:=mp (cc e t).1 hsw ho
 obtain⟨R,hR⟩:∃ R,R=aA e t:=⟨_,rfl⟩
 rw [<-hR]
 rw [aA] at hR
 rw [<-hR] at hP
 clear hR
 generalize cc e t=w1 at*
 obtain⟨e1,n1⟩:=w1
 dsimp only at hP hsw ho hW
 refine gU Tryz.func239 Tryz.ntmps239 Tryz.results239 fun E hE=>?_
 refine qK (hW) (qI 0 7) ?_
 refine qK (hP) (qI 9 7) ?_
 exact dk (qI 0 7++qI 17 8)
theorem Ij {e:EndD} {n:Int} (h:Du e n=false):iA e n=(e,[]):=if_neg (by simp [h])
theorem Ik {e:EndD} {n:Int} {i:Nat} (h:Du e n=true) (hi:aG e.own n=(i:Int)) (hl:i < e.own.length):
  iA e n=({ e with own:=(be e.own n).1,done:=gf e.done n,subs:=e.subs.map (Dt e.own[i].addr) },(j0 (e.subs.map (Dt e.own[i].addr))).map fun k=>Bj n (aN (e.subs.map (Dt e.own[i].addr)) k)):=by
 rw [iA,if_pos h,ic,hi,Int.toNat_natCast,hV hl]
theorem Fe {e:EndD} (h:af e=true):e.done.length<=256:=(oW h).1
theorem v7 (e:EndD) (n:Int) (hs:Small e):aP 244 [.ag (e.cs 0),.sc (.int .i64 n)] (e.hp false) (.tu [.ag ((iA e n).1.cs 7),.sc (.sl 14 0 (iA e n).2.length)])
  (e.hp false++((iA e n).1.hp true++[some ⟨(iA e n).2.map LetterD.cs,19,48,true,true⟩])):=by
 have hC:=(qH (jF e))
 have hK:=(qH (ap e))
 have hA:=b6 e.own n (by have:=hs.own;omega)
 have hD:=kn e.own n (by have:=hs.own;omega)
 have hsb:=hs.subs
 have hso:=hs.own
 have hbd:=fQ e.own n
 have hf:=Ij (e:=e) (n:=n)
 have ht:= @Ik e n
 have hok:Du e n=(af e && decide (e.state=2) && decide (0<=aG e.own n)):=rfl
 obtain⟨R,hR⟩:∃ R,R=iA e n:=⟨_,rfl⟩
 rw [<-hR] at hf ht
 rw [<-hR]
 clear hR
 refine gU Tryz.func244 Tryz.ntmps244 Tryz.results244 fun E hE=>?_
 refine qK (hC) (qI 0 7) ?_
 refine qK (hA) (qI 0 1) ?_
 rcases hbd with hi0|⟨hi0,hi1⟩
 ·rw [hf (by rw [hok,hi0];simp)]
  rw [hi0]
  refine qX ?_
  refine qK (hK) (qI 0 7) ?_
  refine qB (fun h1=>?_) fun h1=>?_
  ·refine qB (fun h2=>?_) fun h2=>?_
   ·refine qX ?_
    exact dk (qI 0 7++qI 9 7++qO 1)
   refine qX ?_
   exact dk (qI 0 7++qI 9 7++qO 1)
  refine qX ?_
  exact dk (qI 0 7++qI 9 7++qO 1)
 obtain⟨i,hi⟩:=Int.eq_ofNat_of_zero_le hi0
 have hil:i < e.own.length:=by omega
 rw [hi]
 refine qX ?_
 refine qK (hK) (qI 0 7) ?_
 refine qB (fun h1=>?_) fun h1=>?_
 ·refine qB (fun h2=>?_) fun h2=>?_
  ·have hR:=ht (by rw [hok,h1,h2,hi];simp) hi hil
   have hdl:(be e.own n).1.length<=e.own.length:=by rw [mG hi];simp;omega
   have hgo:=aT (enc:=AddrD.cs) hil
   generalize hv:e.own[i].addr=v at hR
   try simp (disch:=omega) only [go_sem,seval,hgo,hv]
   refine qK (hD) (qI 0 1) ?_
   refine qK (o1 e.done n (by have:=Fe h1;omega)) (qI 5 1) ?_
   refine ju 7 hE (fun s (k:Nat)=>s.at (qU [0,1,2,1,7,1,9,1,13,40,55,17]) [(54,.sc (.int .i64 (k:Nat)))] (s.hp.set 11 (some ⟨(cd (Dt v) e.subs k).map SubD.cs,10,101,true,true⟩))) (fun (k:Nat)=>k<=e.subs.length) (fun (k:Nat)=>e.subs.length - k) 0 (qI 0 19) (qC) (Nat.zero_le _) (ab (by rfl) (by rfl) ?_) fun k hk N hN=>?_
   ·refine qX ?_
    rw [uC]
   refine ac 400 ?_
   have hgl:(cd (Dt v) e.subs k).length=e.subs.length:=xh
   refine qX ?_
   refine qB (fun h=>?_) fun h=>?_
   ·have hg:=xi (f:=Dt v) h
    try simp (disch:=omega) only [go_sem,seval,hg]
    refine qB (fun h9=>?_) fun h9=>?_
    ·refine qX ?_
     refine⟨qC,hN _ (k+1) (qI 0 19) (by (try dsimp only);exact by omega) (by (try dsimp only);omega) (ab (by rfl) (by rfl) ?_)⟩
     refine qX ?_
     rw [<-xj h,List.map_set]
     simp [Dt,h9,hg,SubD.cs]
    refine qX ?_
    refine⟨qC,hN _ (k+1) (qI 0 19) (by (try dsimp only);exact by omega) (by (try dsimp only);omega) (ab (by rfl) (by rfl) ?_)⟩
    refine qX ?_
    rw [uB h (by rw [Dt,if_neg h9])]
   have hkl:k=e.subs.length:=by omega
   subst hkl
   rw [xk]
   have hdl2:(e.subs.map (Dt v)).length<=1048576:=by rw [List.length_map];exact hsb
   have hO:=m2 { e with own:=(be e.own n).1,done:=gf e.done n,subs:=e.subs.map (Dt v) } hdl2
   have hlen:(e.subs.map (Dt v)).length=e.subs.length:=List.length_map ..
   generalize hDD:e.subs.map (Dt v)=D at*
   clear hDD
   rw [<-hlen]
   refine qX ?_
   refine qK (hO) (qI 17 1++qI 10 4++qI 18 1++qI 15 1) ?_
   have honl:=pO D
   refine tD 7 hE (fun s (y:Nat×List LetterD)=>s.at (qU [0,1,2,1,7,3,12,61,76,22]) [(75,.sc (.int .i64 (y.1:Nat))),(10,.sc (.sl 20 0 y.2.length))] ((s.hp.take 20)++[some ⟨y.2.map LetterD.cs,19,48,true,true⟩])) (fun (y:Nat×List LetterD)=>y.1<=(j0 D).length/\y.2.length<=y.1/\R=({ e with own:=(be e.own n).1,done:=gf e.done n,subs:=D },y.2++((j0 D).drop y.1).map fun k=>Bj n (aN D k))) (fun (y:Nat×List LetterD)=>(j0 D).length - y.1) (0,[]) (qI 0 20++qO 1) (⟨Nat.zero_le _,Nat.zero_le _,hR⟩) fun y hy N2 hN2=>?_
   obtain⟨q,l⟩:=y
   obtain⟨g1,g2,g3⟩:=hy
   dsimp only at g1 g2 g3
   refine qR ?_
   refine qB (fun b=>?_) fun b=>?_
   ·have hkq:=yD b
    rw [List.drop_eq_getElem_cons b,List.map_cons] at g3
    have hgq:=aT (enc:=pM) b
    generalize hk0:(j0 D)[q]=k0 at*
    rw [bW hkq] at g3
    have hgs:=aT (enc:=SubD.cs) hkq
    generalize hss:D[k0]=s0 at*
    have hB:=a0 s0.road { ah with kind:=10,sgn:=s0.give,id:=n }
    try simp (disch:=omega) only [go_sem,seval,hgq,hk0,pM]
    refine qD [0,1,2,3,4,5,6,7,8,9,10,11,12,13,14,15,16,17,18] ?_
    try simp (disch:=omega) only [go_sem,seval,hgs,hss]
    refine aQ (hB) [] ?_
    refine qG ?_
    refine⟨qC,hN2 _ (q+1,l++[Bj n s0]) (qI 0 20++qI 22 1) (by (try dsimp only);exact⟨by omega,by simp;omega,by simpa using g3⟩) (by (try dsimp only);omega) (ab (by rfl) (by rfl) ?_)⟩
    refine qX ?_
    rw [List.map_append]
    rfl
   rw [List.drop_eq_nil_of_le (by omega),List.map_nil,List.append_nil] at g3
   subst g3
   refine qX ?_
   exact dk (qI 0 7++qI 17 1++qI 10 4++qI 18 1++qI 15 1++qI 20 1)
  rw [hf (by rw [hok];simp [h2])]
  refine qX ?_
  exact dk (qI 0 7++qI 9 7++qO 1)
 rw [hf (by rw [hok];simp [h1])]
 refine qX ?_
 exact dk (qI 0 7++qI 9 7++qO 1)
theorem v8 (e:EndD) (n:Int) (hs:Small e):aP 255 [.ag (e.cs 0),.sc (.int .i64 n)] (e.hp false) (.tu [.ag ((iA e n).1.cs 7),.sc (.sl 14 0 (iA e n).2.length)])
  (e.hp false++((iA e n).1.hp true++[some ⟨(iA e n).2.map LetterD.cs,19,48,true,true⟩])):=by
 have hC:=(qH (aj e))
 have hK:=(qH (au e))
 have hA:=cm e.own n (by have:=hs.own;omega)
 have hD:=nN e.own n (by have:=hs.own;omega)
 have hsb:=hs.subs
 have hso:=hs.own
 have hbd:=fQ e.own n
 have hf:=Ij (e:=e) (n:=n)
 have ht:= @Ik e n
 have hok:Du e n=(af e && decide (e.state=2) && decide (0<=aG e.own n)):=rfl
 obtain⟨R,hR⟩:∃ R,R=iA e n:=⟨_,rfl⟩
 rw [<-hR] at hf ht
 rw [<-hR]
 clear hR
 refine gU Tryz.func255 Tryz.ntmps255 Tryz.results255 fun E hE=>?_
 refine qK (hC) (qI 0 7) ?_
 refine qK (hA) (qI 0 1) ?_
 rcases hbd with hi0|⟨hi0,hi1⟩
 ·rw [hf (by rw [hok,hi0];simp)]
  rw [hi0]
  refine qX ?_
  refine qK (hK) (qI 0 7) ?_
  refine qB (fun h1=>?_) fun h1=>?_
  ·refine qB (fun h2=>?_) fun h2=>?_
   ·refine qX ?_
    exact dk (qI 0 7++qI 9 7++qI 17 1)
   refine qX ?_
   exact dk (qI 0 7++qI 9 7++qI 17 1)
  refine qX ?_
  exact dk (qI 0 7++qI 9 7++qI 17 1)
 obtain⟨i,hi⟩:=Int.eq_ofNat_of_zero_le hi0
 have hil:i < e.own.length:=by omega
 rw [hi]
 refine qX ?_
 refine qK (hK) (qI 0 7) ?_
 refine qB (fun h1=>?_) fun h1=>?_
 ·refine qB (fun h2=>?_) fun h2=>?_
  ·have hR:=ht (by rw [hok,h1,h2,hi];simp) hi hil
   have hdl:(be e.own n).1.length<=e.own.length:=by rw [mG hi];simp;omega
   have hgo:=aT (enc:=AddrD.cs) hil
   generalize hv:e.own[i].addr=v at hR
   try simp (disch:=omega) only [go_sem,seval,hgo,hv]
   refine qK (rI e.done n (by have:=Fe h1;omega)) (qI 5 1) ?_
   refine qK (hD) (qI 0 1) ?_
   refine ju 7 hE (fun s (k:Nat)=>s.at (qU [0,1,13,60]) [(9,.sc (.int .i64 (k:Nat)))] (s.hp.set 11 (some ⟨(cd (Dt v) e.subs k).map SubD.cs,10,101,true,true⟩))) (fun (k:Nat)=>k<=e.subs.length) (fun (k:Nat)=>e.subs.length - k) 0 (qI 0 20) (qC) (Nat.zero_le _) (ab (by rfl) (by rfl) ?_) fun k hk N hN=>?_
   ·refine qX ?_
    rw [uC]
   refine ac 400 ?_
   have hgl:(cd (Dt v) e.subs k).length=e.subs.length:=xh
   refine qX ?_
   refine qB (fun h=>?_) fun h=>?_
   ·have hg:=xi (f:=Dt v) h
    try simp (disch:=omega) only [go_sem,seval,hg]
    refine qD [0,1,2,3,4,5,6,7,8,9,10,11,12,13] ?_
    refine⟨qC,ac 400 ?_⟩
    try simp (disch:=omega) only [go_sem,seval,hg,hgo,hv]
    refine qB (fun h9=>?_) fun h9=>?_
    ·refine qX ?_
     refine⟨qC,hN _ (k+1) (qI 0 20) (by (try dsimp only);exact by omega) (by (try dsimp only);omega) (ab (by rfl) (by rfl) ?_)⟩
     refine qX ?_
     rw [<-xj h,List.map_set]
     simp [Dt,h9,hg,SubD.cs]
    refine qX ?_
    refine⟨qC,hN _ (k+1) (qI 0 20) (by (try dsimp only);exact by omega) (by (try dsimp only);omega) (ab (by rfl) (by rfl) ?_)⟩
    refine qX ?_
    rw [uB h (by rw [Dt,if_neg h9])]
   have hkl:k=e.subs.length:=by omega
   subst hkl
   rw [xk]
   have hdl2:(e.subs.map (Dt v)).length<=1048576:=by rw [List.length_map];exact hsb
   have hO:=oK { e with own:=(be e.own n).1,done:=gf e.done n,subs:=e.subs.map (Dt v) } hdl2
   have hlen:(e.subs.map (Dt v)).length=e.subs.length:=List.length_map ..
   generalize hDD:e.subs.map (Dt v)=D at*
   clear hDD
   rw [<-hlen]
   refine qX ?_
   refine qK (hO) (qI 19 1++qI 10 4++qI 18 1++qI 15 1) ?_
   have honl:=pO D
   refine tD 7 hE (fun s (y:Nat×List LetterD)=>s.at (qU [0,1,2,1,8,2,12,87]) [(11,.sc (.int .i64 (y.1:Nat))),(7,.sc (.sl 17 0 y.2.length))] (s.hp.set 17 (some ⟨y.2.map LetterD.cs,19,48,true,true⟩))) (fun (y:Nat×List LetterD)=>y.1<=(j0 D).length/\y.2.length<=y.1/\R=({ e with own:=(be e.own n).1,done:=gf e.done n,subs:=D },y.2++((j0 D).drop y.1).map fun k=>Bj n (aN D k))) (fun (y:Nat×List LetterD)=>(j0 D).length - y.1) (0,[]) (qI 0 21) (⟨Nat.zero_le _,Nat.zero_le _,hR⟩) fun y hy N2 hN2=>?_
   obtain⟨q,l⟩:=y
   obtain⟨g1,g2,g3⟩:=hy
   dsimp only at g1 g2 g3
   refine qR ?_
   refine qB (fun b=>?_) fun b=>?_
   ·have hkq:=yD b
    rw [List.drop_eq_getElem_cons b,List.map_cons] at g3
    have hgq:=aT (enc:=pM) b
    generalize hk0:(j0 D)[q]=k0 at*
    rw [bW hkq] at g3
    have hgs:=aT (enc:=SubD.cs) hkq
    generalize hss:D[k0]=s0 at*
    have hB:=aw s0.road { ah with kind:=10,sgn:=s0.give,id:=n }
    refine qX ?_
    refine qD [0,1,2,3,4,5,6,7,8,9] ?_
    try simp (disch:=omega) only [go_sem,seval,hgq,hk0,pM,hgs,hss]
    refine qG ?_
    refine qK (hB) [] ?_
    refine⟨qC,hN2 _ (q+1,l++[Bj n s0]) (qI 0 17++qI 23 1++qI 18 3) (by (try dsimp only);exact⟨by omega,by simp;omega,by simpa using g3⟩) (by (try dsimp only);omega) (ab (by rfl) (by rfl) ?_)⟩
    refine qX ?_
    rw [List.map_append]
    rfl
   rw [List.drop_eq_nil_of_le (by omega),List.map_nil,List.append_nil] at g3
   subst g3
   refine qX ?_
   exact dk (qI 0 7++qI 19 1++qI 10 4++qI 18 1++qI 15 1++qI 17 1)
  rw [hf (by rw [hok];simp [h2])]
  refine qX ?_
  exact dk (qI 0 7++qI 9 7++qI 17 1)
 rw [hf (by rw [hok];simp [h1])]
 refine qX ?_
 exact dk (qI 0 7++qI 9 7++qI 17 1)
def r7 (x:LetterD):List Int:=[x.key,x.nonce,x.give,x.sgn]
def p8 (w:WorldD) (n:Int):Bool:=decide (n < 1000) || mq w.nums n
theorem v9 (w:WorldD) (x:LetterD):xa w x=(dZ x && !decide (sideAt x.to=0) && f7 w.known x.tag && (r7 x).all (p8 w)):=rfl
theorem p9 (w:WorldD) (x:LetterD) (h0:w.known.keys.length<=1048576) (h1:w.known.tags.length<=1048576) (h2:w.nums.length<=1048576):aP 12 [.ag (w.cs 0),.ag x.cs] (w.hp false) (.sc (.bo (xa w x))) (w.hp false):=by
 have hL:=a1 x
 have hS:=d1 x.to
 have hK:=ns w.known x.tag h0 h1
 obtain⟨R,hR⟩:∃ R,R=xa w x:=⟨_,rfl⟩
 rw [<-hR]
 rw [v9] at hR
 refine qE Tryz.func12 Tryz.ntmps12 Tryz.results12 fun E hE=>?_
 refine qK (hL) [] ?_
 refine qB (fun c1=>?_) fun c1=>?_
 ·refine qK (hS) [] ?_
  refine qB (fun c2=>?_) fun c2=>?_
  ·refine qK (hK) (qI 16 2) ?_
   refine qB (fun c3=>?_) fun c3=>?_
   ·rw [c3] at hR
    simp only [Bool.and_false,Bool.false_and] at hR
    subst hR
    refine qX ?_
    exact qF (qI 0 21)
   rw [c1,c3,decide_eq_false c2] at hR
   simp only [Bool.not_false,Bool.true_and,Bool.and_true] at hR
   refine qX ?_
   refine jx 21 hE (fun s (i:Nat)=>s.at (qU [0,2,3,2,6,26,35,13]) [(34,.sc (.int .i64 (i:Nat)))] (s.hp)) (fun (i:Nat)=>i<=4/\R=((r7 x).drop i).all (p8 w)) (fun (i:Nat)=>4 - i) 0 (qI 0 24) (⟨by omega,hR⟩) fun i hi N hN=>?_
   obtain⟨g1,g2⟩:=hi
   refine qR ?_
   split<;>rename_i b<;>(try simp only [decide_eq_true_eq,decide_eq_false_iff_not,Int.ofNat_lt] at b)
   rotate_left
   ·rw [List.drop_eq_nil_of_le (by simp only [r7,List.length_cons,List.length_nil];omega),List.all_nil] at g2
    subst g2
    refine qX ?_
    exact qF (qI 0 21)
   have hi4:i < (r7 x).length:=by simp only [r7,List.length_cons,List.length_nil];omega
   rw [xl hi4] at g2
   generalize hv:(r7 x)[i]=v at g2
   have hg:([[.int .i64 x.key],[.int .i64 x.nonce],[.int .i64 x.give],[.int .i64 x.sgn]]:List (List Sc))[i]? =some (aM v):=by
    rw [<-hv]
    rw [show ([[.int .i64 x.key],[.int .i64 x.nonce],[.int .i64 x.give],[.int .i64 x.sgn]]:List (List Sc))=(r7 x).map aM from rfl]
    exact aT hi4
   simp only [aM] at hg
   have hH:=ct w.nums v h2
   try simp (disch:=omega) only [go_sem,seval,hg]
   refine qB (fun b1=>?_) fun b1=>?_
   ·refine qK (hH) (qI 18 1) ?_
    refine qB (fun b2=>?_) fun b2=>?_
    ·rw [show p8 w v=false by rw [p8,b2,decide_eq_false (by omega)];rfl,Bool.false_and] at g2
     subst g2
     refine qX ?_
     exact qF (qI 0 21)
    rw [show p8 w v=true by rw [p8,b2,Bool.or_true],Bool.true_and] at g2
    refine qX ?_
    exact qN hN (i+1) (qI 0 24) (by (try dsimp only);exact⟨by omega,g2⟩)
   rw [show p8 w v=true by rw [p8,decide_eq_true (by omega)];rfl,Bool.true_and] at g2
   refine qX ?_
   exact qN hN (i+1) (qI 0 24) (by (try dsimp only);exact⟨by omega,g2⟩)
  rw [decide_eq_true c2] at hR
  simp only [Bool.not_true,Bool.and_false,Bool.false_and] at hR
  subst hR
  refine qX ?_
  exact qF (qI 0 21)
 rw [c1] at hR
 simp only [Bool.false_and] at hR
 subst hR
 refine qX ?_
 exact qF (qI 0 21)
theorem Ff (w:WorldD) (x:LetterD) (h0:w.known.keys.length<=1048576) (h1:w.known.tags.length<=1048576) (h2:w.nums.length<=1048576):aP 13 [.ag (w.cs 0),.ag x.cs] (w.hp false) (.sc (.bo (xa w x))) (w.hp false):=by
 have hL:=bT x
 have hS:=cV x.to
 have hK:=qc w.known x.tag h0 h1
 obtain⟨R,hR⟩:∃ R,R=xa w x:=⟨_,rfl⟩
 rw [<-hR]
 rw [v9] at hR
 refine qE Tryz.func13 Tryz.ntmps13 Tryz.results13 fun E hE=>?_
 refine qK (hL) [] ?_
 refine qB (fun c1=>?_) fun c1=>?_
 ·refine qK (hS) [] ?_
  refine qB (fun c2=>?_) fun c2=>?_
  ·refine qK (hK) (qI 16 2) ?_
   refine qB (fun c3=>?_) fun c3=>?_
   ·rw [c3] at hR
    simp only [Bool.and_false,Bool.false_and] at hR
    subst hR
    refine qX ?_
    exact qF (qI 0 21)
   rw [c1,c3,decide_eq_false c2] at hR
   simp only [Bool.not_false,Bool.true_and,Bool.and_true] at hR
   refine qX ?_
   refine jx 21 hE (fun s (i:Nat)=>s.at (qU [0,2,3,2,7,47]) [(6,.sc (.int .i64 (i:Nat)))] (s.hp)) (fun (i:Nat)=>i<=4/\R=((r7 x).drop i).all (p8 w)) (fun (i:Nat)=>4 - i) 0 (qI 0 24) (⟨by omega,hR⟩) fun i hi N hN=>?_
   obtain⟨g1,g2⟩:=hi
   refine qR ?_
   split<;>rename_i b<;>(try simp only [decide_eq_true_eq,decide_eq_false_iff_not,Int.ofNat_lt] at b)
   rotate_left
   ·rw [List.drop_eq_nil_of_le (by simp only [r7,List.length_cons,List.length_nil];omega),List.all_nil] at g2
    subst g2
    refine qX ?_
    exact qF (qI 0 21)
   have hi4:i < (r7 x).length:=by simp only [r7,List.length_cons,List.length_nil];omega
   rw [xl hi4] at g2
   generalize hv:(r7 x)[i]=v at g2
   have hg:([[.int .i64 x.key],[.int .i64 x.nonce],[.int .i64 x.give],[.int .i64 x.sgn]]:List (List Sc))[i]? =some (aM v):=by
    rw [<-hv]
    rw [show ([[.int .i64 x.key],[.int .i64 x.nonce],[.int .i64 x.give],[.int .i64 x.sgn]]:List (List Sc))=(r7 x).map aM from rfl]
    exact aT hi4
   simp only [aM] at hg
   have hH:=eA w.nums v h2
   refine qX ?_
   refine qD [0,1,2,3,4,5,6,7,8,9,10,11,12,13,14] ?_
   try simp (disch:=omega) only [go_sem,seval,hg]
   refine qB (fun b1=>?_) fun b1=>?_
   ·try simp (disch:=omega) only [go_sem,seval,hg]
    refine aQ (hH) (qI 18 1) ?_
    refine qG ?_
    refine qB (fun b2=>?_) fun b2=>?_
    ·rw [show p8 w v=false by rw [p8,b2,decide_eq_false (by omega)];rfl,Bool.false_and] at g2
     subst g2
     refine qX ?_
     exact qF (qI 0 21)
    rw [show p8 w v=true by rw [p8,b2,Bool.or_true],Bool.true_and] at g2
    refine qX ?_
    exact qN hN (i+1) (qI 0 24) (by (try dsimp only);exact⟨by omega,g2⟩)
   rw [show p8 w v=true by rw [p8,decide_eq_true (by omega)];rfl,Bool.true_and] at g2
   refine qG ?_
   exact qN hN (i+1) (qI 0 24) (by (try dsimp only);exact⟨by omega,g2⟩)
  rw [decide_eq_true c2] at hR
  simp only [Bool.not_true,Bool.and_false,Bool.false_and] at hR
  subst hR
  refine qX ?_
  exact qF (qI 0 21)
 rw [c1] at hR
 simp only [Bool.false_and] at hR
 subst hR
 refine qX ?_
 exact qF (qI 0 21)
theorem Il {e:EndD} {k:Int} {n:Nat} (h:EE e k=true) (hk:k=(n:Int)) (hn:n < e.subs.length):
  ks e k=({ e with subs:=bP e.subs n 4 },[aq e.subs[n].road { ah with kind:=13,sgn:=e.subs[n].give }]):=by
 rw [ks,if_pos h,hk,Int.toNat_natCast,bW hn]
theorem Im {e:EndD} {k:Int} (h:EE e k=false):ks e k=(e,[]):=by rw [ks,if_neg (by simp [h])]
theorem H5 {e:EndD} {n:Nat} (hn:n < e.subs.length):EE e (n:Int)=(af e && decide (e.subs[n].state=3)):=by
 rw [EE,Int.toNat_natCast,bW hn,show bj (n:Int) 0 ((e.subs.length:Int) - 1)=true by simp only [bj,Bool.and_eq_true,decide_eq_true_eq];omega,Bool.and_true]
theorem Hv {e:EndD} {k:Int} (h:bj k 0 ((e.subs.length:Int) - 1)=false):EE e k=false:=by simp [EE,h]
theorem Fg (e:EndD) (k:Int) (hs:Small e):aP 245 [.ag (e.cs 0),.sc (.int .i64 k)] (e.hp false) (.tu [.ag ((ks e k).1.cs 7),.sc (.sl 14 0 (ks e k).2.length)])
  (e.hp false++((ks e k).1.hp true++[some ⟨(ks e k).2.map LetterD.cs,19,48,true,true⟩])):=by
 have hC:=(qH (jF e))
 have hK:=(qH (ap e))
 have hsub:=hs.subs
 have hf:=Im (e:=e) (k:=k)
 have ht:= @Il e k
 have hI:=Bg k 0 ((e.subs.length:Int) - 1)
 refine gU Tryz.func245 Tryz.ntmps245 Tryz.results245 fun E hE=>?_
 refine qK (hC) (qI 0 7) ?_
 refine qK (hK) (qI 0 7) ?_
 refine qB (fun b1=>?_) fun b1=>?_
 ·refine qK (hI) [] ?_
  cases hin:bj k 0 ((e.subs.length:Int) - 1) with
  |false=>
   rw [hf (Hv hin)]
   refine qX ?_
   exact dk (qI 0 7++qI 9 7++qO 1)
  |true=>
   simp only [bj,Bool.and_eq_true,decide_eq_true_eq] at hin
   obtain⟨n,rfl⟩:=Int.eq_ofNat_of_zero_le hin.1
   have hn:n < e.subs.length:=by omega
   have hg:=aT (enc:=SubD.cs) hn
   have hok:=H5 (e:=e) hn
   rw [b1,Bool.true_and] at hok
   try simp (disch:=omega) only [go_sem,seval,hg]
   refine qB (fun b2=>?_) fun b2=>?_
   ·rw [hf (by rw [hok];simp [b2])]
    refine qX ?_
    exact dk (qI 0 7++qI 9 7++qO 1)
   rw [ht (by rw [hok];simp [b2]) rfl hn]
   have hset:bP e.subs n 4=e.subs.set n { e.subs[n] with state:=4 }:=by rw [bP,bW hn]
   rw [hset]
   have hms:=Gk (f:=SubD.cs) (l:=e.subs) (k:=n) (v:={ e.subs[n] with state:=4 }) rfl
   simp only [SubD.cs] at hms
   try simp (disch:=omega) only [go_sem,seval,hg]
   refine cG [(15,16)] [] [(qU [0,18]),(qU [0,15,16,1,15,1,17,1])] 7 hE (fun s=>s.at (qU [36,16]) [(5,.sc (.sl 17 0 1))] ((s.hp.set 8 (some ⟨[[.int .i64 e.side,.int .i64 e.state,.int .i64 e.key,.int .i64 e.peer,.int .i64 e.policy.kind,.int .i64 e.policy.many,.sl 9 0 e.own.length,.sl 10 0 e.far.length,.sl 11 0 e.subs.length,.sl 12 0 e.halfs.length,.int .i64 e.bucket.rate,.int .i64 e.bucket.burst,.int .i64 e.bucket.cur,.st e.out.text,.int .i64 e.out.base,.int .i64 e.out.sent,.int .i64 e.out.room,.int .i64 e.inp.read,.st e.inp.ready,.sl 13 0 e.inp.list.length,.sl 14 0 e.done.length,.sl 15 0 e.over.length,.int .i64 e.draw,.int .i64 e.now,.int .i64 e.pick]],25,38,true,false⟩))++[some ⟨[(aq e.subs[n].road { ah with kind:=13,sgn:=e.subs[n].give }).cs],19,48,true,true⟩])) (by kernel_rfl) (qC) (by kernel_rfl) ?_ (ac 400 ?_)
   rotate_left
   rotate_right
   simp only [bm]
   refine⟨aa 400 ?_,aa 400 ?_⟩
   ·simp (disch:=omega) only [go_sem,hg]
    refine aQ (a0 e.subs[n].road { ah with kind:=13,sgn:=e.subs[n].give }) [] ?_
    refine⟨qC,(qI 0 18),ab (by rfl) (by rfl) ?_⟩
    try simp (disch:=omega) only [go_sem,seval]
    try rfl
   ·simp (disch:=omega) only [go_sem,hg]
    refine aQ (a0 e.subs[n].road { ah with kind:=13,sgn:=e.subs[n].give }) [] ?_
    refine⟨qC,(qI 0 18),ab (by rfl) (by rfl) ?_⟩
    try simp (disch:=omega) only [go_sem,seval]
    try rfl
   refine qX ?_
   refine fL (qI 0 7++qI 9 7++qI 17 1) (qC) _ (by simp only [go_sem];rfl) (by rfl) (by rfl) ?_
   simp (disch:=omega) only [go_sem,seval]
   exact⟨by simp,hms⟩
 rw [hf (by simp [EE,b1])]
 refine qX ?_
 exact dk (qI 0 7++qI 9 7++qO 1)
theorem rs (e:EndD) (a:AddrD) (hs:Small e):aP 243 [.ag (e.cs 0),.ag a.cs] (e.hp false) (.tu [.ag ((az e a).1.cs 7),.sc (.bo (az e a).2)]) (e.hp false++(az e a).1.hp true):=by
 have hC:=(qH (jF e))
 have hK:=(qH (ap e))
 have hA:=b6 e.own a.id (by have:=hs.own;omega)
 have hH:=ct e.done a.id (by have:=hs.done;omega)
 have hP:=fun h=>eo e.own { a with told:=false } h
 have hf:=EJ (e:=e) (a:=a)
 have ht:=EK (e:=e) (a:=a)
 have ht2:=Dx (e:=e) (a:=a)
 have hok:AR e a=(af e && decide (aG e.own a.id < 0) && !mq e.done a.id):=rfl
 generalize az e a=R at*
 generalize aJ e.own { a with told:=false }=pa at*
 obtain⟨own1,ok1⟩:=pa
 dsimp only at hP ht ht2
 refine gU Tryz.func243 Tryz.ntmps243 Tryz.results243 fun E hE=>?_
 refine qK (hC) (qI 0 7) ?_
 refine qK (hK) (qI 0 7) ?_
 refine qB (fun b1=>?_) fun b1=>?_
 ·refine qK (hA) (qI 0 1) ?_
  refine qB (fun b2=>?_) fun b2=>?_
  ·refine qK (hH) (qI 5 1) ?_
   refine qB (fun b3=>?_) fun b3=>?_
   ·rw [hf (by rw [hok];simp [b3])]
    refine qX ?_
    exact dk (qI 0 7++qI 10 7)
   rw [ht (by rw [hok,b1,decide_eq_true (by omega),b3];rfl)]
   have hP:=hP (by have:=xn b1;omega)
   refine qX ?_
   refine qK (hP) (qI 0 1) ?_
   exact dk (qI 0 7++qI 18 1++qI 11 6)
  rw [hf (by rw [hok,decide_eq_false (by omega)];simp)]
  refine qX ?_
  exact dk (qI 0 7++qI 10 7)
 rw [hf (by simp [hok,b1])]
 refine qX ?_
 exact dk (qI 0 7++qI 10 7)
theorem Fh (e:EndD) (k:Int) (hs:Small e):aP 256 [.ag (e.cs 0),.sc (.int .i64 k)] (e.hp false) (.tu [.ag ((ks e k).1.cs 7),.sc (.sl 14 0 (ks e k).2.length)])
  (e.hp false++((ks e k).1.hp true++[some ⟨(ks e k).2.map LetterD.cs,19,48,true,true⟩])):=by
 have hC:=(qH (aj e))
 have hK:=(qH (au e))
 have hsub:=hs.subs
 have hf:=Im (e:=e) (k:=k)
 have ht:= @Il e k
 have hI:=ak k 0 ((e.subs.length:Int) - 1)
 refine gU Tryz.func256 Tryz.ntmps256 Tryz.results256 fun E hE=>?_
 refine qK (hC) (qI 0 7) ?_
 refine qK (hK) (qI 0 7) ?_
 refine qB (fun b1=>?_) fun b1=>?_
 ·refine qK (hI) [] ?_
  cases hin:bj k 0 ((e.subs.length:Int) - 1) with
  |false=>
   rw [hf (Hv hin)]
   refine qX ?_
   exact dk (qI 0 7++qI 9 7++qI 17 1)
  |true=>
   simp only [bj,Bool.and_eq_true,decide_eq_true_eq] at hin
   obtain⟨n,rfl⟩:=Int.eq_ofNat_of_zero_le hin.1
   have hn:n < e.subs.length:=by omega
   have hg:=aT (enc:=SubD.cs) hn
   have hok:=H5 (e:=e) hn
   rw [b1,Bool.true_and] at hok
   try simp (disch:=omega) only [go_sem,seval,hg]
   refine qB (fun b2=>?_) fun b2=>?_
   ·rw [hf (by rw [hok];simp [b2])]
    refine qX ?_
    exact dk (qI 0 7++qI 9 7++qI 17 1)
   rw [ht (by rw [hok];simp [b2]) rfl hn]
   have hset:bP e.subs n 4=e.subs.set n { e.subs[n] with state:=4 }:=by rw [bP,bW hn]
   rw [hset]
   have hms:=Gk (f:=SubD.cs) (l:=e.subs) (k:=n) (v:={ e.subs[n] with state:=4 }) rfl
   simp only [SubD.cs] at hms
   try simp (disch:=omega) only [go_sem,seval,hg]
   refine cG [(0,17),(15,0),(16,0)] [(15,16),(15,17),(16,17)] [(qU [1,16,0,1,17,3]),(qU [1,15,0,1,16,4]),(qU [1,14,0,1,15,5]),(qU [1,17,0,1,18,2])] 7 hE (fun s=>s.at (qU [7,1,39,18]) [(5,.sc (.sl 18 0 1))] (((s.hp.set 8 (some ⟨[[.int .i64 e.side,.int .i64 e.state,.int .i64 e.key,.int .i64 e.peer,.int .i64 e.policy.kind,.int .i64 e.policy.many,.sl 9 0 e.own.length,.sl 10 0 e.far.length,.sl 11 0 e.subs.length,.sl 12 0 e.halfs.length,.int .i64 e.bucket.rate,.int .i64 e.bucket.burst,.int .i64 e.bucket.cur,.st e.out.text,.int .i64 e.out.base,.int .i64 e.out.sent,.int .i64 e.out.room,.int .i64 e.inp.read,.st e.inp.ready,.sl 13 0 e.inp.list.length,.sl 14 0 e.done.length,.sl 15 0 e.over.length,.int .i64 e.draw,.int .i64 e.now,.int .i64 e.pick]],25,38,true,false⟩)).set 17 none)++[some ⟨[(aq e.subs[n].road { ah with kind:=13,sgn:=e.subs[n].give }).cs],19,48,true,true⟩])) (by kernel_rfl) (qC) (by kernel_rfl) ?_ (ac 400 ?_)
   rotate_left
   rotate_right
   simp only [bm]
   refine⟨aa 400 ?_,aa 400 ?_,aa 400 ?_,aa 400 ?_⟩
   ·simp (disch:=omega) only [go_sem,hg]
    refine aQ (aw e.subs[n].road { ah with kind:=13,sgn:=e.subs[n].give }) [] ?_
    refine⟨qC,(qI 0 18++qI 19 1),ab (by rfl) (by rfl) ?_⟩
    try simp (disch:=omega) only [go_sem,seval]
    try rfl
   ·simp (disch:=omega) only [go_sem,hg]
    refine aQ (aw e.subs[n].road { ah with kind:=13,sgn:=e.subs[n].give }) [] ?_
    refine⟨qC,(qI 0 18++qI 19 1),ab (by rfl) (by rfl) ?_⟩
    try simp (disch:=omega) only [go_sem,seval]
    try rfl
   ·simp (disch:=omega) only [go_sem,hg]
    refine aQ (aw e.subs[n].road { ah with kind:=13,sgn:=e.subs[n].give }) [] ?_
    refine⟨qC,(qI 0 18++qI 19 1),ab (by rfl) (by rfl) ?_⟩
    try simp (disch:=omega) only [go_sem,seval]
    try rfl
   ·simp (disch:=omega) only [go_sem,hg]
    refine aQ (aw e.subs[n].road { ah with kind:=13,sgn:=e.subs[n].give }) [] ?_
    refine⟨qC,(qI 0 18++qI 19 1),ab (by rfl) (by rfl) ?_⟩
    try simp (disch:=omega) only [go_sem,seval]
    try rfl
   refine qX ?_
   refine fL (qI 0 7++qI 9 7++qI 18 1) (qC) _ (by simp only [go_sem];rfl) (by rfl) (by rfl) ?_
   simp (disch:=omega) only [go_sem,seval]
   exact⟨by simp,hms⟩
 rw [hf (by simp [EE,b1])]
 refine qX ?_
 exact dk (qI 0 7++qI 9 7++qI 17 1)
theorem s7 (e:EndD) (k:Int):(ks e k).2.length<=1:=by rw [ks];split<;>simp
theorem r6 (e:EndD) (n:Int) (hs:Small e):(iA e n).2.length<=1048576:=by
 rw [iA];split
 ·rw [List.length_map]
  have:=pO (ic e n)
  have h2:(ic e n).length=e.subs.length:=by rw [ic,List.length_map]
  have:=hs.subs
  omega
 simp
theorem FV (w:WorldD) (pos many:Int) (text:List UInt8) (ad:AddrD) (le:LetterD) (hw:SmallD w) (htx:text.length<=1048576):
  aP 164 [.sc (.pt 21 0 0),.ag (ActD.cs ⟨1,1,pos,many,text,ad,le⟩)] (w.hp true++[some ⟨[w.cs 0],61,44,true,false⟩]) (.sc (.int .i64 0))
  ((nH 21++[some ⟨[WorldD.cs (an 1 { w with wroteA:=w.wroteA++text.take (cc w.a text).2,a:=(aA w.a text).1 } (aA w.a text).2) 22],61,44,true,false⟩])++WorldD.hp (an 1 { w with wroteA:=w.wroteA++text.take (cc w.a text).2,a:=(aA w.a text).1 } (aA w.a text).2) true):=by
 have q1:=hw.s.wa
 have q2:=hw.s.wb
 have q3:=hw.s.ra
 have q4:=hw.s.rb
 have hX:=vc w.a text hw.p.s.a htx (jc hw.oa)
 have hsm:=ij (t:=text) hw.p.s.a
 have hlen:=jY w.a text
 have hEA:aP 66 [.ag (w.cs 0),.sc (.int .i64 1)] (w.hp false) (.ag (w.a.cs 21)) (w.hp false++w.a.hp true):=BM w 1 hw.p.s.a.own hw.p.s.a.far hw.p.s.a.subs hw.p.s.a.halfs hw.p.s.a.list hw.p.s.a.done hw.p.s.a.over hw.p.s.b.own hw.p.s.b.far hw.p.s.b.subs hw.p.s.b.halfs hw.p.s.b.list hw.p.s.b.done hw.p.s.b.over
 have hX2:=v1 w.a text hw.p.s.a htx
 have hwl:=sf w.a text
 obtain⟨wr,hwr⟩:∃ p,p=cc w.a text:=⟨_,rfl⟩
 rw [<-hwr] at hX2 hwl⊢
 obtain⟨e0,n0⟩:=wr
 dsimp only at hX2 hwl⊢
 obtain⟨pr,hpr⟩:∃ p,p=aA w.a text:=⟨_,rfl⟩
 rw [<-hpr] at hX hsm hlen⊢
 obtain⟨e1,l1⟩:=pr
 dsimp only at hX hsm hlen⊢
 have hset:=d4 { w with wroteA:=w.wroteA++text.take n0 } e1
 have hpost:=dd { w with wroteA:=w.wroteA++text.take n0,a:=e1 } l1 ⟨hw.p.s.bag,hw.p.s.past,hw.p.s.keys,hw.p.s.tags,hw.p.s.nums,hw.p.s.ansA,hw.p.s.ansB⟩ (by first|omega|simp)
 have hends:=ba (side:=1) (l:=l1) (w:={ w with wroteA:=w.wroteA++text.take n0,a:=e1 })
 obtain⟨R,hR⟩:∃ R,R=an 1 { w with wroteA:=w.wroteA++text.take n0,a:=e1 } l1:=⟨_,rfl⟩
 rw [<-hR] at hpost hends⊢
 clear hR
 obtain⟨ra,rb,bag,past,wA,wB,rA,rB,known,nums,nsA,nsB⟩:=R
 obtain⟨keys,tags⟩:=known
 dsimp only at hends
 obtain⟨g1,g2,g3,g4,g5,g6⟩:=hends
 replace g1:=g1.symm
 replace g2:=g2.symm
 replace g3:=g3.symm
 replace g4:=g4.symm
 replace g5:=g5.symm
 replace g6:=g6.symm
 subst g1 g2 g3 g4 g5 g6
 have htk:(text.take n0).length=n0:=by rw [List.length_take];omega
 refine kc Tryz.func164 (by kernel_rfl) rfl fun E hE=>ac 400 ?_
 simp (disch:=omega) only [Tryz.ntmps164,Tryz.results164,go_sem,seval]
 refine cG [(5,6)] [] [(qU [0,8]),[0,1,2,3,4,6,5,7]] 22 hE (fun s=>s.at (qU [13,6]) [(5,.sc (.pt 30 0 0))] (s.hp++(w.a.hp true++[some ⟨[w.a.cs 23],25,38,true,false⟩]))) (by kernel_rfl) (qC) (by kernel_rfl) ?_ (ac 400 ?_)
 rotate_left
 rotate_right
 simp only [bm]
 refine⟨aa 400 ?_,aa 400 ?_⟩
 ·simp (disch:=omega) only [go_sem]
  refine it (qC) (hEA) (qI 0 21) qM (by rfl) (by rfl) (aa 400 ?_)
  simp (disch:=omega) only [go_sem,seval]
  refine⟨qC,(qI 0 31),ab (by rfl) (by rfl) ?_⟩
  try simp (disch:=omega) only [go_sem,seval]
 ·simp (disch:=omega) only [go_sem]
  refine it (qC) (hEA) (qI 0 21) qM (by rfl) (by rfl) (aa 400 ?_)
  simp (disch:=omega) only [go_sem,seval]
  refine⟨qC,(qI 0 23++qI 24 7++qI 23 1),ab (by rfl) (by rfl) ?_⟩
  try simp (disch:=omega) only [go_sem,seval]
 try simp (disch:=omega) only [go_sem,seval]
 refine bc (qC) (hX2) (qI 23 7) qM (by rfl) (ac 400 ?_)
 simp (disch:=omega) only [go_sem,seval]
 refine bc (qC) (hX) (qI 23 7) qM (by rfl) (ac 400 ?_)
 simp (disch:=omega) only [go_sem,seval]
 refine iu (qU [0,12]) (by kernel_rfl) (qC) (by kernel_rfl) (aa 400 ?_)
 simp (disch:=omega) only [go_sem,seval]
 refine⟨qC,ac 400 ?_⟩
 try simp (disch:=omega) only [go_sem,seval]
 refine bc (qC) (hset) (qI 0 21++qI 39 7++qI 21 1) qM (by rfl) (ac 400 ?_)
 simp (disch:=omega) only [go_sem,seval]
 refine bc (qC) (hpost) (qI 39 7++qI 7 15++qI 46 1) qM (by rfl) (ac 400 ?_)
 simp (disch:=omega) only [go_sem,seval]
 refine fL (qI 0 22++qI 39 7++qI 7 7++qI 47 7) (qC) _ (by simp only [go_sem];rfl) (by rfl) (by rfl) ?_
 simp (disch:=omega) only [go_sem,seval]
theorem FW (w:WorldD) (pos many:Int) (text:List UInt8) (ad:AddrD) (le:LetterD) (hw:SmallD w) (htx:text.length<=1048576) (hsd:sideAt ad.addr=1) (hgood:(az w.a ad).2=true):
  aP 164 [.sc (.pt 21 0 0),.ag (ActD.cs ⟨5,1,pos,many,text,ad,le⟩)] (w.hp true++[some ⟨[w.cs 0],61,44,true,false⟩]) (.sc (.int .i64 0))
  ((nH 21++[some ⟨[WorldD.cs (an 1 { w with a:=((az w.a ad).1,([]:List LetterD)).1 } ((az w.a ad).1,([]:List LetterD)).2) 22],61,44,true,false⟩])++WorldD.hp (an 1 { w with a:=((az w.a ad).1,([]:List LetterD)).1 } ((az w.a ad).1,([]:List LetterD)).2) true):=by
 have q1:=hw.s.wa
 have q2:=hw.s.wb
 have q3:=hw.s.ra
 have q4:=hw.s.rb
 have hX:=rs w.a ad hw.p.s.a
 have hsm:=dU (a:=ad) hw.p.s.a
 have hEA:aP 66 [.ag (w.cs 0),.sc (.int .i64 1)] (w.hp false) (.ag (w.a.cs 21)) (w.hp false++w.a.hp true):=BM w 1 hw.p.s.a.own hw.p.s.a.far hw.p.s.a.subs hw.p.s.a.halfs hw.p.s.a.list hw.p.s.a.done hw.p.s.a.over hw.p.s.b.own hw.p.s.b.far hw.p.s.b.subs hw.p.s.b.halfs hw.p.s.b.list hw.p.s.b.done hw.p.s.b.over
 obtain⟨pr,hpr⟩:∃ p,p=az w.a ad:=⟨_,rfl⟩
 rw [<-hpr] at hX hsm hgood⊢
 obtain⟨e1,ok1⟩:=pr
 dsimp only at hX hsm hgood⊢
 subst hgood
 obtain⟨l1,hl1⟩:∃ l:List LetterD,l=[]:=⟨_,rfl⟩
 have hlen:l1.length<=1:=by rw [hl1];simp
 have hset:=d4 w e1
 have hpost:=dd { w with a:=e1 } [] ⟨hw.p.s.bag,hw.p.s.past,hw.p.s.keys,hw.p.s.tags,hw.p.s.nums,hw.p.s.ansA,hw.p.s.ansB⟩ (by first|omega|simp)
 have hends:=ba (side:=1) (l:=[]) (w:={ w with a:=e1 })
 obtain⟨R,hR⟩:∃ R,R=an 1 { w with a:=e1 } []:=⟨_,rfl⟩
 rw [<-hR] at hpost hends⊢
 clear hR
 obtain⟨ra,rb,bag,past,wA,wB,rA,rB,known,nums,nsA,nsB⟩:=R
 obtain⟨keys,tags⟩:=known
 dsimp only at hends
 obtain⟨g1,g2,g3,g4,g5,g6⟩:=hends
 replace g1:=g1.symm
 replace g2:=g2.symm
 replace g3:=g3.symm
 replace g4:=g4.symm
 replace g5:=g5.symm
 replace g6:=g6.symm
 subst g1 g2 g3 g4 g5 g6
 have hSd:=d1 ad.addr
 rw [hsd] at hSd
 refine kc Tryz.func164 (by kernel_rfl) rfl fun E hE=>ac 400 ?_
 simp (disch:=omega) only [Tryz.ntmps164,Tryz.results164,go_sem,seval]
 refine cG [(5,6)] [] [(qU [0,8]),[0,1,2,3,4,6,5,7]] 22 hE (fun s=>s.at (qU [13,6]) [(5,.sc (.pt 30 0 0))] (s.hp++(w.a.hp true++[some ⟨[w.a.cs 23],25,38,true,false⟩]))) (by kernel_rfl) (qC) (by kernel_rfl) ?_ (ac 400 ?_)
 rotate_left
 rotate_right
 simp only [bm]
 refine⟨aa 400 ?_,aa 400 ?_⟩
 ·simp (disch:=omega) only [go_sem]
  refine it (qC) (hEA) (qI 0 21) qM (by rfl) (by rfl) (aa 400 ?_)
  simp (disch:=omega) only [go_sem,seval]
  refine⟨qC,(qI 0 31),ab (by rfl) (by rfl) ?_⟩
  try simp (disch:=omega) only [go_sem,seval]
 ·simp (disch:=omega) only [go_sem]
  refine it (qC) (hEA) (qI 0 21) qM (by rfl) (by rfl) (aa 400 ?_)
  simp (disch:=omega) only [go_sem,seval]
  refine⟨qC,(qI 0 23++qI 24 7++qI 23 1),ab (by rfl) (by rfl) ?_⟩
  try simp (disch:=omega) only [go_sem,seval]
 try simp (disch:=omega) only [go_sem,seval]
 refine bc (qC) (hX) (qI 23 7) qM (by rfl) (ac 400 ?_)
 simp (disch:=omega) only [go_sem,seval]
 refine iu (qU [0,3,4,2,3,1,6,5]) (by kernel_rfl) (qC) (by kernel_rfl) (aa 400 ?_)
 simp (disch:=omega) only [go_sem,seval]
 refine it (qC) (hSd) [] qM (by rfl) (by rfl) (aa 400 ?_)
 simp (disch:=omega) only [go_sem,seval]
 refine⟨qC,ac 400 ?_⟩
 try simp (disch:=omega) only [go_sem,seval]
 refine bc (qC) (hset) (qI 0 21++qI 31 7++qI 21 1) qM (by rfl) (ac 400 ?_)
 simp (disch:=omega) only [go_sem,seval]
 refine bc (qC) (hpost) (qI 31 7++qI 7 15++qO 1) qM (by rfl) (ac 400 ?_)
 simp (disch:=omega) only [go_sem,seval]
 refine fL (qI 0 22++qI 31 7++qI 7 7++qI 39 7) (qC) _ (by simp only [go_sem];rfl) (by rfl) (by rfl) ?_
 simp (disch:=omega) only [go_sem,seval]
theorem FX (w:WorldD) (pos many:Int) (text:List UInt8) (ad:AddrD) (le:LetterD) (hw:SmallD w) (htx:text.length<=1048576):
  aP 164 [.sc (.pt 21 0 0),.ag (ActD.cs ⟨6,1,pos,many,text,ad,le⟩)] (w.hp true++[some ⟨[w.cs 0],61,44,true,false⟩]) (.sc (.int .i64 0))
  ((nH 21++[some ⟨[WorldD.cs (an 1 { w with a:=(iA w.a pos).1 } (iA w.a pos).2) 22],61,44,true,false⟩])++WorldD.hp (an 1 { w with a:=(iA w.a pos).1 } (iA w.a pos).2) true):=by
 have q1:=hw.s.wa
 have q2:=hw.s.wb
 have q3:=hw.s.ra
 have q4:=hw.s.rb
 have hX:=v7 w.a pos hw.p.s.a
 have hsm:=nY (n:=pos) hw.p.s.a
 have hlen:=r6 w.a pos hw.p.s.a
 have hEA:aP 66 [.ag (w.cs 0),.sc (.int .i64 1)] (w.hp false) (.ag (w.a.cs 21)) (w.hp false++w.a.hp true):=BM w 1 hw.p.s.a.own hw.p.s.a.far hw.p.s.a.subs hw.p.s.a.halfs hw.p.s.a.list hw.p.s.a.done hw.p.s.a.over hw.p.s.b.own hw.p.s.b.far hw.p.s.b.subs hw.p.s.b.halfs hw.p.s.b.list hw.p.s.b.done hw.p.s.b.over
 obtain⟨pr,hpr⟩:∃ p,p=iA w.a pos:=⟨_,rfl⟩
 rw [<-hpr] at hX hsm hlen⊢
 obtain⟨e1,l1⟩:=pr
 dsimp only at hX hsm hlen⊢
 have hset:=d4 w e1
 have hpost:=dd { w with a:=e1 } l1 ⟨hw.p.s.bag,hw.p.s.past,hw.p.s.keys,hw.p.s.tags,hw.p.s.nums,hw.p.s.ansA,hw.p.s.ansB⟩ (by first|omega|simp)
 have hends:=ba (side:=1) (l:=l1) (w:={ w with a:=e1 })
 obtain⟨R,hR⟩:∃ R,R=an 1 { w with a:=e1 } l1:=⟨_,rfl⟩
 rw [<-hR] at hpost hends⊢
 clear hR
 obtain⟨ra,rb,bag,past,wA,wB,rA,rB,known,nums,nsA,nsB⟩:=R
 obtain⟨keys,tags⟩:=known
 dsimp only at hends
 obtain⟨g1,g2,g3,g4,g5,g6⟩:=hends
 replace g1:=g1.symm
 replace g2:=g2.symm
 replace g3:=g3.symm
 replace g4:=g4.symm
 replace g5:=g5.symm
 replace g6:=g6.symm
 subst g1 g2 g3 g4 g5 g6
 refine kc Tryz.func164 (by kernel_rfl) rfl fun E hE=>ac 400 ?_
 simp (disch:=omega) only [Tryz.ntmps164,Tryz.results164,go_sem,seval]
 refine cG [(5,6)] [] [(qU [0,8]),[0,1,2,3,4,6,5,7]] 22 hE (fun s=>s.at (qU [13,6]) [(5,.sc (.pt 30 0 0))] (s.hp++(w.a.hp true++[some ⟨[w.a.cs 23],25,38,true,false⟩]))) (by kernel_rfl) (qC) (by kernel_rfl) ?_ (ac 400 ?_)
 rotate_left
 rotate_right
 simp only [bm]
 refine⟨aa 400 ?_,aa 400 ?_⟩
 ·simp (disch:=omega) only [go_sem]
  refine it (qC) (hEA) (qI 0 21) qM (by rfl) (by rfl) (aa 400 ?_)
  simp (disch:=omega) only [go_sem,seval]
  refine⟨qC,(qI 0 31),ab (by rfl) (by rfl) ?_⟩
  try simp (disch:=omega) only [go_sem,seval]
 ·simp (disch:=omega) only [go_sem]
  refine it (qC) (hEA) (qI 0 21) qM (by rfl) (by rfl) (aa 400 ?_)
  simp (disch:=omega) only [go_sem,seval]
  refine⟨qC,(qI 0 23++qI 24 7++qI 23 1),ab (by rfl) (by rfl) ?_⟩
  try simp (disch:=omega) only [go_sem,seval]
 try simp (disch:=omega) only [go_sem,seval]
 refine bc (qC) (hX) (qI 23 7) qM (by rfl) (ac 400 ?_)
 simp (disch:=omega) only [go_sem,seval]
 refine bc (qC) (hset) (qI 0 21++qI 31 7++qI 21 1) qM (by rfl) (ac 400 ?_)
 simp (disch:=omega) only [go_sem,seval]
 refine bc (qC) (hpost) (qI 31 7++qI 7 15++qI 38 1) qM (by rfl) (ac 400 ?_)
 simp (disch:=omega) only [go_sem,seval]
 refine fL (qI 0 22++qI 31 7++qI 7 7++qI 39 7) (qC) _ (by simp only [go_sem];rfl) (by rfl) (by rfl) ?_
 simp (disch:=omega) only [go_sem,seval]
theorem FY (w:WorldD) (pos many:Int) (text:List UInt8) (ad:AddrD) (le:LetterD) (hw:SmallD w) (htx:text.length<=1048576):
  aP 164 [.sc (.pt 21 0 0),.ag (ActD.cs ⟨7,1,pos,many,text,ad,le⟩)] (w.hp true++[some ⟨[w.cs 0],61,44,true,false⟩]) (.sc (.int .i64 0))
  ((nH 21++[some ⟨[WorldD.cs (an 1 { w with a:=(ks w.a pos).1 } (ks w.a pos).2) 22],61,44,true,false⟩])++WorldD.hp (an 1 { w with a:=(ks w.a pos).1 } (ks w.a pos).2) true):=by
 have q1:=hw.s.wa
 have q2:=hw.s.wb
 have q3:=hw.s.ra
 have q4:=hw.s.rb
 have hX:=Fg w.a pos hw.p.s.a
 have hsm:=qj (k:=pos) hw.p.s.a
 have hlen:=s7 w.a pos
 have hEA:aP 66 [.ag (w.cs 0),.sc (.int .i64 1)] (w.hp false) (.ag (w.a.cs 21)) (w.hp false++w.a.hp true):=BM w 1 hw.p.s.a.own hw.p.s.a.far hw.p.s.a.subs hw.p.s.a.halfs hw.p.s.a.list hw.p.s.a.done hw.p.s.a.over hw.p.s.b.own hw.p.s.b.far hw.p.s.b.subs hw.p.s.b.halfs hw.p.s.b.list hw.p.s.b.done hw.p.s.b.over
 obtain⟨pr,hpr⟩:∃ p,p=ks w.a pos:=⟨_,rfl⟩
 rw [<-hpr] at hX hsm hlen⊢
 obtain⟨e1,l1⟩:=pr
 dsimp only at hX hsm hlen⊢
 have hset:=d4 w e1
 have hpost:=dd { w with a:=e1 } l1 ⟨hw.p.s.bag,hw.p.s.past,hw.p.s.keys,hw.p.s.tags,hw.p.s.nums,hw.p.s.ansA,hw.p.s.ansB⟩ (by first|omega|simp)
 have hends:=ba (side:=1) (l:=l1) (w:={ w with a:=e1 })
 obtain⟨R,hR⟩:∃ R,R=an 1 { w with a:=e1 } l1:=⟨_,rfl⟩
 rw [<-hR] at hpost hends⊢
 clear hR
 obtain⟨ra,rb,bag,past,wA,wB,rA,rB,known,nums,nsA,nsB⟩:=R
 obtain⟨keys,tags⟩:=known
 dsimp only at hends
 obtain⟨g1,g2,g3,g4,g5,g6⟩:=hends
 replace g1:=g1.symm
 replace g2:=g2.symm
 replace g3:=g3.symm
 replace g4:=g4.symm
 replace g5:=g5.symm
 replace g6:=g6.symm
 subst g1 g2 g3 g4 g5 g6
 refine kc Tryz.func164 (by kernel_rfl) rfl fun E hE=>ac 400 ?_
 simp (disch:=omega) only [Tryz.ntmps164,Tryz.results164,go_sem,seval]
 refine cG [(5,6)] [] [(qU [0,8]),[0,1,2,3,4,6,5,7]] 22 hE (fun s=>s.at (qU [13,6]) [(5,.sc (.pt 30 0 0))] (s.hp++(w.a.hp true++[some ⟨[w.a.cs 23],25,38,true,false⟩]))) (by kernel_rfl) (qC) (by kernel_rfl) ?_ (ac 400 ?_)
 rotate_left
 rotate_right
 simp only [bm]
 refine⟨aa 400 ?_,aa 400 ?_⟩
 ·simp (disch:=omega) only [go_sem]
  refine it (qC) (hEA) (qI 0 21) qM (by rfl) (by rfl) (aa 400 ?_)
  simp (disch:=omega) only [go_sem,seval]
  refine⟨qC,(qI 0 31),ab (by rfl) (by rfl) ?_⟩
  try simp (disch:=omega) only [go_sem,seval]
 ·simp (disch:=omega) only [go_sem]
  refine it (qC) (hEA) (qI 0 21) qM (by rfl) (by rfl) (aa 400 ?_)
  simp (disch:=omega) only [go_sem,seval]
  refine⟨qC,(qI 0 23++qI 24 7++qI 23 1),ab (by rfl) (by rfl) ?_⟩
  try simp (disch:=omega) only [go_sem,seval]
 try simp (disch:=omega) only [go_sem,seval]
 refine bc (qC) (hX) (qI 23 7) qM (by rfl) (ac 400 ?_)
 simp (disch:=omega) only [go_sem,seval]
 refine bc (qC) (hset) (qI 0 21++qI 31 7++qI 21 1) qM (by rfl) (ac 400 ?_)
 simp (disch:=omega) only [go_sem,seval]
 refine bc (qC) (hpost) (qI 31 7++qI 7 15++qI 38 1) qM (by rfl) (ac 400 ?_)
 simp (disch:=omega) only [go_sem,seval]
 refine fL (qI 0 22++qI 31 7++qI 7 7++qI 39 7) (qC) _ (by simp only [go_sem];rfl) (by rfl) (by rfl) ?_
 simp (disch:=omega) only [go_sem,seval]
theorem FZ (w:WorldD) (pos many:Int) (text:List UInt8) (ad:AddrD) (le:LetterD) (hw:SmallD w) (htx:text.length<=1048576):
  aP 164 [.sc (.pt 21 0 0),.ag (ActD.cs ⟨1,2,pos,many,text,ad,le⟩)] (w.hp true++[some ⟨[w.cs 0],61,44,true,false⟩]) (.sc (.int .i64 0))
  ((nH 21++[some ⟨[WorldD.cs (an 2 { w with wroteB:=w.wroteB++text.take (cc w.b text).2,b:=(aA w.b text).1 } (aA w.b text).2) 22],61,44,true,false⟩])++WorldD.hp (an 2 { w with wroteB:=w.wroteB++text.take (cc w.b text).2,b:=(aA w.b text).1 } (aA w.b text).2) true):=by
 have q1:=hw.s.wa
 have q2:=hw.s.wb
 have q3:=hw.s.ra
 have q4:=hw.s.rb
 have hX:=vc w.b text hw.p.s.b htx (jc hw.ob)
 have hsm:=ij (t:=text) hw.p.s.b
 have hlen:=jY w.b text
 have hEA:aP 66 [.ag (w.cs 0),.sc (.int .i64 2)] (w.hp false) (.ag (w.b.cs 21)) (w.hp false++w.b.hp true):=BM w 2 hw.p.s.a.own hw.p.s.a.far hw.p.s.a.subs hw.p.s.a.halfs hw.p.s.a.list hw.p.s.a.done hw.p.s.a.over hw.p.s.b.own hw.p.s.b.far hw.p.s.b.subs hw.p.s.b.halfs hw.p.s.b.list hw.p.s.b.done hw.p.s.b.over
 have hX2:=v1 w.b text hw.p.s.b htx
 have hwl:=sf w.b text
 obtain⟨wr,hwr⟩:∃ p,p=cc w.b text:=⟨_,rfl⟩
 rw [<-hwr] at hX2 hwl⊢
 obtain⟨e0,n0⟩:=wr
 dsimp only at hX2 hwl⊢
 obtain⟨pr,hpr⟩:∃ p,p=aA w.b text:=⟨_,rfl⟩
 rw [<-hpr] at hX hsm hlen⊢
 obtain⟨e1,l1⟩:=pr
 dsimp only at hX hsm hlen⊢
 have hset:=e5 { w with wroteB:=w.wroteB++text.take n0 } e1
 have hpost:=ea { w with wroteB:=w.wroteB++text.take n0,b:=e1 } l1 ⟨hw.p.s.bag,hw.p.s.past,hw.p.s.keys,hw.p.s.tags,hw.p.s.nums,hw.p.s.ansA,hw.p.s.ansB⟩ (by first|omega|simp)
 have hends:=ba (side:=2) (l:=l1) (w:={ w with wroteB:=w.wroteB++text.take n0,b:=e1 })
 obtain⟨R,hR⟩:∃ R,R=an 2 { w with wroteB:=w.wroteB++text.take n0,b:=e1 } l1:=⟨_,rfl⟩
 rw [<-hR] at hpost hends⊢
 clear hR
 obtain⟨ra,rb,bag,past,wA,wB,rA,rB,known,nums,nsA,nsB⟩:=R
 obtain⟨keys,tags⟩:=known
 dsimp only at hends
 obtain⟨g1,g2,g3,g4,g5,g6⟩:=hends
 replace g1:=g1.symm
 replace g2:=g2.symm
 replace g3:=g3.symm
 replace g4:=g4.symm
 replace g5:=g5.symm
 replace g6:=g6.symm
 subst g1 g2 g3 g4 g5 g6
 have htk:(text.take n0).length=n0:=by rw [List.length_take];omega
 refine kc Tryz.func164 (by kernel_rfl) rfl fun E hE=>ac 400 ?_
 simp (disch:=omega) only [Tryz.ntmps164,Tryz.results164,go_sem,seval]
 refine cG [(5,6)] [] [(qU [0,8]),[0,1,2,3,4,6,5,7]] 22 hE (fun s=>s.at (qU [13,6]) [(5,.sc (.pt 30 0 0))] (s.hp++(w.b.hp true++[some ⟨[w.b.cs 23],25,38,true,false⟩]))) (by kernel_rfl) (qC) (by kernel_rfl) ?_ (ac 400 ?_)
 rotate_left
 rotate_right
 simp only [bm]
 refine⟨aa 400 ?_,aa 400 ?_⟩
 ·simp (disch:=omega) only [go_sem]
  refine it (qC) (hEA) (qI 0 21) qM (by rfl) (by rfl) (aa 400 ?_)
  simp (disch:=omega) only [go_sem,seval]
  refine⟨qC,(qI 0 31),ab (by rfl) (by rfl) ?_⟩
  try simp (disch:=omega) only [go_sem,seval]
 ·simp (disch:=omega) only [go_sem]
  refine it (qC) (hEA) (qI 0 21) qM (by rfl) (by rfl) (aa 400 ?_)
  simp (disch:=omega) only [go_sem,seval]
  refine⟨qC,(qI 0 23++qI 24 7++qI 23 1),ab (by rfl) (by rfl) ?_⟩
  try simp (disch:=omega) only [go_sem,seval]
 try simp (disch:=omega) only [go_sem,seval]
 refine bc (qC) (hX2) (qI 23 7) qM (by rfl) (ac 400 ?_)
 simp (disch:=omega) only [go_sem,seval]
 refine bc (qC) (hX) (qI 23 7) qM (by rfl) (ac 400 ?_)
 simp (disch:=omega) only [go_sem,seval]
 refine iu (qU [0,12]) (by kernel_rfl) (qC) (by kernel_rfl) (aa 400 ?_)
 simp (disch:=omega) only [go_sem,seval]
 refine⟨qC,ac 400 ?_⟩
 try simp (disch:=omega) only [go_sem,seval]
 refine bc (qC) (hset) (qI 0 21++qI 39 7++qI 21 1) qM (by rfl) (ac 400 ?_)
 simp (disch:=omega) only [go_sem,seval]
 refine bc (qC) (hpost) (qI 0 7++qI 39 7++qI 14 8++qI 46 1) qM (by rfl) (ac 400 ?_)
 simp (disch:=omega) only [go_sem,seval]
 refine fL (qI 0 22++qI 0 7++qI 39 7++qI 47 7) (qC) _ (by simp only [go_sem];rfl) (by rfl) (by rfl) ?_
 simp (disch:=omega) only [go_sem,seval]
theorem F0 (w:WorldD) (pos many:Int) (text:List UInt8) (ad:AddrD) (le:LetterD) (hw:SmallD w) (htx:text.length<=1048576):
  aP 164 [.sc (.pt 21 0 0),.ag (ActD.cs ⟨4,2,pos,many,text,ad,le⟩)] (w.hp true++[some ⟨[w.cs 0],61,44,true,false⟩]) (.sc (.int .i64 0))
  ((nH 21++[some ⟨[WorldD.cs (an 2 { w with b:=(bb w.b).1 } (bb w.b).2) 22],61,44,true,false⟩])++WorldD.hp (an 2 { w with b:=(bb w.b).1 } (bb w.b).2) true):=by
 have q1:=hw.s.wa
 have q2:=hw.s.wb
 have q3:=hw.s.ra
 have q4:=hw.s.rb
 have hX:=n6 w.b hw.p.s.b
 have hsm:=gu hw.p.s.b
 have hlen:=no w.b
 have hEA:aP 66 [.ag (w.cs 0),.sc (.int .i64 2)] (w.hp false) (.ag (w.b.cs 21)) (w.hp false++w.b.hp true):=BM w 2 hw.p.s.a.own hw.p.s.a.far hw.p.s.a.subs hw.p.s.a.halfs hw.p.s.a.list hw.p.s.a.done hw.p.s.a.over hw.p.s.b.own hw.p.s.b.far hw.p.s.b.subs hw.p.s.b.halfs hw.p.s.b.list hw.p.s.b.done hw.p.s.b.over
 obtain⟨pr,hpr⟩:∃ p,p=bb w.b:=⟨_,rfl⟩
 rw [<-hpr] at hX hsm hlen⊢
 obtain⟨e1,l1⟩:=pr
 dsimp only at hX hsm hlen⊢
 have hset:=e5 w e1
 have hpost:=ea { w with b:=e1 } l1 ⟨hw.p.s.bag,hw.p.s.past,hw.p.s.keys,hw.p.s.tags,hw.p.s.nums,hw.p.s.ansA,hw.p.s.ansB⟩ (by first|omega|simp)
 have hends:=ba (side:=2) (l:=l1) (w:={ w with b:=e1 })
 obtain⟨R,hR⟩:∃ R,R=an 2 { w with b:=e1 } l1:=⟨_,rfl⟩
 rw [<-hR] at hpost hends⊢
 clear hR
 obtain⟨ra,rb,bag,past,wA,wB,rA,rB,known,nums,nsA,nsB⟩:=R
 obtain⟨keys,tags⟩:=known
 dsimp only at hends
 obtain⟨g1,g2,g3,g4,g5,g6⟩:=hends
 replace g1:=g1.symm
 replace g2:=g2.symm
 replace g3:=g3.symm
 replace g4:=g4.symm
 replace g5:=g5.symm
 replace g6:=g6.symm
 subst g1 g2 g3 g4 g5 g6
 refine kc Tryz.func164 (by kernel_rfl) rfl fun E hE=>ac 400 ?_
 simp (disch:=omega) only [Tryz.ntmps164,Tryz.results164,go_sem,seval]
 refine cG [(5,6)] [] [(qU [0,8]),[0,1,2,3,4,6,5,7]] 22 hE (fun s=>s.at (qU [13,6]) [(5,.sc (.pt 30 0 0))] (s.hp++(w.b.hp true++[some ⟨[w.b.cs 23],25,38,true,false⟩]))) (by kernel_rfl) (qC) (by kernel_rfl) ?_ (ac 400 ?_)
 rotate_left
 rotate_right
 simp only [bm]
 refine⟨aa 400 ?_,aa 400 ?_⟩
 ·simp (disch:=omega) only [go_sem]
  refine it (qC) (hEA) (qI 0 21) qM (by rfl) (by rfl) (aa 400 ?_)
  simp (disch:=omega) only [go_sem,seval]
  refine⟨qC,(qI 0 31),ab (by rfl) (by rfl) ?_⟩
  try simp (disch:=omega) only [go_sem,seval]
 ·simp (disch:=omega) only [go_sem]
  refine it (qC) (hEA) (qI 0 21) qM (by rfl) (by rfl) (aa 400 ?_)
  simp (disch:=omega) only [go_sem,seval]
  refine⟨qC,(qI 0 23++qI 24 7++qI 23 1),ab (by rfl) (by rfl) ?_⟩
  try simp (disch:=omega) only [go_sem,seval]
 try simp (disch:=omega) only [go_sem,seval]
 refine bc (qC) (hX) (qI 23 7) qM (by rfl) (ac 400 ?_)
 simp (disch:=omega) only [go_sem,seval]
 refine bc (qC) (hset) (qI 0 21++qI 31 7++qI 21 1) qM (by rfl) (ac 400 ?_)
 simp (disch:=omega) only [go_sem,seval]
 refine bc (qC) (hpost) (qI 0 7++qI 31 7++qI 14 8++qI 38 1) qM (by rfl) (ac 400 ?_)
 simp (disch:=omega) only [go_sem,seval]
 refine fL (qI 0 22++qI 0 7++qI 31 7++qI 39 7) (qC) _ (by simp only [go_sem];rfl) (by rfl) (by rfl) ?_
 simp (disch:=omega) only [go_sem,seval]
theorem F1 (w:WorldD) (pos many:Int) (text:List UInt8) (ad:AddrD) (le:LetterD) (hw:SmallD w) (htx:text.length<=1048576) (hsd:sideAt ad.addr=2) (hgood:(az w.b ad).2=true):
  aP 164 [.sc (.pt 21 0 0),.ag (ActD.cs ⟨5,2,pos,many,text,ad,le⟩)] (w.hp true++[some ⟨[w.cs 0],61,44,true,false⟩]) (.sc (.int .i64 0))
  ((nH 21++[some ⟨[WorldD.cs (an 2 { w with b:=((az w.b ad).1,([]:List LetterD)).1 } ((az w.b ad).1,([]:List LetterD)).2) 22],61,44,true,false⟩])++WorldD.hp (an 2 { w with b:=((az w.b ad).1,([]:List LetterD)).1 } ((az w.b ad).1,([]:List LetterD)).2) true):=by
 have q1:=hw.s.wa
 have q2:=hw.s.wb
 have q3:=hw.s.ra
 have q4:=hw.s.rb
 have hX:=rs w.b ad hw.p.s.b
 have hsm:=dU (a:=ad) hw.p.s.b
 have hEA:aP 66 [.ag (w.cs 0),.sc (.int .i64 2)] (w.hp false) (.ag (w.b.cs 21)) (w.hp false++w.b.hp true):=BM w 2 hw.p.s.a.own hw.p.s.a.far hw.p.s.a.subs hw.p.s.a.halfs hw.p.s.a.list hw.p.s.a.done hw.p.s.a.over hw.p.s.b.own hw.p.s.b.far hw.p.s.b.subs hw.p.s.b.halfs hw.p.s.b.list hw.p.s.b.done hw.p.s.b.over
 obtain⟨pr,hpr⟩:∃ p,p=az w.b ad:=⟨_,rfl⟩
 rw [<-hpr] at hX hsm hgood⊢
 obtain⟨e1,ok1⟩:=pr
 dsimp only at hX hsm hgood⊢
 subst hgood
 obtain⟨l1,hl1⟩:∃ l:List LetterD,l=[]:=⟨_,rfl⟩
 have hlen:l1.length<=1:=by rw [hl1];simp
 have hset:=e5 w e1
 have hpost:=ea { w with b:=e1 } [] ⟨hw.p.s.bag,hw.p.s.past,hw.p.s.keys,hw.p.s.tags,hw.p.s.nums,hw.p.s.ansA,hw.p.s.ansB⟩ (by first|omega|simp)
 have hends:=ba (side:=2) (l:=[]) (w:={ w with b:=e1 })
 obtain⟨R,hR⟩:∃ R,R=an 2 { w with b:=e1 } []:=⟨_,rfl⟩
 rw [<-hR] at hpost hends⊢
 clear hR
 obtain⟨ra,rb,bag,past,wA,wB,rA,rB,known,nums,nsA,nsB⟩:=R
 obtain⟨keys,tags⟩:=known
 dsimp only at hends
 obtain⟨g1,g2,g3,g4,g5,g6⟩:=hends
 replace g1:=g1.symm
 replace g2:=g2.symm
 replace g3:=g3.symm
 replace g4:=g4.symm
 replace g5:=g5.symm
 replace g6:=g6.symm
 subst g1 g2 g3 g4 g5 g6
 have hSd:=d1 ad.addr
 rw [hsd] at hSd
 refine kc Tryz.func164 (by kernel_rfl) rfl fun E hE=>ac 400 ?_
 simp (disch:=omega) only [Tryz.ntmps164,Tryz.results164,go_sem,seval]
 refine cG [(5,6)] [] [(qU [0,8]),[0,1,2,3,4,6,5,7]] 22 hE (fun s=>s.at (qU [13,6]) [(5,.sc (.pt 30 0 0))] (s.hp++(w.b.hp true++[some ⟨[w.b.cs 23],25,38,true,false⟩]))) (by kernel_rfl) (qC) (by kernel_rfl) ?_ (ac 400 ?_)
 rotate_left
 rotate_right
 simp only [bm]
 refine⟨aa 400 ?_,aa 400 ?_⟩
 ·simp (disch:=omega) only [go_sem]
  refine it (qC) (hEA) (qI 0 21) qM (by rfl) (by rfl) (aa 400 ?_)
  simp (disch:=omega) only [go_sem,seval]
  refine⟨qC,(qI 0 31),ab (by rfl) (by rfl) ?_⟩
  try simp (disch:=omega) only [go_sem,seval]
 ·simp (disch:=omega) only [go_sem]
  refine it (qC) (hEA) (qI 0 21) qM (by rfl) (by rfl) (aa 400 ?_)
  simp (disch:=omega) only [go_sem,seval]
  refine⟨qC,(qI 0 23++qI 24 7++qI 23 1),ab (by rfl) (by rfl) ?_⟩
  try simp (disch:=omega) only [go_sem,seval]
 try simp (disch:=omega) only [go_sem,seval]
 refine bc (qC) (hX) (qI 23 7) qM (by rfl) (ac 400 ?_)
 simp (disch:=omega) only [go_sem,seval]
 refine iu (qU [0,3,4,2,3,1,6,5]) (by kernel_rfl) (qC) (by kernel_rfl) (aa 400 ?_)
 simp (disch:=omega) only [go_sem,seval]
 refine it (qC) (hSd) [] qM (by rfl) (by rfl) (aa 400 ?_)
 simp (disch:=omega) only [go_sem,seval]
 refine⟨qC,ac 400 ?_⟩
 try simp (disch:=omega) only [go_sem,seval]
 refine bc (qC) (hset) (qI 0 21++qI 31 7++qI 21 1) qM (by rfl) (ac 400 ?_)
 simp (disch:=omega) only [go_sem,seval]
 refine bc (qC) (hpost) (qI 0 7++qI 31 7++qI 14 8++qO 1) qM (by rfl) (ac 400 ?_)
 simp (disch:=omega) only [go_sem,seval]
 refine fL (qI 0 22++qI 0 7++qI 31 7++qI 39 7) (qC) _ (by simp only [go_sem];rfl) (by rfl) (by rfl) ?_
 simp (disch:=omega) only [go_sem,seval]
theorem F2 (w:WorldD) (pos many:Int) (text:List UInt8) (ad:AddrD) (le:LetterD) (hw:SmallD w) (htx:text.length<=1048576):
  aP 164 [.sc (.pt 21 0 0),.ag (ActD.cs ⟨6,2,pos,many,text,ad,le⟩)] (w.hp true++[some ⟨[w.cs 0],61,44,true,false⟩]) (.sc (.int .i64 0))
  ((nH 21++[some ⟨[WorldD.cs (an 2 { w with b:=(iA w.b pos).1 } (iA w.b pos).2) 22],61,44,true,false⟩])++WorldD.hp (an 2 { w with b:=(iA w.b pos).1 } (iA w.b pos).2) true):=by
 have q1:=hw.s.wa
 have q2:=hw.s.wb
 have q3:=hw.s.ra
 have q4:=hw.s.rb
 have hX:=v7 w.b pos hw.p.s.b
 have hsm:=nY (n:=pos) hw.p.s.b
 have hlen:=r6 w.b pos hw.p.s.b
 have hEA:aP 66 [.ag (w.cs 0),.sc (.int .i64 2)] (w.hp false) (.ag (w.b.cs 21)) (w.hp false++w.b.hp true):=BM w 2 hw.p.s.a.own hw.p.s.a.far hw.p.s.a.subs hw.p.s.a.halfs hw.p.s.a.list hw.p.s.a.done hw.p.s.a.over hw.p.s.b.own hw.p.s.b.far hw.p.s.b.subs hw.p.s.b.halfs hw.p.s.b.list hw.p.s.b.done hw.p.s.b.over
 obtain⟨pr,hpr⟩:∃ p,p=iA w.b pos:=⟨_,rfl⟩
 rw [<-hpr] at hX hsm hlen⊢
 obtain⟨e1,l1⟩:=pr
 dsimp only at hX hsm hlen⊢
 have hset:=e5 w e1
 have hpost:=ea { w with b:=e1 } l1 ⟨hw.p.s.bag,hw.p.s.past,hw.p.s.keys,hw.p.s.tags,hw.p.s.nums,hw.p.s.ansA,hw.p.s.ansB⟩ (by first|omega|simp)
 have hends:=ba (side:=2) (l:=l1) (w:={ w with b:=e1 })
 obtain⟨R,hR⟩:∃ R,R=an 2 { w with b:=e1 } l1:=⟨_,rfl⟩
 rw [<-hR] at hpost hends⊢
 clear hR
 obtain⟨ra,rb,bag,past,wA,wB,rA,rB,known,nums,nsA,nsB⟩:=R
 obtain⟨keys,tags⟩:=known
 dsimp only at hends
 obtain⟨g1,g2,g3,g4,g5,g6⟩:=hends
 replace g1:=g1.symm
 replace g2:=g2.symm
 replace g3:=g3.symm
 replace g4:=g4.symm
 replace g5:=g5.symm
 replace g6:=g6.symm
 subst g1 g2 g3 g4 g5 g6
 refine kc Tryz.func164 (by kernel_rfl) rfl fun E hE=>ac 400 ?_
 simp (disch:=omega) only [Tryz.ntmps164,Tryz.results164,go_sem,seval]
 refine cG [(5,6)] [] [(qU [0,8]),[0,1,2,3,4,6,5,7]] 22 hE (fun s=>s.at (qU [13,6]) [(5,.sc (.pt 30 0 0))] (s.hp++(w.b.hp true++[some ⟨[w.b.cs 23],25,38,true,false⟩]))) (by kernel_rfl) (qC) (by kernel_rfl) ?_ (ac 400 ?_)
 rotate_left
 rotate_right
 simp only [bm]
 refine⟨aa 400 ?_,aa 400 ?_⟩
 ·simp (disch:=omega) only [go_sem]
  refine it (qC) (hEA) (qI 0 21) qM (by rfl) (by rfl) (aa 400 ?_)
  simp (disch:=omega) only [go_sem,seval]
  refine⟨qC,(qI 0 31),ab (by rfl) (by rfl) ?_⟩
  try simp (disch:=omega) only [go_sem,seval]
 ·simp (disch:=omega) only [go_sem]
  refine it (qC) (hEA) (qI 0 21) qM (by rfl) (by rfl) (aa 400 ?_)
  simp (disch:=omega) only [go_sem,seval]
  refine⟨qC,(qI 0 23++qI 24 7++qI 23 1),ab (by rfl) (by rfl) ?_⟩
  try simp (disch:=omega) only [go_sem,seval]
 try simp (disch:=omega) only [go_sem,seval]
 refine bc (qC) (hX) (qI 23 7) qM (by rfl) (ac 400 ?_)
 simp (disch:=omega) only [go_sem,seval]
 refine bc (qC) (hset) (qI 0 21++qI 31 7++qI 21 1) qM (by rfl) (ac 400 ?_)
 simp (disch:=omega) only [go_sem,seval]
 refine bc (qC) (hpost) (qI 0 7++qI 31 7++qI 14 8++qI 38 1) qM (by rfl) (ac 400 ?_)
 simp (disch:=omega) only [go_sem,seval]
 refine fL (qI 0 22++qI 0 7++qI 31 7++qI 39 7) (qC) _ (by simp only [go_sem];rfl) (by rfl) (by rfl) ?_
 simp (disch:=omega) only [go_sem,seval]
theorem F3 (w:WorldD) (pos many:Int) (text:List UInt8) (ad:AddrD) (le:LetterD) (hw:SmallD w) (htx:text.length<=1048576):
  aP 164 [.sc (.pt 21 0 0),.ag (ActD.cs ⟨7,2,pos,many,text,ad,le⟩)] (w.hp true++[some ⟨[w.cs 0],61,44,true,false⟩]) (.sc (.int .i64 0))
  ((nH 21++[some ⟨[WorldD.cs (an 2 { w with b:=(ks w.b pos).1 } (ks w.b pos).2) 22],61,44,true,false⟩])++WorldD.hp (an 2 { w with b:=(ks w.b pos).1 } (ks w.b pos).2) true):=by
 have q1:=hw.s.wa
 have q2:=hw.s.wb
 have q3:=hw.s.ra
 have q4:=hw.s.rb
 have hX:=Fg w.b pos hw.p.s.b
 have hsm:=qj (k:=pos) hw.p.s.b
 have hlen:=s7 w.b pos
 have hEA:aP 66 [.ag (w.cs 0),.sc (.int .i64 2)] (w.hp false) (.ag (w.b.cs 21)) (w.hp false++w.b.hp true):=BM w 2 hw.p.s.a.own hw.p.s.a.far hw.p.s.a.subs hw.p.s.a.halfs hw.p.s.a.list hw.p.s.a.done hw.p.s.a.over hw.p.s.b.own hw.p.s.b.far hw.p.s.b.subs hw.p.s.b.halfs hw.p.s.b.list hw.p.s.b.done hw.p.s.b.over
 obtain⟨pr,hpr⟩:∃ p,p=ks w.b pos:=⟨_,rfl⟩
 rw [<-hpr] at hX hsm hlen⊢
 obtain⟨e1,l1⟩:=pr
 dsimp only at hX hsm hlen⊢
 have hset:=e5 w e1
 have hpost:=ea { w with b:=e1 } l1 ⟨hw.p.s.bag,hw.p.s.past,hw.p.s.keys,hw.p.s.tags,hw.p.s.nums,hw.p.s.ansA,hw.p.s.ansB⟩ (by first|omega|simp)
 have hends:=ba (side:=2) (l:=l1) (w:={ w with b:=e1 })
 obtain⟨R,hR⟩:∃ R,R=an 2 { w with b:=e1 } l1:=⟨_,rfl⟩
 rw [<-hR] at hpost hends⊢
 clear hR
 obtain⟨ra,rb,bag,past,wA,wB,rA,rB,known,nums,nsA,nsB⟩:=R
 obtain⟨keys,tags⟩:=known
 dsimp only at hends
 obtain⟨g1,g2,g3,g4,g5,g6⟩:=hends
 replace g1:=g1.symm
 replace g2:=g2.symm
 replace g3:=g3.symm
 replace g4:=g4.symm
 replace g5:=g5.symm
 replace g6:=g6.symm
 subst g1 g2 g3 g4 g5 g6
 refine kc Tryz.func164 (by kernel_rfl) rfl fun E hE=>ac 400 ?_
 simp (disch:=omega) only [Tryz.ntmps164,Tryz.results164,go_sem,seval]
 refine cG [(5,6)] [] [(qU [0,8]),[0,1,2,3,4,6,5,7]] 22 hE (fun s=>s.at (qU [13,6]) [(5,.sc (.pt 30 0 0))] (s.hp++(w.b.hp true++[some ⟨[w.b.cs 23],25,38,true,false⟩]))) (by kernel_rfl) (qC) (by kernel_rfl) ?_ (ac 400 ?_)
 rotate_left
 rotate_right
 simp only [bm]
 refine⟨aa 400 ?_,aa 400 ?_⟩
 ·simp (disch:=omega) only [go_sem]
  refine it (qC) (hEA) (qI 0 21) qM (by rfl) (by rfl) (aa 400 ?_)
  simp (disch:=omega) only [go_sem,seval]
  refine⟨qC,(qI 0 31),ab (by rfl) (by rfl) ?_⟩
  try simp (disch:=omega) only [go_sem,seval]
 ·simp (disch:=omega) only [go_sem]
  refine it (qC) (hEA) (qI 0 21) qM (by rfl) (by rfl) (aa 400 ?_)
  simp (disch:=omega) only [go_sem,seval]
  refine⟨qC,(qI 0 23++qI 24 7++qI 23 1),ab (by rfl) (by rfl) ?_⟩
  try simp (disch:=omega) only [go_sem,seval]
 try simp (disch:=omega) only [go_sem,seval]
 refine bc (qC) (hX) (qI 23 7) qM (by rfl) (ac 400 ?_)
 simp (disch:=omega) only [go_sem,seval]
 refine bc (qC) (hset) (qI 0 21++qI 31 7++qI 21 1) qM (by rfl) (ac 400 ?_)
 simp (disch:=omega) only [go_sem,seval]
 refine bc (qC) (hpost) (qI 0 7++qI 31 7++qI 14 8++qI 38 1) qM (by rfl) (ac 400 ?_)
 simp (disch:=omega) only [go_sem,seval]
 refine fL (qI 0 22++qI 0 7++qI 31 7++qI 39 7) (qC) _ (by simp only [go_sem];rfl) (by rfl) (by rfl) ?_
 simp (disch:=omega) only [go_sem,seval]
theorem Hw {w:WorldD} {s m p:Int} {t:List UInt8} {ad:AddrD} {le:LetterD} (h:xa w le=false):ce w ⟨11,s,p,m,t,ad,le⟩=(w,2):=by
 unfold ce;dsimp only;rw [if_neg (by omega),if_neg (by omega),if_pos rfl,if_pos h]
theorem Hx {w:WorldD} {s m p:Int} {t:List UInt8} {ad:AddrD} {le:LetterD} (h:xa w le=true) (h2:40<=w.bag.length):ce w ⟨11,s,p,m,t,ad,le⟩=(w,1):=by
 unfold ce;dsimp only;rw [if_neg (by omega),if_neg (by omega),if_pos rfl,if_neg (by simp [h]),if_pos h2]
theorem Hy {w:WorldD} {s m p:Int} {t:List UInt8} {ad:AddrD} {le:LetterD} (h:xa w le=true) (h2:¬ 40<=w.bag.length):ce w ⟨11,s,p,m,t,ad,le⟩=({ w with bag:=w.bag++[le] },0):=by
 unfold ce;dsimp only;rw [if_neg (by omega),if_neg (by omega),if_pos rfl,if_neg (by simp [h]),if_neg h2]
theorem Hz {w:WorldD} {s m:Int} {p:Nat} {t:List UInt8} {ad:AddrD} {le:LetterD} (h:¬ p < w.past.length):ce w ⟨12,s,(p:Nat),m,t,ad,le⟩=(w,1):=by
 unfold ce;dsimp only;rw [if_neg (by omega),if_neg (by omega),if_neg (by omega),if_pos (.inl (by omega))]
theorem HA {w:WorldD} {s m:Int} {p:Nat} {t:List UInt8} {ad:AddrD} {le:LetterD} (h:p < w.past.length) (h2:sideAt w.past[p].to=0\/40<=w.bag.length):ce w ⟨12,s,(p:Nat),m,t,ad,le⟩=(w,1):=by
 unfold ce;dsimp only;rw [if_neg (by omega),if_neg (by omega),if_neg (by omega),sG h,if_pos (.inr h2)]
theorem HC {w:WorldD} {s m:Int} {p:Nat} {t:List UInt8} {ad:AddrD} {le:LetterD} (h:p < w.past.length) (h1:¬ sideAt w.past[p].to=0) (h2:¬ 40<=w.bag.length):ce w ⟨12,s,(p:Nat),m,t,ad,le⟩=({ w with bag:=w.bag++[w.past[p]] },0):=by
 unfold ce;dsimp only;rw [if_neg (by omega),if_neg (by omega),if_neg (by omega),sG h,if_neg (by omega)]
theorem Gn (w:WorldD) (side many:Int) (p:Nat) (text:List UInt8) (ad:AddrD) (le:LetterD) (hw:SmallD w):
  aP 165 [.sc (.pt 21 0 0),.ag (ActD.cs ⟨9,side,(p:Nat),many,text,ad,le⟩)] (w.hp true++[some ⟨[w.cs 0],61,44,true,false⟩]) (.sc (.int .i64 (ce w ⟨9,side,(p:Nat),many,text,ad,le⟩).2))
  ((nH 21++[some ⟨[WorldD.cs (ce w ⟨9,side,(p:Nat),many,text,ad,le⟩).1 22],61,44,true,false⟩])++WorldD.hp (ce w ⟨9,side,(p:Nat),many,text,ad,le⟩).1 true):=by
 have hbag:=hw.p.s.bag
 have hpast:=hw.p.s.past
 obtain⟨R,hR⟩:∃ R,R=ce w ⟨9,side,(p:Nat),many,text,ad,le⟩:=⟨_,rfl⟩
 rw [<-hR]
 by_cases hp:p < w.bag.length
 ·rw [DB hp] at hR
  obtain⟨B,hBe⟩:∃ B,B=fF w.bag (p:Nat):=⟨_,rfl⟩
  have e2:p+(w.bag.length - (p+1))=B.length:=by rw [hBe,gv hp];omega
  have e1:(w.bag.take p).map LetterD.cs++((w.bag.map LetterD.cs).drop (p+1)).take (w.bag.length - (p+1))=B.map LetterD.cs:=by rw [hBe];exact (oP hp).2
  have hB:B.length<=1048576:=by omega
  have hlt:(w.bag.take p).length=p:=by simp;omega
  have hlt2:(List.take p (List.map LetterD.cs w.bag)).length=p:=by simp;omega
  have hC:=ch (w.bag.take p) (by omega)
  rw [hlt] at hC
  have hx:=aT (enc:=LetterD.cs) hp
  rw [<-hBe] at hR
  clear hBe
  generalize hxx:w.bag[p]=x at*
  subst hR
  dsimp only
  refine kc Tryz.func165 (by kernel_rfl) rfl fun E hE=>ac 400 ?_
  simp (disch:=omega) only [Tryz.ntmps165,Tryz.results165,go_sem,seval]
  refine iu (qU [0,9]) (by kernel_rfl) (qC) (by kernel_rfl) (aa 400 ?_)
  simp (disch:=omega) only [go_sem,seval]
  refine⟨qC,ac 400 ?_⟩
  try simp (disch:=omega) only [go_sem,seval]
  refine iu (qU [0,10]) (by kernel_rfl) (qC) (by kernel_rfl) (aa 400 ?_)
  simp (disch:=omega) only [go_sem,seval]
  refine⟨qC,ac 400 ?_⟩
  try simp (disch:=omega) only [go_sem,seval,hx,hxx]
  refine iu (qU [0,8,9,8,8,1,17,4]) (by kernel_rfl) (qC) (by kernel_rfl) (aa 400 ?_)
  simp (disch:=omega) only [go_sem,seval]
  refine it (qC) (hC) [some (14,some 0)] qM (by rfl) (by rfl) (aa 400 ?_)
  simp (disch:=omega) only [go_sem,seval]
  refine⟨qC,ac 400 ?_⟩
  try simp (disch:=omega) only [go_sem,seval,e1,e2]
  refine fL (qI 0 22++qI 0 14++qI 25 1++qI 15 6) (qC) _ (by simp only [go_sem];rfl) (by rfl) (by rfl) ?_
  simp (disch:=omega) only [go_sem,seval]
 rw [DA hp] at hR
 subst hR
 dsimp only
 refine kc Tryz.func165 (by kernel_rfl) rfl fun E hE=>ac 400 ?_
 simp (disch:=omega) only [Tryz.ntmps165,Tryz.results165,go_sem,seval]
 refine iu (qU [0,9]) (by kernel_rfl) (qC) (by kernel_rfl) (aa 400 ?_)
 simp (disch:=omega) only [go_sem,seval]
 refine⟨qC,ac 400 ?_⟩
 try simp (disch:=omega) only [go_sem,seval]
 refine fL (qI 0 22++qI 0 21) (qC) _ (by simp only [go_sem];rfl) (by rfl) (by rfl) ?_
 simp (disch:=omega) only [go_sem,seval]
theorem F4 (w:WorldD) (side many:Int) (p:Nat) (text:List UInt8) (ad:AddrD) (le:LetterD) (hw:SmallD w):
  aP 165 [.sc (.pt 21 0 0),.ag (ActD.cs ⟨10,side,(p:Nat),many,text,ad,le⟩)] (w.hp true++[some ⟨[w.cs 0],61,44,true,false⟩]) (.sc (.int .i64 (ce w ⟨10,side,(p:Nat),many,text,ad,le⟩).2))
  ((nH 21++[some ⟨[WorldD.cs (ce w ⟨10,side,(p:Nat),many,text,ad,le⟩).1 22],61,44,true,false⟩])++WorldD.hp (ce w ⟨10,side,(p:Nat),many,text,ad,le⟩).1 true):=by
 have hbag:=hw.p.s.bag
 have hpast:=hw.p.s.past
 obtain⟨R,hR⟩:∃ R,R=ce w ⟨10,side,(p:Nat),many,text,ad,le⟩:=⟨_,rfl⟩
 rw [<-hR]
 by_cases hp:p < w.bag.length/\¬ 40<=w.bag.length
 ·obtain⟨hp,h4⟩:=hp
  rw [B7 hp h4] at hR
  have hx:=aT (enc:=LetterD.cs) hp
  generalize hxx:w.bag[p]=x at*
  subst hR
  dsimp only
  refine kc Tryz.func165 (by kernel_rfl) rfl fun E hE=>ac 400 ?_
  simp (disch:=omega) only [Tryz.ntmps165,Tryz.results165,go_sem,seval]
  refine iu (qU [0,9]) (by kernel_rfl) (qC) (by kernel_rfl) (aa 400 ?_)
  simp (disch:=omega) only [go_sem,seval]
  refine⟨qC,ac 400 ?_⟩
  try simp (disch:=omega) only [go_sem,seval]
  refine iu (qU [0,18]) (by kernel_rfl) (qC) (by kernel_rfl) (aa 400 ?_)
  simp (disch:=omega) only [go_sem,seval]
  refine⟨qC,ac 400 ?_⟩
  try simp (disch:=omega) only [go_sem,seval,hx,hxx]
  refine fL (qI 0 22++qI 0 14++qI 24 1++qI 15 6) (qC) _ (by simp only [go_sem];rfl) (by rfl) (by rfl) ?_
  simp (disch:=omega) only [go_sem,seval]
  simp [LetterD.cs]
 rw [B6 (by omega)] at hR
 subst hR
 dsimp only
 by_cases hq:p < w.bag.length
 ·have h4:40<=w.bag.length:=by omega
  refine kc Tryz.func165 (by kernel_rfl) rfl fun E hE=>ac 400 ?_
  simp (disch:=omega) only [Tryz.ntmps165,Tryz.results165,go_sem,seval]
  refine iu (qU [0,9]) (by kernel_rfl) (qC) (by kernel_rfl) (aa 400 ?_)
  simp (disch:=omega) only [go_sem,seval]
  refine⟨qC,ac 400 ?_⟩
  try simp (disch:=omega) only [go_sem,seval]
  refine fL (qI 0 22++qI 0 21) (qC) _ (by simp only [go_sem];rfl) (by rfl) (by rfl) ?_
  simp (disch:=omega) only [go_sem,seval]
 refine kc Tryz.func165 (by kernel_rfl) rfl fun E hE=>ac 400 ?_
 simp (disch:=omega) only [Tryz.ntmps165,Tryz.results165,go_sem,seval]
 refine iu (qU [0,9]) (by kernel_rfl) (qC) (by kernel_rfl) (aa 400 ?_)
 simp (disch:=omega) only [go_sem,seval]
 refine⟨qC,ac 400 ?_⟩
 try simp (disch:=omega) only [go_sem,seval]
 refine fL (qI 0 22++qI 0 21) (qC) _ (by simp only [go_sem];rfl) (by rfl) (by rfl) ?_
 simp (disch:=omega) only [go_sem,seval]
theorem F5 (w:WorldD) (side many:Int) (p:Int) (text:List UInt8) (ad:AddrD) (le:LetterD) (hw:SmallD w):
  aP 165 [.sc (.pt 21 0 0),.ag (ActD.cs ⟨11,side,p,many,text,ad,le⟩)] (w.hp true++[some ⟨[w.cs 0],61,44,true,false⟩]) (.sc (.int .i64 (ce w ⟨11,side,p,many,text,ad,le⟩).2))
  ((nH 21++[some ⟨[WorldD.cs (ce w ⟨11,side,p,many,text,ad,le⟩).1 22],61,44,true,false⟩])++WorldD.hp (ce w ⟨11,side,p,many,text,ad,le⟩).1 true):=by
 have hbag:=hw.p.s.bag
 have hpast:=hw.p.s.past
 obtain⟨R,hR⟩:∃ R,R=ce w ⟨11,side,p,many,text,ad,le⟩:=⟨_,rfl⟩
 rw [<-hR]
 cases hm:xa w le with
 |false=>
  rw [Hw hm] at hR
  subst hR
  dsimp only
  have hM:=p9 w le hw.p.s.keys hw.p.s.tags hw.p.s.nums
  rw [hm] at hM
  refine kc Tryz.func165 (by kernel_rfl) rfl fun E hE=>ac 400 ?_
  simp (disch:=omega) only [Tryz.ntmps165,Tryz.results165,go_sem,seval]
  refine iu (qU [0,9]) (by kernel_rfl) (qC) (by kernel_rfl) (aa 400 ?_)
  simp (disch:=omega) only [go_sem,seval]
  refine⟨qC,ac 400 ?_⟩
  try simp (disch:=omega) only [go_sem,seval]
  refine iu (qU [0,7]) (by kernel_rfl) (qC) (by kernel_rfl) (aa 400 ?_)
  simp (disch:=omega) only [go_sem,seval]
  refine it (qC) (hM) (qI 0 21) qM (by rfl) (by rfl) (aa 400 ?_)
  simp (disch:=omega) only [go_sem,seval]
  refine⟨qC,ac 400 ?_⟩
  try simp (disch:=omega) only [go_sem,seval]
  refine fL (qI 0 22++qI 0 21) (qC) _ (by simp only [go_sem];rfl) (by rfl) (by rfl) ?_
  simp (disch:=omega) only [go_sem,seval]
 |true=>
  by_cases h4:40<=w.bag.length
  ·rw [Hx hm h4] at hR
   subst hR
   dsimp only
   have hM:=p9 w le hw.p.s.keys hw.p.s.tags hw.p.s.nums
   rw [hm] at hM
   refine kc Tryz.func165 (by kernel_rfl) rfl fun E hE=>ac 400 ?_
   simp (disch:=omega) only [Tryz.ntmps165,Tryz.results165,go_sem,seval]
   refine iu (qU [0,9]) (by kernel_rfl) (qC) (by kernel_rfl) (aa 400 ?_)
   simp (disch:=omega) only [go_sem,seval]
   refine⟨qC,ac 400 ?_⟩
   try simp (disch:=omega) only [go_sem,seval]
   refine iu (qU [0,7]) (by kernel_rfl) (qC) (by kernel_rfl) (aa 400 ?_)
   simp (disch:=omega) only [go_sem,seval]
   refine it (qC) (hM) (qI 0 21) qM (by rfl) (by rfl) (aa 400 ?_)
   simp (disch:=omega) only [go_sem,seval]
   refine⟨qC,ac 400 ?_⟩
   try simp (disch:=omega) only [go_sem,seval]
   refine fL (qI 0 22++qI 0 21) (qC) _ (by simp only [go_sem];rfl) (by rfl) (by rfl) ?_
   simp (disch:=omega) only [go_sem,seval]
  rw [Hy hm h4] at hR
  subst hR
  dsimp only
  have hM:=p9 w le hw.p.s.keys hw.p.s.tags hw.p.s.nums
  rw [hm] at hM
  refine kc Tryz.func165 (by kernel_rfl) rfl fun E hE=>ac 400 ?_
  simp (disch:=omega) only [Tryz.ntmps165,Tryz.results165,go_sem,seval]
  refine iu (qU [0,9]) (by kernel_rfl) (qC) (by kernel_rfl) (aa 400 ?_)
  simp (disch:=omega) only [go_sem,seval]
  refine⟨qC,ac 400 ?_⟩
  try simp (disch:=omega) only [go_sem,seval]
  refine iu (qU [0,7]) (by kernel_rfl) (qC) (by kernel_rfl) (aa 400 ?_)
  simp (disch:=omega) only [go_sem,seval]
  refine it (qC) (hM) (qI 0 21) qM (by rfl) (by rfl) (aa 400 ?_)
  simp (disch:=omega) only [go_sem,seval]
  refine⟨qC,ac 400 ?_⟩
  try simp (disch:=omega) only [go_sem,seval]
  refine iu (qU [0,12]) (by kernel_rfl) (qC) (by kernel_rfl) (aa 400 ?_)
  simp (disch:=omega) only [go_sem,seval]
  refine⟨qC,ac 400 ?_⟩
  try simp (disch:=omega) only [go_sem,seval]
  refine fL (qI 0 22++qI 0 14++qI 24 1++qI 15 6) (qC) _ (by simp only [go_sem];rfl) (by rfl) (by rfl) ?_
  simp (disch:=omega) only [go_sem,seval]
  simp [LetterD.cs]
theorem F6 (w:WorldD) (side many:Int) (p:Nat) (text:List UInt8) (ad:AddrD) (le:LetterD) (hw:SmallD w):
  aP 165 [.sc (.pt 21 0 0),.ag (ActD.cs ⟨12,side,(p:Nat),many,text,ad,le⟩)] (w.hp true++[some ⟨[w.cs 0],61,44,true,false⟩]) (.sc (.int .i64 (ce w ⟨12,side,(p:Nat),many,text,ad,le⟩).2))
  ((nH 21++[some ⟨[WorldD.cs (ce w ⟨12,side,(p:Nat),many,text,ad,le⟩).1 22],61,44,true,false⟩])++WorldD.hp (ce w ⟨12,side,(p:Nat),many,text,ad,le⟩).1 true):=by
 have hbag:=hw.p.s.bag
 have hpast:=hw.p.s.past
 obtain⟨R,hR⟩:∃ R,R=ce w ⟨12,side,(p:Nat),many,text,ad,le⟩:=⟨_,rfl⟩
 rw [<-hR]
 by_cases hp:p < w.past.length
 ·have hx:=aT (enc:=LetterD.cs) hp
  have hq1:= @HA w side many p text ad le hp
  have hq2:= @HC w side many p text ad le hp
  rw [<-hR] at hq1 hq2
  generalize hxx:w.past[p]=x at*
  have hS:=d1 x.to
  have hSb:=oU x.to
  generalize sideAt x.to=sd at*
  by_cases h0:sd=0
  ·rw [hq1 (.inl h0)]
   dsimp only
   refine kc Tryz.func165 (by kernel_rfl) rfl fun E hE=>ac 400 ?_
   simp (disch:=omega) only [Tryz.ntmps165,Tryz.results165,go_sem,seval]
   refine iu (qU [0,9]) (by kernel_rfl) (qC) (by kernel_rfl) (aa 400 ?_)
   simp (disch:=omega) only [go_sem,seval]
   refine⟨qC,ac 400 ?_⟩
   try simp (disch:=omega) only [go_sem,seval]
   refine iu (qU [0,24]) (by kernel_rfl) (qC) (by kernel_rfl) (aa 400 ?_)
   simp (disch:=omega) only [go_sem,seval]
   try simp (disch:=omega) only [go_sem,hx,hxx]
   refine it (qC) (hS) [] qM (by rfl) (by rfl) (aa 400 ?_)
   simp (disch:=omega) only [go_sem,seval]
   refine⟨qC,ac 400 ?_⟩
   try simp (disch:=omega) only [go_sem,seval,hx,hxx]
   refine fL (qI 0 22++qI 0 21) (qC) _ (by simp only [go_sem];rfl) (by rfl) (by rfl) ?_
   simp (disch:=omega) only [go_sem,seval]
  by_cases h4:40<=w.bag.length
  ·rw [hq1 (.inr h4)]
   dsimp only
   refine kc Tryz.func165 (by kernel_rfl) rfl fun E hE=>ac 400 ?_
   simp (disch:=omega) only [Tryz.ntmps165,Tryz.results165,go_sem,seval]
   refine iu (qU [0,9]) (by kernel_rfl) (qC) (by kernel_rfl) (aa 400 ?_)
   simp (disch:=omega) only [go_sem,seval]
   refine⟨qC,ac 400 ?_⟩
   try simp (disch:=omega) only [go_sem,seval]
   refine iu (qU [0,24]) (by kernel_rfl) (qC) (by kernel_rfl) (aa 400 ?_)
   simp (disch:=omega) only [go_sem,seval]
   try simp (disch:=omega) only [go_sem,hx,hxx]
   refine it (qC) (hS) [] qM (by rfl) (by rfl) (aa 400 ?_)
   simp (disch:=omega) only [go_sem,seval]
   refine⟨qC,ac 400 ?_⟩
   try simp (disch:=omega) only [go_sem,seval,hx,hxx]
   refine fL (qI 0 22++qI 0 21) (qC) _ (by simp only [go_sem];rfl) (by rfl) (by rfl) ?_
   simp (disch:=omega) only [go_sem,seval]
  rw [hq2 h0 h4]
  dsimp only
  refine kc Tryz.func165 (by kernel_rfl) rfl fun E hE=>ac 400 ?_
  simp (disch:=omega) only [Tryz.ntmps165,Tryz.results165,go_sem,seval]
  refine iu (qU [0,9]) (by kernel_rfl) (qC) (by kernel_rfl) (aa 400 ?_)
  simp (disch:=omega) only [go_sem,seval]
  refine⟨qC,ac 400 ?_⟩
  try simp (disch:=omega) only [go_sem,seval]
  refine iu (qU [0,24]) (by kernel_rfl) (qC) (by kernel_rfl) (aa 400 ?_)
  simp (disch:=omega) only [go_sem,seval]
  try simp (disch:=omega) only [go_sem,hx,hxx]
  refine it (qC) (hS) [] qM (by rfl) (by rfl) (aa 400 ?_)
  simp (disch:=omega) only [go_sem,seval]
  refine⟨qC,ac 400 ?_⟩
  try simp (disch:=omega) only [go_sem,seval,hx,hxx]
  refine iu (qU [0,18]) (by kernel_rfl) (qC) (by kernel_rfl) (aa 400 ?_)
  simp (disch:=omega) only [go_sem,seval]
  refine⟨qC,ac 400 ?_⟩
  try simp (disch:=omega) only [go_sem,seval,hx,hxx]
  refine fL (qI 0 22++qI 0 14++qI 24 1++qI 15 6) (qC) _ (by simp only [go_sem];rfl) (by rfl) (by rfl) ?_
  simp (disch:=omega) only [go_sem,seval]
  simp [LetterD.cs]
 rw [Hz hp] at hR
 subst hR
 dsimp only
 refine kc Tryz.func165 (by kernel_rfl) rfl fun E hE=>ac 400 ?_
 simp (disch:=omega) only [Tryz.ntmps165,Tryz.results165,go_sem,seval]
 refine iu (qU [0,9]) (by kernel_rfl) (qC) (by kernel_rfl) (aa 400 ?_)
 simp (disch:=omega) only [go_sem,seval]
 refine⟨qC,ac 400 ?_⟩
 try simp (disch:=omega) only [go_sem,seval]
 refine iu (qU [0,24]) (by kernel_rfl) (qC) (by kernel_rfl) (aa 400 ?_)
 simp (disch:=omega) only [go_sem,seval]
 refine⟨qC,ac 400 ?_⟩
 try simp (disch:=omega) only [go_sem,seval]
 refine fL (qI 0 22++qI 0 21) (qC) _ (by simp only [go_sem];rfl) (by rfl) (by rfl) ?_
 simp (disch:=omega) only [go_sem,seval]
theorem Fi (w:WorldD) (pos many:Int) (text:List UInt8) (ad:AddrD) (le:LetterD) (hw:SmallD w) (htx:text.length<=1048576):
  aP 169 [.ag (w.cs 0),.ag (ActD.cs ⟨6,1,pos,many,text,ad,le⟩)] (w.hp false) (.tu [.ag (WorldD.cs (an 1 { w with a:=(iA w.a pos).1 } (iA w.a pos).2) 21),.sc (.int .i64 0)]) (w.hp false++WorldD.hp (an 1 { w with a:=(iA w.a pos).1 } (iA w.a pos).2) true):=by
 have hX:=v8 w.a pos hw.p.s.a
 have hsm:=nY (n:=pos) hw.p.s.a
 have hlen:=r6 w.a pos hw.p.s.a
 have hEA:aP 74 [.ag (w.cs 0),.sc (.int .i64 1)] (w.hp false) (.ag (w.a.cs 21)) (w.hp false++w.a.hp true):=bq w 1 hw.p.s.a.own hw.p.s.a.far hw.p.s.a.subs hw.p.s.a.halfs hw.p.s.a.list hw.p.s.a.done hw.p.s.a.over hw.p.s.b.own hw.p.s.b.far hw.p.s.b.subs hw.p.s.b.halfs hw.p.s.b.list hw.p.s.b.done hw.p.s.b.over
 obtain⟨pr,hpr⟩:∃ p,p=iA w.a pos:=⟨_,rfl⟩
 rw [<-hpr] at hX hsm hlen⊢
 obtain⟨e1,l1⟩:=pr
 dsimp only at hX hsm hlen⊢
 have hset:=dc w e1
 have hpost:=df { w with a:=e1 } l1 ⟨hsm,hw.p.s.b,hw.p.s.bag,hw.p.s.past,hw.p.s.keys,hw.p.s.tags,hw.p.s.nums,hw.p.s.ansA,hw.p.s.ansB⟩ (by first|omega|simp)
 have hends:=ba (side:=1) (l:=l1) (w:={ w with a:=e1 })
 obtain⟨R,hR⟩:∃ R,R=an 1 { w with a:=e1 } l1:=⟨_,rfl⟩
 rw [<-hR] at hpost hends⊢
 clear hR
 obtain⟨ra,rb,bag,past,wA,wB,rA,rB,known,nums,nsA,nsB⟩:=R
 obtain⟨keys,tags⟩:=known
 dsimp only at hends
 obtain⟨g1,g2,g3,g4,g5,g6⟩:=hends
 replace g1:=g1.symm
 replace g2:=g2.symm
 replace g3:=g3.symm
 replace g4:=g4.symm
 replace g5:=g5.symm
 replace g6:=g6.symm
 subst g1 g2 g3 g4 g5 g6
 refine gU Tryz.func169 Tryz.ntmps169 Tryz.results169 fun E hE=>?_
 refine qK (hEA) (qI 0 21) ?_
 refine qK (hX) (qI 24 7) ?_
 refine qD [0,1,2,3,5,6,7,4,8,9,10] ?_
 refine aQ (hset) (qI 0 21++qI 33 7) ?_
 refine aQ (hpost) (qI 33 7++qI 7 14++qI 40 1) ?_
 refine qG ?_
 exact dk (qI 0 21++qI 41 21)
theorem Fj (w:WorldD) (pos many:Int) (text:List UInt8) (ad:AddrD) (le:LetterD) (hw:SmallD w) (htx:text.length<=1048576):
  aP 169 [.ag (w.cs 0),.ag (ActD.cs ⟨7,1,pos,many,text,ad,le⟩)] (w.hp false) (.tu [.ag (WorldD.cs (an 1 { w with a:=(ks w.a pos).1 } (ks w.a pos).2) 21),.sc (.int .i64 0)]) (w.hp false++WorldD.hp (an 1 { w with a:=(ks w.a pos).1 } (ks w.a pos).2) true):=by
 have hX:=Fh w.a pos hw.p.s.a
 have hsm:=qj (k:=pos) hw.p.s.a
 have hlen:=s7 w.a pos
 have hEA:aP 74 [.ag (w.cs 0),.sc (.int .i64 1)] (w.hp false) (.ag (w.a.cs 21)) (w.hp false++w.a.hp true):=bq w 1 hw.p.s.a.own hw.p.s.a.far hw.p.s.a.subs hw.p.s.a.halfs hw.p.s.a.list hw.p.s.a.done hw.p.s.a.over hw.p.s.b.own hw.p.s.b.far hw.p.s.b.subs hw.p.s.b.halfs hw.p.s.b.list hw.p.s.b.done hw.p.s.b.over
 obtain⟨pr,hpr⟩:∃ p,p=ks w.a pos:=⟨_,rfl⟩
 rw [<-hpr] at hX hsm hlen⊢
 obtain⟨e1,l1⟩:=pr
 dsimp only at hX hsm hlen⊢
 have hset:=dc w e1
 have hpost:=df { w with a:=e1 } l1 ⟨hsm,hw.p.s.b,hw.p.s.bag,hw.p.s.past,hw.p.s.keys,hw.p.s.tags,hw.p.s.nums,hw.p.s.ansA,hw.p.s.ansB⟩ (by first|omega|simp)
 have hends:=ba (side:=1) (l:=l1) (w:={ w with a:=e1 })
 obtain⟨R,hR⟩:∃ R,R=an 1 { w with a:=e1 } l1:=⟨_,rfl⟩
 rw [<-hR] at hpost hends⊢
 clear hR
 obtain⟨ra,rb,bag,past,wA,wB,rA,rB,known,nums,nsA,nsB⟩:=R
 obtain⟨keys,tags⟩:=known
 dsimp only at hends
 obtain⟨g1,g2,g3,g4,g5,g6⟩:=hends
 replace g1:=g1.symm
 replace g2:=g2.symm
 replace g3:=g3.symm
 replace g4:=g4.symm
 replace g5:=g5.symm
 replace g6:=g6.symm
 subst g1 g2 g3 g4 g5 g6
 refine gU Tryz.func169 Tryz.ntmps169 Tryz.results169 fun E hE=>?_
 refine qK (hEA) (qI 0 21) ?_
 refine qK (hX) (qI 24 7) ?_
 refine qD [0,1,2,3,5,6,7,4,8,9,10] ?_
 refine aQ (hset) (qI 0 21++qI 33 7) ?_
 refine aQ (hpost) (qI 33 7++qI 7 14++qI 40 1) ?_
 refine qG ?_
 exact dk (qI 0 21++qI 41 21)
theorem Fk (w:WorldD) (pos many:Int) (text:List UInt8) (ad:AddrD) (le:LetterD) (hw:SmallD w) (htx:text.length<=1048576):
  aP 169 [.ag (w.cs 0),.ag (ActD.cs ⟨6,2,pos,many,text,ad,le⟩)] (w.hp false) (.tu [.ag (WorldD.cs (an 2 { w with b:=(iA w.b pos).1 } (iA w.b pos).2) 21),.sc (.int .i64 0)]) (w.hp false++WorldD.hp (an 2 { w with b:=(iA w.b pos).1 } (iA w.b pos).2) true):=by
 have hX:=v8 w.b pos hw.p.s.b
 have hsm:=nY (n:=pos) hw.p.s.b
 have hlen:=r6 w.b pos hw.p.s.b
 have hEA:aP 74 [.ag (w.cs 0),.sc (.int .i64 2)] (w.hp false) (.ag (w.b.cs 21)) (w.hp false++w.b.hp true):=bq w 2 hw.p.s.a.own hw.p.s.a.far hw.p.s.a.subs hw.p.s.a.halfs hw.p.s.a.list hw.p.s.a.done hw.p.s.a.over hw.p.s.b.own hw.p.s.b.far hw.p.s.b.subs hw.p.s.b.halfs hw.p.s.b.list hw.p.s.b.done hw.p.s.b.over
 obtain⟨pr,hpr⟩:∃ p,p=iA w.b pos:=⟨_,rfl⟩
 rw [<-hpr] at hX hsm hlen⊢
 obtain⟨e1,l1⟩:=pr
 dsimp only at hX hsm hlen⊢
 have hset:=de w e1
 have hpost:=dg { w with b:=e1 } l1 ⟨hw.p.s.a,hsm,hw.p.s.bag,hw.p.s.past,hw.p.s.keys,hw.p.s.tags,hw.p.s.nums,hw.p.s.ansA,hw.p.s.ansB⟩ (by first|omega|simp)
 have hends:=ba (side:=2) (l:=l1) (w:={ w with b:=e1 })
 obtain⟨R,hR⟩:∃ R,R=an 2 { w with b:=e1 } l1:=⟨_,rfl⟩
 rw [<-hR] at hpost hends⊢
 clear hR
 obtain⟨ra,rb,bag,past,wA,wB,rA,rB,known,nums,nsA,nsB⟩:=R
 obtain⟨keys,tags⟩:=known
 dsimp only at hends
 obtain⟨g1,g2,g3,g4,g5,g6⟩:=hends
 replace g1:=g1.symm
 replace g2:=g2.symm
 replace g3:=g3.symm
 replace g4:=g4.symm
 replace g5:=g5.symm
 replace g6:=g6.symm
 subst g1 g2 g3 g4 g5 g6
 refine gU Tryz.func169 Tryz.ntmps169 Tryz.results169 fun E hE=>?_
 refine qK (hEA) (qI 0 21) ?_
 refine qK (hX) (qI 24 7) ?_
 refine qD [0,1,2,3,5,6,7,4,8,9,10] ?_
 refine aQ (hset) (qI 0 21++qI 33 7) ?_
 refine aQ (hpost) (qI 0 7++qI 33 7++qI 14 7++qI 40 1) ?_
 refine qG ?_
 exact dk (qI 0 21++qI 41 21)
theorem Fl (w:WorldD) (pos many:Int) (text:List UInt8) (ad:AddrD) (le:LetterD) (hw:SmallD w) (htx:text.length<=1048576):
  aP 169 [.ag (w.cs 0),.ag (ActD.cs ⟨7,2,pos,many,text,ad,le⟩)] (w.hp false) (.tu [.ag (WorldD.cs (an 2 { w with b:=(ks w.b pos).1 } (ks w.b pos).2) 21),.sc (.int .i64 0)]) (w.hp false++WorldD.hp (an 2 { w with b:=(ks w.b pos).1 } (ks w.b pos).2) true):=by
 have hX:=Fh w.b pos hw.p.s.b
 have hsm:=qj (k:=pos) hw.p.s.b
 have hlen:=s7 w.b pos
 have hEA:aP 74 [.ag (w.cs 0),.sc (.int .i64 2)] (w.hp false) (.ag (w.b.cs 21)) (w.hp false++w.b.hp true):=bq w 2 hw.p.s.a.own hw.p.s.a.far hw.p.s.a.subs hw.p.s.a.halfs hw.p.s.a.list hw.p.s.a.done hw.p.s.a.over hw.p.s.b.own hw.p.s.b.far hw.p.s.b.subs hw.p.s.b.halfs hw.p.s.b.list hw.p.s.b.done hw.p.s.b.over
 obtain⟨pr,hpr⟩:∃ p,p=ks w.b pos:=⟨_,rfl⟩
 rw [<-hpr] at hX hsm hlen⊢
 obtain⟨e1,l1⟩:=pr
 dsimp only at hX hsm hlen⊢
 have hset:=de w e1
 have hpost:=dg { w with b:=e1 } l1 ⟨hw.p.s.a,hsm,hw.p.s.bag,hw.p.s.past,hw.p.s.keys,hw.p.s.tags,hw.p.s.nums,hw.p.s.ansA,hw.p.s.ansB⟩ (by first|omega|simp)
 have hends:=ba (side:=2) (l:=l1) (w:={ w with b:=e1 })
 obtain⟨R,hR⟩:∃ R,R=an 2 { w with b:=e1 } l1:=⟨_,rfl⟩
 rw [<-hR] at hpost hends⊢
 clear hR
 obtain⟨ra,rb,bag,past,wA,wB,rA,rB,known,nums,nsA,nsB⟩:=R
 obtain⟨keys,tags⟩:=known
 dsimp only at hends
 obtain⟨g1,g2,g3,g4,g5,g6⟩:=hends
 replace g1:=g1.symm
 replace g2:=g2.symm
 replace g3:=g3.symm
 replace g4:=g4.symm
 replace g5:=g5.symm
 replace g6:=g6.symm
 subst g1 g2 g3 g4 g5 g6
 refine gU Tryz.func169 Tryz.ntmps169 Tryz.results169 fun E hE=>?_
 refine qK (hEA) (qI 0 21) ?_
 refine qK (hX) (qI 24 7) ?_
 refine qD [0,1,2,3,5,6,7,4,8,9,10] ?_
 refine aQ (hset) (qI 0 21++qI 33 7) ?_
 refine aQ (hpost) (qI 0 7++qI 33 7++qI 14 7++qI 40 1) ?_
 refine qG ?_
 exact dk (qI 0 21++qI 41 21)
theorem FF (w:WorldD) (pos many:Int) (text:List UInt8) (ad:AddrD) (le:LetterD) (hw:SmallD w) (hbad:¬ sideAt ad.addr=1\/(az w.a ad).2=false):
  aP 164 [.sc (.pt 21 0 0),.ag (ActD.cs ⟨5,1,pos,many,text,ad,le⟩)] (w.hp true++[some ⟨[w.cs 0],61,44,true,false⟩]) (.sc (.int .i64 1))
  ((nH 21++[some ⟨[WorldD.cs w 22],61,44,true,false⟩])++WorldD.hp w true):=by
 have hX:=rs w.a ad hw.p.s.a
 have hsm:=dU (a:=ad) hw.p.s.a
 have hEA:aP 66 [.ag (w.cs 0),.sc (.int .i64 1)] (w.hp false) (.ag (w.a.cs 21)) (w.hp false++w.a.hp true):=BM w 1 hw.p.s.a.own hw.p.s.a.far hw.p.s.a.subs hw.p.s.a.halfs hw.p.s.a.list hw.p.s.a.done hw.p.s.a.over hw.p.s.b.own hw.p.s.b.far hw.p.s.b.subs hw.p.s.b.halfs hw.p.s.b.list hw.p.s.b.done hw.p.s.b.over
 obtain⟨pr,hpr⟩:∃ p,p=az w.a ad:=⟨_,rfl⟩
 rw [<-hpr] at hX hsm hbad
 obtain⟨e1,ok1⟩:=pr
 dsimp only at hX hsm hbad
 have hSd:=d1 ad.addr
 generalize sideAt ad.addr=sd at*
 refine kc Tryz.func164 (by kernel_rfl) rfl fun E hE=>ac 400 ?_
 simp (disch:=omega) only [Tryz.ntmps164,Tryz.results164,go_sem,seval]
 refine cG [(5,6)] [] [(qU [0,8]),[0,1,2,3,4,6,5,7]] 22 hE (fun s=>s.at (qU [13,6]) [(5,.sc (.pt 30 0 0))] (s.hp++(w.a.hp true++[some ⟨[w.a.cs 23],25,38,true,false⟩]))) (by kernel_rfl) (qC) (by kernel_rfl) ?_ (ac 400 ?_)
 rotate_left
 rotate_right
 simp only [bm]
 refine⟨aa 400 ?_,aa 400 ?_⟩
 ·simp (disch:=omega) only [go_sem]
  refine it (qC) (hEA) (qI 0 21) qM (by rfl) (by rfl) (aa 400 ?_)
  simp (disch:=omega) only [go_sem,seval]
  refine⟨qC,(qI 0 31),ab (by rfl) (by rfl) ?_⟩
  try simp (disch:=omega) only [go_sem,seval]
 ·simp (disch:=omega) only [go_sem]
  refine it (qC) (hEA) (qI 0 21) qM (by rfl) (by rfl) (aa 400 ?_)
  simp (disch:=omega) only [go_sem,seval]
  refine⟨qC,(qI 0 23++qI 24 7++qI 23 1),ab (by rfl) (by rfl) ?_⟩
  try simp (disch:=omega) only [go_sem,seval]
 try simp (disch:=omega) only [go_sem,seval]
 refine bc (qC) (hX) (qI 23 7) qM (by rfl) (ac 400 ?_)
 simp (disch:=omega) only [go_sem,seval]
 by_cases h0:sd=1
 ·subst h0
  have hb:ok1=false:=by rcases hbad with h|h;exact absurd rfl h;exact h
  subst hb
  refine iu (qU [0,3,4,2,3,1,6,5]) (by kernel_rfl) (qC) (by kernel_rfl) (aa 400 ?_)
  simp (disch:=omega) only [go_sem,seval]
  refine it (qC) (hSd) [] qM (by rfl) (by rfl) (aa 400 ?_)
  simp (disch:=omega) only [go_sem,seval]
  refine⟨qC,ac 400 ?_⟩
  try simp (disch:=omega) only [go_sem,seval]
  refine fL (qI 0 22++qI 0 21) (qC) _ (by simp only [go_sem];rfl) (by rfl) (by rfl) ?_
  simp (disch:=omega) only [go_sem,seval]
 refine iu (qU [0,3,4,2,3,1,6,5]) (by kernel_rfl) (qC) (by kernel_rfl) (aa 400 ?_)
 simp (disch:=omega) only [go_sem,seval]
 refine it (qC) (hSd) [] qM (by rfl) (by rfl) (aa 400 ?_)
 simp (disch:=omega) only [go_sem,seval]
 refine⟨qC,ac 400 ?_⟩
 try simp (disch:=omega) only [go_sem,seval]
 refine fL (qI 0 22++qI 0 21) (qC) _ (by simp only [go_sem];rfl) (by rfl) (by rfl) ?_
 simp (disch:=omega) only [go_sem,seval]
theorem FG (w:WorldD) (pos many:Int) (text:List UInt8) (ad:AddrD) (le:LetterD) (hw:SmallD w) (hbad:¬ sideAt ad.addr=2\/(az w.b ad).2=false):
  aP 164 [.sc (.pt 21 0 0),.ag (ActD.cs ⟨5,2,pos,many,text,ad,le⟩)] (w.hp true++[some ⟨[w.cs 0],61,44,true,false⟩]) (.sc (.int .i64 1))
  ((nH 21++[some ⟨[WorldD.cs w 22],61,44,true,false⟩])++WorldD.hp w true):=by
 have hX:=rs w.b ad hw.p.s.b
 have hsm:=dU (a:=ad) hw.p.s.b
 have hEA:aP 66 [.ag (w.cs 0),.sc (.int .i64 2)] (w.hp false) (.ag (w.b.cs 21)) (w.hp false++w.b.hp true):=BM w 2 hw.p.s.a.own hw.p.s.a.far hw.p.s.a.subs hw.p.s.a.halfs hw.p.s.a.list hw.p.s.a.done hw.p.s.a.over hw.p.s.b.own hw.p.s.b.far hw.p.s.b.subs hw.p.s.b.halfs hw.p.s.b.list hw.p.s.b.done hw.p.s.b.over
 obtain⟨pr,hpr⟩:∃ p,p=az w.b ad:=⟨_,rfl⟩
 rw [<-hpr] at hX hsm hbad
 obtain⟨e1,ok1⟩:=pr
 dsimp only at hX hsm hbad
 have hSd:=d1 ad.addr
 generalize sideAt ad.addr=sd at*
 refine kc Tryz.func164 (by kernel_rfl) rfl fun E hE=>ac 400 ?_
 simp (disch:=omega) only [Tryz.ntmps164,Tryz.results164,go_sem,seval]
 refine cG [(5,6)] [] [(qU [0,8]),[0,1,2,3,4,6,5,7]] 22 hE (fun s=>s.at (qU [13,6]) [(5,.sc (.pt 30 0 0))] (s.hp++(w.b.hp true++[some ⟨[w.b.cs 23],25,38,true,false⟩]))) (by kernel_rfl) (qC) (by kernel_rfl) ?_ (ac 400 ?_)
 rotate_left
 rotate_right
 simp only [bm]
 refine⟨aa 400 ?_,aa 400 ?_⟩
 ·simp (disch:=omega) only [go_sem]
  refine it (qC) (hEA) (qI 0 21) qM (by rfl) (by rfl) (aa 400 ?_)
  simp (disch:=omega) only [go_sem,seval]
  refine⟨qC,(qI 0 31),ab (by rfl) (by rfl) ?_⟩
  try simp (disch:=omega) only [go_sem,seval]
 ·simp (disch:=omega) only [go_sem]
  refine it (qC) (hEA) (qI 0 21) qM (by rfl) (by rfl) (aa 400 ?_)
  simp (disch:=omega) only [go_sem,seval]
  refine⟨qC,(qI 0 23++qI 24 7++qI 23 1),ab (by rfl) (by rfl) ?_⟩
  try simp (disch:=omega) only [go_sem,seval]
 try simp (disch:=omega) only [go_sem,seval]
 refine bc (qC) (hX) (qI 23 7) qM (by rfl) (ac 400 ?_)
 simp (disch:=omega) only [go_sem,seval]
 by_cases h0:sd=2
 ·subst h0
  have hb:ok1=false:=by rcases hbad with h|h;exact absurd rfl h;exact h
  subst hb
  refine iu (qU [0,3,4,2,3,1,6,5]) (by kernel_rfl) (qC) (by kernel_rfl) (aa 400 ?_)
  simp (disch:=omega) only [go_sem,seval]
  refine it (qC) (hSd) [] qM (by rfl) (by rfl) (aa 400 ?_)
  simp (disch:=omega) only [go_sem,seval]
  refine⟨qC,ac 400 ?_⟩
  try simp (disch:=omega) only [go_sem,seval]
  refine fL (qI 0 22++qI 0 21) (qC) _ (by simp only [go_sem];rfl) (by rfl) (by rfl) ?_
  simp (disch:=omega) only [go_sem,seval]
 refine iu (qU [0,3,4,2,3,1,6,5]) (by kernel_rfl) (qC) (by kernel_rfl) (aa 400 ?_)
 simp (disch:=omega) only [go_sem,seval]
 refine it (qC) (hSd) [] qM (by rfl) (by rfl) (aa 400 ?_)
 simp (disch:=omega) only [go_sem,seval]
 refine⟨qC,ac 400 ?_⟩
 try simp (disch:=omega) only [go_sem,seval]
 refine fL (qI 0 22++qI 0 21) (qC) _ (by simp only [go_sem];rfl) (by rfl) (by rfl) ?_
 simp (disch:=omega) only [go_sem,seval]
theorem GU {w:WorldD} {pos many:Int} {text:List UInt8} {ad:AddrD} {le:LetterD}:eX w ⟨6,1,pos,many,text,ad,le⟩=(an 1 { w with a:=(iA w.a pos).1 } (iA w.a pos).2,0):=by
 simp [eX,dl,gD,ie,bB,cq,dT,bR]
theorem GV {w:WorldD} {pos many:Int} {text:List UInt8} {ad:AddrD} {le:LetterD}:eX w ⟨7,1,pos,many,text,ad,le⟩=(an 1 { w with a:=(ks w.a pos).1 } (ks w.a pos).2,0):=by
 simp [eX,dl,gD,ie,bB,cq,dT,bR]
theorem HD {w:WorldD} {pos many:Int} {text:List UInt8} {ad:AddrD} {le:LetterD} (hbad:¬ sideAt ad.addr=1\/(az w.a ad).2=false):eX w ⟨5,1,pos,many,text,ad,le⟩=(w,1):=by
 rcases hbad with h|h<;>simp [eX,dl,bB,h]
theorem GW {w:WorldD} {pos many:Int} {text:List UInt8} {ad:AddrD} {le:LetterD}:eX w ⟨6,2,pos,many,text,ad,le⟩=(an 2 { w with b:=(iA w.b pos).1 } (iA w.b pos).2,0):=by
 simp [eX,dl,gD,ie,bB,cq,dT,bR]
theorem GX {w:WorldD} {pos many:Int} {text:List UInt8} {ad:AddrD} {le:LetterD}:eX w ⟨7,2,pos,many,text,ad,le⟩=(an 2 { w with b:=(ks w.b pos).1 } (ks w.b pos).2,0):=by
 simp [eX,dl,gD,ie,bB,cq,dT,bR]
theorem HE {w:WorldD} {pos many:Int} {text:List UInt8} {ad:AddrD} {le:LetterD} (hbad:¬ sideAt ad.addr=2\/(az w.b ad).2=false):eX w ⟨5,2,pos,many,text,ad,le⟩=(w,1):=by
 rcases hbad with h|h<;>simp [eX,dl,bB,h]
theorem Hc (w:WorldD) (a:ActD) (hw:SmallD w) (ha:cO a=true) (h7:a.kind<=7):
  aP 164 [.sc (.pt 21 0 0),.ag a.cs] (w.hp true++[some ⟨[w.cs 0],61,44,true,false⟩]) (.sc (.int .i64 (eX w a).2))
  ((nH 21++[some ⟨[WorldD.cs (eX w a).1 22],61,44,true,false⟩])++WorldD.hp (eX w a).1 true):=by
 obtain⟨k1,k2,k3,k4,k5,k6⟩:=lk ha
 obtain⟨kind,side,pos,many,text,ad,le⟩:=a
 dsimp only at*
 have hs:side=1\/side=2:=by omega
 have hk:kind=1\/kind=2\/kind=3\/kind=4\/kind=5\/kind=6\/kind=7:=by omega
 clear ha k1 k2 k3 k4 h7
 rcases hs with rfl|rfl<;>rcases hk with rfl|rfl|rfl|rfl|rfl|rfl|rfl
 ·rw [DQ];exact FV w pos many text ad le hw k6
 ·rw [DR];exact o4 w pos many text ad le hw k6
 ·rw [DS];exact o7 w pos many text ad le hw k6
 ·rw [DT];exact o5 w pos many text ad le hw k6
 ·by_cases hb:sideAt ad.addr=1/\(az w.a ad).2=true
  ·rw [DU hb.1 hb.2];exact FW w pos many text ad le hw k6 hb.1 hb.2
  have hb:¬ sideAt ad.addr=1\/(az w.a ad).2=false:=by
   by_cases h0:sideAt ad.addr=1
   ·exact .inr (by cases h1:(az w.a ad).2;rfl;exact absurd ⟨h0,h1⟩ hb)
   exact .inl h0
  rw [HD hb];exact FF w pos many text ad le hw hb
 ·rw [GU];exact FX w pos many text ad le hw k6
 ·rw [GV];exact FY w pos many text ad le hw k6
 ·rw [DV];exact FZ w pos many text ad le hw k6
 ·rw [DW];exact o6 w pos many text ad le hw k6
 ·rw [DX];exact o8 w pos many text ad le hw k6
 ·rw [DY];exact F0 w pos many text ad le hw k6
 ·by_cases hb:sideAt ad.addr=2/\(az w.b ad).2=true
  ·rw [DZ hb.1 hb.2];exact F1 w pos many text ad le hw k6 hb.1 hb.2
  have hb:¬ sideAt ad.addr=2\/(az w.b ad).2=false:=by
   by_cases h0:sideAt ad.addr=2
   ·exact .inr (by cases h1:(az w.b ad).2;rfl;exact absurd ⟨h0,h1⟩ hb)
   exact .inl h0
  rw [HE hb];exact FG w pos many text ad le hw hb
 ·rw [GW];exact F2 w pos many text ad le hw k6
 rw [GX];exact F3 w pos many text ad le hw k6
theorem Gp (w:WorldD) (a:ActD) (hw:SmallD w) (ha:cO a=true) (h7:a.kind<=7) (hb:¬ dl w a=true):
  aP 169 [.ag (w.cs 0),.ag a.cs] (w.hp false) (.tu [.ag ((eX w a).1.cs 21),.sc (.int .i64 (eX w a).2)]) (w.hp false++(eX w a).1.hp true):=by
 obtain⟨k1,k2,k3,k4,k5,k6⟩:=lk ha
 obtain⟨kind,side,pos,many,text,ad,le⟩:=a
 dsimp only at*
 have hs:side=1\/side=2:=by omega
 have hk:kind=1\/kind=2\/kind=3\/kind=4\/kind=5\/kind=6\/kind=7:=by omega
 clear ha k1 k2 k3 k4 h7
 rcases hs with rfl|rfl<;>rcases hk with rfl|rfl|rfl|rfl|rfl|rfl|rfl
 ·rw [DQ];exact zy w pos many text ad le hw k6
 ·rw [DR];exact zz w pos many text ad le hw k6
 ·rw [DS];exact zG w pos many text ad le hw k6
 ·rw [DT];exact zA w pos many text ad le hw k6
 ·have hb:sideAt ad.addr=1/\(az w.a ad).2=true:=by
   by_cases h0:sideAt ad.addr=1<;>cases h1:(az w.a ad).2<;>simp [dl,bB,h0,h1] at hb<;>exact⟨h0,rfl⟩
  rw [DU hb.1 hb.2];exact zB w pos many text ad le hw k6 hb.1 hb.2
 ·rw [GU];exact Fi w pos many text ad le hw k6
 ·rw [GV];exact Fj w pos many text ad le hw k6
 ·rw [DV];exact zC w pos many text ad le hw k6
 ·rw [DW];exact zD w pos many text ad le hw k6
 ·rw [DX];exact zH w pos many text ad le hw k6
 ·rw [DY];exact zE w pos many text ad le hw k6
 ·have hb:sideAt ad.addr=2/\(az w.b ad).2=true:=by
   by_cases h0:sideAt ad.addr=2<;>cases h1:(az w.b ad).2<;>simp [dl,bB,h0,h1] at hb<;>exact⟨h0,rfl⟩
  rw [DZ hb.1 hb.2];exact zF w pos many text ad le hw k6 hb.1 hb.2
 ·rw [GW];exact Fk w pos many text ad le hw k6
 rw [GX];exact Fl w pos many text ad le hw k6
theorem GH (w:WorldD) (a:ActD) (hw:SmallD w) (ha:cO a=true) (h7:¬ a.kind<=7):
  aP 165 [.sc (.pt 21 0 0),.ag a.cs] (w.hp true++[some ⟨[w.cs 0],61,44,true,false⟩]) (.sc (.int .i64 (ce w a).2))
  ((nH 21++[some ⟨[WorldD.cs (ce w a).1 22],61,44,true,false⟩])++WorldD.hp (ce w a).1 true):=by
 obtain⟨k1,k2,k3,k4,k5,k6⟩:=lk ha
 obtain⟨kind,side,pos,many,text,ad,le⟩:=a
 dsimp only at*
 have hk:kind=8\/kind=9\/kind=10\/kind=11\/kind=12:=by omega
 obtain⟨p,rfl⟩:=Int.eq_ofNat_of_zero_le k5
 rcases hk with rfl|rfl|rfl|rfl|rfl
 ·exact o9 w side many p text ad le hw
 ·exact Gn w side many p text ad le hw
 ·exact F4 w side many p text ad le hw
 ·exact F5 w side many p text ad le hw
 exact F6 w side many p text ad le hw
theorem FM (w:WorldD) (a:ActD) (hw:SmallD w):aP 86 [.ag (w.cs 0),.ag a.cs] (w.hp false) (.tu [.ag ((iP w a).1.cs 21),.sc (.int .i64 (iP w a).2)]) (w.hp false++(iP w a).1.hp true):=by
 have hC:=ge w hw.p.s
 have hA:=pl a
 cases hok:cO a with
 |false=>
  rw [show iP w a=(w,3) from by rw [iP,if_neg (by simp [hok])]]
  rw [hok] at hA
  dsimp only
  refine fc Tryz.func86 (by kernel_rfl) rfl fun E hE=>ac 400 ?_
  simp (disch:=omega) only [Tryz.ntmps86,Tryz.results86,go_sem,seval]
  refine bc (qC) (hA) [] qM (by rfl) (ac 400 ?_)
  simp (disch:=omega) only [go_sem,seval]
  refine bc (qC) (hC) (qI 0 21) qM (by rfl) (ac 400 ?_)
  simp (disch:=omega) only [go_sem,seval]
  refine aB (qI 0 21++qI 24 21) (qC) _ (by simp only [go_sem];rfl) (by rfl) (by rfl) ?_
  simp (disch:=omega) only [go_sem,seval]
 |true=>
  rw [hok] at hA
  by_cases h7:a.kind<=7
  ·have hM:=Hc w a hw hok h7
   have hcode:=ps w a
   rw [show iP w a=eX w a from by rw [iP,if_pos hok,if_pos h7]]
   obtain⟨R,hR⟩:∃ R,R=eX w a:=⟨_,rfl⟩
   rw [<-hR] at hM hcode⊢
   clear hR
   obtain⟨r,c⟩:=R
   dsimp only at hM hcode⊢
   refine fc Tryz.func86 (by kernel_rfl) rfl fun E hE=>ac 400 ?_
   simp (disch:=omega) only [Tryz.ntmps86,Tryz.results86,go_sem,seval]
   refine bc (qC) (hA) [] qM (by rfl) (ac 400 ?_)
   simp (disch:=omega) only [go_sem,seval]
   refine bc (qC) (hC) (qI 0 21) qM (by rfl) (ac 400 ?_)
   simp (disch:=omega) only [go_sem,seval]
   refine bc (qC) (hM) (qI 24 22) qM (by rfl) (ac 400 ?_)
   simp (disch:=omega) only [go_sem,seval]
   by_cases hz:c=0
   ·subst hz
    try simp (disch:=omega) only [go_sem,seval]
    refine aB (qI 0 21++qI 46 21) (qC) _ (by simp only [go_sem];rfl) (by rfl) (by rfl) ?_
    simp (disch:=omega) only [go_sem,seval]
   have hr:r=w:=by rcases hcode with h|h;exact absurd h hz;exact h
   subst hr
   try simp (disch:=omega) only [go_sem,seval]
   refine bc (qC) (hC) (qI 0 21) qM (by rfl) (ac 400 ?_)
   simp (disch:=omega) only [go_sem,seval]
   refine aB (qI 0 21++qI 67 21) (qC) _ (by simp only [go_sem];rfl) (by rfl) (by rfl) ?_
   simp (disch:=omega) only [go_sem,seval]
  have hM:=GH w a hw hok h7
  have hcode:=pe w a
  rw [show iP w a=ce w a from by rw [iP,if_pos hok,if_neg h7]]
  obtain⟨R,hR⟩:∃ R,R=ce w a:=⟨_,rfl⟩
  rw [<-hR] at hM hcode⊢
  clear hR
  obtain⟨r,c⟩:=R
  dsimp only at hM hcode⊢
  refine fc Tryz.func86 (by kernel_rfl) rfl fun E hE=>ac 400 ?_
  simp (disch:=omega) only [Tryz.ntmps86,Tryz.results86,go_sem,seval]
  refine bc (qC) (hA) [] qM (by rfl) (ac 400 ?_)
  simp (disch:=omega) only [go_sem,seval]
  refine bc (qC) (hC) (qI 0 21) qM (by rfl) (ac 400 ?_)
  simp (disch:=omega) only [go_sem,seval]
  refine bc (qC) (hM) (qI 24 22) qM (by rfl) (ac 400 ?_)
  simp (disch:=omega) only [go_sem,seval]
  by_cases hz:c=0
  ·subst hz
   try simp (disch:=omega) only [go_sem,seval]
   refine aB (qI 0 21++qI 46 21) (qC) _ (by simp only [go_sem];rfl) (by rfl) (by rfl) ?_
   simp (disch:=omega) only [go_sem,seval]
  have hr:r=w:=by rcases hcode with h|h;exact absurd h hz;exact h
  subst hr
  try simp (disch:=omega) only [go_sem,seval]
  refine bc (qC) (hC) (qI 0 21) qM (by rfl) (ac 400 ?_)
  simp (disch:=omega) only [go_sem,seval]
  refine aB (qI 0 21++qI 67 21) (qC) _ (by simp only [go_sem];rfl) (by rfl) (by rfl) ?_
  simp (disch:=omega) only [go_sem,seval]
theorem Hd (w:WorldD) (a:ActD) (hw:SmallD w):aP 88 [.ag (w.cs 0),.ag a.cs] (w.hp false) (.tu [.ag ((iP w a).1.cs 21),.sc (.int .i64 (iP w a).2)]) (w.hp false++(iP w a).1.hp true):=by
 have hC:=gi w hw.p.s
 have hA:=B8 a
 have hI:=ak a.kind 1 7
 cases hok:cO a with
 |false=>
  rw [show iP w a=(w,3) from by rw [iP,if_neg (by simp [hok])]]
  rw [hok] at hA
  dsimp only
  refine qE Tryz.func88 Tryz.ntmps88 Tryz.results88 fun E hE=>?_
  refine qK (hC) (qI 0 21) ?_
  refine qK (hA) [] ?_
  exact qF (qI 0 21++qI 24 21)
 |true=>
  rw [hok] at hA
  obtain⟨k1,k2,k3,k4,k5,k6⟩:=lk hok
  by_cases h7:a.kind<=7
  ·rw [show iP w a=eX w a from by rw [iP,if_pos hok,if_pos h7]]
   have hin:bj a.kind 1 7=true:=by simp only [bj,Bool.and_eq_true,decide_eq_true_eq];omega
   rw [hin] at hI
   by_cases hb:dl w a=true
   ·have hQ:=A0 w a hw hok hb
    rw [DC hb]
    dsimp only
    refine qE Tryz.func88 Tryz.ntmps88 Tryz.results88 fun E hE=>?_
    refine qK (hC) (qI 0 21) ?_
    refine qK (hA) [] ?_
    refine qK (hI) [] ?_
    refine qK (hQ) (qI 24 21) ?_
    exact qF (qI 0 21++qI 45 21)
   have hQ:=Gp w a hw hok h7 hb
   obtain⟨R,hR⟩:∃ R,R=eX w a:=⟨_,rfl⟩
   rw [<-hR] at hQ⊢
   clear hR
   obtain⟨r,c⟩:=R
   dsimp only at hQ⊢
   refine qE Tryz.func88 Tryz.ntmps88 Tryz.results88 fun E hE=>?_
   refine qK (hC) (qI 0 21) ?_
   refine qK (hA) [] ?_
   refine qK (hI) [] ?_
   refine qK (hQ) (qI 24 21) ?_
   exact qF (qI 0 21++qI 45 21)
  rw [show iP w a=ce w a from by rw [iP,if_pos hok,if_neg h7]]
  have hin:bj a.kind 1 7=false:=by simp only [bj,Bool.and_eq_false_iff,decide_eq_false_iff_not];omega
  rw [hin] at hI
  by_cases h10:a.kind<=10
  ·have hQ:=Bl w a hw hok h7 h10
   obtain⟨R,hR⟩:∃ R,R=ce w a:=⟨_,rfl⟩
   rw [<-hR] at hQ⊢
   clear hR
   obtain⟨r,c⟩:=R
   dsimp only at hQ⊢
   refine qE Tryz.func88 Tryz.ntmps88 Tryz.results88 fun E hE=>?_
   refine qK (hC) (qI 0 21) ?_
   refine qK (hA) [] ?_
   refine qK (hI) [] ?_
   refine qK (hQ) (qI 24 21) ?_
   exact qF (qI 0 21++qI 46 21)
  obtain⟨kind,side,pos,many,text,ad,le⟩:=a
  dsimp only at*
  have hbag:=hw.p.s.bag
  have hpast:=hw.p.s.past
  have hk:kind=11\/kind=12:=by omega
  clear h7 h10 k1 k2 hok
  rcases hk with rfl|rfl
  ·have hM:=Ff w le hw.p.s.keys hw.p.s.tags hw.p.s.nums
   cases hm:xa w le with
   |false=>
    rw [Hw hm]
    rw [hm] at hM
    dsimp only
    refine qE Tryz.func88 Tryz.ntmps88 Tryz.results88 fun E hE=>?_
    refine qK (hC) (qI 0 21) ?_
    refine qK (hA) [] ?_
    refine qK (hI) [] ?_
    refine qK (hM) (qI 24 21) ?_
    exact qF (qI 0 21++qI 24 21)
   |true=>
    rw [hm] at hM
    by_cases h4:40<=w.bag.length
    ·rw [Hx hm h4]
     dsimp only
     refine qE Tryz.func88 Tryz.ntmps88 Tryz.results88 fun E hE=>?_
     refine qK (hC) (qI 0 21) ?_
     refine qK (hA) [] ?_
     refine qK (hI) [] ?_
     refine qK (hM) (qI 24 21) ?_
     exact qF (qI 0 21++qI 24 21)
    rw [Hy hm h4]
    dsimp only
    refine qE Tryz.func88 Tryz.ntmps88 Tryz.results88 fun E hE=>?_
    refine qK (hC) (qI 0 21) ?_
    refine qK (hA) [] ?_
    refine qK (hI) [] ?_
    refine qK (hM) (qI 24 21) ?_
    refine qJ (qI 0 21++qI 24 14++qI 47 1++qI 39 6) ?_
    simp [LetterD.cs]
  obtain⟨p,rfl⟩:=Int.eq_ofNat_of_zero_le k5
  by_cases hp:p < w.past.length
  ·have hx:=aT (enc:=LetterD.cs) hp
   have hq1:= @HA w side many p text ad le hp
   have hq2:= @HC w side many p text ad le hp
   obtain⟨R,hR⟩:∃ R,R=ce w ⟨12,side,(p:Nat),many,text,ad,le⟩:=⟨_,rfl⟩
   change _=ce w _ at hR
   rw [<-hR] at hq1 hq2
   try rw [<-hR]
   clear hR
   generalize hxx:w.past[p]=x at*
   have hS:=cV x.to
   generalize sideAt x.to=sd at*
   by_cases h0:sd=0
   ·rw [hq1 (.inl h0)]
    dsimp only
    refine qE Tryz.func88 Tryz.ntmps88 Tryz.results88 fun E hE=>?_
    refine qK (hC) (qI 0 21) ?_
    refine qK (hA) [] ?_
    refine qK (hI) [] ?_
    try simp (disch:=omega) only [go_sem,seval,hx,hxx]
    refine qK (hS) [] ?_
    exact qF (qI 0 21++qI 24 21)
   by_cases h4:40<=w.bag.length
   ·rw [hq1 (.inr h4)]
    dsimp only
    refine qE Tryz.func88 Tryz.ntmps88 Tryz.results88 fun E hE=>?_
    refine qK (hC) (qI 0 21) ?_
    refine qK (hA) [] ?_
    refine qK (hI) [] ?_
    try simp (disch:=omega) only [go_sem,seval,hx,hxx]
    refine qK (hS) [] ?_
    exact qF (qI 0 21++qI 24 21)
   rw [hq2 h0 h4]
   dsimp only
   refine qE Tryz.func88 Tryz.ntmps88 Tryz.results88 fun E hE=>?_
   refine qK (hC) (qI 0 21) ?_
   refine qK (hA) [] ?_
   refine qK (hI) [] ?_
   try simp (disch:=omega) only [go_sem,seval,hx,hxx]
   refine qK (hS) [] ?_
   refine qX ?_
   refine qJ (qI 0 21++qI 24 14++qI 47 1++qI 39 6) ?_
   simp [LetterD.cs]
  rw [Hz hp]
  dsimp only
  refine qE Tryz.func88 Tryz.ntmps88 Tryz.results88 fun E hE=>?_
  refine qK (hC) (qI 0 21) ?_
  refine qK (hA) [] ?_
  refine qK (hI) [] ?_
  exact qF (qI 0 21++qI 24 21)
end
end Go.Proofs.YtjghbknhneffjaaGreat
