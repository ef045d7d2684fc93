/-
  Texts merged for this claim by shake.py: what its proof needs.
-/
import Derived.Test.YtjghbknhneffjaaGreatZFnB2K
import Derived.Test.YtjghbknhneffjaaGreatZFnB2L
set_option maxHeartbeats 16000000
set_option maxRecDepth 100000
set_option linter.unusedVariables false
set_option linter.unusedSimpArgs false
namespace Go.Proofs.YtjghbknhneffjaaGreat
section
open Go.RowKit
end
section
open Go.RowKit
section
variable {P:Program} {β:Be} {s:S} {a:Act} {w:World} {o:Oper} {r:OpR} {ty:TypeId}
end
end
section
open Go.RowKit
end
section
open Go.ChangeShapes Go.WideShapes Go.ChangeAt Go.RowKit
section
variable {H:Type} {enc:TypeId×Value->H} {P:Program} {w:World} {base:Nat} {held:Bool}
end
end
section
open Go.RowKit
end
section
end
section
theorem Gd {l m:List Int} {t:Int} {most k:Nat} (h:k < m.length):kg l t most (m.drop k)=kg l t (max most (yF l m[k] t)) (m.drop (k+1)):=by
 rw [List.drop_eq_getElem_cons h,kg]
theorem Ge {α:Type} {p:α->Bool} {l:List α} {k:Nat} (h:k < l.length):((l.take (k+1)).filter p).length=((l.take k).filter p).length+(if p l[k] then 1 else 0):=by
 rw [List.take_succ_eq_append_getElem h,List.filter_append,List.length_append]
 by_cases hp:p l[k]<;>simp [hp]
theorem Fa {α:Type} {p:α->Bool} {l:List α} {k:Nat}:((l.take k).filter p).length<=l.length:=by
 refine Nat.le_trans (List.length_filter_le _ _) ?_
 simp;omega
def zs (b:BucketD) (t:Int):Int:=if bucketOk b && bj t 0 100000 then b.burst+b.rate*t else 0
def gated (l:List Int) (ticks:Int):Bool:=bj ticks 1 100 && (List.range ticks.toNat).all fun k=>decide ((vt l (k+1:Nat):Int)<=3+((k+1:Nat):Int))
def modest (e:EndD):Bool:=fresh e && decide ((e.halfs.length:Int)<=4) && decide ((e.subs.length:Int)<=8)
def ek (w:WorldD):Bool:=gated w.answersA 20 && gated w.answersB 20 && modest w.a && modest w.b
end
section
end
section
end
section
open Go.RowKit
theorem b5 (e:EndD) (hl:e.halfs.length<=1048576):aP 42 [.ag (e.cs 0)] (e.hp false) (.sc (.bo (fresh e))) (e.hp false):=by
 refine qE Tryz.func42 Tryz.ntmps42 Tryz.results42 fun E hE=>?_
 refine jx 7 hE (fun s (k:Nat)=>s.at (qU [0,1,2,1,4,2,9,19]) [(8,.sc (.int .i64 (k:Nat)))] (s.hp)) (fun (k:Nat)=>k<=e.halfs.length/\(e.halfs.drop k).all (fun h=> !Bd e.now h)=fresh e) (fun (k:Nat)=>e.halfs.length - k) 0 (qI 0 8) (⟨Nat.zero_le _,rfl⟩) fun k hk N hN=>?_
 obtain⟨hk1,hk2⟩:=hk
 refine qR ?_
 refine qB (fun h=>?_) fun h=>?_
 ·rw [yC h] at hk2
  refine qX ?_
  refine qB (fun h2=>?_) fun h2=>?_
  ·refine qB (fun h3=>?_) fun h3=>?_
   ·have hp:Bd e.now e.halfs[k]=true:=by simp [Bd,h3]
    rw [hp] at hk2
    refine qJ (qI 0 7) ?_
    exact hk2
   have hp:Bd e.now e.halfs[k]=false:=by simp [Bd];omega
   rw [hp] at hk2
   exact qN hN (k+1) (qI 0 8) (by (try dsimp only);exact⟨by omega,hk2⟩)
  have hp:Bd e.now e.halfs[k]=true:=by simp [Bd,h2]
  rw [hp] at hk2
  refine qJ (qI 0 7) ?_
  exact hk2
 rw [p0 (by omega)] at hk2
 refine qJ (qI 0 7) ?_
 exact hk2
theorem p1 (a b:Nat):(if (a:Int) < (b:Int) then (b:Int) else (a:Int))=((max a b:Nat):Int):=by
 split<;>omega
theorem b4 (l:List Int) (t:Int) (hl:l.length<=1048576):aP 39 [.sc (.sl 0 0 l.length),.sc (.int .i64 t)] [some ⟨l.map aM,1,3,false,true⟩] (.sc (.int .i64 (vt l t:Nat))) [some ⟨l.map aM,1,3,false,true⟩]:=by
 refine qE Tryz.func39 Tryz.ntmps39 Tryz.results39 fun E hE=>?_
 refine qK (Bg _ _ _) [] ?_
 refine qB (fun h1=>?_) fun h1=>?_
 ·refine qB (fun h2=>?_) fun h2=>?_
  ·refine qJ (qI 0 1) ?_
   rw [vt,if_neg (by simp [bj];omega)]
   rfl
  have hm:vt l t=kg l t 0 l:=by rw [vt,if_pos ⟨h1,by omega⟩]
  rw [hm]
  refine qX ?_
  refine jx 1 hE (fun s (x:Nat×Nat)=>s.at (qU [7,2,10,9,22,29]) [(21,.sc (.int .i64 (x.1:Nat))),(5,.sc (.int .i64 (x.2:Nat)))] (s.hp)) (fun (x:Nat×Nat)=>x.1<=l.length/\x.2<=l.length/\kg l t x.2 (l.drop x.1)=kg l t 0 l) (fun (x:Nat×Nat)=>l.length - x.1) (0,0) (qI 0 1) (⟨Nat.zero_le _,Nat.zero_le _,rfl⟩) fun x hx N hN=>?_
  obtain⟨k,most⟩:=x
  obtain⟨hk1,hk2,hk3⟩:=hx
  dsimp only at hk1 hk2 hk3
  refine qR ?_
  refine qB (fun h3=>?_) fun h3=>?_
  ·rw [Gd h3] at hk3
   refine qX ?_
   refine jx 1 hE (fun s (y:Nat×Nat)=>s.at (qU [10,9,23,2,28,23]) [(27,.sc (.int .i64 (y.1:Nat))),(8,.sc (.int .i64 (y.2:Nat)))] (s.hp)) (fun (y:Nat×Nat)=>y.1<=l.length/\y.2=((l.take y.1).filter fun x=>yE x l[k] t).length) (fun (y:Nat×Nat)=>l.length - y.1) (0,0) (qI 0 1) (⟨Nat.zero_le _,by simp⟩) fun y hy N2 hN2=>?_
   obtain⟨j,n⟩:=y
   obtain⟨hy1,hy2⟩:=hy
   dsimp only at hy1 hy2
   have hn:n<=l.length:=by rw [hy2];exact Fa
   refine qR ?_
   refine qB (fun h4=>?_) fun h4=>?_
   ·have hs:=Ge (p:=fun x=>yE x l[k] t) h4
    refine qX ?_
    refine qB (fun h5=>?_) fun h5=>?_
    ·refine qB (fun h6=>?_) fun h6=>?_
     ·have hp:yE l[j] l[k] t=true:=by simp [yE,h5,h6]
      rw [hp,if_pos rfl,<-hy2] at hs
      exact qN hN2 (j+1,n+1) (qI 0 1) (by (try dsimp only);exact⟨by omega,hs.symm⟩)
     have hp:yE l[j] l[k] t=false:=by simp [yE,h5];omega
     rw [hp,if_neg (by simp),<-hy2] at hs
     exact qN hN2 (j+1,n) (qI 0 1) (by (try dsimp only);exact⟨by omega,hs.symm⟩)
    have hp:yE l[j] l[k] t=false:=by simp [yE];omega
    rw [hp,if_neg (by simp),<-hy2] at hs
    exact qN hN2 (j+1,n) (qI 0 1) (by (try dsimp only);exact⟨by omega,hs.symm⟩)
   have hj:j=l.length:=by omega
   subst hj
   rw [List.take_length] at hy2
   rw [show yF l l[k] t=n from hy2.symm] at hk3
   refine qX ?_
   refine⟨qC,hN _ (k+1,max most n) (qI 0 1) (by (try dsimp only);exact⟨by omega,by omega,hk3⟩) (by (try dsimp only);omega) (bw (by rfl) (by rfl) ?_)⟩
   try simp (disch:=omega) only [go_sem,seval,p1]
  rw [List.drop_eq_nil_of_le (by omega),kg] at hk3
  refine qJ (qI 0 1) ?_
  rw [hk3]
 refine qJ (qI 0 1) ?_
 rw [vt,if_neg (by simp [h1])]
 rfl
theorem kk (b:BucketD) (t:Int):aP 99 [.ag b.cs,.sc (.int .i64 t)] [] (.sc (.int .i64 (zs b t))) []:=by
 refine qE Tryz.func99 Tryz.ntmps99 Tryz.results99 fun E hE=>?_
 refine qK (c8 b) [] ?_
 refine qB (fun h1=>?_) fun h1=>?_
 ·refine qK (Bg _ _ _) [] ?_
  refine qB (fun h2=>?_) fun h2=>?_
  ·refine qJ [] ?_
   simp [zs,h1,h2]
  have h1':=h1
  have h2':=h2
  simp only [bucketOk,bj,Bool.and_eq_true,decide_eq_true_eq] at h1' h2'
  obtain⟨⟨⟨r0,r1⟩,b0,b1⟩,c0,c1⟩:=h1'
  obtain⟨t0,t1⟩:=h2'
  have m0:0<=b.rate*t:=Int.mul_nonneg r0 t0
  have m1:b.rate*t<=100*100000:=Int.mul_le_mul r1 t1 t0 (by omega)
  refine qJ [] ?_
  simp only [zs,h1,h2,Bool.and_self,if_true]
  try rw [ym (n:=b.rate*t) (by omega),ym (by omega)]
 refine qJ [] ?_
 simp [zs,h1]
theorem Fc (r b:Int):aP 98 [.sc (.int .i64 r),.sc (.int .i64 b)] [] (.tu [.ag (BucketD.cs (if bucketOk ⟨r,b,b⟩ then⟨r,b,b⟩ else⟨0,0,0⟩)),.sc (.bo (bucketOk ⟨r,b,b⟩))]) []:=by
 obtain⟨R,hR⟩:∃ R,R=(if bucketOk ⟨r,b,b⟩ then (⟨r,b,b⟩:BucketD) else⟨0,0,0⟩):=⟨_,rfl⟩
 rw [<-hR]
 refine qE Tryz.func98 Tryz.ntmps98 Tryz.results98 fun E hE=>?_
 refine qK (c8 ⟨r,b,b⟩) [] ?_
 refine qB (fun h1=>?_) fun h1=>?_
 ·rw [h1,if_neg (by simp)] at hR
  subst hR
  refine qP [] ?_
  first|exact⟨⟩|exact⟨⟨rfl,rfl,rfl⟩,h1⟩
 rw [h1,if_pos rfl] at hR
 subst hR
 refine qP [] ?_
 first|exact⟨⟩|exact⟨⟨rfl,rfl,rfl⟩,h1⟩
theorem G8 (c:Int) (h:0<=c/\c<=3) (t:Int) (ht:1<=t/\t<=100):zs ⟨1,3,c⟩ t=3+t:=by
 have h1:bucketOk ⟨1,3,c⟩=true:=by simp [bucketOk,bj];omega
 have h2:bj t 0 100000=true:=by simp [bj];omega
 simp only [zs,h1,h2,Bool.and_self,if_true]
 omega
theorem G9 {l:List Int} {n:Int} (h:bj n 1 100=true) (ha:∀ j:Nat,(j:Int)+1<=n->(vt l ((j:Int)+1):Int)<=3+((j:Int)+1)):gated l n=true:=by
 simp only [gated,h,Bool.true_and,List.all_eq_true,List.mem_range,decide_eq_true_eq]
 intro k hk
 have:=ha k (by omega)
 simpa using this
theorem G_ {l:List Int} {n:Int} {j:Nat} (hj:(j:Int)+1<=n) (hb:¬ (vt l ((j:Int)+1):Int)<=3+((j:Int)+1)):gated l n=false:=by
 cases h:gated l n with
 |false=>rfl
 |true=>
  simp only [gated,Bool.and_eq_true,List.all_eq_true,List.mem_range,decide_eq_true_eq] at h
  have:=h.2 j (by omega)
  exact absurd (by simpa using this) hb
theorem f0 (l:List Int) (n:Int) (hl:l.length<=1048576):aP 41 [.sc (.sl 0 0 l.length),.sc (.int .i64 n)] [some ⟨l.map aM,1,3,false,true⟩] (.sc (.bo (gated l n))) [some ⟨l.map aM,1,3,false,true⟩]:=by
 refine qE Tryz.func41 Tryz.ntmps41 Tryz.results41 fun E hE=>?_
 refine qK (Bg _ _ _) [] ?_
 refine qB (fun h1=>?_) fun h1=>?_
 ·have hg:gated l n=false:=by simp [gated,h1]
  rw [hg]
  exact qF (qI 0 1)
 have h1':=h1
 simp only [bj,Bool.and_eq_true,decide_eq_true_eq] at h1'
 have hb:bucketOk ⟨1,3,3⟩=true:=by decide
 refine qK (Fc 1 3) [] ?_
 simp only [hb,if_true]
 refine qX ?_
 refine jx 1 hE (fun s (t:Nat)=>s.at (qU [4,1,6,1,8,19]) [(7,.sc (.int .i64 (t:Nat)))] (s.hp)) (fun (t:Nat)=>1<=t/\(t:Int)<=n+1/\∀ j:Nat,(j:Int)+1 < t->(vt l ((j:Int)+1):Int)<=3+((j:Int)+1)) (fun (t:Nat)=>n.toNat+1 - t) 1 (qI 0 2) (⟨by decide,by omega,fun j hj=>by omega⟩) fun t ht N hN=>?_
 obtain⟨ht1,ht2,ht3⟩:=ht
 refine qR ?_
 refine qB (fun h2=>?_) fun h2=>?_
 ·refine qD [0,1,3,4,2,5,6] ?_
  refine aQ (b4 l t hl) (qI 0 1) ?_
  refine aQ (kk ⟨1,3,3⟩ t) [] ?_
  rw [G8 3 (by omega) t (by omega)]
  refine qG ?_
  obtain⟨j,rfl⟩:∃ j,t=j+1:=⟨t - 1,by omega⟩
  refine qB (fun h3=>?_) fun h3=>?_
  ·refine qJ (qI 0 1) ?_
   rw [G_ (j:=j) (by omega)]
   rw [show ((j:Int)+1)=((j+1:Nat):Int) from by omega]
   omega
  have hr:∀ i:Nat,(i:Int)+1 < ((j+1+1:Nat):Int)->(vt l ((i:Int)+1):Int)<=3+((i:Int)+1):=by
   intro i hi
   rcases (by omega:(i:Int)+1 < ((j+1:Nat):Int)\/i=j) with h|rfl
   ·exact ht3 i h
   rw [show ((i:Int)+1)=((i+1:Nat):Int) from by omega];omega
  exact qN hN (j+1+1) (qI 0 2) (by (try dsimp only);exact⟨by omega,by omega,hr⟩)
 rw [G9 h1 (fun j hj=>ht3 j (by omega))]
 exact qF (qI 0 1)
theorem Ha (e:EndD) (n:Int) (hs:Small e):aP 237 [.ag (e.cs 0),.sc (.int .i64 n)] (e.hp false) (.tu [.ag ((eD e n).1.cs 7),.sc (.sl 14 0 (eD e n).2.length)])
  (e.hp false++((eD e n).1.hp true++[some ⟨(eD e n).2.map LetterD.cs,19,48,true,true⟩])):=by
 have hC:=(qH (jF e))
 have hK:=(qH (ap e))
 have hf:=AD (e:=e) (n:=n)
 have ht:= @AE e n
 have hk:=mA.eq_1 e n
 have hS:=fun r=>a7 e r (by have:=hs.subs;omega)
 rw [gZ] at hk
 generalize eD e n=R at*
 refine qE Tryz.func237 Tryz.ntmps237 Tryz.results237 fun E hE=>?_
 refine qK (hC) (qI 0 7) ?_
 refine qK (hK) (qI 0 7) ?_
 refine qB (fun h1=>?_) fun h1=>?_
 ·refine qB (fun h2=>?_) fun h2=>?_
  ·refine qB (fun h3=>?_) fun h3=>?_
   ·refine qK (Bg _ _ _) [] ?_
    refine qB (fun h4=>?_) fun h4=>?_
    ·refine qB (fun h5=>?_) fun h5=>?_
     ·refine qK (bp e) (qI 0 7) ?_
      refine qB (fun h6=>?_) fun h6=>?_
      ·rw [hf (by rw [hk];first|(simp [h6];done)|(simp [h6];intros;omega))]
       exact qF (qI 0 7++qI 9 7++qO 1)
      obtain⟨a,ha⟩:∃ a,e.own[0]'(by omega)=a:=⟨_,rfl⟩
      have ha2:e.own.getD 0 default=a:=by rw [<-ha,List.getD_eq_getElem?_getD,List.getElem?_eq_getElem (by omega)];rfl
      rw [ha2] at hk
      try simp (disch:=omega) only [go_sem,seval,ha]
      refine qK (hS ⟨a.addr,n,0⟩) (qI 0 7) ?_
      refine qB (fun h7=>?_) fun h7=>?_
      ·rw [hf (by rw [hk];first|(simp [h7];done)|(simp [h7];intros;omega))]
       exact qF (qI 0 7++qI 9 7++qO 1)
      rw [ht (a:=a) (by rw [hk,h1,h4,h6,decide_eq_true (by omega:e.state=0),decide_eq_false (by omega:¬ e.own.length=0),decide_eq_true (by have:=b_ h1;omega:e.subs.length < 8),decide_eq_true (by omega:aU e.subs ⟨a.addr,n,0⟩< 0)];rfl) ha2]
      refine qK (b9 e h6) (qI 9 8) ?_
      refine aO [(6,7)] [(qU [0,9]),[0,1,2,3,4,5,7,6,8]] (by kernel_rfl) (qC) (by kernel_rfl) ?_
      simp only [bm]
      refine⟨aa 400 ?_,aa 400 ?_⟩
      all_goals simp (disch:=omega) only [go_sem,seval]
      all_goals
       refine aQ (a0 ⟨a.addr,n,0⟩ { ah with kind:=1,key:=e.draw,give:=e.draw+2 }) [] ?_
       refine qG ?_
       refine qP (qI 0 7++qI 9 2++qI 19 1++qI 12 4++qI 20 1) ?_
       first|exact⟨⟩|simp [SubD.cs,LetterD.cs,aq,ah]
     rw [hf (by rw [hk];first|(simp [h5];done)|(simp [h5];intros;omega))]
     exact qF (qI 0 7++qI 9 7++qO 1)
    rw [hf (by rw [hk];first|(simp [h4];done)|(simp [h4];intros;omega))]
    exact qF (qI 0 7++qI 9 7++qO 1)
   rw [hf (by rw [hk,decide_eq_true (by omega:e.own.length=0)];simp)]
   exact qF (qI 0 7++qI 9 7++qO 1)
  rw [hf (by rw [hk];first|(simp [h2];done)|(simp [h2];intros;omega))]
  exact qF (qI 0 7++qI 9 7++qO 1)
 rw [hf (by rw [hk];first|(simp [h1];done)|(simp [h1];intros;omega))]
 exact qF (qI 0 7++qI 9 7++qO 1)
theorem Gl {x y:EndD} {l:List LetterD} {k:Nat} (h:k < l.length):gb x (l.drop k) y=gb ((ax y l[k]).2.foldl Ch x) (l.drop (k+1)) (ax y l[k]).1:=by
 rw [List.drop_eq_getElem_cons h];rfl
theorem GG {x y:EndD} {l:List LetterD} {k:Nat} (h:l.length<=k):gb x (l.drop k) y=(x,y):=by
 rw [List.drop_eq_nil_of_le h];rfl
theorem Hb (a b:EndD) (ha:Small a) (hb:Small b):aP 162 [.ag (a.cs 0),.ag (b.cs 7)] (a.hp false++b.hp false) (.tu [.ag ((pX a b).1.cs 14),.ag ((pX a b).2.1.cs 21),.sc (.bo (pX a b).2.2)])
  (a.hp false++(b.hp false++((pX a b).1.hp true++(pX a b).2.1.hp true))):=by
 have hCa:=jF a (by have:=ha.own;omega) (by have:=ha.far;omega) (by have:=ha.subs;omega) (by have:=ha.halfs;omega) (by have:=ha.list;omega) (by have:=ha.done;omega) (by have:=ha.over;omega)
 have hCb:=jF b (by have:=hb.own;omega) (by have:=hb.far;omega) (by have:=hb.subs;omega) (by have:=hb.halfs;omega) (by have:=hb.list;omega) (by have:=hb.done;omega) (by have:=hb.over;omega)
 have h0:= @BR a b
 have ht:= @BS a b
 have hbo:=hb.own
 obtain⟨R,hR⟩:∃ R,R=pX a b:=⟨_,rfl⟩
 rw [<-hR] at h0 ht⊢
 clear hR
 refine gU Tryz.func162 Tryz.ntmps162 Tryz.results162 fun E hE=>?_
 refine qB (fun h1=>?_) fun h1=>?_
 ·rw [h0 (by omega)]
  refine qD [0,2,1,3,4,5,6] ?_
  refine aQ (hCa) (qI 0 7) ?_
  refine aQ (hCb) (qI 7 7) ?_
  refine qG ?_
  exact dk (qI 0 14++qI 18 14)
 obtain⟨d,hd⟩:∃ d,b.own[0]'(by omega)=d:=⟨_,rfl⟩
 have hd2:b.own.getD 0 default=d:=by rw [<-hd,List.getD_eq_getElem?_getD,List.getElem?_eq_getElem (by omega)];rfl
 have hO:=Ha a d.addr ha
 have hx1:=wT a d.addr
 have hxs:=rK (n:=d.addr) ha
 obtain⟨P,hP⟩:∃ P,P=eD a d.addr:=⟨_,rfl⟩
 rw [<-hP] at hO hx1 hxs
 obtain⟨x,L⟩:=P
 dsimp only at hO hx1 hxs
 have ht:=ht (by omega) hd2 hP.symm
 clear hP
 obtain⟨X,Y,hXY⟩:∃ X Y,gb x L b=(X,Y):=⟨_,_,rfl⟩
 rw [hXY] at ht
 dsimp only at ht
 subst ht
 refine qX ?_
 refine cG [(6,10)] [] [(qU [0,13]),(qU [0,6,10,1,6,4,11,2])] 14 hE (fun s=>s.at (qU [26,10]) [(7,.sc (.pt 26 0 0)),(8,.sc (.sl 25 0 L.length))] (s.hp++(x.hp true++[some ⟨L.map LetterD.cs,19,48,true,true⟩,some ⟨[EndD.cs x 18],25,38,true,false⟩]))) (by kernel_rfl) (qC) (by kernel_rfl) ?_ (ac 400 ?_)
 rotate_left
 rotate_right
 simp only [bm]
 refine⟨aa 400 ?_,aa 400 ?_⟩
 ·try simp (disch:=omega) only [go_sem,seval,hd]
  refine aQ (hO) (qI 0 7) ?_
  refine⟨qC,(qI 0 27),ab (by rfl) (by rfl) ?_⟩
  try simp (disch:=omega) only [go_sem,seval]
 ·try simp (disch:=omega) only [go_sem,seval,hd]
  refine aQ (hO) (qI 0 7) ?_
  refine⟨qC,(qI 0 18++qI 19 8++qI 18 1),ab (by rfl) (by rfl) ?_⟩
  try simp (disch:=omega) only [go_sem,seval]
 refine qX ?_
 refine qK (hCb) (qI 7 7) ?_
 refine qX ?_
 refine tD 14 hE (fun s (y:Nat×EndD×EndD)=>s.at (qU [0,4,8,1,11,3,15,23,41,25]) [(40,.sc (.int .i64 (y.1:Nat)))] ((s.hp.take 18)++(y.2.1.hp true++(((s.hp.drop 25).take 1)++(some ⟨[EndD.cs y.2.1 18],25,38,true,false⟩::(y.2.2.hp true++[some ⟨[EndD.cs y.2.2 27],25,38,true,false⟩])))))) (fun (y:Nat×EndD×EndD)=>y.1<=L.length/\Small y.2.1/\Small y.2.2/\gb y.2.1 (L.drop y.1) y.2.2=(X,Y)) (fun (y:Nat×EndD×EndD)=>L.length - y.1) (0,x,b) (qI 0 35) (⟨Nat.zero_le _,hxs,hb,hXY⟩) fun y hy N hN=>?_
 obtain⟨k,u,y⟩:=y
 obtain⟨f1,f2,f3,f4⟩:=hy
 dsimp only at f1 f2 f3 f4
 refine qR ?_
 refine qB (fun b1=>?_) fun b1=>?_
 ·have hgl:=aT (enc:=LetterD.cs) b1
  rw [Gl b1] at f4
  have hH:=fn y L[k] f3
  have hHs:=rL (x:=L[k]) f3
  have hH1:=wU (e:=y) (x:=L[k])
  generalize hl0:L[k]=l0 at*
  obtain⟨Q,hQ⟩:∃ Q,Q=ax y l0:=⟨_,rfl⟩
  rw [<-hQ] at hH hHs hH1 f4
  obtain⟨y1,bk⟩:=Q
  dsimp only at hH hHs hH1 f4
  try simp (disch:=omega) only [go_sem,seval,hl0]
  refine qK (hH) (qI 27 7) ?_
  refine qX ?_
  refine tD 14 hE (fun s (z:Nat×EndD)=>s.at (qU [0,4,8,1,15,23,42,9,54,12]) [(53,.sc (.int .i64 (z.1:Nat)))] ((s.hp.take 18)++(z.2.hp true++(((s.hp.drop 25).take 1)++(some ⟨[EndD.cs z.2 18],25,38,true,false⟩::s.hp.drop 27))))) (fun (z:Nat×EndD)=>z.1<=bk.length/\Small z.2/\(bk.drop z.1).foldl Ch z.2=bk.foldl Ch u) (fun (z:Nat×EndD)=>bk.length - z.1) (0,u) (qI 0 45) (⟨Nat.zero_le _,f2,rfl⟩) fun z hz N2 hN2=>?_
  obtain⟨j,v⟩:=z
  obtain⟨q1,q2,q3⟩:=hz
  dsimp only at q1 q2 q3
  refine qR ?_
  refine qB (fun b2=>?_) fun b2=>?_
  ·have hgm:=aT (enc:=LetterD.cs) b2
   rw [tY b2] at q3
   have hB:=ka v bk[j] q2
   have hBs:=tX (x:=bk[j]) q2
   generalize hm0:bk[j]=m at*
   obtain⟨Q,hQ⟩:∃ Q,Q=aS v m:=⟨_,rfl⟩
   rw [<-hQ] at hB hBs q3
   try simp (disch:=omega) only [go_sem,seval,hm0]
   refine qK (hB) (qI 18 7) ?_
   refine qX ?_
   exact Cs hN2 (j+1,Q.1) (qI 0 18++qI 46 7++qI 25 20) (by (try dsimp only);exact⟨by omega,hBs,q3⟩)
  rw [wV (by omega)] at q3
  rw [<-q3] at f4
  refine qX ?_
  exact Cs hN (k+1,v,y1) (qI 0 27++qI 36 7++qI 34 1) (by (try dsimp only);exact⟨by omega,q2,hHs,f4⟩)
 rw [GG (by omega)] at f4
 simp only [Prod.mk.injEq] at f4
 obtain⟨rfl,rfl⟩:=f4
 rcases t6 u y with⟨c1,hm⟩|⟨c1,c2,hm⟩|⟨c1,c2,c3,hm⟩|⟨c1,c2,c3,c4,hm⟩|⟨c1,c2,c3,c4,hm⟩
 all_goals
  rw [hm]
  refine qX ?_
  refine aO [(1,24),(19,24),(19,25),(21,24),(21,25)] [(qU [0,1,2,17,20,1,1,1,19,1,21,6]),(qU [0,1,2,17,20,1,1,1,19,1,24,1,21,3,25,2]),(qU [0,1,2,17,20,1,1,1,19,1,24,2,21,3,26,1]),(qU [0,1,2,17,20,1,1,1,21,1,24,1,19,1,22,2,25,2]),(qU [0,1,2,17,20,1,1,1,24,1,19,1,21,3,25,2]),(qU [0,1,2,17,20,1,1,1,24,1,19,1,25,1,21,3,26,1]),(qU [0,1,2,17,20,1,1,1,21,1,24,2,19,1,22,2,26,1]),(qU [0,1,2,17,20,1,1,1,24,1,21,1,25,1,19,1,22,2,26,1]),(qU [0,1,2,17,20,1,1,1,24,2,19,1,21,3,26,1]),(qU [0,1,2,17,20,1,19,1,21,4,1,1,25,2]),(qU [0,1,2,17,20,1,19,1,24,1,1,1,21,3,25,2]),(qU [0,1,2,17,20,1,19,1,24,1,1,1,25,1,21,3,26,1]),(qU [0,1,2,17,20,2,24,1,1,1,19,1,22,2,25,2]),(qU [0,1,2,17,20,1,24,1,1,1,19,1,21,3,25,2]),(qU [0,1,2,17,20,1,24,1,1,1,19,1,25,1,21,3,26,1]),(qU [0,1,2,17,20,2,24,1,1,1,25,1,19,1,22,2,26,1]),(qU [0,1,2,17,20,1,24,1,1,1,21,1,25,1,19,1,22,2,26,1]),(qU [0,1,2,17,20,1,24,1,1,1,25,1,19,1,21,3,26,1])] (by kernel_rfl) (qC) (by kernel_rfl) ?_
  simp only [bm]
  refine⟨aa 400 ?_,aa 400 ?_,aa 400 ?_,aa 400 ?_,aa 400 ?_,aa 400 ?_,aa 400 ?_,aa 400 ?_,aa 400 ?_,aa 400 ?_,aa 400 ?_,aa 400 ?_,aa 400 ?_,aa 400 ?_,aa 400 ?_,aa 400 ?_,aa 400 ?_,aa 400 ?_⟩
  all_goals simp (disch:=omega) only [go_sem,seval]
  all_goals
   refine qG ?_
   exact dk (qI 0 14++qI 18 7++qI 27 7)
def hJ:WorldD:=⟨dw,dw,[],[],[],[],[],[],⟨[],[]⟩,[],[],[]⟩
def fx (p:PolicyD):WorldD×Bool:=
 if (i3 1 11 p).2 && (i3 2 21 p).2 then
  ({ hJ with a:=(pX (i3 1 11 p).1 (i3 2 21 p).1).1,b:=(pX (i3 1 11 p).1 (i3 2 21 p).1).2.1,known:=⟨[5,7],[]⟩},true)
 else (hJ,false)
theorem E1 (who n:Int) (p:PolicyD):aP 161 [.sc (.int .i64 who),.sc (.int .i64 n),.ag p.cs] [] (.tu [.ag ((i3 who n p).1.cs 0),.sc (.bo (i3 who n p).2)]) ((i3 who n p).1.hp true):=by
 have hA:=da (eK n) (by simp [eK])
 have hB:=Fc 1 3
 rw [yT,if_pos rfl] at hB
 have hf:= @yU who n p
 have ht:= @yV who n p
 have hl:(eK n).length=1:=rfl
 have hcs:(eK n).map AddrD.cs=[AddrD.cs ⟨0,n,false,true⟩]:=rfl
 rw [hl,hcs] at hA
 generalize i3 who n p=R at*
 refine qE Tryz.func161 Tryz.ntmps161 Tryz.results161 fun E hE=>?_
 refine qK (Bg _ _ _) [] ?_
 refine qB (fun h1=>?_) fun h1=>?_
 ·refine qK (d5 p) [] ?_
  refine qB (fun h2=>?_) fun h2=>?_
  ·refine qK (hA) (qI 2 1) ?_
   refine qB (fun h3=>?_) fun h3=>?_
   ·rw [hf (by simp [h3])]
    refine qJ (qO 7) ?_
    simp [dw]
   rw [ht (by simp [h1,h2,h3])]
   simp only [bj,Bool.and_eq_true,decide_eq_true_eq] at h1
   refine qX ?_
   refine qK (hB) [] ?_
   refine qP (qI 2 1++qO 6) ?_
   first|exact⟨⟩|simp [eK,AddrD.cs]
  rw [hf (by simp [h2])]
  refine qX ?_
  refine qJ (qO 7) ?_
  simp [dw]
 rw [hf (by simp [h1])]
 refine qX ?_
 refine qJ (qO 7) ?_
 simp [dw]
theorem Fp {l:List Int} {t B:Int}:∀ {m:List Int} {k:Nat},(k:Int)<=B->(∀ f∈m,(yF l f t:Int)<=B)->(kg l t k m:Int)<=B
 |[],k,h,_=>h
 |f::r,k,h,hm=>by
  rw [kg]
  exact Fp (by have:=hm f (by simp);omega) fun g hg=>hm g (by simp [hg])
theorem AnsI.most {l:List Int} {e:EndD} (h:AnsI l e) {t:Int} (ht:1<=t/\t<=1000):(vt l t:Int)<=3+t:=by
 rw [vt];split
 ·refine Fp (by omega) fun f hf=>?_
  have hb:=h.big f hf
  have hn:=h.t f hf
  rw [vO h.big hb ht]
  by_cases hg:f+t - 1<=e.now
  ·have:=h.j f (f+t - 1) (by omega) hg;omega
  rw [vN (g:=e.now) (fun x hx=>(h.t x hx).2) (by omega)]
  have:=h.j f e.now (by omega) (by omega)
  omega
 omega
theorem AnsI.gated {l:List Int} {e:EndD} (h:AnsI l e) {t:Int} (ht:1<=t/\t<=100):gated l t=true:=by
 rw [Go.Proofs.YtjghbknhneffjaaGreat.gated,Bool.and_eq_true]
 refine⟨by simp only [bj,Bool.and_eq_true,decide_eq_true_eq];exact ht,?_⟩
 rw [List.all_eq_true]
 intro k hk
 rw [List.mem_range] at hk
 rw [decide_eq_true_eq]
 exact h.most (by omega)
theorem YoungE.modest {e:EndD} (h:YoungE e):modest e=true:=by
 rw [Go.Proofs.YtjghbknhneffjaaGreat.modest,h.fresh,decide_eq_true (by have:=h.few;omega),decide_eq_true (by have:=h.subs;omega)];rfl
theorem AnsW.gatedW {w:WorldD} (h:AnsW w):ek w=true:=by
 rw [ek,h.a.gated (by omega),h.b.gated (by omega),h.a.y.modest,h.b.y.modest];rfl
theorem hh (e:EndD) (hl:e.halfs.length<=1048576) (hs:e.subs.length<=1048576):aP 97 [.ag (e.cs 0)] (e.hp false) (.sc (.bo (modest e))) (e.hp false):=by
 refine qE Tryz.func97 Tryz.ntmps97 Tryz.results97 fun E hE=>?_
 refine qK (b5 e hl) (qI 0 7) ?_
 refine qB (fun h1=>?_) fun h1=>?_
 ·skip
  refine qB (fun h2=>?_) fun h2=>?_
  ·skip
   refine qJ (qI 0 7) ?_
   simp [modest,h1,h2]
  refine qJ (qI 0 7) ?_
  simp [modest,h1,h2]
 refine qJ (qI 0 7) ?_
 simp [modest,h1]
theorem hT (w:WorldD) (a:w.answersA.length<=1048576) (b:w.answersB.length<=1048576) (c1:w.a.halfs.length<=1048576) (c2:w.a.subs.length<=1048576) (d1:w.b.halfs.length<=1048576) (d2:w.b.subs.length<=1048576):aP 40 [.ag (w.cs 0)] (w.hp false) (.sc (.bo (ek w))) (w.hp false):=by
 refine qE Tryz.func40 Tryz.ntmps40 Tryz.results40 fun E hE=>?_
 refine qK (f0 w.answersA 20 a) (qI 19 1) ?_
 refine qB (fun h1=>?_) fun h1=>?_
 ·skip
  refine qK (f0 w.answersB 20 b) (qI 20 1) ?_
  refine qB (fun h2=>?_) fun h2=>?_
  ·skip
   refine qK (hh w.a c1 c2) (qI 0 7) ?_
   refine qB (fun h3=>?_) fun h3=>?_
   ·skip
    refine qK (hh w.b d1 d2) (qI 7 7) ?_
    refine qJ (qI 0 21) ?_
    simp [ek,h1,h2,h3]
   refine qJ (qI 0 21) ?_
   simp [ek,h1,h2,h3]
  refine qJ (qI 0 21) ?_
  simp [ek,h1,h2]
 refine qJ (qI 0 21) ?_
 simp [ek,h1]
end
end Go.Proofs.YtjghbknhneffjaaGreat
