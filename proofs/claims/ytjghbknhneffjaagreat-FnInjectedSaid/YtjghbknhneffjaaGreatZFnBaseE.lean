/-
  Texts merged for this claim by shake.py: what its proof needs.
-/
import Derived.Test.YtjghbknhneffjaaGreatZFnBaseA
import Derived.Test.YtjghbknhneffjaaGreatZFnBaseB
set_option maxHeartbeats 16000000
set_option maxRecDepth 100000
set_option linter.unusedVariables false
set_option linter.unusedSimpArgs false
namespace Go.Proofs.YtjghbknhneffjaaGreat
section
open Go.RowKit
theorem oO {α:Type} {f:α->List Sc} {l:List α} {k:Nat} {a:α} {c:List Sc} (hc:f a=c) (h:k<=l.length):
  k+1+(l.length - k)=(l.take k).length+1+(l.drop k).length/\(l.take k).map f++[c]++((l.map f).drop k).take (l.length - k)=(l.take k++[a]++l.drop k).map f:=by
 refine⟨by simp;omega,?_⟩
 have e:((l.map f).drop k).take (l.length - k)=(l.map f).drop k:=List.take_of_length_le (by simp)
 rw [<-hc,e]
 simp [List.map_take,List.map_drop]
theorem rI (l:List Int) (n:Int) (hl:l.length<=1048570):aP 232 [.sc (.sl 0 0 l.length),.sc (.int .i64 n)] [some ⟨l.map aM,1,3,false,true⟩]
  (.sc (.sl 1 0 (gf l n).length)) [some ⟨l.map aM,1,3,false,true⟩,some ⟨(gf l n).map aM,1,3,true,true⟩]:=by
 have ht:=fun k=> @BO l n k
 have hf:=fun k=> @BP l n k
 have he:= @BQ l n
 have hlen:=jJ l n
 generalize gf l n=R at*
 refine qE Tryz.func232 Tryz.ntmps232 Tryz.results232 fun E hE=>?_
 refine jx 1 hE (fun s (x:Nat×Bool×List Int)=>s.at (qU [8,34]) [(7,.sc (.int .i64 (x.1:Nat))),(6,.sc (.bo x.2.1)),(5,.sc (.sl 1 0 x.2.2.length))] ([some ⟨l.map aM,1,3,false,true⟩,some ⟨x.2.2.map aM,1,3,true,true⟩])) (fun (x:Nat×Bool×List Int)=>x.1<=l.length/\x.2.2.length<=x.1+1/\(x.2.1=true->x.2.2++l.drop x.1=R)/\(x.2.1=false->x.2.2=l.take x.1/\x.1+((l.drop x.1).takeWhile (fun a=>decide (a < n))).length=gd l n)) (fun (x:Nat×Bool×List Int)=>l.length - x.1) (0,false,[]) (qI 0 2) (⟨Nat.zero_le _,by simp,by simp,fun _=>⟨rfl,by simp [gd]⟩⟩) fun x hx N hN=>?_
 obtain⟨k,b,acc⟩:=x
 obtain⟨hk1,hk2,hk3,hk4⟩:=hx
 dsimp only at hk1 hk2 hk3 hk4
 refine qR ?_
 refine qB (fun h=>?_) fun h=>?_
 ·cases b with
  |true=>
   have hR:=hk3 rfl
   rw [List.drop_eq_getElem_cons h] at hR
   refine qX ?_
   refine sR hN (k+1,true,acc++[l[k]]) (qI 0 1++qI 3 1) (by (try dsimp only);exact⟨by omega,by simp;omega,fun _=>by simpa using hR,fun hc=>by cases hc⟩) ?_
   first|exact⟨⟩|simp [aM]
  |false=>
   obtain⟨ha,hw⟩:=hk4 rfl
   rw [vw h] at hw
   refine qX ?_
   refine qB (fun h2=>?_) fun h2=>?_
   ·refine qX ?_
    refine qB (fun h3=>?_) fun h3=>?_
    ·rw [if_neg (by simp;omega)] at hw
     have hR:=hf k (by omega) h (by omega)
     rw [List.drop_eq_getElem_cons h] at hR
     refine qX ?_
     refine sR hN (k+1,true,acc++[n]++[l[k]]) (qI 0 1++qI 5 1) (by (try dsimp only);exact⟨by omega,by rw [ha];simp;omega,fun _=>by rw [hR,ha];simp,fun hc=>by cases hc⟩) ?_
     first|exact⟨⟩|simp [aM]
    have hq:l[k]=n:=by omega
    rw [if_neg (by simp;omega)] at hw
    have hR:=ht k (by omega) h hq
    refine qX ?_
    refine sR hN (k+1,true,acc++[l[k]]) (qI 0 1++qI 3 1) (by (try dsimp only);exact⟨by omega,by simp;omega,fun _=>by rw [hR,ha];simp [h],fun hc=>by cases hc⟩) ?_
    first|exact⟨⟩|simp [aM]
   rw [if_pos (by simp;omega)] at hw
   refine qX ?_
   refine sR hN (k+1,false,acc++[l[k]]) (qI 0 1++qI 3 1) (by (try dsimp only);exact⟨by omega,by simp;omega,fun hc=>(by cases hc),fun _=>⟨by rw [ha];simp [h],by omega⟩⟩) ?_
   first|exact⟨⟩|simp [aM]
 have hkl:k=l.length:=by omega
 subst hkl
 cases b with
 |true=>
  have hR:=hk3 rfl
  rw [List.drop_length,List.append_nil] at hR
  subst hR
  refine qX ?_
  exact qF (qI 0 2)
 |false=>
  obtain⟨ha,hw⟩:=hk4 rfl
  rw [yS (by omega)] at hw
  rw [he (by omega)]
  rw [List.take_length] at ha
  subst ha
  refine qX ?_
  refine qP (qI 0 1++qI 3 1) ?_
  first|exact⟨⟩|simp [aM]
theorem oP {α:Type} {f:α->List Sc} {l:List α} {n:Nat} (h:n < l.length):
  n+(l.length - (n+1))=(l.take n).length+(l.drop (n+1)).length/\(l.take n).map f++((l.map f).drop (n+1)).take (l.length - (n+1))=(l.take n++l.drop (n+1)).map f:=by
 refine⟨by simp;omega,?_⟩
 simp only [List.map_append,List.map_take,List.map_drop]
 congr 1
 exact List.take_of_length_le (by simp)
theorem nN (l:List AddrD) (r:Int) (hl:l.length<=1048576):aP 233 [.sc (.sl 0 0 l.length),.sc (.int .i64 r)] [some ⟨l.map AddrD.cs,4,103,false,true⟩]
  (.tu [.sc (.sl 1 0 (be l r).1.length),.sc (.bo (be l r).2)]) [some ⟨l.map AddrD.cs,4,103,false,true⟩,some ⟨(be l r).1.map AddrD.cs,4,103,true,true⟩]:=by
 have hA:=cm l r hl
 have hbd:=fQ l r
 have hf:= @tW l r
 have ht:=fun n=> @mG l r n
 generalize be l r=R at*
 refine qE Tryz.func233 Tryz.ntmps233 Tryz.results233 fun E hE=>?_
 refine qK (hA) (qI 0 1) ?_
 rcases hbd with hk|⟨hb0,hb1⟩
 ·rw [hf hk,hk]
  refine qX ?_
  exact qF (qI 0 1++qI 2 1)
 obtain⟨n,hk⟩:=Int.eq_ofNat_of_zero_le hb0
 have hlt:(l.take n).length=n:=by simp;omega
 have hlt2:(List.take n (List.map AddrD.cs l)).length=n:=by simp;omega
 rw [ht _ hk,hk]
 refine qX ?_
 refine qJ (qI 0 1++qI 3 1) ?_
 rw [<-List.map_take]
 exact oP (by omega)
theorem eW (l:List AddrD) (a:AddrD) (hl:l.length<=1048576):aP 231 [.sc (.sl 0 0 l.length),.ag a.cs] [some ⟨l.map AddrD.cs,4,103,false,true⟩]
  (.tu [.sc (.sl 1 0 (aJ l a).1.length),.sc (.bo (aJ l a).2)]) [some ⟨l.map AddrD.cs,4,103,false,true⟩,some ⟨(aJ l a).1.map AddrD.cs,4,103,true,true⟩]:=by
 have hA:=cm l a.id (by omega)
 have hbd:=fQ l a.id
 have hO:=f_ (bO l a) (by have:=dR l a;omega)
 have hll:=dR l a
 have hLt:=fun k=> @tU l a k
 have hLf:=fun k=> @tV l a k
 have ht:=wH (l:=l) (a:=a)
 have hf:=oJ (l:=l) (a:=a)
 have hbig:=rH (l:=l) (a:=a)
 generalize bO l a=L at*
 generalize aJ l a=R at*
 refine qE Tryz.func231 Tryz.ntmps231 Tryz.results231 fun E hE=>?_
 refine qB (fun h0=>?_) fun h0=>?_
 ·rw [hbig (by omega)]
  refine qX ?_
  exact qF (qI 0 1++qI 3 1)
 refine qX ?_
 refine qK (hA) (qI 0 1) ?_
 rcases hbd with hat|⟨hb0,hb1⟩
 ·rw [hat]
  refine qX ?_
  refine jx 1 hE (fun s (k:Nat)=>s.at (qU [1,1,9,36]) [(8,.sc (.int .i64 (k:Nat)))] (s.hp)) (fun (k:Nat)=>k<=l.length/\k+((l.drop k).takeWhile (fun b=>decide (b.id < a.id))).length=wG l a.id) (fun (k:Nat)=>l.length - k) 0 (qI 0 6) (⟨Nat.zero_le _,by simp [wG]⟩) fun k hk N hN=>?_
  obtain⟨hk1,hk2⟩:=hk
  refine qR ?_
  refine qD [0,1,2,3,4,5,6,7,8,9,10,11,12,13] ?_
  refine qB (fun h=>?_) fun h=>?_
  ·refine⟨qC,ac 400 ?_⟩
   rw [vw h] at hk2
   refine qX ?_
   refine qB (fun h2=>?_) fun h2=>?_
   ·rw [if_pos (by simp [h2])] at hk2
    exact qN hN (k+1) (qI 0 6) (by (try dsimp only);exact⟨by omega,by omega⟩)
   rw [if_neg (by simp;omega)] at hk2
   have hq:=hLf k hat (by omega)
   have e1:(l.take k).map AddrD.cs++[a.cs]++((l.map AddrD.cs).drop k).take (l.length - k)=L.map AddrD.cs:=by rw [hq];exact (oO rfl hk1).2
   have e2:k+1+(l.length - k)=L.length:=by rw [hq];simp;omega
   have hlt:(l.take k).length=k:=by simp;omega
   have hlt2:((l.map AddrD.cs).take k).length=k:=by simp;omega
   have e3:((l.map AddrD.cs).take k)=(l.take k).map AddrD.cs:=List.map_take.symm
   simp only [AddrD.cs] at e1
   refine aO [(0,5),(0,6),(4,5),(4,6)] [[1,2,3,0,4,5,6,7,8],[1,2,3,0,5,4,6,7,8],[1,2,3,0,5,6,4,7,8],[1,2,3,5,0,4,6,7,8],[1,2,3,5,0,6,4,7,8],[1,2,3,5,6,0,4,7,8]] (by kernel_rfl) (qC) (by kernel_rfl) ?_
   simp only [bm]
   refine⟨aa 400 ?_,aa 400 ?_,aa 400 ?_,aa 400 ?_,aa 400 ?_,aa 400 ?_⟩
   all_goals simp (disch:=omega) only [go_sem,seval]
   all_goals
    refine⟨qC,ac 400 ?_⟩
    try simp (disch:=omega) only [go_sem,seval,e1,e2,e3]
    refine qK (hO) (qI 10 1) ?_
    refine qB (fun h9=>?_) fun h9=>?_
    ·rw [hf h9]
     refine qX ?_
     exact qF (qI 0 1++qI 3 1)
    rw [ht h9]
    refine qX ?_
    exact qF (qI 0 1++qI 10 1)
  refine⟨qC,ac 400 ?_⟩
  rw [yS (by omega)] at hk2
  refine qX ?_
  have hq:=hLf k hat (by omega)
  have e1:(l.take k).map AddrD.cs++[a.cs]++((l.map AddrD.cs).drop k).take (l.length - k)=L.map AddrD.cs:=by rw [hq];exact (oO rfl hk1).2
  have e2:k+1+(l.length - k)=L.length:=by rw [hq];simp;omega
  have hlt:(l.take k).length=k:=by simp;omega
  have hlt2:((l.map AddrD.cs).take k).length=k:=by simp;omega
  have e3:((l.map AddrD.cs).take k)=(l.take k).map AddrD.cs:=List.map_take.symm
  simp only [AddrD.cs] at e1
  refine aO [(0,5),(0,6),(4,5),(4,6)] [[1,2,3,0,4,5,6,7,8],[1,2,3,0,5,4,6,7,8],[1,2,3,0,5,6,4,7,8],[1,2,3,5,0,4,6,7,8],[1,2,3,5,0,6,4,7,8],[1,2,3,5,6,0,4,7,8]] (by kernel_rfl) (qC) (by kernel_rfl) ?_
  simp only [bm]
  refine⟨aa 400 ?_,aa 400 ?_,aa 400 ?_,aa 400 ?_,aa 400 ?_,aa 400 ?_⟩
  all_goals simp (disch:=omega) only [go_sem,seval]
  all_goals
   refine⟨qC,ac 400 ?_⟩
   try simp (disch:=omega) only [go_sem,seval,e1,e2,e3]
   refine qK (hO) (qI 10 1) ?_
   refine qB (fun h9=>?_) fun h9=>?_
   ·rw [hf h9]
    refine qX ?_
    exact qF (qI 0 1++qI 3 1)
   rw [ht h9]
   refine qX ?_
   exact qF (qI 0 1++qI 10 1)
 obtain⟨n,hk⟩:=Int.eq_ofNat_of_zero_le hb0
 have hn:n < l.length:=by omega
 have e:=yO l n a
 simp only [AddrD.cs] at e
 rw [hLt n hk] at hO ht hf
 rw [List.length_set] at hO
 rw [hk]
 try simp (disch:=omega) only [go_sem,seval,e]
 refine qK (hO) (qI 5 1) ?_
 refine qB (fun h1=>?_) fun h1=>?_
 ·rw [hf h1]
  refine qX ?_
  exact qF (qI 0 1++qI 3 1)
 rw [ht h1]
 try simp only [List.length_set]
 refine qX ?_
 exact qF (qI 0 1++qI 5 1)
theorem mH (r b:Int):aP 246 [.sc (.int .i64 r),.sc (.int .i64 b)] [] (.tu [.ag (BucketD.cs (if bucketOk ⟨r,b,b⟩ then⟨r,b,b⟩ else⟨0,0,0⟩)),.sc (.bo (bucketOk ⟨r,b,b⟩))]) []:=by
 obtain⟨R,hR⟩:∃ R,R=(if bucketOk ⟨r,b,b⟩ then (⟨r,b,b⟩:BucketD) else⟨0,0,0⟩):=⟨_,rfl⟩
 rw [<-hR]
 refine qE Tryz.func246 Tryz.ntmps246 Tryz.results246 fun E hE=>?_
 refine qK (er ⟨r,b,b⟩) [] ?_
 refine qB (fun h1=>?_) fun h1=>?_
 ·rw [h1,if_neg (by simp)] at hR
  subst hR
  refine qP [] ?_
  first|exact⟨⟩|exact⟨⟨rfl,rfl,rfl⟩,h1⟩
 rw [h1,if_pos rfl] at hR
 subst hR
 refine qP [] ?_
 first|exact⟨⟩|exact⟨⟨rfl,rfl,rfl⟩,h1⟩
theorem rJ (n:Int):aJ [] ⟨0,n,false,true⟩=if aX (eK n) then (eK n,true) else ([],false):=rfl
theorem yT:bucketOk ⟨1,3,3⟩=true:=by decide
theorem yU {who n:Int} {p:PolicyD} (h:(bj who 1 2 && polOk p && aX (eK n))=false):i3 who n p=(dw,false):=by rw [i3,if_neg (by simp [h])]
theorem yV {who n:Int} {p:PolicyD} (h:(bj who 1 2 && polOk p && aX (eK n))=true):i3 who n p=(⟨who,0,0,0,p,eK n,[],[],[],⟨1,3,3⟩,⟨[],0,0,120⟩,⟨0,[],[]⟩,[],[],1000+who,0,0⟩,true):=if_pos h
theorem Bh (who n:Int) (p:PolicyD):aP 166 [.sc (.int .i64 who),.sc (.int .i64 n),.ag p.cs] [] (.tu [.ag ((i3 who n p).1.cs 0),.sc (.bo (i3 who n p).2)]) ((i3 who n p).1.hp true):=by
 have hA:=eW [] ⟨0,n,false,true⟩ (by simp)
 have hB:=mH 1 3
 rw [yT,if_pos rfl] at hB
 rw [rJ] at hA
 have hf:= @yU who n p
 have ht:= @yV who n p
 generalize i3 who n p=R at*
 have hl:(eK n).length=1:=rfl
 cases hok:aX (eK n) with
 |false=>
  rw [hok,if_neg (by simp)] at hA
  rw [hf (by simp [hok])]
  refine qE Tryz.func166 Tryz.ntmps166 Tryz.results166 fun E hE=>?_
  refine qK (hA) (qI 2 1) ?_
  refine qK (ak _ _ _) [] ?_
  refine qB (fun h1=>?_) fun h1=>?_
  ·refine qK (eq p) [] ?_
   refine qB (fun h2=>?_) fun h2=>?_
   ·refine qJ (qO 7) ?_
    simp [dw]
   refine qJ (qO 7) ?_
   simp [dw]
  refine qJ (qO 7) ?_
  simp [dw]
 |true=>
  rw [hok,if_pos rfl] at hA
  refine qE Tryz.func166 Tryz.ntmps166 Tryz.results166 fun E hE=>?_
  refine qK (hA) (qI 2 1) ?_
  refine qK (ak _ _ _) [] ?_
  refine qB (fun h1=>?_) fun h1=>?_
  ·refine qK (eq p) [] ?_
   refine qB (fun h2=>?_) fun h2=>?_
   ·rw [ht (by simp [h1,h2,hok])]
    simp only [bj,Bool.and_eq_true,decide_eq_true_eq] at h1
    refine qX ?_
    refine qK (hB) [] ?_
    exact qF (qI 3 1++qO 6)
   rw [hf (by simp [h2])]
   refine qX ?_
   refine qJ (qO 7) ?_
   simp [dw]
  rw [hf (by simp [h1])]
  refine qJ (qO 7) ?_
  simp [dw]
theorem AD {e:EndD} {n:Int} (h:mA e n=false):eD e n=(e,[]):=by rw [eD,if_neg (by simp [h])]
theorem AE {e:EndD} {n:Int} {a:AddrD} (h:mA e n=true) (ha:e.own.getD 0 default=a):eD e n=({ e with state:=1,key:=e.draw,subs:=e.subs++[⟨⟨a.addr,n,0⟩,1,false,0,0,0,e.draw+2,0⟩],draw:=e.draw+4 },
  [aq ⟨a.addr,n,0⟩ { ah with kind:=1,key:=e.draw,give:=e.draw+2 }]):=by rw [eD,if_pos h,gZ,ha]
theorem wS (e:EndD) (n:Int) (hs:Small e):aP 247 [.ag (e.cs 0),.sc (.int .i64 n)] (e.hp false) (.tu [.ag ((eD e n).1.cs 7),.sc (.sl 14 0 (eD e n).2.length)])
  (e.hp false++((eD e n).1.hp true++[some ⟨(eD e n).2.map LetterD.cs,19,48,true,true⟩])):=by
 have hC:=(qH (aj e))
 have hK:=(qH (au e))
 have hf:=AD (e:=e) (n:=n)
 have ht:= @AE e n
 have hk:=mA.eq_1 e n
 have hS:=fun r=>cE e r (by have:=hs.subs;omega)
 rw [gZ] at hk
 generalize eD e n=R at*
 refine qE Tryz.func247 Tryz.ntmps247 Tryz.results247 fun E hE=>?_
 refine qK (hC) (qI 0 7) ?_
 refine qD [0,1,2,3,4,5,6,7,8,9,10,11,12,13,14,15,16,17,18,19,20,21,22,23,24,25,26,27,28,29,30,31,32,33,34,35,36,37,38,39,40,41] ?_
 refine aQ (hK) (qI 0 7) ?_
 refine qB (fun h1=>?_) fun h1=>?_
 ·refine qB (fun h2=>?_) fun h2=>?_
  ·refine qB (fun h3=>?_) fun h3=>?_
   ·refine aQ (ak _ _ _) [] ?_
    refine qB (fun h4=>?_) fun h4=>?_
    ·obtain⟨a,ha⟩:∃ a,e.own[0]'(by omega)=a:=⟨_,rfl⟩
     have ha2:e.own.getD 0 default=a:=by rw [<-ha,List.getD_eq_getElem?_getD,List.getElem?_eq_getElem (by omega)];rfl
     rw [ha2] at hk
     try simp (disch:=omega) only [go_sem,seval,ha]
     refine aQ (hS ⟨a.addr,n,0⟩) (qI 0 7) ?_
     refine qB (fun h7=>?_) fun h7=>?_
     ·refine qB (fun h5=>?_) fun h5=>?_
      ·refine aQ (dq e) (qI 0 7) ?_
       refine qG ?_
       refine qB (fun h6=>?_) fun h6=>?_
       ·rw [hf (by rw [hk];first|(simp [h6];done)|(simp [h6];intros;omega))]
        exact qF (qI 0 7++qI 9 7++qI 17 1)
       rw [ht (a:=a) (by rw [hk,h1,h4,h6,decide_eq_true (by omega:e.state=0),decide_eq_false (by omega:¬ e.own.length=0),decide_eq_true (by have:=b_ h1;omega:e.subs.length < 8),decide_eq_true (by omega:aU e.subs ⟨a.addr,n,0⟩< 0)];rfl) ha2]
       have h8':=h6
       simp only [bj,Bool.and_eq_true,decide_eq_true_eq] at h8'
       have hd1:bj e.draw 1 999999998=true:=by simp only [bj,Bool.and_eq_true,decide_eq_true_eq];omega
       have hd2:bj (e.draw+2) 1 999999998=true:=by simp only [bj,Bool.and_eq_true,decide_eq_true_eq];omega
       refine qK (aY e hs hd1) (qI 9 7) ?_
       refine qK (aY { e with draw:=e.draw+2 } ⟨hs.own,hs.far,hs.subs,hs.halfs,hs.list,hs.done,hs.over⟩ hd2) (qI 18 7) ?_
       try simp (disch:=omega) only [go_sem,seval,ha]
       refine qK (eC { e with state:=1,key:=e.draw,draw:=e.draw+2+2 } ⟨⟨a.addr,n,0⟩,1,false,0,0,0,e.draw+2,0⟩ (by have:=b_ h1;dsimp only;omega)) (qI 25 7) ?_
       refine aO [(0,9),(7,0),(8,0)] [(qU [1,8,0,1,9,3]),(qU [1,7,0,1,8,4]),(qU [1,6,0,1,7,5]),(qU [1,9,0,1,10,2])] (by kernel_rfl) (qC) (by kernel_rfl) ?_
       simp only [bm]
       refine⟨aa 400 ?_,aa 400 ?_,aa 400 ?_,aa 400 ?_⟩
       all_goals simp (disch:=omega) only [go_sem,seval]
       all_goals
        refine aQ (aw ⟨a.addr,n,0⟩ { ah with kind:=1,key:=e.draw,give:=e.draw+2 }) [] ?_
        refine qG ?_
        refine aB (qI 0 7++qI 25 2++qI 33 1++qI 28 4++qI 35 1) (qC) _ (by simp only [go_sem];rfl) (by rfl) (by rfl) ?_
        simp (disch:=omega) only [go_sem,seval]
        try simp [SubD.cs,LetterD.cs,aq,ah]
        try omega
      rw [hf (by rw [hk];first|(simp [h5];done)|(simp [h5];intros;omega))]
      refine qG ?_
      exact qF (qI 0 7++qI 9 7++qI 17 1)
     rw [hf (by rw [hk];first|(simp [h7];done)|(simp [h7];intros;omega))]
     refine qG ?_
     exact qF (qI 0 7++qI 9 7++qI 17 1)
    rw [hf (by rw [hk];first|(simp [h4];done)|(simp [h4];intros;omega))]
    refine qG ?_
    exact qF (qI 0 7++qI 9 7++qI 17 1)
   rw [hf (by rw [hk,decide_eq_true (by omega:e.own.length=0)];simp)]
   refine qG ?_
   exact qF (qI 0 7++qI 9 7++qI 17 1)
  rw [hf (by rw [hk];first|(simp [h2];done)|(simp [h2];intros;omega))]
  refine qG ?_
  exact qF (qI 0 7++qI 9 7++qI 17 1)
 rw [hf (by rw [hk];first|(simp [h1];done)|(simp [h1];intros;omega))]
 refine qG ?_
 exact qF (qI 0 7++qI 9 7++qI 17 1)
theorem nQ (e:EndD) (x:LetterD) (hs:Small e):aP 150 [.ag (e.cs 0),.ag x.cs] (e.hp false) (.tu [.ag ((bD e x).1.cs 7),.sc (.sl 14 0 (bD e x).2.length)])
  (e.hp false++((bD e x).1.hp true++[some ⟨(bD e x).2.map LetterD.cs,19,48,true,true⟩])):=by
 have hC:=(qH (aj e))
 have hK:=(qH (au e))
 have hA:=cm e.own x.id (by have:=hs.own;omega)
 have hS:=ef e x hs
 have hbA:=fQ e.own x.id
 have hbd:=f9 e x
 have hf:=ue (e:=e) (x:=x)
 have ht:=fun (n:Nat)=> @uf e x n
 have hok:=hZ.eq_1 e x
 generalize bD e x=R at*
 refine qE Tryz.func150 Tryz.ntmps150 Tryz.results150 fun E hE=>?_
 refine qK (hC) (qI 0 7) ?_
 refine qK (hA) (qI 0 1) ?_
 rcases hbA with hi|⟨hi0,hi1⟩
 ·rw [hi]
  refine qX ?_
  refine qD [0,1,2,3,4,5,6,7,8,9,10,11,12,13,14,15,16,17,18] ?_
  refine aQ (hS) (qI 0 7) ?_
  rcases hbd with hon|⟨n,hon,hk,hn,hq1,hq2⟩
  ·rw [hon]
   refine qX ?_
   rw [hf (oQ hi)]
   refine qG ?_
   exact qF (qI 0 7++qI 10 7++qI 18 1)
  rw [hon]
  refine qX ?_
  rw [hf (oQ hi)]
  refine qG ?_
  exact qF (qI 0 7++qI 10 7++qI 18 1)
 obtain⟨i,hi⟩:=Int.eq_ofNat_of_zero_le hi0
 have hil:i < e.own.length:=by omega
 rw [hi]
 refine qX ?_
 refine qD [0,1,2,3,4,5,6,7,8,9,10,11,12,13,14,15,16,17,18] ?_
 refine aQ (hS) (qI 0 7) ?_
 rcases hbd with hon|⟨n,hon,hk,hn,hq1,hq2⟩
 ·rw [hon]
  refine qX ?_
  rw [hf (by rw [kq hi hil];have:=hon;simp;omega)]
  refine qG ?_
  exact qF (qI 0 7++qI 10 7++qI 18 1)
 rw [hon]
 refine qX ?_
 refine qG ?_
 refine qB (fun h5=>?_) fun h5=>?_
 ·rw [ht _ (by rw [kq hi hil];simp [hon,h5]) hi hil]
  refine qX ?_
  refine qP (qI 0 7++qI 10 7++qI 18 1) ?_
  first|exact⟨⟩|simp [List.map_set,AddrD.cs]
 rw [hf (by rw [kq hi hil];simp [h5])]
 refine qX ?_
 exact qF (qI 0 7++qI 10 7++qI 18 1)
theorem nR (e:EndD) (x:LetterD) (hs:Small e):aP 151 [.ag (e.cs 0),.ag x.cs] (e.hp false) (.tu [.ag ((bE e x).1.cs 7),.sc (.sl 14 0 (bE e x).2.length)])
  (e.hp false++((bE e x).1.hp true++[some ⟨(bE e x).2.map LetterD.cs,19,48,true,true⟩])):=by
 have hC:=(qH (aj e))
 have hK:=(qH (au e))
 have hA:=cm e.far x.id (by have:=hs.far;omega)
 have hD:=nN e.far x.id (by have:=hs.far;omega)
 have hS:=ef e x hs
 have hbA:=fQ e.far x.id
 have hbd:=f9 e x
 have hf:=ui (e:=e) (x:=x)
 have ht:=fun (n:Nat)=> @uj e x n
 have hok:=mJ.eq_1 e x
 have hpl:=jJ e.over x.id
 generalize bE e x=R at*
 refine qE Tryz.func151 Tryz.ntmps151 Tryz.results151 fun E hE=>?_
 refine qK (hC) (qI 0 7) ?_
 refine qK (hA) (qI 1 1) ?_
 rcases hbA with hi|⟨hi0,hi1⟩
 ·rw [hi]
  refine qX ?_
  refine qK (hS) (qI 0 7) ?_
  rcases hbd with hon|⟨n,hon,hk,hn,hq1,hq2⟩
  ·rw [hon]
   refine qX ?_
   rw [hf (by rw [hok];have:=hon;simp;omega)]
   refine qX ?_
   exact qF (qI 0 7++qI 10 7++qI 18 1)
  rw [hon]
  refine qX ?_
  rw [hf (by rw [hok];simp [hi])]
  refine qX ?_
  exact qF (qI 0 7++qI 10 7++qI 18 1)
 obtain⟨i,hi⟩:=Int.eq_ofNat_of_zero_le hi0
 have hil:i < e.far.length:=by omega
 rw [hi]
 refine qX ?_
 refine qK (hS) (qI 0 7) ?_
 rcases hbd with hon|⟨n,hon,hk,hn,hq1,hq2⟩
 ·rw [hon]
  refine qX ?_
  rw [hf (by rw [hok];have:=hon;simp;omega)]
  refine qX ?_
  exact qF (qI 0 7++qI 10 7++qI 18 1)
 rw [hon]
 refine qX ?_
 rw [ht _ (by rw [hok];simp [hon,hi]) hi hil]
 have hdl:(be e.far x.id).1.length<=e.far.length:=by rw [mG hi];simp;omega
 refine qX ?_
 refine qK (rI e.over x.id (by have:=uk hq1;omega)) (qI 6 1) ?_
 refine qK (hD) (qI 1 1) ?_
 refine gN 7 hE (fun s (k:Nat)=>s.at (qU [0,2,3,1,9,58]) [(8,.sc (.int .i64 (k:Nat)))] (s.hp.set 12 (some ⟨(dE e.far[i].addr e.subs k).map SubD.cs,10,101,true,true⟩))) (fun (k:Nat)=>k<=e.subs.length) (fun (k:Nat)=>e.subs.length - k) 0 (qI 0 20) (qC) (Nat.zero_le _) (bw (by rfl) (by rfl) ?_) fun k hk N hN=>?_
 ·refine qX ?_
  rw [uh]
 refine ac 400 ?_
 have hsb:=hs.subs
 have hgl:(dE e.far[i].addr e.subs k).length=e.subs.length:=wW
 refine qX ?_
 refine qB (fun h=>?_) fun h=>?_
 ·have hg:∀ p:k < (dE e.far[i].addr e.subs k).length,(dE e.far[i].addr e.subs k)[k]'p=e.subs[k]:=by
   intro p
   have hq:=yX (a:=e.far[i].addr) h
   rw [List.getElem?_eq_getElem p] at hq
   exact Option.some.inj hq
  try simp (disch:=omega) only [go_sem,seval,hg]
  refine qD [0,1,2,3,4,5,6,7,8,9,10,11,12,13] ?_
  refine⟨qC,ac 400 ?_⟩
  try simp (disch:=omega) only [go_sem,seval,hg]
  refine qB (fun h9=>?_) fun h9=>?_
  ·refine qX ?_
   refine⟨qC,hN _ (k+1) (qI 0 20) (by (try dsimp only);exact by omega) (by (try dsimp only);omega) (bw (by rfl) (by rfl) ?_)⟩
   refine qX ?_
   rw [<-wX h,List.map_set]
   simp [jP,h9,hg,SubD.cs]
  refine qX ?_
  refine⟨qC,hN _ (k+1) (qI 0 20) (by (try dsimp only);exact by omega) (by (try dsimp only);omega) (bw (by rfl) (by rfl) ?_)⟩
  refine qX ?_
  rw [ug h h9]
 have hkl:k=e.subs.length:=by omega
 subst hkl
 rw [wY]
 refine qX ?_
 exact qF (qI 0 7++qI 10 1++qI 19 1++qI 12 4++qI 18 1++qI 20 1)
end
end Go.Proofs.YtjghbknhneffjaaGreat
