/- Lemmas of this claim. -/
import Derived.Test.YteknmpdmhiomgaaGreatZFnCalmD
set_option maxHeartbeats 16000000
set_option maxRecDepth 100000
set_option linter.unusedVariables false
set_option linter.unusedSimpArgs false
namespace Go.Proofs.YteknmpdmhiomgaaGreat
open _root_.Go.Proofs.Tryz
open _root_.Bool renaming and_eq_true->RP
section
open Go.RowKit
theorem mW (e:EndD) (s:SubD):aP 128 [.ag (e.cs 0),.ag s.cs] (e.hp false) (.ag (bq e s).cs) (e.hp false):=by
 refine qE func128 ntmps128 results128 fun E hE=>?_
 refine qD [0,1,2,3,4,5,6,7,8,9,10,11,12,13] ?_
 refine aE (fX _ _ _ _) [] ?_
 refine aE (ce s.road { af with kind:=6,tag:=⟨2,e.key,e.peer,s.mine,s.theirs⟩}) [] ?_
 refine qG ?_
 refine qP (qI 0 7) ?_
 first|exact⟨⟩|simp [bq]
theorem nG (e:EndD) (s:SubD):aP 156 [.ag (e.cs 0),.ag s.cs] (e.hp false) (.ag (bq e s).cs) (e.hp false):=by
 refine qE func156 ntmps156 results156 fun E hE=>?_
 refine qD [0,1,2,3,4,5,6,7,8,9,10,11,12,13] ?_
 refine aE (fY _ _ _ _) [] ?_
 refine aE (bC s.road { af with kind:=6,tag:=⟨2,e.key,e.peer,s.mine,s.theirs⟩}) [] ?_
 refine qG ?_
 refine qP (qI 0 7) ?_
 first|exact⟨⟩|simp [bq]
theorem fP (r:RoadD) (n:Int):aP 230 [.ag r.cs,.sc (.int .i64 n)] [] (.sc (.sl 0 0 1)) [some ⟨[(fH r n).cs],19,73,true,true⟩]:=by
 refine qE func230 ntmps230 results230 fun E hE=>?_
 refine qK (ce r { af with kind:=7,sgn:=n }) [] ?_
 refine qP (qI 1 1) ?_
 first|exact⟨⟩|simp [fH]
theorem jv (s:SubD):aP 238 [.ag s.cs] [] (.ag (fH s.road s.give).cs) []:=by
 refine qE func238 ntmps238 results238 fun E hE=>?_
 refine qK (bC s.road { af with kind:=7,sgn:=s.give }) [] ?_
 refine qP [] ?_
 first|exact⟨⟩|simp [fH]
theorem y6 (l:List HalfD) (r:RoadD) (hl:l.length<=1048576):aP 229 [.sc (.sl 0 0 l.length),.ag r.cs] [some ⟨l.map HalfD.cs,8,113,false,true⟩]
  (.sc (.sl 1 0 (bH l r).length)) [some ⟨l.map HalfD.cs,8,113,false,true⟩,some ⟨(bH l r).map HalfD.cs,8,113,true,true⟩]:=by
 have hA:=jq l r hl
 have hbd:=gW l r
 have hf:= @wO l r
 have ht:=fun n=> @qc l r n
 generalize bH l r=R at*
 refine qE func229 ntmps229 results229 fun E hE=>?_
 refine qK (hA) (qI 0 1) ?_
 rcases hbd with hk|⟨hb0,hb1⟩
 ·rw [hf hk,hk]
  refine qX ?_
  refine qK (eZ l hl) (qI 0 1) ?_
  exact qF (qI 0 1++qI 2 1)
 obtain⟨n,hk⟩:=Int.eq_ofNat_of_zero_le hb0
 rw [ht _ hk,hk]
 refine qX ?_
 refine qD [0,1,2,4,5,6,7,3,8,9] ?_
 have hlt:(l.take n).length=n:=by simp;omega
 have hlt2:(List.take n (List.map HalfD.cs l)).length=n:=by simp;omega
 have hC:=eZ (l.take n) zS
 rw [List.length_take,show min n l.length=n by omega] at hC
 refine aE (hC) [some (0,some 0)] ?_
 refine qG ?_
 refine qJ (qI 0 1++qI 3 1) ?_
 refine⟨by simp;omega,?_⟩
 simp only [List.map_append,List.map_take,List.map_drop]
 congr 1
 exact List.take_of_length_le zP
theorem y7 (l:List HalfD) (r:RoadD) (hl:l.length<=1048576):aP 237 [.sc (.sl 0 0 l.length),.ag r.cs] [some ⟨l.map HalfD.cs,8,113,false,true⟩]
  (.sc (.sl 1 0 (bH l r).length)) [some ⟨l.map HalfD.cs,8,113,false,true⟩,some ⟨(bH l r).map HalfD.cs,8,113,true,true⟩]:=by
 have hA:=js l r hl
 have hbd:=gW l r
 have hf:= @wO l r
 have ht:=fun n=> @qc l r n
 generalize bH l r=R at*
 refine qE func237 ntmps237 results237 fun E hE=>?_
 refine qK (hA) (qI 0 1) ?_
 rcases hbd with hk|⟨hb0,hb1⟩
 ·rw [hf hk,hk]
  refine qX ?_
  exact qF (qI 0 1++qI 3 1)
 obtain⟨n,hk⟩:=Int.eq_ofNat_of_zero_le hb0
 have hlt:(l.take n).length=n:=by simp;omega
 have hlt2:(List.take n (List.map HalfD.cs l)).length=n:=by simp;omega
 rw [ht _ hk,hk]
 refine qX ?_
 refine qJ (qI 0 1++qI 4 1) ?_
 refine⟨by simp;omega,?_⟩
 simp only [List.map_append,List.map_take,List.map_drop]
 congr 1
 exact List.take_of_length_le zP
theorem wT (r b:Int):aP 98 [.sc (.int .i64 r),.sc (.int .i64 b)] [] (.tu [.ag (BucketD.cs (if bucketOk ⟨r,b,b⟩ then⟨r,b,b⟩ else⟨0,0,0⟩)),.sc (.bo (bucketOk ⟨r,b,b⟩))]) []:=by
 obtain⟨R,hR⟩:∃ R,R=(if bucketOk ⟨r,b,b⟩ then (⟨r,b,b⟩:BucketD) else⟨0,0,0⟩):=⟨_,rfl⟩
 rw [<-hR]
 refine qE func98 ntmps98 results98 fun E hE=>?_
 refine qK (jh ⟨r,b,b⟩) [] ?_
 refine qB (fun h1=>?_) fun h1=>?_
 ·rw [h1,if_neg zP] at hR
  subst hR
  refine qP [] ?_
  first|exact⟨⟩|exact⟨⟨rfl,rfl,rfl⟩,h1⟩
 rw [h1,if_pos rfl] at hR
 subst hR
 refine qP [] ?_
 first|exact⟨⟩|exact⟨⟨rfl,rfl,rfl⟩,h1⟩
theorem DF (n:Int):aS [] ⟨0,n,false,true⟩=if bN (gj n) then (gj n,true) else ([],false):=rfl
theorem Lj:bucketOk ⟨1,3,3⟩=true:=by decide
theorem Lk {who n:Int} {p:PolicyD} (h:(cv who 1 2 && polOk p && bN (gj n))=false):nE who n p=(gE,false):=by rw [nE,if_neg (by simp [h])]
theorem DG {who n:Int} {p:PolicyD} (h:(cv who 1 2 && polOk p && bN (gj n))=true):nE who n p=(⟨who,0,0,0,p,gj n,[],[],[],⟨1,3,3⟩,⟨[],0,0,120⟩,⟨0,[],[]⟩,[],[],1000+who,0,0⟩,true):=if_pos h
theorem uP (who n:Int) (p:PolicyD):aP 75 [.sc (.int .i64 who),.sc (.int .i64 n),.ag p.cs] [] (.tu [.ag ((nE who n p).1.cs 0),.sc (.bo (nE who n p).2)]) ((nE who n p).1.hp true):=by
 have hA:=jS [] ⟨0,n,false,true⟩ zP
 have hB:=wT 1 3
 rw [Lj,if_pos rfl] at hB
 rw [DF] at hA
 have hf:= @Lk who n p
 have ht:= @DG who n p
 generalize nE who n p=R at*
 have hl:(gj n).length=1:=rfl
 cases hok:bN (gj n) with
 |false=>
  rw [hok,if_neg zP] at hA
  rw [hf (by simp [hok])]
  refine qE func75 ntmps75 results75 fun E hE=>?_
  refine qK (hA) (qI 2 1) ?_
  refine qK (aB _ _ _) [] ?_
  refine qB (fun h1=>?_) fun h1=>?_
  ·refine qK (jg p) [] ?_
   refine qB (fun h2=>?_) fun h2=>?_
   ·refine qJ (qO 7) ?_
    simp [gE]
   refine qJ (qO 7) ?_
   simp [gE]
  refine qJ (qO 7) ?_
  simp [gE]
 |true=>
  rw [hok,if_pos rfl] at hA
  refine qE func75 ntmps75 results75 fun E hE=>?_
  refine qK (hA) (qI 2 1) ?_
  refine qK (aB _ _ _) [] ?_
  refine qB (fun h1=>?_) fun h1=>?_
  ·refine qK (jg p) [] ?_
   refine qB (fun h2=>?_) fun h2=>?_
   ·rw [ht (by simp [h1,h2,hok])]
    simp only [cv,RP,decide_eq_true_eq] at h1
    refine qX ?_
    refine qK (hB) [] ?_
    exact qF (qI 3 1++qO 6)
   rw [hf (by simp [h2])]
   refine qX ?_
   refine qJ (qO 7) ?_
   simp [gE]
  rw [hf (by simp [h1])]
  refine qJ (qO 7) ?_
  simp [gE]
theorem Nz {e:EndD} {n:Int} (h:wJ e n=false):ju e n=(e,[]):=by rw [ju,if_neg (by simp [h])]
theorem NA {e:EndD} {n:Int} {a:AddrD} (h:wJ e n=true) (ha:e.own.getD 0 default=a):ju e n=({ e with state:=1,key:=e.draw,subs:=e.subs++[⟨⟨a.addr,n,0⟩,1,false,0,0,0,e.draw+2,0⟩],draw:=e.draw+4 },
  [ah ⟨a.addr,n,0⟩ { af with kind:=1,key:=e.draw,give:=e.draw+2 }]):=by rw [ju,if_pos h,nF,ha]
theorem Jb (e:EndD) (n:Int) (hs:Small e):aP 100 [.ag (e.cs 0),.sc (.int .i64 n)] (e.hp false) (.tu [.ag ((ju e n).1.cs 7),.sc (.sl 14 0 (ju e n).2.length)])
  (e.hp false++((ju e n).1.hp true++[some ⟨(ju e n).2.map LetterD.cs,19,73,true,true⟩])):=by
 have hC:=(qH (aA e))
 have hK:=(qH (a_ e))
 have hf:=Nz (e:=e) (n:=n)
 have ht:= @NA e n
 have hk:=wJ.eq_1 e n
 have hS:=fun r=>fd e r (by have:=hs.subs;omega)
 rw [nF] at hk
 generalize ju e n=R at*
 refine qE func100 ntmps100 results100 fun E hE=>?_
 refine qK (hC) (qI 0 7) ?_
 refine qD [0,1,2,3,4,5,6,7,8,9,10,11,12,13,14,15,16,17,18,19,20,21,22,23,24,25,26,27,28,29,30,31,32,33,34,35,36,37,38,39,40,41] ?_
 refine aE (hK) (qI 0 7) ?_
 refine qB (fun h1=>?_) fun h1=>?_
 ·refine qB (fun h2=>?_) fun h2=>?_
  ·refine qB (fun h3=>?_) fun h3=>?_
   ·refine aE (aB _ _ _) [] ?_
    refine qB (fun h4=>?_) fun h4=>?_
    ·obtain⟨a,ha⟩:∃ a,e.own[0]' zO=a:=⟨_,rfl⟩
     have ha2:e.own.getD 0 default=a:=by rw [<-ha,List.getD_eq_getElem?_getD,List.getElem?_eq_getElem zO];rfl
     rw [ha2] at hk
     try simp (disch:=omega) only [go_sem,seval,ha]
     refine aE (hS ⟨a.addr,n,0⟩) (qI 0 7) ?_
     refine qB (fun h7=>?_) fun h7=>?_
     ·refine qB (fun h5=>?_) fun h5=>?_
      ·refine aE (gw e) (qI 0 7) ?_
       refine qG ?_
       refine qB (fun h6=>?_) fun h6=>?_
       ·rw [hf (by rw [hk];first|(simp [h6];done)|(simp [h6];intros;omega))]
        exact qF (qI 0 7++qI 9 7++qI 17 1)
       rw [ht (a:=a) (by rw [hk,h1,h4,h6,decide_eq_true (by omega:e.state=0),decide_eq_false (by omega:¬ e.own.length=0),decide_eq_true (by have:=dw h1;omega:e.subs.length < 8),decide_eq_true (by omega:bF e.subs ⟨a.addr,n,0⟩< 0)];rfl) ha2]
       have h8':=h6
       simp only [cv,RP,decide_eq_true_eq] at h8'
       have hd1:cv e.draw 1 999999998=true:=by simp only [cv,RP,decide_eq_true_eq];omega
       have hd2:cv (e.draw+2) 1 999999998=true:=by simp only [cv,RP,decide_eq_true_eq];omega
       refine qK (cR e hs hd1) (qI 9 7) ?_
       refine qK (cR { e with draw:=e.draw+2 } ⟨hs.own,hs.far,hs.subs,hs.halfs,hs.list,hs.done,hs.over⟩ hd2) (qI 18 7) ?_
       try simp (disch:=omega) only [go_sem,seval,ha]
       refine qK (jt { e with state:=1,key:=e.draw,draw:=e.draw+2+2 } ⟨⟨a.addr,n,0⟩,1,false,0,0,0,e.draw+2,0⟩ (by have:=dw h1;dsimp only;omega)) (qI 25 7) ?_
       refine aH [(0,9),(7,0),(8,0)] [(qU [1,8,0,1,9,3]),(qU [1,7,0,1,8,4]),(qU [1,6,0,1,7,5]),(qU [1,9,0,1,10,2])] (by kernel_rfl) (qC) (by kernel_rfl) ?_
       simp only [bf]
       refine⟨aa 400 ?_,aa 400 ?_,aa 400 ?_,aa 400 ?_⟩
       all_goals simp (disch:=omega) only [go_sem,seval]
       all_goals
        refine aE (bC ⟨a.addr,n,0⟩ { af with kind:=1,key:=e.draw,give:=e.draw+2 }) [] ?_
        refine qG ?_
        refine aK (qI 0 7++qI 25 2++qI 33 1++qI 28 4++qI 35 1) (qC) _ (by simp only [go_sem];rfl) zF zF ?_
        simp (disch:=omega) only [go_sem,seval]
        try simp [SubD.cs,LetterD.cs,ah,af]
        try omega
      rw [hf (by rw [hk];first|(simp [h5];done)|(simp [h5];intros;omega))]
      refine qG ?_
      exact qF (qI 0 7++qI 9 7++qI 17 1)
     rw [hf (by rw [hk];first|(simp [h7];done)|(simp [h7];intros;omega))]
     refine qG ?_
     exact qF (qI 0 7++qI 9 7++qI 17 1)
    rw [hf (by rw [hk];first|(simp [h4];done)|(simp [h4];intros;omega))]
    refine qG ?_
    exact qF (qI 0 7++qI 9 7++qI 17 1)
   rw [hf (by rw [hk,decide_eq_true (by omega:e.own.length=0)];simp)]
   refine qG ?_
   exact qF (qI 0 7++qI 9 7++qI 17 1)
  rw [hf (by rw [hk];first|(simp [h2];done)|(simp [h2];intros;omega))]
  refine qG ?_
  exact qF (qI 0 7++qI 9 7++qI 17 1)
 rw [hf (by rw [hk];first|(simp [h1];done)|(simp [h1];intros;omega))]
 refine qG ?_
 exact qF (qI 0 7++qI 9 7++qI 17 1)
end
theorem qZ {c:Prop} {n0:Nat} {t s1:S} (ρ:cP) (h1:Hy n0 0 ρ t.hp=true:=by rfl) (h2:et ρ t.hp=true:=by rfl) (hm:Fx ρ t.sl s1.sl/\kJ ρ s1.hp ρ t.hp:=by try simp (disch:=omega) only [go_sem,seval])
    (hc:c:=by (try simp (disch:=omega) only [go_sem,List.length_set,seval])<;>omega):c/\∃ ρ,kh ρ n0 t s1:=⟨hc,ρ,ac h1 h2 hm⟩
end Go.Proofs.YteknmpdmhiomgaaGreat
