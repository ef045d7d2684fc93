/-
  Texts merged for this claim by shake.py: what its proof needs.
-/
import Derived.Test.YtjghbknhneffjaaGreatZFnBaseL
import Derived.Test.YtjghbknhneffjaaGreatZFnBaseM
import Derived.Test.YtjghbknhneffjaaGreatZFnBaseN
set_option maxHeartbeats 16000000
set_option maxRecDepth 100000
set_option linter.unusedVariables false
set_option linter.unusedSimpArgs false
namespace Go.Proofs.YtjghbknhneffjaaGreat
section
open Go.RowKit
end
section
open Go.RowKit
section
variable {P:Program} {β:Be} {s:S} {a:Act} {w:World} {o:Oper} {r:OpR} {ty:TypeId}
end
end
section
open Go.RowKit
section
variable {β β0':Be} {ρ:Rho} {N:Nat}
end
end
section
end
section
open Go.ChangeShapes Go.WideShapes Go.ChangeAt Go.RowKit
section
variable {H:Type} {enc:TypeId×Value->H} {P:Program} {w:World} {base:Nat} {held:Bool}
end
end
section
open Go.RowKit
end
section
end
section
end
section
open Go.RowKit
theorem JL:∀ p∈Er,polOk p=true:=by decide
theorem Jh {s:Int} {p:PolicyD} (hs:1<=s/\s<=2) (hp:p∈Er):i3 s (10*s+1) p=(EO s p,true):=by
 have h1:bj s 1 2=true:=by simp only [bj,Bool.and_eq_true,decide_eq_true_eq];omega
 have h2:aX (eK (10*s+1))=true:=by
  have:s=1\/s=2:=by omega
  rcases this with rfl|rfl<;>decide
 rw [yV (by rw [h1,JL p hp,h2];rfl)];rfl
theorem Ij {e:EndD} {n:Int} (h:Du e n=false):iA e n=(e,[]):=if_neg (by simp [h])
theorem Ik {e:EndD} {n:Int} {i:Nat} (h:Du e n=true) (hi:aG e.own n=(i:Int)) (hl:i < e.own.length):
  iA e n=({ e with own:=(be e.own n).1,done:=gf e.done n,subs:=e.subs.map (Dt e.own[i].addr) },(j0 (e.subs.map (Dt e.own[i].addr))).map fun k=>Bj n (aN (e.subs.map (Dt e.own[i].addr)) k)):=by
 rw [iA,if_pos h,ic,hi,Int.toNat_natCast,hV hl]
theorem Fe {e:EndD} (h:af e=true):e.done.length<=256:=(oW h).1
theorem v8 (e:EndD) (n:Int) (hs:Small e):aP 255 [.ag (e.cs 0),.sc (.int .i64 n)] (e.hp false) (.tu [.ag ((iA e n).1.cs 7),.sc (.sl 14 0 (iA e n).2.length)])
  (e.hp false++((iA e n).1.hp true++[some ⟨(iA e n).2.map LetterD.cs,19,48,true,true⟩])):=by
 have hC:=(qH (aj e))
 have hK:=(qH (au e))
 have hA:=cm e.own n (by have:=hs.own;omega)
 have hD:=nN e.own n (by have:=hs.own;omega)
 have hsb:=hs.subs
 have hso:=hs.own
 have hbd:=fQ e.own n
 have hf:=Ij (e:=e) (n:=n)
 have ht:= @Ik e n
 have hok:Du e n=(af e && decide (e.state=2) && decide (0<=aG e.own n)):=rfl
 obtain⟨R,hR⟩:∃ R,R=iA e n:=⟨_,rfl⟩
 rw [<-hR] at hf ht
 rw [<-hR]
 clear hR
 refine gU Tryz.func255 Tryz.ntmps255 Tryz.results255 fun E hE=>?_
 refine qK (hC) (qI 0 7) ?_
 refine qK (hA) (qI 0 1) ?_
 rcases hbd with hi0|⟨hi0,hi1⟩
 ·rw [hf (by rw [hok,hi0];simp)]
  rw [hi0]
  refine qX ?_
  refine qK (hK) (qI 0 7) ?_
  refine qB (fun h1=>?_) fun h1=>?_
  ·refine qB (fun h2=>?_) fun h2=>?_
   ·refine qX ?_
    exact dk (qI 0 7++qI 9 7++qI 17 1)
   refine qX ?_
   exact dk (qI 0 7++qI 9 7++qI 17 1)
  refine qX ?_
  exact dk (qI 0 7++qI 9 7++qI 17 1)
 obtain⟨i,hi⟩:=Int.eq_ofNat_of_zero_le hi0
 have hil:i < e.own.length:=by omega
 rw [hi]
 refine qX ?_
 refine qK (hK) (qI 0 7) ?_
 refine qB (fun h1=>?_) fun h1=>?_
 ·refine qB (fun h2=>?_) fun h2=>?_
  ·have hR:=ht (by rw [hok,h1,h2,hi];simp) hi hil
   have hdl:(be e.own n).1.length<=e.own.length:=by rw [mG hi];simp;omega
   have hgo:=aT (enc:=AddrD.cs) hil
   generalize hv:e.own[i].addr=v at hR
   try simp (disch:=omega) only [go_sem,seval,hgo,hv]
   refine qK (rI e.done n (by have:=Fe h1;omega)) (qI 5 1) ?_
   refine qK (hD) (qI 0 1) ?_
   refine ju 7 hE (fun s (k:Nat)=>s.at (qU [0,1,13,60]) [(9,.sc (.int .i64 (k:Nat)))] (s.hp.set 11 (some ⟨(cd (Dt v) e.subs k).map SubD.cs,10,101,true,true⟩))) (fun (k:Nat)=>k<=e.subs.length) (fun (k:Nat)=>e.subs.length - k) 0 (qI 0 20) (qC) (Nat.zero_le _) (ab (by rfl) (by rfl) ?_) fun k hk N hN=>?_
   ·refine qX ?_
    rw [uC]
   refine ac 400 ?_
   have hgl:(cd (Dt v) e.subs k).length=e.subs.length:=xh
   refine qX ?_
   refine qB (fun h=>?_) fun h=>?_
   ·have hg:=xi (f:=Dt v) h
    try simp (disch:=omega) only [go_sem,seval,hg]
    refine qD [0,1,2,3,4,5,6,7,8,9,10,11,12,13] ?_
    refine⟨qC,ac 400 ?_⟩
    try simp (disch:=omega) only [go_sem,seval,hg,hgo,hv]
    refine qB (fun h9=>?_) fun h9=>?_
    ·refine qX ?_
     refine⟨qC,hN _ (k+1) (qI 0 20) (by (try dsimp only);exact by omega) (by (try dsimp only);omega) (ab (by rfl) (by rfl) ?_)⟩
     refine qX ?_
     rw [<-xj h,List.map_set]
     simp [Dt,h9,hg,SubD.cs]
    refine qX ?_
    refine⟨qC,hN _ (k+1) (qI 0 20) (by (try dsimp only);exact by omega) (by (try dsimp only);omega) (ab (by rfl) (by rfl) ?_)⟩
    refine qX ?_
    rw [uB h (by rw [Dt,if_neg h9])]
   have hkl:k=e.subs.length:=by omega
   subst hkl
   rw [xk]
   have hdl2:(e.subs.map (Dt v)).length<=1048576:=by rw [List.length_map];exact hsb
   have hO:=oK { e with own:=(be e.own n).1,done:=gf e.done n,subs:=e.subs.map (Dt v) } hdl2
   have hlen:(e.subs.map (Dt v)).length=e.subs.length:=List.length_map ..
   generalize hDD:e.subs.map (Dt v)=D at*
   clear hDD
   rw [<-hlen]
   refine qX ?_
   refine qK (hO) (qI 19 1++qI 10 4++qI 18 1++qI 15 1) ?_
   have honl:=pO D
   refine tD 7 hE (fun s (y:Nat×List LetterD)=>s.at (qU [0,1,2,1,8,2,12,87]) [(11,.sc (.int .i64 (y.1:Nat))),(7,.sc (.sl 17 0 y.2.length))] (s.hp.set 17 (some ⟨y.2.map LetterD.cs,19,48,true,true⟩))) (fun (y:Nat×List LetterD)=>y.1<=(j0 D).length/\y.2.length<=y.1/\R=({ e with own:=(be e.own n).1,done:=gf e.done n,subs:=D },y.2++((j0 D).drop y.1).map fun k=>Bj n (aN D k))) (fun (y:Nat×List LetterD)=>(j0 D).length - y.1) (0,[]) (qI 0 21) (⟨Nat.zero_le _,Nat.zero_le _,hR⟩) fun y hy N2 hN2=>?_
   obtain⟨q,l⟩:=y
   obtain⟨g1,g2,g3⟩:=hy
   dsimp only at g1 g2 g3
   refine qR ?_
   refine qB (fun b=>?_) fun b=>?_
   ·have hkq:=yD b
    rw [List.drop_eq_getElem_cons b,List.map_cons] at g3
    have hgq:=aT (enc:=pM) b
    generalize hk0:(j0 D)[q]=k0 at*
    rw [bW hkq] at g3
    have hgs:=aT (enc:=SubD.cs) hkq
    generalize hss:D[k0]=s0 at*
    have hB:=aw s0.road { ah with kind:=10,sgn:=s0.give,id:=n }
    refine qX ?_
    refine qD [0,1,2,3,4,5,6,7,8,9] ?_
    try simp (disch:=omega) only [go_sem,seval,hgq,hk0,pM,hgs,hss]
    refine qG ?_
    refine qK (hB) [] ?_
    refine⟨qC,hN2 _ (q+1,l++[Bj n s0]) (qI 0 17++qI 23 1++qI 18 3) (by (try dsimp only);exact⟨by omega,by simp;omega,by simpa using g3⟩) (by (try dsimp only);omega) (ab (by rfl) (by rfl) ?_)⟩
    refine qX ?_
    rw [List.map_append]
    rfl
   rw [List.drop_eq_nil_of_le (by omega),List.map_nil,List.append_nil] at g3
   subst g3
   refine qX ?_
   exact dk (qI 0 7++qI 19 1++qI 10 4++qI 18 1++qI 15 1++qI 17 1)
  rw [hf (by rw [hok];simp [h2])]
  refine qX ?_
  exact dk (qI 0 7++qI 9 7++qI 17 1)
 rw [hf (by rw [hok];simp [h1])]
 refine qX ?_
 exact dk (qI 0 7++qI 9 7++qI 17 1)
theorem Jt:(Er.all fun p=>t7 (EO 1 p) && t7 (EO 2 p) && zJ (pX (EO 1 p) (EO 2 p)).1 && zJ (pX (EO 1 p) (EO 2 p)).2.1)=true:=by decide+kernel
theorem Ju:(Er.all fun p=>startE (pX (EO 1 p) (EO 2 p)).1 (pX (EO 1 p) (EO 2 p)).2.1)=true:=by decide+kernel
structure Start2 (w:WorldD):Prop where
 pol:w.a.policy∈Er
 done:w.a.done=[]/\w.b.done=[]
 over:w.a.over=[]/\w.b.over=[]
theorem Ji:(Er.all fun p=>decide ((pX (EO 1 p) (EO 2 p)).1.policy=p) && decide ((pX (EO 1 p) (EO 2 p)).1.done=[]/\(pX (EO 1 p) (EO 2 p)).2.1.done=[]) && decide ((pX (EO 1 p) (EO 2 p)).1.over=[]/\(pX (EO 1 p) (EO 2 p)).2.1.over=[]))=true:=by decide+kernel
theorem Hf {a:ActD} (h:cO a=true):0<=a.pos:=by
 simp only [cO,gA,bj,Bool.and_eq_true,decide_eq_true_eq] at h
 omega
def PI:List Int->Int
 |[]=>0
 |x::l=>x+PI l
theorem Qa:∀ {l m:List Int},PI (l++m)=PI l+PI m
 |[],m=>by simp [PI]
 |x::l,m=>by rw [List.cons_append,PI,PI,Qa (l:=l)];omega
theorem P3 {l:List Int} {k:Nat} (h:k < l.length):PI (l.take (k+1))=PI (l.take k)+l[k]:=by
 rw [List.take_succ_eq_append_getElem h,Qa,PI,PI];omega
theorem P9 {B:Int}:∀ {l:List Int},(∀ v∈l,0<=v/\v<=B)->0<=PI l/\PI l<=B*l.length
 |[],_=>by simp [PI]
 |x::l,h=>by
  have h1:=h x (by simp)
  have h2:=P9 (l:=l) (fun v hv=>h v (by simp [hv]))
  rw [PI,List.length_cons,Int.natCast_add,Int.mul_add]
  omega
end
section
open Go
def un (R:Nat) (g:Nat):Nat:=(R >>> (10*g)) % 1024
def H_ (P:Program) (R lo hi:Nat) (g:Nat):Bool:=
 match P.funcs[g]? with
 |none=>true
 |some fn=>((P.leadsTo fn).all fun h=>Nat.blt (un R h) (un R g) && (Nat.ble lo h && Nat.blt h hi)) && (!(fn.ours || fn.body.isNone || fn.name == "runtime.NumGoroutine") && (match fn.body with|some c=> !c.unfollowed && c.globalsNamed.isEmpty|none=>false))
def E9 (P:Program) (R lo hi:Nat) (g:Nat):Bool:=Nat.ble 1000 (un R g) || H_ P R lo hi g
theorem xs {P:Program} {R lo hi g:Nat} (h:E9 P R lo hi g=true) (hr:un R g < 1000):H_ P R lo hi g=true:=by
 unfold E9 at h
 rw [Bool.or_eq_true,Nat.ble_eq] at h
 exact h.resolve_left (by omega)
theorem GD {P:Program} {R lo hi:Nat} (h:∀ g,lo<=g/\g < hi->E9 P R lo hi g=true) {g k:FuncId} (hb:lo<=g/\g < hi) (hr:un R g < 1000) (hk:k∈(P.funcs[g]?).elim [] P.leadsTo):un R k < un R g/\lo<=k/\k < hi:=by
 have hg:=xs (h g hb) hr
 unfold H_ at hg
 cases hf:P.funcs[g]? with
 |none=>rw [hf] at hk;simp at hk
 |some fn=>
  rw [hf] at hg hk
  simp only [Bool.and_eq_true,List.all_eq_true,Nat.blt_eq,Nat.ble_eq] at hg
  exact hg.1 k hk
theorem GE {P:Program} {R lo hi:Nat} (h:∀ g,lo<=g/\g < hi->E9 P R lo hi g=true) (f:FuncId) (hf0:(lo<=f/\f < hi)/\un R f < 1000):P.inPlace f=[]/\P.unfollowed f=false/\P.recurses f=false/\P.varsNamed f=[]:=by
 have hin:∀ k,(lo<=k/\k < hi)/\un R k < 1000->∀ x∈P.closure k,(lo<=x/\x < hi)/\un R x < 1000:=fun k hk=>Bo (S:=fun x=>(lo<=x/\x < hi)/\un R x < 1000) (fun a ha b hb=>⟨(GD h ha.1 ha.2 hb).2,Nat.lt_trans (GD h ha.1 ha.2 hb).1 ha.2⟩) hk
 have hu:P.unfollowed f=false:=by
  unfold Program.unfollowed
  rw [List.any_eq_false]
  intro g hgc
  have hg:=xs (h g (hin f hf0 g hgc).1) (hin f hf0 g hgc).2
  unfold H_ at hg
  cases hf:P.funcs[g]? with
  |none=>simp
  |some fn=>
   rw [hf] at hg
   simp only [Bool.and_eq_true] at hg
   simp only [Option.any_some]
   cases hb:fn.body with
   |none=>rw [hb] at hg;simp at hg
   |some c=>rw [hb] at hg;simp at hg⊢;exact hg.2.2.1
 refine⟨?_,hu,?_,?_⟩
 ·unfold Program.inPlace
  rw [List.filterMap_eq_nil_iff]
  intro g hgc
  have hg:=xs (h g (hin f hf0 g hgc).1) (hin f hf0 g hgc).2
  unfold H_ at hg
  cases hf:P.funcs[g]? with
  |none=>rfl
  |some fn=>
   rw [hf] at hg
   simp only [Bool.and_eq_true,Bool.not_eq_true'] at hg
   simp only [Option.bind_some]
   rw [hg.2.1]
   rfl
 ·unfold Program.recurses
  rw [hu,Bool.false_or,List.any_eq_false]
  intro g hgc
  rw [Bool.not_eq_true,List.any_eq_false]
  intro k hk
  rw [Bool.not_eq_true]
  obtain⟨h1,hkb⟩:=GD h (hin f hf0 g hgc).1 (hin f hf0 g hgc).2 hk
  have hkr:un R k < 1000:=Nat.lt_trans h1 (hin f hf0 g hgc).2
  have h2:∀ x∈P.closure k,un R x<=un R k/\lo<=x/\x < hi:=Bo (S:=fun x=>un R x<=un R k/\lo<=x/\x < hi) (fun a ha b hb=>⟨Nat.le_trans (Nat.le_of_lt (GD h ha.2 (by omega) hb).1) ha.1,(GD h ha.2 (by omega) hb).2⟩) ⟨Nat.le_refl _,hkb⟩
  cases hc:(P.closure k).contains g with
  |false=>rfl
  |true=>
   have:=(h2 g (List.contains_iff_mem.1 hc)).1
   omega
 unfold Program.varsNamed
 have e1:((P.closure f).flatMap fun g=>((P.funcs[g]?).bind (·.body)).elim [] Code.globalsNamed)=[]:=by
  rw [List.flatMap_eq_nil_iff]
  intro g hgc
  have hg:=xs (h g (hin f hf0 g hgc).1) (hin f hf0 g hgc).2
  unfold H_ at hg
  cases hf:P.funcs[g]? with
  |none=>rfl
  |some fn=>
   rw [hf] at hg
   simp only [Bool.and_eq_true] at hg
   simp only [Option.bind_some]
   cases hb:fn.body with
   |none=>rfl
   |some c=>rw [hb] at hg;simp at hg⊢;exact hg.2.2.2
 have e2:((P.closure f).filterMap fun g=>(P.funcs[g]?).bind fun fn=>if fn.body.isNone then entryReads.lookup fn.name else none)=[]:=by
  rw [List.filterMap_eq_nil_iff]
  intro g hgc
  have hg:=xs (h g (hin f hf0 g hgc).1) (hin f hf0 g hgc).2
  unfold H_ at hg
  cases hf:P.funcs[g]? with
  |none=>rfl
  |some fn=>
   rw [hf] at hg
   simp only [Bool.and_eq_true] at hg
   simp only [Option.bind_some]
   cases hb:fn.body with
   |none=>rw [hb] at hg;simp at hg
   |some c=>rfl
 rw [e1,e2]
 rfl
theorem Hr {P:Program} {f:FuncId} {fn:Func} {s:ChangeSpec} {c:OpenClaim} (g:P.inPlace f=[]/\P.unfollowed f=false/\P.recurses f=false/\P.varsNamed f=[]) (c1:c.inPlace=[]) (c2:c.unfollowed=false) (c3:c.recurses=false) (c4:c.named=[])
  (m1:P.mayEnter=true) (m2:P.liftsFinal=false) (m3:P.make=some .cut) (d2:c.lifted=false) (d3:c.make=.cut) (h:Cj P f fn s c=true):joinedFacts P f fn s c=true:=by
 obtain⟨g1,g2,g3,g4⟩:=g
 unfold Cj at h
 unfold joinedFacts
 simp only [Bool.and_eq_true] at h⊢
 obtain⟨⟨⟨⟨⟨⟨⟨⟨⟨⟨⟨⟨⟨⟨⟨⟨⟨⟨⟨⟨⟨⟨⟨⟨k1,k2⟩,k3⟩,k4⟩,k5⟩,k6⟩,k7⟩,k8⟩,k9⟩,k14⟩,k15⟩,k16⟩,k17⟩,k17b⟩,k18⟩,k19⟩,k20⟩,k21⟩,k22⟩,k23⟩,k23b⟩,k25⟩,k26⟩,k27⟩,k28⟩:=h
 refine⟨⟨⟨⟨⟨⟨⟨⟨⟨⟨⟨⟨⟨⟨⟨⟨⟨⟨⟨⟨⟨⟨⟨⟨⟨⟨⟨⟨⟨⟨⟨k1,k2⟩,k3⟩,k4⟩,k5⟩,k6⟩,k7⟩,k8⟩,k9⟩,?_⟩,?_⟩,?_⟩,?_⟩,k14⟩,k15⟩,k16⟩,k17⟩,k17b⟩,k18⟩,k19⟩,k20⟩,k21⟩,k22⟩,k23⟩,k23b⟩,m1⟩,?_⟩,?_⟩,k25⟩,k26⟩,k27⟩,k28⟩
 ·rw [c1,g1];rfl
 ·rw [c2,g2];rfl
 ·rw [c3,g3];rfl
 ·rw [c4,g4];rfl
 ·rw [d2,m2];rfl
 rw [d3,m3];exact beq_self_eq_true _
end
section
open Go
def FL:Nat:=1799743530576795566865501056695624017320885302620131642069987121162515361100033467902552850406931772761286988194433575080812429290764755572092895327244424175097513374805733681717860324056987954907683192474062132780955326270920715452344858482535307899376075615393532403594680460844180638985541582726550961358495062576626090536583761902477174957456911948395488731530735433664940778289407715690097680511153769848384650530170198438030203071214866170890062318327568542544388516172399094796023054825650354670656761298721768880740086685520774746383916379348031785364250180491425858428032304207547958403857377630397078014867181374914133558198476186463010430990787039592400121447893041970223443096027920815982813592993224190404870903408289449686573259812660407001240480247037669585473846832695118771122116312841428836643952421339336289370431158399270709216715886948229551704349154200070437991010415963459010142490036002175318052363613831811432655850143737708544
theorem Iw:(List.range' 3 16).all (E9 Tryz.prog FL 3 301)=true:=by kernel_rfl
theorem Ix:(List.range' 19 16).all (E9 Tryz.prog FL 3 301)=true:=by kernel_rfl
theorem Iy:(List.range' 35 16).all (E9 Tryz.prog FL 3 301)=true:=by kernel_rfl
theorem Iz:(List.range' 51 16).all (E9 Tryz.prog FL 3 301)=true:=by kernel_rfl
theorem IA:(List.range' 67 16).all (E9 Tryz.prog FL 3 301)=true:=by kernel_rfl
theorem IB:(List.range' 83 16).all (E9 Tryz.prog FL 3 301)=true:=by kernel_rfl
theorem IC:(List.range' 99 16).all (E9 Tryz.prog FL 3 301)=true:=by kernel_rfl
theorem ID:(List.range' 115 16).all (E9 Tryz.prog FL 3 301)=true:=by kernel_rfl
theorem IE:(List.range' 131 16).all (E9 Tryz.prog FL 3 301)=true:=by kernel_rfl
theorem IF:(List.range' 147 16).all (E9 Tryz.prog FL 3 301)=true:=by kernel_rfl
theorem Ia:(List.range' 163 16).all (E9 Tryz.prog FL 3 301)=true:=by kernel_rfl
theorem Ib:(List.range' 179 16).all (E9 Tryz.prog FL 3 301)=true:=by kernel_rfl
theorem Ic:(List.range' 195 16).all (E9 Tryz.prog FL 3 301)=true:=by kernel_rfl
theorem Id:(List.range' 211 16).all (E9 Tryz.prog FL 3 301)=true:=by kernel_rfl
theorem Ie:(List.range' 227 16).all (E9 Tryz.prog FL 3 301)=true:=by kernel_rfl
theorem If:(List.range' 243 16).all (E9 Tryz.prog FL 3 301)=true:=by kernel_rfl
theorem Ig:(List.range' 259 16).all (E9 Tryz.prog FL 3 301)=true:=by kernel_rfl
theorem Ih:(List.range' 275 16).all (E9 Tryz.prog FL 3 301)=true:=by kernel_rfl
theorem Ii:(List.range' 291 10).all (E9 Tryz.prog FL 3 301)=true:=by kernel_rfl
theorem H4 (g:Nat) (h:3<=g/\g < 301):E9 Tryz.prog FL 3 301 g=true:=by
 rcases (by omega:(3<=g/\g < 19)\/(19<=g/\g < 35)\/(35<=g/\g < 51)\/(51<=g/\g < 67)\/(67<=g/\g < 83)\/(83<=g/\g < 99)\/(99<=g/\g < 115)\/(115<=g/\g < 131)\/(131<=g/\g < 147)\/(147<=g/\g < 163)\/(163<=g/\g < 179)\/(179<=g/\g < 195)\/(195<=g/\g < 211)\/(211<=g/\g < 227)\/(227<=g/\g < 243)\/(243<=g/\g < 259)\/(259<=g/\g < 275)\/(275<=g/\g < 291)\/(291<=g/\g < 301)) with h|h|h|h|h|h|h|h|h|h|h|h|h|h|h|h|h|h|h
 ·exact List.all_eq_true.1 Iw g (List.mem_range'_1.2 h)
 ·exact List.all_eq_true.1 Ix g (List.mem_range'_1.2 h)
 ·exact List.all_eq_true.1 Iy g (List.mem_range'_1.2 h)
 ·exact List.all_eq_true.1 Iz g (List.mem_range'_1.2 h)
 ·exact List.all_eq_true.1 IA g (List.mem_range'_1.2 h)
 ·exact List.all_eq_true.1 IB g (List.mem_range'_1.2 h)
 ·exact List.all_eq_true.1 IC g (List.mem_range'_1.2 h)
 ·exact List.all_eq_true.1 ID g (List.mem_range'_1.2 h)
 ·exact List.all_eq_true.1 IE g (List.mem_range'_1.2 h)
 ·exact List.all_eq_true.1 IF g (List.mem_range'_1.2 h)
 ·exact List.all_eq_true.1 Ia g (List.mem_range'_1.2 h)
 ·exact List.all_eq_true.1 Ib g (List.mem_range'_1.2 h)
 ·exact List.all_eq_true.1 Ic g (List.mem_range'_1.2 h)
 ·exact List.all_eq_true.1 Id g (List.mem_range'_1.2 h)
 ·exact List.all_eq_true.1 Ie g (List.mem_range'_1.2 h)
 ·exact List.all_eq_true.1 If g (List.mem_range'_1.2 h)
 ·exact List.all_eq_true.1 Ig g (List.mem_range'_1.2 h)
 ·exact List.all_eq_true.1 Ih g (List.mem_range'_1.2 h)
 exact List.all_eq_true.1 Ii g (List.mem_range'_1.2 h)
theorem Hs (f:Nat) (h:((Nat.ble 3 f && Nat.blt f 301) && Nat.blt (un FL f) 1000)=true):Tryz.prog.inPlace f=[]/\Tryz.prog.unfollowed f=false/\Tryz.prog.recurses f=false/\Tryz.prog.varsNamed f=[]:=
 GE H4 f (by simpa only [Bool.and_eq_true,Nat.ble_eq,Nat.blt_eq] using h)
end
end Go.Proofs.YtjghbknhneffjaaGreat
