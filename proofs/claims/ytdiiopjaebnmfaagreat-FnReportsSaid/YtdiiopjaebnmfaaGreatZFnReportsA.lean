/- Lemmas of this claim. -/
import Derived.Test.YtdiiopjaebnmfaaGreatZFnBaseO
import Derived.Test.YtdiiopjaebnmfaaGreatZFnBaseP
set_option maxHeartbeats 16000000
set_option maxRecDepth 100000
set_option linter.unusedVariables false
set_option linter.unusedSimpArgs false
namespace Go.Proofs.YtdiiopjaebnmfaaGreat
open _root_.Go.Proofs.Tryz
open _root_.List renaming drop_eq_nil_of_le->LD,length_cons->LF,getElem_mem->LG,length_append->LH,append_nil->LI,map_nil->LK,length_set->LM,length_nil->LO,length_map->LP
open _root_.Nat renaming zero_le->LJ,mod_eq_of_lt->LN
section
open Go.RowKit
end
section
open Go.RowKit
section
variable {P:Program} {β:Be} {s:S} {a:Act} {w:World} {o:Oper} {r:OpR} {ty:TypeId}
end
end
section
open Go.RowKit
section
variable {P:Program} {β:Be} {s:S} {a:Act} {w:World} {o:Oper} {r:OpR} {ty:TypeId}
end
end
section
open Go.RowKit
section
variable {P:Program} {β:Be} {s:S} {a:Act} {w:World} {o:Oper} {r:OpR} {ty:TypeId}
end
end
section
open Go.RowKit
section
variable {P:Program} {β:Be} {s:S} {a:Act} {w:World} {o:Oper} {r:OpR} {ty:TypeId}
end
end
section
open Go.RowKit
section
variable {P:Program} {β:Be} {s:S} {a:Act} {w:World} {o:Oper} {r:OpR} {ty:TypeId}
end
end
section
open Go.RowKit
end
section
open Go.RowKit
section
variable {β β0':Be} {ρ:bu} {N:Nat}
end
end
section
open Go.RowKit
section
variable {P:Program} {β:Be} {s:S} {w:World} {tm:Array Value}
end
end
section
attribute [go_sem] List.cons_append List.nil_append List.getD_cons_zero List.getD_cons_succ List.getElem?_cons_zero List.getElem?_cons_succ LF LO Option.map_some List.replicate_succ Nat.zero_add List.mem_cons
end
section
open Go.RowKit
end
section
open Go.RowKit
section
variable {P:Program} {E:Entry} {F:S->Prop} {c q:Prop}
end
end
section
open Go.ChangeShapes Go.WideShapes Go.ChangeAt Go.RowKit
section
variable {H:Type} {enc:TypeId×Value->H} {P:Program} {w:World} {base:Nat} {held:Bool}
end
end
section
open Go.ChangeShapes Go.WideShapes Go.ChangeAt Go.RowKit
end
section
end
section
open Go.RowKit
attribute [go_sem] Nat.le_refl
attribute [go_sem] Bool.false_eq_true Bool.false_and
attribute [go_sem] List.not_mem_nil LH
end
section
theorem Ls (n:Nat) (acc:List UInt8):acc.length < (Ec n acc).length:=by
 induction n using Nat.strongRecOn generalizing acc with
 |_ n ih=>
  rw [Ec]
  split
  ·simp
  have:=ih (n / 10) zO (UInt8.ofNat (48+n % 10)::acc)
  simp only [LF] at this
  omega
theorem Lv (k:Nat):∀ (n:Nat) (acc:List UInt8),n < 10 ^ (k+1)->(Ec n acc).length<=acc.length+(k+1):=by
 induction k with
 |zero=>
  intro n acc h
  rw [Ec,dif_pos zO]
  simp
 |succ k ih=>
  intro n acc h
  rw [Ec]
  split
  ·simp
  have:=ih (n / 10) (UInt8.ofNat (48+n % 10)::acc) (by rw [Nat.pow_succ] at h;omega)
  simp only [LF] at this
  omega
theorem Lb {n:Int} (h:aY n):(Ec n.natAbs []).length<=20:=by
 have h': -9223372036854775808<=n/\n<=9223372036854775807:=h
 have:=Lv 19 n.natAbs [] zO
 simpa using this
theorem K1 {n:Int} (h:aY n):(Iy n).length<=21:=by
 have:=Lb h
 rw [Iy]
 split
 ·simp;omega
 omega
end
section
end
section
end
section
open Go.RowKit
def Lw (n:Int):Int:=if n < 10 then 48+n else 87+n
theorem Lc (n:Int) (h0:0<=n) (h:n < 16):aP 52 [.sc (.int .i64 n)] [] (.sc (.int .u8 (Lw n))) []:=by
 refine qE func52 ntmps52 results52 fun E hE=>?_
 refine qB (fun h2=>?_) fun h2=>?_
 ·refine qX ?_
  refine bN [] (trivial) _ (by simp only [go_sem];rfl) zF zF ?_
  simp (disch:=omega) only [go_sem,seval]
  simp [Lw,h2]
 refine qX ?_
 refine bN [] (trivial) _ (by simp only [go_sem];rfl) zF zF ?_
 simp (disch:=omega) only [go_sem,seval]
 simp [Lw,h2]
 omega
theorem Lx (m:Int):∃ z,m.tmod 10=z/\z.natAbs=m.natAbs % 10:=⟨_,rfl,by rw [Int.natAbs_tmod];rfl⟩
theorem Ly (m:Int):∃ z,m.tdiv 10=z/\z.natAbs=m.natAbs / 10:=⟨_,rfl,by rw [Int.natAbs_tdiv];rfl⟩
theorem KZ (n:Int) (hn:aY n):aP 21 [.sc (.int .i64 n)] [] (.sc (.st (Iy n))) []:=by
 refine qE func21 ntmps21 results21 fun E hE=>?_
 refine ki 0 hE (fun s (x:Int×List UInt8)=>s.at (qU [5,19]) [(0,.sc (.int .i64 x.1)),(3,.sc (.sl 0 0 x.2.length))] ([some ⟨x.2.map dL,1,5,true,true⟩])) (fun (x:Int×List UInt8)=>aY x.1/\Ec x.1.natAbs x.2=Ec n.natAbs []) (fun (x:Int×List UInt8)=>x.1.natAbs) (n,[]) [none] (⟨hn,rfl⟩) fun x hx N hN=>?_
 obtain⟨m,acc⟩:=x
 obtain⟨hm,hx⟩:=hx
 dsimp only at hm hx
 obtain⟨z,hz,hz2⟩:=Lx m
 obtain⟨t,ht,ht2⟩:=Ly m
 have hm': -9223372036854775808<=m/\m<=9223372036854775807:=hm
 have hlen:=Ls m.natAbs acc
 rw [hx] at hlen
 have hlen2:=Lb hn
 have hb:∀ d:Int,d=(m.natAbs % 10:Nat)->[Sc.int .u8 (48+d)]=dL (UInt8.ofNat (48+m.natAbs % 10)):=fun d hd=>(wT zO zO).symm
 refine af 400 ?_
 try simp (disch:=omega) only [go_sem,seval,hz]
 refine qB (fun h=>?_) fun h=>?_
 all_goals
  try simp (disch:=omega) only [go_sem,seval,hz,ht]
  refine qB (fun h2=>?_) fun h2=>?_
  ·rw [Ec,dif_pos zO] at hx
   rw [LN zO] at hb
   refine qX ?_
   refine qB (fun h3=>?_) fun h3=>?_
   ·refine qX ?_
    refine bN [] (by (try simp (disch:=omega) only [go_sem,LM,seval,hb])<;>omega) _ (by simp only [go_sem];rfl) zF zF ?_
    simp (disch:=omega) only [go_sem,seval]
    try simp (disch:=omega) only [go_sem,seval,hb]
    rw [Iy,if_pos h3,<-hx]
   refine qX ?_
   refine bN [] (by (try simp (disch:=omega) only [go_sem,LM,seval,hb])<;>omega) _ (by simp only [go_sem];rfl) zF zF ?_
   simp (disch:=omega) only [go_sem,seval]
   try simp (disch:=omega) only [go_sem,seval,hb]
   rw [Iy,if_neg h3,<-hx]
  rw [Ec,dif_neg zO] at hx
  refine qX ?_
  refine⟨zO,hN _ (t,UInt8.ofNat (48+m.natAbs % 10)::acc) (qI 2 1) (by (try dsimp only);exact⟨zO,by rw [ht2];exact hx⟩) (by (try dsimp only);omega) (bM zF zF ?_)⟩
  try simp (disch:=omega) only [go_sem,seval,hb]
  omega
theorem K0 (n:Int) (hn:aY n):aP 24 [.sc (.int .i64 n)] [] (.sc (.st (Iy n))) []:=by
 refine qE func24 ntmps24 results24 fun E hE=>?_
 refine qB (fun h0=>?_) fun h0=>?_
 ·subst h0
  refine qX ?_
  refine bN [] (trivial) _ (by simp only [go_sem];rfl) zF zF ?_
  simp (disch:=omega) only [go_sem,seval]
  simp [Iy,Ec]
 refine qX ?_
 refine ki 0 hE (fun s (x:Int×List UInt8)=>s.at (qU [5,21]) [(0,.sc (.int .i64 x.1)),(4,.sc (.st x.2))] ([])) (fun (x:Int×List UInt8)=>aY x.1/\(if x.1=0 then x.2 else Ec x.1.natAbs x.2)=Ec n.natAbs []) (fun (x:Int×List UInt8)=>x.1.natAbs) (n,[]) [] (⟨hn,if_neg h0⟩) fun x hx N hN=>?_
 obtain⟨m,acc⟩:=x
 obtain⟨hm,hx⟩:=hx
 dsimp only at hm hx
 obtain⟨z,hz,hz2⟩:=Lx m
 obtain⟨t,ht,ht2⟩:=Ly m
 have hlen2:=Lb hn
 refine qR ?_
 refine qB (fun h1=>?_) fun h1=>?_
 ·rw [if_neg h1] at hx
  have hlen:=Ls m.natAbs acc
  rw [hx] at hlen
  have hb:∀ d:Int,d=(m.natAbs % 10:Nat)->[Sc.int .u8 (Lw d)]=dL (UInt8.ofNat (48+m.natAbs % 10)):=fun d hd=>by
   rw [Lw,if_pos zO]
   exact (wT zO zO).symm
  try simp (disch:=omega) only [go_sem,seval,hz]
  refine qB (fun h=>?_) fun h=>?_
  all_goals
   refine qX ?_
   refine jz (qC) (Lc _ ?_ ?_) [] qM zF (af 400 ?_)
   ·omega
   ·omega
   simp (disch:=omega) only [go_sem,seval]
   try simp (disch:=omega) only [go_sem,seval,ht,hb]
   refine⟨by (try simp (disch:=omega) only [go_sem,LM,seval,hb])<;>omega,hN _ (t,UInt8.ofNat (48+m.natAbs % 10)::acc) [] (⟨zO,?_⟩) (by (try dsimp only);omega) (bM zF zF ?_)⟩
   ·dsimp only
    rw [Ec] at hx
    split
    ·rw [dif_pos zO] at hx
     rw [<-hx,LN zO]
    rw [dif_neg zO] at hx
    rw [ht2]
    exact hx
   try simp (disch:=omega) only [go_sem,seval,hb]
 rw [if_pos h1] at hx
 have hla:acc.length<=20:=by rw [hx];exact hlen2
 refine qX ?_
 refine qB (fun h3=>?_) fun h3=>?_
 ·refine qX ?_
  refine qJ [] ?_
  rw [Iy,if_pos h3,hx]
 refine qX ?_
 refine qJ [] ?_
 rw [Iy,if_neg h3,hx]
end
section
open Go.RowKit
section
variable {P:Program} {g:Nat} {tab:List (List UInt8)}
end
end
section
open Go.RowKit
end
section
open Go.ChangeShapes Go.WideShapes Go.ChangeAt Go.RowKit
end
section
open Go.ChangeShapes Go.WideShapes Go.ChangeAt Go.RowKit
end
section
end
section
end
section
def LB (e:EndD):Kb:=[101,110,100,32]++Iy e.side++[32,115,116,97,116,101,32]++Iy e.state++[32,110,111,119,32]++Iy e.now
def Lk (i:Nat) (s:SubD):Kb:=if s.spare then subB i s++[32,115,112,97,114,101] else subB i s
def Ld (a:AddrD):Kb:=if a.told then ownB a else ownB a++[32,117,110,116,111,108,100]
def Lf (a:AddrD):Kb:=[102,97,114,32]++Iy a.id++[32]++Iy a.addr
def Lz (e:EndD):Kb:=[115,101,110,116,32]++Iy e.out.base++[32,111,102,32]++Iy (IntKind.i64.wrap (e.out.base+(e.out.text.length:Int)))
def LA (e:EndD):Kb:=[114,101,97,100,32]++Iy e.inp.read++[32,111,102,32]++Iy (nextOf e.inp)
def K4 (k:Nat):List SubD->List Kb
 |[]=>[]
 |s::r=>Lk k s::K4 (k+1) r
theorem Lg {l:List SubD} {k:Nat} (h:k < l.length):K4 k (l.drop k)=Lk k l[k]::K4 (k+1) (l.drop (k+1)):=by
 rw [List.drop_eq_getElem_cons h,K4]
theorem Lp:∀ {l:List SubD} {k:Nat},(K4 k l).length=l.length
 |[],_=>rfl
 |s::r,k=>by rw [K4,LF,Lp,LF]
def K6 (e:EndD):List Kb:=LB e::K4 0 e.subs
def K7 (e:EndD):List Kb:=K6 e++e.own.map Ld
def Lt (e:EndD):List Kb:=K7 e++e.far.map Lf
def K2 (e:EndD):List Kb:=Lt e++[Lz e,LA e]
theorem K9 (e:EndD):(K6 e).length=e.subs.length+1:=by rw [K6,LF,Lp]
theorem K_ (e:EndD):(K7 e).length=e.subs.length+1+e.own.length:=by rw [K7,LH,K9,LP]
theorem La (e:EndD):(Lt e).length=e.subs.length+1+e.own.length+e.far.length:=by rw [Lt,LH,K_,LP]
theorem Lr (e:EndD):(K2 e).length=e.subs.length+3+e.own.length+e.far.length:=by
 rw [K2,LH,La]
 simp
 omega
theorem K3 (n:Int):aY (IntKind.i64.wrap n):=by
 rw [IntKind.wrap_i64]
 constructor<;>omega
theorem Lq {r:RoadD} (h:r.wf):(Jw r).length<=65:=by
 have h1:=K1 h.1
 have h2:=K1 h.2.1
 have h3:=K1 h.2.2
 simp only [Jw,LH,LF,LO]
 omega
theorem Lh (n:Int):(HQ n).length<=5:=by
 rw [HQ]
 split
 ·decide
 split
 ·decide
 split
 ·decide
 split<;>decide
end
section
end
section
end
section
open Go.RowKit
theorem SubD.wf_road {s:SubD} (h:s.wf):s.road.wf:=⟨h.1,h.2.1,h.2.2.1⟩
theorem K5 (r:RoadD) (hr:r.wf):aP 10 [.ag r.cs] [] (.sc (.st (Jw r))) []:=by
 have h1:=K1 hr.1
 have h2:=K1 hr.2.1
 have h3:=K1 hr.2.2
 refine qE func10 ntmps10 results10 fun E hE=>?_
 refine qD [0,1,4,5,9,10,2,3,6,7,8,11,12,13] ?_
 refine cj (KZ _ hr.1) [] ?_
 refine cj (KZ _ hr.2.1) [] ?_
 refine cj (KZ _ hr.2.2) [] ?_
 refine qG ?_
 refine qP [] ?_
 first|exact⟨⟩|simp [Jw]
theorem Li (n:Int):aP 22 [.sc (.int .i64 n)] [] (.sc (.st (HQ n))) []:=by
 refine qE func22 ntmps22 results22 fun E hE=>?_
 refine qB (fun h1=>?_) fun h1=>?_
 ·refine qJ [] ?_
  simp [HQ,h1]
 refine qB (fun h2=>?_) fun h2=>?_
 ·refine qJ [] ?_
  simp [HQ,h1,h2]
 refine qB (fun h3=>?_) fun h3=>?_
 ·refine qJ [] ?_
  simp [HQ,h1,h2,h3]
 refine qB (fun h4=>?_) fun h4=>?_
 ·refine qJ [] ?_
  simp [HQ,h1,h2,h3,h4]
 refine qJ [] ?_
 simp [HQ,h1,h2,h3,h4]
theorem Ll (r:RoadD) (hr:r.wf):aP 25 [.ag r.cs] [] (.sc (.st (Jw r))) []:=by
 have h1:=K1 hr.1
 have h2:=K1 hr.2.1
 have h3:=K1 hr.2.2
 refine qE func25 ntmps25 results25 fun E hE=>?_
 refine qD [0,1,4,5,9,10,2,3,6,7,8,11,12,13] ?_
 refine cj (K0 _ hr.1) [] ?_
 refine cj (K0 _ hr.2.1) [] ?_
 refine cj (K0 _ hr.2.2) [] ?_
 refine qG ?_
 refine qP [] ?_
 first|exact⟨⟩|simp [Jw]
theorem Lm (n:Int):aP 26 [.sc (.int .i64 n)] [] (.sc (.st (HQ n))) []:=by
 refine qE func26 ntmps26 results26 fun E hE=>?_
 refine qB (fun h1=>?_) fun h1=>?_
 ·refine qJ [] ?_
  simp [HQ,h1]
 refine qB (fun h2=>?_) fun h2=>?_
 ·refine qJ [] ?_
  simp [HQ,h1,h2]
 refine qB (fun h3=>?_) fun h3=>?_
 ·refine qJ [] ?_
  simp [HQ,h1,h2,h3]
 refine qB (fun h4=>?_) fun h4=>?_
 ·refine qJ [] ?_
  simp [HQ,h1,h2,h3,h4]
 refine qJ [] ?_
 simp [HQ,h1,h2,h3,h4]
theorem Ln (e:EndD) (hw:e.wf) (h1:e.subs.length<=1048576) (h2:e.own.length<=1048576) (h3:e.far.length<=1048576):aP 7 [.ag (e.cs 0)] (e.hp false) (.sc (.sl 7 0 (K2 e).length)) (e.hp false++[some ⟨(K2 e).map D9,1,9,true,true⟩]):=by
 have hw':=hw
 obtain⟨w0,w1,w2,w3,w4,w5,w6,w7,w8,w9,w10,w11,w12,w13,w14,w15,w16,w17,w18,w19,w20,_⟩:=hw'
 have d0:=K1 w0
 have d1:=K1 w1
 have d16:=K1 w16
 have d10:=K1 w10
 have d13:=K1 w13
 have ds:=K1 (K3 (e.out.base+(e.out.text.length:Int)))
 have dn:=K1 (show aY (nextOf e.inp) from K3 _)
 have p1:=K9 e
 have p2:=K_ e
 have p3:=La e
 refine qE func7 ntmps7 results7 fun E hE=>?_
 refine qD [0,1,5,6,10,11,2,3,4,7,8,9,12,13,14,15] ?_
 refine cj (KZ _ w0) [] ?_
 refine cj (KZ _ w1) [] ?_
 refine cj (KZ _ w16) [] ?_
 refine qG ?_
 refine iK 7 hE (fun s (x:Nat×List Kb)=>s.at (qU [0,1,4,3,12,16,31,26]) [(30,.sc (.int .i64 (x.1:Nat))),(3,.sc (.sl 8 0 x.2.length))] (e.hp false++[some ⟨[e.cs 0],25,38,true,false⟩,some ⟨x.2.map D9,1,9,true,true⟩])) (fun (x:Nat×List Kb)=>x.1<=e.subs.length/\x.2.length=1+x.1/\x.2++K4 x.1 (e.subs.drop x.1)=K6 e) (fun (x:Nat×List Kb)=>e.subs.length - x.1) (0,[LB e]) (qI 0 9) (qC) (⟨LJ _,rfl,rfl⟩) (bM zF zF ?_) fun x hx N hN=>?_
 ·try simp (disch:=omega) only [go_sem,seval]
  try rfl
  try exact⟨rfl,rfl⟩
  try simp [LB,D9]
 obtain⟨k,acc⟩:=x
 obtain⟨hk1,hk2,hk3⟩:=hx
 dsimp only at hk1 hk2 hk3
 refine qR ?_
 refine qB (fun h=>?_) fun h=>?_
 ·rw [Lg h] at hk3
  have hs:SubD.wf e.subs[k]:=w20 _ (LG h)
  have hkI:aY (k:Int):=⟨zO,zO⟩
  have dk:=K1 hkI
  have dr:=Lq (SubD.wf_road hs)
  have dst:=Lh e.subs[k].state
  refine qX ?_
  refine qD [0,4,5,9,10,1,2,3,6,7,8,11,12,13] ?_
  refine cj (KZ _ hkI) [] ?_
  refine cj (K5 e.subs[k].road (SubD.wf_road hs)) [] ?_
  refine cj (Li _) [] ?_
  refine qG ?_
  refine qB (fun h5=>?_) fun h5=>?_
  ·have es:Lk k e.subs[k]=subB k e.subs[k]++[32,115,112,97,114,101]:=by simp [Lk,h5]
   rw [es] at hk3
   refine wO hN (k+1,acc++[subB k e.subs[k]++[32,115,112,97,114,101]]) (qI 0 8++qI 11 1) (by (try dsimp only);exact⟨zO,by simp;omega,by simpa using hk3⟩) ?_
   first|exact⟨⟩|simp [D9,subB]
  have es:Lk k e.subs[k]=subB k e.subs[k]:=by simp [Lk,h5]
  rw [es] at hk3
  refine wO hN (k+1,acc++[subB k e.subs[k]]) (qI 0 8++qI 11 1) (by (try dsimp only);exact⟨zO,by simp;omega,by simpa using hk3⟩) ?_
  first|exact⟨⟩|simp [D9,subB]
 rw [LD zO,K4,LI] at hk3
 subst hk3
 refine qX ?_
 refine iK 7 hE (fun s (x:Nat×List Kb)=>s.at (qU [0,1,4,3,8,2,12,46,61,22]) [(60,.sc (.int .i64 (x.1:Nat))),(3,.sc (.sl 8 0 x.2.length))] (e.hp false++[some ⟨[e.cs 0],25,38,true,false⟩,some ⟨x.2.map D9,1,9,true,true⟩])) (fun (x:Nat×List Kb)=>x.1<=e.own.length/\x.2.length=(K6 e).length+x.1/\x.2++(e.own.drop x.1).map Ld=K7 e) (fun (x:Nat×List Kb)=>e.own.length - x.1) (0,K6 e) (qI 0 9) (qC) (⟨LJ _,rfl,rfl⟩) (bM zF zF ?_) fun x hx N hN=>?_
 ·try simp (disch:=omega) only [go_sem,seval]
  try rfl
 obtain⟨k,acc⟩:=x
 obtain⟨hk1,hk2,hk3⟩:=hx
 dsimp only at hk1 hk2 hk3
 refine qR ?_
 refine qB (fun h=>?_) fun h=>?_
 ·rw [Jx h] at hk3
  have hs:AddrD.wf e.own[k]:=w18 _ (LG h)
  have da:=K1 hs.1
  have db:=K1 hs.2
  refine qX ?_
  refine qD [0,1,5,6,2,3,4,7,8,9] ?_
  refine cj (KZ _ hs.1) [] ?_
  refine cj (KZ _ hs.2) [] ?_
  refine qG ?_
  cases h5:e.own[k].told with
  |false=>
   have es:Ld e.own[k]=ownB e.own[k]++[32,117,110,116,111,108,100]:=by simp [Ld,h5]
   rw [es] at hk3
   try simp (disch:=omega) only [go_sem,seval,h5]
   refine wO hN (k+1,acc++[ownB e.own[k]++[32,117,110,116,111,108,100]]) (qI 0 8++qI 11 1) (by (try dsimp only);exact⟨zO,by simp;omega,by simpa using hk3⟩) ?_
   first|exact⟨⟩|simp [D9,ownB]
  |true=>
   have es:Ld e.own[k]=ownB e.own[k]:=by simp [Ld,h5]
   rw [es] at hk3
   try simp (disch:=omega) only [go_sem,seval,h5]
   refine wO hN (k+1,acc++[ownB e.own[k]]) (qI 0 8++qI 11 1) (by (try dsimp only);exact⟨zO,by simp;omega,by simpa using hk3⟩) ?_
   first|exact⟨⟩|simp [D9,ownB]
 rw [LD zO,LK,LI] at hk3
 subst hk3
 refine qX ?_
 refine iK 7 hE (fun s (x:Nat×List Kb)=>s.at (qU [0,1,4,3,8,2,11,73,87,16]) [(86,.sc (.int .i64 (x.1:Nat))),(3,.sc (.sl 8 0 x.2.length))] (e.hp false++[some ⟨[e.cs 0],25,38,true,false⟩,some ⟨x.2.map D9,1,9,true,true⟩])) (fun (x:Nat×List Kb)=>x.1<=e.far.length/\x.2.length=(K7 e).length+x.1/\x.2++(e.far.drop x.1).map Lf=Lt e) (fun (x:Nat×List Kb)=>e.far.length - x.1) (0,K7 e) (qI 0 9) (qC) (⟨LJ _,rfl,rfl⟩) (bM zF zF ?_) fun x hx N hN=>?_
 ·try simp (disch:=omega) only [go_sem,seval]
  try rfl
 obtain⟨k,acc⟩:=x
 obtain⟨hk1,hk2,hk3⟩:=hx
 dsimp only at hk1 hk2 hk3
 refine qR ?_
 refine qB (fun h=>?_) fun h=>?_
 ·rw [Jx h] at hk3
  have hs:AddrD.wf e.far[k]:=w19 _ (LG h)
  have da:=K1 hs.1
  have db:=K1 hs.2
  refine qX ?_
  refine qD [0,1,2,6,7,3,4,5,8,9,10,11,12] ?_
  refine cj (KZ _ hs.1) [] ?_
  refine cj (KZ _ hs.2) [] ?_
  refine qG ?_
  refine wO hN (k+1,acc++[Lf e.far[k]]) (qI 0 8++qI 11 1) (by (try dsimp only);exact⟨zO,by simp;omega,by simpa using hk3⟩) ?_
  first|exact⟨⟩|simp [D9,Lf]
 rw [LD zO,LK,LI] at hk3
 subst hk3
 refine qX ?_
 refine qD [0,1,2,3,7,8,9,10,11,12,13,14,17,18,19,23,24,4,5,6,15,16,20,21,22,25,26,27,28,29,30] ?_
 refine cj (KZ _ w10) [] ?_
 refine cj (KZ _ (K3 (e.out.base+(e.out.text.length:Int)))) [] ?_
 refine cj (KZ _ w13) [] ?_
 refine cj (Hg e.inp) (qI 4 1) ?_
 refine cj (KZ _ (show aY (nextOf e.inp) from K3 _)) [] ?_
 refine qG ?_
 refine qP (qI 0 7++qI 10 1) ?_
 first|exact⟨⟩|simp [K2,Lz,LA,D9]
theorem Lo (e:EndD) (hw:e.wf) (h1:e.subs.length<=1048576) (h2:e.own.length<=1048576) (h3:e.far.length<=1048576):aP 9 [.ag (e.cs 0)] (e.hp false) (.sc (.sl 7 0 (K2 e).length)) (e.hp false++[some ⟨(K2 e).map D9,1,9,true,true⟩]):=by
 have hw':=hw
 obtain⟨w0,w1,w2,w3,w4,w5,w6,w7,w8,w9,w10,w11,w12,w13,w14,w15,w16,w17,w18,w19,w20,_⟩:=hw'
 have d0:=K1 w0
 have d1:=K1 w1
 have d16:=K1 w16
 have d10:=K1 w10
 have d13:=K1 w13
 have ds:=K1 (K3 (e.out.base+(e.out.text.length:Int)))
 have dn:=K1 (show aY (nextOf e.inp) from K3 _)
 have p1:=K9 e
 have p2:=K_ e
 have p3:=La e
 refine qE func9 ntmps9 results9 fun E hE=>?_
 refine qD [0,1,5,6,10,11,2,3,4,7,8,9,12,13,14,15] ?_
 refine cj (K0 _ w0) [] ?_
 refine cj (K0 _ w1) [] ?_
 refine cj (K0 _ w16) [] ?_
 refine qG ?_
 refine iK 7 hE (fun s (x:Nat×List Kb)=>s.at (qU [0,1,5,1,9,55]) [(4,.sc (.int .i64 (x.1:Nat))),(3,.sc (.sl 8 0 x.2.length))] (e.hp false++[some ⟨[e.cs 0],25,38,true,false⟩,some ⟨x.2.map D9,1,9,true,true⟩])) (fun (x:Nat×List Kb)=>x.1<=e.subs.length/\x.2.length=1+x.1/\x.2++K4 x.1 (e.subs.drop x.1)=K6 e) (fun (x:Nat×List Kb)=>e.subs.length - x.1) (0,[LB e]) (qI 0 9) (qC) (⟨LJ _,rfl,rfl⟩) (bM zF zF ?_) fun x hx N hN=>?_
 ·try simp (disch:=omega) only [go_sem,seval]
  try rfl
  try exact⟨rfl,rfl⟩
  try simp [LB,D9]
 obtain⟨k,acc⟩:=x
 obtain⟨hk1,hk2,hk3⟩:=hx
 dsimp only at hk1 hk2 hk3
 refine qR ?_
 refine qB (fun h=>?_) fun h=>?_
 ·rw [Lg h] at hk3
  have hs:SubD.wf e.subs[k]:=w20 _ (LG h)
  have hkI:aY (k:Int):=⟨zO,zO⟩
  have dk:=K1 hkI
  have dr:=Lq (SubD.wf_road hs)
  have dst:=Lh e.subs[k].state
  refine qX ?_
  refine qD [0,4,5,6,7,8,9,13,14,15,16,17,18,1,2,3,10,11,12,19,20,21] ?_
  refine cj (K0 _ hkI) [] ?_
  refine cj (Ll e.subs[k].road (SubD.wf_road hs)) [] ?_
  refine cj (Lm _) [] ?_
  refine qG ?_
  refine qB (fun h5=>?_) fun h5=>?_
  ·have es:Lk k e.subs[k]=subB k e.subs[k]++[32,115,112,97,114,101]:=by simp [Lk,h5]
   rw [es] at hk3
   refine wO hN (k+1,acc++[subB k e.subs[k]++[32,115,112,97,114,101]]) (qI 0 8++qI 10 1) (by (try dsimp only);exact⟨zO,by simp;omega,by simpa using hk3⟩) ?_
   first|exact⟨⟩|simp [D9,subB]
  have es:Lk k e.subs[k]=subB k e.subs[k]:=by simp [Lk,h5]
  rw [es] at hk3
  refine wO hN (k+1,acc++[subB k e.subs[k]]) (qI 0 8++qI 10 1) (by (try dsimp only);exact⟨zO,by simp;omega,by simpa using hk3⟩) ?_
  first|exact⟨⟩|simp [D9,subB]
 rw [LD zO,K4,LI] at hk3
 subst hk3
 refine qX ?_
 refine iK 7 hE (fun s (x:Nat×List Kb)=>s.at (qU [0,1,4,2,7,1,9,92]) [(6,.sc (.int .i64 (x.1:Nat))),(3,.sc (.sl 8 0 x.2.length))] (e.hp false++[some ⟨[e.cs 0],25,38,true,false⟩,some ⟨x.2.map D9,1,9,true,true⟩])) (fun (x:Nat×List Kb)=>x.1<=e.own.length/\x.2.length=(K6 e).length+x.1/\x.2++(e.own.drop x.1).map Ld=K7 e) (fun (x:Nat×List Kb)=>e.own.length - x.1) (0,K6 e) (qI 0 9) (qC) (⟨LJ _,rfl,rfl⟩) (bM zF zF ?_) fun x hx N hN=>?_
 ·try simp (disch:=omega) only [go_sem,seval]
  try rfl
 obtain⟨k,acc⟩:=x
 obtain⟨hk1,hk2,hk3⟩:=hx
 dsimp only at hk1 hk2 hk3
 refine qR ?_
 refine qB (fun h=>?_) fun h=>?_
 ·rw [Jx h] at hk3
  have hs:AddrD.wf e.own[k]:=w18 _ (LG h)
  have da:=K1 hs.1
  have db:=K1 hs.2
  refine qX ?_
  refine qD [0,1,2,3,4,5,9,10,11,12,13,14,6,7,8,15,16,17] ?_
  refine cj (K0 _ hs.1) [] ?_
  refine cj (K0 _ hs.2) [] ?_
  refine qG ?_
  cases h5:e.own[k].told with
  |false=>
   have es:Ld e.own[k]=ownB e.own[k]++[32,117,110,116,111,108,100]:=by simp [Ld,h5]
   rw [es] at hk3
   try simp (disch:=omega) only [go_sem,seval,h5]
   refine wO hN (k+1,acc++[ownB e.own[k]++[32,117,110,116,111,108,100]]) (qI 0 8++qI 10 1) (by (try dsimp only);exact⟨zO,by simp;omega,by simpa using hk3⟩) ?_
   first|exact⟨⟩|simp [D9,ownB]
  |true=>
   have es:Ld e.own[k]=ownB e.own[k]:=by simp [Ld,h5]
   rw [es] at hk3
   try simp (disch:=omega) only [go_sem,seval,h5]
   refine wO hN (k+1,acc++[ownB e.own[k]]) (qI 0 8++qI 10 1) (by (try dsimp only);exact⟨zO,by simp;omega,by simpa using hk3⟩) ?_
   first|exact⟨⟩|simp [D9,ownB]
 rw [LD zO,LK,LI] at hk3
 subst hk3
 refine qX ?_
 refine iK 7 hE (fun s (x:Nat×List Kb)=>s.at (qU [0,1,4,4,9,119]) [(8,.sc (.int .i64 (x.1:Nat))),(3,.sc (.sl 8 0 x.2.length))] (e.hp false++[some ⟨[e.cs 0],25,38,true,false⟩,some ⟨x.2.map D9,1,9,true,true⟩])) (fun (x:Nat×List Kb)=>x.1<=e.far.length/\x.2.length=(K7 e).length+x.1/\x.2++(e.far.drop x.1).map Lf=Lt e) (fun (x:Nat×List Kb)=>e.far.length - x.1) (0,K7 e) (qI 0 9) (qC) (⟨LJ _,rfl,rfl⟩) (bM zF zF ?_) fun x hx N hN=>?_
 ·try simp (disch:=omega) only [go_sem,seval]
  try rfl
 obtain⟨k,acc⟩:=x
 obtain⟨hk1,hk2,hk3⟩:=hx
 dsimp only at hk1 hk2 hk3
 refine qR ?_
 refine qB (fun h=>?_) fun h=>?_
 ·rw [Jx h] at hk3
  have hs:AddrD.wf e.far[k]:=w19 _ (LG h)
  have da:=K1 hs.1
  have db:=K1 hs.2
  refine qX ?_
  refine qD [0,1,2,3,4,5,6,10,11,12,13,14,15,7,8,9,16,17,18,19,20] ?_
  refine cj (K0 _ hs.1) [] ?_
  refine cj (K0 _ hs.2) [] ?_
  refine qG ?_
  refine wO hN (k+1,acc++[Lf e.far[k]]) (qI 0 8++qI 10 1) (by (try dsimp only);exact⟨zO,by simp;omega,by simpa using hk3⟩) ?_
  first|exact⟨⟩|simp [D9,Lf]
 rw [LD zO,LK,LI] at hk3
 subst hk3
 refine qX ?_
 refine qD [0,1,2,3,7,8,9,10,11,12,13,14,4,5,6,15,16,17,18,19] ?_
 refine cj (K0 _ w10) [] ?_
 refine cj (K0 _ (K3 (e.out.base+(e.out.text.length:Int)))) [] ?_
 refine qG ?_
 refine qD [0,1,2,3,7,8,4,5,6,9,10,11,12,13,14] ?_
 refine cj (K0 _ w13) [] ?_
 refine cj (dv e.inp) (qI 4 1) ?_
 refine cj (K0 _ (show aY (nextOf e.inp) from K3 _)) [] ?_
 refine qG ?_
 refine qP (qI 0 7++qI 12 1) ?_
 first|exact⟨⟩|simp [K2,Lz,LA,D9]
end
section
open Go.RowKit
section
variable {P:Program} {β:Be}
end
end
section
open Go.RowKit
theorem K8 (b:List UInt8) (hb:b.length<=1048576):f_ Tryz.prog 6 [.sc (.sl 0 0 b.length)] [some ⟨b.map dL,1,5,false,true⟩] Drn (fun e=>.ag (e.cs 1)) (fun e=>[some ⟨b.map dL,1,5,false,true⟩]++e.hp false):=by
 refine dB func6 (by kernel_rfl) rfl fun E hE=>af 400 ?_
 simp (disch:=omega) only [ntmps6,results6,go_sem,seval]
 refine qK (Ha b hb) (qI 0 1) ?_
 refine aM (qC) (Hu b (u6 b) (Ix hb)) (qI 0 1++qI 2 1) qM zF fun z hz=>af 400 ?_
 simp (disch:=omega) only [go_sem,seval]
 refine am z.1 (hz.2) (qI 0 1++qI 3 7) (qC) _ (by simp only [go_sem];rfl) zF zF ?_
 simp (disch:=omega) only [go_sem,seval]
attribute [go_sem] List.append_eq
theorem Lj (l:List (List UInt8)) (hl:l.length<=4611686018427387904):aP 8 [.sc (.sl 0 0 l.length),.sc (.sl 1 0 l.length)] [some ⟨l.map D9,1,9,false,true⟩,some ⟨l.map D9,1,9,false,true⟩] (.sc (.bo true)) [some ⟨l.map D9,1,9,false,true⟩,some ⟨l.map D9,1,9,false,true⟩]:=by
 refine qE func8 ntmps8 results8 fun E hE=>?_
 refine ki 2 hE (fun s (k:Nat)=>s.at (qU [4,1,6,20]) [(5,.sc (.int .i64 (k:Nat)))] (s.hp)) (fun (k:Nat)=>k<=l.length) (fun (k:Nat)=>l.length - k) 0 (qI 0 2) (LJ _) fun k hk N hN=>?_
 refine qR ?_
 refine qB (fun h=>?_) fun h=>?_
 ·refine qD [0,1,2,3,4,5,6,7,8] ?_
  refine qG ?_
  exact qN hN (k+1) (qI 0 2) (by (try dsimp only);exact h)
 exact qF (qI 0 2)
theorem Lu (b:List UInt8) (hb:b.length<=maxLen) (_:∀ x∈b,True):aP 3 [.sc (.sl 0 0 b.length)] [some ⟨b.map dL,1,5,false,true⟩] (.sc (.bo true)) [some ⟨b.map dL,1,5,false,true⟩]:=by
 refine qE func3 ntmps3 results3 fun E hE=>?_
 refine qK (JU b hb) (qI 0 1) ?_
 refine qB (fun h=>?_) fun h=>?_
 ·exact qF (qI 0 1)
 refine aM (qC) (K8 b zO) (qI 0 1) qM zF fun e he=>af 400 ?_
 simp (disch:=omega) only [go_sem,seval]
 have hs:=he.s
 have c1:=Ln e he.wf hs.subs hs.own hs.far
 have c2:=Lo e he.wf hs.subs hs.own hs.far
 have hl:=Lr e
 have k1:=hs.subs
 have k2:=hs.own
 have k3:=hs.far
 have c3:=Lj (K2 e) zO
 have c4:=K5 ⟨11,21,1⟩ (by simp [RoadD.wf,aY])
 rw [show Jw ⟨11,21,1⟩=[49,49,45,50,49,58,49] from by decide+kernel] at c4
 generalize K2 e=L at*
 refine qK (c1) (qI 1 7) ?_
 have hq:((L.length:Nat):Int)=3+(e.subs.length:Int)+(e.own.length:Int)+(e.far.length:Int):=zO
 try simp (disch:=omega) only [go_sem,seval,hq]
 refine qK (c2) (qI 1 7) ?_
 refine qK (c3) (qI 9 2) ?_
 refine qK (c4) [] ?_
 exact qF (qI 0 1)
end
section
open Go
end
section
open Go
end
end Go.Proofs.YtdiiopjaebnmfaaGreat
