/- Lemmas of this claim. -/
import Derived.Test.YtdiiopjaebnmfaaGreatZFnBaseO
import Derived.Test.YtdiiopjaebnmfaaGreatZFnBaseP
set_option maxHeartbeats 16000000
set_option maxRecDepth 100000
set_option linter.unusedVariables false
set_option linter.unusedSimpArgs false
namespace Go.Proofs.YtdiiopjaebnmfaaGreat
open _root_.Go.Proofs.Tryz
open _root_.Nat renaming zero_le->MQ,not_lt_zero->M1,mod_lt->M4,div_le_div_right->M_,eq_zero_or_pos->Nf,add_div_right->Ng,mod_eq_of_lt->Nj,le_refl->Nu
open _root_.List renaming getD_eq_getElem?_getD->MR,drop_eq_nil_of_le->MS,getElem?_eq_getElem->MT,length_set->MW,getElem_mem->MY,length_replicate->MZ,all_nil->M5,append_nil->M7,mem_cons_of_mem->M9,mem_iff_getElem->Na,mem_cons->Nb,getD_cons_succ->Nc,cons_append->Nh,length_cons->Ni,all_eq_true->Nk,filter_nil->Nl,all_cons->Nn,map_cons->Nq,sum_cons->Nr,map_nil->Ns,mem_map->Nt
open _root_.Bool renaming and_eq_true->MU,true_and->M2,false_or->M3,true_or->M6,false_and->M8,false_eq_true->Nd,not_false->Nm,and_self->Np
open _root_.Int renaming toNat_natCast->MV,eq_ofNat_of_zero_le->MX,le_refl->Nv
section
open Go.RowKit
end
section
open Go.RowKit
section
variable {P:Program} {β:Be} {s:S} {a:Act} {w:World} {o:Oper} {r:OpR} {ty:TypeId}
end
end
section
open Go.RowKit
section
variable {P:Program} {β:Be} {s:S} {a:Act} {w:World} {o:Oper} {r:OpR} {ty:TypeId}
end
end
section
open Go.RowKit
section
variable {P:Program} {β:Be} {s:S} {a:Act} {w:World} {o:Oper} {r:OpR} {ty:TypeId}
end
end
section
open Go.RowKit
section
variable {P:Program} {β:Be} {s:S} {a:Act} {w:World} {o:Oper} {r:OpR} {ty:TypeId}
end
end
section
open Go.RowKit
section
variable {P:Program} {β:Be} {s:S} {a:Act} {w:World} {o:Oper} {r:OpR} {ty:TypeId}
end
end
section
open Go.RowKit
end
section
open Go.RowKit
section
variable {β β0':Be} {ρ:bu} {N:Nat}
end
end
section
open Go.RowKit
section
variable {P:Program} {β:Be} {s:S} {w:World} {tm:Array Value}
end
end
section
attribute [go_sem] Nh List.nil_append List.getD_cons_zero Nc List.getElem?_cons_zero List.getElem?_cons_succ Ni List.length_nil Option.map_some List.replicate_succ Nat.zero_add Nb
end
section
open Go.RowKit
end
section
open Go.RowKit
theorem qY {p:Prop} (e:p:=by simp (disch:=omega) only [go_sem,seval]):p:=e
section
variable {P:Program} {E:Entry} {F:S->Prop} {c q:Prop}
end
end
section
open Go.ChangeShapes Go.WideShapes Go.ChangeAt Go.RowKit
section
variable {H:Type} {enc:TypeId×Value->H} {P:Program} {w:World} {base:Nat} {held:Bool}
end
end
section
open Go.ChangeShapes Go.WideShapes Go.ChangeAt Go.RowKit
end
section
end
section
open Go.RowKit
theorem MG {l:List Int} {k:Nat} (h:k < l.length):(l.map cv)[k]? =some [.int .i64 l[k]]:=by simp [cv,h]
attribute [go_sem] Nu
attribute [go_sem] Nd M8
attribute [go_sem] List.not_mem_nil List.length_append
end
section
end
section
end
section
end
section
open Go.RowKit
theorem LD (n a b:Int):aP 30 [.sc (.int .i64 n),.sc (.int .i64 a),.sc (.int .i64 b)] [] (.sc (.bo (co n a b))) []:=by
 refine qE func30 ntmps30 results30 fun E hE=>?_
 refine qB (fun h=>?_) fun h=>?_
 ·refine bN [] (trivial) _ (by simp only [go_sem];rfl) zF zF ?_
  simp (disch:=omega) only [go_sem,seval]
  simp [co,h]
 refine bN [] (trivial) _ (by simp only [go_sem];rfl) zF zF ?_
 simp (disch:=omega) only [go_sem,seval]
 simp [co,h]
theorem LE (l:List Int) (hl:l.length<=1000000):aP 60 [.sc (.sl 0 0 l.length)] [some ⟨l.map cv,1,3,false,true⟩] (.sc (.bo (l.all kj))) [some ⟨l.map cv,1,3,false,true⟩]:=by
 refine qE func60 ntmps60 results60 fun E hE=>?_
 refine iK 1 hE (fun s k=>s.at (qU [4,1,8,7]) [(7,.sc (.int .i64 (k:Nat)))] s.hp) (fun k=>k<=l.length/\l.all kj=(l.drop k).all kj) (fun k=>l.length - k) 0 (qI 0 1) trivial ⟨MQ _,zP⟩ (bM zF zF ?_) fun k hk N hN=>?_
 ·exact qY
 obtain⟨hk1,hk2⟩:=hk
 refine af 100 ?_
 refine qX ?_
 refine qB (fun h=>?_) fun h=>?_
 ·try simp (disch:=omega) only [go_sem,seval,MG h]
  refine jz zO (LD _ _ _) [] qM zF (af 400 ?_)
  simp (disch:=omega) only [go_sem,seval]
  rw [List.drop_eq_getElem_cons h,Nn] at hk2
  refine qB (fun h2=>?_) fun h2=>?_
  ·refine bN (qI 0 1) (trivial) _ (by simp only [go_sem];rfl) zF zF ?_
   simp (disch:=omega) only [go_sem,seval]
   have:kj l[k]=false:=by simp [kj,co] at h2⊢;omega
   rw [hk2,this,M8]
  refine⟨trivial,hN _ (k+1) (qI 0 1) (⟨zO,?_⟩) (by (try dsimp only);omega) (bM zF zF ?_)⟩
  ·have:kj l[k]=true:=by simp [kj,co] at h2⊢;omega
   rw [hk2,this,M2]
  exact qY
 refine bN (qI 0 1) (trivial) _ (by simp only [go_sem];rfl) zF zF ?_
 simp (disch:=omega) only [go_sem,seval]
 rw [hk2,MS zO,M5]
theorem L8 (p:PolicyD):aP 53 [.ag p.cs] [] (.sc (.bo (polOk p))) []:=by
 refine qE func53 ntmps53 results53 fun E hE=>?_
 refine qB (fun h1=>?_) fun h1=>?_
 ·refine qK (LD _ _ _) [] ?_
  refine qJ [] ?_
  simp [polOk,h1]
 refine qB (fun h2=>?_) fun h2=>?_
 ·refine qB (fun h3=>?_) fun h3=>?_
  ·refine qJ [] ?_
   simp [polOk,h1,h2,h3]
  refine qJ [] ?_
  simp [polOk,h1,h2,h3]
 refine qJ [] ?_
 simp [polOk,h1,h2]
end
section
open Go.RowKit
section
variable {P:Program} {g:Nat} {tab:List (List UInt8)}
end
end
section
open Go.RowKit
end
section
open Go.ChangeShapes Go.WideShapes Go.ChangeAt Go.RowKit
end
section
open Go.ChangeShapes Go.WideShapes Go.ChangeAt Go.RowKit
end
section
theorem Mw {α:Type} {p:α->Bool} {l:List α} {k:Nat} (h:l.length<=k):(l.drop k).all p=true:=by
 rw [MS h,M5]
end
section
def ML (list:List Int) (k:Nat):Int:=list.getD k 0
theorem Md {list:List Int} {k:Nat} (h:k < list.length):ML list k=list[k]:=by
 rw [ML,MR,MT h];rfl
def LK (l:List SubD) (list:List Int):List Int:=(eG l).map (ML list)
def LH (a b:Int):Bool:=decide (b < a) && decide (1 < IntKind.u64.wrap (IntKind.u64.wrap a - IntKind.u64.wrap b))
def LS (v:List Int):Bool:=v.all fun a=>v.all fun b=> !LH a b
def LG (first:Bool) (least most:Int):List Int->Int×Int
 |[]=>(least,most)
 |n::r=>LG false (if (first || decide (n < least))=true then n else least) (if (first || decide (most < n))=true then n else most) r
def Mx (v:List Int):Bool:=(LG true 0 0 v).2 == (LG true 0 0 v).1 || decide (IntKind.i64.wrap ((LG true 0 0 v).2 - 1)<=(LG true 0 0 v).1)
def LF (e:EndD) (list:List Int):Bool:=decide ((list.length:Int)=(e.subs.length:Int)) && LS (LK e.subs list)
theorem LW {a b:Int} (ha:aY a) (hb:aY b):LH a b=true↔1 < a - b:=by
 obtain⟨a1,a2⟩:=ha
 obtain⟨b1,b2⟩:=hb
 simp only [LH,MU,decide_eq_true_eq,IntKind.wrap_u64]
 constructor
 ·rintro⟨h1,h2⟩;omega
 intro h;constructor<;>omega
theorem Mh:∀ {v:List Int} {l m:Int},l<=m->(LG false l m v).1<=l/\m<=(LG false l m v).2/\(∀ x∈v,(LG false l m v).1<=x/\x<=(LG false l m v).2)/\((LG false l m v).1=l\/(LG false l m v).1∈v)/\((LG false l m v).2=m\/(LG false l m v).2∈v)
 |[],l,m,h=>⟨Nv _,Nv _,fun x hx=>by simp at hx,.inl rfl,.inl rfl⟩
 |n::r,l,m,h=>by
  rw [LG]
  simp only [M3,decide_eq_true_eq]
  obtain⟨l',hl,hl1,hl2,hl3⟩:∃ l',(if n < l then n else l)=l'/\l'<=l/\l'<=n/\(l'=l\/l'=n):=⟨_,rfl,by split<;>omega,by split<;>omega,by split<;>simp⟩
  obtain⟨m',hm,hm1,hm2,hm3⟩:∃ m',(if m < n then n else m)=m'/\m<=m'/\n<=m'/\(m'=m\/m'=n):=⟨_,rfl,by split<;>omega,by split<;>omega,by split<;>simp⟩
  rw [hl,hm]
  obtain⟨h1,h2,h3,h4,h5⟩:=Mh (v:=r) (l:=l') (m:=m') zO
  refine⟨zO,zO,fun x hx=>?_,?_,?_⟩
  ·rcases Nb.1 hx with rfl|hx
   ·exact⟨zO,zO⟩
   exact h3 x hx
  ·rcases h4 with h4|h4
   ·rcases hl3 with e|e
    ·exact .inl zO
    exact .inr (by rw [h4,e];simp)
   exact .inr (M9 _ h4)
  rcases h5 with h5|h5
  ·rcases hm3 with e|e
   ·exact .inl zO
   exact .inr (by rw [h5,e];simp)
  exact .inr (M9 _ h5)
theorem MI {v:List Int} (hv:∀ x∈v,aY x):Mx v=LS v:=by
 cases v with
 |nil=>decide
 |cons n r=>
  have e:LG true 0 0 (n::r)=LG false n n r:=by simp [LG]
  obtain⟨h1,h2,h3,h4,h5⟩:=Mh (v:=r) (Int.le_refl n)
  rw [Mx,e]
  generalize LG false n n r=p at h1 h2 h3 h4 h5
  obtain⟨lo,hi⟩:=p
  dsimp only at h1 h2 h3 h4 h5⊢
  have hlo:lo∈n::r:=by rcases h4 with h|h<;>simp [h]
  have hhi:hi∈n::r:=by rcases h5 with h|h<;>simp [h]
  obtain⟨lo1,lo2⟩:=hv lo hlo
  obtain⟨hi1,hi2⟩:=hv hi hhi
  have hall:∀ x∈n::r,lo<=x/\x<=hi:=by
   intro x hx
   rcases List.mem_cons.1 hx with rfl|hx
   ·exact⟨h1,h2⟩
   exact h3 x hx
  cases hE:LS (n::r) with
  |true=>
   simp only [LS,List.all_eq_true,Bool.not_eq_true'] at hE
   have:=hE hi hhi lo hlo
   have hw:¬ 1 < hi - lo:=fun h=>by
    rw [(LW (hv hi hhi) (hv lo hlo)).2 h] at this
    cases this
   simp only [Bool.or_eq_true,beq_iff_eq,decide_eq_true_eq,IntKind.wrap_i64]
   by_cases hq:hi=lo
   ·exact .inl hq
   right;omega
  |false=>
   have hex:∃ a∈n::r,∃ b∈n::r,LH a b=true:=Classical.byContradiction fun hn=>by
    have ht:LS (n::r)=true:=by
     simp only [LS,List.all_eq_true,Bool.not_eq_true']
     intro a ha b hb
     cases h:LH a b with
     |false=>rfl
     |true=>exact absurd ⟨a,ha,b,hb,h⟩ hn
    rw [ht] at hE
    cases hE
   obtain⟨a,ha,b,hb,hab⟩:=hex
   have:=(LW (hv a ha) (hv b hb)).1 hab
   have q1:=hall a ha
   have q2:=hall b hb
   simp only [Bool.or_eq_false_iff,beq_eq_false_iff_ne,decide_eq_false_iff_not,IntKind.wrap_i64]
   constructor
   ·intro h;omega
   omega
def Mb (l:List SubD):Bool:=(lA l).any (Hd l)
def LY (l:List SubD) (n:Nat):Bool:= !(Mb l && (aZ l n).spare)
theorem MM (l:List SubD):(lA l).filter (LY l)=eG l:=by
 rw [eG]
 cases hs:Mb l with
 |true=>
  have e:LY l=Hd l:=funext fun n=>by simp [LY,Hd,hs]
  rw [e,if_neg]
  intro h
  rw [Mb,List.any_eq_true] at hs
  obtain⟨x,hx,hp⟩:=hs
  have:x∈(lA l).filter (Hd l):=List.mem_filter.2 ⟨hx,hp⟩
  rw [List.eq_nil_of_length_eq_zero h] at this
  simp at this
 |false=>
  have h0:(lA l).filter (Hd l)=[]:=by
   rw [List.filter_eq_nil_iff]
   intro x hx hp
   rw [Mb,List.any_eq_false] at hs
   exact hs x hx hp
  rw [h0,if_pos zP,List.filter_eq_self]
  intro x _
  simp [LY,hs]
end
section
end
section
end
section
end
section
open Go.RowKit
theorem MB (e:EndD) (hl:e.subs.length<=1048576):aP 66 [.ag (e.cs 0)] (e.hp false) (.sc (.sl 7 0 (lA e.subs).length)) (e.hp false++[some ⟨(lA e.subs).map u_,1,3,true,true⟩]):=by
 refine qE func66 ntmps66 results66 fun E hE=>?_
 refine ki 7 hE (fun s (x:Nat×List Nat)=>s.at (qU [0,2,4,3,10,12]) [(9,.sc (.int .i64 (x.1:Nat))),(3,.sc (.sl 8 0 x.2.length))] (e.hp false++[some ⟨[e.cs 0],25,38,true,false⟩,some ⟨x.2.map u_,1,3,true,true⟩])) (fun (x:Nat×List Nat)=>x.1<=e.subs.length/\x.2.length<=x.1/\x.2++kZ x.1 (e.subs.drop x.1)=lA e.subs) (fun (x:Nat×List Nat)=>e.subs.length - x.1) (0,[]) (qI 0 8++qO 1) (⟨MQ _,MQ _,rfl⟩) fun x hx N hN=>?_
 obtain⟨k,acc⟩:=x
 obtain⟨hk1,hk2,hk3⟩:=hx
 dsimp only at hk1 hk2 hk3
 refine qR ?_
 refine qB (fun h=>?_) fun h=>?_
 ·rw [Cb h] at hk3
  refine qX ?_
  refine qB (fun h2=>?_) fun h2=>?_
  ·rw [if_pos h2] at hk3
   refine⟨qC,hN _ (k+1,acc++[k]) (qI 0 8++qI 11 1) (by (try dsimp only);exact⟨zO,by simp;omega,by simpa using hk3⟩) (by (try dsimp only);omega) (bM zF zF ?_)⟩
   refine qX ?_
   simp [u_]
  rw [if_neg h2] at hk3
  exact qN hN (k+1,acc) (qI 0 9) (by (try dsimp only);exact⟨zO,zO,hk3⟩)
 rw [MS zO,kZ,M7] at hk3
 subst hk3
 exact qF (qI 0 7++qI 8 1)
theorem Mi (l:List HalfD) (r:RoadD) (hl:l.length<=1048576):aP 78 [.sc (.sl 0 0 l.length),.ag r.cs] [some ⟨l.map HalfD.cs,8,87,false,true⟩] (.sc (.int .i64 (aJ l r))) [some ⟨l.map HalfD.cs,8,87,false,true⟩]:=by
 refine qE func78 ntmps78 results78 fun E hE=>?_
 refine ki 1 hE (fun s (k:Nat)=>s.at (qU [0,2,4,3,10,10]) [(9,.sc (.int .i64 (k:Nat)))] (s.hp)) (fun (k:Nat)=>k<=l.length/\cX (fun h:HalfD=>dg h.road r) k (l.drop k)=aJ l r) (fun (k:Nat)=>l.length - k) 0 (qI 0 2) (⟨MQ _,rfl⟩) fun k hk N hN=>?_
 obtain⟨hk1,hk2⟩:=hk
 refine qR ?_
 refine qB (fun h=>?_) fun h=>?_
 ·rw [k_ h] at hk2
  refine qX ?_
  refine qB (fun h2=>?_) fun h2=>?_
  ·rw [qi h2,if_pos rfl] at hk2
   refine qP (qI 0 1) ?_
   first|exact⟨⟩|exact hk2
  rw [qj h2,if_neg zP] at hk2
  exact qN hN (k+1) (qI 0 2) (by (try dsimp only);exact⟨zO,hk2⟩)
 rw [m7 zO] at hk2
 refine qP (qI 0 1) ?_
 first|exact⟨⟩|exact hk2
theorem Mj (l:List AddrD) (n:Int) (hl:l.length<=1048576):aP 81 [.sc (.sl 0 0 l.length),.sc (.int .i64 n)] [some ⟨l.map AddrD.cs,4,60,false,true⟩] (.sc (.int .i64 (aB l n))) [some ⟨l.map AddrD.cs,4,60,false,true⟩]:=by
 refine qE func81 ntmps81 results81 fun E hE=>?_
 refine ki 1 hE (fun s (k:Nat)=>s.at (qU [0,1,4,3,10,10]) [(9,.sc (.int .i64 (k:Nat)))] (s.hp)) (fun (k:Nat)=>k<=l.length/\cX (fun a:AddrD=>a.id == n) k (l.drop k)=aB l n) (fun (k:Nat)=>l.length - k) 0 (qI 0 1) (⟨MQ _,rfl⟩) fun k hk N hN=>?_
 obtain⟨hk1,hk2⟩:=hk
 refine qR ?_
 refine qB (fun h=>?_) fun h=>?_
 ·rw [k_ h] at hk2
  refine qX ?_
  refine qB (fun h2=>?_) fun h2=>?_
  ·rw [if_pos (by simp [h2])] at hk2
   refine qP (qI 0 1) ?_
   first|exact⟨⟩|exact hk2
  rw [if_neg (by simp [h2])] at hk2
  exact qN hN (k+1) (qI 0 1) (by (try dsimp only);exact⟨zO,hk2⟩)
 rw [m7 zO] at hk2
 refine qP (qI 0 1) ?_
 first|exact⟨⟩|exact hk2
theorem Mq (e:EndD) (r:RoadD) (hl:e.subs.length<=1048576):aP 62 [.ag (e.cs 0),.ag r.cs] (e.hp false) (.sc (.int .i64 (aN e.subs r))) (e.hp false):=by
 refine qE func62 ntmps62 results62 fun E hE=>?_
 refine ki 7 hE (fun s (k:Nat)=>s.at (qU [0,3,4,4,11,15]) [(10,.sc (.int .i64 (k:Nat)))] (s.hp)) (fun (k:Nat)=>k<=e.subs.length/\cX (fun s:SubD=>s.state != 4 && dg s.road r) k (e.subs.drop k)=aN e.subs r) (fun (k:Nat)=>e.subs.length - k) 0 (qI 0 9) (⟨MQ _,rfl⟩) fun k hk N hN=>?_
 obtain⟨hk1,hk2⟩:=hk
 refine qR ?_
 refine qB (fun h=>?_) fun h=>?_
 ·rw [k_ h] at hk2
  refine qX ?_
  refine qB (fun h2=>?_) fun h2=>?_
  ·refine qB (fun h3=>?_) fun h3=>?_
   ·rw [if_pos (by simp [qi h3,h2])] at hk2
    refine qP (qI 0 7) ?_
    first|exact⟨⟩|exact hk2
   rw [if_neg (by simp [qj h3])] at hk2
   exact qN hN (k+1) (qI 0 9) (by (try dsimp only);exact⟨zO,hk2⟩)
  rw [if_neg (by simp [h2])] at hk2
  refine qX ?_
  exact qN hN (k+1) (qI 0 9) (by (try dsimp only);exact⟨zO,hk2⟩)
 rw [m7 zO] at hk2
 refine qP (qI 0 7) ?_
 first|exact⟨⟩|exact hk2
theorem LI (r:RoadD):aP 61 [.ag r.cs] [] (.sc (.bo (lZ r))) []:=by
 refine qE func61 ntmps61 results61 fun E hE=>?_
 refine qK (LE [r.own,r.far,r.port] zP) (qI 1 1) ?_
 refine qP [] ?_
 first|exact⟨⟩|simp [lZ,Bool.and_assoc]
theorem Mr (x:OutD):aP 57 [.ag x.cs] [] (.sc (.bo (outOk x))) []:=by
 refine qE func57 ntmps57 results57 fun E hE=>?_
 refine qK (LE [x.base] zP) (qI 1 1) ?_
 have e1:[x.base].all kj=kj x.base:=by simp
 rw [e1]
 refine qX ?_
 refine qB (fun h1=>?_) fun h1=>?_
 ·refine qK (LD _ _ _) [] ?_
  refine qB (fun h2=>?_) fun h2=>?_
  ·refine qB (fun h3=>?_) fun h3=>?_
   ·refine qK (LD _ _ _) [] ?_
    refine qJ [] ?_
    simp [outOk,h1,h2,h3]
   refine qJ [] ?_
   simp [outOk,h1,h2,h3]
  refine qJ [] ?_
  simp [outOk,h1,h2]
 refine qJ [] ?_
 simp [outOk,h1]
theorem Mk (p:PiecesD) (hl:p.list.length<=1048576):aP 79 [.ag (p.cs 0)] (p.hp false) (.sc (.int .i64 (m8 p))) (p.hp false):=by
 refine qE func79 ntmps79 results79 fun E hE=>?_
 refine ki 1 hE (fun s (x:Nat×Int)=>s.at (qU [0,2,5,5,13,9]) [(12,.sc (.int .i64 (x.1:Nat))),(3,.sc (.int .i64 x.2))] (s.hp)) (fun (x:Nat×Int)=>x.1<=p.list.length/\gF x.2 (p.list.drop x.1)=m8 p) (fun (x:Nat×Int)=>p.list.length - x.1) (0,(p.ready.length:Int)) (qI 0 2) (⟨MQ _,rfl⟩) fun x hx N hN=>?_
 obtain⟨k,n⟩:=x
 obtain⟨hk1,hk2⟩:=hx
 dsimp only at hk1 hk2
 refine qR ?_
 refine qB (fun h=>?_) fun h=>?_
 ·rw [wV h] at hk2
  refine qX ?_
  exact qN hN (k+1,IntKind.i64.wrap (n+(p.list[k].text.length:Int))) (qI 0 2) (by (try dsimp only);exact⟨zO,hk2⟩)
 rw [MS zO,gF] at hk2
 refine qP (qI 0 1) ?_
 first|exact⟨⟩|exact hk2
theorem L9 (b:BucketD):aP 56 [.ag b.cs] [] (.sc (.bo (bucketOk b))) []:=by
 refine qE func56 ntmps56 results56 fun E hE=>?_
 refine qK (LD _ _ _) [] ?_
 refine qB (fun h1=>?_) fun h1=>?_
 ·refine qK (LD _ _ _) [] ?_
  refine qB (fun h2=>?_) fun h2=>?_
  ·refine qK (LD _ _ _) [] ?_
   refine qJ [] ?_
   simp [bucketOk,h1,h2]
  refine qJ [] ?_
  simp [bucketOk,h1,h2]
 refine qJ [] ?_
 simp [bucketOk,h1]
theorem LT (l:List AddrD) (hl:l.length<=1048577):aP 54 [.sc (.sl 0 0 l.length)] [some ⟨l.map AddrD.cs,4,60,false,true⟩] (.sc (.bo (bw l))) [some ⟨l.map AddrD.cs,4,60,false,true⟩]:=by
 refine qE func54 ntmps54 results54 fun E hE=>?_
 refine qB (fun g1=>?_) fun g1=>?_
 ·have hr:bw l=false:=by simp [bw];omega
  rw [hr]
  exact qF (qI 0 1)
 have hr:bw l=d_ (jh l) l.length:=by simp [bw];omega
 rw [hr]
 refine qX ?_
 refine ki 1 hE (fun s (k:Nat)=>s.at (qU [2,3,6,4,13,44]) [(12,.sc (.int .i64 (k:Nat)))] (s.hp)) (fun (k:Nat)=>k<=l.length/\∀ j,j < k->jh l j=true) (fun (k:Nat)=>l.length - k) 0 (qI 0 1) (⟨MQ _,fun j hj=>absurd hj (M1 _)⟩) fun k hk N hN=>?_
 obtain⟨hk1,hk2⟩:=hk
 refine qR ?_
 refine qB (fun h=>?_) fun h=>?_
 ·have hA:=lc h
  obtain⟨a,ha⟩:∃ a,a=l[k]:=⟨_,rfl⟩
  refine qX ?_
  refine qD [0,1,2,3,4,5,6,7,8,9,10,11,12,13,14,15,16,17,18,19,20,21,22,23,24] ?_
  refine cj (LD _ _ _) [] ?_
  refine qB (fun h2=>?_) fun h2=>?_
  ·refine cj (LD _ _ _) [] ?_
   refine qB (fun h3=>?_) fun h3=>?_
   ·by_cases h0:k=0
    ·subst h0
     refine qX ?_
     refine qG ?_
     refine ki 1 hE (fun s (i:Nat)=>s.at (qU [2,1,6,4,14,27,42,2,47,10]) [(46,.sc (.int .i64 (i:Nat)))] (s.hp)) (fun (i:Nat)=>i<=0) (fun (i:Nat)=>0 - i) 0 (qI 0 2) (MQ _) fun i hi N2 hN2=>?_
     refine af 400 ?_
     have e:i=0:=zO
     subst e
     refine qX ?_
     have hg:jh l 0=true:=by
      rw [jh,hA]
      simp [h2,h3]
     exact qN hN (0+1) (qI 0 1) (by (try dsimp only);exact⟨zO,fu hk2 hg⟩)
    have hk':k - 1 < l.length:=zO
    have hA':=lc hk'
    obtain⟨m,rfl⟩:∃ m,k=m+1:=⟨k - 1,zO⟩
    have em:m+1 - 1=m:=zO
    have em2:((m+1:Nat):Int) - 1=(m:Int):=zO
    have em3:(m:Int)+1 - 1=(m:Int):=zO
    have hm:m < l.length:=zO
    try simp (disch:=omega) only [go_sem,seval,em2,em3,bW hm]
    refine⟨by (try simp (disch:=omega) only [go_sem,MW,seval,em2,em3])<;>omega,af 400 ?_⟩
    refine qX ?_
    refine qB (fun h5=>?_) fun h5=>?_
    ·have hb:jh l (m+1)=false:=by
      rw [jh,hA,hA']
      simp
      omega
     rw [aq h hb]
     exact qF (qI 0 1)
    have h5':l[m].id < l[m+1].id:=zO
    refine ki 1 hE (fun s (i:Nat)=>s.at (qU [2,1,6,4,14,27,42,2,47,10]) [(46,.sc (.int .i64 (i:Nat)))] (s.hp)) (fun (i:Nat)=>i<=m+1/\((l.take (m+1)).drop i).all (fun b=> !(l[m+1].addr == b.addr))=(l.take (m+1)).all (fun b=> !(l[m+1].addr == b.addr))) (fun (i:Nat)=>m+1 - i) 0 (qI 0 2) (⟨MQ _,rfl⟩) fun i hi N2 hN2=>?_
    obtain⟨hi1,hi2⟩:=hi
    refine qR ?_
    refine qB (fun h6=>?_) fun h6=>?_
    ·rw [sH zO zO] at hi2
     have hil:i < l.length:=zO
     try simp (disch:=omega) only [go_sem,seval,bW hil]
     refine qB (fun h7=>?_) fun h7=>?_
     ·have hb:jh l (m+1)=false:=by
       rw [jh,hA,<-hi2]
       simp [h7]
      rw [aq h hb]
      exact qF (qI 0 1)
     have h7':¬ l[m+1].addr=l[i].addr:=fun e=>h7 (by first|exact e|exact e.symm)
     rw [show (!(l[m+1].addr == l[i].addr))=true from by simp [h7'],M2] at hi2
     exact qN hN2 (i+1) (qI 0 2) (by (try dsimp only);exact⟨zO,hi2⟩)
    rw [MS zS,M5] at hi2
    have hg:jh l (m+1)=true:=by
     rw [jh,hA,<-hi2]
     simp [h2,h3,lc hm,h5']
    exact qN hN (m+1+1) (qI 0 1) (by (try dsimp only);exact⟨zO,fu hk2 hg⟩)
   have hb:jh l k=false:=by simp [jh,hA,h3]
   rw [aq h hb]
   refine qG ?_
   exact qF (qI 0 1)
  have hb:jh l k=false:=by simp [jh,hA,h2]
  rw [aq h hb]
  refine qG ?_
  exact qF (qI 0 1)
 have e:k=l.length:=zO
 subst e
 rw [dm hk2]
 exact qF (qI 0 1)
theorem Me (l:List HalfD) (hl:l.length<=1048576):aP 55 [.sc (.sl 0 0 l.length)] [some ⟨l.map HalfD.cs,8,87,false,true⟩] (.sc (.bo (cB l))) [some ⟨l.map HalfD.cs,8,87,false,true⟩]:=by
 refine qE func55 ntmps55 results55 fun E hE=>?_
 refine qB (fun g1=>?_) fun g1=>?_
 ·have hr:cB l=false:=by simp [cB];omega
  rw [hr]
  exact qF (qI 0 1)
 have hr:cB l=d_ (gS l) l.length:=by simp [cB];omega
 rw [hr]
 refine qX ?_
 refine ki 1 hE (fun s (k:Nat)=>s.at (qU [2,6,11,32]) [(10,.sc (.int .i64 (k:Nat)))] (s.hp)) (fun (k:Nat)=>k<=l.length/\∀ j,j < k->gS l j=true) (fun (k:Nat)=>l.length - k) 0 (qI 0 1) (⟨MQ _,fun j hj=>absurd hj (M1 _)⟩) fun k hk N hN=>?_
 obtain⟨hk1,hk2⟩:=hk
 refine qR ?_
 refine qB (fun h=>?_) fun h=>?_
 ·have hA:=vb h
  refine qX ?_
  refine qK (Mi l l[k].road hl) (qI 0 1) ?_
  refine qB (fun h2=>?_) fun h2=>?_
  ·refine qK (LI l[k].road) [] ?_
   refine qB (fun h3=>?_) fun h3=>?_
   ·refine qK (LE [l[k].theirs,l[k].mine,l[k].give,l[k].take,l[k].till] zP) (qI 2 1) ?_
    generalize hq:[l[k].theirs,l[k].mine,l[k].give,l[k].take,l[k].till].all kj=q
    refine qB (fun h4=>?_) fun h4=>?_
    ·have hb:gS l k=false:=by simp [gS,hA,hq,h4]
     rw [aq h hb]
     exact qF (qI 0 1)
    have hg:gS l k=true:=by simp [gS,hA,hq,h4,h2,h3]
    exact qN hN (k+1) (qI 0 1) (by (try dsimp only);exact⟨zO,fu hk2 hg⟩)
   have hb:gS l k=false:=by simp [gS,hA,h3]
   rw [aq h hb]
   exact qF (qI 0 1)
  have hb:gS l k=false:=by simp [gS,hA,h2]
  rw [aq h hb]
  exact qF (qI 0 1)
 have e:k=l.length:=zO
 subst e
 rw [dm hk2]
 exact qF (qI 0 1)
theorem L_ (p:PiecesD) (hl:p.list.length<=1048576):aP 58 [.ag (p.cs 0)] (p.hp false) (.sc (.bo (piecesOk p))) (p.hp false):=by
 refine qE func58 ntmps58 results58 fun E hE=>?_
 refine qK (LE [p.read] zP) (qI 2 1) ?_
 have e1:[p.read].all kj=kj p.read:=by simp
 rw [e1]
 refine qX ?_
 refine qB (fun g1=>?_) fun g1=>?_
 ·skip
  refine qB (fun g2=>?_) fun g2=>?_
  ·skip
   have hr:piecesOk p=false:=by simp [piecesOk,g2];try omega
   rw [hr]
   exact qF (qI 0 1)
  skip
  refine qK (Hg p) (qI 0 1) ?_
  refine ki 1 hE (fun s (x:Nat×Int)=>s.at (qU [0,1,2,1,5,15,23,24]) [(22,.sc (.int .i64 (x.1:Nat))),(3,.sc (.int .i64 x.2))] (s.hp)) (fun (x:Nat×Int)=>x.1<=p.list.length/\jH x.2 (p.list.drop x.1)=jH (nextOf p) p.list) (fun (x:Nat×Int)=>p.list.length - x.1) (0,nextOf p) (qI 0 3) (⟨MQ _,rfl⟩) fun x hx N hN=>?_
  obtain⟨k,en⟩:=x
  obtain⟨hk1,hk2⟩:=hx
  dsimp only at hk1 hk2
  refine qR ?_
  refine qB (fun h=>?_) fun h=>?_
  ·refine qX ?_
   have fx:jH en (p.list.drop k)=(!(p.list[k].text == []) && decide (p.list[k].pos<=2000000000) && decide (en < p.list[k].pos) && jH (IntKind.i64.wrap (p.list[k].pos+(p.list[k].text.length:Int))) (p.list.drop (k+1))):=Cd h
   have ft:(p.list[k].text == [])=decide ((p.list[k].text.length:Int)=0):=by
    cases p.list[k].text with
    |nil=>rfl
    |cons a r=>simp;omega
   by_cases t1:(p.list[k].text.length:Int)=0
   ·have ft':(p.list[k].text == [])=true:=by rw [ft];exact decide_eq_true t1
    have fx':jH en (p.list.drop k)=false:=by rw [fx,ft'];simp
    try simp (disch:=omega) only [go_sem,seval,ft']
    have hr:piecesOk p=false:=by simp [piecesOk,<-hk2,fx']
    rw [hr]
    exact qF (qI 0 1)
   have ft':(p.list[k].text == [])=false:=by rw [ft];exact decide_eq_false t1
   by_cases t2:p.list[k].pos<=2000000000
   ·by_cases t3:en < p.list[k].pos
    ·have fx':jH en (p.list.drop k)=jH (IntKind.i64.wrap (p.list[k].pos+(p.list[k].text.length:Int))) (p.list.drop (k+1)):=by rw [fx,ft'];simp [t2,t3]
     try simp (disch:=omega) only [go_sem,seval,ft']
     rw [fx'] at hk2
     refine qX ?_
     exact qN hN (k+1,IntKind.i64.wrap (p.list[k].pos+(p.list[k].text.length:Int))) (qI 0 3) (by (try dsimp only);exact⟨zO,hk2⟩)
    have fx':jH en (p.list.drop k)=false:=by rw [fx,ft'];simp [t3]
    try simp (disch:=omega) only [go_sem,seval,ft']
    have hr:piecesOk p=false:=by simp [piecesOk,<-hk2,fx']
    rw [hr]
    exact qF (qI 0 1)
   have fx':jH en (p.list.drop k)=false:=by rw [fx,ft'];simp [t2]
   by_cases t3:en < p.list[k].pos
   ·try simp (disch:=omega) only [go_sem,seval,ft']
    have hr:piecesOk p=false:=by simp [piecesOk,<-hk2,fx']
    rw [hr]
    exact qF (qI 0 1)
   try simp (disch:=omega) only [go_sem,seval,ft']
   have hr:piecesOk p=false:=by simp [piecesOk,<-hk2,fx']
   rw [hr]
   exact qF (qI 0 1)
  rw [MS zO,jH] at hk2
  have g2':(p.list.length:Int)<=20:=zO
  have hr:piecesOk p=decide (m8 p<=200):=by simp [piecesOk,<-hk2,g1,g2']
  rw [hr]
  refine qX ?_
  refine qK (Mk p hl) (qI 0 1) ?_
  exact qF (qI 0 1)
 skip
 have hr:piecesOk p=false:=by simp [piecesOk,g1];try omega
 rw [hr]
 exact qF (qI 0 1)
theorem Ml (l:List Int) (hl:l.length<=1048576):aP 80 [.sc (.sl 0 0 l.length)] [some ⟨l.map cv,1,3,false,true⟩] (.sc (.bo (d_ (dp l) l.length))) [some ⟨l.map cv,1,3,false,true⟩]:=by
 refine qE func80 ntmps80 results80 fun E hE=>?_
 refine ki 1 hE (fun s (k:Nat)=>s.at (qU [2,1,4,16]) [(3,.sc (.int .i64 (k:Nat)))] (s.hp)) (fun (k:Nat)=>1<=k/\(k<=l.length\/k=1)/\∀ j,j < k->dp l j=true) (fun (k:Nat)=>l.length - k) 1 (qI 0 1) (⟨by decide,.inr rfl,fun j hj=>by rw [show j=0 from by omega];rfl⟩) fun k hk N hN=>?_
 obtain⟨hk0,hk1,hk2⟩:=hk
 refine qR ?_
 obtain⟨m,rfl⟩:∃ m,k=m+1:=⟨k - 1,zO⟩
 have em2:((m+1:Nat):Int) - 1=(m:Int):=zO
 have em3:(m:Int)+1 - 1=(m:Int):=zO
 refine qX ?_
 refine qB (fun h=>?_) fun h=>?_
 ·have hm:m < l.length:=zO
  have h':m+1 < l.length:=zO
  refine qD [0,1,2,3,4,5,6,7,8,9] ?_
  try simp (disch:=omega) only [go_sem,seval,em2,em3,bW hm,bW h']
  refine⟨by (try simp (disch:=omega) only [go_sem,MW,seval,em2,em3])<;>omega,af 400 ?_⟩
  refine qX ?_
  refine qB (fun h3=>?_) fun h3=>?_
  ·have hb:dp l (m+1)=false:=by
    rw [dp,vg h',show m+1 - 1=m from rfl,vg hm]
    simp
    omega
   rw [aq h' hb]
   exact qF (qI 0 1)
  have hg:dp l (m+1)=true:=by
   rw [dp,vg h',show m+1 - 1=m from rfl,vg hm]
   simp
   omega
  exact qN hN (m+1+1) (qI 0 1) (by (try dsimp only);exact⟨zO,zO,fu hk2 hg⟩)
 rw [dm (fun j hj=>hk2 j zO)]
 exact qF (qI 0 1)
theorem LX (l:List Int) (m:List AddrD) (hl:l.length<=1048576) (hm:m.length<=1048576):aP 59 [.sc (.sl 0 0 l.length),.sc (.sl 1 0 m.length)] [some ⟨l.map cv,1,3,false,true⟩,some ⟨m.map AddrD.cs,4,60,false,true⟩] (.sc (.bo (n7 l m))) [some ⟨l.map cv,1,3,false,true⟩,some ⟨m.map AddrD.cs,4,60,false,true⟩]:=by
 refine qE func59 ntmps59 results59 fun E hE=>?_
 refine qK (Ml l hl) (qI 0 1) ?_
 rw [n7]
 generalize d_ (dp l) l.length=q
 cases q with
 |false=>
  refine qX ?_
  exact qF (qI 0 2)
 |true=>
  rw [M2]
  refine qX ?_
  refine ki 2 hE (fun s (k:Nat)=>s.at (qU [0,1,4,1,6,4,13,13]) [(12,.sc (.int .i64 (k:Nat)))] (s.hp)) (fun (k:Nat)=>k<=l.length/\∀ j,j < k->gG l m j=true) (fun (k:Nat)=>l.length - k) 0 (qI 0 2) (⟨MQ _,fun j hj=>absurd hj (M1 _)⟩) fun k hk N hN=>?_
  obtain⟨hk1,hk2⟩:=hk
  refine qR ?_
  refine qB (fun h=>?_) fun h=>?_
  ·refine qX ?_
   refine qK (LD _ _ _) [] ?_
   refine qB (fun h2=>?_) fun h2=>?_
   ·refine qK (Mj m l[k] hm) (qI 1 1) ?_
    refine qB (fun h3=>?_) fun h3=>?_
    ·have hb:gG l m k=false:=by rw [gG,vg h];simp [h2];omega
     rw [aq h hb]
     exact qF (qI 0 2)
    have hg:gG l m k=true:=by rw [gG,vg h];simp [h2];omega
    exact qN hN (k+1) (qI 0 2) (by (try dsimp only);exact⟨zO,fu hk2 hg⟩)
   have hb:gG l m k=false:=by rw [gG,vg h];simp [h2]
   rw [aq h hb]
   exact qF (qI 0 2)
  have e:k=l.length:=zO
  subst e
  rw [dm hk2]
  exact qF (qI 0 2)
theorem LZ (e:EndD) (h0:e.own.length<=1048576) (h1:e.far.length<=1048576) (h2:e.subs.length<=1048576) (h3:e.halfs.length<=1048576) (h4:e.inp.list.length<=1048576) (h5:e.done.length<=1048576) (h6:e.over.length<=1048576):aP 29 [.ag (e.cs 0)] (e.hp false) (.sc (.bo (ah e))) (e.hp false):=by
 refine qE func29 ntmps29 results29 fun E hE=>?_
 refine qK (LD _ _ _) [] ?_
 refine qB (fun g1=>?_) fun g1=>?_
 ·skip
  refine qK (LD _ _ _) [] ?_
  refine qB (fun g2=>?_) fun g2=>?_
  ·skip
   refine qK (L8 e.policy) [] ?_
   refine qB (fun g3=>?_) fun g3=>?_
   ·skip
    refine qK (LT e.own zO) (qI 0 1) ?_
    refine qB (fun g4=>?_) fun g4=>?_
    ·skip
     refine qK (LT e.far zO) (qI 1 1) ?_
     refine qB (fun g5=>?_) fun g5=>?_
     ·skip
      refine qK (Me e.halfs h3) (qI 3 1) ?_
      refine qB (fun g6=>?_) fun g6=>?_
      ·skip
       refine qK (L9 e.bucket) [] ?_
       refine qB (fun g7=>?_) fun g7=>?_
       ·skip
        refine qK (Mr e.out) [] ?_
        refine qB (fun g8=>?_) fun g8=>?_
        ·skip
         refine qK (L_ e.inp h4) (qI 4 1) ?_
         refine qB (fun g9=>?_) fun g9=>?_
         ·skip
          have hr:ah e=false:=by first|(simp [ah,g9];done)|(simp [ah];intros;omega)
          rw [hr]
          exact qF (qI 0 7)
         skip
         refine qX ?_
         refine qK (LX e.done e.own h5 h0) (qI 5 1++qI 0 1) ?_
         refine qB (fun g10=>?_) fun g10=>?_
         ·skip
          refine qK (LX e.over e.far h6 h1) (qI 6 1++qI 1 1) ?_
          refine qB (fun g11=>?_) fun g11=>?_
          ·skip
           refine qB (fun g12=>?_) fun g12=>?_
           ·skip
            refine qK (LE [e.key,e.peer,e.draw,e.now,e.pick] zP) (qI 8 1) ?_
            generalize hq:[e.key,e.peer,e.draw,e.now,e.pick].all kj=q
            refine qB (fun g13=>?_) fun g13=>?_
            ·skip
             have hr:ah e=false:=by first|(simp [ah,hq,g13];done)|(simp [ah];intros;omega)
             rw [hr]
             exact qF (qI 0 7)
            skip
            refine qX ?_
            refine ki 7 hE (fun s (k:Nat)=>s.at (qU [0,1,2,91,96,41]) [(95,.sc (.int .i64 (k:Nat)))] (s.hp)) (fun (k:Nat)=>k<=e.subs.length/\∀ j,j < k->dh e.subs j=true) (fun (k:Nat)=>e.subs.length - k) 0 (qI 0 9) (⟨MQ _,fun j hj=>absurd hj (M1 _)⟩) fun k hk N hN=>?_
            obtain⟨hk1,hk2⟩:=hk
            refine qR ?_
            refine qB (fun h=>?_) fun h=>?_
            ·have hA:=br h
             refine qX ?_
             refine qK (LD _ _ _) [] ?_
             refine qB (fun s1=>?_) fun s1=>?_
             ·skip
              refine qK (LI e.subs[k].road) [] ?_
              refine qB (fun s2=>?_) fun s2=>?_
              ·skip
               refine qK (LE [e.subs[k].mine,e.subs[k].theirs,e.subs[k].give,e.subs[k].take,e.subs[k].tries] zP) (qI 10 1) ?_
               generalize hsq:[e.subs[k].mine,e.subs[k].theirs,e.subs[k].give,e.subs[k].take,e.subs[k].tries].all kj=sq
               refine qB (fun s3=>?_) fun s3=>?_
               ·skip
                have hb:dh e.subs k=false:=by simp [dh,hA,hsq,s3]
                have hu:=aq h hb
                have hr:ah e=false:=by simp [ah,hu]
                rw [hr]
                exact qF (qI 0 7)
               skip
               refine qX ?_
               refine qB (fun s4=>?_) fun s4=>?_
               ·refine qK (Mq e e.subs[k].road h2) (qI 0 7) ?_
                refine qB (fun s5=>?_) fun s5=>?_
                ·skip
                 have hb:dh e.subs k=false:=by simp [dh,hA,s1,s2,hsq,s3,s4,s5]
                 have hu:=aq h hb
                 have hr:ah e=false:=by simp [ah,hu]
                 rw [hr]
                 exact qF (qI 0 7)
                skip
                have hg:dh e.subs k=true:=by first|(simp [dh,hA,s1,s2,hsq,s3,s4,s5];done)|(simp [dh,hA,s1,s2,hsq,s3,s4,s5];decide)
                exact qN hN (k+1) (qI 0 9) (by (try dsimp only);exact⟨zO,fu hk2 hg⟩)
               skip
               have hg:dh e.subs k=true:=by first|(simp [dh,hA,s1,s2,hsq,s3,s4];done)|(simp [dh,hA,s1,s2,hsq,s3,s4];decide)
               exact qN hN (k+1) (qI 0 9) (by (try dsimp only);exact⟨zO,fu hk2 hg⟩)
              skip
              have hb:dh e.subs k=false:=by simp [dh,hA,s2]
              have hu:=aq h hb
              have hr:ah e=false:=by simp [ah,hu]
              rw [hr]
              exact qF (qI 0 7)
             skip
             have hb:dh e.subs k=false:=by simp [dh,hA,s1]
             have hu:=aq h hb
             have hr:ah e=false:=by simp [ah,hu]
             rw [hr]
             exact qF (qI 0 7)
            have ek:k=e.subs.length:=zO
            subst ek
            have hu:=dm hk2
            have g12':(e.subs.length:Int)<=8:=zO
            have hr:ah e=true:=by simp [ah,g1,g2,g3,g4,g5,g6,g7,g8,g9,g10,g11,g12',hq,g13,hu]
            rw [hr]
            exact qF (qI 0 7)
           skip
           have hr:ah e=false:=by first|(simp [ah,g12];done)|(simp [ah];intros;omega)
           rw [hr]
           exact qF (qI 0 7)
          skip
          have hr:ah e=false:=by first|(simp [ah,g11];done)|(simp [ah];intros;omega)
          rw [hr]
          exact qF (qI 0 7)
         skip
         have hr:ah e=false:=by first|(simp [ah,g10];done)|(simp [ah];intros;omega)
         rw [hr]
         exact qF (qI 0 7)
        skip
        have hr:ah e=false:=by first|(simp [ah,g8];done)|(simp [ah];intros;omega)
        rw [hr]
        exact qF (qI 0 7)
       skip
       have hr:ah e=false:=by first|(simp [ah,g7];done)|(simp [ah];intros;omega)
       rw [hr]
       exact qF (qI 0 7)
      skip
      have hr:ah e=false:=by first|(simp [ah,g6];done)|(simp [ah];intros;omega)
      rw [hr]
      exact qF (qI 0 7)
     skip
     have hr:ah e=false:=by first|(simp [ah,g5];done)|(simp [ah];intros;omega)
     rw [hr]
     exact qF (qI 0 7)
    skip
    have hr:ah e=false:=by first|(simp [ah,g4];done)|(simp [ah];intros;omega)
    rw [hr]
    exact qF (qI 0 7)
   skip
   have hr:ah e=false:=by first|(simp [ah,g3];done)|(simp [ah];intros;omega)
   rw [hr]
   exact qF (qI 0 7)
  skip
  have hr:ah e=false:=by first|(simp [ah,g2];done)|(simp [ah];intros;omega)
  rw [hr]
  exact qF (qI 0 7)
 skip
 have hr:ah e=false:=by first|(simp [ah,g1];done)|(simp [ah];intros;omega)
 rw [hr]
 exact qF (qI 0 7)
theorem LN {α:Type} {f:α->List Sc} {l:List α} {k:Nat} {v:α} {w:List Sc} (h:f v=w):(l.map f).set k w=(l.set k v).map f:=by rw [List.map_set,h]
end
section
open Go.RowKit
section
variable {P:Program} {β:Be}
end
end
section
open Go.RowKit
theorem LO (e:EndD) (hl:e.subs.length<=1048576):aP 45 [.ag (e.cs 0)] (e.hp false) (.sc (.sl 7 0 (eG e.subs).length)) (e.hp false++[some ⟨(eG e.subs).map u_,1,3,true,true⟩]):=by
 have hon:=va e.subs
 obtain⟨q,hq⟩:∃ q,q=(lA e.subs).filter (Hd e.subs):=⟨_,rfl⟩
 have hc:eG e.subs=if q.length=0 then lA e.subs else q:=by rw [eG,hq]
 have hqn:q.length<=1048576:=by rw [hq];exact Nat.le_trans (List.length_filter_le _ _) zO
 generalize eG e.subs=cn at hc
 refine qE func45 ntmps45 results45 fun E hE=>?_
 refine qK (MB e hl) (qI 0 7) ?_
 refine ki 7 hE (fun s (x:Nat×List Nat)=>s.at (qU [0,1,6,3,12,15]) [(11,.sc (.int .i64 (x.1:Nat))),(3,.sc (.sl 9 0 x.2.length))] (e.hp false++[some ⟨[e.cs 0],25,38,true,false⟩,some ⟨(lA e.subs).map u_,1,3,true,true⟩,some ⟨x.2.map u_,1,3,true,true⟩])) (fun (x:Nat×List Nat)=>x.1<=(lA e.subs).length/\x.2.length<=x.1/\x.2++((lA e.subs).drop x.1).filter (Hd e.subs)=q) (fun (x:Nat×List Nat)=>(lA e.subs).length - x.1) (0,[]) (qI 0 9++qO 1) (⟨MQ _,MQ _,by rw [hq];rfl⟩) fun x hx N hN=>?_
 obtain⟨k,acc⟩:=x
 obtain⟨hk1,hk2,hk3⟩:=hx
 dsimp only at hk1 hk2 hk3
 refine qR ?_
 refine qB (fun h=>?_) fun h=>?_
 ·have hlt:=Ei h
  rw [n_ h] at hk3
  refine qX ?_
  cases h2:e.subs[(lA e.subs)[k]].spare with
  |false=>
   have hp:Hd e.subs (lA e.subs)[k]=true:=by rw [Hd,br hlt,h2];rfl
   rw [if_pos hp] at hk3
   try simp (disch:=omega) only [go_sem,seval,h2]
   refine wO hN (k+1,acc++[(lA e.subs)[k]]) (qI 0 9++qI 11 1) (by (try dsimp only);exact⟨zO,by simp;omega,by simpa using hk3⟩) ?_
   first|exact⟨⟩|simp [u_]
  |true=>
   have hp:Hd e.subs (lA e.subs)[k]=false:=by rw [Hd,br hlt,h2];rfl
   rw [if_neg (by simp [hp])] at hk3
   try simp (disch:=omega) only [go_sem,seval,h2]
   exact qN hN (k+1,acc) (qI 0 10) (by (try dsimp only);exact⟨zO,zO,hk3⟩)
 rw [MS zO,Nl,M7] at hk3
 subst hk3
 refine qX ?_
 refine qB (fun h2=>?_) fun h2=>?_
 ·rw [if_pos zO] at hc
  subst hc
  exact qF (qI 0 7++qI 8 1)
 rw [if_neg zO] at hc
 subst hc
 exact qF (qI 0 7++qI 9 1)
theorem Mm (e:EndD) (list:List Int) (hl:e.subs.length<=1048576) (hlist:list.length<=1048576) (hw:∀ x∈list,aY x):aP 16 [.ag (e.cs 0),.sc (.sl 7 0 list.length)] (e.hp false++[some ⟨list.map cv,1,3,false,true⟩]) (.sc (.bo (LF e list))) (e.hp false++[some ⟨list.map cv,1,3,false,true⟩]):=by
 have hcn:=Cc e.subs
 refine qE func16 ntmps16 results16 fun E hE=>?_
 refine qB (fun h1=>?_) fun h1=>?_
 ·have hr:LF e list=false:=by simp [LF];omega
  rw [hr]
  exact qF (qI 0 8)
 have hr:LF e list=LS (LK e.subs list):=by simp [LF,h1]
 rw [hr]
 obtain⟨v,hv⟩:∃ v,v=LK e.subs list:=⟨_,rfl⟩
 have hvl:v.length=(eG e.subs).length:=by rw [hv,LK,List.length_map]
 rw [<-hv]
 rw [LK] at hv
 refine qX ?_
 refine qK (LO e hl) (qI 0 7) ?_
 refine ki 8 hE (fun s (x:Nat×List Int)=>s.at (qU [0,1,2,1,7,1,12,7,22,11]) [(21,.sc (.int .i64 (x.1:Nat))),(5,.sc (.sl 10 0 x.2.length))] (e.hp false++[some ⟨list.map cv,1,3,false,true⟩,some ⟨[e.cs 0],25,38,true,false⟩,some ⟨(eG e.subs).map u_,1,3,true,true⟩,some ⟨x.2.map cv,1,3,true,true⟩])) (fun (x:Nat×List Int)=>x.1<=(eG e.subs).length/\x.2.length<=x.1/\x.2++((eG e.subs).drop x.1).map (ML list)=v) (fun (x:Nat×List Int)=>(eG e.subs).length - x.1) (0,[]) (qI 0 10++qO 1) (⟨MQ _,MQ _,by rw [hv];rfl⟩) fun x hx N hN=>?_
 obtain⟨k,acc⟩:=x
 obtain⟨hk1,hk2,hk3⟩:=hx
 dsimp only at hk1 hk2 hk3
 refine qR ?_
 refine qB (fun h=>?_) fun h=>?_
 ·have hlt:(eG e.subs)[k] < list.length:=by
   have:=El (MY h)
   omega
  rw [Jx h,Md hlt] at hk3
  refine qX ?_
  refine wO hN (k+1,acc++[list[(eG e.subs)[k]]]) (qI 0 10++qI 12 1) (by (try dsimp only);exact⟨zO,by simp;omega,by simpa using hk3⟩) ?_
  first|exact⟨⟩|simp [cv]
 rw [MS zO,Ns,M7] at hk3
 subst hk3
 refine qX ?_
 refine ki 8 hE (fun s (i:Nat)=>s.at (qU [0,3,4,1,7,1,9,1,11,22,36,22]) [(35,.sc (.int .i64 (i:Nat)))] (s.hp)) (fun (i:Nat)=>i<=acc.length/\(acc.drop i).all (fun a=>acc.all fun b=> !LH a b)=LS acc) (fun (i:Nat)=>acc.length - i) 0 (qI 0 11) (⟨MQ _,rfl⟩) fun i hi N hN=>?_
 obtain⟨hi1,hi2⟩:=hi
 refine qR ?_
 refine qB (fun h3=>?_) fun h3=>?_
 ·rw [Eh h3] at hi2
  refine qX ?_
  refine ki 8 hE (fun s (j:Nat)=>s.at (qU [0,3,4,1,7,1,11,22,37,2,42,16]) [(41,.sc (.int .i64 (j:Nat)))] (s.hp)) (fun (j:Nat)=>j<=acc.length/\(acc.drop j).all (fun b=> !LH acc[i] b)=(acc.all fun b=> !LH acc[i] b)) (fun (j:Nat)=>acc.length - j) 0 (qI 0 11) (⟨MQ _,rfl⟩) fun j hj N2 hN2=>?_
  obtain⟨hj1,hj2⟩:=hj
  refine qR ?_
  refine qB (fun h4=>?_) fun h4=>?_
  ·rw [Eh h4] at hj2
   refine qX ?_
   refine qB (fun h5=>?_) fun h5=>?_
   ·refine qB (fun h6=>?_) fun h6=>?_
    ·have hp:LH acc[i] acc[j]=true:=by simp [LH,h5,h6]
     rw [hp] at hj2
     rw [<-hj2] at hi2
     refine qJ (qI 0 8) ?_
     exact hi2
    have hp:LH acc[i] acc[j]=false:=by simp [LH];omega
    rw [hp] at hj2
    exact qN hN2 (j+1) (qI 0 11) (by (try dsimp only);exact⟨zO,hj2⟩)
   have hp:LH acc[i] acc[j]=false:=by simp [LH];omega
   rw [hp] at hj2
   exact qN hN2 (j+1) (qI 0 11) (by (try dsimp only);exact⟨zO,hj2⟩)
  rw [Mw zO] at hj2
  rw [<-hj2] at hi2
  exact qN hN (i+1) (qI 0 11) (by (try dsimp only);exact⟨zO,hi2⟩)
 rw [Mw zO] at hi2
 refine qJ (qI 0 8) ?_
 exact hi2
theorem Mn (e:EndD) (list:List Int) (hl:e.subs.length<=1048576) (hlist:list.length<=1048576) (hw:∀ x∈list,aY x):aP 18 [.ag (e.cs 0),.sc (.sl 7 0 list.length)] (e.hp false++[some ⟨list.map cv,1,3,false,true⟩]) (.sc (.bo (LF e list))) (e.hp false++[some ⟨list.map cv,1,3,false,true⟩]):=by
 have hon:=va e.subs
 refine qE func18 ntmps18 results18 fun E hE=>?_
 refine qB (fun h1=>?_) fun h1=>?_
 ·have hr:LF e list=false:=by simp [LF];omega
  rw [hr]
  exact qF (qI 0 8)
 have hv:∀ x∈LK e.subs list,aY x:=by
  intro x hx
  obtain⟨n,hn,rfl⟩:=Nt.1 hx
  have:=El hn
  rw [Md zO]
  exact hw _ (MY _)
 have hr:LF e list=Mx (LK e.subs list):=by rw [MI hv];simp [LF,h1]
 have hsel:((lA e.subs).filter (LY e.subs)).map (ML list)=LK e.subs list:=by rw [MM];rfl
 rw [hr,Mx]
 generalize hmm:LG true 0 0 (LK e.subs list)=mm
 rw [<-hsel] at hmm
 refine qX ?_
 refine qK (tJ e hl) (qI 0 7) ?_
 refine ki 8 hE (fun s (x:Nat×Bool)=>s.at (qU [0,1,13,27]) [(7,.sc (.int .i64 (x.1:Nat))),(6,.sc (.bo x.2))] (s.hp)) (fun (x:Nat×Bool)=>x.1<=(lA e.subs).length/\(x.2 || ((lA e.subs).drop x.1).any (Hd e.subs))=Mb e.subs) (fun (x:Nat×Bool)=>(lA e.subs).length - x.1) (0,false) (qI 0 10) (⟨MQ _,rfl⟩) fun x hx N hN=>?_
 obtain⟨k,sm⟩:=x
 obtain⟨hk1,hk2⟩:=hx
 dsimp only at hk1 hk2
 refine qR ?_
 refine qB (fun h=>?_) fun h=>?_
 ·have hlt:=Ei h
  cases sm with
  |true=>
   rw [M6] at hk2
   refine qD [0,1,2,3,4,5,6,7,8,9,10,11,12,13] ?_
   refine qG ?_
   exact qN hN (k+1,true) (qI 0 10) (by (try dsimp only);exact⟨zO,by rw [M6];exact hk2⟩)
  |false=>
   rw [M3,lW h,Hd,br hlt] at hk2
   refine qD [0,1,2,3,4,5,6,7,8,9,10,11,12,13] ?_
   refine qX ?_
   refine qG ?_
   exact qN hN (k+1,!e.subs[(lA e.subs)[k]].spare) (qI 0 10) (by (try dsimp only);exact⟨zO,hk2⟩)
 rw [pc zO,Bool.or_false] at hk2
 subst hk2
 refine qX ?_
 refine ki 8 hE (fun s (y:Nat×Bool×Int×Int)=>s.at (qU [0,1,7,1,12,67]) [(11,.sc (.int .i64 (y.1:Nat))),(10,.sc (.bo y.2.1)),(8,.sc (.int .i64 y.2.2.1)),(9,.sc (.int .i64 y.2.2.2))] (s.hp)) (fun (y:Nat×Bool×Int×Int)=>y.1<=(lA e.subs).length/\LG y.2.1 y.2.2.1 y.2.2.2 ((((lA e.subs).drop y.1).filter (LY e.subs)).map (ML list))=mm) (fun (y:Nat×Bool×Int×Int)=>(lA e.subs).length - y.1) (0,true,0,0) (qI 0 10) (⟨MQ _,hmm⟩) fun y hy N hN=>?_
 obtain⟨i,fi,le,mo⟩:=y
 obtain⟨hi1,hi2⟩:=hy
 dsimp only at hi1 hi2
 refine qR ?_
 refine qB (fun h3=>?_) fun h3=>?_
 ·have hlt:=Ei h3
  have hll:(lA e.subs)[i] < list.length:=zO
  rw [n_ h3,LY,br hlt] at hi2
  cases hS:Mb e.subs with
  |true=>
   cases hP:e.subs[(lA e.subs)[i]].spare with
   |true=>
    rw [hS,hP] at hi2
    simp only [Np,Bool.not_true,Nd,if_false] at hi2
    try simp (disch:=omega) only [go_sem,seval,hS]
    refine qD [0,1,2,3,4,5,6,7,8,9,10,11] ?_
    try simp (disch:=omega) only [go_sem,seval,hP]
    refine⟨qC,af 400 ?_⟩
    try simp (disch:=omega) only [go_sem,seval,hP]
    refine⟨qC,hN _ (i+1,fi,le,mo) (qI 0 10) (by (try dsimp only);exact⟨zO,hi2⟩) (by (try dsimp only);omega) (bM zF zF ?_)⟩
    try simp (disch:=omega) only [go_sem,seval,hS]
   |false=>
    rw [hS,hP] at hi2
    simp only [Bool.and_false,Nm,if_true,Nq,Md hll,LG] at hi2
    try simp (disch:=omega) only [go_sem,seval,hS]
    refine qD [0,1,2,3,4,5,6,7,8,9,10,11] ?_
    try simp (disch:=omega) only [go_sem,seval,hP]
    refine⟨qC,af 400 ?_⟩
    try simp (disch:=omega) only [go_sem,seval,hP]
    cases fi with
    |true=>
     simp only [M6,if_true] at hi2
     refine qX ?_
     refine⟨qC,hN _ (i+1,false,list[(lA e.subs)[i]],list[(lA e.subs)[i]]) (qI 0 10) (by (try dsimp only);exact⟨zO,hi2⟩) (by (try dsimp only);omega) (bM zF zF ?_)⟩
     try simp (disch:=omega) only [go_sem,seval,hS]
    |false=>
     simp only [M3,decide_eq_true_eq] at hi2
     refine qX ?_
     refine qB (fun h6=>?_) fun h6=>?_
     ·rw [if_pos h6] at hi2
      refine qB (fun h7=>?_) fun h7=>?_
      ·rw [if_pos h7] at hi2
       refine⟨qC,hN _ (i+1,false,list[(lA e.subs)[i]],list[(lA e.subs)[i]]) (qI 0 10) (by (try dsimp only);exact⟨zO,hi2⟩) (by (try dsimp only);omega) (bM zF zF ?_)⟩
       try simp (disch:=omega) only [go_sem,seval,hS]
      rw [if_neg h7] at hi2
      refine⟨qC,hN _ (i+1,false,list[(lA e.subs)[i]],mo) (qI 0 10) (by (try dsimp only);exact⟨zO,hi2⟩) (by (try dsimp only);omega) (bM zF zF ?_)⟩
      try simp (disch:=omega) only [go_sem,seval,hS]
     rw [if_neg h6] at hi2
     refine qB (fun h7=>?_) fun h7=>?_
     ·rw [if_pos h7] at hi2
      refine⟨qC,hN _ (i+1,false,le,list[(lA e.subs)[i]]) (qI 0 10) (by (try dsimp only);exact⟨zO,hi2⟩) (by (try dsimp only);omega) (bM zF zF ?_)⟩
      try simp (disch:=omega) only [go_sem,seval,hS]
     rw [if_neg h7] at hi2
     refine⟨qC,hN _ (i+1,false,le,mo) (qI 0 10) (by (try dsimp only);exact⟨zO,hi2⟩) (by (try dsimp only);omega) (bM zF zF ?_)⟩
     try simp (disch:=omega) only [go_sem,seval,hS]
  |false=>
   rw [hS] at hi2
   simp only [M8,Nm,if_true,Nq,Md hll,LG] at hi2
   try simp (disch:=omega) only [go_sem,seval,hS]
   refine qD [0,1,2,3,4,5,6,7,8,9,10,11] ?_
   refine qX ?_
   refine qG ?_
   cases fi with
   |true=>
    simp only [M6,if_true] at hi2
    refine qX ?_
    refine⟨qC,hN _ (i+1,false,list[(lA e.subs)[i]],list[(lA e.subs)[i]]) (qI 0 10) (by (try dsimp only);exact⟨zO,hi2⟩) (by (try dsimp only);omega) (bM zF zF ?_)⟩
    try simp (disch:=omega) only [go_sem,seval,hS]
   |false=>
    simp only [M3,decide_eq_true_eq] at hi2
    refine qX ?_
    refine qB (fun h6=>?_) fun h6=>?_
    ·rw [if_pos h6] at hi2
     refine qB (fun h7=>?_) fun h7=>?_
     ·rw [if_pos h7] at hi2
      refine⟨qC,hN _ (i+1,false,list[(lA e.subs)[i]],list[(lA e.subs)[i]]) (qI 0 10) (by (try dsimp only);exact⟨zO,hi2⟩) (by (try dsimp only);omega) (bM zF zF ?_)⟩
      try simp (disch:=omega) only [go_sem,seval,hS]
     rw [if_neg h7] at hi2
     refine⟨qC,hN _ (i+1,false,list[(lA e.subs)[i]],mo) (qI 0 10) (by (try dsimp only);exact⟨zO,hi2⟩) (by (try dsimp only);omega) (bM zF zF ?_)⟩
     try simp (disch:=omega) only [go_sem,seval,hS]
    rw [if_neg h6] at hi2
    refine qB (fun h7=>?_) fun h7=>?_
    ·rw [if_pos h7] at hi2
     refine⟨qC,hN _ (i+1,false,le,list[(lA e.subs)[i]]) (qI 0 10) (by (try dsimp only);exact⟨zO,hi2⟩) (by (try dsimp only);omega) (bM zF zF ?_)⟩
     try simp (disch:=omega) only [go_sem,seval,hS]
    rw [if_neg h7] at hi2
    refine⟨qC,hN _ (i+1,false,le,mo) (qI 0 10) (by (try dsimp only);exact⟨zO,hi2⟩) (by (try dsimp only);omega) (bM zF zF ?_)⟩
    try simp (disch:=omega) only [go_sem,seval,hS]
 rw [MS zO,Nl,Ns,LG] at hi2
 subst hi2
 refine qX ?_
 refine qB (fun h4=>?_) fun h4=>?_
 ·refine bN (qI 0 8) (qC) _ (by simp only [go_sem];rfl) zF zF ?_
  simp (disch:=omega) only [go_sem,seval]
  try simp [h4]
  try omega
 refine qP (qI 0 8) ?_
 first|exact⟨⟩|simp [h4]
theorem LJ:∀ {f:Nat} {e:EndD} {out:List Int},(Bi e f out).length=out.length
 |0,_,_=>rfl
 |f+1,e,out=>by
  rw [Bi,LJ]
  split<;>simp
theorem Mf (e:EndD) (h0:e.own.length<=1048576) (h1:e.far.length<=1048576) (h2:e.subs.length<=1048576) (h3:e.halfs.length<=1048576) (h4:e.inp.list.length<=1048576) (h5:e.done.length<=1048576) (h6:e.over.length<=1048576):aP 31 [.ag (e.cs 0)] (e.hp false) (.sc (.int .i64 (bE e))) (e.hp false):=by
 have hcl:=Cc e.subs
 refine qE func31 ntmps31 results31 fun E hE=>?_
 refine qK (LO e h2) (qI 0 7) ?_
 refine qK (LZ e h0 h1 h2 h3 h4 h5 h6) (qI 0 7) ?_
 refine qB (fun g1=>?_) fun g1=>?_
 ·refine qB (fun g2=>?_) fun g2=>?_
  ·have hr:bE e= -1:=by rw [bE,if_neg zO]
   rw [hr]
   exact qF (qI 0 7)
  have g2':(eG e.subs).length≠0:=zO
  have hpk:=lj g1
  obtain⟨z,hz,hz1,hz2⟩:=xv hpk.1 (show 0 < (eG e.subs).length by omega)
  rw [rx g1 hz1 hz2]
  try simp (disch:=omega) only [go_sem,seval,hz,bW hz1]
  exact qF (qI 0 7)
 have hr:bE e= -1:=by rw [bE,if_neg (by simp [g1])]
 rw [hr]
 exact qF (qI 0 7)
theorem LP (n:Int) (hn:aY n):aP 32 [.sc (.int .i64 n)] [] (.sc (.int .i64 (iV n))) []:=by
 refine qE func32 ntmps32 results32 fun E hE=>?_
 refine qB (fun h=>?_) fun h=>?_
 ·rw [iV,if_pos h]
  exact qF []
 rw [iV,if_neg h]
 exact qF []
theorem Ms (e:EndD) (n:Int) (h0:e.own.length<=1048576) (h1:e.far.length<=1048576) (h2:e.subs.length<=1048576) (h3:e.halfs.length<=1048576) (h4:e.inp.list.length<=1048576) (h5:e.done.length<=1048576) (h6:e.over.length<=1048576):aP 12 [.ag (e.cs 0),.sc (.int .i64 n)] (e.hp false) (.sc (.sl 7 0 (KV e n).length)) (e.hp false++[some ⟨(KV e n).map cv,1,3,true,true⟩]):=by
 refine qE func12 ntmps12 results12 fun E hE=>?_
 refine qK (LZ e h0 h1 h2 h3 h4 h5 h6) (qI 0 7) ?_
 refine qB (fun g1=>?_) fun g1=>?_
 ·refine qK (LD _ _ _) [] ?_
  refine qB (fun g2=>?_) fun g2=>?_
  ·skip
   have hr:KV e n=[]:=by rw [KV,g2];simp
   rw [hr]
   exact qF (qI 0 7++qO 1)
  have g2':=g2
  simp only [co,MU,decide_eq_true_eq] at g2'
  have hr:KV e n=Bi e n.toNat (List.replicate e.subs.length 0):=by rw [KV,g1,g2];rfl
  obtain⟨tt,htt⟩:∃ tt,tt=KV e n:=⟨_,rfl⟩
  have htl:tt.length=e.subs.length:=by rw [htt,hr,LJ];simp
  rw [<-htt] at hr⊢
  have hpk:=lj g1
  refine qX ?_
  refine iK 7 hE (fun s (x:Nat×Int×List Int)=>s.at (qU [0,1,7,32]) [(6,.sc (.int .i64 (x.1:Nat)))] (e.hp false++[some ⟨[({ e with pick:=x.2.1 }:EndD).cs 0],25,38,true,false⟩,some ⟨x.2.2.map cv,1,3,true,true⟩])) (fun (x:Nat×Int×List Int)=>x.1<=n.toNat/\0<=x.2.1/\x.2.1<=1000000000/\x.2.2.length=e.subs.length/\Bi ({ e with pick:=x.2.1 }:EndD) (n.toNat - x.1) x.2.2=tt) (fun (x:Nat×Int×List Int)=>n.toNat - x.1) (0,e.pick,List.replicate e.subs.length 0) (qI 0 9) (qC) (⟨MQ _,hpk.1,hpk.2,zP,hr.symm⟩) (bM zF zF ?_) fun x hx N hN=>?_
  ·try simp (disch:=omega) only [go_sem,seval]
   try simp [cv]
  obtain⟨k,pk,out⟩:=x
  obtain⟨hk1,hk2,hk3,hk4,hk5⟩:=hx
  dsimp only at hk1 hk2 hk3 hk4 hk5
  have hp1:0<=iV pk:=by rw [iV];split<;>omega
  have hp2:iV pk<=1000000000:=by rw [iV];split<;>omega
  refine qR ?_
  refine qB (fun h=>?_) fun h=>?_
  ·obtain⟨f,hf⟩:∃ f,n.toNat - k=f+1:=⟨n.toNat - k - 1,zO⟩
   rw [hf,Bi] at hk5
   have hcs:=ic { e with pick:=pk }
   refine qX ?_
   refine qK (Mf { e with pick:=pk } h0 h1 h2 h3 h4 h5 h6) (qI 0 7) ?_
   generalize hns:bE { e with pick:=pk }=ns at hcs hk5
   rcases hcs with rfl|⟨m,hm,rfl⟩
   ·rw [if_neg zO] at hk5
    refine qX ?_
    refine qK (LP pk ⟨zO,zO⟩) [] ?_
    refine⟨qC,hN _ (k+1,iV pk,out) (qI 0 9) (by (try dsimp only);exact⟨zO,hp1,hp2,by first|exact hk4|(simp;omega),by rw [show n.toNat - (k+1)=f from by omega];exact hk5⟩) (by (try dsimp only);omega) (bM zF zF ?_)⟩
    try simp (disch:=omega) only [go_sem,seval]
   have hmo:m < out.length:=by
    have:m < e.subs.length:=hm
    omega
   rw [if_pos zO,MV,vg hmo] at hk5
   try simp (disch:=omega) only [go_sem,seval,bW hmo]
   refine qK (LP pk ⟨zO,zO⟩) [] ?_
   refine wO hN (k+1,iV pk,out.set m (IntKind.i64.wrap (out[m]+1))) (qI 0 9) (by (try dsimp only);exact⟨zO,hp1,hp2,by first|exact hk4|(simp;omega),by rw [show n.toNat - (k+1)=f from by omega];exact hk5⟩) ?_
   first|exact⟨⟩|first|exact LN rfl|exact⟨zO,LN rfl⟩
  have ek:n.toNat - k=0:=zO
  rw [ek,Bi] at hk5
  subst hk5
  refine bN (qI 0 7++qI 8 1) (qC) _ (by simp only [go_sem];rfl) zF zF ?_
  simp (disch:=omega) only [go_sem,seval]
  try exact hk4.symm
  try omega
 skip
 have hr:KV e n=[]:=by rw [KV,g1];simp
 rw [hr]
 exact qF (qI 0 7++qO 1)
theorem Mu (e:EndD) (n:Int) (h0:e.own.length<=1048576) (h1:e.far.length<=1048576) (h2:e.subs.length<=1048576) (h3:e.halfs.length<=1048576) (h4:e.inp.list.length<=1048576) (h5:e.done.length<=1048576) (h6:e.over.length<=1048576):aP 13 [.ag (e.cs 0),.sc (.int .i64 n)] (e.hp false) (.sc (.sl 7 0 (KV e n).length)) (e.hp false++[some ⟨(KV e n).map cv,1,3,true,true⟩]):=by
 refine qE func13 ntmps13 results13 fun E hE=>?_
 refine qK (aH e h0 h1 h2 h3 h4 h5 h6) (qI 0 7) ?_
 refine qB (fun g1=>?_) fun g1=>?_
 ·refine qK (au _ _ _) [] ?_
  refine qB (fun g2=>?_) fun g2=>?_
  ·skip
   have hr:KV e n=[]:=by rw [KV,g2];simp
   rw [hr]
   exact qF (qI 0 7++qI 8 1)
  have g2':=g2
  simp only [co,MU,decide_eq_true_eq] at g2'
  have hr:KV e n=Bi e n.toNat (List.replicate e.subs.length 0):=by rw [KV,g1,g2];rfl
  obtain⟨tt,htt⟩:∃ tt,tt=KV e n:=⟨_,rfl⟩
  have htl:tt.length=e.subs.length:=by rw [htt,hr,LJ];simp
  rw [<-htt] at hr⊢
  have hpk:=lj g1
  refine qX ?_
  refine iK 7 hE (fun s (x:Nat×Int×List Int)=>s.at (qU [0,1,7,39]) [(6,.sc (.int .i64 (x.1:Nat)))] (e.hp false++[some ⟨[({ e with pick:=x.2.1 }:EndD).cs 0],25,38,true,false⟩,some ⟨x.2.2.map cv,1,3,true,true⟩])) (fun (x:Nat×Int×List Int)=>x.1<=n.toNat/\0<=x.2.1/\x.2.1<=1000000000/\x.2.2.length=e.subs.length/\Bi ({ e with pick:=x.2.1 }:EndD) (n.toNat - x.1) x.2.2=tt) (fun (x:Nat×Int×List Int)=>n.toNat - x.1) (0,e.pick,List.replicate e.subs.length 0) (qI 0 9) (qC) (⟨MQ _,hpk.1,hpk.2,zP,hr.symm⟩) (bM zF zF ?_) fun x hx N hN=>?_
  ·try simp (disch:=omega) only [go_sem,seval]
   try simp [cv]
  obtain⟨k,pk,out⟩:=x
  obtain⟨hk1,hk2,hk3,hk4,hk5⟩:=hx
  dsimp only at hk1 hk2 hk3 hk4 hk5
  have hp1:0<=iV pk:=by rw [iV];split<;>omega
  have hp2:iV pk<=1000000000:=by rw [iV];split<;>omega
  refine qR ?_
  refine qB (fun h=>?_) fun h=>?_
  ·obtain⟨f,hf⟩:∃ f,n.toNat - k=f+1:=⟨n.toNat - k - 1,zO⟩
   rw [hf,Bi] at hk5
   have hcs:=ic { e with pick:=pk }
   refine qX ?_
   refine qK (vw { e with pick:=pk } h0 h1 h2 h3 h4 h5 h6) (qI 0 7) ?_
   generalize hns:bE { e with pick:=pk }=ns at hcs hk5
   rcases hcs with rfl|⟨m,hm,rfl⟩
   ·rw [if_neg zO] at hk5
    refine qX ?_
    by_cases h9:1000000000<=pk
    ·have e9:iV pk=0:=by rw [iV,if_pos h9]
     refine qX ?_
     refine⟨qC,hN _ (k+1,iV pk,out) (qI 0 9) (by (try dsimp only);exact⟨zO,hp1,hp2,by first|exact hk4|(simp;omega),by rw [show n.toNat - (k+1)=f from by omega];exact hk5⟩) (by (try dsimp only);omega) (bM zF zF ?_)⟩
     try simp (disch:=omega) only [go_sem,seval,e9]
     skip
    have e9:iV pk=pk+1:=by rw [iV,if_neg h9]
    refine qX ?_
    refine⟨qC,hN _ (k+1,iV pk,out) (qI 0 9) (by (try dsimp only);exact⟨zO,hp1,hp2,by first|exact hk4|(simp;omega),by rw [show n.toNat - (k+1)=f from by omega];exact hk5⟩) (by (try dsimp only);omega) (bM zF zF ?_)⟩
    try simp (disch:=omega) only [go_sem,seval,e9]
    skip
   have hmo:m < out.length:=by
    have:m < e.subs.length:=hm
    omega
   rw [if_pos zO,MV,vg hmo] at hk5
   try simp (disch:=omega) only [go_sem,seval,bW hmo]
   by_cases h9:1000000000<=pk
   ·have e9:iV pk=0:=by rw [iV,if_pos h9]
    refine qX ?_
    refine⟨qC,hN _ (k+1,iV pk,out.set m (IntKind.i64.wrap (out[m]+1))) (qI 0 9) (by (try dsimp only);exact⟨zO,hp1,hp2,by first|exact hk4|(simp;omega),by rw [show n.toNat - (k+1)=f from by omega];exact hk5⟩) (by (try dsimp only);omega) (bM zF zF ?_)⟩
    try simp (disch:=omega) only [go_sem,seval,e9]
    try first|exact LN rfl|exact⟨zO,LN rfl⟩
   have e9:iV pk=pk+1:=by rw [iV,if_neg h9]
   refine qX ?_
   refine⟨qC,hN _ (k+1,iV pk,out.set m (IntKind.i64.wrap (out[m]+1))) (qI 0 9) (by (try dsimp only);exact⟨zO,hp1,hp2,by first|exact hk4|(simp;omega),by rw [show n.toNat - (k+1)=f from by omega];exact hk5⟩) (by (try dsimp only);omega) (bM zF zF ?_)⟩
   try simp (disch:=omega) only [go_sem,seval,e9]
   try first|exact LN rfl|exact⟨zO,LN rfl⟩
  have ek:n.toNat - k=0:=zO
  rw [ek,Bi] at hk5
  subst hk5
  refine bN (qI 0 7++qI 8 1) (qC) _ (by simp only [go_sem];rfl) zF zF ?_
  simp (disch:=omega) only [go_sem,seval]
  try exact hk4.symm
  try omega
 skip
 have hr:KV e n=[]:=by rw [KV,g1];simp
 rw [hr]
 exact qF (qI 0 7++qI 8 1)
def LM:List Int->Int
 |[]=>0
 |x::l=>x+LM l
theorem Mo:∀ {l m:List Int},LM (l++m)=LM l+LM m
 |[],m=>by simp [LM]
 |x::l,m=>by rw [Nh,LM,LM,Mo (l:=l)];omega
theorem MC {l:List Int} {k:Nat} (h:k < l.length):LM (l.take (k+1))=LM (l.take k)+l[k]:=by
 rw [List.take_succ_eq_append_getElem h,Mo,LM,LM];omega
theorem My {B:Int}:∀ {l:List Int},(∀ v∈l,0<=v/\v<=B)->0<=LM l/\LM l<=B*l.length
 |[],_=>by simp [LM]
 |x::l,h=>by
  have h1:=h x zP
  have h2:=My (l:=l) (fun v hv=>h v (by simp [hv]))
  rw [LM,Ni,Int.natCast_add,Int.mul_add]
  omega
theorem L3 (b:List UInt8) (hb:b.length<=1048576):f_ Tryz.prog 11 [.sc (.sl 0 0 b.length)] [some ⟨b.map dL,1,5,false,true⟩] (fun x:EndD×Int=>Drn x.1/\ -1<=x.2/\x.2<=101) (fun x=>.tu [.ag (x.1.cs 1),.sc (.int .i64 x.2)]) (fun x=>[some ⟨b.map dL,1,5,false,true⟩]++x.1.hp false):=by
 refine dB func11 (by kernel_rfl) rfl fun E hE=>af 400 ?_
 simp (disch:=omega) only [ntmps11,results11,go_sem,seval]
 refine qK (Ha b hb) (qI 0 1) ?_
 refine aM (qC) (Hu b (u6 b) (Ix hb)) (qI 0 1++qI 2 1) qM zF fun z hz=>af 400 ?_
 simp (disch:=omega) only [go_sem,seval]
 obtain⟨e,c1⟩:=z
 obtain⟨o1,he⟩:=hz
 dsimp only at o1 he
 have h2:=ax b c1 o1 [0,1,5,20,100,101,-1] zD zD
 have o2:=CurD.below_ok o1 (b:=b) 7
 have m2:=c1.pick_mem b (l:=[0,1,5,20,100,101,-1]) zD
 have w2:=(by decide:∀ x∈([0,1,5,20,100,101,-1]:List Int),-1<=x/\x<=101) _ m2
 rw [show (([0,1,5,20,100,101,-1]:List Int).length:Int)=7 from rfl] at h2
 generalize c1.pick b [0,1,5,20,100,101,-1]=v2 at h2 w2
 clear m2
 generalize c1.below b 7=r2 at h2 o2
 obtain⟨u2,c2⟩:=r2
 dsimp only at h2 o2
 refine qX ?_
 refine bj [(0,3),(2,0)] [(2,3)] [[1,2,0,3,4,5],[1,0,2,3,4,5],[1,2,3,0,4,5]] (by kernel_rfl) (qC) (by kernel_rfl) ?_
 simp only [aR]
 refine⟨ab 400 ?_,ab 400 ?_,ab 400 ?_⟩
 all_goals simp (disch:=omega) only [go_sem,seval]
 all_goals
  refine al (qC) (h2) (qI 0 1++qI 2 1++qI 11 1) qM zF (ab 400 ?_)
  simp (disch:=omega) only [go_sem,seval]
  refine qG ?_
  refine am (e,v2) (⟨he,zO,zO⟩) (qI 0 1++qI 3 7) (qC) _ (by simp only [go_sem];rfl) zF zF ?_
  simp (disch:=omega) only [go_sem,seval]
def dd (m r j:Nat):Nat:=if r<=j then j - r else j+m - r
def cn (m f r j:Nat):Nat:=(f+m - 1 - dd m r j) / m
def nx (m r:Nat):Nat:=if r+1=m then 0 else r+1
theorem MN {p m:Nat} (hm:0 < m):(p+1) % m=nx m (p % m):=by
 have h1:=M4 p hm
 rw [nx,Nat.add_mod]
 by_cases h:m=1
 ·subst h;simp [Nat.mod_one]
 rw [Nj (a:=1) zO]
 split
 ·rename_i h2;rw [h2,Nat.mod_self]
 exact Nj zO
theorem MO {m f r:Nat} (hr:r < m):cn m (f+1) r r=1+cn m f (nx m r) r:=by
 have e1:f+1+m - 1 - dd m r r=f+m:=by simp only [dd];split<;>omega
 have e2:f+m - 1 - dd m (nx m r) r=f:=by simp only [dd,nx];(repeat' split);all_goals omega
 rw [cn,cn,e1,e2,Ng _ zO];omega
theorem MJ {m f r j:Nat} (hr:r < m) (hj:j < m) (h:r≠j):cn m (f+1) r j=cn m f (nx m r) j:=by
 have e:f+1+m - 1 - dd m r j=f+m - 1 - dd m (nx m r) j:=by simp only [dd,nx];(repeat' split);all_goals omega
 rw [cn,cn,e]
theorem MK {m r j:Nat} (hr:r < m) (hj:j < m):cn m 0 r j=0:=by
 rw [cn];exact Nat.div_eq_of_lt zO
theorem MP {m f r j:Nat} (hr:r < m) (hj:j < m):f / m<=cn m f r j/\cn m f r j<=f / m+1:=by
 have hd:dd m r j<=m - 1:=by simp only [dd];split<;>omega
 constructor
 ·rw [cn];exact M_ zO
 rw [cn,<-Ng _ (show 0 < m by omega)];exact M_ zO
theorem LU {e:EndD} (h:ah e=true):ah { e with pick:=iV e.pick }=true:=by
 have hp:=lj h
 have hq:0<=iV e.pick/\iV e.pick<=1000000000:=by unfold iV;split<;>omega
 have hn:kj (iV e.pick)=true:=by
  simp only [kj,MU,decide_eq_true_eq];exact hq
 simp only [ah,Nn,M5,MU] at h⊢
 refine⟨⟨h.1.1,h.1.2.1,h.1.2.2.1,h.1.2.2.2.1,h.1.2.2.2.2.1,hn,trivial⟩,h.2⟩
theorem L4 {l:List Int} {n i:Nat} {v:Int} (h:n < l.length):(l.set n v).getD i 0=if i=n then v else l.getD i 0:=by
 simp only [MR,List.getElem?_set]
 by_cases hi:i=n
 ·subst hi;simp [h]
 rw [if_neg (fun h=>hi h.symm),if_neg hi]
theorem Mz:∀ {l:List Int} {n:Nat} {v:Int},n < l.length->(l.set n v).sum=l.sum - l.getD n 0+v
 |[],n,v,h=>by simp at h
 |a::l,0,v,_=>by simp;omega
 |a::l,n+1,v,h=>by
  have:=Mz (l:=l) (n:=n) (v:=v) (by simpa using h)
  simp only [List.set_cons_succ,Nr,Nc,this];omega
theorem Mg:∀ {l:List SubD} {k n:Nat},n∈kZ k l->k<=n
 |[],k,n,h=>by simp [kZ] at h
 |s::r,k,n,h=>by
  rw [kZ] at h
  split at h
  ·rcases Nb.1 h with rfl|h
   ·exact Nu _
   have:=Mg h;omega
  have:=Mg h;omega
theorem LQ:∀ {l:List SubD} {k:Nat},(kZ k l).Nodup
 |[],k=>List.nodup_nil
 |s::r,k=>by
  rw [kZ]
  split
  ·exact List.nodup_cons.2 ⟨fun h=>by have:=Mg h;omega,LQ⟩
  exact LQ
theorem Mc (l:List SubD):(lA l).Nodup:=LQ
theorem Mp (l:List SubD):(eG l).Nodup:=by
 rw [eG];split
 ·exact Mc l
 exact List.Pairwise.filter _ (Mc l)
theorem Mv {l:List SubD} (h:(eG l).length=0):(lA l).length=0:=by
 rw [eG] at h
 split at h
 ·exact h
 omega
theorem L5 {e:EndD} {p:Nat} (h:ah e=true) (hm:0 < (eG e.subs).length) (hp:e.pick=(p:Int)):bE e=((eG e.subs).getD (p % (eG e.subs).length) 0:Nat):=by
 rw [bE,if_pos ⟨h,zO⟩,hp,MV]
theorem L6 {l:List SubD} {j:Nat} (h:j < (eG l).length):(eG l).getD j 0 < l.length:=by
 rw [MR,MT h]
 exact El (MY h)
theorem MH {l:List SubD} {i j:Nat} (hi:i < (eG l).length) (hj:j < (eG l).length) (h:(eG l).getD i 0=(eG l).getD j 0):i=j:=by
 rw [MR,MT hi,MR,MT hj] at h
 exact (List.getElem_inj (Mp l)).1 h
theorem LR:∀ (f:Nat) (e:EndD) (out:List Int),ah e=true->out.length=e.subs.length->(∀ i,0<=out.getD i 0/\out.getD i 0+f<=1000)->
  (∀ i,0<=(Bi e f out).getD i 0/\(Bi e f out).getD i 0<=1000)/\(0 < (eG e.subs).length->(Bi e f out).sum=out.sum+f)
 |0,e,out,he,hl,hb=>⟨fun i=>by have:=hb i;simp only [Bi];omega,fun _=>by simp [Bi]⟩
 |f+1,e,out,he,hl,hb=>by
  rw [Bi]
  have he':=LU he
  obtain⟨p,hp⟩:=MX (lj he).1
  rcases Nf (eG e.subs).length with h0|h0
  ·have hn:bE e= -1:=by rw [bE,if_neg zO]
   rw [if_neg zO]
   refine⟨(LR f _ out he' hl fun i=>by have:=hb i;omega).1,fun h=>by omega⟩
  have hz:=M4 p h0
  have hn:=L5 he h0 hp
  have hlt:=L6 hz
  rw [hn,if_pos zO,MV]
  generalize (eG e.subs).getD (p % (eG e.subs).length) 0=q at hlt
  have hq:=hb q
  rw [yD zO]
  have ih:=LR f { e with pick:=iV e.pick } (out.set q (out.getD q 0+1)) he' (by rw [MW];exact hl) fun i=>by
   rw [L4 zO]
   have:=hb i
   split<;>omega
  refine⟨ih.1,fun _=>?_⟩
  rw [ih.2 h0,Mz zO]
  omega
theorem L7:∀ (f:Nat) (e:EndD) (out:List Int) (p:Nat),ah e=true->0 < (eG e.subs).length->e.pick=(p:Int)->p+f<=1000000000->out.length=e.subs.length->(∀ i,0<=out.getD i 0/\out.getD i 0+f<=1000)->
  ∀ j,j < (eG e.subs).length->(Bi e f out).getD ((eG e.subs).getD j 0) 0=out.getD ((eG e.subs).getD j 0) 0+(cn (eG e.subs).length f (p % (eG e.subs).length) j:Nat)
 |0,e,out,p,he,h0,hp,hf,hl,hb,j,hj=>by
  rw [Bi,MK (M4 _ h0) hj];simp
 |f+1,e,out,p,he,h0,hp,hf,hl,hb,j,hj=>by
  rw [Bi]
  have he':=LU he
  have hz:=M4 p h0
  have hn:=L5 he h0 hp
  have hlt:=L6 hz
  have hpk:iV e.pick=((p+1:Nat):Int):=by rw [iV,hp,if_neg zO];omega
  rw [hn,if_pos zO,MV]
  have hq:=hb ((eG e.subs).getD (p % (eG e.subs).length) 0)
  rw [yD zO]
  have ih:=L7 f { e with pick:=iV e.pick } (out.set ((eG e.subs).getD (p % (eG e.subs).length) 0) (out.getD ((eG e.subs).getD (p % (eG e.subs).length) 0) 0+1)) (p+1) he' h0 hpk zO (by rw [MW];exact hl) (fun i=>by
   rw [L4 zO]
   have:=hb i
   split<;>omega) j hj
  rw [MN h0] at ih
  refine ih.trans ?_
  show (out.set _ _).getD ((eG e.subs).getD j 0) 0+((cn (eG e.subs).length f (nx (eG e.subs).length (p % (eG e.subs).length)) j:Nat):Int)=_
  rw [L4 zO]
  by_cases h:j=p % (eG e.subs).length
  ·subst h
   rw [if_pos rfl,MO hz];omega
  rw [if_neg (fun hc=>h (MH hj hz hc)),MJ hz hj (fun hc=>h hc.symm)]
theorem MD {e:EndD} {n:Int} (h:ah e=true) (hn:0<=n/\n<=100):
  (KV e n).length=e.subs.length/\(∀ x∈KV e n,0<=x/\x<=1000)/\((KV e n).sum=n\/(lA e.subs).length=0)/\(900000000 < e.pick\/LF e (KV e n)=true):=by
 have hr:co n 0 100=true:=by simp only [co,MU,decide_eq_true_eq];omega
 obtain⟨f,rfl⟩:=MX hn.1
 obtain⟨p,hp⟩:=MX (lj h).1
 have ht:KV e (f:Int)=Bi e f (List.replicate e.subs.length 0):=by rw [KV,h,hr,Np,if_pos rfl,MV]
 have hg:∀ i,(List.replicate e.subs.length (0:Int)).getD i 0=0:=fun i=>by
  rw [MR,List.getElem?_replicate];split<;>rfl
 have hb:∀ i,0<=(List.replicate e.subs.length (0:Int)).getD i 0/\(List.replicate e.subs.length (0:Int)).getD i 0+f<=1000:=fun i=>by rw [hg];omega
 have hlen:(KV e (f:Int)).length=e.subs.length:=by rw [ht,LJ,MZ]
 obtain⟨h1,h2⟩:=LR f e _ h (MZ ..) hb
 rw [<-ht] at h1 h2
 refine⟨hlen,fun x hx=>?_,?_,?_⟩
 ·obtain⟨i,hi,rfl⟩:=Na.1 hx
  have:=h1 i
  rw [MR,MT hi] at this
  exact this
 ·rcases Nf (eG e.subs).length with h0|h0
  ·exact .inr (Mv h0)
  left;rw [h2 h0];simp
 by_cases hpk:900000000 < e.pick
 ·exact .inl hpk
 right
 rw [LF,hlen,decide_eq_true rfl,M2,LS,LK,Nk]
 have key:∀ a∈(eG e.subs).map (ML (KV e (f:Int))),((f / (eG e.subs).length:Nat):Int)<=a/\a<=((f / (eG e.subs).length:Nat):Int)+1/\aY a:=by
  intro a ha
  obtain⟨q,hq,rfl⟩:=Nt.1 ha
  obtain⟨j,hj,rfl⟩:=Na.1 hq
  have h0:0 < (eG e.subs).length:=zO
  have hat:=L7 f e (List.replicate e.subs.length 0) p h h0 hp zO (MZ ..) hb j hj
  rw [<-ht,hg,Int.zero_add] at hat
  have hcn:=MP (f:=f) (M4 p h0) hj
  have hbd:=h1 ((eG e.subs)[j])
  rw [MR (l:=eG e.subs),MT hj] at hat
  simp only [Option.getD_some] at hat
  rw [ML,hat]
  rw [hat] at hbd
  refine⟨zO,zO,?_⟩
  simp only [aY];omega
 intro a ha
 rw [Nk]
 intro b hb2
 obtain⟨a1,a2,a3⟩:=key a ha
 obtain⟨b1,b2,b3⟩:=key b hb2
 rw [Bool.not_eq_true',Bool.eq_false_iff]
 intro hw
 have:=(LW a3 b3).1 hw
 omega
attribute [go_sem] List.append_eq
theorem Ma (l:List Int) (hl:l.length<=4611686018427387904):aP 15 [.sc (.sl 0 0 l.length),.sc (.sl 1 0 l.length)] [some ⟨l.map cv,1,3,false,true⟩,some ⟨l.map cv,1,3,false,true⟩] (.sc (.bo true)) [some ⟨l.map cv,1,3,false,true⟩,some ⟨l.map cv,1,3,false,true⟩]:=by
 refine qE func15 ntmps15 results15 fun E hE=>?_
 refine ki 2 hE (fun s (k:Nat)=>s.at (qU [4,1,6,20]) [(5,.sc (.int .i64 (k:Nat)))] (s.hp)) (fun (k:Nat)=>k<=l.length) (fun (k:Nat)=>l.length - k) 0 (qI 0 2) (MQ _) fun k hk N hN=>?_
 refine qR ?_
 refine qB (fun h=>?_) fun h=>?_
 ·refine qD [0,1,2,3,4,5,6,7,8] ?_
  refine qG ?_
  exact qN hN (k+1) (qI 0 2) (by (try dsimp only);exact h)
 exact qF (qI 0 2)
theorem MA:∀ {l:List Int},l.sum=LM l
 |[]=>rfl
 |x::l=>by rw [LM,Nr,MA]
theorem ME {e:EndD} {n:Int} (h:¬ (ah e=true/\0<=n/\n<=100)):KV e n=[]:=by
 rw [KV,if_neg]
 simp only [co,MU,decide_eq_true_eq]
 exact h
theorem MF (b:List UInt8) (hb:b.length<=maxLen) (_:∀ x∈b,True):aP 4 [.sc (.sl 0 0 b.length)] [some ⟨b.map dL,1,5,false,true⟩] (.sc (.bo true)) [some ⟨b.map dL,1,5,false,true⟩]:=by
 refine qE func4 ntmps4 results4 fun E hE=>?_
 refine qK (JU b hb) (qI 0 1) ?_
 refine qB (fun h=>?_) fun h=>?_
 ·exact qF (qI 0 1)
 refine aM (qC) (L3 b zO) (qI 0 1) qM zF fun z hz=>af 400 ?_
 simp (disch:=omega) only [go_sem,seval]
 obtain⟨e,n⟩:=z
 obtain⟨he,hn1,hn2⟩:=hz
 dsimp only at he hn1 hn2
 have hs:=he.s
 have c1:=Ms e n hs.own hs.far hs.subs hs.halfs hs.list hs.done hs.over
 have c2:=Mu e n hs.own hs.far hs.subs hs.halfs hs.list hs.done hs.over
 have c3:=aH e hs.own hs.far hs.subs hs.halfs hs.list hs.done hs.over
 have c4:=tJ e hs.subs
 have tb:= @ME e n
 have tl:= @MD e n
 by_cases hok:ah e=true/\0<=n/\n<=100
 ·obtain⟨k1,k2,k3⟩:=hok
  obtain⟨t1,t2,t3,t4⟩:=tl k1 ⟨k2,k3⟩
  have e8:=(cU.1 k1).subs8
  have i64s:∀ x∈KV e n,aY x:=fun x hx=>bt (by have:=t2 x hx;omega)
  have c5:=Mm e (KV e n) hs.subs zO i64s
  have c6:=Mn e (KV e n) hs.subs zO i64s
  have c7:=Ma (KV e n) zO
  have q3:∀ x∈KV e n,0<=x/\x<=1000:=t2
  rw [MA] at t3
  rw [k1] at c3
  clear tb tl i64s t2
  generalize KV e n=L at*
  generalize LF e L=ev at*
  generalize lA e.subs=on at*
  refine qK (c1) (qI 1 7) ?_
  refine qK (c2) (qI 1 7) ?_
  refine qK (c3) (qI 1 7) ?_
  refine iK 1 hE (fun s (y:Nat)=>s.at (qU [0,1,9,39]) [(7,.sc (.int .i64 (LM (L.take y)))),(8,.sc (.int .i64 (y:Nat)))] (s.hp)) (fun (y:Nat)=>y<=L.length) (fun (y:Nat)=>L.length - y) 0 (qI 0 11) (qC) (MQ _) (bM zF zF ?_) fun y hy N hN=>?_
  ·try simp (disch:=omega) only [go_sem,seval]
   try simp [LM]
  have hy:=hy
  refine qR ?_
  refine qB (fun h9=>?_) fun h9=>?_
  ·have e1:=MC h9
   have e2:=q3 L[y] (MY h9)
   have e3:=My (B:=1000) (l:=L.take y) fun v hv=>q3 v (List.mem_of_mem_take hv)
   have e4:(L.take y).length<=8:=by rw [List.length_take];omega
   generalize (L.take y).length=e6 at*
   generalize hv:L[y]=v at*
   try simp (disch:=omega) only [go_sem,seval,hv,bW h9]
   refine⟨by (try simp (disch:=omega) only [go_sem,MW,seval,hv])<;>omega,hN _ (y+1) (qI 0 11) (by (try dsimp only);exact h9) (by (try dsimp only);omega) (bM zF zF ?_)⟩
   try simp (disch:=omega) only [go_sem,seval,hv]
   try omega
  rw [List.take_of_length_le zO]
  refine qX ?_
  refine qD [0,1,2,3,4,5,6,7,8,9,10,11,12,13,14,15,16,17,18,19,20,21,22,23,24,25,26,27,28,29,30,31,32,33,34,36,37,35,38,39,40,41] ?_
  refine cj (c7) (qI 9 2) ?_
  by_cases hp:900000000 < e.pick
  ·refine qX ?_
   by_cases hsum:LM L=n
   ·try simp (disch:=omega) only [go_sem,seval,hsum]
    refine cj (c5) (qI 1 7++qI 9 1) ?_
    refine cj (c6) (qI 1 7++qI 9 1) ?_
    refine qG ?_
    exact qF (qI 0 1)
   have h0:on.length=0:=t3.resolve_left hsum
   refine qX ?_
   refine cj (c4) (qI 1 7) ?_
   try simp (disch:=omega) only [go_sem,seval,h0]
   refine cj (c5) (qI 1 7++qI 9 1) ?_
   refine cj (c6) (qI 1 7++qI 9 1) ?_
   refine qG ?_
   exact qF (qI 0 1)
  have hev:ev=true:=t4.resolve_left hp
  subst hev
  refine qX ?_
  refine cj (c5) (qI 1 7++qI 9 1) ?_
  by_cases hsum:LM L=n
  ·try simp (disch:=omega) only [go_sem,seval,hsum]
   refine cj (c5) (qI 1 7++qI 9 1) ?_
   refine cj (c6) (qI 1 7++qI 9 1) ?_
   refine qG ?_
   exact qF (qI 0 1)
  have h0:on.length=0:=t3.resolve_left hsum
  refine qX ?_
  refine cj (c4) (qI 1 7) ?_
  try simp (disch:=omega) only [go_sem,seval,h0]
  refine cj (c5) (qI 1 7++qI 9 1) ?_
  refine cj (c6) (qI 1 7++qI 9 1) ?_
  refine qG ?_
  exact qF (qI 0 1)
 rw [tb hok] at c1 c2
 have hor:ah e=false\/(ah e=true/\n < 0)\/(ah e=true/\¬ n < 0/\100 < n):=by
  cases hE:ah e with
  |false=>exact .inl rfl
  |true=>
   rw [hE] at hok
   by_cases h0:n < 0
   ·exact .inr (.inl ⟨rfl,h0⟩)
   exact .inr (.inr ⟨rfl,h0,by
    have:¬ (0<=n/\n<=100):=fun hh=>hok ⟨rfl,hh⟩
    omega⟩)
 clear tb tl
 refine qK (c1) (qI 1 7) ?_
 refine qK (c2) (qI 1 7) ?_
 rcases hor with hE|⟨hE,h0⟩|⟨hE,h0,h1⟩
 all_goals
  rw [hE] at c3
  refine qK (c3) (qI 1 7) ?_
  exact qF (qI 0 1)
end
section
open Go
end
section
open Go
end
end Go.Proofs.YtdiiopjaebnmfaaGreat
