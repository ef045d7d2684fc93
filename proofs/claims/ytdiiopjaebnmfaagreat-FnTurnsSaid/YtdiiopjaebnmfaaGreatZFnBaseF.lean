/- Lemmas of this claim. -/
import Derived.Test.YtdiiopjaebnmfaaGreatZFnBaseE
set_option maxHeartbeats 16000000
set_option maxRecDepth 100000
set_option linter.unusedVariables false
set_option linter.unusedSimpArgs false
namespace Go.Proofs.YtdiiopjaebnmfaaGreat
open _root_.Go.Proofs.Tryz
open _root_.Bool renaming and_eq_true->KZ,or_eq_true->Lg
open _root_.Nat renaming zero_le->K0,le_refl->La
open _root_.List renaming take_succ_eq_append_getElem->K1,drop_eq_getElem_cons->K2,length_append->K3,take_of_length_le->K4,append_assoc->K5,length_filter_le->K6,append_nil->K7,drop_eq_nil_of_le->K8,length_take->K9,take_length->K_,getD_eq_getElem?_getD->Lb,getElem?_eq_getElem->Lc,length_singleton->Ld,flatMap_cons->Lf,map_append->Lh,length_map->Li,all_cons->Lj,map_set->Lk
section
open Go.RowKit
def pols:List PolicyD:=[⟨1,0⟩,⟨2,1⟩,⟨2,2⟩,⟨2,3⟩,⟨2,4⟩,⟨3,0⟩]
theorem jG (b:List UInt8) (c:CurD) (hc:c.ok b):∃ (p:PolicyD) (c':CurD),c'.ok b/\p∈pols/\aP 83 [.sc (.pt 1 0 0)] (c.hp b) (.ag p.cs) (c'.hp b):=by
 have h3:=ac b c hc 3
 have o3:=CurD.below_ok hc 3
 have b3:=c.below_lt b (n:=3) zO
 generalize c.below b 3=r3 at h3 o3 b3
 obtain⟨v,c1⟩:=r3
 dsimp only at h3 o3 b3
 have hv:v=0\/v=1\/v=2:=zO
 rcases hv with rfl|rfl|rfl
 ·refine⟨⟨1,0⟩,c1,o3,by decide,?_⟩
  refine qE func83 ntmps83 results83 fun E hE=>?_
  refine qK (h3) (qI 0 2) ?_
  exact qF (qI 0 2)
 ·have h4:=ac b c1 o3 4
  have o4:=CurD.below_ok o3 4
  have b4:=c1.below_lt b (n:=4) zO
  generalize c1.below b 4=r4 at h4 o4 b4
  obtain⟨u,c2⟩:=r4
  dsimp only at h4 o4 b4
  refine⟨⟨2,1+u⟩,c2,o4,?_,?_⟩
  ·have hu:u=0\/u=1\/u=2\/u=3:=zO
   rcases hu with rfl|rfl|rfl|rfl<;>decide
  refine qE func83 ntmps83 results83 fun E hE=>?_
  refine qK (h3) (qI 0 2) ?_
  refine qK (h4) (qI 0 2) ?_
  exact qF (qI 0 2)
 refine⟨⟨3,0⟩,c1,o3,by decide,?_⟩
 refine qE func83 ntmps83 results83 fun E hE=>?_
 refine qK (h3) (qI 0 2) ?_
 exact qF (qI 0 2)
theorem wT {n:Nat} {z:Int} (h:z=n) (hn:n < 256):dL (UInt8.ofNat n)=[.int .u8 z]:=by
 subst h
 simp [dL]
 omega
theorem Ca {z:Int} (h0:0<=z) (h:z < 256):dL (UInt8.ofNat z.toNat)=[.int .u8 z]:=by
 rw [wT (z:=z) (n:=z.toNat) zO zO]
def jg (b:List UInt8):Nat->CurD->List UInt8×CurD
 |0,c=>([],c)
 |n+1,c=>(UInt8.ofNat (c.bv b).toNat::(jg b n (c.bn b)).1,(jg b n (c.bn b)).2)
theorem iq (b:List UInt8):∀ (n:Nat) (c:CurD),(jg b n c).1.length=n
 |0,_=>rfl
 |n+1,c=>by simp [jg,iq b n]
theorem iP {b:List UInt8}:∀ {n:Nat} {c:CurD},c.ok b->(jg b n c).2.ok b
 |0,_,h=>h
 |n+1,c,h=>iP (n:=n) (CurD.bn_ok h)
theorem dS (b:List UInt8) (c:CurD) (hc:c.ok b) (n:Nat) (hn:n<=5000):aP 86 [.sc (.pt 1 0 0),.sc (.int .i64 (n:Int))] (c.hp b) (.sc (.st (jg b n c).1)) ((jg b n c).2.hp b):=by
 obtain⟨T,hT⟩:∃ T,T=jg b n c:=⟨_,rfl⟩
 rw [<-hT]
 refine qE func86 ntmps86 results86 fun E hE=>?_
 refine ki 2 hE (fun s (y:List UInt8×CurD)=>s.at (qU [7,14]) [(6,.sc (.int .i64 (y.1.length:Nat))),(5,.sc (.sl 2 0 y.1.length))] (y.2.hp b++[some ⟨y.1.map dL,1,5,true,true⟩])) (fun (y:List UInt8×CurD)=>y.1.length<=n/\y.2.ok b/\(y.1++(jg b (n - y.1.length) y.2).1,(jg b (n - y.1.length) y.2).2)=T) (fun (y:List UInt8×CurD)=>n - y.1.length) ([],c) (qI 0 3) (⟨K0 _,hc,hT.symm⟩) fun y hy N hN=>?_
 obtain⟨acc,c1⟩:=y
 obtain⟨h1,h2,h3⟩:=hy
 dsimp only at h1 h2 h3
 refine qR ?_
 refine qB (fun h=>?_) fun h=>?_
 ·have hb:=c1.bv_le b
  have hB:=dR b c1 h2
  have o2:=CurD.bn_ok h2
  rw [show n - acc.length=(n - (acc.length+1))+1 from by omega,jg] at h3
  have hbc:=Ca (z:=c1.bv b) hb.1 zO
  generalize c1.bv b=v at hb hB h3 hbc
  generalize c1.bn b=c2 at hB o2 h3
  refine qK (hB) (qI 0 2) ?_
  refine⟨qC,hN _ (acc++[UInt8.ofNat v.toNat],c2) (qI 0 2++qI 4 1) (by (try dsimp only);exact⟨by simp;omega,o2,by rw [K3,Ld,K5];exact h3⟩) zS (bM zF zF ?_)⟩
  try simp (disch:=omega) only [go_sem,seval,w8 hb]
  simp [hbc]
 rw [show n - acc.length=0 from by omega] at h3
 simp only [jg,K7] at h3
 subst h3
 exact qF (qI 0 2)
theorem Ee {l:List UInt8} {k:Nat} {x:UInt8} (h:k < l.length) (hl:l.take k=List.replicate k x):(l.set k x).take (k+1)=List.replicate (k+1) x:=by
 rw [K1 (by simpa using h),List.getElem_set_self,List.take_set,List.set_eq_of_length_le (by rw [K9];omega),hl,List.replicate_succ']
theorem Ef (l:List UInt8) (k:Nat) (x:UInt8):(l.map dL).set k [.int .u8 (x.toNat:Nat)]=(l.set k x).map dL:=by rw [Lk];rfl
theorem u7 (n:Nat) (x:UInt8) (hn:n<=5000):aP 77 [.sc (.int .i64 (n:Int)),.sc (.int .u8 (x.toNat:Nat))] [] (.sc (.st (List.replicate n x))) []:=by
 refine qE func77 ntmps77 results77 fun E hE=>?_
 refine iK 0 hE (fun s (y:Nat×List UInt8)=>s.at (qU [7,11]) [(6,.sc (.int .i64 (y.1:Nat)))] ([some ⟨y.2.map dL,1,5,true,true⟩])) (fun (y:Nat×List UInt8)=>y.1<=n/\y.2.length=n/\y.2.take y.1=List.replicate y.1 x) (fun (y:Nat×List UInt8)=>n - y.1) (0,List.replicate n 0) (qI 0 1) (qC) (⟨K0 _,zP,zP⟩) (bM zF zF ?_) fun y hy N hN=>?_
 ·try simp (disch:=omega) only [go_sem,seval]
  try simp [dL]
 obtain⟨k,l⟩:=y
 obtain⟨h1,h2,h3⟩:=hy
 dsimp only at h1 h2 h3
 refine qR ?_
 refine qB (fun h=>?_) fun h=>?_
 ·refine qX ?_
  refine⟨qC,hN _ (k+1,l.set k x) (qI 0 1) (by (try dsimp only);exact⟨zO,by rw [List.length_set];exact h2,Ee zO h3⟩) (by (try dsimp only);omega) (bM zF zF ?_)⟩
  try simp (disch:=omega) only [go_sem,seval,dL,Ef]
 have hk:k=n:=zO
 subst hk
 rw [K4 zO] at h3
 subst h3
 refine qX ?_
 refine qJ [] ?_
 simp [mM,dL]
def CurD.pickS (c:CurD) (b:List UInt8) (l:List (List UInt8)):List UInt8:=l.getD (c.below b l.length).1.toNat []
theorem CurD.pickS_mem (c:CurD) (b:List UInt8) {l:List (List UInt8)} (h:0 < l.length):c.pickS b l∈l:=by
 have hb:=c.below_lt b (n:=(l.length:Int)) zO
 rw [CurD.pickS,Lb,Lc zO]
 exact List.getElem_mem _
theorem u9 (b:List UInt8) (c:CurD) (hc:c.ok b) (l:List (List UInt8)) (h0:0 < l.length) (hl:l.length<=1000):aP 76 [.sc (.pt 1 0 0),.sc (.sl 2 0 l.length)] (c.hp b++[some ⟨l.map D9,1,9,false,true⟩]) (.sc (.st (c.pickS b l))) (((c.below b l.length).2.hp b)++[some ⟨l.map D9,1,9,false,true⟩]):=by
 have hb:=c.below_lt b (n:=(l.length:Int)) zO
 have hp:c.pickS b l=l.getD (c.below b l.length).1.toNat []:=rfl
 have hk:=ac b c hc l.length
 rw [hp]
 generalize c.below b l.length=r at*
 obtain⟨v,c1⟩:=r
 dsimp only at hb hk⊢
 obtain⟨k,rfl⟩:=Int.eq_ofNat_of_zero_le hb.1
 have hlt:k < l.length:=zO
 rw [Int.toNat_natCast,Lb,Lc hlt,Option.getD_some]
 refine qE func76 ntmps76 results76 fun E hE=>?_
 refine qK (hk) (qI 0 2) ?_
 try simp (disch:=omega) only [go_sem,seval,D_ hlt]
 exact qF (qI 0 3)
end
section
open Go.RowKit
def Iz (g:Nat) (tab:List (List UInt8)) (β:Be) (h:Hp) (w:World):Prop:=
 g < w.heap.size/\(∀ (j:Nat) (l:List UInt8),tab[j]? =some l->w.cell? ⟨g,j,none⟩=some (.string ⟨l.toArray⟩))/\¬ Own β h g
def GE (g:Nat) (tab:List (List UInt8)) (E:Entry):Prop:=Iz g tab E.β E.h E.w
section
variable {P:Program} {g:Nat} {tab:List (List UInt8)}
theorem Iz.step {β β':Be} {h h':Hp} {w w':World} (hg:Iz g tab β h w) (hl:β.length=h.length) (hs:StepR β β' h h' w w'):Iz g tab β' h' w':=by
 have e:=hs.block g hg.1 hg.2.2
 refine⟨Nat.lt_of_lt_of_le hg.1 hs.size,fun j l hj=>?_,fun ho=>?_⟩
 ·have:=hg.2.1 j l hj
  simp only [World.cell?] at this⊢
  rw [e]
  exact this
 rcases hs.own hl ho with h|h
 ·exact hg.2.2 h
 exact absurd hg.1 zO
def Hb (P:Program) (g:Nat) (tab:List (List UInt8)) (f:FuncId) (args:List AV) (h:Hp) (res:AV) (h':Hp):Prop:=
 pF P f/\∀ β w vs,Iz g tab β h w->HSim β h w->L2 (dZ β) args vs->Calls P f vs.toArray w fun e w'=>∃ β' v,e=.returned v/\dZ β' res v/\HSim β' h' w'/\StepR β β' h h' w w'
theorem Hb.e {E:Entry} (hG:GE g tab E) {f:FuncId} {args0 avs:List AV} {s h0':Hp} {res0:AV} (ct:Hb P g tab f args0 [] res0 h0') (hm:kT [] args0 avs):AY P E f avs s (gU [] s.length res0) (cQ [] [] h0' s):=by
 refine⟨ct.1,fun β w vs hl hst hs hvs=>?_⟩
 have hg:=Iz.step hG hl hst
 exact wB [] hm (show ii [] s [] [] from trivial) rfl (fun vs h1 h2=>ct.2 _ w vs ⟨hg.1,hg.2.1,fun⟨o,ob,p,h,_⟩=>by simp at h⟩ h1 h2) hs hvs
end
end
section
open Go.RowKit
def f_ (P:Program) (f:FuncId) (args:List AV) (h:Hp) {α:Type} (G:α->Prop) (res:α->AV) (h':α->Hp):Prop:=
 pF P f/\∀ β w vs,HSim β h w->L2 (dZ β) args vs->Calls P f vs.toArray w fun e w'=>∃ x,G x/\∃ β' v,e=.returned v/\dZ β' (res x) v/\HSim β' (h' x) w'/\StepR β β' h (h' x) w w'
theorem dJ.x {P:Program} {f:FuncId} {args:List AV} {h:Hp} {α:Type} {G:α->Prop} {res:α->AV} {h':α->Hp} (x:α) (hx:G x) (ct:dJ P f args h (res x) (h' x)):f_ P f args h G res h':=
 ⟨ct.1,fun β w vs h1 h2=>(ct.2 β w vs h1 h2).mono fun e w' hh=>⟨x,hx,hh⟩⟩
theorem Eg {P:Program} {E:Entry} {f:FuncId} {args0 avs:List AV} {h0 s:Hp} {α:Type} {G:α->Prop} {res:α->AV} {h':α->Hp} (ct:f_ P f args0 h0 G res h') (ρ:bu) (hargs:kT ρ args0 avs) (hm:ii ρ s ρ h0) (hsep:cG ρ h0=true):
  tp P E f avs s fun r hp=>∃ x,G x/\r=gU ρ s.length (res x)/\hp=cQ ρ h0 (h' x) s:=
 ⟨ct.1,fun β w vs _ _ hs hvs=>(ct.2 _ w vs (uN hs hm hsep) (yT hargs hvs)).mono fun e w' ⟨x,hx,h⟩=>
  ⟨_,_,⟨x,hx,rfl,rfl⟩,pN (P:=P) ρ hargs hm hsep hs hvs h⟩⟩
theorem zd {P:Program} {E:Entry} {f:FuncId} {args:List AV} {h:Hp} {R R':AV->Hp->Prop} (ct:tp P E f args h R) (hR:∀ r h',R r h'->R' r h'):tp P E f args h R':=
 ⟨ct.1,fun β w vs h1 h2 h3 h4=>(ct.2 β w vs h1 h2 h3 h4).mono fun e w' ⟨r,h',g,k⟩=>⟨r,h',hR r h' g,k⟩⟩
theorem aM {P:Program} {E:Entry} {F:S->Prop} {f:FuncId} {avs:List AV} {d:Option Tmp} {k:List dP} {s:S} {c:Prop} {args0:List AV} {h0:Hp} {α:Type} {G:α->Prop} {res:α->AV} {h':α->Hp} (hc:c) (ct:f_ P f args0 h0 G res h') (ρ:bu)
  (hm:kT ρ args0 avs/\ii ρ s.hp ρ h0) (hsep:cG ρ h0=true) (hk:∀ x,G x->eD P E F (.go k (s.put d (some (gU ρ s.hp.length (res x))) (cQ ρ h0 (h' x) s.hp)) True)):eD P E F (.call f avs d k s c):=
 ⟨hc,zd (Eg ct ρ hm.1 hm.2 hsep) fun r hp ⟨x,hx,hr,hh⟩=>by subst hr;subst hh;exact (hk x hx).2⟩
def HP (P:Program) (rs:List ResultVar) (n0:Nat) {α:Type} (G:α->Prop) (res:α->AV) (h':α->Hp) (s:S):Prop:=∃ x,G x/\B1 P rs n0 (res x) (h' x) s
theorem am {P:Program} {E:Entry} {rs:List ResultVar} {n0:Nat} {α:Type} {G:α->Prop} {res:α->AV} {h':α->Hp} {s:S} {c:Prop} (x:α) (hx:G x) (ρ:bu) (hc:c) (v:AV) (hr:lN P s rs=some v) (hid:A_ n0 0 ρ (h' x)=true) (hsep:cG ρ (h' x)=true) (hm:yA ρ (res x) v/\ii ρ s.hp ρ (h' x)):
  eD P E (HP P rs n0 G res h') (.fin s c):=⟨hc,x,hx,v,ρ,hr,hid,hsep,hm.1,hm.2⟩
theorem dB {P:Program} {f:FuncId} {fn:Func} {c:Code} (hf:P.funcs[f]? =some fn) (hname:(fn.name == "runtime.NumGoroutine")=false) (hb:fn.body=some c) {args:List AV} {h:Hp} {α:Type} {G:α->Prop} {res:α->AV} {h':α->Hp}
  (H:∀ E:Entry,E.h.length=h.length->eD P E (HP P fn.results.toList h.length G res h') (.go [.code c] ⟨jA fn.ntmps args,h⟩ True)):f_ P f args h G res h':=by
 refine⟨⟨fn,hf,hname,by rw [hb];rfl⟩,fun β w vs hs hvs=>?_⟩
 refine calls_of_wp hf hb ?_
 let E:Entry:=⟨β,h,w⟩
 have hd:=(H E rfl).2
 refine hd β _ w ⟨rfl,oX hvs,hs,hs.len,StepR.refl β h w hs.len⟩ _ fun e s' β' a' w' hK hs'=>?_
 have key:HP P fn.results.toList h.length G res h' s'->a'.defers=[]/\∃ v,(results fn a'.tmps).run P w'=.ok v w'/\∃ x,G x/\∃ β'' u,Ending.returned v=.returned u/\dZ β'' (res x) u/\HSim β'' (h' x) w'/\StepR β β'' h (h' x) w w':=by
  intro⟨x,hx,v,ρ,hr,hid,hsep,hav,hhp⟩
  obtain⟨u,hrun,hu⟩:=uT hs'.hp hs'.sl hr
  have hsim:=mZ (E:=E) rfl (t:=⟨[],h' x⟩) (s:=⟨[],s'.hp⟩) ⟨hid,hsep,trivial,hhp⟩ (β:=β') (a:=a') (w:=w') ⟨hs'.dfr,⟨fun i hi=>by simp [Slots.has] at hi,fun i x hx=>by simp [Slots.get] at hx⟩,hs'.hp,hs'.ent,hs'.st⟩
  exact⟨hs'.dfr,u,hrun,x,hx,dt β' ρ,u,rfl,tq hav hu,hsim.hp,hsim.st⟩
 cases e with
 |normal=>exact key hK
 |ret=>exact key hK
 |_=>exact hK.elim
theorem mc (e:EndD) (x:LetterD) (hs:Small e):aP 138 [.ag (e.cs 0),.ag x.cs] (e.hp false) (.tu [.ag ((aC e x).1.cs 7),.sc (.sl 14 0 (aC e x).2.length)])
  (e.hp false++((aC e x).1.hp true++[some ⟨(aC e x).2.map LetterD.cs,19,134,true,true⟩])):=by
 have hC:=(qH (ar e))
 have hK:=(qH (aH e))
 have hS:=dz e (roadOf x) (by have:=hs.subs;omega)
 have hL:=cD x
 have hbd:=gH e.subs (roadOf x)
 have hf:=HU (e:=e) (x:=x)
 have ht:=fun (n:Nat)=> @HV e x n
 generalize aC e x=R at*
 refine qE func138 ntmps138 results138 fun E hE=>?_
 refine qK (hC) (qI 0 7) ?_
 refine qD [0,1,2,3,4] ?_
 refine cj (bS x) [] ?_
 refine cj (hS) (qI 0 7) ?_
 refine qG ?_
 rcases hbd with hk|⟨hb0,hb1⟩
 ·rw [hf (Jz hk),hk]
  refine qD [0,1,2,3,4,5,6,7,8,9,10,11,12,13,14,15,16,17,18,19,20,21,22,23,24,25,26,27,28,29,30,31,32,33,34,35,36,37,38,39,40,41,42,43] ?_
  refine cj (hK) (qI 0 7) ?_
  refine qB (fun h1=>?_) fun h1=>?_
  ·refine cj (hL) [] ?_
   refine qB (fun h2=>?_) fun h2=>?_
   ·refine qB (fun h3=>?_) fun h3=>?_
    ·refine qG ?_
     exact qF (qI 0 7++qI 10 7++qI 18 1)
    refine qG ?_
    exact qF (qI 0 7++qI 10 7++qI 18 1)
   refine qG ?_
   exact qF (qI 0 7++qI 10 7++qI 18 1)
  refine qG ?_
  exact qF (qI 0 7++qI 10 7++qI 18 1)
 obtain⟨n,hk⟩:=Int.eq_ofNat_of_zero_le hb0
 have hn:n < e.subs.length:=zO
 have ha:=Hh hk hn
 have hcmp:=TagD.cmp x.tag ⟨1,e.peer,e.key,x.nonce,e.subs[n].mine⟩
 simp only [TagD.cs,go_sem] at hcmp
 rw [hk]
 refine qD [0,1,2,3,4,5,6,7,8,9,10,11,12,13,14,15,16,17,18,19,20,21,22,23,24,25,26,27,28,29,30,31,32,33,34,35,36,37,38,39,40,41,42,43] ?_
 refine cj (hK) (qI 0 7) ?_
 refine qB (fun h1=>?_) fun h1=>?_
 ·refine cj (hL) [] ?_
  refine qB (fun h2=>?_) fun h2=>?_
  ·refine qB (fun h3=>?_) fun h3=>?_
   ·refine qB (fun h4=>?_) fun h4=>?_
    ·refine cj (eT _ _ _ _) [] ?_
     refine⟨qC,af 400 ?_⟩
     try simp (disch:=omega) only [go_sem,seval,hcmp]
     refine qB (fun h5=>?_) fun h5=>?_
     ·rw [hf (by rw [ha];simp [h1,h2,h3,h4,h5])]
      refine qX ?_
      exact qF (qI 0 7++qI 10 7++qI 18 1)
     rw [ht _ (by rw [ha];simp [h1,h2,h3,h4,h5]) hk hn]
     refine qX ?_
     refine aX [(0,10),(8,0),(9,0)] [(qU [1,9,0,1,10,3]),(qU [1,8,0,1,9,4]),(qU [1,7,0,1,8,5]),(qU [1,10,0,1,11,2])] (by kernel_rfl) (qC) (by kernel_rfl) ?_
     simp only [aR]
     refine⟨aa 400 ?_,aa 400 ?_,aa 400 ?_,aa 400 ?_⟩
     all_goals simp (disch:=omega) only [go_sem,seval]
     all_goals
      refine cj (jJ { e with subs:=e.subs.set n (de e.subs[n] x) } (de e.subs[n] x)) (qI 10 7) ?_
      refine qG ?_
      refine qP (qI 0 7++qI 10 7++qI 20 1) ?_
      first|exact⟨⟩|simp [Lk,SubD.cs,de,bi,ae,LetterD.cs]
    rw [hf (by rw [ha];simp [h1,h2,h3,h4])]
    refine qG ?_
    exact qF (qI 0 7++qI 10 7++qI 18 1)
   rw [hf (by rw [ha];simp [h1,h2,h3])]
   refine qG ?_
   exact qF (qI 0 7++qI 10 7++qI 18 1)
  rw [hf (by rw [ha];simp [h1,h2])]
  refine qG ?_
  exact qF (qI 0 7++qI 10 7++qI 18 1)
 rw [hf (by rw [ha];simp [h1])]
 refine qG ?_
 exact qF (qI 0 7++qI 10 7++qI 18 1)
theorem lm {e:EndD} (hs:Small e):Small (ck e).1:=by
 rw [ck];split
 ·exact⟨hs.own,hs.far,hs.subs,hs.halfs,hs.list,hs.done,hs.over⟩
 exact hs
theorem rz (e:EndD):(ck e).2.length<=1:=by
 rw [ck];split<;>simp
theorem EL (e:EndD):(ck e).1.inp=e.inp:=by
 rw [ck];split<;>rfl
theorem nA (e:EndD):(ck e).1.out.text=e.out.text:=by
 rw [ck];split
 ·dsimp only;rw [dA];split<;>rfl
 rfl
theorem t5 (e:EndD) (hs:Small e) (ht:e.out.text.length<=1048576):aP 106 [.ag (e.cs 0)] (e.hp false) (.tu [.ag ((ck e).1.cs 7),.sc (.sl 14 0 (ck e).2.length)])
  (e.hp false++((ck e).1.hp true++[some ⟨(ck e).2.map LetterD.cs,19,134,true,true⟩])):=by
 have hC:=(qH (ar e))
 have hN:=gL e.out ht
 have hX:=(qH (vw e))
 have hf:=H_ (e:=e)
 have hpt:= @Ia e
 have hpk:ie e.out=true->eI e.out=(⟨e.out.sent,cx e.out⟩,true):=H8
 have hpf:ie e.out=false->eI e.out=(⟨0,[]⟩,false):=H9
 have hW:=fun h=>mr e.out ht h
 have hcase:=ic e
 have hpo:iW e=(ie e.out && decide (0<=bE e)):=rfl
 have hpick:0<=bE e->0<=e.pick/\e.pick<=1000000000:=fun h=>by
  rw [bE] at h
  split at h
  ·rename_i hh;exact lj hh.1
  omega
 generalize ck e=R at*
 generalize eI e.out=np at*
 obtain⟨⟨npos,ntext⟩,nok⟩:=np
 refine FE func106 ntmps106 results106 fun E hE=>?_
 refine qK (hC) (qI 0 7) ?_
 refine qK (hX) (qI 0 7) ?_
 refine qK (hN) [] ?_
 by_cases h1:ie e.out=true/\0<=bE e
 ·obtain⟨h1,h2⟩:=h1
  have hok:nok=true:=by have:=hpk h1;simp only [Prod.mk.injEq] at this;exact this.2
  have hps:npos=e.out.sent:=by have:=hpk h1;simp only [Prod.mk.injEq,PieceD.mk.injEq] at this;exact this.1.1
  have htx:ntext=cx e.out:=by have:=hpk h1;simp only [Prod.mk.injEq,PieceD.mk.injEq] at this;exact this.1.2
  subst hok hps htx
  have hW:=hW h1
  have hpick:=hpick zO
  obtain⟨n,hn,hk⟩:∃ m:Nat,m < e.subs.length/\bE e=(m:Int):=by rcases hcase with h|h;omega;exact h
  rw [hpt (by rw [hpo,h1,decide_eq_true zO];rfl) hk hn]
  have hg:=bW (enc:=SubD.cs) hn
  generalize bE e=z at*
  subst hk
  have hpk2:iV e.pick=if 1000000000 < e.pick+1 then 0 else e.pick+1:=by rw [iV];split<;>split<;>omega
  refine qX ?_
  refine KY 39 (hW) [] ?_
  refine B3 7 hE (fun s=>s.at (qU [8,1,10,31]) [] (s.hp.set 16 (some ⟨[[.int .i64 e.side,.int .i64 e.state,.int .i64 e.key,.int .i64 e.peer,.int .i64 e.policy.kind,.int .i64 e.policy.many,.sl 9 0 e.own.length,.sl 10 0 e.far.length,.sl 11 0 e.subs.length,.sl 12 0 e.halfs.length,.int .i64 e.bucket.rate,.int .i64 e.bucket.burst,.int .i64 e.bucket.cur,.st e.out.text,.int .i64 e.out.base,.int .i64 (e.out.sent+((cx e.out).length:Int)),.int .i64 e.out.room,.int .i64 e.inp.read,.st e.inp.ready,.sl 13 0 e.inp.list.length,.sl 14 0 e.done.length,.sl 15 0 e.over.length,.int .i64 e.draw,.int .i64 e.now,.int .i64 (iV e.pick)]],25,38,true,false⟩))) (qC) zF (fun N hN=>af 401 ?_) (qc 39 400 ?_)
  ·refine qX ?_
   refine qB (fun b9=>?_) fun b9=>?_
   ·rw [if_pos zO] at hpk2
    refine qX ?_
    refine⟨qC,hN _ (qI 0 19) (az zF zF ?_)⟩
    simp (disch:=omega) only [go_sem,seval]
    exact hpk2.symm
   rw [if_neg zO] at hpk2
   refine qX ?_
   refine⟨qC,hN _ (qI 0 19) (az zF zF ?_)⟩
   simp (disch:=omega) only [go_sem,seval]
   exact hpk2.symm
  try simp (disch:=omega) only [go_sem,seval,hg]
  refine gr [(0,13),(11,0),(12,0)] [(11,12),(11,13),(12,13)] [(qU [1,12,0,1,13,3]),(qU [1,11,0,1,12,4]),(qU [1,10,0,1,11,5]),(qU [1,13,0,1,14,2])] 7 hE (fun s=>s.at (qU [5,1,46,14]) [(3,.sc (.sl 20 0 1))] (((s.hp.set 8 (some ⟨[[.int .i64 e.side,.int .i64 e.state,.int .i64 e.key,.int .i64 e.peer,.int .i64 e.policy.kind,.int .i64 e.policy.many,.sl 9 0 e.own.length,.sl 10 0 e.far.length,.sl 11 0 e.subs.length,.sl 12 0 e.halfs.length,.int .i64 e.bucket.rate,.int .i64 e.bucket.burst,.int .i64 e.bucket.cur,.st e.out.text,.int .i64 e.out.base,.int .i64 (e.out.sent+((cx e.out).length:Int)),.int .i64 e.out.room,.int .i64 e.inp.read,.st e.inp.ready,.sl 13 0 e.inp.list.length,.sl 14 0 e.done.length,.sl 15 0 e.over.length,.int .i64 e.draw,.int .i64 e.now,.int .i64 (iV e.pick)]],25,38,true,false⟩)).set 17 none)++[some ⟨[(tW e.subs[n] e.out).cs],19,134,true,true⟩])) (by kernel_rfl) (qC) (by kernel_rfl) ?_ (af 400 ?_)
  rotate_left
  rotate_right
  simp only [aR]
  refine⟨aa 400 ?_,aa 400 ?_,aa 400 ?_,aa 400 ?_⟩
  ·simp (disch:=omega) only [go_sem]
   refine cj (aI e.subs[n].road { aj with kind:=11,sgn:=e.subs[n].give,pos:=e.out.sent,text:=cx e.out }) [] ?_
   refine⟨qC,(qI 0 20++qI 21 1),az zF zF ?_⟩
   try simp (disch:=omega) only [go_sem,seval]
   try rfl
  ·simp (disch:=omega) only [go_sem]
   refine cj (aI e.subs[n].road { aj with kind:=11,sgn:=e.subs[n].give,pos:=e.out.sent,text:=cx e.out }) [] ?_
   refine⟨qC,(qI 0 20++qI 21 1),az zF zF ?_⟩
   try simp (disch:=omega) only [go_sem,seval]
   try rfl
  ·simp (disch:=omega) only [go_sem]
   refine cj (aI e.subs[n].road { aj with kind:=11,sgn:=e.subs[n].give,pos:=e.out.sent,text:=cx e.out }) [] ?_
   refine⟨qC,(qI 0 20++qI 21 1),az zF zF ?_⟩
   try simp (disch:=omega) only [go_sem,seval]
   try rfl
  ·simp (disch:=omega) only [go_sem]
   refine cj (aI e.subs[n].road { aj with kind:=11,sgn:=e.subs[n].give,pos:=e.out.sent,text:=cx e.out }) [] ?_
   refine⟨qC,(qI 0 20++qI 21 1),az zF zF ?_⟩
   try simp (disch:=omega) only [go_sem,seval]
   try rfl
  refine qX ?_
  exact iO (qI 0 7++qI 9 7++qI 20 1)
 have hpn:iW e=false:=by
  rw [hpo]
  by_cases h3:ie e.out=true
  ·rw [h3,decide_eq_false (fun h=>h1 ⟨h3,h⟩)];rfl
  rw [Bool.not_eq_true] at h3;rw [h3];rfl
 rw [hf hpn]
 have hno:nok=false\/bE e= -1:=by
  by_cases h3:ie e.out=true
  ·right;rcases hcase with h|⟨m,_,h⟩
   ·exact h
   exact absurd ⟨h3,zO⟩ h1
  left;have:=hpf (by simpa using h3);simp only [Prod.mk.injEq] at this;exact this.2
 rcases hno with hno|hno
 ·subst hno
  refine qX ?_
  rcases hcase with h|⟨m,_,h⟩
  ·try simp (disch:=omega) only [go_sem,seval,h]
   exact iO (qI 0 7++qI 9 7++qI 17 1)
  try simp (disch:=omega) only [go_sem,seval,h]
  exact iO (qI 0 7++qI 9 7++qI 17 1)
 rw [hno] at*
 refine qX ?_
 exact iO (qI 0 7++qI 9 7++qI 17 1)
theorem rA {n:Nat} {e:EndD} (h:n < 3):bC (3 - n) e=((bC (3 - (n+1)) (ck e).1).1,(ck e).2++(bC (3 - (n+1)) (ck e).1).2):=by
 rw [show 3 - n=(3 - (n+1))+1 by omega];rfl
theorem g0:∀ {k:Nat} {e:EndD},Small e->Small (bC k e).1
 |0,_,h=>h
 |k+1,e,h=>g0 (k:=k) (lm h)
theorem kq:∀ {k:Nat} {e:EndD},(bC k e).1.inp=e.inp
 |0,_=>rfl
 |k+1,e=>by rw [show (bC (k+1) e).1=(bC k (ck e).1).1 from rfl,kq,EL]
theorem iY:∀ {k:Nat} {e:EndD},(bC k e).1.out.text=e.out.text
 |0,_=>rfl
 |k+1,e=>by rw [show (bC (k+1) e).1=(bC k (ck e).1).1 from rfl,iY,nA]
theorem gu:∀ {k:Nat} {e:EndD},(bC k e).2.length<=k
 |0,_=>La _
 |k+1,e=>by
  have h1:=rz e
  have h2:=gu (k:=k) (e:=(ck e).1)
  rw [show (bC (k+1) e).2=(ck e).2++(bC k (ck e).1).2 from rfl,K3]
  omega
theorem fM (e:EndD) (t:List UInt8) (hs:Small e) (ht:t.length<=1048576) (ho:(cf e t).1.out.text.length<=1048576):aP 85 [.ag (e.cs 0),.sc (.st t)] (e.hp false) (.tu [.ag ((writeAll e t).1.cs 7),.sc (.sl 14 0 (writeAll e t).2.length)])
  (e.hp false++((writeAll e t).1.hp true++[some ⟨(writeAll e t).2.map LetterD.cs,19,134,true,true⟩])):=by
 have hW:=zJ e t hs ht
 have hsw:Small (cf e t).1:=by
  rw [cf];split
  ·exact⟨hs.own,hs.far,hs.subs,hs.halfs,hs.list,hs.done,hs.over⟩
  exact hs
 obtain⟨R,hR⟩:∃ R,R=writeAll e t:=⟨_,rfl⟩
 rw [<-hR]
 rw [writeAll] at hR
 generalize cf e t=w1 at*
 obtain⟨e0,n1⟩:=w1
 dsimp only at hsw ho hW hR
 refine FE func85 ntmps85 results85 fun E hE=>?_
 refine qK (hW) (qI 0 7) ?_
 refine uW 7 hE (fun s (y:Nat×EndD×List LetterD)=>s.at (qU [0,3,7,1,10,21]) [(9,.sc (.int .i64 (y.1:Nat))),(8,.sc (.sl 17 0 y.2.2.length))] ((s.hp.take 9)++(y.2.1.hp true++[some ⟨[y.2.1.cs 9],25,38,true,false⟩,some ⟨y.2.2.map LetterD.cs,19,134,true,true⟩]))) (fun (y:Nat×EndD×List LetterD)=>y.1<=3/\Small y.2.1/\y.2.1.out.text.length<=1048576/\y.2.2.length<=y.1/\R=((bC (3 - y.1) y.2.1).1,y.2.2++(bC (3 - y.1) y.2.1).2)) (fun (y:Nat×EndD×List LetterD)=>3 - y.1) (0,e0,[]) (qI 0 18) (⟨zO,hsw,ho,La _,hR⟩) fun y hy N hN=>?_
 obtain⟨n,e1,l⟩:=y
 obtain⟨h1,h2,h3,h4,h5⟩:=hy
 dsimp only at h1 h2 h3 h4 h5
 have hP:=t5 e1 h2 h3
 have hp1:=rz e1
 have hps:=lm h2
 have hpt:(ck e1).1.out.text.length<=1048576:=by rw [nA];exact h3
 refine qR ?_
 refine qB (fun b=>?_) fun b=>?_
 ·rw [rA zO] at h5
  obtain⟨pr,hpr⟩:∃ p,p=ck e1:=⟨_,rfl⟩
  rw [<-hpr] at hP hp1 hps hpt h5
  obtain⟨e2,l2⟩:=pr
  dsimp only at hP hp1 hps hpt h5
  rw [<-K5] at h5
  refine qX ?_
  refine qK (hP) (qI 9 7) ?_
  refine DY hN (n+1,e2,l++l2) (qI 0 9++qI 19 7++qI 16 1++qI 27 1) (by (try dsimp only);exact⟨zO,hps,hpt,by simp only [K3];omega,h5⟩) ?_
  first|exact⟨⟩|simp
 have e3:n=3:=zO
 subst e3
 simp only [Nat.sub_self,bC,K7] at h5
 subst h5
 refine qX ?_
 exact iO (qI 0 7++qI 9 7++qI 17 1)
theorem nB {α:Type} {l:List α} {p:α->Bool} {k:Nat} (h:k < l.length):(l.drop k).filter p=if p l[k] then l[k]::(l.drop (k+1)).filter p else (l.drop (k+1)).filter p:=by
 rw [K2 h,List.filter_cons]
theorem rB {α:Type} {l:List α} {p:α->Bool} {k:Nat} (h:l.length<=k):(l.drop k).filter p=[]:=by
 rw [K8 h];rfl
theorem sU {b:BucketD} (h:bucketOk b=true):0<=b.rate/\b.rate<=100/\1<=b.burst/\b.burst<=100/\0<=b.cur/\b.cur<=b.burst:=by
 simp only [bucketOk,co,KZ,decide_eq_true_eq] at h
 omega
theorem EM {b:BucketD} (h:bucketOk b=true):cJ b={ b with cur:=min b.burst (b.cur+b.rate) }:=if_pos h
theorem EN {b:BucketD} (h:bucketOk b=false):cJ b=b:=if_neg (by simp [h])
theorem xw (b:BucketD):aP 108 [.ag b.cs,.sc (.int .i64 1)] [] (.ag (cJ b).cs) []:=by
 have hK:=fH b
 have hN:=au 1 0 1000000000
 have hf:=EN (b:=b)
 have ht:=EM (b:=b)
 generalize cJ b=R at*
 refine qE func108 ntmps108 results108 fun E hE=>?_
 refine qK (hK) [] ?_
 refine qB (fun b1=>?_) fun b1=>?_
 ·have F:=sU b1
  rw [show co 1 0 1000000000=true from rfl] at hN
  refine qK (hN) [] ?_
  rw [ht b1]
  have hB:aP 130 [.sc (.int .i64 (b.cur+b.rate)),.sc (.int .i64 0),.sc (.int .i64 b.burst)] [] (.sc (.int .i64 (min b.burst (b.cur+b.rate)))) []:=by
   refine qE func130 ntmps130 results130 fun E hE=>?_
   refine qB (fun c1=>?_) fun c1=>?_
   ·rw [show min b.burst (b.cur+b.rate)=b.burst by omega]
    refine qX ?_
    exact qF []
   rw [show min b.burst (b.cur+b.rate)=b.cur+b.rate by omega]
   refine qX ?_
   exact qF []
  try simp (disch:=omega) only [go_sem,seval,Int.mul_one]
  refine qK (hB) [] ?_
  exact qF []
 rw [hf b1]
 refine qX ?_
 exact qF []
theorem vA (l:List HalfD) (now:Int) (hl:l.length<=1048576):aP 109 [.sc (.sl 0 0 l.length),.sc (.int .i64 now)] [some ⟨l.map HalfD.cs,8,87,false,true⟩] (.sc (.sl 1 0 (cc l now).length)) [some ⟨l.map HalfD.cs,8,87,false,true⟩,some ⟨(cc l now).map HalfD.cs,8,87,true,true⟩]:=by
 obtain⟨R,hR⟩:∃ R,R=cc l now:=⟨_,rfl⟩
 rw [<-hR]
 rw [cc] at hR
 refine qE func109 ntmps109 results109 fun E hE=>?_
 refine ki 1 hE (fun s (x:Nat×List HalfD)=>s.at (qU [7,21]) [(6,.sc (.int .i64 (x.1:Nat))),(5,.sc (.sl 1 0 x.2.length))] ((s.hp.take 1)++[some ⟨x.2.map HalfD.cs,8,87,true,true⟩])) (fun (x:Nat×List HalfD)=>x.1<=l.length/\x.2.length<=x.1/\R=x.2++(l.drop x.1).filter (fun h=>decide (now < h.till))) (fun (x:Nat×List HalfD)=>l.length - x.1) (0,[]) (qI 0 2) (⟨K0 _,K0 _,hR⟩) fun x hx N hN=>?_
 obtain⟨k,acc⟩:=x
 obtain⟨h1,h2,h3⟩:=hx
 dsimp only at h1 h2 h3
 refine qR ?_
 refine qB (fun h=>?_) fun h=>?_
 ·rw [nB h] at h3
  have hg:=bW (enc:=HalfD.cs) h
  try simp (disch:=omega) only [go_sem,seval,hg]
  refine qB (fun b2=>?_) fun b2=>?_
  ·rw [if_pos (by simpa using b2)] at h3
   try simp (disch:=omega) only [go_sem,seval,hg]
   refine⟨qC,hN _ (k+1,acc++[l[k]]) (qI 0 1++qI 3 1) (by (try dsimp only);exact⟨zO,by simp;omega,by simpa using h3⟩) (by (try dsimp only);omega) (bM zF zF ?_)⟩
   refine qX ?_
   simp [HalfD.cs]
  rw [if_neg (by simpa using b2)] at h3
  exact qN hN (k+1,acc) (qI 0 2) (by (try dsimp only);exact⟨zO,zO,h3⟩)
 rw [rB zO,K7] at h3
 subst h3
 exact qF (qI 0 2)
theorem ms (e:EndD) (s:SubD) (h:co e.side 1 2=true):aP 110 [.ag (e.cs 0),.ag s.cs] (e.hp false) (.ag (dX e s).cs) (e.hp false):=by
 have hT:=kL (3 - e.side)
 have hB:aP 125 [.ag s.road.cs,.ag (LetterD.cs { aj with kind:=4,token:=eQ (3 - e.side),nonce:=s.mine,give:=s.take,spare:=s.spare })] [] (.ag (dX e s).cs) []:=aI s.road { aj with kind:=4,token:=eQ (3 - e.side),nonce:=s.mine,give:=s.take,spare:=s.spare }
 simp only [co,KZ,decide_eq_true_eq] at h
 refine qE func110 ntmps110 results110 fun E hE=>?_
 refine qD [0,1,2,3,4,6,7,8,9,10,11,5,12,13,14] ?_
 refine cj (hT) [] ?_
 refine cj (hB) [] ?_
 refine qG ?_
 refine qP (qI 0 7) ?_
 first|exact⟨⟩|rfl
theorem xy (e:EndD) (hl:e.subs.length<=1048576):aP 115 [.ag (e.cs 0)] (e.hp false) (.sc (.sl 7 0 (e7 e.subs).length)) (e.hp false++[some ⟨(e7 e.subs).map RoadD.cs,3,45,true,true⟩]):=by
 obtain⟨R,hR⟩:∃ R,R=e7 e.subs:=⟨_,rfl⟩
 rw [<-hR]
 rw [e7] at hR
 refine qE func115 ntmps115 results115 fun E hE=>?_
 refine ki 7 hE (fun s (x:Nat×List RoadD)=>s.at (qU [0,1,5,24]) [(4,.sc (.int .i64 (x.1:Nat))),(3,.sc (.sl 8 0 x.2.length))] ((s.hp.take 8)++[some ⟨x.2.map RoadD.cs,3,45,true,true⟩])) (fun (x:Nat×List RoadD)=>x.1<=e.subs.length/\x.2.length<=x.1/\R=x.2++((e.subs.drop x.1).filter (fun s=>s.state != 4)).map SubD.road) (fun (x:Nat×List RoadD)=>e.subs.length - x.1) (0,[]) (qI 0 9) (⟨K0 _,K0 _,hR⟩) fun x hx N hN=>?_
 obtain⟨k,acc⟩:=x
 obtain⟨h1,h2,h3⟩:=hx
 dsimp only at h1 h2 h3
 refine qR ?_
 refine qB (fun h=>?_) fun h=>?_
 ·rw [nB h] at h3
  have hg:=bW (enc:=SubD.cs) h
  try simp (disch:=omega) only [go_sem,seval,hg]
  refine qB (fun b2=>?_) fun b2=>?_
  ·rw [if_pos (by simpa using b2),List.map_cons] at h3
   try simp (disch:=omega) only [go_sem,seval,hg]
   refine⟨qC,hN _ (k+1,acc++[e.subs[k].road]) (qI 0 8++qI 10 1) (by (try dsimp only);exact⟨zO,by simp;omega,by simpa using h3⟩) (by (try dsimp only);omega) (bM zF zF ?_)⟩
   refine qX ?_
   simp [RoadD.cs]
  rw [if_neg (by simpa using b2)] at h3
  exact qN hN (k+1,acc) (qI 0 9) (by (try dsimp only);exact⟨zO,zO,h3⟩)
 rw [rB zO,List.map_nil,K7] at h3
 subst h3
 exact qF (qI 0 7++qI 8 1)
def rC (l:List AddrD) (n:Int):Nat->Int
 |0=> -1
 |k+1=>if (jK l k).addr=n then (k:Int) else rC l n k
theorem xz {l:List AddrD} {n:Int} {k:Nat} (h:k < l.length):eC (l.take (k+1)) n=(eC (l.take k) n || l[k].addr == n):=by
 rw [eC,K1 h,List.any_append];simp [eC]
theorem mt {l:List AddrD} {n:Int} {k:Nat} (h:k < l.length):aD (l.take (k+1)) n=if l[k].addr=n then l[k].spare else aD (l.take k) n:=by
 rw [aD,K1 h,List.foldl_append];rfl
theorem mu {l:List AddrD} {n:Int}:∀ (k:Nat),k<=l.length->(rC l n k= -1/\eC (l.take k) n=false/\aD (l.take k) n=false)\/∃ j:Nat,∃ hj:j < l.length,j < k/\rC l n k=(j:Int)/\eC (l.take k) n=true/\aD (l.take k) n=l[j].spare
 |0,_=>.inl ⟨rfl,by simp [eC],by simp [aD]⟩
 |k+1,h=>by
  have hk:k < l.length:=zO
  rw [xz hk,mt hk,rC,eX hk]
  by_cases he:l[k].addr=n
  ·right
   exact⟨k,hk,Nat.lt_succ_self k,by rw [if_pos he],by rw [Lg];exact .inr (by simpa using he),by rw [if_pos he]⟩
  rw [if_neg he,if_neg he]
  have hb:(l[k].addr == n)=false:=by simpa using he
  rw [hb,Bool.or_false]
  rcases mu (l:=l) (n:=n) k zO with h1|⟨j,hj,h2,h3⟩
  ·exact .inl h1
  exact .inr ⟨j,hj,Nat.lt_succ_of_lt h2,h3⟩
def Hk (l:List AddrD) (n:Int):Int:=rC l n l.length
theorem xA (l:List AddrD) (n:Int):(Hk l n= -1/\eC l n=false/\aD l n=false)\/∃ j:Nat,∃ hj:j < l.length,Hk l n=(j:Int)/\eC l n=true/\aD l n=l[j].spare:=by
 have:=mu (l:=l) (n:=n) l.length (La _)
 rw [K_] at this
 rcases this with h|⟨j,hj,_,h⟩
 ·exact .inl h
 exact .inr ⟨j,hj,h⟩
theorem xB (e:EndD) (n:Int) (hl:e.far.length<=1048576):aP 136 [.ag (e.cs 0),.sc (.int .i64 n)] (e.hp false) (.sc (.bo (eC e.far n))) (e.hp false):=by
 obtain⟨R,hR⟩:∃ R,R=eC e.far n:=⟨_,rfl⟩
 rw [<-hR]
 rw [eC] at hR
 refine qE func136 ntmps136 results136 fun E hE=>?_
 refine ki 7 hE (fun s (k:Nat)=>s.at (qU [0,1,4,1,6,15]) [(5,.sc (.int .i64 (k:Nat)))] (s.hp)) (fun (k:Nat)=>k<=e.far.length/\R=(e.far.drop k).any (fun a=>a.addr == n)) (fun (k:Nat)=>e.far.length - k) 0 (qI 0 8) (⟨K0 _,hR⟩) fun k hk N hN=>?_
 obtain⟨h1,h2⟩:=hk
 refine qR ?_
 refine qB (fun h=>?_) fun h=>?_
 ·rw [lW h] at h2
  have hg:=bW (enc:=AddrD.cs) h
  try simp (disch:=omega) only [go_sem,seval,hg]
  refine qB (fun b=>?_) fun b=>?_
  ·rw [show (e.far[k].addr == n)=true by simpa using b,Bool.true_or] at h2
   subst h2
   refine qX ?_
   exact qF (qI 0 7)
  rw [show (e.far[k].addr == n)=false by simpa using b,Bool.false_or] at h2
  exact qN hN (k+1) (qI 0 8) (by (try dsimp only);exact⟨zO,h2⟩)
 rw [pc zO] at h2
 subst h2
 refine qX ?_
 exact qF (qI 0 7)
theorem KJ {e:EndD} {r:RoadD} {b:Bool} (h:sT e r=false):cA e r b=(e,[]):=if_neg (by simp [h])
theorem KL {e:EndD} {r:RoadD} {b:Bool} (h:sT e r=true):cA e r b=({ e with subs:=e.subs++[bz e r b],draw:=e.draw+4 },[dX e (bz e r b)]):=if_pos h
theorem rD {e:EndD} (h:ah e=true):co e.side 1 2=true:=by
 simp only [ah,KZ] at h
 simp_all
theorem Cu (e:EndD) (r:RoadD) (sp:Bool) (hs:Small e):aP 116 [.ag (e.cs 0),.ag r.cs,.sc (.bo sp)] (e.hp false) (.tu [.ag ((cA e r sp).1.cs 7),.sc (.sl 14 0 (cA e r sp).2.length)])
  (e.hp false++((cA e r sp).1.hp true++[some ⟨(cA e r sp).2.map LetterD.cs,19,134,true,true⟩])):=by
 have hC:=(qH (ar e))
 have hK:=(qH (aH e))
 have hO:=fG e r.own (by have:=hs.own;omega)
 have hS:=dz e r (by have:=hs.subs;omega)
 have hsub:=hs.subs
 have hF:=xB e r.far (by have:=hs.far;omega)
 have hcase:=xA e.far r.far
 have hf:=KJ (e:=e) (r:=r) (b:=sp)
 have ht:=KL (e:=e) (r:=r) (b:=sp)
 have hk:=sT.eq_1 e r
 generalize cA e r sp=R at*
 refine FE func116 ntmps116 results116 fun E hE=>?_
 refine qK (hC) (qI 0 7) ?_
 refine qK (hK) (qI 0 7) ?_
 refine qB (fun h1=>?_) fun h1=>?_
 ·refine qB (fun h2=>?_) fun h2=>?_
  ·refine qK (gj r) [] ?_
   refine qB (fun h3=>?_) fun h3=>?_
   ·refine qK (hS) (qI 0 7) ?_
    refine qB (fun h4=>?_) fun h4=>?_
    ·refine qK (hO) (qI 0 7) ?_
     refine qB (fun h5=>?_) fun h5=>?_
     ·refine qK (hF) (qI 0 7) ?_
      refine qB (fun h6=>?_) fun h6=>?_
      ·refine qB (fun h7=>?_) fun h7=>?_
       ·refine qK (ec e) (qI 0 7) ?_
        refine qB (fun h8=>?_) fun h8=>?_
        ·rw [hf (by rw [hk];simp [h8])]
         refine qX ?_
         exact iO (qI 0 7++qI 10 7++qI 18 1)
        rw [ht (by rw [hk];have:=cH h1;simp [h1,h2,h3,h5,h6,h8];omega)]
        have h8':=h8
        simp only [co,KZ,decide_eq_true_eq] at h8'
        have hd1:co e.draw 1 999999998=true:=by simp only [co,KZ,decide_eq_true_eq];omega
        have hd2:co (e.draw+2) 1 999999998=true:=by simp only [co,KZ,decide_eq_true_eq];omega
        have hJ:aP 110 [.ag (EndD.cs { e with draw:=e.draw+2+2,subs:=e.subs++[bz e r sp] } 0),.ag (bz e r sp).cs] (EndD.hp { e with draw:=e.draw+2+2,subs:=e.subs++[bz e r sp] } false) (.ag (dX e (bz e r sp)).cs) (EndD.hp { e with draw:=e.draw+2+2,subs:=e.subs++[bz e r sp] } false):=ms _ _ (show co e.side 1 2=true from rD h1)
        refine qX ?_
        refine qK (bO e hs hd1) (qI 10 7) ?_
        refine qK (bO { e with draw:=e.draw+2 } ⟨hs.own,hs.far,hs.subs,hs.halfs,hs.list,hs.done,hs.over⟩ hd2) (qI 19 7) ?_
        refine qK (fS { e with draw:=e.draw+2+2 } (bz e r sp) (by have:=cH h1;dsimp only;omega)) (qI 26 7) ?_
        refine gr [(0,6),(4,0),(5,0)] [(4,5),(4,6),(5,6)] [[1,2,3,4,5,0,6,7,8],[1,2,3,4,0,5,6,7,8],[1,2,3,0,4,5,6,7,8],[1,2,3,4,5,6,0,7,8]] 7 hE (fun s=>s.at (qU [9,1,62,25]) [(7,.sc (.sl 35 0 1))] (((s.hp.set 9 (some ⟨[[.int .i64 e.side,.int .i64 e.state,.int .i64 e.key,.int .i64 e.peer,.int .i64 e.policy.kind,.int .i64 e.policy.many,.sl 26 0 e.own.length,.sl 27 0 e.far.length,.sl 34 0 (e.subs.length+1),.sl 29 0 e.halfs.length,.int .i64 e.bucket.rate,.int .i64 e.bucket.burst,.int .i64 e.bucket.cur,.st e.out.text,.int .i64 e.out.base,.int .i64 e.out.sent,.int .i64 e.out.room,.int .i64 e.inp.read,.st e.inp.ready,.sl 30 0 e.inp.list.length,.sl 31 0 e.done.length,.sl 32 0 e.over.length,.int .i64 (e.draw+2+2),.int .i64 e.now,.int .i64 e.pick]],25,38,true,false⟩)).set 18 none)++[some ⟨[(dX e (bz e r sp)).cs],19,134,true,true⟩])) (by kernel_rfl) (qC) (by kernel_rfl) ?_ (af 400 ?_)
        rotate_left
        rotate_right
        simp only [aR]
        refine⟨aa 400 ?_,aa 400 ?_,aa 400 ?_,aa 400 ?_⟩
        ·simp (disch:=omega) only [go_sem]
         refine cj (hJ) (qI 26 2++qI 34 1++qI 29 4) ?_
         refine⟨qC,(qI 0 35++qI 36 1),az zF zF ?_⟩
         try simp (disch:=omega) only [go_sem,seval]
         try rfl
        ·simp (disch:=omega) only [go_sem]
         refine cj (hJ) (qI 26 2++qI 34 1++qI 29 4) ?_
         refine⟨qC,(qI 0 35++qI 36 1),az zF zF ?_⟩
         try simp (disch:=omega) only [go_sem,seval]
         try rfl
        ·simp (disch:=omega) only [go_sem]
         refine cj (hJ) (qI 26 2++qI 34 1++qI 29 4) ?_
         refine⟨qC,(qI 0 35++qI 36 1),az zF zF ?_⟩
         try simp (disch:=omega) only [go_sem,seval]
         try rfl
        ·simp (disch:=omega) only [go_sem]
         refine cj (hJ) (qI 26 2++qI 34 1++qI 29 4) ?_
         refine⟨qC,(qI 0 35++qI 36 1),az zF zF ?_⟩
         try simp (disch:=omega) only [go_sem,seval]
         try rfl
        refine qX ?_
        refine wL (qI 0 7++qI 26 2++qI 34 1++qI 29 4++qI 35 1) (qC) _ (by simp only [go_sem];rfl) zF zF ?_
        simp (disch:=omega) only [go_sem,seval]
        try simp [SubD.cs,bz]
        try omega
       rw [hf (by rw [hk];first|(simp [h7];done)|(simp [h7];intros;omega))]
       refine qX ?_
       exact iO (qI 0 7++qI 10 7++qI 18 1)
      rw [hf (by rw [hk];simp [h6])]
      refine qX ?_
      exact iO (qI 0 7++qI 10 7++qI 18 1)
     rw [hf (by rw [hk];first|(simp [h5];done)|(simp [h5];intros;omega))]
     refine qX ?_
     exact iO (qI 0 7++qI 10 7++qI 18 1)
    rw [hf (by rw [hk];first|(simp [h4];done)|(simp [h4];intros;omega))]
    refine qX ?_
    exact iO (qI 0 7++qI 10 7++qI 18 1)
   rw [hf (by rw [hk];first|(simp [h3];done)|(simp [h3];intros;omega))]
   refine qX ?_
   exact iO (qI 0 7++qI 10 7++qI 18 1)
  rw [hf (by rw [hk];first|(simp [h2];done)|(simp [h2];intros;omega))]
  refine qX ?_
  exact iO (qI 0 7++qI 10 7++qI 18 1)
 rw [hf (by rw [hk];first|(simp [h1];done)|(simp [h1];intros;omega))]
 refine qX ?_
 exact iO (qI 0 7++qI 10 7++qI 18 1)
def Kc (a b:AddrD):RoadD:=⟨a.addr,b.addr,0⟩
theorem xC {far l:List AddrD} {acc:List RoadD} {k:Nat} (h:k < l.length):fr far acc (l.drop k)=fr far ((acc++far.map (Kc l[k])).take 8) (l.drop (k+1)):=by
 rw [K2 h,fr]
 rfl
theorem EO {acc:List RoadD} {far:List AddrD} {f:AddrD->RoadD} {j:Nat} {r:List RoadD} (h:j < far.length) (hr:r=(acc++(far.take j).map f).take 8) (hl:r.length < 8):r++[f far[j]]=(acc++(far.take (j+1)).map f).take 8:=by
 have h1:(acc++(far.take j).map f).length < 8:=by
  rw [hr,K9] at hl
  omega
 rw [K4 zO] at hr
 rw [K1 h,Lh,<-K5,<-hr,List.map_singleton,K4]
 rw [<-hr] at h1
 simp
 omega
theorem EP {acc:List RoadD} {far:List AddrD} {f:AddrD->RoadD} {j i:Nat} {r:List RoadD} (hji:j<=i) (hi:i<=far.length) (hr:r=(acc++(far.take j).map f).take 8) (hl:¬ r.length < 8):r=(acc++(far.take i).map f).take 8:=by
 have h1:8<=(acc++(far.take j).map f).length:=by
  rw [hr,K9] at hl
  omega
 have e:far.take i=far.take j++(far.take i).drop j:=by
  conv=>lhs;rw [<-List.take_append_drop j (far.take i)]
  rw [List.take_take,Nat.min_eq_left hji]
 rw [e,Lh,<-K5,List.take_append_of_le_length h1,hr]
theorem rE (o f:Int) (n:Nat):lY o f (n+1)=lY o f n++[⟨o,f,(n:Int)⟩]:=by
 simp [lY,List.range_succ]
theorem iz (o f:Int) (n:Nat):(lY o f n).length=n:=by simp [lY]
theorem rF {far:List AddrD}:∀ {l:List AddrD} {acc:List RoadD},acc.length<=8->(fr far acc l).length<=8
 |[],acc,h=>h
 |a::r,acc,h=>by
  rw [fr]
  exact rF (by rw [K9];omega)
theorem xD {l:List AddrD} (h:0 < l.length):tH l=l[0].addr:=by
 cases l with
 |nil=>simp at h
 |cons a r=>rfl
theorem zK (p:PolicyD) (own far:List AddrD):(wanted p own far).length<=8:=by
 rw [wanted]
 split
 ·rename_i h
  split
  ·exact rF (K0 _)
  rw [iz]
  split
  ·rename_i h2
   have h1:=h.1
   rw [polOk,if_pos h2] at h1
   simp only [co,KZ,decide_eq_true_eq] at h1
   omega
  omega
 simp
theorem sV (p:PolicyD) (own far:List AddrD) (hp:p.wf) (h1:own.length<=1048576) (h2:far.length<=1048576):aP 114 [.ag p.cs,.sc (.sl 0 0 own.length),.sc (.sl 1 0 far.length)] [some ⟨own.map AddrD.cs,4,60,false,true⟩,some ⟨far.map AddrD.cs,4,60,false,true⟩] (.sc (.sl 2 0 (wanted p own far).length)) [some ⟨own.map AddrD.cs,4,60,false,true⟩,some ⟨far.map AddrD.cs,4,60,false,true⟩,some ⟨(wanted p own far).map RoadD.cs,3,45,true,true⟩]:=by
 obtain⟨m,hm⟩:∃ m,m=wanted p own far:=⟨_,rfl⟩
 rw [<-hm]
 rw [wanted] at hm
 refine qE func114 ntmps114 results114 fun E hE=>?_
 refine qK (fE p) [] ?_
 refine qB (fun g1=>?_) fun g1=>?_
 ·refine qK (au _ _ _) [] ?_
  refine qB (fun g2=>?_) fun g2=>?_
  ·refine qK (au _ _ _) [] ?_
   refine qB (fun g3=>?_) fun g3=>?_
   ·rw [if_neg (by simp [g3])] at hm
    subst hm
    exact qF (qI 0 2++qI 3 1)
   have g2':=g2
   have g3':=g3
   simp only [co,KZ,decide_eq_true_eq] at g2' g3'
   rw [if_pos ⟨g1,g2,g3⟩] at hm
   refine qX ?_
   refine qB (fun g4=>?_) fun g4=>?_
   ·rw [if_pos g4] at hm
    refine qX ?_
    refine ki 2 hE (fun s (x:Nat×List RoadD)=>s.at (qU [0,1,9,1,12,51]) [(8,.sc (.int .i64 (x.1:Nat))),(7,.sc (.sl 3 0 x.2.length))] ([some ⟨own.map AddrD.cs,4,60,false,true⟩,some ⟨far.map AddrD.cs,4,60,false,true⟩,some ⟨[p.cs],2,25,true,false⟩,some ⟨x.2.map RoadD.cs,3,45,true,true⟩])) (fun (x:Nat×List RoadD)=>x.1<=own.length/\x.2.length<=8/\fr far x.2 (own.drop x.1)=m) (fun (x:Nat×List RoadD)=>own.length - x.1) (0,[]) (qI 0 4) (⟨K0 _,K0 _,hm.symm⟩) fun x hx N hN=>?_
    obtain⟨k,acc⟩:=x
    obtain⟨hk1,hk2,hk3⟩:=hx
    dsimp only at hk1 hk2 hk3
    refine qR ?_
    refine qB (fun h=>?_) fun h=>?_
    ·rw [xC h] at hk3
     refine qX ?_
     refine ki 2 hE (fun s (y:Nat×List RoadD)=>s.at (qU [0,1,12,23,36,27]) [(9,.sc (.int .i64 (y.1:Nat))),(7,.sc (.sl 3 0 y.2.length))] ([some ⟨own.map AddrD.cs,4,60,false,true⟩,some ⟨far.map AddrD.cs,4,60,false,true⟩,some ⟨[p.cs],2,25,true,false⟩,some ⟨y.2.map RoadD.cs,3,45,true,true⟩])) (fun (y:Nat×List RoadD)=>y.1<=far.length/\y.2.length<=8/\y.2=(acc++(far.take y.1).map (Kc own[k])).take 8) (fun (y:Nat×List RoadD)=>far.length - y.1) (0,acc) (qI 0 4) (⟨K0 _,hk2,by simp;rw [K4 hk2]⟩) fun y hy N2 hN2=>?_
     obtain⟨j,r⟩:=y
     obtain⟨hy1,hy2,hy3⟩:=hy
     dsimp only at hy1 hy2 hy3
     refine qR ?_
     refine qB (fun h5=>?_) fun h5=>?_
     ·refine qX ?_
      refine qB (fun h6=>?_) fun h6=>?_
      ·have hl8:r.length < 8:=zO
       have ht:=EO h5 hy3 hl8
       refine qD [0,1,2,3,4,5,6,7,8,9,10,11,12,13,14] ?_
       refine qG ?_
       refine⟨qC,hN2 _ (j+1,r++[Kc own[k] far[j]]) (qI 0 3++qI 5 1) (by (try dsimp only);exact⟨zO,by simp;omega,ht⟩) (by (try dsimp only);omega) (bM zF zF ?_)⟩
       refine qX ?_
       simp [Kc,RoadD.cs]
      have ht:=EP (i:=far.length) hy1 (La _) hy3 zO
      rw [K_] at ht
      rw [<-ht] at hk3
      exact qN hN (k+1,r) (qI 0 4) (by (try dsimp only);exact⟨zO,hy2,hk3⟩)
     have e:j=far.length:=zO
     subst e
     rw [K_] at hy3
     rw [<-hy3] at hk3
     exact qN hN (k+1,r) (qI 0 4) (by (try dsimp only);exact⟨zO,hy2,hk3⟩)
    rw [K8 zO,fr] at hk3
    subst hk3
    exact qF (qI 0 2++qI 3 1)
   rw [if_neg g4] at hm
   have ho:0 < own.length:=zO
   have hf:0 < far.length:=zO
   rw [xD ho,xD hf] at hm
   obtain⟨c,hc,hc0,hc8⟩:∃ c:Nat,m=lY own[0].addr far[0].addr c/\(if p.kind=2 then p.many else 1)=(c:Int)/\c<=8:=by
    by_cases h2:p.kind=2
    ·have h:=g1
     rw [polOk,if_pos h2] at h
     simp only [co,KZ,decide_eq_true_eq] at h
     rw [if_pos h2] at hm
     exact⟨p.many.toNat,hm,by rw [if_pos h2];omega,zO⟩
    rw [if_neg h2] at hm
    exact⟨1,hm,by rw [if_neg h2];rfl,zO⟩
   refine qX ?_
   refine qB (fun g5=>?_) fun g5=>?_
   ·rw [if_pos g5] at hc0
    rw [hc0]
    refine qX ?_
    refine iK 2 hE (fun s (x:Nat)=>s.at (qU [0,1,3,1,8,2,12,75]) [(11,.sc (.int .i64 (x:Nat))),(7,.sc (.sl 3 0 x))] ([some ⟨own.map AddrD.cs,4,60,false,true⟩,some ⟨far.map AddrD.cs,4,60,false,true⟩,some ⟨[p.cs],2,25,true,false⟩,some ⟨(lY own[0].addr far[0].addr x).map RoadD.cs,3,45,true,true⟩])) (fun (x:Nat)=>x<=c) (fun (x:Nat)=>c - x) 0 (qI 0 4) (qC) (K0 _) (bM zF zF ?_) fun x hx N hN=>?_
    ·refine qX ?_
     first|rfl|exact⟨hc0.symm,rfl⟩|skip
    refine af 400 ?_
    have hml:=iz own[0].addr far[0].addr x
    refine qX ?_
    refine qB (fun h=>?_) fun h=>?_
    ·refine qD [0,1,2,3,4,5,6,7,8,9,10,11,12,13] ?_
     refine qG ?_
     refine wO hN (x+1) (qI 0 3++qI 5 1) (by (try dsimp only);exact zO) ?_
     first|exact⟨⟩|simp [rE,RoadD.cs]
    have e:x=c:=zO
    subst e
    subst hc
    rw [iz]
    exact qF (qI 0 2++qI 3 1)
   rw [if_neg g5] at hc0
   have hc1:c=1:=zO
   subst hc1
   refine iK 2 hE (fun s (x:Nat)=>s.at (qU [0,1,3,1,8,2,12,75]) [(11,.sc (.int .i64 (x:Nat))),(7,.sc (.sl 3 0 x))] ([some ⟨own.map AddrD.cs,4,60,false,true⟩,some ⟨far.map AddrD.cs,4,60,false,true⟩,some ⟨[p.cs],2,25,true,false⟩,some ⟨(lY own[0].addr far[0].addr x).map RoadD.cs,3,45,true,true⟩])) (fun (x:Nat)=>x<=1) (fun (x:Nat)=>1 - x) 0 (qI 0 4) (qC) (K0 _) (bM zF zF ?_) fun x hx N hN=>?_
   ·refine qX ?_
    first|rfl|exact⟨hc0.symm,rfl⟩|skip
   refine af 400 ?_
   have hml:=iz own[0].addr far[0].addr x
   refine qX ?_
   refine qB (fun h=>?_) fun h=>?_
   ·refine qD [0,1,2,3,4,5,6,7,8,9,10,11,12,13] ?_
    refine qG ?_
    refine wO hN (x+1) (qI 0 3++qI 5 1) (by (try dsimp only);exact zO) ?_
    first|exact⟨⟩|simp [rE,RoadD.cs]
   have e:x=1:=zO
   subst e
   subst hc
   rw [iz]
   exact qF (qI 0 2++qI 3 1)
  rw [if_neg (by simp [g2])] at hm
  subst hm
  exact qF (qI 0 2++qI 3 1)
 rw [if_neg (by simp [g1])] at hm
 subst hm
 exact qF (qI 0 2++qI 3 1)
theorem rG {e:EndD} {r:RoadD} {b:Bool} (hs:Small e):Small (cA e r b).1:=by
 rw [cA];split
 ·rename_i h
  simp only [sT,KZ,decide_eq_true_eq] at h
  exact⟨hs.own,hs.far,by simp only [K3,Ld];omega,hs.halfs,hs.list,hs.done,hs.over⟩
 exact hs
theorem xE (e:EndD) (r:RoadD) (b:Bool):(cA e r b).2.length<=1:=by
 rw [cA];split<;>simp
theorem zL {far:List AddrD} {e:EndD} {l:List RoadD} {k:Nat} (h:k < l.length):ci far e (l.drop k)=
  ((ci far (cA e l[k] (aD far l[k].far)).1 (l.drop (k+1))).1,(cA e l[k] (aD far l[k].far)).2++(ci far (cA e l[k] (aD far l[k].far)).1 (l.drop (k+1))).2):=by
 rw [K2 h];rfl
theorem Cw {far:List AddrD} {e:EndD} {l:List RoadD} {k:Nat} (h:l.length<=k):ci far e (l.drop k)=(e,[]):=by
 rw [K8 h];rfl
theorem JD {e:EndD} (h:¬ (ah e=true/\e.side=1)):manage e=(e,[]):=if_neg h
theorem JE {e:EndD} (h:ah e=true/\e.side=1):manage e=ci e.far e (dy (wanted e.policy e.own e.far) (e7 e.subs)):=if_pos h
theorem mv (a b:List RoadD):(dy a b).length<=64:=by
 rw [dy];split
 ·rename_i h;exact Nat.le_trans (K6 _ _) h.1
 simp
theorem Cx {e:EndD} (h:ah e=true):e.policy.wf:=by
 have hp:polOk e.policy=true:=by simp only [ah,KZ] at h;simp_all
 rw [polOk] at hp
 split at hp
 ·rename_i hk
  simp only [co,KZ,decide_eq_true_eq] at hp
  exact⟨⟨zO,zO⟩,⟨zO,zO⟩⟩
 simp only [KZ,Lg,beq_iff_eq] at hp
 exact⟨⟨zO,zO⟩,⟨zO,zO⟩⟩
theorem Cy (l:List SubD):(e7 l).length<=l.length:=by
 rw [e7,Li];exact K6 _ _
theorem g_ (e:EndD) (hs:Small e):aP 89 [.ag (e.cs 0)] (e.hp false) (.tu [.ag ((manage e).1.cs 7),.sc (.sl 14 0 (manage e).2.length)])
  (e.hp false++((manage e).1.hp true++[some ⟨(manage e).2.map LetterD.cs,19,134,true,true⟩])):=by
 have hC:=(qH (ar e))
 have hK:=(qH (aH e))
 have hsub:=hs.subs
 have hsf:=hs.far
 have hso:=hs.own
 have hf:=JD (e:=e)
 have ht:=JE (e:=e)
 have hH:=xy e hs.subs
 have hhl:=Cy e.subs
 have hM64:=mv (wanted e.policy e.own e.far) (e7 e.subs)
 obtain⟨R,hR⟩:∃ R,R=manage e:=⟨_,rfl⟩
 rw [<-hR] at hf ht
 rw [<-hR]
 clear hR
 refine FE func89 ntmps89 results89 fun E hE=>?_
 refine qK (hC) (qI 0 7) ?_
 refine qK (hK) (qI 0 7) ?_
 refine qB (fun h1=>?_) fun h1=>?_
 ·refine qB (fun h2=>?_) fun h2=>?_
  rotate_left
  ·have hR:=ht ⟨h1,h2⟩
   have hWa:=sV e.policy e.own e.far (Cx h1) zO zO
   have hMi:=qk (wanted e.policy e.own e.far) (e7 e.subs) (by have:=zK e.policy e.own e.far;omega) zO
   generalize hMM:dy (wanted e.policy e.own e.far) (e7 e.subs)=M at*
   clear hMM
   refine qD [0,1,2,3,4,5,7,6,8,9,10] ?_
   refine cj (hWa) (qI 0 2) ?_
   refine cj (hH) (qI 0 7) ?_
   refine cj (hMi) (qI 18 2) ?_
   refine qG ?_
   refine uW 7 hE (fun s (y:Nat×EndD×List LetterD)=>s.at (qU [0,1,8,71]) [(7,.sc (.int .i64 (y.1:Nat))),(6,.sc (.sl 17 0 M.length)),(5,.sc (.sl 18 0 y.2.2.length))] ((s.hp.take 9)++(y.2.1.hp true++[some ⟨[y.2.1.cs 9],25,38,true,false⟩,some ⟨M.map RoadD.cs,3,45,true,true⟩,some ⟨y.2.2.map LetterD.cs,19,134,true,true⟩]))) (fun (y:Nat×EndD×List LetterD)=>y.1<=M.length/\Small y.2.1/\y.2.2.length<=y.1/\R=((ci e.far y.2.1 (M.drop y.1)).1,y.2.2++(ci e.far y.2.1 (M.drop y.1)).2)) (fun (y:Nat×EndD×List LetterD)=>M.length - y.1) (0,e,[]) (qI 0 17++qI 20 1++qI 17 1) (⟨K0 _,hs,La _,hR⟩) fun y hy N hN=>?_
   obtain⟨i,e1,l⟩:=y
   obtain⟨g1,g2,g3,g4⟩:=hy
   dsimp only at g1 g2 g3 g4
   refine qR ?_
   refine qB (fun b=>?_) fun b=>?_
   ·rw [zL b] at g4
    have hg:=bW (enc:=RoadD.cs) b
    generalize hr:M[i]=r at*
    have hJ:=Cu e1 r (aD e.far r.far) g2
    have hj1:=xE e1 r (aD e.far r.far)
    have hjs:=rG (r:=r) (b:=aD e.far r.far) g2
    obtain⟨pr,hpr⟩:∃ p,p=cA e1 r (aD e.far r.far):=⟨_,rfl⟩
    rw [<-hpr] at hJ hj1 hjs g4
    obtain⟨e2,l2⟩:=pr
    dsimp only at hJ hj1 hjs g4
    rw [<-K5] at g4
    try simp (disch:=omega) only [go_sem,seval,hg,hr]
    refine uW 7 hE (fun s (z:Nat×Bool)=>s.at (qU [0,1,11,26,38,41]) [(9,.sc (.int .i64 (z.1:Nat))),(8,.sc (.bo z.2))] (s.hp)) (fun (z:Nat×Bool)=>z.1<=e.far.length/\z.2=aD (e.far.take z.1) r.far) (fun (z:Nat×Bool)=>e.far.length - z.1) (0,false) (qI 0 19) (⟨K0 _,rfl⟩) fun z hz N2 hN2=>?_
    obtain⟨k,sb⟩:=z
    obtain⟨f1,f2⟩:=hz
    dsimp only at f1 f2
    refine qR ?_
    refine qB (fun c1=>?_) fun c1=>?_
    ·have hgf:=bW (enc:=AddrD.cs) c1
     have hsn:=mt (n:=r.far) c1
     rw [<-f2] at hsn
     refine qD [0,1,2,3,4,5,6,7,8,9,10,11] ?_
     try simp (disch:=omega) only [go_sem,seval,hgf,hg,hr]
     refine qG ?_
     refine qB (fun c2=>?_) fun c2=>?_
     ·rw [if_pos c2] at hsn
      try simp (disch:=omega) only [go_sem,seval,hgf]
      exact HM hN2 (k+1,e.far[k].spare) (qI 0 19) (by (try dsimp only);exact⟨zO,hsn.symm⟩)
     rw [if_neg c2] at hsn
     refine qX ?_
     exact HM hN2 (k+1,sb) (qI 0 19) (by (try dsimp only);exact⟨zO,hsn.symm⟩)
    have e3:k=e.far.length:=zO
    subst e3
    rw [K_] at f2
    subst f2
    refine qX ?_
    refine qD [0,1,2,3,4,5,6,7,8,9,10,11] ?_
    try simp (disch:=omega) only [go_sem,seval,hg,hr]
    refine cj (hJ) (qI 9 7) ?_
    refine qG ?_
    refine DY hN (i+1,e2,l++l2) (qI 0 9++qI 20 7++qI 16 2++qI 28 1) (by (try dsimp only);exact⟨zO,hjs,by simp only [K3];omega,g4⟩) ?_
    first|exact⟨⟩|simp
   rw [Cw zO,K7] at g4
   subst g4
   refine qX ?_
   exact iO (qI 0 7++qI 9 7++qI 18 1)
  rw [hf (fun h=>h2 h.2)]
  refine qX ?_
  exact iO (qI 0 7++qI 9 7++qI 17 1)
 rw [hf (fun h=>by rw [h1] at h;cases h.1)]
 refine qX ?_
 exact iO (qI 0 7++qI 9 7++qI 17 1)
theorem CF {α:Type} {p:α->Bool} {l:List α} {k:Nat} (h:k < l.length):(l.drop k).all p=(p l[k] && (l.drop (k+1)).all p):=by
 rw [K2 h,Lj]
theorem zV {α β:Type} {f:α->List β} {l:List α} {k:Nat} (h:k < l.length):(l.drop k).flatMap f=f l[k]++(l.drop (k+1)).flatMap f:=by
 rw [K2 h,Lf]
theorem nC (e:EndD) (s:SubD):(cP e s).length<=1:=by
 rw [cP];split
 ·split
  ·simp
  split
  ·simp
  split<;>simp
 simp
theorem pj {α β:Type} {f:α->List β} (hf:∀ a,(f a).length<=1):∀ (l:List α),(l.flatMap f).length<=l.length
 |[]=>by simp
 |a::l=>by
  have h1:=hf a
  have h2:=pj hf l
  rw [Lf,K3,List.length_cons]
  omega
theorem rI (l:List HalfD) (n:Int):(cc l n).length<=l.length:=K6 _ _
theorem mw (e:EndD):(bx e).length<=e.own.length:=by
 rw [bx];split
 ·rw [Li];exact K6 _ _
 simp
theorem t6 {e:EndD} (h:ah e=true) {k:Nat} (hk:k < e.subs.length):1<=e.subs[k].state/\e.subs[k].state<=4/\0<=e.subs[k].tries/\e.subs[k].tries<=1000000000:=by
 have h1:d_ (dh e.subs) e.subs.length=true:=by
  simp only [ah,KZ] at h
  simp_all
 have h2:=fK h1 hk
 simp only [dh,cd hk,co,kj,Lj,List.all_nil,KZ,decide_eq_true_eq] at h2
 omega
theorem Ih {e:EndD} (h:Bm e=false):tick e=(e,[]):=if_neg (by simp [h])
theorem ER {e:EndD} (h:Bm e=true) (h2:e.state=2):tick e=bm { bU e with subs:=e.subs.map aL } (e.subs.flatMap (cP e)):=by rw [tick,if_pos h,if_pos h2]
theorem ES {e:EndD} (h:Bm e=true) (h2:¬ e.state=2):tick e=bm (bU e) []:=by rw [tick,if_pos h,if_neg h2]
theorem Ii {e:EndD} {tk:SubD->SubD} {tl:SubD->List LetterD} (h:Bm e=true) (h1:tk=fun s=>if e.state=2 then aL s else s) (h2:tl=fun s=>if e.state=2 then cP e s else []):
  tick e=bm { e with now:=e.now+1,bucket:=cJ e.bucket,halfs:=cc e.halfs (e.now+1),out:=dN e.out,subs:=e.subs.map tk } (e.subs.flatMap tl):=by
 by_cases hs:e.state=2
 ·have a1:tk=aL:=by rw [h1];funext s;exact if_pos hs
  have a2:tl=cP e:=by rw [h2];funext s;exact if_pos hs
  rw [ER h hs,a1,a2];rfl
 have a1:tk=fun s=>s:=by rw [h1];funext s;exact if_neg hs
 have a2:tl=fun s=>[]:=by rw [h2];funext s;exact if_neg hs
 have e1:e.subs.flatMap (fun s:SubD=>([]:List LetterD))=[]:=by simp
 have e2:e.subs.map (fun s:SubD=>s)=e.subs:=by simp
 rw [ES h hs,a1,a2,e1,e2];rfl
theorem ET {f:SubD->SubD} (h:∀ s,f s=s) (l:List SubD) (k:Nat):cK f l k=l:=by
 have hf:f=fun s=>s:=funext h
 rw [cK,hf];simp
theorem zW {s:SubD} (h:¬ (s.state=1\/s.state=2)):aL s=s:=if_neg h
theorem zX {e:EndD} {s:SubD} (h:¬ (s.state=1\/s.state=2)):cP e s=[]:=if_neg h
theorem zY {s:SubD} (h:s.state=2) (h2:9<=s.tries+1):aL s={ s with tries:=s.tries+1,state:=4 }:=by rw [aL,if_pos (.inr h),if_pos ⟨h,h2⟩]
theorem zZ {e:EndD} {s:SubD} (h:s.state=2) (h2:9<=s.tries+1):cP e s=[]:=by rw [cP,if_pos (.inr h),if_pos ⟨h,h2⟩]
theorem EU {s:SubD} (h:s.state=1\/s.state=2) (h2:¬ (s.state=2/\9<=s.tries+1)):aL s={ s with tries:=s.tries+1 }:=by rw [aL,if_pos h,if_neg h2]
theorem z0 {e:EndD} {s:SubD} (h:s.state=1\/s.state=2) (h2:¬ (s.state=2/\9<=s.tries+1)) (h3:¬ (s.tries+1).tmod 3=0):cP e s=[]:=by rw [cP,if_pos h,if_neg h2,if_pos h3]
theorem CG {e:EndD} {s:SubD} (h:s.state=1) (h3:(s.tries+1).tmod 3=0):cP e s=[dX e s]:=by rw [cP,if_pos (.inl h),if_neg zO,if_neg (by simp [h3]),if_pos h]
theorem xH {e:EndD} {s:SubD} (h:s.state=2) (h2:¬ 9<=s.tries+1) (h3:(s.tries+1).tmod 3=0):cP e s=[bi e s]:=by rw [cP,if_pos (.inr h),if_neg zO,if_neg (by simp [h3]),if_neg zO]
def KQ (e:EndD):Prop:=e.subs.length<=100/\e.far.length<=100
theorem JU (b:List UInt8) (hl:b.length<=maxLen):aP 5 [.sc (.sl 0 0 b.length)] [some ⟨b.map dL,1,5,false,true⟩] (.sc (.bo (decide (1048576 < b.length)))) [some ⟨b.map dL,1,5,false,true⟩]:=by
 refine qE func5 ntmps5 results5 fun E hE=>?_
 refine qJ (qI 0 1) ?_
 simp
 omega
end
end Go.Proofs.YtdiiopjaebnmfaaGreat
