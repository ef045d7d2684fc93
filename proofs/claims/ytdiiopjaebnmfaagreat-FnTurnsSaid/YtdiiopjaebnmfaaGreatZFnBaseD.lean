/- Lemmas of this claim. -/
import Derived.Test.YtdiiopjaebnmfaaGreatZFnBaseC
set_option maxHeartbeats 16000000
set_option maxRecDepth 100000
set_option linter.unusedVariables false
set_option linter.unusedSimpArgs false
namespace Go.Proofs.YtdiiopjaebnmfaaGreat
open _root_.Go.Proofs.Tryz
open _root_.Bool renaming and_eq_true->KZ,or_eq_true->K4
open _root_.Array renaming getD_eq_getD_getElem?->K0
open _root_.List renaming all_eq_true->K1,mem_cons_of_mem->K2,any_eq_true->K3,mem_cons->K5
section
open Go.RowKit
theorem tL (o:OutD) (n:Int):aP 97 [.ag o.cs,.sc (.int .i64 n)] [] (.ag (came o n).cs) []:=by
 obtain⟨R,hR⟩:∃ R,R=came o n:=⟨_,rfl⟩
 rw [<-hR]
 refine jB func97 (by kernel_rfl) rfl fun E hE=>af 400 ?_
 simp (disch:=omega) only [ntmps97,results97,go_sem,seval]
 refine jz (qC) (gI o) [] qM zF (af 400 ?_)
 simp (disch:=omega) only [go_sem,seval]
 split<;>rename_i h1<;>(try simp only [zR] at h1)<;>simp (disch:=omega) only [go_sem,seval,h1]<;>(try simp only [zQ] at h1)<;>try simp (disch:=omega) only [go_sem,seval]
 ·have h1':=h1
  simp only [outOk,kj,co,KZ,decide_eq_true_eq] at h1'
  obtain⟨⟨⟨⟨b0,b1⟩,r0,r1⟩,t0⟩,s0,s1⟩:=h1'
  rw [yD zO] at s1
  split<;>rename_i h2<;>(try simp only [zR] at h2)<;>simp (disch:=omega) only [go_sem,seval,h2]<;>(try simp only [zQ] at h2)<;>try simp (disch:=omega) only [go_sem,seval]
  ·split<;>rename_i h3<;>(try simp only [zR] at h3)<;>simp (disch:=omega) only [go_sem,seval,h3]<;>(try simp only [zQ] at h3)<;>try simp (disch:=omega) only [go_sem,seval]
   ·rw [came,if_neg (by rw [yD zO];omega)] at hR
    subst hR
    refine bN [] (qC) _ (by simp only [go_sem];rfl) zF zF ?_
    simp (disch:=omega) only [go_sem,seval]
   rw [came,if_pos ⟨h1,zO,by rw [yD zO];omega⟩] at hR
   subst hR
   by_cases h4:o.sent < n
   ·try simp (disch:=omega) only [go_sem,seval,h4]
    refine bN [] (qC) _ (by simp only [go_sem];rfl) zF zF ?_
    simp (disch:=omega) only [go_sem,seval]
    all_goals (try simp only [h4,if_true,if_false,go_sem])
    all_goals (repeat' first|rfl|constructor)
    try simp
   try simp (disch:=omega) only [go_sem,seval,h4]
   refine bN [] (qC) _ (by simp only [go_sem];rfl) zF zF ?_
   simp (disch:=omega) only [go_sem,seval]
   all_goals (try simp only [h4,if_true,if_false,go_sem])
   all_goals (repeat' first|rfl|constructor)
   try simp
  rw [came,if_neg zO] at hR
  subst hR
  refine bN [] (qC) _ (by simp only [go_sem];rfl) zF zF ?_
  simp (disch:=omega) only [go_sem,seval]
 rw [came,if_neg (by simp [h1])] at hR
 subst hR
 refine bN [] (qC) _ (by simp only [go_sem];rfl) zF zF ?_
 simp (disch:=omega) only [go_sem,seval]
theorem fv (e:EndD) (x:LetterD) (hs:Small e):aP 152 [.ag (e.cs 0),.ag x.cs] (e.hp false) (.sc (.int .i64 (gh e x))) (e.hp false):=by
 have hK:=(qH (aH e))
 have hS:=sI e x (by have:=hs.subs;omega)
 obtain⟨R,hR⟩:∃ R,R=gh e x:=⟨_,rfl⟩
 rw [<-hR]
 rw [gh] at hR
 refine qE func152 ntmps152 results152 fun E hE=>?_
 refine qK (hK) (qI 0 7) ?_
 refine qB (fun h1=>?_) fun h1=>?_
 ·refine qK (cD x) [] ?_
  refine qB (fun h2=>?_) fun h2=>?_
  ·rw [if_neg (by simp [h1,h2])] at hR
   refine qJ (qI 0 7) ?_
   exact hR.symm
  rw [if_pos (by simp [h1,h2])] at hR
  refine qK (hS) (qI 0 7) ?_
  refine qJ (qI 0 7) ?_
  exact hR.symm
 rw [if_neg (by simp [h1])] at hR
 refine qJ (qI 0 7) ?_
 exact hR.symm
theorem ql (e:EndD) (x:LetterD) (hs:Small e):aP 146 [.ag (e.cs 0),.ag x.cs] (e.hp false) (.tu [.ag ((bg e x).1.cs 7),.sc (.sl 14 0 (bg e x).2.length)])
  (e.hp false++((bg e x).1.hp true++[some ⟨(bg e x).2.map LetterD.cs,19,134,true,true⟩])):=by
 have hC:=(qH (ar e))
 have hK:=(qH (aH e))
 have hS:=fv e x hs
 have hbd:=gW e x
 have hf:=wZ (e:=e) (x:=x)
 have ht:=fun (n:Nat)=> @w_ e x n
 generalize bg e x=R at*
 refine qE func146 ntmps146 results146 fun E hE=>?_
 refine qK (hC) (qI 0 7) ?_
 refine qK (hS) (qI 0 7) ?_
 rcases hbd with hon|⟨n,hon,hk,hn,_,_⟩
 ·rw [hf zO,hon]
  refine qX ?_
  exact qF (qI 0 7++qI 10 7++qI 18 1)
 rw [ht _ hon hk,cZ hn,hon]
 have e1:=pf e.subs n { e.subs[n] with state:=4 }
 simp only [SubD.cs] at e1
 try simp (disch:=omega) only [go_sem,seval,e1]
 refine qP (qI 0 7++qI 10 7++qI 18 1) ?_
 first|exact⟨⟩|simp
theorem sJ (e:EndD) (x:LetterD) (hs:Small e):aP 145 [.ag (e.cs 0),.ag x.cs] (e.hp false) (.tu [.ag ((bB e x).1.cs 7),.sc (.sl 14 0 (bB e x).2.length)])
  (e.hp false++((bB e x).1.hp true++[some ⟨(bB e x).2.map LetterD.cs,19,134,true,true⟩])):=by
 have hC:=(qH (ar e))
 have hK:=(qH (aH e))
 have hS:=fv e x hs
 have hbd:=gW e x
 have hf:=ze (e:=e) (x:=x)
 have ht:= @zf e x
 generalize bB e x=R at*
 refine qE func145 ntmps145 results145 fun E hE=>?_
 refine qK (hC) (qI 0 7) ?_
 refine qK (hS) (qI 0 7) ?_
 rcases hbd with hon|⟨n,hon,hk,hn,_,_⟩
 ·rw [hf zO,hon]
  refine qX ?_
  exact qF (qI 0 7++qI 10 7++qI 18 1)
 rw [ht zO,hon]
 refine qX ?_
 refine qK (tL e.out x.pos) [] ?_
 exact qF (qI 0 7++qI 10 7++qI 18 1)
theorem nf (e:EndD) (x:LetterD) (hs:Small e):aP 140 [.ag (e.cs 0),.ag x.cs] (e.hp false) (.tu [.ag ((aE e x).1.cs 7),.sc (.sl 14 0 (aE e x).2.length)])
  (e.hp false++((aE e x).1.hp true++[some ⟨(aE e x).2.map LetterD.cs,19,134,true,true⟩])):=by
 have hC:=(qH (ar e))
 have hK:=(qH (aH e))
 have hS:=dz e (roadOf x) (by have:=hs.subs;omega)
 have hL:=cD x
 have hbd:=gH e.subs (roadOf x)
 have hf:=He (e:=e) (x:=x)
 have ht:=fun (n:Nat)=> @Hf e x n
 generalize aE e x=R at*
 refine qE func140 ntmps140 results140 fun E hE=>?_
 refine qK (hC) (qI 0 7) ?_
 refine qD [0,1,2,3,4] ?_
 refine cj (bS x) [] ?_
 refine cj (hS) (qI 0 7) ?_
 refine qG ?_
 rcases hbd with hk|⟨hb0,hb1⟩
 ·rw [hf (HR hk),hk]
  refine qD [0,1,2,3,4,5,6,7,8,9,10,11,12,13,14,15,16,17,18,19,20,21,22,23,24,25,26,27,28,29] ?_
  refine cj (hK) (qI 0 7) ?_
  refine qB (fun h1=>?_) fun h1=>?_
  ·refine cj (hL) [] ?_
   refine qB (fun h2=>?_) fun h2=>?_
   ·refine qG ?_
    exact qF (qI 0 7++qI 10 7++qI 18 1)
   refine qG ?_
   exact qF (qI 0 7++qI 10 7++qI 18 1)
  refine qG ?_
  exact qF (qI 0 7++qI 10 7++qI 18 1)
 obtain⟨n,hk⟩:=Int.eq_ofNat_of_zero_le hb0
 have hn:n < e.subs.length:=zO
 have ha:=En hk hn
 rw [hk]
 refine qD [0,1,2,3,4,5,6,7,8,9,10,11,12,13,14,15,16,17,18,19,20,21,22,23,24,25,26,27,28,29] ?_
 refine cj (hK) (qI 0 7) ?_
 refine qB (fun h1=>?_) fun h1=>?_
 ·refine cj (hL) [] ?_
  refine qB (fun h2=>?_) fun h2=>?_
  ·refine qB (fun h3=>?_) fun h3=>?_
   ·refine qG ?_
    refine qB (fun h4=>?_) fun h4=>?_
    ·rw [ht _ (by rw [ha];simp [h1,h2,h3,h4]) hk,cZ hn]
     have e1:=pf e.subs n { e.subs[n] with state:=3 }
     simp only [SubD.cs] at e1
     try simp (disch:=omega) only [go_sem,seval,e1]
     refine qP (qI 0 7++qI 10 7++qI 18 1) ?_
     first|exact⟨⟩|simp
    rw [hf (by rw [ha];simp [h1,h2,h3,h4])]
    refine qX ?_
    exact qF (qI 0 7++qI 10 7++qI 18 1)
   rw [hf (by rw [ha];simp [h1,h2,h3])]
   refine qG ?_
   exact qF (qI 0 7++qI 10 7++qI 18 1)
  rw [hf (by rw [ha];simp [h1,h2])]
  refine qG ?_
  exact qF (qI 0 7++qI 10 7++qI 18 1)
 rw [hf (by rw [ha];simp [h1])]
 refine qG ?_
 exact qF (qI 0 7++qI 10 7++qI 18 1)
theorem kM (e:EndD) (x:LetterD) (hs:Small e):aP 104 [.ag (e.cs 0),.ag x.cs] (e.hp false) (.tu [.ag ((aT e x).1.cs 7),.sc (.sl 14 0 (aT e x).2.length)])
  (e.hp false++((aT e x).1.hp true++[some ⟨(aT e x).2.map LetterD.cs,19,134,true,true⟩])):=by
 have hC:=(qH (ar e))
 have hK:=(qH (aH e))
 have hS:=dz e (roadOf x) (by have:=hs.subs;omega)
 have hL:=cD x
 have hbd:=gH e.subs (roadOf x)
 have hf:=HS (e:=e) (x:=x)
 have ht:=fun (n:Nat)=> @HT e x n
 generalize aT e x=R at*
 refine qE func104 ntmps104 results104 fun E hE=>?_
 refine qK (hC) (qI 0 7) ?_
 refine qD [0,1,2,3,4] ?_
 refine cj (bS x) [] ?_
 refine cj (hS) (qI 0 7) ?_
 refine qG ?_
 rcases hbd with hk|⟨hb0,hb1⟩
 ·rw [hf (Gv hk),hk]
  refine qX ?_
  refine qK (hK) (qI 0 7) ?_
  refine qB (fun h1=>?_) fun h1=>?_
  ·refine qK (hL) [] ?_
   refine qB (fun h2=>?_) fun h2=>?_
   ·refine qB (fun h3=>?_) fun h3=>?_
    ·refine qX ?_
     exact qF (qI 0 7++qI 10 7++qI 18 1)
    refine qX ?_
    exact qF (qI 0 7++qI 10 7++qI 18 1)
   refine qX ?_
   exact qF (qI 0 7++qI 10 7++qI 18 1)
  refine qX ?_
  exact qF (qI 0 7++qI 10 7++qI 18 1)
 obtain⟨n,hk⟩:=Int.eq_ofNat_of_zero_le hb0
 have hn:n < e.subs.length:=zO
 have ha:=Gu hk hn
 rw [hk]
 refine qX ?_
 refine qK (hK) (qI 0 7) ?_
 refine qB (fun h1=>?_) fun h1=>?_
 ·refine qK (hL) [] ?_
  refine qB (fun h2=>?_) fun h2=>?_
  ·refine qB (fun h3=>?_) fun h3=>?_
   ·refine qB (fun h4=>?_) fun h4=>?_
    ·refine qK (au _ _ _) [] ?_
     refine qB (fun h5=>?_) fun h5=>?_
     ·rw [hf (by rw [ha];simp [h1,h2,h3,h4,h5])]
      refine qX ?_
      exact qF (qI 0 7++qI 10 7++qI 18 1)
     rw [ht _ (by rw [ha];simp [h1,h2,h3,h4,h5]) hk hn]
     have e1:=pf e.subs n { e.subs[n] with state:=3 }
     have e2:=pf (e.subs.set n { e.subs[n] with state:=3 }) n { e.subs[n] with state:=3,give:=x.give }
     rw [List.set_set] at e2
     simp only [SubD.cs] at e1 e2
     refine qX ?_
     refine qK (od x.frm) [] ?_
     try simp (disch:=omega) only [go_sem,seval,e1,e2]
     refine aX [(0,7),(3,0),(5,0),(6,0)] [[1,2,4,3,5,6,0,7,8,9],[1,2,4,3,5,0,6,7,8,9],[1,2,4,3,0,5,6,7,8,9],[1,2,4,0,3,5,6,7,8,9],[1,2,4,3,5,6,7,0,8,9]] (by kernel_rfl) (qC) (by kernel_rfl) ?_
     simp only [aR]
     refine⟨aa 400 ?_,aa 400 ?_,aa 400 ?_,aa 400 ?_,aa 400 ?_⟩
     all_goals simp (disch:=omega) only [go_sem,seval]
     all_goals
      refine cj (bS x) [] ?_
      refine cj (aI (roadOf x) { aj with kind:=3 }) [] ?_
      refine qG ?_
      refine bN (qI 0 7++qI 10 1++qI 19 1++qI 12 5++qI 21 1) (qC) _ (by simp only [go_sem];rfl) zF zF ?_
      simp (disch:=omega) only [go_sem,seval]
      try simp [eS,SubD.cs,LetterD.cs,roadOf,ae,aj]
      try omega
    rw [hf (by rw [ha];simp [h1,h2,h3,h4])]
    refine qX ?_
    exact qF (qI 0 7++qI 10 7++qI 18 1)
   rw [hf (by rw [ha];simp [h1,h2,h3])]
   refine qX ?_
   exact qF (qI 0 7++qI 10 7++qI 18 1)
  rw [hf (by rw [ha];simp [h1,h2])]
  refine qX ?_
  exact qF (qI 0 7++qI 10 7++qI 18 1)
 rw [hf (by rw [ha];simp [h1])]
 refine qX ?_
 exact qF (qI 0 7++qI 10 7++qI 18 1)
def uu (P:Program) (r:Array Oper) (T:List Nat) (X:List (Nat×Nat)) (os:List (List Nat)):List (Nat×Nat)->List (Nat×Nat)->Bool
 |[],ex=>y9 X ex || os.any fun σ=>kX P r T ex σ
 |u::U,ex=>y9 X ex || (uu P r T X os U (u::ex) && uu P r T X os U ((u.2,u.1)::ex))
theorem j4 {P:Program} {r:Array Oper} {T:List Nat} {X:List (Nat×Nat)} {os:List (List Nat)} {l:List Nat} (hX:∀ u∈X,u.1≠u.2/\aQ l u.1 u.2=true):
  ∀ {U ex:List (Nat×Nat)},(∀ u∈U,u.1≠u.2)->(∀ u∈ex,u.1≠u.2/\aQ l u.1 u.2=true)->uu P r T X os U ex=true->∃ ex':List (Nat×Nat),(∀ u∈ex',u.1≠u.2/\aQ l u.1 u.2=true)/\∃ σ∈os,kX P r T ex' σ=true
 |[],ex,hU,hex,h=>by
  simp only [uu,K4] at h
  rcases h with h|h
  ·exact (iN hX hex h).elim
  obtain⟨σ,h1,h2⟩:=K3.1 h
  exact⟨ex,hex,σ,h1,h2⟩
 |(x,y)::U,ex,hU,hex,h=>by
  simp only [uu,K4,KZ] at h
  rcases h with h|⟨ha,hb⟩
  ·exact (iN hX hex h).elim
  have hne:x≠y:=hU (x,y) (List.mem_cons_self ..)
  rcases gg hne (l:=l) with h3|h3
  ·refine j4 hX (fun u hu=>hU u (K2 _ hu)) (fun u hu=>?_) ha
   rcases K5.1 hu with rfl|hu
   ·exact⟨hne,h3⟩
   exact hex u hu
  refine j4 hX (fun u hu=>hU u (K2 _ hu)) (fun u hu=>?_) hb
  rcases K5.1 hu with rfl|hu
  ·exact⟨hne.symm,h3⟩
  exact hex u hu
def vU (P:Program) (r:Array Oper) (U X:List (Nat×Nat)) (os:List (List Nat)):Bool:=
 kH r && U.all (fun u=>u.1 != u.2) && X.all (fun u=>u.1 != u.2 && (pY r u.1 u.2 && decide (u.1 < r.size))) && os.all (fun σ=>σ.length == r.size && (List.range r.size).all σ.contains && σ.all fun i=>decide (i < r.size)) &&
 (let T:=yZ r;uu P r T X os U [])
theorem At {P:Program} {E:Entry} {id:Nat} {r:Array Oper} {U X:List (Nat×Nat)} {os:List (List Nat)} (hP:P.follows .mixedOrders=true) (hcov:vU P r U X os=true) {s:S} {K:S->Prop}
  (h:∀ σ∈os,∃ s',wI P r σ s s'/\∀ β a w,Sim E β s' a w->∃ β' t,K t/\Sim E β' t a w):mP P E (.region id r true) s fun e s'=>e=.normal/\K s':=by
 intro β a w hs Q hQ
 refine wp_region_draw fun t=>?_
 simp only [Region.schedule,hP,Bool.true_or,if_true]
 simp only [vU,KZ] at hcov
 obtain⟨⟨⟨⟨hback,hU⟩,hX⟩,hperm⟩,hch⟩:=hcov
 have hd:=il (r:=r) r.size t (Array.replicate r.size false)
 have hXb:∀ v∈X,v.1≠v.2/\aQ (Region.linearise .any r t) v.1 v.2=true:=by
  intro v hv
  have hx:=K1.1 hX v hv
  simp only [KZ,bne_iff_ne,ne_eq,decide_eq_true_eq] at hx
  obtain⟨h1,h5,h6⟩:=hx
  refine⟨h1,?_⟩
  unfold pY at h5
  split at h5
  ·rename_i o ho
   obtain⟨e,he,he2⟩:=K3.1 h5
   simp only [KZ,beq_iff_eq] at he2
   exact eP hback hd ho he he2.1 he2.2 zP (by simp [K0,h6])
  cases h5
 obtain⟨ex,hbef,σ,hσ,hok⟩:=j4 hXb (fun u hu=>by
  have:=K1.1 hU u hu
  simpa using this) (fun u hu=>by cases hu) hch
 have hp:=K1.1 hperm σ hσ
 simp only [KZ,beq_iff_eq,K1,List.mem_range,decide_eq_true_eq] at hp
 obtain⟨⟨hlen,hall⟩,hlt⟩:=hp
 obtain⟨s',hrun,hK⟩:=h σ hσ
 have hs2:Sim E β s a { w with drawn:=w.drawn+1 }:=⟨hs.dfr,hs.sl,⟨hs.hp.len,hs.hp.ob,hs.hp.flat,hs.hp.apart⟩,hs.ent,⟨hs.st.le,hs.st.os,hs.st.tape,hs.st.output,hs.st.size,hs.st.block,hs.st.len,hs.st.old,hs.st.fresh⟩⟩
 refine jD hback (fun β' a' w' hs'=>let⟨β2,t2,hk2,hs2⟩:=hK β' a' w' hs';hQ .normal t2 β2 a' w' ⟨rfl,hk2⟩ hs2) (Region.linearise .any r t) r.size _ σ s β a _ hd zP zO (fun i=>?_) (fun i o ho hl=>?_) hok (fun p q hpq _ _=>(hbef (p,q) (List.contains_iff_mem.1 hpq)).2) hrun hs2
 ·constructor
  ·intro hi
   refine⟨hlt i hi,?_⟩
   simp [K0,hlt i hi]
  rintro⟨hi,_⟩
  simpa using hall i hi
 exfalso
 simp only [K0,Array.getElem?_replicate] at hl
 split at hl<;>cases hl
theorem bj {P:Program} {E:Entry} {F:S->Prop} {id:Nat} {r:Array Oper} {k:List dP} {s:S} {c:Prop} (U X:List (Nat×Nat)) (os:List (List Nat)) (hP:P.follows .mixedOrders=true) (hc:c) (hcov:vU P r U X os=true)
  (h:aR (fun σ=>wJ P r (fun s'=>eD P E F (.go k s' True)) (.go σ s True)) os):eD P E F (.draw id r k s c):=by
 refine⟨hc,d9 (At hP hcov (K:=fun s'=>eD P E F (.go k s' True)) fun σ hσ=>let⟨s',h1,h2⟩:=(gq h σ hσ).2;⟨s',h1,fun β a w hs=>⟨β,s',h2,hs⟩⟩) fun e s' hk=>?_⟩
 obtain⟨rfl,hk⟩:=hk
 exact hk.2
end
end Go.Proofs.YtdiiopjaebnmfaaGreat
