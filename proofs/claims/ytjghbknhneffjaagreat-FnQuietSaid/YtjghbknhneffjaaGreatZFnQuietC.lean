/-
  Texts merged for this claim by shake.py: what its proof needs.
-/
import Derived.Test.YtjghbknhneffjaaGreatZFnB2K
import Derived.Test.YtjghbknhneffjaaGreatZFnB2L
import Derived.Test.YtjghbknhneffjaaGreatZFnQuietB
set_option maxHeartbeats 16000000
set_option maxRecDepth 100000
set_option linter.unusedVariables false
set_option linter.unusedSimpArgs false
namespace Go.Proofs.YtjghbknhneffjaaGreat
section
open Go.RowKit
section
variable {P:Program} {β:Be} {s:S} {a:Act} {w:World} {o:Oper} {r:OpR} {ty:TypeId}
end
end
section
open Go.RowKit
section
variable {β β0':Be} {ρ:Rho} {N:Nat}
end
end
section
open Go.RowKit
end
section
open Go.ChangeShapes Go.WideShapes Go.ChangeAt Go.RowKit
end
section
open Go.RowKit
theorem JL:∀ p∈Er,polOk p=true:=by decide
theorem Jh {s:Int} {p:PolicyD} (hs:1<=s/\s<=2) (hp:p∈Er):i3 s (10*s+1) p=(EO s p,true):=by
 have h1:bj s 1 2=true:=by simp only [bj,Bool.and_eq_true,decide_eq_true_eq];omega
 have h2:aX (eK (10*s+1))=true:=by
  have:s=1\/s=2:=by omega
  rcases this with rfl|rfl<;>decide
 rw [yV (by rw [h1,JL p hp,h2];rfl)];rfl
end
section
end
section
open Go.RowKit
def FewW (w:WorldD):Prop:=EL w.a/\EL w.b
theorem Hf {a:ActD} (h:cO a=true):0<=a.pos:=by
 simp only [cO,gA,bj,Bool.and_eq_true,decide_eq_true_eq] at h
 omega
theorem l2 {w:WorldD}:Sent w []:=fun x hx=>by simp at hx
theorem ua {w:WorldD} {x:LetterD} (h1:¬ sideAt x.to=0) (h2:LetI w x):Sent w [x]:=fun y hy=>by rw [List.mem_singleton.1 hy];exact⟨h1,h2⟩
theorem u5 {w:WorldD} {x:LetterD} (hk:E6 x.kind):LetI w x:=by
  simp only [E6] at hk
  constructor<;>(intro _ h;omega)
theorem Go1.step {w w':WorldD} {l:List LetterD} (h:Go1 w w' l):Step w w' l:=⟨h.c,h.le,h.s.post⟩
theorem E3 {l:List AddrD} {a b:AddrD} (h:aG l a.id < 0) (hb:b∈l):b∈(aJ l a).1:=by
  rw [aJ];split
  · dsimp only
    rw [bO,if_neg (by omega)]
    have:=List.take_append_drop (wG l a.id) l
    rw [<-this] at hb
    rcases List.mem_append.1 hb with hb|hb
    · exact List.mem_append_left _ (List.mem_append_left _ hb)
    · exact List.mem_append_right _ hb
  · exact hb
theorem w4 {l:List AddrD} {n:Int} {b:AddrD} (hb:b∈l) (hn:¬ b.id=n):b∈(be l n).1:=by
  rw [be];split
  · exact hb
  · rename_i h
    obtain⟨k,e,hk,hi⟩:=EW (show 0<=aG l n by omega)
    rw [e,Int.toNat_natCast]
    dsimp only
    obtain⟨j,hj,rfl⟩:=List.getElem_of_mem hb
    have hjk:¬ j=k:=fun hc=>by subst hc;exact hn hi
    rcases Nat.lt_or_gt_of_ne hjk with hl|hl
    · refine List.mem_append_left _ ?_
      rw [List.mem_take_iff_getElem]
      exact⟨j,by omega,rfl⟩
    · refine List.mem_append_right _ ?_
      rw [List.mem_drop_iff_getElem]
      exact⟨j - (k+1),by omega,by congr 1;omega⟩
theorem F_ {l:List SubD} {k:Nat} (h:k∈j0 l):aN l k∈l:=by
  obtain⟨h1,_⟩:=pN h
  rw [ke h1];exact List.getElem_mem h1
theorem FR {l:List Nat} (h:¬ l.length=0):l.headD 0∈l:=by
  cases l with
  |nil=>simp at h
  |cons a r=>simp
theorem v4 (s:SubD):SubKeep s (cW s):=by
  rw [cW];split
  · split
    · exact⟨rfl,rfl,rfl,rfl,rfl,.inr rfl⟩
    · exact⟨rfl,rfl,rfl,rfl,rfl,.inl rfl⟩
  · exact SubKeep.refl s
theorem GA {e:EndD} (h:OkE e) (hk:AT e=true):OkE { eR e with subs:=e.subs.map cW }:=by
  simp only [AT,Bool.and_eq_true,decide_eq_true_eq,List.all_eq_true] at hk
  refine⟨h.side,h.state,h.pol,h.own,h.far,h.halfs.young,FO h.bucket,GZ h.out,h.inp,h.done,h.over,by dsimp only;rw [List.length_map];exact h.subs8,⟨h.nums.1,h.nums.2.1,h.nums.2.2.1,by have:=h.nums.2.2.2.1;simp only [N9,eR] at this⊢;omega,h.nums.2.2.2.2⟩,h.subs.map fun s hs=>?_⟩
  have hel:=h.subs.el s hs
  have ht:=hk.2 s hs
  have hN:N9 (s.tries+1):=by have:=hel.2.2.2.2.2.2;simp only [N9] at this⊢;omega
  rw [cW];split
  · split
    · exact⟨⟨by simp,hel.2.1,hel.2.2.1,hel.2.2.2.1,hel.2.2.2.2.1,hel.2.2.2.2.2.1,hN⟩,rfl,fun _=>rfl⟩
    · exact⟨⟨hel.1,hel.2.1,hel.2.2.1,hel.2.2.2.1,hel.2.2.2.2.1,hel.2.2.2.2.2.1,hN⟩,rfl,fun h=>h⟩
  · exact⟨hel,rfl,fun h=>h⟩
theorem H7 {w w':WorldD} {l:List LetterD} (M:MildA w w') (C:Core w) (h:Core w'->Sent w' l):Go1 w w' l:=⟨(M.put C).core C,(M.put C).le,h ((M.put C).core C)⟩
theorem w6 {w:WorldD} (C:Core w):Go1 w w []:=H7 (MildA.refl C) C fun _=>l2
theorem Ga {w:WorldD} (C:Core w) {s:SubD} (hs:s∈w.a.subs):¬ sideAt s.road.far=0/\¬ sideAt s.road.far=1:=by
  have:=(C.sa s hs).far
  omega
theorem Ip {w:WorldD} (C:Core w):Go1 w (p3 w (cL w.a).1) (cL w.a).2:=by
  have ok:=F8 C.oka
  have st:=(v3 (e:=w.a)).trans C.sta
  unfold cL at ok st⊢
  split at ok
  · rename_i hk
    rw [if_pos hk] at st⊢
    refine H7 ⟨rfl,rfl,rfl,rfl,rfl,⟨[],by simp [p3]⟩,⟨ok,st⟩,⟨rfl,rfl,rfl,rfl⟩,SubsKeep.refl _,fun h hh=>⟨h,hh,HalfKeep.refl h⟩,C.oa,C.fa,fun _ _ h=>h,FQ C.oia,C.iia⟩ C fun C'=>?_
    simp only [kr,Bool.and_eq_true,decide_eq_true_eq,gC] at hk
    rcases nU w.a with h0|⟨m,hm,e⟩
    · omega
    · rw [e,Int.toNat_natCast,ke hm]
      obtain⟨f0,f1⟩:=Ga C (List.getElem_mem hm)
      refine ua f0 ?_
      have hs:=w3 C.oia hk.1.1
      constructor<;>(intro q1 q2;simp only [vK,aq,ah] at q1 q2;try omega)
      first|exact .inr hs|exact absurd q1 f1
  · rename_i hk
    rw [if_neg hk]
    exact w6 C
theorem GQ:∀ {k:Nat} {w:WorldD},Core w->Go1 w (p3 w (cu k w.a).1) (cu k w.a).2
  |0,w,C=>w6 C
  |k+1,w,C=>by
    have h1:=Ip C
    have h2:=GQ (k:=k) h1.c
    exact h1.trans h2
theorem Iq {w:WorldD} (C:Core w):Sent w (bX w.a):=by
  unfold bX;split
  · rename_i hk
    simp only [AS,Bool.and_eq_true,decide_eq_true_eq,Bool.not_eq_true',decide_eq_false_iff_not] at hk
    intro x hx
    obtain⟨q,hq,rfl⟩:=List.mem_map.1 hx
    have hq':=(List.mem_filter.1 hq).1
    have hs:=F_ (FR hk.2)
    obtain⟨f0,f1⟩:=Ga C hs
    refine⟨f0,?_⟩
    constructor<;>(intro q1 q2;simp only [sh,aq,ah] at q1 q2;try omega)
    all_goals
      intro i d hm
      first
        |exact absurd q1 f1
        | (simp only [sh,aq] at hm
           injection hm with _ _ _ hi hd
           exact⟨by rw [<-hd];exact C.oa q hq',.inl ⟨q,hq',hi,hd⟩⟩)
  · exact l2
theorem HS {w:WorldD} {l:List LetterD} (C:Core w) (hl:Sent w l):Go1 w (p3 w (bQ w.a l).1) (bQ w.a l).2:=by
  have h:=GQ (k:=3) C
  exact⟨h.c,h.le,zR (zR (hl.mono h.le) ((Iq C).mono h.le)) h.s⟩
theorem Ir {w:WorldD} (C:Core w):Go1 w (p3 w (cQ w.a).1) (cQ w.a).2:=by
  have hst:=C.sta
  unfold cQ
  by_cases hk:AT w.a=true
  · rw [if_pos hk,if_pos hst]
    have ok:OkE { eR w.a with subs:=w.a.subs.map cW }:=GA C.oka hk
    have M:MildA w (p3 w { eR w.a with subs:=w.a.subs.map cW }):=by
      refine⟨rfl,rfl,rfl,rfl,rfl,⟨[],by simp [p3]⟩,⟨ok,hst⟩,⟨rfl,rfl,rfl,rfl⟩,SubsKeep.map fun s _=>v4 s,fun h hh=>⟨h,(List.mem_filter.1 hh).1,HalfKeep.refl h⟩,C.oa,C.fa,fun _ _ h=>h,HQ C.oia,C.iia⟩
    have g:Go1 w (p3 w { eR w.a with subs:=w.a.subs.map cW }) (w.a.subs.flatMap (di w.a)):=by
      refine H7 M C fun C' x hx=>?_
      obtain⟨s,hs,hx⟩:=List.mem_flatMap.1 hx
      have S:=C.sa s hs
      have hf:=S.far
      rw [di] at hx
      split at hx
      case isFalse=>simp at hx
      rename_i h12
      have h1000:=S.ask h12
      split at hx
      · simp at hx
      rename_i hn9
      split at hx
      · simp at hx
      have hin:cW s∈(p3 w { eR w.a with subs:=w.a.subs.map cW }).a.subs:=List.mem_map_of_mem hs
      have K:=v4 s
      split at hx
      · rw [List.mem_singleton.1 hx]
        refine⟨by show ¬ sideAt s.road.far=0;omega,?_⟩
        constructor<;>(intro q1 q2;simp only [eM,aq,ah] at q1 q2;try omega)
        exact .inr ⟨_,hin,by rw [K.mine];exact h1000,K.mine.symm,K.take.symm,by rw [K.road];rfl⟩
      · rename_i h1
        rw [List.mem_singleton.1 hx]
        refine⟨by show ¬ sideAt s.road.far=0;omega,?_⟩
        constructor<;>(intro q1 q2;simp only [cb,aq,ah] at q1 q2;try omega)
        intro m n hm
        simp only [cb,aq,p3] at hm
        injection hm with _ _ _ hm hn'
        exact⟨_,hin,by rcases K.state with q|q<;>omega,by rw [K.mine];exact h1000,by rw [K.mine];exact hm.symm,by rw [K.theirs];exact hn'.symm,by rw [K.road];rfl⟩
    have t:=HS g.c g.s
    exact⟨t.c,g.le.trans t.le,t.s⟩
  · rw [if_neg hk];exact w6 C
theorem Is {w:WorldD} (C:Core w) (r:RoadD) (b:Bool):Go1 w (p3 w (dz w.a r b).1) (dz w.a r b).2:=by
  have ok:=G0 (r:=r) (b:=b) C.oka
  unfold dz at ok⊢
  split at ok
  · rename_i hk
    rw [if_pos hk]
    simp only [w_,Bool.and_eq_true,decide_eq_true_eq,vP,u0] at hk
    obtain⟨⟨⟨⟨⟨⟨⟨k1,k2⟩,k3⟩,k4⟩,k5⟩,k6⟩,k7⟩,k8⟩:=hk
    have da:=C.da
    simp only [fN,eh,List.any_eq_true,beq_iff_eq] at k5 k6
    obtain⟨q,q1,q2⟩:=k5
    obtain⟨f,f1,f2⟩:=k6
    have ho:=C.oa q q1
    have hf:=(C.fa f f1).1
    rw [q2] at ho
    rw [f2] at hf
    have hmem:eN w.a r b∈w.a.subs++[eN w.a r b]:=by simp
    have P:PutA w (p3 w { w.a with subs:=w.a.subs++[eN w.a r b],draw:=w.a.draw+4 }):=by
      refine⟨rfl,rfl,rfl,rfl,rfl,⟨[],by simp [p3]⟩,ok.1,ok.2.trans C.sta,C.sia,rfl,rfl,⟨by dsimp only [p3];omega,by dsimp only [p3];omega⟩,fun s hs=>⟨s,List.mem_append_left _ hs,SubTo.refl s⟩,fun s hs=>?_,?_,fun h hh=>?_,C.oa,C.fa,fun _ _ h=>h,C.oia,C.iia⟩
      · rcases List.mem_append.1 hs with hs|hs
        · have S:=C.sa s hs
          exact⟨by have:=S.t4;dsimp only [p3];omega,S.tn,S.mine,S.own,S.far,S.th,S.on,S.ask⟩
        · rw [List.mem_singleton.1 hs]
          refine⟨by simp only [eN,p3];omega,fun hc=>?_,.inr ⟨rfl,fun hc=>?_⟩,ho,hf,⟨by have:=C.db;simp only [eN];omega,fun h hh hm=>?_⟩,fun h3=>by simp [eN] at h3,fun _=>by simp only [eN];omega⟩
          · have:=(C.nn _ hc).1 (by simp only [eN];omega)
            simp only [eN] at this
            omega
          · have:=(C.nn _ hc).1 (by simp only [eN];omega)
            simp only [eN] at this
            omega
          · have:=(C.hb h hh).m4
            simp only [eN] at hm
            omega
      · dsimp only [p3]
        rw [List.pairwise_append]
        refine⟨C.sad,List.pairwise_singleton ..,fun s hs t ht=>?_⟩
        rw [List.mem_singleton.1 ht]
        have:=(C.sa s hs).t4
        simp only [eN]
        omega
      · have S:=C.ha h hh
        refine⟨by have:=S.m4;dsimp only [p3];omega,fun s hs=>?_,S.th⟩
        rcases List.mem_append.1 hs with hs|hs
        · exact S.sep s hs
        · rw [List.mem_singleton.1 hs]
          have:=S.m4
          simp only [eN]
          omega
    refine⟨P.core C,P.le,ua ?_ ?_⟩
    · show ¬ sideAt r.far=0
      omega
    · constructor<;>(intro q1 q2;simp only [eM,eN,aq,ah] at q1 q2;try omega)
      exact .inr ⟨_,hmem,by simp only [eN];omega,rfl,rfl,rfl⟩
  · rename_i hk
    rw [if_neg hk];exact w6 C
theorem HT {far:List AddrD}:∀ {l:List RoadD} {w:WorldD},Core w->Go1 w (p3 w (dS far w.a l).1) (dS far w.a l).2
  |[],w,C=>w6 C
  |r::l,w,C=>by
    have h1:=Is C r (aZ far r.far)
    have h2:=HT (far:=far) (l:=l) h1.c
    exact h1.trans h2
theorem IH {w:WorldD} {a:ActD} (C:Core w) (G:SmallP w.a.inp) (hs:a.side=1) (hb:dl w a=false):Go1 w (cq (gD w a) 1 (ie w.a a).1) (ie w.a a).2:=by
  have ok:=G1 (a:=a) C.oka G
  have hE:bB w a.side=w.a:=by rw [hs];rfl
  have heo:af w.a=true:=p5.2 C.oka
  have hset:∀ (u:WorldD) (e:EndD),cq u 1 e={ u with a:=e }:=fun u e=>rfl
  rw [hset]
  unfold ie at ok⊢
  unfold gD
  rw [hE]
  by_cases k1:a.kind=1
  · simp only [if_pos k1]
    rw [dT,if_pos hs]
    have ok1:=Ft (t:=a.text) C.oka
    have hw:cc w.a a.text=({ w.a with out:=(eL w.a.out a.text).1 },(eL w.a.out a.text).2):=AN heo
    rw [hw] at ok1
    rw [hw,aA,hw]
    dsimp only
    have M:MildA w { w with wroteA:=w.wroteA++a.text.take (eL w.a.out a.text).2,a:={ w.a with out:=(eL w.a.out a.text).1 } }:=
      ⟨rfl,rfl,rfl,rfl,rfl,⟨_,rfl⟩,⟨ok1.1,ok1.2.trans C.sta⟩,⟨rfl,rfl,rfl,rfl⟩,SubsKeep.refl _,fun h hh=>⟨h,hh,HalfKeep.refl h⟩,C.oa,C.fa,fun _ _ h=>h,Gy C.oia,C.iia⟩
    have g:=H7 M C fun _=>l2
    have g2:=GQ (k:=3) g.c
    exact g.trans g2
  simp only [if_neg k1] at ok⊢
  by_cases k2:a.kind=2
  · simp only [if_pos k2] at ok⊢
    rw [bR,if_pos hs]
    have hr:bi w.a a.many=({ w.a with inp:=(bK w.a.inp a.many).1 },(bK w.a.inp a.many).2):=AP heo
    rw [hr] at ok⊢
    exact H7 ⟨rfl,rfl,rfl,rfl,rfl,⟨[],by simp⟩,⟨ok.1,ok.2.trans C.sta⟩,⟨rfl,rfl,rfl,rfl⟩,SubsKeep.refl _,fun h hh=>⟨h,hh,HalfKeep.refl h⟩,C.oa,C.fa,fun _ _ h=>h,C.oia,HO C.iia⟩ C fun _=>l2
  simp only [if_neg k2] at ok⊢
  by_cases k3:a.kind=3
  · simp only [if_pos k3]
    exact Ir C
  simp only [if_neg k3] at ok⊢
  by_cases k4:a.kind=4
  · simp only [if_pos k4]
    unfold bb
    split
    · exact HT C
    · exact w6 C
  simp only [if_neg k4] at ok⊢
  by_cases k5:a.kind=5
  · simp only [if_pos k5] at ok⊢
    unfold az at ok⊢
    split at ok
    · rename_i hk
      rw [if_pos hk]
      simp only [AR,Bool.and_eq_true,decide_eq_true_eq] at hk
      simp only [dl,k5,decide_true,Bool.true_and,Bool.or_eq_false_iff,Bool.not_eq_false',decide_eq_true_eq,hs] at hb
      refine H7 ⟨rfl,rfl,rfl,rfl,rfl,⟨[],by simp⟩,⟨ok.1,ok.2.trans C.sta⟩,⟨rfl,rfl,rfl,rfl⟩,SubsKeep.refl _,fun h hh=>⟨h,hh,HalfKeep.refl h⟩,fun q hq=>?_,C.fa,fun i d h=>?_,C.oia,C.iia⟩ C fun _=>l2
      · rcases sN hq with rfl|hq
        · exact hb.1
        · exact C.oa q hq
      · rcases h with⟨q,h1,h2,h3⟩|h
        · exact .inl ⟨q,E3 hk.1.2 h1,h2,h3⟩
        · exact .inr h
    · rename_i hk
      rw [if_neg hk];exact w6 C
  simp only [if_neg k5] at ok⊢
  by_cases k6:a.kind=6
  · simp only [if_pos k6] at ok⊢
    unfold iA at ok⊢
    split at ok
    · rename_i hk
      rw [if_pos hk]
      have K:SubsKeep w.a.subs (ic w.a a.pos):=SubsKeep.map fun s _=>by
        rw [Dt];split
        · exact⟨rfl,rfl,rfl,rfl,rfl,.inr rfl⟩
        · exact SubKeep.refl s
      refine H7 ⟨rfl,rfl,rfl,rfl,rfl,⟨[],by simp⟩,⟨ok.1,ok.2.trans C.sta⟩,⟨rfl,rfl,rfl,rfl⟩,K,fun h hh=>⟨h,hh,HalfKeep.refl h⟩,fun q hq=>C.oa q (qs hq),C.fa,fun i d h=>?_,C.oia,C.iia⟩ C fun C' x hx=>?_
      · rcases h with⟨q,h1,h2,h3⟩|h
        · by_cases hn:q.id=a.pos
          · exact .inr (by dsimp only;rw [<-h2,hn];exact Gr)
          · exact .inl ⟨q,w4 h1 hn,h2,h3⟩
        · exact .inr (Gs h)
      · obtain⟨k,hk2,rfl⟩:=List.mem_map.1 hx
        exact⟨(Ga C' (F_ hk2)).1,u5 (by simp [E6,Bj,aq])⟩
    · rename_i hk
      rw [if_neg hk];exact w6 C
  simp only [if_neg k6] at ok⊢
  unfold ks at ok⊢
  split at ok
  · rename_i hk
    rw [if_pos hk]
    simp only [EE,Bool.and_eq_true,decide_eq_true_eq,vP] at hk
    refine H7 ⟨rfl,rfl,rfl,rfl,rfl,⟨[],by simp⟩,⟨ok.1,ok.2.trans C.sta⟩,⟨rfl,rfl,rfl,rfl⟩,SubsKeep.st4 _ _,fun h hh=>⟨h,hh,HalfKeep.refl h⟩,C.oa,C.fa,fun _ _ h=>h,C.oia,C.iia⟩ C fun _=>ua ?_ (u5 (by simp [E6,aq]))
    have hl:a.pos.toNat < w.a.subs.length:=by omega
    rw [ke hl]
    exact (Ga C (List.getElem_mem hl)).1
  · rename_i hk
    rw [if_neg hk];exact w6 C
theorem H8 {w w':WorldD} {l:List LetterD} (M:MildB w w') (C:Core w) (h:Core w'->Sent w' l):Go1 w w' l:=⟨(M.put C).core C,(M.put C).le,h ((M.put C).core C)⟩
theorem Fy {w:WorldD} (C:Core w):Go1 w w []:=H8 (MildB.refl C) C fun _=>l2
theorem Gb {w:WorldD} (C:Core w) {s:SubD} (hs:s∈w.b.subs):¬ sideAt s.road.far=0/\¬ sideAt s.road.far=2:=by
  have:=(Hm C hs).1
  omega
theorem It {w:WorldD} (C:Core w):Go1 w (inB w (cL w.b).1) (cL w.b).2:=by
  have ok:=F8 C.okb
  have st:=(v3 (e:=w.b)).trans C.stb
  unfold cL at ok st⊢
  split at ok
  · rename_i hk
    rw [if_pos hk] at st⊢
    refine H8 ⟨rfl,rfl,rfl,rfl,rfl,⟨[],by simp [inB]⟩,⟨ok,st⟩,⟨rfl,rfl,rfl,rfl⟩,SubsKeep.refl _,List.Sublist.refl _,C.ob,C.fb,fun _ _ h=>h,FQ C.oib,C.iib⟩ C fun C'=>?_
    simp only [kr,Bool.and_eq_true,decide_eq_true_eq,gC] at hk
    rcases nU w.b with h0|⟨m,hm,e⟩
    · omega
    · rw [e,Int.toNat_natCast,ke hm]
      obtain⟨f0,f1⟩:=Gb C (List.getElem_mem hm)
      refine ua f0 ?_
      have hs:=w3 C.oib hk.1.1
      constructor<;>(intro q1 q2;simp only [vK,aq,ah] at q1 q2;try omega)
      first|exact .inr hs|exact absurd q1 f1
  · rename_i hk
    rw [if_neg hk]
    exact Fy C
theorem GR:∀ {k:Nat} {w:WorldD},Core w->Go1 w (inB w (cu k w.b).1) (cu k w.b).2
  |0,w,C=>Fy C
  |k+1,w,C=>by
    have h1:=It C
    have h2:=GR (k:=k) h1.c
    exact h1.trans h2
theorem Iu {w:WorldD} (C:Core w):Sent w (bX w.b):=by
  unfold bX;split
  · rename_i hk
    simp only [AS,Bool.and_eq_true,decide_eq_true_eq,Bool.not_eq_true',decide_eq_false_iff_not] at hk
    intro x hx
    obtain⟨q,hq,rfl⟩:=List.mem_map.1 hx
    have hq':=(List.mem_filter.1 hq).1
    have hs:=F_ (FR hk.2)
    obtain⟨f0,f1⟩:=Gb C hs
    refine⟨f0,?_⟩
    constructor<;>(intro q1 q2;simp only [sh,aq,ah] at q1 q2;try omega)
    all_goals
      intro i d hm
      first
        |exact absurd q1 f1
        | (simp only [sh,aq] at hm
           injection hm with _ _ _ hi hd
           exact⟨by rw [<-hd];exact C.ob q hq',.inl ⟨q,hq',hi,hd⟩⟩)
  · exact l2
theorem HU {w:WorldD} {l:List LetterD} (C:Core w) (hl:Sent w l):Go1 w (inB w (bQ w.b l).1) (bQ w.b l).2:=by
  have h:=GR (k:=3) C
  exact⟨h.c,h.le,zR (zR (hl.mono h.le) ((Iu C).mono h.le)) h.s⟩
theorem Iv {w:WorldD} (C:Core w):Go1 w (inB w (cQ w.b).1) (cQ w.b).2:=by
  have hst:=C.stb
  unfold cQ
  by_cases hk:AT w.b=true
  · rw [if_pos hk,if_pos hst]
    have ok:OkE { eR w.b with subs:=w.b.subs.map cW }:=GA C.okb hk
    have M:MildB w (inB w { eR w.b with subs:=w.b.subs.map cW }):=by
      refine⟨rfl,rfl,rfl,rfl,rfl,⟨[],by simp [inB]⟩,⟨ok,hst⟩,⟨rfl,rfl,rfl,rfl⟩,SubsKeep.map fun s _=>v4 s,List.filter_sublist,C.ob,C.fb,fun _ _ h=>h,HQ C.oib,C.iib⟩
    have g:Go1 w (inB w { eR w.b with subs:=w.b.subs.map cW }) (w.b.subs.flatMap (di w.b)):=by
      refine H8 M C fun C' x hx=>?_
      obtain⟨s,hs,hx⟩:=List.mem_flatMap.1 hx
      have S:=(C.sb s hs).st
      rw [di,if_neg (by omega)] at hx
      simp at hx
    have t:=HU g.c g.s
    exact⟨t.c,g.le.trans t.le,t.s⟩
  · rw [if_neg hk];exact Fy C
theorem II {w:WorldD} {a:ActD} (C:Core w) (G:SmallP w.b.inp) (hs:a.side=2) (hb:dl w a=false):Go1 w (cq (gD w a) 2 (ie w.b a).1) (ie w.b a).2:=by
  have ok:=G1 (a:=a) C.okb G
  have hE:bB w a.side=w.b:=by rw [hs];rfl
  have heo:af w.b=true:=p5.2 C.okb
  have hset:∀ (u:WorldD) (e:EndD),cq u 2 e={ u with b:=e }:=fun u e=>rfl
  rw [hset]
  unfold ie at ok⊢
  unfold gD
  rw [hE]
  by_cases k1:a.kind=1
  · simp only [if_pos k1]
    rw [dT,if_neg (by omega)]
    have ok1:=Ft (t:=a.text) C.okb
    have hw:cc w.b a.text=({ w.b with out:=(eL w.b.out a.text).1 },(eL w.b.out a.text).2):=AN heo
    rw [hw] at ok1
    rw [hw,aA,hw]
    dsimp only
    have M:MildB w { w with wroteB:=w.wroteB++a.text.take (eL w.b.out a.text).2,b:={ w.b with out:=(eL w.b.out a.text).1 } }:=
      ⟨rfl,rfl,rfl,rfl,rfl,⟨_,rfl⟩,⟨ok1.1,ok1.2.trans C.stb⟩,⟨rfl,rfl,rfl,rfl⟩,SubsKeep.refl _,List.Sublist.refl _,C.ob,C.fb,fun _ _ h=>h,Gy C.oib,C.iib⟩
    have g:=H8 M C fun _=>l2
    have g2:=GR (k:=3) g.c
    exact g.trans g2
  simp only [if_neg k1] at ok⊢
  by_cases k2:a.kind=2
  · simp only [if_pos k2] at ok⊢
    rw [bR,if_neg (by omega)]
    have hr:bi w.b a.many=({ w.b with inp:=(bK w.b.inp a.many).1 },(bK w.b.inp a.many).2):=AP heo
    rw [hr] at ok⊢
    exact H8 ⟨rfl,rfl,rfl,rfl,rfl,⟨[],by simp⟩,⟨ok.1,ok.2.trans C.stb⟩,⟨rfl,rfl,rfl,rfl⟩,SubsKeep.refl _,List.Sublist.refl _,C.ob,C.fb,fun _ _ h=>h,C.oib,HO C.iib⟩ C fun _=>l2
  simp only [if_neg k2] at ok⊢
  by_cases k3:a.kind=3
  · simp only [if_pos k3]
    exact Iv C
  simp only [if_neg k3] at ok⊢
  by_cases k4:a.kind=4
  · simp only [if_pos k4]
    unfold bb
    rw [if_neg (fun hc=>by have:=C.sib;omega)]
    exact Fy C
  simp only [if_neg k4] at ok⊢
  by_cases k5:a.kind=5
  · simp only [if_pos k5] at ok⊢
    unfold az at ok⊢
    split at ok
    · rename_i hk
      rw [if_pos hk]
      simp only [AR,Bool.and_eq_true,decide_eq_true_eq] at hk
      simp only [dl,k5,decide_true,Bool.true_and,Bool.or_eq_false_iff,Bool.not_eq_false',decide_eq_true_eq,hs] at hb
      refine H8 ⟨rfl,rfl,rfl,rfl,rfl,⟨[],by simp⟩,⟨ok.1,ok.2.trans C.stb⟩,⟨rfl,rfl,rfl,rfl⟩,SubsKeep.refl _,List.Sublist.refl _,fun q hq=>?_,C.fb,fun i d h=>?_,C.oib,C.iib⟩ C fun _=>l2
      · rcases sN hq with rfl|hq
        · exact hb.1
        · exact C.ob q hq
      · rcases h with⟨q,h1,h2,h3⟩|h
        · exact .inl ⟨q,E3 hk.1.2 h1,h2,h3⟩
        · exact .inr h
    · rename_i hk
      rw [if_neg hk];exact Fy C
  simp only [if_neg k5] at ok⊢
  by_cases k6:a.kind=6
  · simp only [if_pos k6] at ok⊢
    unfold iA at ok⊢
    split at ok
    · rename_i hk
      rw [if_pos hk]
      have K:SubsKeep w.b.subs (ic w.b a.pos):=SubsKeep.map fun s _=>by
        rw [Dt];split
        · exact⟨rfl,rfl,rfl,rfl,rfl,.inr rfl⟩
        · exact SubKeep.refl s
      refine H8 ⟨rfl,rfl,rfl,rfl,rfl,⟨[],by simp⟩,⟨ok.1,ok.2.trans C.stb⟩,⟨rfl,rfl,rfl,rfl⟩,K,List.Sublist.refl _,fun q hq=>C.ob q (qs hq),C.fb,fun i d h=>?_,C.oib,C.iib⟩ C fun C' x hx=>?_
      · rcases h with⟨q,h1,h2,h3⟩|h
        · by_cases hn:q.id=a.pos
          · exact .inr (by dsimp only;rw [<-h2,hn];exact Gr)
          · exact .inl ⟨q,w4 h1 hn,h2,h3⟩
        · exact .inr (Gs h)
      · obtain⟨k,hk2,rfl⟩:=List.mem_map.1 hx
        exact⟨(Gb C' (F_ hk2)).1,u5 (by simp [E6,Bj,aq])⟩
    · rename_i hk
      rw [if_neg hk];exact Fy C
  simp only [if_neg k6] at ok⊢
  unfold ks at ok⊢
  split at ok
  · rename_i hk
    rw [if_pos hk]
    simp only [EE,Bool.and_eq_true,decide_eq_true_eq,vP] at hk
    refine H8 ⟨rfl,rfl,rfl,rfl,rfl,⟨[],by simp⟩,⟨ok.1,ok.2.trans C.stb⟩,⟨rfl,rfl,rfl,rfl⟩,SubsKeep.st4 _ _,List.Sublist.refl _,C.ob,C.fb,fun _ _ h=>h,C.oib,C.iib⟩ C fun _=>ua ?_ (u5 (by simp [E6,aq]))
    have hl:a.pos.toNat < w.b.subs.length:=by omega
    rw [ke hl]
    exact (Gb C (List.getElem_mem hl)).1
  · rename_i hk
    rw [if_neg hk];exact Fy C
theorem GS {w:WorldD} {x:LetterD} (C:Core w) (h:xa w x=true):(∀ k a b m n,x.tag=⟨k,a,b,m,n⟩->1000<=a->¬ k=0->k=1/\Loose w.nums n)/\Loose w.nums x.nonce/\Loose w.nums x.sgn/\Loose w.nums x.give:=by
 simp only [xa,Bool.and_eq_true,Bool.not_eq_true',decide_eq_false_iff_not,List.all_cons,List.all_nil,Bool.or_eq_true,decide_eq_true_eq,wp,and_true] at h
 obtain⟨⟨⟨h1,h2⟩,h3⟩,_,q2,q3,q4⟩:=h
 refine⟨fun k a b m n he ha hk=>?_,q2,q4,q3⟩
 simp only [f7,Bool.or_eq_true,decide_eq_true_eq,Bool.and_eq_true,wp,List.any_eq_true] at h3
 rw [he] at h3
 rcases h3 with (h3|h3)|⟨u,u1,u2⟩
 ·rw [lF] at h3
  injection h3 with e
  exact absurd e hk
 ·rw [C.keys] at h3
  simp only [List.mem_cons,List.not_mem_nil,or_false] at h3
  omega
 have:=C.tags u (List.mem_of_mem_take u1)
 rw [u2] at this
 exact this
theorem GB {w:WorldD} {x:LetterD} (C:Core w) (h:xa w x=true):LetI w x:=by
 obtain⟨no,q2,q4,_⟩:=GS C h
 have n1:∀ k a b m n,x.tag=⟨k,a,b,m,n⟩->1000<=a->¬ k=0->¬ k=1->False:=fun k a b m n he ha hk h1=>h1 (no k a b m n he ha hk).1
 exact⟨fun _ _=>q2,fun _ _ m hm=>.inl (no _ _ _ _ _ hm C.kb (by decide)).2,fun _ _ m n hm=>n1 _ _ _ _ _ hm C.kb (by decide) (by decide),fun _ _=>.inl q4,fun _ _ i d hm=>(n1 _ _ _ _ _ hm C.kb (by decide) (by decide)).elim,fun _ _=>.inl q4,fun _ _=>.inl q2,fun _ _ m n hm=>(n1 _ _ _ _ _ hm C.ka (by decide) (by decide)).elim,fun _ _ i d hm=>(n1 _ _ _ _ _ hm C.ka (by decide) (by decide)).elim,fun _ _=>.inl q4⟩
theorem Inv.step {w w':WorldD} {l:List LetterD} {side:Int} (h:Inv w) (S:Step w w' l) (hb:w'.bag=w.bag) (hp:w'.past=w.past):Inv (an side w' l):=
 FP ⟨S.c,fun x hx=>(h.bag x (hb▸hx)).mono S.le,fun x hx=>(h.past x (hp▸hx)).mono S.le⟩ S.post
theorem G6 {w:WorldD} {l:List LetterD} (h:Inv w) (hl:∀ x∈l,LetI w x):Inv { w with bag:=l }:=by
 have L:Le w { w with bag:=l }:=E8 rfl rfl (fun _ h=>h) rfl rfl
 exact⟨Gw h.c,fun x hx=>(hl x hx).mono L,fun x hx=>(h.past x hx).mono L⟩
theorem Hn {w:WorldD} {x:LetterD} (h:Inv w) (ga:SmallP w.a.inp) (gb:SmallP w.b.inp) (L:LetI w x):Inv (eF w x):=by
 rcases oU x.to with h0|h0|h0
 ·rw [eF,if_pos h0];exact h
 ·rw [eF,if_neg (by omega),qe,if_pos (.inl h0),h0]
  exact h.step (In h.c ga L h0) rfl rfl
 rw [eF,if_neg (by omega),qe,if_pos (.inr h0),h0]
 exact h.step (Io h.c gb L h0) rfl rfl
theorem Ho (w:WorldD) (a:ActD) (s:Int) (e:EndD):(cq (gD w a) s e).bag=w.bag/\(cq (gD w a) s e).past=w.past:=by
 unfold cq gD dT bR
 repeat' split
 all_goals exact⟨rfl,rfl⟩
theorem Fz {l:List LetterD} {n:Nat} (h:n < l.length):oX l n∈l:=by
 rw [oX,List.getD_eq_getElem?_getD,List.getElem?_eq_getElem h];exact List.getElem_mem h
theorem GT {l:List LetterD} {n:Int} {x:LetterD} (h:x∈fF l n):x∈l:=(qr l n.toNat).subset h
theorem Hq {w:WorldD} {a:ActD} (h:Inv w) (ga:SmallP w.a.inp) (gb:SmallP w.b.inp):Inv (iP w a).1:=by
 unfold iP;split
 ·rename_i hok
  have hs:=uQ hok
  have hp:=Hf hok
  split
  ·unfold eX;split
   ·exact h
   rename_i hb
   have hb:dl w a=false:=by simpa using hb
   obtain⟨k1,k2⟩:=Ho w a a.side (ie (bB w a.side) a).1
   rcases hs with hs|hs
   ·have g:=IH h.c ga hs hb
    have hE:bB w a.side=w.a:=by rw [hs];rfl
    rw [hE] at k1 k2⊢
    rw [hs] at k1 k2⊢
    exact h.step g.step k1 k2
   have g:=II h.c gb hs hb
   have hE:bB w a.side=w.b:=by rw [hs];rfl
   rw [hE] at k1 k2⊢
   rw [hs] at k1 k2⊢
   exact h.step g.step k1 k2
  have hout:Inv { w with bag:=fF w.bag a.pos }:=G6 h fun x hx=>h.bag x (GT hx)
  have app:∀ x,LetI w x->Inv { w with bag:=w.bag++[x] }:=fun x hx=>G6 h fun y hy=>by
   rcases List.mem_append.1 hy with hy|hy
   ·exact h.bag y hy
   rw [List.mem_singleton.1 hy];exact hx
  unfold ce
  split
  ·split
   ·exact h
   rename_i hl
   split
   ·refine Hn hout ga gb ?_
    exact (h.bag _ (Fz (show a.pos.toNat < w.bag.length by omega))).mono (E8 rfl rfl (fun _ h=>h) rfl rfl)
   exact hout
  split
  ·split
   ·exact h
   rename_i hl
   rw [not_or] at hl
   exact app _ (h.bag _ (Fz (by omega)))
  split
  ·split
   ·exact h
   rename_i hm
   split
   ·exact h
   exact app _ (GB h.c (by simpa using hm))
  split
  ·exact h
  rename_i hl
  rw [not_or] at hl
  exact app _ (h.past _ (Fz (by omega)))
 exact h
theorem Core.pairedA {w:WorldD} (C:Core w):p7 w.a w.b=true:=by
 simp only [p7,List.all_eq_true,Bool.or_eq_true,bne_iff_ne,np,List.any_eq_true]
 intro s hs
 by_cases h3:s.state=3
 ·obtain⟨t,t1,t2,t3,t4⟩:=(C.sa s hs).on h3
  refine .inr ⟨t,t1,?_⟩
  simp [p6,t2,bk,t3,t4]
 exact .inl h3
theorem Core.pairedB {w:WorldD} (C:Core w):p7 w.b w.a=true:=by
 simp only [p7,List.all_eq_true,Bool.or_eq_true,bne_iff_ne,np,List.any_eq_true]
 intro s hs
 obtain⟨t,t1,_,t2,t3,t4⟩:=(C.sb s hs).like
 refine .inr ⟨t,t1,?_⟩
 simp [p6,t2,bk,t3,t4]
theorem InI.begins {W R:List UInt8} {p:PiecesD} (h:InI W R p):Es W (R++p.ready)=true:=by
 obtain⟨T,hT⟩:=h.pre
 simp only [Go.Proofs.YtjghbknhneffjaaGreat.Es,Bool.and_eq_true,decide_eq_true_eq,beq_iff_eq]
 rw [hT]
 exact⟨by simp only [List.length_append];omega,List.take_left ..⟩
theorem Core.streams {w:WorldD} (C:Core w):la w=true:=by
 rw [la,C.iib.begins,C.iia.begins];rfl
theorem Core.roadsA {w:WorldD} (C:Core w):lb w.a=true:=by
 rw [lb,List.all_eq_true]
 intro s hs
 have S:=C.sa s hs
 rw [c6,S.own,S.far,C.sia];decide
theorem Core.roadsB {w:WorldD} (C:Core w):lb w.b=true:=by
 rw [lb,List.all_eq_true]
 intro s hs
 obtain⟨h1,h2⟩:=Hm C hs
 rw [c6,h1,h2,C.sib];decide
theorem G7 {b:EndD} {f:AddrD} (h:Told b f.id f.addr):tS b f=true:=by
 simp only [tS,fN,Bool.or_eq_true,List.any_eq_true,beq_iff_eq,wp]
 exact h.imp (fun⟨q,q1,_,q3⟩=>⟨q,q1,q3⟩) id
theorem Core.far_ {w:WorldD} (C:Core w):v6 w=true:=by
 simp only [v6,GF,Bool.and_eq_true,List.all_eq_true]
 exact⟨fun f hf=>G7 (C.fa f hf).2,fun f hf=>G7 (C.fb f hf).2⟩
theorem Start.inv {w:WorldD} (S:Start w):Inv w:=by
 have h:=S.e
 simp only [startE,Bool.and_eq_true,decide_eq_true_eq] at h
 obtain⟨⟨⟨⟨⟨⟨oa,ob⟩,a1,a2,a3,a4,a5,a6,a7,a8,a9,a10,a11,a12⟩,b1,b2,b3,b4,b5,b6,b7,b8⟩,c1,c2⟩,d1,d2,d3,d4,d5,d6⟩,e1,e2⟩:=h
 refine⟨⟨p5.1 oa,p5.1 ob,a1,a2,a3,a4,by omega,by omega,by omega,by omega,by omega,S.keys,by rw [S.tags];simp,by omega,by omega,by rw [S.nums];simp,?_,by rw [e1];simp,?_,by rw [b1];simp,by rw [b2];simp,by rw [b2];simp,by rw [b3];decide,by rw [b4];decide,?_,?_,by rw [S.wa,c1];exact⟨by decide,rfl⟩,by rw [S.wb,c2];exact⟨by decide,rfl⟩,by rw [S.wb,S.ra];exact⟨d1,⟨[],by rw [d2];rfl⟩,by rw [d3];simp⟩,by rw [S.wa,S.rb];exact⟨d4,⟨[],by rw [d5];rfl⟩,by rw [d6];simp⟩⟩,by rw [S.bag];simp,by rw [S.past];simp⟩
 ·rw [S.nums,b2,e1,e2,a9,a10]
  intro s hs
  rw [List.mem_singleton.1 hs]
  exact⟨by decide,by simp,.inl rfl,by decide,by decide,⟨by decide,by simp⟩,fun _=>⟨_,List.mem_singleton.2 rfl,rfl,rfl,rfl⟩,by decide⟩
 ·rw [S.nums,e1,e2,a10]
  intro s hs
  rw [List.mem_singleton.1 hs]
  exact⟨by decide,by simp,.inl rfl,⟨_,List.mem_singleton.2 rfl,by decide,rfl,rfl,rfl⟩⟩
 ·rw [b5]
  intro f hf
  rw [dO,List.mem_singleton] at hf
  rw [hf]
  exact⟨by decide,.inl ⟨⟨0,21,false,true⟩,by rw [b4];simp [eK],rfl,rfl⟩⟩
 rw [b6]
 intro f hf
 rw [dO,List.mem_singleton] at hf
 rw [hf]
 exact⟨by decide,.inl ⟨⟨0,11,false,true⟩,by rw [b3];simp [eK],rfl,rfl⟩⟩
def c5 (w:WorldD):Bool:=af w.a && af w.b && p7 w.a w.b && p7 w.b w.a && la w && lb w.a && lb w.b && v6 w
theorem Fo (w:WorldD) (a0:w.a.own.length<=1048576) (a1:w.a.far.length<=1048576) (a2:w.a.subs.length<=1048576) (a3:w.a.halfs.length<=1048576) (a4:w.a.inp.list.length<=1048576) (a5:w.a.done.length<=1048576) (a6:w.a.over.length<=1048576) (b0:w.b.own.length<=1048576) (b1:w.b.far.length<=1048576) (b2:w.b.subs.length<=1048576) (b3:w.b.halfs.length<=1048576) (b4:w.b.inp.list.length<=1048576) (b5:w.b.done.length<=1048576) (b6:w.b.over.length<=1048576) (s1:w.readB.length+w.b.inp.ready.length<=4611686018427387904) (s2:w.readA.length+w.a.inp.ready.length<=4611686018427387904):aP 11 [.ag (w.cs 0)] (w.hp false) (.sc (.bo (c5 w))) (w.hp false):=by
 refine qE Tryz.func11 Tryz.ntmps11 Tryz.results11 fun E hE=>?_
 refine qK (au w.a a0 a1 a2 a3 a4 a5 a6) (qI 0 7) ?_
 refine qB (fun g0=>?_) fun g0=>?_
 ·skip
  refine qK (au w.b b0 b1 b2 b3 b4 b5 b6) (qI 7 7) ?_
  refine qB (fun g1=>?_) fun g1=>?_
  ·skip
   refine qK (E0 w.a w.b a2 b2) (qI 0 14) ?_
   refine qB (fun g2=>?_) fun g2=>?_
   ·skip
    refine qK (E0 w.b w.a b2 a2) (qI 7 7++qI 0 7) ?_
    refine qB (fun g3=>?_) fun g3=>?_
    ·skip
     refine qK (Fn w s1 s2) (qI 0 21) ?_
     refine qB (fun g4=>?_) fun g4=>?_
     ·skip
      refine qK (u8 w.a a2) (qI 0 7) ?_
      refine qB (fun g5=>?_) fun g5=>?_
      ·skip
       refine qK (u8 w.b b2) (qI 7 7) ?_
       refine qB (fun g6=>?_) fun g6=>?_
       ·skip
        refine qK (GL w a1 b0 b5 b1 a0 a5) (qI 0 21) ?_
        refine qJ (qI 0 21) ?_
        simp [c5,g0,g1,g2,g3,g4,g5,g6]
       refine qJ (qI 0 21) ?_
       simp [c5,g6]
      refine qJ (qI 0 21) ?_
      simp [c5,g5]
     refine qJ (qI 0 21) ?_
     simp [c5,g4]
    refine qJ (qI 0 21) ?_
    simp [c5,g3]
   refine qJ (qI 0 21) ?_
   simp [c5,g2]
  refine qJ (qI 0 21) ?_
  simp [c5,g1]
 refine qJ (qI 0 21) ?_
 simp [c5,g0]
structure Same4 (e e':EndD):Prop where
 subs:e'.subs=e.subs
 far:e'.far=e.far
 inp:e'.inp=e.inp
 out:e'.out=e.out
theorem Same4.refl (e:EndD):Same4 e e:=⟨rfl,rfl,rfl,rfl⟩
theorem Core.safe {w:WorldD} (C:Core w):c5 w=true:=by
 rw [c5,p5.2 C.oka,p5.2 C.okb,C.pairedA,C.pairedB,C.streams,C.roadsA,C.roadsB,C.far_];rfl
structure Life (w:WorldD) (k:Nat):Prop where
 g:GoodW w k
 i:Inv w
 n:AnsW w
theorem Life.step {w:WorldD} {a:ActD} {k:Nat} (h:Life w k) (ha:a.text.length<=1048576):Life (iP w a).1 (k+1):=⟨B5 h.g ha,Hq h.i h.g.a.p h.g.b.p,B_ h.n⟩
theorem HV {l:List ActD} {w:WorldD} {cs:List Int} {k:Nat} (h:Life w k) (hl:∀ a∈l,a.text.length<=1048576):Life (gw l w cs).1 (k+l.length)/\(gw l w cs).2.length=cs.length+l.length:=
 sH (Q:=Life) (P:=fun a=>a.text.length<=1048576) (fun w k a h ha=>h.step ha) h hl
end
section
open Go
end
end Go.Proofs.YtjghbknhneffjaaGreat
