/- Lemmas of this claim. -/
import Derived.Test.YteknmpdmhiomgaaGreatZFnCalmF
import Derived.Test.YteknmpdmhiomgaaGreatZFnCalmG
set_option maxHeartbeats 16000000
set_option maxRecDepth 100000
set_option linter.unusedVariables false
set_option linter.unusedSimpArgs false
namespace Go.Proofs.YteknmpdmhiomgaaGreat
open _root_.Go.Proofs.Tryz
open _root_.List renaming length_nil->RP,all_eq_true->RQ,mem_range'_1->RR,map_set->RT,drop_eq_nil_of_le->RU,mem_reverse->RV,length_append->RW,nil_append->RX,length_map->RZ,mem_cons->R0,length_singleton->R1,append_nil->R2,contains_cons->R3,getD_eq_getElem?_getD->R4,filterMap_eq_nil_iff->R5,getElem?_eq_getElem->R6,getElem_mem->R7,contains_iff_mem->R9,mem_append_right->R_,mem_cons_of_mem->Sa,mem_cons_self->Sb,append_assoc->Sd,flatMap_nil->Sf,length_cons->Sg,all_nil->Sl
open _root_.Bool renaming and_eq_true->RS,eq_false_or_eq_true->R8,false_and->Si,true_and->Sj,false_or->Sk
open _root_.Nat renaming zero_le->RY,le_refl->Se,le_of_not_lt->Sh,blt_eq->Sm,ble_eq->Sn
section
open Go.RowKit
def pols:List PolicyD:=[⟨1,0⟩,⟨2,1⟩,⟨2,2⟩,⟨2,3⟩,⟨2,4⟩,⟨3,0⟩]
theorem wC (b:List UInt8) (c:CurD) (hc:c.ok b):∃ (p:PolicyD) (c':CurD),c'.ok b/\p∈pols/\aP 27 [.sc (.pt 1 0 0)] (c.hp b) (.ag p.cs) (c'.hp b):=by
 have h3:=au b c hc 3
 have o3:=CurD.below_ok hc 3
 have b3:=c.below_lt b (n:=3) zO
 generalize c.below b 3=r3 at h3 o3 b3
 obtain⟨v,c1⟩:=r3
 dsimp only at h3 o3 b3
 have hv:v=0\/v=1\/v=2:=zO
 rcases hv with rfl|rfl|rfl
 ·refine⟨⟨1,0⟩,c1,o3,by decide,?_⟩
  refine qE func27 ntmps27 results27 fun E hE=>?_
  refine qK (h3) (qI 0 2) ?_
  exact qF (qI 0 2)
 ·have h4:=au b c1 o3 4
  have o4:=CurD.below_ok o3 4
  have b4:=c1.below_lt b (n:=4) zO
  generalize c1.below b 4=r4 at h4 o4 b4
  obtain⟨u,c2⟩:=r4
  dsimp only at h4 o4 b4
  refine⟨⟨2,1+u⟩,c2,o4,?_,?_⟩
  ·have hu:u=0\/u=1\/u=2\/u=3:=zO
   rcases hu with rfl|rfl|rfl|rfl<;>decide
  refine qE func27 ntmps27 results27 fun E hE=>?_
  refine qK (h3) (qI 0 2) ?_
  refine qK (h4) (qI 0 2) ?_
  exact qF (qI 0 2)
 refine⟨⟨3,0⟩,c1,o3,by decide,?_⟩
 refine qE func27 ntmps27 results27 fun E hE=>?_
 refine qK (h3) (qI 0 2) ?_
 exact qF (qI 0 2)
theorem I3 {z:Int} (h0:0<=z) (h:z < 256):gf (UInt8.ofNat z.toNat)=[.int .u8 z]:=by
 rw [Dq (z:=z) (n:=z.toNat) zO zO]
def tL (b:List UInt8):Nat->CurD->List UInt8×CurD
 |0,c=>([],c)
 |n+1,c=>(UInt8.ofNat (c.bv b).toNat::(tL b n (c.bn b)).1,(tL b n (c.bn b)).2)
theorem DK (b:List UInt8):∀ (n:Nat) (c:CurD),(tL b n c).1.length=n
 |0,_=>rfl
 |n+1,c=>by simp [tL,DK b n]
theorem HL {b:List UInt8}:∀ {n:Nat} {c:CurD},c.ok b->(tL b n c).2.ok b
 |0,_,h=>h
 |n+1,c,h=>HL (n:=n) (CurD.bn_ok h)
theorem BT (b:List UInt8) (c:CurD) (hc:c.ok b) (n:Nat) (hn:n<=5000):aP 56 [.sc (.pt 1 0 0),.sc (.int .i64 (n:Int))] (c.hp b) (.sc (.st (tL b n c).1)) ((tL b n c).2.hp b):=by
 obtain⟨T,hT⟩:∃ T,T=tL b n c:=⟨_,rfl⟩
 rw [<-hT]
 refine qE func56 ntmps56 results56 fun E hE=>?_
 refine gI 2 hE (fun s (y:List UInt8×CurD)=>s.at (qU [7,14]) [(6,.sc (.int .i64 (y.1.length:Nat))),(5,.sc (.sl 2 0 y.1.length))] (y.2.hp b++[some ⟨y.1.map gf,1,5,true,true⟩])) (fun (y:List UInt8×CurD)=>y.1.length<=n/\y.2.ok b/\(y.1++(tL b (n - y.1.length) y.2).1,(tL b (n - y.1.length) y.2).2)=T) (fun (y:List UInt8×CurD)=>n - y.1.length) ([],c) (qI 0 3) (⟨RY _,hc,hT.symm⟩) fun y hy N hN=>?_
 obtain⟨acc,c1⟩:=y
 obtain⟨h1,h2,h3⟩:=hy
 dsimp only at h1 h2 h3
 refine qR ?_
 refine qB (fun h=>?_) fun h=>?_
 ·have hb:=c1.bv_le b
  have hB:=fW b c1 h2
  have o2:=CurD.bn_ok h2
  rw [show n - acc.length=(n - (acc.length+1))+1 from by omega,tL] at h3
  have hbc:=I3 (z:=c1.bv b) hb.1 zO
  generalize c1.bv b=v at hb hB h3 hbc
  generalize c1.bn b=c2 at hB o2 h3
  refine qK (hB) (qI 0 2) ?_
  refine⟨qC,hN _ (acc++[UInt8.ofNat v.toNat],c2) (qI 0 2++qI 4 1) (by (try dsimp only);exact⟨by simp;omega,o2,by rw [RW,R1,Sd];exact h3⟩) zS (aO zF zF ?_)⟩
  try simp (disch:=omega) only [go_sem,seval,w8 hb]
  simp [hbc]
 rw [show n - acc.length=0 from by omega] at h3
 simp only [tL,R2] at h3
 subst h3
 exact qF (qI 0 2)
def CurD.pickS (c:CurD) (b:List UInt8) (l:List (List UInt8)):List UInt8:=l.getD (c.below b l.length).1.toNat []
theorem CurD.pickS_mem (c:CurD) (b:List UInt8) {l:List (List UInt8)} (h:0 < l.length):c.pickS b l∈l:=by
 have hb:=c.below_lt b (n:=(l.length:Int)) zO
 rw [CurD.pickS,R4,R6 zO]
 exact R7 _
theorem rU (b:List UInt8) (c:CurD) (hc:c.ok b) (l:List (List UInt8)) (h0:0 < l.length) (hl:l.length<=1000):aP 74 [.sc (.pt 1 0 0),.sc (.sl 2 0 l.length)] (c.hp b++[some ⟨l.map KO,1,9,false,true⟩]) (.sc (.st (c.pickS b l))) (((c.below b l.length).2.hp b)++[some ⟨l.map KO,1,9,false,true⟩]):=by
 have hb:=c.below_lt b (n:=(l.length:Int)) zO
 have hp:c.pickS b l=l.getD (c.below b l.length).1.toNat []:=rfl
 have hk:=au b c hc l.length
 rw [hp]
 generalize c.below b l.length=r at*
 obtain⟨v,c1⟩:=r
 dsimp only at hb hk⊢
 obtain⟨k,rfl⟩:=Int.eq_ofNat_of_zero_le hb.1
 have hlt:k < l.length:=zO
 rw [Int.toNat_natCast,R4,R6 hlt,Option.getD_some]
 refine qE func74 ntmps74 results74 fun E hE=>?_
 refine qK (hk) (qI 0 2) ?_
 try simp (disch:=omega) only [go_sem,seval,KP hlt]
 exact qF (qI 0 3)
theorem DL (b:List UInt8) (c:CurD) (hc:c.ok b):∃ (x:TagD) (c':CurD),c'.ok b/\x.wf/\aP 73 [.sc (.pt 1 0 0)] (c.hp b) (.ag x.cs) (c'.hp b):=by
 have h1:=au b c hc 4
 have o1:=CurD.below_ok hc 4
 have b1:=c.below_lt b (n:=4) zO
 generalize c.below b 4=r1 at h1 o1 b1
 obtain⟨v1,c1⟩:=r1
 dsimp only at h1 o1 b1
 have h2:=au b c1 o1 3
 have o2:=CurD.below_ok o1 3
 have b2:=c1.below_lt b (n:=3) zO
 generalize c1.below b 3=r2 at h2 o2 b2
 obtain⟨v2,c2⟩:=r2
 dsimp only at h2 o2 b2
 have h3:=au b c2 o2 3
 have o3:=CurD.below_ok o2 3
 have b3:=c2.below_lt b (n:=3) zO
 generalize c2.below b 3=r3 at h3 o3 b3
 obtain⟨v3,c3⟩:=r3
 dsimp only at h3 o3 b3
 have h4:=au b c3 o3 4
 have o4:=CurD.below_ok o3 4
 have b4:=c3.below_lt b (n:=4) zO
 generalize c3.below b 4=r4 at h4 o4 b4
 obtain⟨v4,c4⟩:=r4
 dsimp only at h4 o4 b4
 have h5:=au b c4 o4 4
 have o5:=CurD.below_ok o4 4
 have b5:=c4.below_lt b (n:=4) zO
 generalize c4.below b 4=r5 at h5 o5 b5
 obtain⟨v5,c5⟩:=r5
 dsimp only at h5 o5 b5
 refine⟨⟨v1,1+v2,1+v3,v4,v5⟩,c5,o5,by simp only [TagD.wf,ck];omega,?_⟩
 refine qE func73 ntmps73 results73 fun E hE=>?_
 refine qK (h1) (qI 0 2) ?_
 refine qK (h2) (qI 0 2) ?_
 refine qK (h3) (qI 0 2) ?_
 refine qK (h4) (qI 0 2) ?_
 refine qK (h5) (qI 0 2) ?_
 exact qF (qI 0 2)
theorem wV (b:List UInt8) (c:CurD) (hc:c.ok b):∃ (x:LetterD) (c':CurD),c'.ok b/\x.wf/\aP 58 [.sc (.pt 1 0 0)] (c.hp b) (.ag x.cs) (c'.hp b):=by
 have h1:=au b c hc 13
 have o1:=CurD.below_ok hc 13
 have b1:=c.below_lt b (n:=13) zO
 generalize c.below b 13=r1 at h1 o1 b1
 obtain⟨v1,c1⟩:=r1
 dsimp only at h1 o1 b1
 have h2:=dK b c1 o1 [11,12,21,22,31] zD zD
 have o2:=CurD.below_ok o1 (b:=b) 5
 have m2:=c1.pick_mem b (l:=[11,12,21,22,31]) zD
 have w2:=(by decide:∀ x∈([11,12,21,22,31]:List Int),11<=x/\x<=31) _ m2
 rw [show (([11,12,21,22,31]:List Int).length:Int)=5 from rfl] at h2
 generalize c1.pick b [11,12,21,22,31]=v2 at h2 w2
 clear m2
 generalize c1.below b 5=r2 at h2 o2
 obtain⟨u2,c2⟩:=r2
 dsimp only at h2 o2
 have h3:=dK b c2 o2 [11,12,21,22,31] zD zD
 have o3:=CurD.below_ok o2 (b:=b) 5
 have m3:=c2.pick_mem b (l:=[11,12,21,22,31]) zD
 have w3:=(by decide:∀ x∈([11,12,21,22,31]:List Int),11<=x/\x<=31) _ m3
 rw [show (([11,12,21,22,31]:List Int).length:Int)=5 from rfl] at h3
 generalize c2.pick b [11,12,21,22,31]=v3 at h3 w3
 clear m3
 generalize c2.below b 5=r3 at h3 o3
 obtain⟨u3,c3⟩:=r3
 dsimp only at h3 o3
 have h4:=au b c3 o3 3
 have o4:=CurD.below_ok o3 3
 have b4:=c3.below_lt b (n:=3) zO
 generalize c3.below b 3=r4 at h4 o4 b4
 obtain⟨v4,c4⟩:=r4
 dsimp only at h4 o4 b4
 have h5:=au b c4 o4 3
 have o5:=CurD.below_ok o4 3
 have b5:=c4.below_lt b (n:=3) zO
 generalize c4.below b 3=r5 at h5 o5 b5
 obtain⟨v5,c5⟩:=r5
 dsimp only at h5 o5 b5
 have h6:=dK b c5 o5 [101,102,7] zD zD
 have o6:=CurD.below_ok o5 (b:=b) 3
 have m6:=c5.pick_mem b (l:=[101,102,7]) zD
 have w6:=(by decide:∀ x∈([101,102,7]:List Int),7<=x/\x<=102) _ m6
 rw [show (([101,102,7]:List Int).length:Int)=3 from rfl] at h6
 generalize c5.pick b [101,102,7]=v6 at h6 w6
 clear m6
 generalize c5.below b 3=r6 at h6 o6
 obtain⟨u6,c6⟩:=r6
 dsimp only at h6 o6
 have h7:=au b c6 o6 9
 have o7:=CurD.below_ok o6 9
 have b7:=c6.below_lt b (n:=9) zO
 generalize c6.below b 9=r7 at h7 o7 b7
 obtain⟨v7,c7⟩:=r7
 dsimp only at h7 o7 b7
 have h8:=au b c7 o7 9
 have o8:=CurD.below_ok o7 9
 have b8:=c7.below_lt b (n:=9) zO
 generalize c7.below b 9=r8 at h8 o8 b8
 obtain⟨v8,c8⟩:=r8
 dsimp only at h8 o8 b8
 have h9:=au b c8 o8 9
 have o9:=CurD.below_ok o8 9
 have b9:=c8.below_lt b (n:=9) zO
 generalize c8.below b 9=r9 at h9 o9 b9
 obtain⟨v9,c9⟩:=r9
 dsimp only at h9 o9 b9
 have h10:=au b c9 o9 4
 have o10:=CurD.below_ok o9 4
 have b10:=c9.below_lt b (n:=4) zO
 generalize c9.below b 4=r10 at h10 o10 b10
 obtain⟨v10,c10⟩:=r10
 dsimp only at h10 o10 b10
 have h11:=dK b c10 o10 [11,12,13,21,22,23,31] zD zD
 have o11:=CurD.below_ok o10 (b:=b) 7
 have m11:=c10.pick_mem b (l:=[11,12,13,21,22,23,31]) zD
 have w11:=(by decide:∀ x∈([11,12,13,21,22,23,31]:List Int),11<=x/\x<=31) _ m11
 rw [show (([11,12,13,21,22,23,31]:List Int).length:Int)=7 from rfl] at h11
 generalize c10.pick b [11,12,13,21,22,23,31]=v11 at h11 w11
 clear m11
 generalize c10.below b 7=r11 at h11 o11
 obtain⟨u11,c11⟩:=r11
 dsimp only at h11 o11
 have h12:=au b c11 o11 30
 have o12:=CurD.below_ok o11 30
 have b12:=c11.below_lt b (n:=30) zO
 generalize c11.below b 30=r12 at h12 o12 b12
 obtain⟨v12,c12⟩:=r12
 dsimp only at h12 o12 b12
 have h13:=md b c12 o12 3
 have o13:=CurD.below_ok o12 3
 have b13:=c12.below_lt b (n:=3) zO
 generalize c12.below b 3=r13 at h13 o13 b13
 obtain⟨v13,c13⟩:=r13
 dsimp only at h13 o13 b13
 generalize hq13:(v13 == 0)=q13 at h13
 rcases R8 q13 with e13|e13<;>rw [e13] at h13
 ·obtain⟨t,c14,o14,w14,h14⟩:=DL b c13 o13
  have w14:=w14
  obtain⟨t1,t2,t3,t4,t5⟩:=t
  by_cases e11:1+v1=11
  ·have h15:=rU b c14 o14 [[97],[101,118,105,108],[122,122],[]] zD zD
   have o15:=CurD.below_ok o14 (b:=b) 4
   have m15:=c14.pickS_mem b (l:=[[97],[101,118,105,108],[122,122],[]]) zD
   have w15:=(by decide:∀ x∈([[97],[101,118,105,108],[122,122],[]]:List (List UInt8)),x.length<=20) _ m15
   rw [show (([[97],[101,118,105,108],[122,122],[]]:List (List UInt8)).length:Int)=4 from rfl] at h15
   generalize c14.pickS b [[97],[101,118,105,108],[122,122],[]]=v15 at h15 w15
   clear m15
   generalize c14.below b 4=r15 at h15 o15
   obtain⟨u15,c15⟩:=r15
   dsimp only at h15 o15
   refine⟨⟨1+v1,v2,v3,v4,v5,v6,v7,v8,v9,⟨t1,t2,t3,t4,t5⟩,v10,v11,false,v12,v15⟩,c15,o15,by simp only [LetterD.wf,ck,maxLen,TagD.wf,RP] at*;omega,?_⟩
   refine qE func58 ntmps58 results58 fun E hE=>?_
   refine qK (h1) (qI 0 2) ?_
   refine qK (h2) (qI 0 2++qI 3 1) ?_
   refine qK (h3) (qI 0 2++qI 4 1) ?_
   refine qK (h4) (qI 0 2) ?_
   refine qK (h5) (qI 0 2) ?_
   refine qK (h6) (qI 0 2++qI 5 1) ?_
   refine qK (h7) (qI 0 2) ?_
   refine qK (h8) (qI 0 2) ?_
   refine qK (h9) (qI 0 2) ?_
   refine qK (h10) (qI 0 2) ?_
   refine qK (h11) (qI 0 2++qI 6 1) ?_
   refine qK (h12) (qI 0 2) ?_
   refine qK (h13) (qI 0 2) ?_
   refine qK (h14) (qI 0 2) ?_
   refine qK (h15) (qI 0 2++qI 8 1) ?_
   exact qF (qI 0 2)
  refine⟨⟨1+v1,v2,v3,v4,v5,v6,v7,v8,v9,⟨t1,t2,t3,t4,t5⟩,v10,v11,false,v12,[]⟩,c14,o14,by simp only [LetterD.wf,ck,maxLen,TagD.wf,RP] at*;omega,?_⟩
  refine qE func58 ntmps58 results58 fun E hE=>?_
  refine qK (h1) (qI 0 2) ?_
  refine qK (h2) (qI 0 2++qI 3 1) ?_
  refine qK (h3) (qI 0 2++qI 4 1) ?_
  refine qK (h4) (qI 0 2) ?_
  refine qK (h5) (qI 0 2) ?_
  refine qK (h6) (qI 0 2++qI 5 1) ?_
  refine qK (h7) (qI 0 2) ?_
  refine qK (h8) (qI 0 2) ?_
  refine qK (h9) (qI 0 2) ?_
  refine qK (h10) (qI 0 2) ?_
  refine qK (h11) (qI 0 2++qI 6 1) ?_
  refine qK (h12) (qI 0 2) ?_
  refine qK (h13) (qI 0 2) ?_
  refine qK (h14) (qI 0 2) ?_
  exact qF (qI 0 2)
 by_cases e11:1+v1=11
 ·have h14:=rU b c13 o13 [[97],[101,118,105,108],[122,122],[]] zD zD
  have o14:=CurD.below_ok o13 (b:=b) 4
  have m14:=c13.pickS_mem b (l:=[[97],[101,118,105,108],[122,122],[]]) zD
  have w14:=(by decide:∀ x∈([[97],[101,118,105,108],[122,122],[]]:List (List UInt8)),x.length<=20) _ m14
  rw [show (([[97],[101,118,105,108],[122,122],[]]:List (List UInt8)).length:Int)=4 from rfl] at h14
  generalize c13.pickS b [[97],[101,118,105,108],[122,122],[]]=v14 at h14 w14
  clear m14
  generalize c13.below b 4=r14 at h14 o14
  obtain⟨u14,c14⟩:=r14
  dsimp only at h14 o14
  refine⟨⟨1+v1,v2,v3,v4,v5,v6,v7,v8,v9,⟨0,0,0,0,0⟩,v10,v11,false,v12,v14⟩,c14,o14,by simp only [LetterD.wf,ck,maxLen,TagD.wf,RP] at*;omega,?_⟩
  refine qE func58 ntmps58 results58 fun E hE=>?_
  refine qK (h1) (qI 0 2) ?_
  refine qK (h2) (qI 0 2++qI 3 1) ?_
  refine qK (h3) (qI 0 2++qI 4 1) ?_
  refine qK (h4) (qI 0 2) ?_
  refine qK (h5) (qI 0 2) ?_
  refine qK (h6) (qI 0 2++qI 5 1) ?_
  refine qK (h7) (qI 0 2) ?_
  refine qK (h8) (qI 0 2) ?_
  refine qK (h9) (qI 0 2) ?_
  refine qK (h10) (qI 0 2) ?_
  refine qK (h11) (qI 0 2++qI 6 1) ?_
  refine qK (h12) (qI 0 2) ?_
  refine qK (h13) (qI 0 2) ?_
  refine qK (h14) (qI 0 2++qI 8 1) ?_
  exact qF (qI 0 2)
 refine⟨⟨1+v1,v2,v3,v4,v5,v6,v7,v8,v9,⟨0,0,0,0,0⟩,v10,v11,false,v12,[]⟩,c13,o13,by simp only [LetterD.wf,ck,maxLen,TagD.wf,RP] at*;omega,?_⟩
 refine qE func58 ntmps58 results58 fun E hE=>?_
 refine qK (h1) (qI 0 2) ?_
 refine qK (h2) (qI 0 2++qI 3 1) ?_
 refine qK (h3) (qI 0 2++qI 4 1) ?_
 refine qK (h4) (qI 0 2) ?_
 refine qK (h5) (qI 0 2) ?_
 refine qK (h6) (qI 0 2++qI 5 1) ?_
 refine qK (h7) (qI 0 2) ?_
 refine qK (h8) (qI 0 2) ?_
 refine qK (h9) (qI 0 2) ?_
 refine qK (h10) (qI 0 2) ?_
 refine qK (h11) (qI 0 2++qI 6 1) ?_
 refine qK (h12) (qI 0 2) ?_
 refine qK (h13) (qI 0 2) ?_
 exact qF (qI 0 2)
theorem DM (b:List UInt8) (c:CurD) (hc:c.ok b):∃ (x:ActD) (c':CurD),c'.ok b/\(x.wf/\x.text.length<=200/\cN x=true)/\aP 29 [.sc (.pt 1 0 0)] (c.hp b) (.ag x.cs) (c'.hp b):=by
 have h1:=au b c hc 2
 have o1:=CurD.below_ok hc 2
 have b1:=c.below_lt b (n:=2) zO
 generalize c.below b 2=r1 at h1 o1 b1
 obtain⟨v1,c1⟩:=r1
 dsimp only at h1 o1 b1
 have h2:=au b c1 o1 4
 have o2:=CurD.below_ok o1 4
 have b2:=c1.below_lt b (n:=4) zO
 generalize c1.below b 4=r2 at h2 o2 b2
 obtain⟨v2,c2⟩:=r2
 dsimp only at h2 o2 b2
 have h3:=dK b c2 o2 [1,1,2,3,3,4,4,5,5,6,7,8,8,8,8,8,8,8,8,8,8,9,10,11,12] zD zD
 have o3:=CurD.below_ok o2 (b:=b) 25
 have m3:=c2.pick_mem b (l:=[1,1,2,3,3,4,4,5,5,6,7,8,8,8,8,8,8,8,8,8,8,9,10,11,12]) zD
 have w3:=(by decide:∀ x∈([1,1,2,3,3,4,4,5,5,6,7,8,8,8,8,8,8,8,8,8,8,9,10,11,12]:List Int),1<=x/\x<=12) _ m3
 rw [show (([1,1,2,3,3,4,4,5,5,6,7,8,8,8,8,8,8,8,8,8,8,9,10,11,12]:List Int).length:Int)=25 from rfl] at h3
 generalize c2.pick b [1,1,2,3,3,4,4,5,5,6,7,8,8,8,8,8,8,8,8,8,8,9,10,11,12]=v3 at h3 w3
 clear m3
 generalize c2.below b 25=r3 at h3 o3
 obtain⟨u3,c3⟩:=r3
 dsimp only at h3 o3
 have hv:v3=1\/v3=2\/v3=5\/v3=6\/v3=8\/v3=11\/v3=12\/(v3≠1/\v3≠2/\v3≠5/\v3≠6/\v3≠8/\v3≠11/\v3≠12):=zO
 rcases hv with rfl|rfl|rfl|rfl|rfl|rfl|rfl|hv
 ·have h4:=au b c3 o3 40
  have o4:=CurD.below_ok o3 40
  have b4:=c3.below_lt b (n:=40) zO
  generalize c3.below b 40=r4 at h4 o4 b4
  obtain⟨v4,c4⟩:=r4
  dsimp only at h4 o4 b4
  obtain⟨n,hn⟩:=Int.eq_ofNat_of_zero_le (show 0<=1+v4 by omega)
  have hT:=BT b c4 o4 n zO
  have oT:=HL (n:=n) o4
  have lT:=DK b n c4
  generalize tL b n c4=T at hT oT lT
  obtain⟨T,cT⟩:=T
  dsimp only at hT oT lT
  refine⟨⟨1,1+v1,v2,0,T,bw,af⟩,cT,oT,⟨by simp only [ActD.wf,LetterD.wf,ck,maxLen,af,bw,RP] at*;omega,by simp only [RP];omega,by simp only [cN,cv,gp,RS,decide_eq_true_eq,RP];omega⟩,?_⟩
  refine qE func29 ntmps29 results29 fun E hE=>?_
  refine qK (h1) (qI 0 2) ?_
  refine qK (h2) (qI 0 2) ?_
  refine qK (h3) (qI 0 2++qI 4 1) ?_
  refine qK (h4) (qI 0 2) ?_
  try simp (disch:=omega) only [go_sem,seval,hn]
  refine qK (hT) (qI 0 2) ?_
  refine qP (qI 0 2) ?_
  first|exact⟨⟩|simp [bw,af]
 ·have h4:=au b c3 o3 50
  have o4:=CurD.below_ok o3 50
  have b4:=c3.below_lt b (n:=50) zO
  generalize c3.below b 50=r4 at h4 o4 b4
  obtain⟨v4,c4⟩:=r4
  dsimp only at h4 o4 b4
  refine⟨⟨2,1+v1,v2,v4,[],bw,af⟩,c4,o4,⟨by simp only [ActD.wf,LetterD.wf,ck,maxLen,af,bw,RP] at*;omega,by simp only [RP];omega,by simp only [cN,cv,gp,RS,decide_eq_true_eq,RP];omega⟩,?_⟩
  refine qE func29 ntmps29 results29 fun E hE=>?_
  refine qK (h1) (qI 0 2) ?_
  refine qK (h2) (qI 0 2) ?_
  refine qK (h3) (qI 0 2++qI 4 1) ?_
  refine qK (h4) (qI 0 2) ?_
  refine qP (qI 0 2) ?_
  first|exact⟨⟩|simp [bw,af]
 ·have h4:=au b c3 o3 3
  have o4:=CurD.below_ok o3 3
  have b4:=c3.below_lt b (n:=3) zO
  generalize c3.below b 3=r4 at h4 o4 b4
  obtain⟨v4,c4⟩:=r4
  dsimp only at h4 o4 b4
  have h5:=au b c4 o4 3
  have o5:=CurD.below_ok o4 3
  have b5:=c4.below_lt b (n:=3) zO
  generalize c4.below b 3=r5 at h5 o5 b5
  obtain⟨v5,c5⟩:=r5
  dsimp only at h5 o5 b5
  have h6:=md b c5 o5 4
  have o6:=CurD.below_ok o5 4
  have b6:=c5.below_lt b (n:=4) zO
  generalize c5.below b 4=r6 at h6 o6 b6
  obtain⟨v6,c6⟩:=r6
  dsimp only at h6 o6 b6
  generalize hq6:(v6 == 0)=q6 at h6
  refine⟨⟨5,1+v1,v2,0,[],⟨1+v4,10*(1+v1)+2+v5,q6,false⟩,af⟩,c6,o6,⟨by simp only [ActD.wf,LetterD.wf,ck,maxLen,af,bw,RP] at*;omega,by simp only [RP];omega,by simp only [cN,cv,gp,RS,decide_eq_true_eq,RP];omega⟩,?_⟩
  refine qE func29 ntmps29 results29 fun E hE=>?_
  refine qK (h1) (qI 0 2) ?_
  refine qK (h2) (qI 0 2) ?_
  refine qK (h3) (qI 0 2++qI 4 1) ?_
  refine Ac [(1,4),(4,8),(4,11)] [[0,3,7,10,1,2,4,5,6,8,9,11,12,13,14],[0,3,7,10,1,2,8,4,5,6,9,11,12,13,14],[0,3,7,10,1,2,8,11,4,5,6,9,12,13,14],[0,3,7,10,4,5,6,1,2,8,9,11,12,13,14]] (by kernel_rfl) (qC) (by kernel_rfl) ?_
  simp only [bf]
  refine⟨eF 400 ?_,eF 400 ?_,eF 400 ?_,eF 400 ?_⟩
  all_goals simp (disch:=omega) only [go_sem,seval]
  all_goals
   refine lE (qC) (h4) (qI 0 2) qM zF (eF 400 ?_)
   simp (disch:=omega) only [go_sem,seval]
   refine lE (qC) (h5) (qI 0 2) qM zF (eF 400 ?_)
   simp (disch:=omega) only [go_sem,seval]
   refine lE (qC) (h6) (qI 0 2) qM zF (eF 400 ?_)
   simp (disch:=omega) only [go_sem,seval]
   refine qG ?_
   refine qP (qI 0 2) ?_
   first|exact⟨⟩|simp [bw,af]
 ·have h4:=au b c3 o3 4
  have o4:=CurD.below_ok o3 4
  have b4:=c3.below_lt b (n:=4) zO
  generalize c3.below b 4=r4 at h4 o4 b4
  obtain⟨v4,c4⟩:=r4
  dsimp only at h4 o4 b4
  refine⟨⟨6,1+v1,v4,0,[],bw,af⟩,c4,o4,⟨by simp only [ActD.wf,LetterD.wf,ck,maxLen,af,bw,RP] at*;omega,by simp only [RP];omega,by simp only [cN,cv,gp,RS,decide_eq_true_eq,RP];omega⟩,?_⟩
  refine qE func29 ntmps29 results29 fun E hE=>?_
  refine qK (h1) (qI 0 2) ?_
  refine qK (h2) (qI 0 2) ?_
  refine qK (h3) (qI 0 2++qI 4 1) ?_
  refine qK (h4) (qI 0 2) ?_
  refine qP (qI 0 2) ?_
  first|exact⟨⟩|simp [bw,af]
 ·have h4:=dK b c3 o3 [0,0,0,1,2] zD zD
  have o4:=CurD.below_ok o3 (b:=b) 5
  have m4:=c3.pick_mem b (l:=[0,0,0,1,2]) zD
  have w4:=(by decide:∀ x∈([0,0,0,1,2]:List Int),0<=x/\x<=2) _ m4
  rw [show (([0,0,0,1,2]:List Int).length:Int)=5 from rfl] at h4
  generalize c3.pick b [0,0,0,1,2]=v4 at h4 w4
  clear m4
  generalize c3.below b 5=r4 at h4 o4
  obtain⟨u4,c4⟩:=r4
  dsimp only at h4 o4
  refine⟨⟨8,1+v1,v4,0,[],bw,af⟩,c4,o4,⟨by simp only [ActD.wf,LetterD.wf,ck,maxLen,af,bw,RP] at*;omega,by simp only [RP];omega,by simp only [cN,cv,gp,RS,decide_eq_true_eq,RP];omega⟩,?_⟩
  refine qE func29 ntmps29 results29 fun E hE=>?_
  refine qK (h1) (qI 0 2) ?_
  refine qK (h2) (qI 0 2) ?_
  refine qK (h3) (qI 0 2++qI 4 1) ?_
  refine qK (h4) (qI 0 2++qI 5 1) ?_
  refine qP (qI 0 2) ?_
  first|exact⟨⟩|simp [bw,af]
 ·obtain⟨x,c4,o4,w4,h4⟩:=wV b c3 o3
  have h5:=md b c4 o4 2
  have o5:=CurD.below_ok o4 2
  have b5:=c4.below_lt b (n:=2) zO
  generalize c4.below b 2=r5 at h5 o5 b5
  obtain⟨v5,c5⟩:=r5
  dsimp only at h5 o5 b5
  generalize hq5:(v5 == 0)=q5 at h5
  rcases R8 q5 with e5|e5<;>rw [e5] at h5
  ·have h6:=dK b c5 o5 [4,6,11,8,13] zD zD
   have o6:=CurD.below_ok o5 (b:=b) 5
   have m6:=c5.pick_mem b (l:=[4,6,11,8,13]) zD
   have w6:=(by decide:∀ x∈([4,6,11,8,13]:List Int),4<=x/\x<=13) _ m6
   rw [show (([4,6,11,8,13]:List Int).length:Int)=5 from rfl] at h6
   generalize c5.pick b [4,6,11,8,13]=v6 at h6 w6
   clear m6
   generalize c5.below b 5=r6 at h6 o6
   obtain⟨u6,c6⟩:=r6
   dsimp only at h6 o6
   refine⟨⟨11,1+v1,v2,0,[],bw,{ x with kind:=v6,token:=102,tag:=⟨0,0,0,0,0⟩}⟩,c6,o6,⟨by simp only [ActD.wf,LetterD.wf,ck,maxLen,af,bw,RP] at*;omega,by simp only [RP];omega,by simp only [cN,cv,gp,RS,decide_eq_true_eq,RP];omega⟩,?_⟩
   refine qE func29 ntmps29 results29 fun E hE=>?_
   refine qK (h1) (qI 0 2) ?_
   refine qK (h2) (qI 0 2) ?_
   refine qK (h3) (qI 0 2++qI 4 1) ?_
   refine qK (h4) (qI 0 2) ?_
   refine qK (h5) (qI 0 2) ?_
   refine qK (h6) (qI 0 2++qI 5 1) ?_
   refine qP (qI 0 2) ?_
   first|exact⟨⟩|simp [bw,af]
  refine⟨⟨11,1+v1,v2,0,[],bw,{ x with tag:=⟨0,0,0,0,0⟩}⟩,c5,o5,⟨by simp only [ActD.wf,LetterD.wf,ck,maxLen,af,bw,RP] at*;omega,by simp only [RP];omega,by simp only [cN,cv,gp,RS,decide_eq_true_eq,RP];omega⟩,?_⟩
  refine qE func29 ntmps29 results29 fun E hE=>?_
  refine qK (h1) (qI 0 2) ?_
  refine qK (h2) (qI 0 2) ?_
  refine qK (h3) (qI 0 2++qI 4 1) ?_
  refine qK (h4) (qI 0 2) ?_
  refine qK (h5) (qI 0 2) ?_
  refine qP (qI 0 2) ?_
  first|exact⟨⟩|simp [bw,af]
 ·have h4:=au b c3 o3 30
  have o4:=CurD.below_ok o3 30
  have b4:=c3.below_lt b (n:=30) zO
  generalize c3.below b 30=r4 at h4 o4 b4
  obtain⟨v4,c4⟩:=r4
  dsimp only at h4 o4 b4
  refine⟨⟨12,1+v1,v4,0,[],bw,af⟩,c4,o4,⟨by simp only [ActD.wf,LetterD.wf,ck,maxLen,af,bw,RP] at*;omega,by simp only [RP];omega,by simp only [cN,cv,gp,RS,decide_eq_true_eq,RP];omega⟩,?_⟩
  refine qE func29 ntmps29 results29 fun E hE=>?_
  refine qK (h1) (qI 0 2) ?_
  refine qK (h2) (qI 0 2) ?_
  refine qK (h3) (qI 0 2++qI 4 1) ?_
  refine qK (h4) (qI 0 2) ?_
  refine qP (qI 0 2) ?_
  first|exact⟨⟩|simp [bw,af]
 obtain⟨n1,n2,n5,n6,n8,n11,n12⟩:=hv
 refine⟨⟨v3,1+v1,v2,0,[],bw,af⟩,c3,o3,⟨by simp only [ActD.wf,LetterD.wf,ck,maxLen,af,bw,RP] at*;omega,by simp only [RP];omega,by simp only [cN,cv,gp,RS,decide_eq_true_eq,RP];omega⟩,?_⟩
 refine qE func29 ntmps29 results29 fun E hE=>?_
 refine qK (h1) (qI 0 2) ?_
 refine qK (h2) (qI 0 2) ?_
 refine qK (h3) (qI 0 2++qI 4 1) ?_
 refine qP (qI 0 2) ?_
 first|exact⟨⟩|simp [bw,af]
theorem AO (e:EndD) (hs:Small e) (ht:e.out.text.length<=1048576):aP 87 [.ag (e.cs 0)] (e.hp false) (.tu [.ag ((tick e).1.cs 7),.sc (.sl 14 0 (tick e).2.length)])
  (e.hp false++((tick e).1.hp true++[some ⟨(tick e).2.map LetterD.cs,19,73,true,true⟩])):=by
 have hC:=(qH (aV e))
 have hK:=(qH (cd e))
 have hsb:=hs.subs
 have hso:=hs.own
 have hsh:=hs.halfs
 have hF:=D0 e.bucket
 have hY:=Ca e.halfs (e.now+1) hs.halfs
 have hAn:=Jl e.out
 have hyl:=q8 e.halfs (e.now+1)
 have hat:(dQ e.out).text.length<=1048576:=by rw [dQ];split<;>exact ht
 have hf:=Lx (e:=e)
 have hto:=F8 (e:=e)
 have hti:=F9 (e:=e)
 have htu:= @Ly e
 have hok:yQ e=(ai e && decide (e.now < 1000000000) && e.subs.all fun s=>decide (s.tries < 1000000000)):=rfl
 have hsm0:Small { e with now:=e.now+1,bucket:=cW e.bucket,halfs:=ci e.halfs (e.now+1),out:=dQ e.out }:=⟨hs.own,hs.far,hs.subs,by dsimp only;omega,hs.list,hs.done,hs.over⟩
 have hsm1:Small { e with now:=e.now+1,bucket:=cW e.bucket,halfs:=ci e.halfs (e.now+1),out:=dQ e.out,subs:=e.subs.map tickS }:=⟨hs.own,hs.far,by dsimp only;rw [RZ];exact hs.subs,by dsimp only;omega,hs.list,hs.done,hs.over⟩
 have hfl:(e.subs.flatMap (tickL e)).length<=e.subs.length:=sF (oV e) _
 obtain⟨R,hR⟩:∃ R,R=tick e:=⟨_,rfl⟩
 rw [<-hR] at hf hto hti
 simp only [<-hR] at htu
 rw [<-hR]
 clear hR
 refine jG func87 ntmps87 results87 fun E hE=>?_
 refine qK (hC) (qI 0 7) ?_
 refine qK (hK) (qI 0 7) ?_
 refine qB (fun h1=>?_) fun h1=>?_
 ·have hnow:=j0 h1
  by_cases h2:e.now < 1000000000
  ·refine qX ?_
   refine tx 7 hE (fun s (i:Nat)=>s.at (qU [0,1,3,1,6,1,10,12,25,8]) [(24,.sc (.int .i64 (i:Nat)))] (s.hp)) (fun (i:Nat)=>i<=e.subs.length/\(e.subs.drop i).all (fun s=>decide (s.tries < 1000000000))=e.subs.all (fun s=>decide (s.tries < 1000000000))) (fun (i:Nat)=>e.subs.length - i) 0 (qI 0 17) (⟨RY _,rfl⟩) fun i hi N hN=>?_
   obtain⟨g1,g2⟩:=hi
   refine qR ?_
   refine qB (fun b=>?_) fun b=>?_
   ·rw [AJ b] at g2
    have hg:=aQ (enc:=SubD.cs) b
    have hsub:=oW h1 b
    try simp (disch:=omega) only [go_sem,seval,hg]
    refine qB (fun b2=>?_) fun b2=>?_
    ·rw [decide_eq_false zO,Si] at g2
     rw [hf (by rw [hok,<-g2];simp)]
     refine qX ?_
     exact dH (qI 0 7++qI 9 7++qO 1)
    rw [decide_eq_true zO,Sj] at g2
    refine qX ?_
    exact M7 hN (i+1) (qI 0 17) (by (try dsimp only);exact⟨zO,g2⟩)
   rw [RU zO,Sl] at g2
   have hall:=g2.symm
   have hall2:∀ (k:Nat) (hk:k < e.subs.length),e.subs[k].tries < 1000000000:=fun k hk=>by
    have:=RQ.1 hall e.subs[k] (R7 hk)
    simpa using this
   have htk:yQ e=true:=by rw [hok,h1,decide_eq_true h2,hall];rfl
   refine qX ?_
   refine qK (hF) [] ?_
   refine qK (hY) (qI 3 1) ?_
   refine qK (hAn) [] ?_
   by_cases h2s:e.state=2
   ·have hR:=hto htk h2s
    rw [tick0] at hR
    obtain⟨LL,hLL⟩:∃ L,L=e.subs.flatMap (tickL e):=⟨_,rfl⟩
    rw [<-hLL] at hR hfl
    refine qX ?_
    refine iv 7 hE (fun s (y:Nat×List LetterD)=>s.at (qU [0,1,6,1,8,52,62,71]) [(61,.sc (.int .i64 (y.1:Nat))),(7,.sc (.sl 18 0 y.2.length))] ((s.hp.set 11 (some ⟨(dC tickS e.subs y.1).map SubD.cs,10,58,true,true⟩))++[some ⟨y.2.map LetterD.cs,19,73,true,true⟩])) (fun (y:Nat×List LetterD)=>y.1<=e.subs.length/\y.2.length<=y.1/\LL=y.2++(e.subs.drop y.1).flatMap (tickL e)) (fun (y:Nat×List LetterD)=>e.subs.length - y.1) (0,[]) (qI 0 18++qO 1) (qC) (⟨RY _,RY _,hLL⟩) (ac zF zF ?_) fun y hy N2 hN2=>?_
    ·try simp (disch:=omega) only [go_sem,seval]
     try rw [xF]
    obtain⟨k,l⟩:=y
    obtain⟨f1,f2,f3⟩:=hy
    dsimp only at f1 f2 f3
    refine ae 400 ?_
    have hgl:(dC tickS e.subs k).length=e.subs.length:=AF
    refine qX ?_
    refine qB (fun b=>?_) fun b=>?_
    ·have hg:=AG (f:=tickS) b
     have hsub:=oW h1 b
     have htr:=hall2 k b
     rw [xG b] at f3
     have hset:=AH (f:=tickS) b
     have hsame:=xE (f:=tickS) b
     obtain⟨s0,hs0⟩:∃ s,s=e.subs[k]:=⟨_,rfl⟩
     rw [<-hs0] at hsub htr f3 hset hsame
     have hg':∀ p:k < (dC tickS e.subs k).length,(dC tickS e.subs k)[k]'p=s0:=fun p=>by rw [hg p,hs0]
     clear hg
     by_cases c1:s0.state=1\/s0.state=2
     ·by_cases c2:s0.state=2/\9<=s0.tries+1
      ·have tS:=xJ c2.1 c2.2
       rw [xK c2.1 c2.2,RX] at f3
       obtain⟨c3,c4⟩:=c2
       try simp (disch:=omega) only [go_sem,seval,hg',c3]
       refine⟨qC,hN2 _ (k+1,l) (qI 0 19) (by (try dsimp only);exact⟨zO,zO,f3⟩) (by (try dsimp only);omega) (ac zF zF ?_)⟩
       refine qX ?_
       rw [<-hset,tS,RT]
       try simp [SubD.cs,c3]
      have tS:=Eb c1 c2
      by_cases c5:(s0.tries+1).tmod 3=0
      ·rcases c1 with c1|c1
       ·rw [AK c1 c5] at f3
        have hL:aP 127 [.ag (EndD.cs e 0),.ag (SubD.cs { s0 with tries:=s0.tries+1,state:=1 })] (EndD.hp e false) (.ag (dB e s0).cs) (EndD.hp e false):=m0 _ _ (show cv e.side 1 2=true from mG h1)
        try simp (disch:=omega) only [go_sem,seval,hg',c1,c5]
        refine qD [0,1,2,3,4,5,6,7,8] ?_
        refine aE (hL) (qI 0 7) ?_
        refine qG ?_
        refine⟨qC,hN2 _ (k+1,l++[dB e s0]) (qI 0 18++qI 20 1) (by (try dsimp only);exact⟨zO,by simp;omega,by simpa using f3⟩) (by (try dsimp only);omega) (ac zF zF ?_)⟩
        refine qX ?_
        rw [<-hset,tS,RT]
        try simp [SubD.cs,c1,LetterD.cs]
       rw [uX c1 zO c5] at f3
       have hL:aP 128 [.ag (EndD.cs e 0),.ag (SubD.cs { s0 with tries:=s0.tries+1,state:=2 })] (EndD.hp e false) (.ag (bq e s0).cs) (EndD.hp e false):=mW _ _
       try simp (disch:=omega) only [go_sem,seval,hg',c1,c5]
       refine qD [0,1,2,3,4,5,6,7,8] ?_
       refine aE (hL) (qI 0 7) ?_
       refine qG ?_
       refine⟨qC,hN2 _ (k+1,l++[bq e s0]) (qI 0 18++qI 20 1) (by (try dsimp only);exact⟨zO,by simp;omega,by simpa using f3⟩) (by (try dsimp only);omega) (ac zF zF ?_)⟩
       refine qX ?_
       rw [<-hset,tS,RT]
       try simp [SubD.cs,c1,LetterD.cs]
      rw [xL c1 c2 c5,RX] at f3
      have c6:0 < (s0.tries+1).tmod 3:=by have:=Int.tmod_nonneg 3 (show 0<=s0.tries+1 by omega);omega
      rcases c1 with c1|c1
      ·try simp (disch:=omega) only [go_sem,seval,hg',c1]
       refine⟨qC,hN2 _ (k+1,l) (qI 0 19) (by (try dsimp only);exact⟨zO,zO,f3⟩) (by (try dsimp only);omega) (ac zF zF ?_)⟩
       refine qX ?_
       rw [<-hset,tS,RT]
       try simp [SubD.cs,c1]
      try simp (disch:=omega) only [go_sem,seval,hg',c1]
      refine⟨qC,hN2 _ (k+1,l) (qI 0 19) (by (try dsimp only);exact⟨zO,zO,f3⟩) (by (try dsimp only);omega) (ac zF zF ?_)⟩
      refine qX ?_
      rw [<-hset,tS,RT]
      try simp [SubD.cs,c1]
     rw [xI c1,RX] at f3
     try simp (disch:=omega) only [go_sem,seval,hg']
     refine⟨qC,hN2 _ (k+1,l) (qI 0 19) (by (try dsimp only);exact⟨zO,zO,f3⟩) (by (try dsimp only);omega) (ac zF zF ?_)⟩
     refine qX ?_
     rw [hsame (xH c1)]
    have hkl:k=e.subs.length:=zO
    subst hkl
    rw [RU (Se _),Sf,R2] at f3
    subst f3
    rw [AI]
    have hTE:=sG { e with now:=e.now+1,bucket:=cW e.bucket,halfs:=ci e.halfs (e.now+1),out:=dQ e.out,subs:=e.subs.map tickS } LL hsm1 hat zO
    rw [<-hR] at hTE
    have hml:(e.subs.map tickS).length=e.subs.length:=RZ ..
    refine qX ?_
    refine qK (hTE) (qI 9 3++qI 17 1++qI 13 3++qI 18 1) ?_
    exact dH (qI 0 7++qI 19 8)
   have hR:=hti htk h2s
   rw [tick0] at hR
   have hTE:=sG { e with now:=e.now+1,bucket:=cW e.bucket,halfs:=ci e.halfs (e.now+1),out:=dQ e.out } [] hsm0 hat zP
   rw [<-hR] at hTE
   refine qX ?_
   refine qK (hTE) (qI 9 3++qI 17 1++qI 13 3++qO 1) ?_
   exact dH (qI 0 7++qI 18 8)
  rw [hf (by rw [hok];simp [h2])]
  refine qX ?_
  exact dH (qI 0 7++qI 9 7++qO 1)
 rw [hf (by rw [hok];simp [h1])]
 refine qX ?_
 exact dH (qI 0 7++qI 9 7++qO 1)
theorem AP (e:EndD) (hs:Small e) (ht:e.out.text.length<=1048576):aP 108 [.ag (e.cs 0)] (e.hp false) (.tu [.ag ((tick e).1.cs 7),.sc (.sl 14 0 (tick e).2.length)])
  (e.hp false++((tick e).1.hp true++[some ⟨(tick e).2.map LetterD.cs,19,73,true,true⟩])):=by
 have hC:=(qH (aA e))
 have hK:=(qH (a_ e))
 have hsb:=hs.subs
 have hso:=hs.own
 have hsh:=hs.halfs
 have hF:=D1 e.bucket
 have hY:=Cb e.halfs (e.now+1) hs.halfs
 have hAn:=Jm e.out
 have hyl:=q8 e.halfs (e.now+1)
 have hat:(dQ e.out).text.length<=1048576:=by rw [dQ];split<;>exact ht
 have hf:=Lx (e:=e)
 have hto:=F8 (e:=e)
 have hti:=F9 (e:=e)
 have htu:= @Ly e
 have hok:yQ e=(ai e && decide (e.now < 1000000000) && e.subs.all fun s=>decide (s.tries < 1000000000)):=rfl
 have hsm0:Small { e with now:=e.now+1,bucket:=cW e.bucket,halfs:=ci e.halfs (e.now+1),out:=dQ e.out }:=⟨hs.own,hs.far,hs.subs,by dsimp only;omega,hs.list,hs.done,hs.over⟩
 have hsm1:Small { e with now:=e.now+1,bucket:=cW e.bucket,halfs:=ci e.halfs (e.now+1),out:=dQ e.out,subs:=e.subs.map tickS }:=⟨hs.own,hs.far,by dsimp only;rw [RZ];exact hs.subs,by dsimp only;omega,hs.list,hs.done,hs.over⟩
 have hfl:(e.subs.flatMap (tickL e)).length<=e.subs.length:=sF (oV e) _
 obtain⟨R,hR⟩:∃ R,R=tick e:=⟨_,rfl⟩
 rw [<-hR] at hf hto hti
 simp only [<-hR] at htu
 rw [<-hR]
 clear hR
 refine jG func108 ntmps108 results108 fun E hE=>?_
 refine qK (hC) (qI 0 7) ?_
 refine qK (hK) (qI 0 7) ?_
 refine qB (fun h1=>?_) fun h1=>?_
 ·have hnow:=j0 h1
  by_cases h2:e.now < 1000000000
  ·refine qX ?_
   refine tx 7 hE (fun s (i:Nat)=>s.at (qU [0,1,3,1,11,29]) [(6,.sc (.int .i64 (i:Nat)))] (s.hp)) (fun (i:Nat)=>i<=e.subs.length/\(e.subs.drop i).all (fun s=>decide (s.tries < 1000000000))=e.subs.all (fun s=>decide (s.tries < 1000000000))) (fun (i:Nat)=>e.subs.length - i) 0 (qI 0 18) (⟨RY _,rfl⟩) fun i hi N hN=>?_
   obtain⟨g1,g2⟩:=hi
   refine qR ?_
   refine qB (fun b=>?_) fun b=>?_
   ·rw [AJ b] at g2
    have hg:=aQ (enc:=SubD.cs) b
    have hsub:=oW h1 b
    try simp (disch:=omega) only [go_sem,seval,hg]
    refine qB (fun b2=>?_) fun b2=>?_
    ·rw [decide_eq_false zO,Si] at g2
     rw [hf (by rw [hok,<-g2];simp)]
     refine qX ?_
     exact dH (qI 0 7++qI 9 7++qI 17 1)
    rw [decide_eq_true zO,Sj] at g2
    refine qX ?_
    exact M7 hN (i+1) (qI 0 18) (by (try dsimp only);exact⟨zO,g2⟩)
   rw [RU zO,Sl] at g2
   have hall:=g2.symm
   have hall2:∀ (k:Nat) (hk:k < e.subs.length),e.subs[k].tries < 1000000000:=fun k hk=>by
    have:=RQ.1 hall e.subs[k] (R7 hk)
    simpa using this
   have htk:yQ e=true:=by rw [hok,h1,decide_eq_true h2,hall];rfl
   refine qX ?_
   refine qK (hF) [] ?_
   refine qK (hY) (qI 3 1) ?_
   refine qK (hAn) [] ?_
   obtain⟨tk,htk1⟩:∃ f:SubD->SubD,f=fun s=>if e.state=2 then tickS s else s:=⟨_,rfl⟩
   obtain⟨tl,htl1⟩:∃ f:SubD->List LetterD,f=fun s=>if e.state=2 then tickL e s else []:=⟨_,rfl⟩
   have hR:=htu htk htk1 htl1
   have hsmu:Small { e with now:=e.now+1,bucket:=cW e.bucket,halfs:=ci e.halfs (e.now+1),out:=dQ e.out,subs:=e.subs.map tk }:=⟨hs.own,hs.far,by dsimp only;rw [RZ];exact hs.subs,by dsimp only;omega,hs.list,hs.done,hs.over⟩
   have hflu:(e.subs.flatMap tl).length<=e.subs.length:=sF (fun s=>by rw [htl1];dsimp only;split;exact oV e s;simp) _
   obtain⟨LL,hLL⟩:∃ L,L=e.subs.flatMap tl:=⟨_,rfl⟩
   rw [<-hLL] at hR hflu
   clear htu hto hti hf
   refine qX ?_
   refine iv 7 hE (fun s (y:Nat×List LetterD)=>s.at (qU [0,1,6,1,8,1,11,120]) [(7,.sc (.int .i64 (y.1:Nat))),(5,.sc (.sl 17 0 y.2.length))] ((s.hp.set 11 (some ⟨(dC tk e.subs y.1).map SubD.cs,10,58,true,true⟩)).set 17 (some ⟨y.2.map LetterD.cs,19,73,true,true⟩))) (fun (y:Nat×List LetterD)=>y.1<=e.subs.length/\y.2.length<=y.1/\LL=y.2++(e.subs.drop y.1).flatMap tl) (fun (y:Nat×List LetterD)=>e.subs.length - y.1) (0,[]) (qI 0 19) (qC) (⟨RY _,RY _,hLL⟩) (ac zF zF ?_) fun y hy N2 hN2=>?_
   ·try simp (disch:=omega) only [go_sem,seval]
    try rw [xF]
   obtain⟨k,l⟩:=y
   obtain⟨f1,f2,f3⟩:=hy
   dsimp only at f1 f2 f3
   refine ae 400 ?_
   have hgl:(dC tk e.subs k).length=e.subs.length:=AF
   refine qX ?_
   by_cases hopen:k < e.subs.length/\e.state=2
   ·obtain⟨b,h2s⟩:=hopen
    have etk:tk=tickS:=by rw [htk1];funext s;exact if_pos h2s
    have etl:tl=tickL e:=by rw [htl1];funext s;exact if_pos h2s
    clear htk1 htl1
    subst etk etl
    refine qX ?_
    have hg:=AG (f:=tickS) b
    have hsub:=oW h1 b
    have htr:=hall2 k b
    rw [xG b] at f3
    have hset:=AH (f:=tickS) b
    have hsame:=xE (f:=tickS) b
    obtain⟨s0,hs0⟩:∃ s,s=e.subs[k]:=⟨_,rfl⟩
    rw [<-hs0] at hsub htr f3 hset hsame
    have hg':∀ p:k < (dC tickS e.subs k).length,(dC tickS e.subs k)[k]'p=s0:=fun p=>by rw [hg p,hs0]
    clear hg
    by_cases c1:s0.state=1\/s0.state=2
    ·by_cases c2:s0.state=2/\9<=s0.tries+1
     ·have tS:=xJ c2.1 c2.2
      rw [xK c2.1 c2.2,RX] at f3
      obtain⟨c3,c4⟩:=c2
      try simp (disch:=omega) only [go_sem,seval,hg',c3]
      refine⟨qC,hN2 _ (k+1,l) (qI 0 19) (by (try dsimp only);exact⟨zO,zO,f3⟩) (by (try dsimp only);omega) (ac zF zF ?_)⟩
      refine qX ?_
      rw [<-hset,tS,RT]
      try simp [SubD.cs,c3]
     have tS:=Eb c1 c2
     by_cases c5:(s0.tries+1).tmod 3=0
     ·rcases c1 with c1|c1
      ·rw [AK c1 c5] at f3
       have hL:aP 155 [.ag (EndD.cs { e with now:=e.now+1,bucket:=cW e.bucket,halfs:=ci e.halfs (e.now+1),out:=dQ e.out,subs:=(dC tickS e.subs k).set k { s0 with tries:=s0.tries+1,state:=1 } } 0),.ag (SubD.cs { s0 with state:=1 })] (EndD.hp { e with now:=e.now+1,bucket:=cW e.bucket,halfs:=ci e.halfs (e.now+1),out:=dQ e.out,subs:=(dC tickS e.subs k).set k { s0 with tries:=s0.tries+1,state:=1 } } false) (.ag (dB e s0).cs) (EndD.hp { e with now:=e.now+1,bucket:=cW e.bucket,halfs:=ci e.halfs (e.now+1),out:=dQ e.out,subs:=(dC tickS e.subs k).set k { s0 with tries:=s0.tries+1,state:=1 } } false):=sx _ _ (show cv e.side 1 2=true from mG h1)
       try simp (disch:=omega) only [go_sem,seval,hg',c1,c5]
       refine qK (hL) (qI 9 3++qI 18 1++qI 13 3) ?_
       refine⟨qC,hN2 _ (k+1,l++[dB e s0]) (qI 0 17++qI 21 1++qI 18 1) (by (try dsimp only);exact⟨zO,by simp;omega,by simpa using f3⟩) (by (try dsimp only);omega) (ac zF zF ?_)⟩
       refine qX ?_
       rw [<-hset,tS,RT]
       try simp [SubD.cs,c1,LetterD.cs]
      rw [uX c1 zO c5] at f3
      have hL:aP 156 [.ag (EndD.cs { e with now:=e.now+1,bucket:=cW e.bucket,halfs:=ci e.halfs (e.now+1),out:=dQ e.out,subs:=(dC tickS e.subs k).set k { s0 with tries:=s0.tries+1,state:=2 } } 0),.ag (SubD.cs { s0 with state:=2 })] (EndD.hp { e with now:=e.now+1,bucket:=cW e.bucket,halfs:=ci e.halfs (e.now+1),out:=dQ e.out,subs:=(dC tickS e.subs k).set k { s0 with tries:=s0.tries+1,state:=2 } } false) (.ag (bq e s0).cs) (EndD.hp { e with now:=e.now+1,bucket:=cW e.bucket,halfs:=ci e.halfs (e.now+1),out:=dQ e.out,subs:=(dC tickS e.subs k).set k { s0 with tries:=s0.tries+1,state:=2 } } false):=nG _ _
      try simp (disch:=omega) only [go_sem,seval,hg',c1,c5]
      refine qK (hL) (qI 9 3++qI 18 1++qI 13 3) ?_
      refine⟨qC,hN2 _ (k+1,l++[bq e s0]) (qI 0 17++qI 21 1++qI 18 1) (by (try dsimp only);exact⟨zO,by simp;omega,by simpa using f3⟩) (by (try dsimp only);omega) (ac zF zF ?_)⟩
      refine qX ?_
      rw [<-hset,tS,RT]
      try simp [SubD.cs,c1,LetterD.cs]
     rw [xL c1 c2 c5,RX] at f3
     have c6:0 < (s0.tries+1).tmod 3:=by have:=Int.tmod_nonneg 3 (show 0<=s0.tries+1 by omega);omega
     rcases c1 with c1|c1
     ·try simp (disch:=omega) only [go_sem,seval,hg',c1]
      refine⟨qC,hN2 _ (k+1,l) (qI 0 19) (by (try dsimp only);exact⟨zO,zO,f3⟩) (by (try dsimp only);omega) (ac zF zF ?_)⟩
      refine qX ?_
      rw [<-hset,tS,RT]
      try simp [SubD.cs,c1]
     try simp (disch:=omega) only [go_sem,seval,hg',c1]
     refine⟨qC,hN2 _ (k+1,l) (qI 0 19) (by (try dsimp only);exact⟨zO,zO,f3⟩) (by (try dsimp only);omega) (ac zF zF ?_)⟩
     refine qX ?_
     rw [<-hset,tS,RT]
     try simp [SubD.cs,c1]
    rw [xI c1,RX] at f3
    try simp (disch:=omega) only [go_sem,seval,hg']
    refine⟨qC,hN2 _ (k+1,l) (qI 0 19) (by (try dsimp only);exact⟨zO,zO,f3⟩) (by (try dsimp only);omega) (ac zF zF ?_)⟩
    refine qX ?_
    rw [hsame (xH c1)]
   have hst:dC tk e.subs k=e.subs.map tk:=by
    by_cases h2s:e.state=2
    ·rw [show k=e.subs.length by omega,AI]
    have hid:∀ s,tk s=s:=fun s=>by rw [htk1];exact if_neg h2s
    have hf2:tk=fun s=>s:=funext hid
    rw [Lz hid,hf2];simp
   have hlf:LL=l:=by
    by_cases h2s:e.state=2
    ·rw [f3,RU zO,Sf,R2]
    have hf2:tl=fun s=>[]:=by rw [htl1];funext s;exact if_neg h2s
    rw [f3,hf2];simp
   rw [hst]
   subst hlf
   by_cases b:k < e.subs.length
   all_goals
    have hT:=xD { e with now:=e.now+1,bucket:=cW e.bucket,halfs:=ci e.halfs (e.now+1),out:=dQ e.out,subs:=e.subs.map tk } hsmu
    have hTl:=mJ { e with now:=e.now+1,bucket:=cW e.bucket,halfs:=ci e.halfs (e.now+1),out:=dQ e.out,subs:=e.subs.map tk }
    have hml:(e.subs.map tk).length=e.subs.length:=RZ ..
    rw [bu] at hR
    obtain⟨EX,hEX⟩:∃ E,E={ e with now:=e.now+1,bucket:=cW e.bucket,halfs:=ci e.halfs (e.now+1),out:=dQ e.out,subs:=e.subs.map tk }:=⟨_,rfl⟩
    rw [<-hEX] at hR
    have hsx:Small EX:=by rw [hEX];exact hsmu
    have hatx:EX.out.text.length<=1048576:=by rw [hEX];exact hat
    obtain⟨TT,hTT⟩:∃ T,T=tellAddrs EX:=⟨_,rfl⟩
    rw [<-hTT] at hR
    rw [<-hEX,<-hTT] at hTl
    rw [show tellAddrs { e with now:=e.now+1,bucket:=cW e.bucket,halfs:=ci e.halfs (e.now+1),out:=dQ e.out,subs:=e.subs.map tk }=TT by rw [hTT,hEX]] at hT
    have hxo:EX.own.length<=1048576:=hsx.own
    refine qX ?_
    refine qK (hT) (qI 9 3++qI 18 1++qI 13 3) ?_
    refine iv 7 hE (fun s (y:Nat×EndD×List LetterD)=>s.at (qU [0,2,6,3,10,138]) [(9,.sc (.int .i64 (y.1:Nat))),(5,.sc (.sl 17 0 y.2.2.length))] ((s.hp.take 9)++(y.2.1.hp true++[some ⟨[y.2.1.cs 9],25,38,true,false⟩,some ⟨y.2.2.map LetterD.cs,19,73,true,true⟩]))) (fun (y:Nat×EndD×List LetterD)=>y.1<=3/\Small y.2.1/\y.2.1.out.text.length<=1048576/\y.2.2.length<=2097152+y.1/\R=((pushN (3 - y.1) y.2.1).1,y.2.2++(pushN (3 - y.1) y.2.1).2)) (fun (y:Nat×EndD×List LetterD)=>3 - y.1) (0,EX,LL++TT) (qI 0 12++qI 18 1++qI 13 4++qI 20 1) (qC) (⟨zO,hsx,hatx,by simp only [RW];omega,hR⟩) (ac zF zF ?_) fun y hy N2 hN2=>?_
    ·rw [hEX]
     try simp (disch:=omega) only [go_sem,seval]
     try simp
    obtain⟨n,e1,l⟩:=y
    obtain⟨h1',h2',h3',h4',h5'⟩:=hy
    dsimp only at h1' h2' h3' h4' h5'
    have hP:=Az e1 h2' h3'
    have hp1:=sv e1
    have hps:=mE h2'
    have hpt:(cB e1).1.out.text.length<=1048576:=by rw [oR];exact h3'
    refine qR ?_
    refine qB (fun b3=>?_) fun b3=>?_
    ·rw [qz zO] at h5'
     obtain⟨pr,hpr⟩:∃ p,p=cB e1:=⟨_,rfl⟩
     rw [<-hpr] at hP hp1 hps hpt h5'
     obtain⟨e2,l2⟩:=pr
     dsimp only at hP hp1 hps hpt h5'
     rw [<-Sd] at h5'
     refine qX ?_
     refine qK (hP) (qI 9 7) ?_
     refine KA hN2 (n+1,e2,l++l2) (qI 0 9++qI 19 7++qI 16 1++qI 27 1) (by (try dsimp only);exact⟨zO,hps,hpt,by simp only [RW];omega,h5'⟩) ?_
     first|exact⟨⟩|simp
    have e3:n=3:=zO
    subst e3
    simp only [Nat.sub_self,pushN,R2] at h5'
    subst h5'
    refine qX ?_
    exact dH (qI 0 7++qI 9 7++qI 17 1)
  rw [hf (by rw [hok];simp [h2])]
  refine qX ?_
  exact dH (qI 0 7++qI 9 7++qI 17 1)
 rw [hf (by rw [hok];simp [h1])]
 refine qX ?_
 exact dH (qI 0 7++qI 9 7++qI 17 1)
def fB:List ActD->WorldD->List Int->WorldD×List Int
 |[],w,cs=>(w,cs)
 |a::l,w,cs=>fB l (aJ w a).1 (cs++[(aJ w a).2])
theorem Eo {l:List ActD} {k:Nat} {w:WorldD} {cs:List Int} (h:k < l.length):fB (l.drop k) w cs=fB (l.drop (k+1)) (aJ w l[k]).1 (cs++[(aJ w l[k]).2]):=by
 rw [List.drop_eq_getElem_cons h,fB]
theorem Gg {l:List ActD} {k:Nat} {w:WorldD} {cs:List Int} (h:l.length<=k):fB (l.drop k) w cs=(w,cs):=by
 rw [RU h,fB]
theorem va {Q:WorldD->Nat->Prop} {P:ActD->Prop} (hQ:∀ w k a,Q w k->P a->Q (aJ w a).1 (k+1)):∀ {l:List ActD} {w:WorldD} {cs:List Int} {k:Nat},Q w k->(∀ a∈l,P a)->Q (fB l w cs).1 (k+l.length)/\(fB l w cs).2.length=cs.length+l.length
 |[],w,cs,k,h,_=>⟨h,rfl⟩
 |a::l,w,cs,k,h,hl=>by
  have h1:=va hQ (l:=l) (cs:=cs++[(aJ w a).2]) (hQ w k a h (hl a zP)) (fun x hx=>hl x (by simp [hx]))
  rw [fB,Sg]
  refine⟨by rw [show k+(l.length+1)=k+1+l.length by omega];exact h1.1,by rw [h1.2,RW,R1];omega⟩
def safeWorld (w:WorldD):Bool:=ai w.a && ai w.b && mh w.a w.b && mh w.b w.a && jY w && jo w.a && jo w.b && Ad w
theorem yl (w:WorldD) (a0:w.a.own.length<=1048576) (a1:w.a.far.length<=1048576) (a2:w.a.subs.length<=1048576) (a3:w.a.halfs.length<=1048576) (a4:w.a.inp.list.length<=1048576) (a5:w.a.done.length<=1048576) (a6:w.a.over.length<=1048576) (b0:w.b.own.length<=1048576) (b1:w.b.far.length<=1048576) (b2:w.b.subs.length<=1048576) (b3:w.b.halfs.length<=1048576) (b4:w.b.inp.list.length<=1048576) (b5:w.b.done.length<=1048576) (b6:w.b.over.length<=1048576) (s1:w.readB.length+w.b.inp.ready.length<=4611686018427387904) (s2:w.readA.length+w.a.inp.ready.length<=4611686018427387904):aP 8 [.ag (w.cs 0)] (w.hp false) (.sc (.bo (safeWorld w))) (w.hp false):=by
 refine qE func8 ntmps8 results8 fun E hE=>?_
 refine qK (a_ w.a a0 a1 a2 a3 a4 a5 a6) (qI 0 7) ?_
 refine qB (fun g0=>?_) fun g0=>?_
 ·skip
  refine qK (a_ w.b b0 b1 b2 b3 b4 b5 b6) (qI 7 7) ?_
  refine qB (fun g1=>?_) fun g1=>?_
  ·skip
   refine qK (uJ w.a w.b a2 b2) (qI 0 14) ?_
   refine qB (fun g2=>?_) fun g2=>?_
   ·skip
    refine qK (uJ w.b w.a b2 a2) (qI 7 7++qI 0 7) ?_
    refine qB (fun g3=>?_) fun g3=>?_
    ·skip
     refine qK (yk w s1 s2) (qI 0 21) ?_
     refine qB (fun g4=>?_) fun g4=>?_
     ·skip
      refine qK (pE w.a a2) (qI 0 7) ?_
      refine qB (fun g5=>?_) fun g5=>?_
      ·skip
       refine qK (pE w.b b2) (qI 7 7) ?_
       refine qB (fun g6=>?_) fun g6=>?_
       ·skip
        refine qK (GF w a1 b0 b5 b1 a0 a5) (qI 0 21) ?_
        refine qJ (qI 0 21) ?_
        simp [safeWorld,g0,g1,g2,g3,g4,g5,g6]
       refine qJ (qI 0 21) ?_
       simp [safeWorld,g6]
      refine qJ (qI 0 21) ?_
      simp [safeWorld,g5]
     refine qJ (qI 0 21) ?_
     simp [safeWorld,g4]
    refine qJ (qI 0 21) ?_
    simp [safeWorld,g3]
   refine qJ (qI 0 21) ?_
   simp [safeWorld,g2]
  refine qJ (qI 0 21) ?_
  simp [safeWorld,g1]
 refine qJ (qI 0 21) ?_
 simp [safeWorld,g0]
end
section
open Go
theorem uk:∃ rest,behindMainWord (wordsSigns Tryz.prog.initOrder.toList)=zE Fb::rest:=
 G7 (a:=[104,97,114,110,101,115,115]) (b:=[97,97,98,55,57,50,57,54,101,50,53,48,102,52,50,100,53,49,102,55,102,57,53,57,53,99,101,53,57,102,99,57,49,97,57,100,100,55,57,99,102,50,48,99,50,48,52,51,50,99,53,49,97,50,98,56,98,99,53,51,101,53,50,56]) (c:=Fb) (r:=[97,116,32,108,111,111,112,46,101,120,97,109,112,108,101,47,103,48,48,57,54,55,47,108,97,119,115,46,70,110,67,97,108,109]) (by kernel_rfl) (by kernel_rfl) (by kernel_rfl) (by kernel_rfl) (by kernel_rfl)
theorem Pj:Tryz.prog.laysLater=false:=by kernel_rfl
theorem Pk:Tryz.prog.bearsReflect=false:=by kernel_rfl
theorem Pm:Tryz.prog.doorRows=[]:=by kernel_rfl
theorem Og:Tryz.prog.mayEnter=true:=uk.elim fun _ h=>Oe h Pj Pk Pm
theorem J2:Tryz.prog.liftsFinal=false:=uk.elim fun _ h=>J1 h
theorem MC:Tryz.prog.make=some .cut:=uk.elim fun _ h=>MB h
end
section
open Go
def s9 (P:Program) (g:Nat):List Nat:=(P.funcs[g]?).elim [] P.leadsTo
def s_ (P:Program) (seen:List Nat):Nat->Nat
 |0=>0
 |n+1=>s_ P seen n+(if seen.contains n then 0 else (s9 P n).length+1)
theorem yO {P:Program} {seen:List Nat} {f:Nat}:∀ {n:Nat},n<=f->s_ P (f::seen) n=s_ P seen n
 |0,_=>rfl
 |n+1,h=>by
  rw [s_,s_,yO (n:=n) (by omega)]
  have:(f::seen).contains n=seen.contains n:=by
   rw [R3]
   have:(n == f)=false:=by simp;omega
   rw [this,Sk]
  rw [this]
theorem Fc {P:Program} {seen:List Nat} {f:Nat} (hs:seen.contains f=false):∀ {n:Nat},f < n->s_ P (f::seen) n+((s9 P f).length+1)=s_ P seen n
 |0,h=>absurd h (Nat.not_lt_zero _)
 |n+1,h=>by
  rw [s_,s_]
  by_cases hf:f=n
  ·subst hf
   rw [yO (Se _),hs,R3]
   simp
  have:=Fc (P:=P) hs (n:=n) (by omega)
  have e:(f::seen).contains n=seen.contains n:=by
   rw [R3]
   have:(n == f)=false:=by simp;omega
   rw [this,Sk]
  rw [e]
  omega
theorem kF {P:Program}:∀ (n:Nat) (todo seen:List FuncId),todo.length+s_ P seen P.funcs.size<=n->(∀ s∈seen,∀ h∈s9 P s,h∈seen\/h∈todo)->
  (∀ x,x∈todo\/x∈seen->x∈P.closureVia n todo seen)/\∀ x∈P.closureVia n todo seen,∀ h∈s9 P x,h∈P.closureVia n todo seen
 |0,todo,seen,hn,hi=>by
  have:todo=[]:=List.length_eq_zero_iff.1 (by omega)
  subst this
  unfold Program.closureVia
  refine⟨fun x hx=>RV.2 (hx.elim (fun h=>by cases h) id),fun x hx h hh=>?_⟩
  exact RV.2 ((hi x (RV.1 hx) h hh).elim id fun h=>by cases h)
 |n+1,[],seen,hn,hi=>by
  unfold Program.closureVia
  refine⟨fun x hx=>RV.2 (hx.elim (fun h=>by cases h) id),fun x hx h hh=>?_⟩
  exact RV.2 ((hi x (RV.1 hx) h hh).elim id fun h=>by cases h)
 |n+1,f::todo,seen,hn,hi=>by
  unfold Program.closureVia
  simp only [Sg] at hn
  by_cases hf:seen.contains f=true
  ·rw [if_pos hf]
   have hfm:f∈seen:=R9.1 hf
   have ih:=kF n todo seen (by omega) fun s hs h hh=>(hi s hs h hh).elim .inl fun hm=>by
    rcases R0.1 hm with rfl|hm
    ·exact .inl hfm
    exact .inr hm
   refine⟨fun x hx=>ih.1 x ?_,ih.2⟩
   rcases hx with hx|hx
   ·rcases R0.1 hx with rfl|hx
    ·exact .inr hfm
    exact .inl hx
   exact .inr hx
  rw [if_neg hf]
  have hff:seen.contains f=false:=by simpa using hf
  have hlen:((P.funcs[f]?).elim [] P.leadsTo++todo).length+s_ P (f::seen) P.funcs.size<=n:=by
   rw [RW]
   by_cases hsz:f < P.funcs.size
   ·have:=Fc (P:=P) hff hsz
    show (s9 P f).length+todo.length+_<=n
    omega
   rw [yO (Sh hsz)]
   have:P.funcs[f]? =none:=Array.getElem?_eq_none (Sh hsz)
   rw [this]
   simp only [Option.elim,RP]
   omega
  have ih:=kF n _ (f::seen) hlen fun s hs h hh=>by
   rcases R0.1 hs with rfl|hs
   ·exact .inr (List.mem_append_left _ hh)
   rcases hi s hs h hh with hm|hm
   ·exact .inl (Sa _ hm)
   rcases R0.1 hm with rfl|hm
   ·exact .inl (Sb ..)
   exact .inr (R_ _ hm)
  refine⟨fun x hx=>ih.1 x ?_,ih.2⟩
  rcases hx with hx|hx
  ·rcases R0.1 hx with rfl|hx
   ·exact .inr (Sb ..)
   exact .inl (R_ _ hx)
  exact .inr (Sa _ hx)
theorem Fd (P:Program):∀ n,n<=P.funcs.size->s_ P [] n=((P.funcs.toList.take n).map fun g=>(P.leadsTo g).length+1).sum
 |0,_=>by simp [s_]
 |n+1,h=>by
  have hn:n < P.funcs.toList.length:=by
   show n < P.funcs.size
   exact h
  rw [s_,Fd P n (by omega),List.take_succ_eq_append_getElem hn,List.map_append,List.sum_append]
  have e:s9 P n=P.leadsTo P.funcs.toList[n]:=by
   rw [s9,Array.getElem?_eq_getElem (by simpa using hn)]
   simp
  rw [e]
  simp
theorem yP {P:Program} {f:FuncId}:f∈P.closure f/\∀ x∈P.closure f,∀ h∈s9 P x,h∈P.closure f:=by
 have hp:=Fd P P.funcs.size (Se _)
 rw [List.take_of_length_le (by simp)] at hp
 have:=kF (P:=P) (1+(P.funcs.toList.map fun g=>(P.leadsTo g).length+1).sum) [f] [] (by simp only [R1];omega) (fun s hs=>by cases hs)
 exact⟨this.1 f (.inl (List.mem_singleton.2 rfl)),this.2⟩
def yR (P:Program) (lo hi:Nat) (g:Nat):Bool:=
 match P.funcs[g]? with
 |none=>true
 |some fn=>((P.leadsTo fn).all fun h=>Nat.ble lo h && Nat.blt h hi) && (!(fn.ours || fn.body.isNone || fn.name == "runtime.NumGoroutine") && (match fn.body with|some c=>c.globalsNamed.isEmpty|none=>false))
theorem Fe {P:Program} {lo hi:Nat} (h:∀ g,lo<=g/\g < hi->yR P lo hi g=true) (f u:FuncId) (hf:lo<=f/\f < hi) (hu:u∈P.closure f) (hv:((P.funcs[u]?).any fun fn=>match fn.body with|some c=>c.unfollowed|none=>entryCalls fn)=true):
  P.inPlace f=[]/\P.unfollowed f=true/\P.recurses f=true/\P.varsNamed f=[]:=by
 have hin:∀ x∈P.closure f,lo<=x/\x < hi:=Fa (S:=fun x=>lo<=x/\x < hi) (fun a ha b hb=>by
  have hg:=h a ha
  unfold yR at hg
  cases hq:P.funcs[a]? with
  |none=>rw [hq] at hb;simp at hb
  |some fn=>
   rw [hq] at hg hb
   simp only [RS,RQ,Sm,Sn] at hg
   exact hg.1 b hb) hf
 have hun:P.unfollowed f=true:=by
  unfold Program.unfollowed
  rw [List.any_eq_true]
  exact⟨u,hu,hv⟩
 refine⟨?_,hun,by unfold Program.recurses;rw [hun];rfl,?_⟩
 ·unfold Program.inPlace
  rw [R5]
  intro g hgc
  have hg:=h g (hin g hgc)
  unfold yR at hg
  cases hq:P.funcs[g]? with
  |none=>rfl
  |some fn=>
   rw [hq] at hg
   simp only [RS,Bool.not_eq_true'] at hg
   simp only [Option.bind_some]
   rw [hg.2.1]
   rfl
 unfold Program.varsNamed
 have e1:((P.closure f).flatMap fun g=>((P.funcs[g]?).bind (·.body)).elim [] Code.globalsNamed)=[]:=by
  rw [List.flatMap_eq_nil_iff]
  intro g hgc
  have hg:=h g (hin g hgc)
  unfold yR at hg
  cases hq:P.funcs[g]? with
  |none=>rfl
  |some fn=>
   rw [hq] at hg
   simp only [RS] at hg
   simp only [Option.bind_some]
   cases hb:fn.body with
   |none=>rfl
   |some c=>rw [hb] at hg;simp at hg⊢;exact hg.2.2
 have e2:((P.closure f).filterMap fun g=>(P.funcs[g]?).bind fun fn=>if fn.body.isNone then entryReads.lookup fn.name else none)=[]:=by
  rw [R5]
  intro g hgc
  have hg:=h g (hin g hgc)
  unfold yR at hg
  cases hq:P.funcs[g]? with
  |none=>rfl
  |some fn=>
   rw [hq] at hg
   simp only [RS] at hg
   simp only [Option.bind_some]
   cases hb:fn.body with
   |none=>rw [hb] at hg;simp at hg
   |some c=>rfl
 rw [e1,e2]
 rfl
theorem G8 {P:Program} {f:FuncId} {fn:Func} {s:ChangeSpec} {c:OpenClaim} (g:P.inPlace f=[]/\P.unfollowed f=true/\P.recurses f=true/\P.varsNamed f=[]) (c1:c.inPlace=[]) (c2:c.unfollowed=true) (c3:c.recurses=true) (c4:c.named=[])
  (m1:P.mayEnter=true) (m2:P.liftsFinal=false) (m3:P.make=some .cut) (d2:c.lifted=false) (d3:c.make=.cut) (h:Bm P f fn s c=true):joinedFacts P f fn s c=true:=by
 obtain⟨g1,g2,g3,g4⟩:=g
 unfold Bm at h
 unfold joinedFacts
 simp only [RS] at h⊢
 obtain⟨⟨⟨⟨⟨⟨⟨⟨⟨⟨⟨⟨⟨⟨⟨⟨⟨⟨⟨⟨⟨⟨⟨⟨k1,k2⟩,k3⟩,k4⟩,k5⟩,k6⟩,k7⟩,k8⟩,k9⟩,k14⟩,k15⟩,k16⟩,k17⟩,k17b⟩,k18⟩,k19⟩,k20⟩,k21⟩,k22⟩,k23⟩,k23b⟩,k25⟩,k26⟩,k27⟩,k28⟩:=h
 refine⟨⟨⟨⟨⟨⟨⟨⟨⟨⟨⟨⟨⟨⟨⟨⟨⟨⟨⟨⟨⟨⟨⟨⟨⟨⟨⟨⟨⟨⟨⟨k1,k2⟩,k3⟩,k4⟩,k5⟩,k6⟩,k7⟩,k8⟩,k9⟩,?_⟩,?_⟩,?_⟩,?_⟩,k14⟩,k15⟩,k16⟩,k17⟩,k17b⟩,k18⟩,k19⟩,k20⟩,k21⟩,k22⟩,k23⟩,k23b⟩,m1⟩,?_⟩,?_⟩,k25⟩,k26⟩,k27⟩,k28⟩
 ·rw [c1,g1];rfl
 ·rw [c2,g2];rfl
 ·rw [c3,g3];rfl
 ·rw [c4,g4];rfl
 ·rw [d2,m2];rfl
 rw [d3,m3];exact beq_self_eq_true _
end
section
open Go
theorem QY:(List.range' 3 16).all (yR Tryz.prog 3 246)=true:=by kernel_rfl
theorem QZ:(List.range' 19 16).all (yR Tryz.prog 3 246)=true:=by kernel_rfl
theorem Q0:(List.range' 35 16).all (yR Tryz.prog 3 246)=true:=by kernel_rfl
theorem Q1:(List.range' 51 16).all (yR Tryz.prog 3 246)=true:=by kernel_rfl
theorem Q2:(List.range' 67 16).all (yR Tryz.prog 3 246)=true:=by kernel_rfl
theorem Q3:(List.range' 83 16).all (yR Tryz.prog 3 246)=true:=by kernel_rfl
theorem Q4:(List.range' 99 16).all (yR Tryz.prog 3 246)=true:=by kernel_rfl
theorem Q5:(List.range' 115 16).all (yR Tryz.prog 3 246)=true:=by kernel_rfl
theorem Q6:(List.range' 131 16).all (yR Tryz.prog 3 246)=true:=by kernel_rfl
theorem Q7:(List.range' 147 16).all (yR Tryz.prog 3 246)=true:=by kernel_rfl
theorem Pn:(List.range' 163 16).all (yR Tryz.prog 3 246)=true:=by kernel_rfl
theorem Po:(List.range' 179 16).all (yR Tryz.prog 3 246)=true:=by kernel_rfl
theorem Pp:(List.range' 195 16).all (yR Tryz.prog 3 246)=true:=by kernel_rfl
theorem Pq:(List.range' 211 16).all (yR Tryz.prog 3 246)=true:=by kernel_rfl
theorem Ps:(List.range' 227 16).all (yR Tryz.prog 3 246)=true:=by kernel_rfl
theorem Pt:(List.range' 243 3).all (yR Tryz.prog 3 246)=true:=by kernel_rfl
theorem Oh (g:Nat) (h:3<=g/\g < 246):yR Tryz.prog 3 246 g=true:=by
 rcases (by omega:(3<=g/\g < 19)\/(19<=g/\g < 35)\/(35<=g/\g < 51)\/(51<=g/\g < 67)\/(67<=g/\g < 83)\/(83<=g/\g < 99)\/(99<=g/\g < 115)\/(115<=g/\g < 131)\/(131<=g/\g < 147)\/(147<=g/\g < 163)\/(163<=g/\g < 179)\/(179<=g/\g < 195)\/(195<=g/\g < 211)\/(211<=g/\g < 227)\/(227<=g/\g < 243)\/(243<=g/\g < 246)) with h|h|h|h|h|h|h|h|h|h|h|h|h|h|h|h
 ·exact RQ.1 QY g (RR.2 h)
 ·exact RQ.1 QZ g (RR.2 h)
 ·exact RQ.1 Q0 g (RR.2 h)
 ·exact RQ.1 Q1 g (RR.2 h)
 ·exact RQ.1 Q2 g (RR.2 h)
 ·exact RQ.1 Q3 g (RR.2 h)
 ·exact RQ.1 Q4 g (RR.2 h)
 ·exact RQ.1 Q5 g (RR.2 h)
 ·exact RQ.1 Q6 g (RR.2 h)
 ·exact RQ.1 Q7 g (RR.2 h)
 ·exact RQ.1 Pn g (RR.2 h)
 ·exact RQ.1 Po g (RR.2 h)
 ·exact RQ.1 Pp g (RR.2 h)
 ·exact RQ.1 Pq g (RR.2 h)
 ·exact RQ.1 Ps g (RR.2 h)
 exact RQ.1 Pt g (RR.2 h)
theorem G9 (f u:Nat) (h:(Nat.ble 3 f && Nat.blt f 246)=true) (hu:u∈Tryz.prog.closure f) (hv:((Tryz.prog.funcs[u]?).any fun fn=>match fn.body with|some c=>c.unfollowed|none=>entryCalls fn)=true):Tryz.prog.inPlace f=[]/\Tryz.prog.unfollowed f=true/\Tryz.prog.recurses f=true/\Tryz.prog.varsNamed f=[]:=
 Fe Oh f u (by simpa only [RS,Sn,Sm] using h) hu hv
theorem Ix {f x h:Nat} (hx:x∈Tryz.prog.closure f) (hl:(s9 Tryz.prog x).contains h=true):h∈Tryz.prog.closure f:=
 yP.2 x hx h (R9.1 hl)
end
end Go.Proofs.YteknmpdmhiomgaaGreat
